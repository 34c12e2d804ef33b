-- A text by hand (wip/limit/sort).
import Derived.RangeFuncNested
import Derived.RangeFuncBound
import Derived.RangeFuncCalls
import Derived.RangeFuncLeaves
import Derived.RangeFuncBox
import Derived.Shelf.Abstract
import Derived.Shelf.RegionOpen
import Derived.OwnWalkIn
import Derived.TacticsInMore
import Derived.LoopNIn
import Derived.LoopIn
import Derived.Test.YtdgpcjhincgijaaPr0
import Derived.Test.YtdgpcjhincgijaaLs2
import Derived.Test.YtdgpcjhincgijaaLs4
import Derived.Test.YtdgpcjhincgijaaLs5
import Derived.Test.YtdgpcjhincgijaaLs6
namespace Go.Proofs.Ytdgpcjhincgijaa.Pr
open Go.RowKit Go.Shelf Go.Proofs.YtdgpcjhincgijaaW.PrintWords Go.Proofs.YtdgpcjhincgijaaW.PrintLast Go.Proofs.YtdgpcjhincgijaaW.PrintMore
set_option linter.unusedVariables false
set_option linter.unusedSimpArgs false
/-- symMerge merges two sorted rows that stand beside one another, and keeps the order of what is alike. -/
theorem sym_ok (κ : G44 → Int) (Dm : G44 → Prop) (g3 go base len cap : Nat) (ok : Nat → Prop) : ∀ (n a m b : Nat), b - a = n → SymOk κ Dm g3 go base len cap ok a m b := by
  intro n
  induction n using Nat.strongRecOn with
  | ind n ih =>
    intro a m b hn P L R S W0 hR ha hm hb hl1 hr1 hsL hsR hl hDL hDR hC
    have hlen := row_len hR
    simp only [List.length_append] at hlen
    by_cases h1 : L.length = 1
    · obtain ⟨x, rfl⟩ := List.length_eq_one_iff.1 h1
      have h := sym_one κ Dm g3 go base len cap a m b ok P x R S W0 (by have h := hR; simp only [List.append_assoc, List.cons_append, List.nil_append] at h ⊢; exact h) ha (by simpa using hm) hb hsR hl (hDL x (List.mem_singleton.2 rfl)) hDR hC
      exact h
    · by_cases h2 : R.length = 1
      · obtain ⟨x, rfl⟩ := List.length_eq_one_iff.1 h2
        exact sym_last κ Dm g3 go base len cap a m b ok P L x S W0 (by have h := hR; simp only [List.append_assoc, List.cons_append, List.nil_append] at h ⊢; exact h) ha hm (by simpa using hb) (by omega) hsL hl (hDR x (List.mem_singleton.2 rfl)) hDL hC
      · have ham : a < m := by omega
        have hmb : m < b := by omega
        have hgap : a + 4 ≤ b := by omega
        have hble : b ≤ len := by omega
        obtain ⟨sab, hsab⟩ : ∃ s, a + b = s := ⟨_, rfl⟩
        obtain ⟨mid, hmid⟩ : ∃ mid, sab / 2 = mid := ⟨_, rfl⟩
        have hmid2 : mid = (a + b) / 2 := by rw [hsab, hmid]
        obtain ⟨n0, hn0⟩ : ∃ n, mid + m = n := ⟨_, rfl⟩
        have hmidb : mid < b := by omega
        have hamid : a < mid := by omega
        obtain ⟨p, hp⟩ : ∃ p, 1 + p = n0 := ⟨n0 - 1, by omega⟩
        have hp2 : 1 + p = mid + m := by rw [hp, hn0]
        obtain ⟨ll, hll⟩ : ∃ ll, a + ll = m := ⟨L.length, hm.symm⟩
        obtain ⟨lr, hlr⟩ : ∃ lr, m + lr = b := ⟨R.length, hb.symm⟩
        have IH : ∀ a' m' b' : Nat, b' - a' < b - a → SymOk κ Dm g3 go base len cap ok a' m' b' := fun a' m' b' h => ih (b' - a') (by omega) a' m' b' rfl
        have DD := Aside0.mk (show ∀ k, a ≤ k → k < b → Dm ((P ++ L ++ R ++ S).getD k z44) from fun k k1 k2 => sym_dom ha hm hb hDL hDR k1 k2)
        have N1 : a = P.length ∧ a < m ∧ m < b ∧ mid < b ∧ a < mid ∧ b ≤ len ∧ len ≤ 1048576 ∧ mid + m = n0 ∧ 1 + p = n0 ∧ n0 ≤ 4503599627370496 := ⟨ha, ham, hmb, hmidb, hamid, hble, hl, hn0, hp, by omega⟩
        have B1 : sab ≤ 4503599627370496 := by omega
        have B2 : mid ≤ 4503599627370496 := by omega
        have B3 : n0 ≤ 4503599627370496 := by omega
        have B4 : m ≤ 4503599627370496 := by omega
        have B5 : b ≤ 4503599627370496 := by omega
        have B6 : p ≤ 4503599627370496 := by omega
        have B7 : ll ≠ 1 := by omega
        have B8 : lr ≠ 1 := by omega
        have go1 : ∀ s0 r0, (mid < m ∧ s0 = mid + m - b ∧ r0 = mid) ∨ (m ≤ mid ∧ s0 = a ∧ r0 = m) → r0 ≤ m ∧ Aside0 (Bs3 κ z44 (P ++ L ++ R ++ S) p s0 r0 s0 r0) ∧ Aside0 (∀ i j c : Nat, Bs3 κ z44 (P ++ L ++ R ++ S) p s0 r0 i j → i < j → c = (i + j) / 2 → i ≤ c ∧ c < j ∧ c ≤ p ∧ m ≤ p - c ∧ p - c < b ∧ a ≤ c ∧ c < b) := fun s0 r0 hc => by
          obtain ⟨k1, k2, k3, k4⟩ := sym_nums ham hmb hmid2 hp2 hc
          refine ⟨k2, ⟨⟨Nat.le_refl _, k4, Nat.le_refl _, .inl rfl, .inl rfl⟩⟩, ⟨fun i j c s h3 h4 => ?_⟩⟩
          obtain ⟨e1, e2, e3, e4⟩ := sym_step s h3 h4
          obtain ⟨f1, f2, f3, f4, f5⟩ := sym_at ham hmb hmid2 hp2 hc e3 e4
          exact ⟨e1, e2, f1, f2, f3, f4, f5⟩
        by_cases hlt : mid < m
        · obtain ⟨s0, hs0⟩ : ∃ s0, mid + m - b = s0 := ⟨_, rfl⟩
          obtain ⟨g1, g2, g3'⟩ := go1 s0 mid (.inl ⟨hlt, hs0.symm, rfl⟩)
          have TAIL := Aside0.mk (fun (st en : Nat) (he : en = mid + m - st) (s : Bs3 κ z44 (P ++ L ++ R ++ S) p s0 mid st st) => sym_tail (S := S) (Dm := Dm) ha hm hb hsL hsR hl1 hr1 hmid2 hp2 he (.inl ⟨hlt, hs0.symm, rfl⟩) hDL hDR s)
          exact sym_main1 κ Dm g3 go base len cap a m b mid p s0 mid n0 ll lr sab ok P L R S _ W0 hR B1 hsab hmid B2 hn0 B3 hp hll hlr B4 B5 B7 B8 ⟨hlt, by omega, rfl⟩ ⟨N1.1, N1.2.1, N1.2.2.1, N1.2.2.2.1, N1.2.2.2.2.1, hble, hl, hn0, hp, B3, g1, B6⟩ g2 g3' DD TAIL ⟨hC⟩ ⟨IH⟩
        · obtain ⟨g1, g2, g3'⟩ := go1 a m (.inr ⟨by omega, rfl, rfl⟩)
          have TAIL := Aside0.mk (fun (st en : Nat) (he : en = mid + m - st) (s : Bs3 κ z44 (P ++ L ++ R ++ S) p a m st st) => sym_tail (S := S) (Dm := Dm) ha hm hb hsL hsR hl1 hr1 hmid2 hp2 he (.inr ⟨by omega, rfl, rfl⟩) hDL hDR s)
          exact sym_main2 κ Dm g3 go base len cap a m b mid p a m n0 ll lr sab ok P L R S _ W0 hR B1 hsab hmid B2 hn0 B3 hp hll hlr B4 B5 B7 B8 ⟨by omega, rfl, rfl⟩ ⟨N1.1, N1.2.1, N1.2.2.1, N1.2.2.2.1, N1.2.2.2.2.1, hble, hl, hn0, hp, B3, g1, B6⟩ g2 g3' DD TAIL ⟨hC⟩ ⟨IH⟩
end Go.Proofs.Ytdgpcjhincgijaa.Pr
