-- A text by hand (wip/locks).
import Derived.RangeFuncNested
import Derived.RangeFuncBound
import Derived.RangeFuncCalls
import Derived.RangeFuncLeaves
import Derived.RangeFuncBox
import Derived.Shelf.Abstract
import Derived.Shelf.RegionOpen
import Derived.OwnWalkIn
import Derived.TacticsInMore
import Derived.LoopNIn
import Derived.LoopIn
import Derived.Deep.Slices
import Derived.Lib.SmallJoins
import Derived.ChangeArms
import Derived.Test.YtdhabfjfpbdjfaaPr0
import Derived.Test.YtdhabfjfpbdjfaaPr1
namespace Go.Proofs.Ytdhabfjfpbdjfaa.Pr
open Go.RowKit Go.Shelf Go.Proofs.YtdhabfjfpbdjfaaW.PrintWords Go.Proofs.YtdhabfjfpbdjfaaW.PrintLast Go.Proofs.YtdhabfjfpbdjfaaW.PrintMore
set_option linter.unusedVariables false
set_option linter.unusedSimpArgs false

instance : Inhabited S30 := ⟨z30⟩
def ActOk (a : S30) : Prop := (Lit.int .i64 a.f1).wf = true
theorem open_acts {H : Type} {enc : TypeId × Value → H} {W : World} {fuel : Nat} {A : Option Addr} {len cap : Nat} {x : DataW H × List MemPlace} (h : DataW.trod enc Try.prog W 0 (fun _ => true) true fuel 22 [.slice A len cap] = some x) :
    ∃ l : List S30, l.length = len ∧ Kd.C k30 W A len l ∧ len ≤ cap ∧ len ≤ maxLen ∧ ∀ a ∈ l, ActOk a := by
  rcases Go.Deep.open_slice Try.underlying22 h with ⟨hcs, _⟩ | ⟨a, len', cap', m, n, D, Pl, hcs, hb, hl, hm, hmm, rfl, hx⟩
  · simp at hcs
    obtain ⟨rfl, rfl, rfl⟩ := hcs
    exact ⟨[], rfl, ⟨rfl, by omega, fun h => absurd h (by omega)⟩, Nat.le_refl _, Nat.zero_le _, by simp⟩
  · simp at hcs
    obtain ⟨rfl, rfl, rfl⟩ := hcs
    have each : ∀ i, i < len → ∃ q : S30, W.cell? (a.add (i * 4)) = some (.bool q.f0) ∧ W.cell? (a.add (i * 4 + 1)) = some (.int .i64 q.f1) ∧ W.cell? (a.add (i * 4 + 2)) = some (.string q.f2) ∧ W.cell? (a.add (i * 4 + 3)) = some (.bool q.f3) ∧ ActOk q := by
      intro i hi
      obtain ⟨cs', h1, h2⟩ := hx i (by rw [hmm]; simp; omega)
      have hc4 : Try.prog.cellsOf 30 = 4 := by kernel_rfl
      have d4 : Try.prog.cellsOf 4 = 1 := by kernel_rfl
      have d3 : Try.prog.cellsOf 3 = 1 := by kernel_rfl
      have d9 : Try.prog.cellsOf 9 = 1 := by kernel_rfl
      rw [hc4] at h1
      obtain ⟨_, hlen, hcell⟩ := World.cells?_some h1
      obtain ⟨y0, y1, y2, y3, k, _, _, g0, g1, g2, g3⟩ := Go.Joins.trod_struct4 Try.underlying30 h2
      match cs', hlen with
      | [v0, v1, v2, v3], _ =>
        simp [d4] at g0
        simp [d3] at g1
        simp [d9] at g2
        simp [d4] at g3
        obtain ⟨b0, e0, _⟩ := DataW.trod_bool Try.underlying4 g0
        obtain ⟨n1, e1, _, hw⟩ := DataW.trod_int Try.underlying3 g1
        obtain ⟨s2, e2, _, _⟩ := DataW.trod_string Try.underlying9 g2
        obtain ⟨b3, e3, _⟩ := DataW.trod_bool Try.underlying4 g3
        simp only [List.cons.injEq, and_true] at e0 e1 e2 e3
        subst e0; subst e1; subst e2; subst e3
        have c0 := hcell 0 (by omega)
        have c1 := hcell 1 (by omega)
        have c2 := hcell 2 (by omega)
        have c3 := hcell 3 (by omega)
        rw [Go.Deep.add_add] at c0 c1 c2 c3
        exact ⟨⟨b0, n1, s2, b3⟩, c0, c1, c2, c3, hw⟩
    obtain ⟨q, hq⟩ := Go.Deep.choose_lt each
    refine ⟨(List.range len).map q, by simp, ⟨by simp, ?_, fun _ => ⟨a, rfl, fun j p hj => ⟨_, rfl, k30_mk W p, fun i u hu => ?_⟩⟩⟩, hl, by omega, fun p hp => ?_⟩
    · unfold maxLen at hm
      omega
    · rw [List.getElem?_map] at hj
      obtain ⟨hjl, hjq⟩ : j < len ∧ q j = p := by
        by_cases hjl : j < len
        · rw [List.getElem?_range hjl] at hj
          exact ⟨hjl, by simpa using hj⟩
        · rw [List.getElem?_eq_none (by simp; omega)] at hj
          simp at hj
      subst hjq
      obtain ⟨c0, c1, c2, c3, _⟩ := hq j hjl
      match i, hu with
      | 0, hu => simp at hu; subst hu; exact c0
      | 1, hu => simp at hu; subst hu; exact c1
      | 2, hu => simp at hu; subst hu; exact c2
      | 3, hu => simp at hu; subst hu; exact c3
      | i + 4, hu => simp at hu
    · rw [List.mem_map] at hp
      obtain ⟨j, hj, rfl⟩ := hp
      exact (hq j (List.mem_range.1 hj)).2.2.2.2
/-! few -/
theorem wrap64_id {n : Int} (h1 : -9223372036854775808 ≤ n) (h2 : n < 9223372036854775808) : wrap64 n = n := by
  unfold wrap64
  omega
theorem few_l0 {l : List S30} : ∀ (k i : Nat), i ≤ l.length → i ≤ 100 → 102 ≤ k + i → ∃ r, valiselaw18_few.l0 k l (i : Int) = some r ∧ (r = true → l.length ≤ 100 ∧ ∀ j, i ≤ j → j < l.length → (rd_T30 l (j : Int)).f2.size ≤ 100)
  | 0, i, _, _, _ => by omega
  | k + 1, i, h1, h2, h3 => by
    rw [valiselaw18_few.l0]
    by_cases hi : (i : Int) < (l.length : Int)
    · rw [if_pos hi]
      by_cases h100 : (i : Int) ≥ 100
      · rw [if_pos h100]
        exact ⟨false, rfl, fun h => by cases h⟩
      · rw [if_neg h100, if_pos (by omega)]
        by_cases hs : ((rd_T30 l (i : Int)).f2.size : Int) > 100
        · rw [if_pos hs]
          exact ⟨false, rfl, fun h => by cases h⟩
        · rw [if_neg hs, wrap64_id (by omega) (by omega), show (i : Int) + 1 = ((i + 1 : Nat) : Int) by omega]
          obtain ⟨r, hr, hp⟩ := few_l0 (l := l) k (i + 1) (by omega) (by omega) (by omega)
          refine ⟨r, hr, fun h => ⟨(hp h).1, fun j h4 h5 => ?_⟩⟩
          by_cases hj : j = i
          · subst hj; omega
          · exact (hp h).2 j (by omega) h5
    · rw [if_neg hi]
      exact ⟨true, rfl, fun _ => ⟨by omega, fun j h4 h5 => by omega⟩⟩
/-- Few acts, of short keys. -/
def Few (l : List S30) : Prop := l.length ≤ 100 ∧ ∀ j : Nat, j < l.length → (rd_T30 l (j : Int)).f2.size ≤ 100
theorem few_calls (A : Option Addr) (c : Nat) (l : List S30) (w : World) (hr : Kd.C k30 w A l.length l) (hc : l.length ≤ c) (hm : l.length ≤ maxLen) : Calls Try.prog 9 #[.slice A l.length c] w fun e w' => (∃ r, e = .returned (.bool r) ∧ (r = true → Few l)) ∧ Below w.heap.size w w' := by
  obtain ⟨r, h1, h2⟩ := few_l0 (l := l) 102 0 (by omega) (by omega) (by omega)
  refine (valiselaw18_few.calls 102 A c l r w hr hc h1).mono ?_
  rintro e w' ⟨rfl, hd⟩
  exact ⟨⟨r, rfl, fun h => ⟨(h2 h).1, fun j hj => (h2 h).2 j (by omega) hj⟩⟩, hd.below⟩
end Go.Proofs.Ytdhabfjfpbdjfaa.Pr
