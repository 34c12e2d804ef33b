-- Texts by hand and by programs of this session, joined (wip/tool/merge.py).
import Derived.RangeFuncNested
import Derived.RangeFuncBound
import Derived.RangeFuncCalls
import Derived.RangeFuncLeaves
import Derived.RangeFuncBox
import Derived.Shelf.Abstract
import Derived.Shelf.RegionOpen
import Derived.OwnWalkIn
import Derived.TacticsInMore
import Derived.LoopNIn
import Derived.LoopIn
import Derived.Test.YtdgpcjhincgijaaMLT4
import Derived.Test.YtdgpcjhincgijaaMLT6
import Derived.Test.YtdgpcjhincgijaaMLT7
import Derived.Test.YtdgpcjhincgijaaMLT8
import Derived.Lib.SliceRun
import Derived.Test.YtdgpcjhincgijaaMLT2
-- YtdgpcjhincgijaaLs7
namespace Go.Proofs.Ytdgpcjhincgijaa.Pr
open Go.RowKit Go.Shelf Go.Proofs.YtdgpcjhincgijaaW.PrintWords Go.Proofs.YtdgpcjhincgijaaW.PrintLast Go.Proofs.YtdgpcjhincgijaaW.PrintMore
set_option linter.unusedVariables false
set_option linter.unusedSimpArgs false
/-- symMerge merges two sorted rows that stand beside one another, and keeps the order of what is alike. -/
theorem sym_ok (κ : G44 → Int) (Dm : G44 → Prop) (g3 go base len cap : Nat) (ok : Nat → Prop) : ∀ (n a m b : Nat), b - a = n → SymOk κ Dm g3 go base len cap ok a m b := by
  intro n
  induction n using Nat.strongRecOn with
  | ind n ih =>
    intro a m b hn P L R S W0 hR ha hm hb hl1 hr1 hsL hsR hl hDL hDR hC
    have hlen := row_len hR
    simp only [List.length_append] at hlen
    by_cases h1 : L.length = 1
    · obtain ⟨x, rfl⟩ := List.length_eq_one_iff.1 h1
      have h := sym_one κ Dm g3 go base len cap a m b ok P x R S W0 (by have h := hR; simp only [List.append_assoc, List.cons_append, List.nil_append] at h ⊢; exact h) ha (by simpa using hm) hb hsR hl (hDL x (List.mem_singleton.2 rfl)) hDR hC
      exact h
    · by_cases h2 : R.length = 1
      · obtain ⟨x, rfl⟩ := List.length_eq_one_iff.1 h2
        exact sym_last κ Dm g3 go base len cap a m b ok P L x S W0 (by have h := hR; simp only [List.append_assoc, List.cons_append, List.nil_append] at h ⊢; exact h) ha hm (by simpa using hb) (by omega) hsL hl (hDR x (List.mem_singleton.2 rfl)) hDL hC
      · have ham : a < m := by omega
        have hmb : m < b := by omega
        have hgap : a + 4 ≤ b := by omega
        have hble : b ≤ len := by omega
        obtain ⟨sab, hsab⟩ : ∃ s, a + b = s := ⟨_, rfl⟩
        obtain ⟨mid, hmid⟩ : ∃ mid, sab / 2 = mid := ⟨_, rfl⟩
        have hmid2 : mid = (a + b) / 2 := by rw [hsab, hmid]
        obtain ⟨n0, hn0⟩ : ∃ n, mid + m = n := ⟨_, rfl⟩
        have hmidb : mid < b := by omega
        have hamid : a < mid := by omega
        obtain ⟨p, hp⟩ : ∃ p, 1 + p = n0 := ⟨n0 - 1, by omega⟩
        have hp2 : 1 + p = mid + m := by rw [hp, hn0]
        obtain ⟨ll, hll⟩ : ∃ ll, a + ll = m := ⟨L.length, hm.symm⟩
        obtain ⟨lr, hlr⟩ : ∃ lr, m + lr = b := ⟨R.length, hb.symm⟩
        have IH : ∀ a' m' b' : Nat, b' - a' < b - a → SymOk κ Dm g3 go base len cap ok a' m' b' := fun a' m' b' h => ih (b' - a') (by omega) a' m' b' rfl
        have DD := Aside0.mk (show ∀ k, a ≤ k → k < b → Dm ((P ++ L ++ R ++ S).getD k z44) from fun k k1 k2 => sym_dom ha hm hb hDL hDR k1 k2)
        have N1 : a = P.length ∧ a < m ∧ m < b ∧ mid < b ∧ a < mid ∧ b ≤ len ∧ len ≤ 1048576 ∧ mid + m = n0 ∧ 1 + p = n0 ∧ n0 ≤ 4503599627370496 := ⟨ha, ham, hmb, hmidb, hamid, hble, hl, hn0, hp, by omega⟩
        have B1 : sab ≤ 4503599627370496 := by omega
        have B2 : mid ≤ 4503599627370496 := by omega
        have B3 : n0 ≤ 4503599627370496 := by omega
        have B4 : m ≤ 4503599627370496 := by omega
        have B5 : b ≤ 4503599627370496 := by omega
        have B6 : p ≤ 4503599627370496 := by omega
        have B7 : ll ≠ 1 := by omega
        have B8 : lr ≠ 1 := by omega
        have go1 : ∀ s0 r0, (mid < m ∧ s0 = mid + m - b ∧ r0 = mid) ∨ (m ≤ mid ∧ s0 = a ∧ r0 = m) → r0 ≤ m ∧ Aside0 (Bs3 κ z44 (P ++ L ++ R ++ S) p s0 r0 s0 r0) ∧ Aside0 (∀ i j c : Nat, Bs3 κ z44 (P ++ L ++ R ++ S) p s0 r0 i j → i < j → c = (i + j) / 2 → i ≤ c ∧ c < j ∧ c ≤ p ∧ m ≤ p - c ∧ p - c < b ∧ a ≤ c ∧ c < b) := fun s0 r0 hc => by
          obtain ⟨k1, k2, k3, k4⟩ := sym_nums ham hmb hmid2 hp2 hc
          refine ⟨k2, ⟨⟨Nat.le_refl _, k4, Nat.le_refl _, .inl rfl, .inl rfl⟩⟩, ⟨fun i j c s h3 h4 => ?_⟩⟩
          obtain ⟨e1, e2, e3, e4⟩ := sym_step s h3 h4
          obtain ⟨f1, f2, f3, f4, f5⟩ := sym_at ham hmb hmid2 hp2 hc e3 e4
          exact ⟨e1, e2, f1, f2, f3, f4, f5⟩
        by_cases hlt : mid < m
        · obtain ⟨s0, hs0⟩ : ∃ s0, mid + m - b = s0 := ⟨_, rfl⟩
          obtain ⟨g1, g2, g3'⟩ := go1 s0 mid (.inl ⟨hlt, hs0.symm, rfl⟩)
          have TAIL := Aside0.mk (fun (st en : Nat) (he : en = mid + m - st) (s : Bs3 κ z44 (P ++ L ++ R ++ S) p s0 mid st st) => sym_tail (S := S) (Dm := Dm) ha hm hb hsL hsR hl1 hr1 hmid2 hp2 he (.inl ⟨hlt, hs0.symm, rfl⟩) hDL hDR s)
          exact sym_main1 κ Dm g3 go base len cap a m b mid p s0 mid n0 ll lr sab ok P L R S _ W0 hR B1 hsab hmid B2 hn0 B3 hp hll hlr B4 B5 B7 B8 ⟨hlt, by omega, rfl⟩ ⟨N1.1, N1.2.1, N1.2.2.1, N1.2.2.2.1, N1.2.2.2.2.1, hble, hl, hn0, hp, B3, g1, B6⟩ g2 g3' DD TAIL ⟨hC⟩ ⟨IH⟩
        · obtain ⟨g1, g2, g3'⟩ := go1 a m (.inr ⟨by omega, rfl, rfl⟩)
          have TAIL := Aside0.mk (fun (st en : Nat) (he : en = mid + m - st) (s : Bs3 κ z44 (P ++ L ++ R ++ S) p a m st st) => sym_tail (S := S) (Dm := Dm) ha hm hb hsL hsR hl1 hr1 hmid2 hp2 he (.inr ⟨by omega, rfl, rfl⟩) hDL hDR s)
          exact sym_main2 κ Dm g3 go base len cap a m b mid p a m n0 ll lr sab ok P L R S _ W0 hR B1 hsab hmid B2 hn0 B3 hp hll hlr B4 B5 B7 B8 ⟨by omega, rfl, rfl⟩ ⟨N1.1, N1.2.1, N1.2.2.1, N1.2.2.2.1, N1.2.2.2.2.1, hble, hl, hn0, hp, B3, g1, B6⟩ g2 g3' DD TAIL ⟨hC⟩ ⟨IH⟩
end Go.Proofs.Ytdgpcjhincgijaa.Pr

-- YtdgpcjhincgijaaLm1
namespace Go.Proofs.Ytdgpcjhincgijaa.Pr
open Go.RowKit Go.Shelf Go.Proofs.YtdgpcjhincgijaaW.PrintWords Go.Proofs.YtdgpcjhincgijaaW.PrintLast Go.Proofs.YtdgpcjhincgijaaW.PrintMore
set_option linter.unusedVariables false
set_option linter.unusedSimpArgs false
section
attribute [local go_sem] Oper.semAt_some
theorem info44 : (Try.prog.info? 44).map (fun i => (i.zero, i.size, i.bytes)) = some (some (.agg #[(.int .i64 0), (.slice none 0 0)]), 2, 32) := by kernel_rfl
set_option maxHeartbeats 16000000 in
set_option maxRecDepth 1000000 in
theorem cmp44_calls (x y : G44) (w : World) : Calls Try.prog 34 #[.agg #[.int .i64 x.f0, .slice x.A x.n x.c], .agg #[.int .i64 y.f0, .slice y.A y.n y.c]] w fun e w' => e = .returned (.int .i64 (wrap64 (x.f0 - y.f0))) ∧ Below w.heap.size w w' := by
  have HB := Aside0.mk (Below.refl w.heap.size w)
  go_enter Try.func34, Try.ntmps34
  go_wp2_with (first
        | ((with_reducible refine gate_dst (N := 2) rfl ?_); refine box_event ?hg (N := 2) ?hd (cs := #[.int .i64 x.f0, .slice x.A x.n x.c]) (t := 44) ?hr ?_; (case hd => rfl); (case hg => rfl); (case hr => first | (go_simp; done) | (go_simp; rfl)); intro gx hg_ w2 hbox hb; have n0 := Aside0.mk (below_then HB.out HB.out.size hb); have n1 := Aside0.mk (hbox); clear HB; have HB := n0; have BX := n1; clear n0 n1; clear hg_ hbox hb; have hcgx0 : w2.cell? ⟨gx, 0, none⟩ = some (.int .i64 x.f0) := (blk_cell BX.out 0).trans rfl; have hcgx1 : w2.cell? ⟨gx, 1, none⟩ = some (.slice x.A x.n x.c) := (blk_cell BX.out 1).trans rfl)
        | ((with_reducible refine gate_dst (N := 3) rfl ?_); refine box_event ?hg (N := 3) ?hd (cs := #[.int .i64 y.f0, .slice y.A y.n y.c]) (t := 44) ?hr ?_; (case hd => rfl); (case hg => rfl); (case hr => first | (go_simp; done) | (go_simp; rfl)); intro gy hg_ w3 hbox hb; have n0 := Aside0.mk (below_then HB.out HB.out.size hb); have n1 := Aside0.mk (blk_below BX.out hb); have n2 := Aside0.mk (hbox); clear HB BX; have HB := n0; have BX := n1; have BY := n2; clear n0 n1 n2; clear hg_ hbox hb; clear hcgx0 hcgx1; have hcgx0 : w3.cell? ⟨gx, 0, none⟩ = some (.int .i64 x.f0) := (blk_cell BX.out 0).trans rfl; have hcgx1 : w3.cell? ⟨gx, 1, none⟩ = some (.slice x.A x.n x.c) := (blk_cell BX.out 1).trans rfl; have hcgy0 : w3.cell? ⟨gy, 0, none⟩ = some (.int .i64 y.f0) := (blk_cell BY.out 0).trans rfl; have hcgy1 : w3.cell? ⟨gy, 1, none⟩ = some (.slice y.A y.n y.c) := (blk_cell BY.out 1).trans rfl)
        )
  go_ret
  exact ⟨rfl, HB.out⟩
def PDm (x : G44) : Prop := 0 ≤ x.f0 ∧ x.f0 ≤ 2305843009213693952
def kF (x : G44) : Int := x.f0
theorem cmp44_ok (g3 go : Nat) (W : World) : CmpOk kF PDm g3 go W := fun W' _ x y hx hy => by
  refine (cmp44_calls x y W').mono ?_
  rintro e w ⟨rfl, hb⟩
  refine ⟨_, rfl, ?_, hb⟩
  obtain ⟨h1, h2⟩ := hx
  obtain ⟨h3, h4⟩ := hy
  unfold kF wrap64
  omega
set_option maxHeartbeats 16000000 in
set_option maxRecDepth 1000000 in
theorem sorted_calls (go cap base : Nat) (ok : Nat → Prop) (d : List G44) (W : World) (hR : Kd.R kG 44 W base ok (.slice (some ⟨go, 0, none⟩) d.length cap) d) (hD : ∀ x ∈ d, PDm x) (hl : d.length ≤ 1048576) :
    Calls Try.prog 20 #[.slice (some ⟨go, 0, none⟩) d.length cap] W fun e W' => e = .returned (.slice (some ⟨go, 0, none⟩) d.length cap) ∧ (∃ Z, Srt kF Z ∧ Stb kF d Z ∧ Kd.R kG 44 W' base ok (.slice (some ⟨go, 0, none⟩) d.length cap) Z) ∧ W.grownBy W' (some go) := by
  have HO := Aside0.mk hR
  have HD := Aside0.mk hD
  have HL := Aside0.mk hl
  clear hR hD hl
  go_enter Try.func20, Try.ntmps20
  go_wp2_with (go_at_call 33; refine (sortStable_calls kF PDm 0 go base d.length cap ok d _ HO.out HL.out HD.out (cmp44_ok 0 go _) (fun a m b => sym_ok kF _ 0 go base d.length cap _ _ a m b rfl)).mono ?_; rintro e_ w3 ⟨rfl, ho, hg⟩; have HO1 := Aside0.mk ho; have HG1 := Aside0.mk hg; clear ho hg)
  go_ret
  exact ⟨rfl, HO1.out, HG1.out⟩
theorem wrap64_id {n : Int} (h1 : -9223372036854775808 ≤ n) (h2 : n < 9223372036854775808) : wrap64 n = n := by
  unfold wrap64
  omega
theorem val_next (k : Nat) (h : k < 1000000000) : Value.int .i64 (wrap64 ((k : Int) + 1)) = Value.int .i64 ((k + 1 : Nat) : Int) := by
  rw [wrap64_id (by omega) (by omega), show (k : Int) + 1 = ((k + 1 : Nat) : Int) by omega]
theorem nat_next (k : Nat) (h : k < 1000000000) : (intOf (Value.int .i64 (wrap64 ((k : Int) + 1)))).toNat = k + 1 := by
  rw [val_next k h]
  exact Int.toNat_natCast _
def badF (n : Int) : Bool := decide (n < 0) || decide (n > 4294967295)
def badL (l : List Int) : Bool := l.any badF
set_option maxHeartbeats 16000000 in
set_option maxRecDepth 1000000 in
theorem oft1_calls (n : Int) (w : World) : Calls Try.prog 32 #[.int .i64 n] w fun e w' => e = .returned (.bool (badF n)) ∧ w' = w := by
  unfold badF
  by_cases h0 : n < 0
  · have q0 := eq_true h0
    rw [decide_eq_true h0]
    go_enter Try.func32, Try.ntmps32
    go_wp2
    go_ret
    exact ⟨rfl, rfl⟩
  · have q0 := eq_false h0
    rw [decide_eq_false h0]
    by_cases h1 : n > 4294967295
    · have q1 := eq_true h1
      have q2 := eq_true (show (4294967295 : Int) < n from h1)
      rw [decide_eq_true h1]
      go_enter Try.func32, Try.ntmps32
      go_wp2
      go_ret
      exact ⟨rfl, rfl⟩
    · have q1 := eq_false h1
      have q2 := eq_false (show ¬ (4294967295 : Int) < n from h1)
      rw [decide_eq_false h1]
      go_enter Try.func32, Try.ntmps32
      go_wp2
      go_ret
      exact ⟨rfl, rfl⟩
theorem takeI (xs : List Int) {k : Nat} (hk : k < xs.length) : xs.take (k + 1) = xs.take k ++ [rd xs (k : Int)] := by
  rw [List.take_add_one]
  unfold rd
  rw [Int.toNat_natCast, List.getD_eq_getElem?_getD, List.getElem?_eq_getElem hk]
  rfl
set_option maxHeartbeats 16000000 in
set_option maxRecDepth 1000000 in
theorem ixf_calls (A : Option Addr) (c : Nat) (l : List Int) (w : World) (hI : (Kd.int .i64).C w A l.length l) (hl : l.length ≤ 1048576) :
    Calls Try.prog 39 #[.slice A l.length c, .func (.func 32) #[] #[]] w fun e w' => (∃ r : Int, e = .returned (.int .i64 r) ∧ ((r = -1 ∧ badL l = false) ∨ (0 ≤ r ∧ badL l = true))) ∧ w' = w := by
  have HI := Aside0.mk hI
  clear hI
  go_enter Try.func39, Try.ntmps39
  go_wp2
  go_loopw [8] (fun v8 w' => ∃ k : Nat, k ≤ l.length ∧ v8 = .int .i64 (k : Int) ∧ Aside0 (badL (l.take k) = false) ∧ w' = w)
    (fun v8 _ => l.length + 1 - (intOf v8).toNat)
  case atStart => exact ⟨0, by omega, rfl, ⟨by simp [badL]⟩, rfl⟩
  case round =>
    obtain ⟨k, hk, rfl, HN, rfl⟩ := hrel
    by_cases hlt : k < l.length
    · obtain ⟨ad, ead, hx0⟩ := Kd.at_int HI.out (k : Int) (by omega) (by omega)
      subst ead
      rw [Int.toNat_natCast] at hx0
      have HT := Aside0.mk (takeI l hlt)
      obtain ⟨x, hx⟩ : ∃ x, rd l (k : Int) = x := ⟨_, rfl⟩
      rw [hx] at hx0 HT
      have q0 := eq_true (show (k : Int) < (l.length : Int) by omega)
      have q1 := eq_true (show (0 : Int) ≤ (k : Int) by omega)
      have q2 := eq_true hlt
      have HL := Aside0.mk hlt
      have HLL := Aside0.mk hl
      clear hx hk hl hlt
      obtain ⟨b, hb⟩ : ∃ b, badF x = b := ⟨_, rfl⟩
      have HBF := Aside0.mk hb
      clear hb
      cases b with
      | true =>
        go_wp2_with (go_at_call 32; have hc := oft1_calls x wr; rw [HBF.out] at hc; refine hc.mono ?_; clear hc; rintro e w3 ⟨rfl, rfl⟩)
        go_ret
        refine ⟨⟨_, rfl, .inr ⟨by omega, ?_⟩⟩, rfl⟩
        have h1 : l = l.take (k + 1) ++ l.drop (k + 1) := (List.take_append_drop _ _).symm
        rw [h1, HT.out]
        unfold badL
        simp [HBF.out]
      | false =>
        go_wp2_with (go_at_call 32; have hc := oft1_calls x wr; rw [HBF.out] at hc; refine hc.mono ?_; clear hc; rintro e w3 ⟨rfl, rfl⟩)
        have hlt := HL.out
        go_roundw
        case rel => exact ⟨k + 1, by omega, val_next _ (by have := HLL.out; omega), ⟨by rw [HT.out]; have := HN.out; unfold badL at this ⊢; rw [List.any_append, this]; simp [HBF.out]⟩, by first | rfl | trivial⟩
        case measure => rw [nat_next _ (by have := HLL.out; omega)]; simp only [intOf, Int.toNat_natCast]; omega
    · obtain rfl : k = l.length := by omega
      have q0 := eq_false (show ¬ (l.length : Int) < (l.length : Int) by omega)
      go_wp2
      go_ret
      exact ⟨⟨_, rfl, .inl ⟨rfl, by have := HN.out; rwa [List.take_length] at this⟩⟩, rfl⟩
set_option maxHeartbeats 16000000 in
set_option maxRecDepth 1000000 in
theorem ctf_calls (A : Option Addr) (c : Nat) (l : List Int) (w : World) (hI : (Kd.int .i64).C w A l.length l) (hl : l.length ≤ 1048576) :
    Calls Try.prog 31 #[.slice A l.length c, .func (.func 32) #[] #[]] w fun e w' => e = .returned (.bool (badL l)) ∧ w' = w := by
  have HI := Aside0.mk hI
  clear hI
  obtain ⟨b, hb⟩ : ∃ b, badL l = b := ⟨_, rfl⟩
  have HBF := Aside0.mk hb
  rw [hb]
  clear hb
  go_enter Try.func31, Try.ntmps31
  cases b with
  | true =>
    go_wp2_with (go_at_call 39; refine (ixf_calls A c l w HI.out hl).mono ?_; rintro e w3 ⟨⟨r, rfl, hr⟩, rfl⟩; have hr0 : 0 ≤ r := (by rcases hr with ⟨_, h⟩ | ⟨h, _⟩; (rw [HBF.out] at h; cases h); exact h); have q0 := eq_true hr0; have q1 := eq_true (show r ≥ 0 from hr0); clear hr hr0)
    go_ret
    exact ⟨rfl, rfl⟩
  | false =>
    go_wp2_with (go_at_call 39; refine (ixf_calls A c l w HI.out hl).mono ?_; rintro e w3 ⟨⟨r, rfl, hr⟩, rfl⟩; have hr0 : r = -1 := (by rcases hr with ⟨h, _⟩ | ⟨_, h⟩; exact h; (rw [HBF.out] at h; cases h)); subst hr0; clear hr)
    go_ret
    exact ⟨rfl, rfl⟩
def oftenS (l : List Int) : Bool := decide (1 ≤ l.length ∧ l.length ≤ 288) && !badL l
set_option maxHeartbeats 16000000 in
set_option maxRecDepth 1000000 in
theorem often_calls (A : Option Addr) (c : Nat) (l : List Int) (w : World) (hI : (Kd.int .i64).C w A l.length l) :
    Calls Try.prog 19 #[.slice A l.length c] w fun e w' => e = .returned (.bool (oftenS l)) ∧ w' = w := by
  have HI := Aside0.mk hI
  clear hI
  unfold oftenS
  by_cases h1 : l.length < 1
  · have q0 := eq_true (show (l.length : Int) < 1 by omega)
    have e0 : (l.length : Int) = 0 := by omega
    rw [decide_eq_false (by omega), Bool.false_and]
    go_enter Try.func19, Try.ntmps19
    go_wp2
    go_ret
    exact ⟨rfl, rfl⟩
  · have q0 := eq_false (show ¬ (l.length : Int) < 1 by omega)
    have q00 := eq_false h1
    by_cases h2 : l.length > 288
    · have q1 := eq_true (show (l.length : Int) > 288 by omega)
      have q2 := eq_true (show (288 : Int) < (l.length : Int) by omega)
      have q3 := eq_true (show 288 < l.length by omega)
      rw [decide_eq_false (by omega), Bool.false_and]
      clear h1 h2
      go_enter Try.func19, Try.ntmps19
      go_wp2
      go_ret
      exact ⟨rfl, rfl⟩
    · have q1 := eq_false (show ¬ (l.length : Int) > 288 by omega)
      have q2 := eq_false (show ¬ (288 : Int) < (l.length : Int) by omega)
      have q3 := eq_false (show ¬ 288 < l.length by omega)
      rw [decide_eq_true (by omega), Bool.true_and]
      have HL := Aside0.mk (show l.length ≤ 1048576 by omega)
      clear h1 h2
      go_enter Try.func19, Try.ntmps19
      go_wp2_with (go_at_call 31; refine (ctf_calls A c l w HI.out HL.out).mono ?_; rintro e w3 ⟨rfl, rfl⟩)
      go_ret
      exact ⟨rfl, rfl⟩
end
end Go.Proofs.Ytdgpcjhincgijaa.Pr

-- YtdgpcjhincgijaaLm2
namespace Go.Proofs.Ytdgpcjhincgijaa.Pr
open Go.RowKit Go.Shelf Go.Proofs.YtdgpcjhincgijaaW.PrintWords Go.Proofs.YtdgpcjhincgijaaW.PrintLast Go.Proofs.YtdgpcjhincgijaaW.PrintMore
set_option linter.unusedVariables false
set_option linter.unusedSimpArgs false
section
attribute [local go_sem] Oper.semAt_some
set_option maxHeartbeats 16000000 in
set_option maxRecDepth 1000000 in
theorem clone_calls (ad : Addr) (c : Nat) (d : List G44) (w : World) (hI : Kd.C kG w (some ad) d.length d) (hl : d.length ≤ 1048576) :
    Calls Try.prog 21 #[.slice (some ad) d.length c] w fun e w' => ∃ v, e = .returned v ∧ Kd.R kG 44 w' w.heap.size (fun _ => True) v d ∧ Below w.heap.size w w' := by
  have HR := Aside0.mk hI
  have HL := Aside0.mk hl
  clear hI hl
  have heq := fun W => Lib.run_eql_slice_nil (P := Try.prog) W 42 44 (some ad) d.length c 0 0 Try.underlying42
  have HB := Aside0.mk (Below.refl w.heap.size w)
  go_enter Try.func21, Try.ntmps21
  go_wp2_with (first
        | ((with_reducible refine gate_dst (N := 5) rfl ?_); refine Kd.R_lit (kG) (w0 := w) w.heap.size 44 ?hg (N := 5) ?hd (xs := ([] : List G44)) (inner := []) (ok := fun _ => True) (okp := fun _ => True) ?hr ?hp (fun _ hk => hk) trivial HB.out HB.out.size (by simp) ?_; (case hd => rfl); (case hg => rfl); (case hr => first | (go_simp; done) | (go_simp; rfl)); (case hp => exact (Reps.none _ _)); intro v1 w1 ho hb hg hat; obtain ⟨A1, d1, ev_⟩ := Kd.R_slice ho; subst ev_; have n0 := Aside0.mk (ho); have n1 := Aside0.mk (hb); have n2 := Aside0.mk (Kd.C_below HR.out hb); clear HB HR; have HO := n0; have HBn := n1; have HR := n2; clear n0 n1 n2; have HB := HBn; clear HBn ho hb hg hat)
        | ((with_reducible refine gate_builtin (b := .append) (xs := #[.tmp 5, .tmp 6]) rfl ?_); at_builtin; refine Kd.R_append_rows kG (w0 := w) w.heap.size rfl (.tmp 5) (.tmp 6) 42 44 (.agg #[(.int .i64 0), (.slice none 0 0)]) 32 rfl Try.underlying42 info44 rfl (by decide) (by omega) (.slice A1 (([] : List G44).length) d1) [] d (some ad) _ _ (fun _ => True) (fun _ => False) rfl rfl ?aO ?aR (fun _ _ h => h) (fun _ h => h.elim) ?aF ?aB ?aS ?aL ?_; (case aR => exact HR.out); (case aB => exact HB.out); (case aF => exact fun _ _ => trivial); (case aO => exact HO.out); (case aS => exact HB.out.size); (case aL => have := HL.out; simp; omega); intro v2 w2 ho hb hg hat; rw [List.nil_append] at ho; have n0 := Aside0.mk (ho); have n1 := Aside0.mk (hb); clear HO HB; have HO := n0; have HB := n1; clear n0 n1; clear ho hb hg hat)
        )
  go_ret
  exact ⟨_, rfl, HO.out, HB.out⟩
set_option maxHeartbeats 16000000 in
set_option maxRecDepth 1000000 in
theorem grow_nil (n : Nat) (w : World) (hn : n ≤ 1048576) :
    Calls Try.prog 36 #[.slice none 0 0, .int .i64 (n : Int)] w fun e w' => ∃ v, e = .returned v ∧ Kd.R (Kd.int .i64) 3 w' w.heap.size (fun _ => True) v [] ∧ Below w.heap.size w w' := by
  have q0 := eq_false (show ¬ (n : Int) < 0 by omega)
  have w0 : wrap64 (0 : Int) = 0 := wrap64_id (by omega) (by omega)
  have w1 : wrap64 ((0 : Int) - 0) = 0 := wrap64_id (by omega) (by omega)
  have w2 : wrap64 ((n : Int) - 0) = (n : Int) := by rw [Int.sub_zero]; exact wrap64_id (by omega) (by omega)
  have w3 : wrap64 (n : Int) = (n : Int) := wrap64_id (by omega) (by omega)
  by_cases h0 : n = 0
  · subst h0
    go_enter Try.func36, Try.ntmps36
    go_wp2
    go_ret
    exact ⟨_, rfl, Kd.R_nil _ _ _ _ _, Below.refl _ _⟩
  · have q1 := eq_true (show (n : Int) > 0 by omega)
    have q2 := eq_true (show (0 : Int) < (n : Int) by omega)
    have q3 := eq_true (show 0 < n by omega)
    have HB := Aside0.mk (Below.refl w.heap.size w)
    have HN := Aside0.mk hn
    clear h0 hn
    go_enter Try.func36, Try.ntmps36
    go_wp2_with ((with_reducible refine gate_builtin (b := .append) (xs := #[.tmp 20, .tmp 21]) rfl ?_); at_builtin; refine Kd.R_append_zeros (Kd.int .i64) (w0 := w) w.heap.size rfl (.tmp 20) (.tmp 21) 22 3 3 (.int .i64 0) 8 rfl Try.underlying22 Try.underlying3 info3 rfl (by decide) (by omega) (.slice none 0 0) [] (0 : Int) (wrap64 (n : Int)) (fun _ => True) rfl rfl rfl (fun _ _ => trivial) (Kd.R_nil _ _ _ _ _) ?h0 HB.out ?hs ?hl ?_; (case h0 => rw [w3]; omega); (case hs => exact HB.out.size); (case hl => have := HN.out; rw [w3]; simp; omega); intro v1 w1' ho hb hg hat; obtain ⟨A1, d1, ev_⟩ := Kd.R_slice ho; subst ev_; have HO := Aside0.mk (Kd.R_take (m := 0) ho (by omega)); have HB2 := Aside0.mk hb; clear ho hb hg hat)
    go_ret
    exact ⟨_, rfl, HO.out, HB2.out⟩
end
section
attribute [local go_sem] Oper.semAt_some
def acc2 (l1 l2 : List Int) (k : Nat) : List Int := if k = 0 then [] else if k = 1 then l1 else l1 ++ l2
theorem acc2_len (l1 l2 : List Int) (k : Nat) : (acc2 l1 l2 k).length ≤ l1.length + l2.length := by
  unfold acc2
  by_cases h0 : k = 0
  · rw [if_pos h0]; simp
  · rw [if_neg h0]
    by_cases h1 : k = 1
    · rw [if_pos h1]; omega
    · rw [if_neg h1, List.length_append]; omega
/-- The k-th of two rows. -/
theorem two_at {w : World} {ad : Addr} {A1 A2 : Option Addr} {c1 c2 : Nat} {l1 l2 : List Int} (h0 : w.cell? (ad.add 0) = some (.slice A1 l1.length c1)) (h1 : w.cell? (ad.add 1) = some (.slice A2 l2.length c2)) (hC1 : (Kd.int .i64).C w A1 l1.length l1) (hC2 : (Kd.int .i64).C w A2 l2.length l2) {k : Nat} (hk : k < 2) :
    ∃ (A : Option Addr) (c : Nat) (l : List Int), w.cell? (ad.add k) = some (.slice A l.length c) ∧ (Kd.int .i64).C w A l.length l ∧ acc2 l1 l2 (k + 1) = acc2 l1 l2 k ++ l ∧ (acc2 l1 l2 k).length + l.length ≤ l1.length + l2.length := by
  match k, hk with
  | 0, _ => exact ⟨A1, c1, l1, h0, hC1, rfl, by simp [acc2]⟩
  | 1, _ => exact ⟨A2, c2, l2, h1, hC2, rfl, by simp [acc2]⟩
set_option maxHeartbeats 16000000 in
set_option maxRecDepth 1000000 in
theorem concat2_calls (ad : Addr) (cap : Nat) (A1 A2 : Option Addr) (c1 c2 : Nat) (l1 l2 : List Int) (w : World) (h0 : w.cell? (ad.add 0) = some (.slice A1 l1.length c1)) (h1 : w.cell? (ad.add 1) = some (.slice A2 l2.length c2)) (hC1 : (Kd.int .i64).C w A1 l1.length l1) (hC2 : (Kd.int .i64).C w A2 l2.length l2) (hl : l1.length + l2.length ≤ 1000000) :
    Calls Try.prog 23 #[.slice (some ad) 2 cap] w fun e w' => ∃ v, e = .returned v ∧ Kd.R (Kd.int .i64) 3 w' w.heap.size (fun _ => True) v (l1 ++ l2) ∧ Below w.heap.size w w' := by
  have TW := Aside0.mk (fun {k : Nat} (hk : k < 2) => two_at h0 h1 hC1 hC2 hk)
  have HL := Aside0.mk hl
  clear h0 h1 hC1 hC2 hl
  go_enter Try.func23, Try.ntmps23
  go_wp2
  go_loopw [3, 11] (fun x3 x11 w' => ∃ k : Nat, k ≤ 2 ∧ x11 = .int .i64 (k : Int) ∧ x3 = .int .i64 ((acc2 l1 l2 k).length : Int) ∧ w' = w) (fun _ x11 _ => 3 - (intOf x11).toNat)
  case atStart => exact ⟨0, by omega, rfl, rfl, rfl⟩
  case round =>
    obtain ⟨k, hk, rfl, rfl, rfl⟩ := hrel
    by_cases hlt : k < 2
    · obtain ⟨A, c, l, hcell, hC, hacc, hlen⟩ := TW.out hlt
      have q0 := eq_true (show (k : Int) < 2 by omega)
      have q1 := eq_true (show (0 : Int) ≤ (k : Int) by omega)
      have q2 := eq_true hlt
      have hsum : wrap64 (((acc2 l1 l2 k).length : Int) + (l.length : Int)) = ((acc2 l1 l2 (k + 1)).length : Int) := by rw [hacc, List.length_append, wrap64_id (by have := HL.out; omega) (by have := HL.out; omega)]; omega
      have q3 := eq_false (show ¬ (((acc2 l1 l2 (k + 1)).length : Int) < 0) by omega)
      have HLT := Aside0.mk hlt
      clear hk hlt hacc hlen hC
      obtain ⟨s1, hs1⟩ : ∃ s1, (acc2 l1 l2 (k + 1)).length = s1 := ⟨_, rfl⟩
      obtain ⟨s0, hs0⟩ : ∃ s0, (acc2 l1 l2 k).length = s0 := ⟨_, rfl⟩
      rw [hs0, hs1] at hsum
      rw [hs1] at q3
      rw [hs0]
      go_wp2
      go_roundw
      case rel => exact ⟨k + 1, by have := HLT.out; omega, val_next _ (by have := HLT.out; omega), by rw [hsum, hs1], by first | rfl | trivial⟩
      case measure => rw [nat_next _ (by have := HLT.out; omega)]; simp only [intOf, Int.toNat_natCast]; have := HLT.out; omega
    · obtain rfl : k = 2 := by omega
      have q0 := eq_false (show ¬ ((2 : Nat) : Int) < 2 by omega)
      have HLE := Aside0.mk (show (acc2 l1 l2 2).length ≤ 1048576 by have := acc2_len l1 l2 2; have := HL.out; omega)
      clear hk hlt
      obtain ⟨wz, rfl⟩ : ∃ wz, wz = wr := ⟨_, rfl⟩
      have HB := Aside0.mk (Below.refl wz.heap.size wz)
      go_wp2_with (go_at_call 36; refine (grow_nil (acc2 l1 l2 2).length _ HLE.out).mono ?_; rintro e_ w3 ⟨v_, rfl, ho_, hb⟩; obtain ⟨A1, d1, ev_⟩ := Kd.R_slice ho_; subst ev_; have HO := Aside0.mk ho_; have HB3 := Aside0.mk hb; clear ho_ hb)
      clear HB
      go_loopw [6, 27] (fun x6 x27 w' => ∃ (k : Nat) (A : Option Addr) (c : Nat), k ≤ 2 ∧ x27 = .int .i64 (k : Int) ∧ x6 = .slice A (acc2 l1 l2 k).length c ∧ Aside0 (Kd.R (Kd.int .i64) 3 w' wz.heap.size (fun _ => True) (.slice A (acc2 l1 l2 k).length c) (acc2 l1 l2 k)) ∧ Aside0 (Below wz.heap.size wz w')) (fun _ x27 _ => 3 - (intOf x27).toNat)
      case atStart => exact ⟨0, A1, d1, by omega, rfl, rfl, HO, HB3⟩
      case round =>
        clear HO HB3
        obtain ⟨k, A, c, hk, rfl, rfl, HO, HB⟩ := hrel
        by_cases hlt : k < 2
        · obtain ⟨A', c', l, hcell, hC, hacc, hlen⟩ := TW.out hlt
          have HAC := Aside0.mk hacc
          have HCL := Aside0.mk hC
          have HLN := Aside0.mk hlen
          have HLT := Aside0.mk hlt
          have q0 := eq_true (show (k : Int) < 2 by omega)
          have q1 := eq_true (show (0 : Int) ≤ (k : Int) by omega)
          have q2 := eq_true hlt
          have hcell2 := pw_cell_below HB.out hcell
          clear hk hlt hacc hlen hC hcell
          obtain ⟨xs, hxs⟩ : ∃ xs, acc2 l1 l2 k = xs := ⟨_, rfl⟩
          rw [hxs] at HO HAC HLN
          rw [hxs]
          go_wp2_with ((with_reducible refine gate_builtin (b := .append) (xs := #[.tmp 31, .tmp 32]) rfl ?_); at_builtin; refine Kd.R_append_rows (Kd.int .i64) (w0 := wz) wz.heap.size rfl (.tmp 31) (.tmp 32) 22 3 (.int .i64 0) 8 rfl Try.underlying22 info3 rfl (by decide) (by omega) (.slice A xs.length c) xs l A' _ _ (fun _ => True) (fun _ => False) rfl rfl ?aO ?aR (fun _ _ h => h) (fun _ h => h.elim) ?aF ?aB ?aS ?aL ?_; (case aR => exact Kd.C_below HCL.out HB.out); (case aB => exact HB.out); (case aF => exact fun _ _ => trivial); (case aO => exact HO.out); (case aS => exact HB.out.size); (case aL => have := HLN.out; have := HL.out; omega); intro v2 w2 ho hb hg hat; obtain ⟨A2, d2, ev_⟩ := Kd.R_slice ho; subst ev_; have HO2 := Aside0.mk ho; have HB2 := Aside0.mk hb; clear ho hb hg hat)
          go_roundw
          case rel => exact ⟨k + 1, A2, d2, by have := HLT.out; omega, val_next _ (by have := HLT.out; omega), by rw [HAC.out, List.length_append], by rw [HAC.out]; exact HO2, HB2⟩
          case measure => rw [nat_next _ (by have := HLT.out; omega)]; simp only [intOf, Int.toNat_natCast]; have := HLT.out; omega
        · obtain rfl : k = 2 := by omega
          have q0 := eq_false (show ¬ ((2 : Nat) : Int) < 2 by omega)
          go_wp2
          go_ret
          exact ⟨_, rfl, HO.out, HB.out⟩
end
end Go.Proofs.Ytdgpcjhincgijaa.Pr

-- YtdgpcjhincgijaaLm3
namespace Go.Proofs.Ytdgpcjhincgijaa.Pr
open Go.RowKit Go.Shelf Go.Proofs.YtdgpcjhincgijaaW.PrintWords Go.Proofs.YtdgpcjhincgijaaW.PrintLast Go.Proofs.YtdgpcjhincgijaaW.PrintMore
set_option linter.unusedVariables false
set_option linter.unusedSimpArgs false
/-! ### Packs, two at a time -/
def prsL (d : List G44) : Nat → List (G44 × G44)
  | 0 => []
  | k + 1 => prsL d k ++ [(rd_T44 d ((2 * k : Nat) : Int), rd_T44 d ((2 * k + 1 : Nat) : Int))]
theorem prsL_len (d : List G44) : ∀ k, (prsL d k).length = k
  | 0 => rfl
  | k + 1 => by rw [prsL, List.length_append, prsL_len d k]; rfl
theorem rd44_mem {d : List G44} {i : Nat} (h : i < d.length) : rd_T44 d (i : Int) ∈ d := by
  unfold rd_T44
  rw [Int.toNat_natCast, List.getD_eq_getElem?_getD, List.getElem?_eq_getElem h]
  exact List.getElem_mem h
theorem val_two (k : Nat) (h : k < 1000000000) : Value.int .i64 (((2 * k : Nat) : Int) + 2) = Value.int .i64 ((2 * (k + 1) : Nat) : Int) := by
  rw [show ((2 * k : Nat) : Int) + 2 = ((2 * (k + 1) : Nat) : Int) by omega]
theorem mea_two (k len : Nat) (h : 2 * k + 1 < len) (h2 : len ≤ 1048576) : len + 1 - (intOf (Value.int .i64 (((2 * k : Nat) : Int) + 2))).toNat < len + 1 - (intOf (Value.int .i64 ((2 * k : Nat) : Int))).toNat := by
  rw [val_two k (by omega)]
  simp only [intOf, Int.toNat_natCast]
  omega
/-- Some blocks lie as they lay. -/
def KeepB (S : Nat → Prop) (W W' : World) : Prop := ∀ k, S k → k < W.heap.size → W'.heap[k]? = W.heap[k]?
theorem KeepB.cell {S : Nat → Prop} {W W' : World} (h : KeepB S W W') {p : Addr} (hp : S p.block) {v : Value} (hv : W.cell? p = some v) : W'.cell? p = some v := by
  have := h p.block hp (World.block_lt_of_cell? W p hv)
  simpa [World.cell?, this] using hv
theorem KeepB.refl (S : Nat → Prop) (W : World) : KeepB S W W := fun _ _ _ => rfl
theorem KeepB.trans {S : Nat → Prop} {A B C : World} (h : KeepB S A B) (hs : A.heap.size ≤ B.heap.size) (k : KeepB S B C) : KeepB S A C := fun i hi hl => (k i hi (Nat.lt_of_lt_of_le hl hs)).trans (h i hi hl)
def AG (x : G44) : Value := .agg #[.int .i64 x.f0, .slice x.A x.n x.c]
section
attribute [local go_sem] Oper.semAt_some
set_option maxRecDepth 100000 in
set_option maxHeartbeats 4000000 in
theorem prs1_in (F : Fence) (n : Nat) (hF : F.fn 35) (hro : F.round = none) (hn : 1 ≤ n) (hmix : Try.prog.follows .mixedOrders = true) (l Bs : Nat) (A : Option Addr) (len cap : Nat) (d : List G44) (hz : len = d.length) (hreach : len ≤ 1048576) (Kp : World → World → Prop) (hKr : ∀ W, Kp W W) (hKt : ∀ {A B C : World}, Kp A B → Kp B C → Kp A C) (hKd : ∀ W : World, Kp W W.drew) (hKc : ∀ {W W' : World}, Kp W W' → ∀ {p : Addr} {v : Value}, (p.block = Bs ∨ ∃ ad, A = some ad ∧ p.block = ad.block) → W.cell? p = some v → W'.cell? p = some v) (J Jx : List (G44 × G44) → World → Prop)
    (hJd : ∀ pre W, J pre W → J pre W.drew)
    (hY : ∀ pre x W, J pre W → pre.length < len / 2 → (x.1 ∈ d ∧ x.2 ∈ d) → YieldAt F (n - 1) Try.prog l #[AG x.1, AG x.2] W fun e W' =>
      (e = .returned (.bool true) ∧ J (pre ++ [x]) W' ∧ Kp W W') ∨ (e = .returned (.bool false) ∧ Jx (pre ++ [x]) W'))
    (W : World) (hBs : W.cell? ⟨Bs, 0, none⟩ = some (.slice A len cap)) (hc : Kd.C kG W A len d) (h0 : J [] W) :
    CallsIn F n Try.prog 35 #[.func (.yield l) #[] #[], .pointer (some ⟨Bs, 0, none⟩)] W fun e W' => (∃ v, e = .returned v) ∧
      ((∃ ys, ys = prsL d (len / 2) ∧ J ys W') ∨ (∃ pre, (∃ k, k ≤ len / 2 ∧ pre = prsL d k) ∧ Jx pre W')) := by
  subst hz
  have hu44 := Try.underlying44
  refine callsIn_of_wp Try.func35 rfl hF ?_ hro
  simp only [Try.ntmps35, List.size_toArray, List.length_cons, List.length_nil, Nat.reduceAdd, Nat.reduceSub, Array.replicate_succ, Array.replicate_zero, List.push_toArray, List.append_toArray, List.nil_append, List.cons_append]
  gi_wp2
  gi_loopw [3] (fun i wr => ∃ k : Nat, k ≤ d.length / 2 ∧ i = .int .i64 ((2 * k : Nat) : Int) ∧ J (prsL d k) wr ∧ Kp W wr)
    (fun i _ => d.length + 1 - (intOf i).toNat)
  case atStart => exact ⟨0, Nat.zero_le _, rfl, h0, hKr _⟩
  case round =>
    obtain ⟨k, hk, rfl, hJs, hnx⟩ := hrel
    have hcb := hKc hnx (p := ⟨Bs, 0, none⟩) (.inl rfl) hBs
    obtain ⟨i, hi⟩ : ∃ i, 2 * k = i := ⟨_, rfl⟩
    obtain ⟨j, hj⟩ : ∃ j, i + 1 = j := ⟨_, rfl⟩
    have hw : wrap64 ((i : Int) + 1) = (j : Int) := by rw [wrap64_id (by omega) (by omega)]; omega
    have hw2 : IntKind.i64.wrap ((i : Int) + 1) = (j : Int) := (i64_w _).trans hw
    rw [hi]
    by_cases hlt : k < d.length / 2
    · obtain ⟨ad, rfl, hx0, hx1⟩ := at_T44 hc (i : Int) (by omega) (by omega)
      obtain ⟨ad2, e2, hy0, hy1⟩ := at_T44 hc (j : Int) (by omega) (by omega)
      injection e2 with e2
      subst e2
      rw [Int.toNat_natCast] at hx0 hx1 hy0 hy1
      have hbk := fun m => (show (ad.add m).block = Bs ∨ ∃ ad', some ad = some ad' ∧ (ad.add m).block = ad'.block from .inr ⟨ad, rfl, add_block _ _⟩)
      replace hx0 := hKc hnx (p := ad.add (i * 2)) (hbk _) hx0
      replace hx1 := hKc hnx (p := ⟨(ad.add (i * 2)).block, (ad.add (i * 2)).off + 1, none⟩) (hbk _) hx1
      replace hy0 := hKc hnx (p := ad.add (j * 2)) (hbk _) hy0
      replace hy1 := hKc hnx (p := ⟨(ad.add (j * 2)).block, (ad.add (j * 2)).off + 1, none⟩) (hbk _) hy1
      have hts : prsL d (k + 1) = prsL d k ++ [(rd_T44 d (i : Int), rd_T44 d (j : Int))] := by rw [prsL, ← hj, ← hi]
      obtain ⟨x, hx⟩ : ∃ x, rd_T44 d (i : Int) = x := ⟨_, rfl⟩
      obtain ⟨y, hy⟩ : ∃ y, rd_T44 d (j : Int) = y := ⟨_, rfl⟩
      have hmx : x ∈ d := hx ▸ rd44_mem (show i < d.length by omega)
      have hmy : y ∈ d := hy ▸ rd44_mem (show j < d.length by omega)
      rw [hx] at hx0 hx1 hts
      rw [hy] at hy0 hy1 hts
      have q0 := eq_true (show (j : Int) < (d.length : Int) by omega)
      have q1 := eq_true (show (i : Int) < (d.length : Int) by omega)
      have q2 := eq_true (show (0 : Int) ≤ (i : Int) by omega)
      have q3 := eq_true (show (0 : Int) ≤ (j : Int) by omega)
      have q4 := eq_true (show i < d.length by omega)
      have q5 := eq_true (show j < d.length by omega)
      obtain ⟨fn, tmps, assign, body, hyy, hR⟩ := hY _ (x, y) wr.drew (hJd _ _ hJs) (by rw [prsL_len]; exact hlt) ⟨hmx, hmy⟩
      dsimp only [AG] at hyy
      clear hx hy hbk hmx hmy
      replace hcb : wr.drew.cell? ⟨Bs, 0, none⟩ = _ := hcb
      replace hx0 : wr.drew.cell? (ad.add (i * 2)) = _ := hx0
      replace hx1 : wr.drew.cell? ⟨(ad.add (i * 2)).block, (ad.add (i * 2)).off + 1, none⟩ = _ := hx1
      replace hy0 : wr.drew.cell? (ad.add (j * 2)) = _ := hy0
      replace hy1 : wr.drew.cell? ⟨(ad.add (j * 2)).block, (ad.add (j * 2)).off + 1, none⟩ = _ := hy1
      have hcb2 : wr.cell? ⟨Bs, 0, none⟩ = _ := hcb
      have hR2 : RoundIn F (n - 1) Try.prog l fn tmps assign body wr.drew fun e W' => ∃ b, e = .returned (.bool b) ∧ ((b = true ∧ J (prsL d k ++ [(x, y)]) W' ∧ Kp wr.drew W') ∨ (b = false ∧ Jx (prsL d k ++ [(x, y)]) W')) := hR.mono (by
        rintro e W' (⟨rfl, h1, h2⟩ | ⟨rfl, h1⟩)
        · exact ⟨true, rfl, .inl ⟨rfl, h1, h2⟩⟩
        · exact ⟨false, rfl, .inr ⟨rfl, h1⟩⟩)
      clear hR
      gi_wp2
      refine wpIn_region_any hmix ?_
      change wpAnyIn _ _ _ _ _ _ _ _ _ (World.drew _)
      refine wpAnyIn_take (i := 0) (v := ?_) hro rfl (by kernel_rfl) (by kernel_rfl) (by kernel_rfl) (fun _ _ _ h => h) ⟨Or.inl ⟨by rfl, ?_⟩, fun _ => rfl⟩ ?_
      rotate_left
      · intro w
        go_simp
        try with_reducible rfl
      refine wpAnyIn_take (i := 2) (v := ?_) hro rfl (by kernel_rfl) (by kernel_rfl) (by kernel_rfl) (fun _ _ _ h => h) ⟨Or.inl ⟨by rfl, ?_⟩, fun _ => rfl⟩ ?_
      rotate_left
      · intro w
        go_simp
        try with_reducible rfl
      refine wpAnyIn_take (i := 6) (v := ?_) hro rfl (by kernel_rfl) (by kernel_rfl) (by kernel_rfl) (fun _ _ _ h => h) ⟨Or.inl ⟨by rfl, ?_⟩, fun _ => rfl⟩ ?_
      rotate_left
      · intro w
        go_simp
        try with_reducible rfl
      refine wpAnyIn_take (i := 7) (v := ?_) hro rfl (by kernel_rfl) (by kernel_rfl) (by kernel_rfl) (fun _ _ _ h => h) ⟨Or.inl ⟨by rfl, ?_⟩, fun _ => rfl⟩ ?_
      rotate_left
      · intro w
        go_simp
        try with_reducible rfl
      refine wpAnyIn_ready (rs := [1, 5]) (by kernel_rfl) (by simp) ?_
      refine AllReadyIn.cons rfl (fun K hK => ?_) ?_
      · go_simp
        refine hK _ _ ?_; clear hK K
        refine wpAnyIn_take (i := 3) (v := ?_) hro rfl (by kernel_rfl) (by kernel_rfl) (by kernel_rfl) (fun _ _ _ h => h) ⟨Or.inl ⟨by rfl, ?_⟩, fun _ => rfl⟩ ?_
        rotate_left
        · intro w
          go_simp
          try with_reducible rfl
        refine wpAnyIn_ready (rs := [4, 5]) (by kernel_rfl) (by simp) ?_
        refine AllReadyIn.cons rfl (fun K hK => ?_) ?_
        · go_simp
          refine hK _ _ ?_; clear hK K
          refine wpAnyIn_ready (rs := [5]) (by kernel_rfl) (by simp) ?_
          refine AllReadyIn.cons rfl (fun K hK => ?_) ?_
          · go_simp
            refine hK _ _ ?_; clear hK K
            refine wpAnyIn_take (i := 8) (v := ?_) hro rfl (by kernel_rfl) (by kernel_rfl) (by kernel_rfl) (fun _ _ _ h => h) ⟨Or.inl ⟨by rfl, ?_⟩, fun _ => rfl⟩ ?_
            rotate_left
            · intro w
              go_simp
              try with_reducible rfl
            refine wpAnyIn_ready (rs := [9]) (by kernel_rfl) (by simp) ?_
            refine AllReadyIn.cons rfl (fun K hK => ?_) ?_
            · go_simp
              refine hK _ _ ?_; clear hK K
              refine wpAnyIn_ready (rs := [10]) (by kernel_rfl) (by simp) ?_
              refine AllReadyIn.cons rfl (fun K hK => ?_) ?_
              · go_simp
                refine RoundIn.mono hR2 ?_
                rintro e_ W3 ⟨b, rfl, hb3⟩
                refine hK _ _ ?_; clear hK K
                refine wpAnyIn_take (i := 11) (v := ?_) hro rfl (by kernel_rfl) (by kernel_rfl) (by kernel_rfl) (fun _ _ _ h => h) ⟨Or.inl ⟨by rfl, ?_⟩, fun _ => rfl⟩ ?_
                rotate_left
                · intro w
                  go_simp
                  try with_reducible rfl
                refine wpAnyIn_done (by kernel_rfl) ?_ _
                rcases hb3 with ⟨rfl, hJ3, hk3⟩ | ⟨rfl, hJx3⟩
                · gi_wp2
                  go_roundw
                  case rel => exact ⟨k + 1, by omega, by rw [← hi] at *; exact val_two k (by omega), by rw [hts]; exact hJ3, hKt (hKt hnx (hKd wr)) hk3⟩
                  case measure => rw [← hi]; exact mea_two k d.length (by omega) (by omega)
                · gi_wp2
                  refine bodyPost_ret (results_none rfl _ _ _) rfl ?_
                  exact ⟨⟨_, rfl⟩, .inr ⟨_, ⟨k + 1, by omega, hts.symm⟩, hJx3⟩⟩
              exact AllReadyIn.nil
            exact AllReadyIn.nil
          exact AllReadyIn.nil
        refine AllReadyIn.cons rfl (fun K hK => ?_) ?_
        · go_simp
          refine hK _ _ ?_; clear hK K
          refine wpAnyIn_take (i := 8) (v := ?_) hro rfl (by kernel_rfl) (by kernel_rfl) (by kernel_rfl) (fun _ _ _ h => h) ⟨Or.inl ⟨by rfl, ?_⟩, fun _ => rfl⟩ ?_
          rotate_left
          · intro w
            go_simp
            try with_reducible rfl
          refine wpAnyIn_ready (rs := [4, 9]) (by kernel_rfl) (by simp) ?_
          refine AllReadyIn.cons rfl (fun K hK => ?_) ?_
          · go_simp
            refine hK _ _ ?_; clear hK K
            refine wpAnyIn_ready (rs := [9]) (by kernel_rfl) (by simp) ?_
            refine AllReadyIn.cons rfl (fun K hK => ?_) ?_
            · go_simp
              refine hK _ _ ?_; clear hK K
              refine wpAnyIn_ready (rs := [10]) (by kernel_rfl) (by simp) ?_
              refine AllReadyIn.cons rfl (fun K hK => ?_) ?_
              · go_simp
                refine RoundIn.mono hR2 ?_
                rintro e_ W3 ⟨b, rfl, hb3⟩
                refine hK _ _ ?_; clear hK K
                refine wpAnyIn_take (i := 11) (v := ?_) hro rfl (by kernel_rfl) (by kernel_rfl) (by kernel_rfl) (fun _ _ _ h => h) ⟨Or.inl ⟨by rfl, ?_⟩, fun _ => rfl⟩ ?_
                rotate_left
                · intro w
                  go_simp
                  try with_reducible rfl
                refine wpAnyIn_done (by kernel_rfl) ?_ _
                rcases hb3 with ⟨rfl, hJ3, hk3⟩ | ⟨rfl, hJx3⟩
                · gi_wp2
                  go_roundw
                  case rel => exact ⟨k + 1, by omega, by rw [← hi] at *; exact val_two k (by omega), by rw [hts]; exact hJ3, hKt (hKt hnx (hKd wr)) hk3⟩
                  case measure => rw [← hi]; exact mea_two k d.length (by omega) (by omega)
                · gi_wp2
                  refine bodyPost_ret (results_none rfl _ _ _) rfl ?_
                  exact ⟨⟨_, rfl⟩, .inr ⟨_, ⟨k + 1, by omega, hts.symm⟩, hJx3⟩⟩
              exact AllReadyIn.nil
            exact AllReadyIn.nil
          refine AllReadyIn.cons rfl (fun K hK => ?_) ?_
          · go_simp
            refine hK _ _ ?_; clear hK K
            refine wpAnyIn_ready (rs := [4]) (by kernel_rfl) (by simp) ?_
            refine AllReadyIn.cons rfl (fun K hK => ?_) ?_
            · go_simp
              refine hK _ _ ?_; clear hK K
              refine wpAnyIn_ready (rs := [10]) (by kernel_rfl) (by simp) ?_
              refine AllReadyIn.cons rfl (fun K hK => ?_) ?_
              · go_simp
                refine RoundIn.mono hR2 ?_
                rintro e_ W3 ⟨b, rfl, hb3⟩
                refine hK _ _ ?_; clear hK K
                refine wpAnyIn_take (i := 11) (v := ?_) hro rfl (by kernel_rfl) (by kernel_rfl) (by kernel_rfl) (fun _ _ _ h => h) ⟨Or.inl ⟨by rfl, ?_⟩, fun _ => rfl⟩ ?_
                rotate_left
                · intro w
                  go_simp
                  try with_reducible rfl
                refine wpAnyIn_done (by kernel_rfl) ?_ _
                rcases hb3 with ⟨rfl, hJ3, hk3⟩ | ⟨rfl, hJx3⟩
                · gi_wp2
                  go_roundw
                  case rel => exact ⟨k + 1, by omega, by rw [← hi] at *; exact val_two k (by omega), by rw [hts]; exact hJ3, hKt (hKt hnx (hKd wr)) hk3⟩
                  case measure => rw [← hi]; exact mea_two k d.length (by omega) (by omega)
                · gi_wp2
                  refine bodyPost_ret (results_none rfl _ _ _) rfl ?_
                  exact ⟨⟨_, rfl⟩, .inr ⟨_, ⟨k + 1, by omega, hts.symm⟩, hJx3⟩⟩
              exact AllReadyIn.nil
            exact AllReadyIn.nil
          exact AllReadyIn.nil
        exact AllReadyIn.nil
      refine AllReadyIn.cons rfl (fun K hK => ?_) ?_
      · go_simp
        refine hK _ _ ?_; clear hK K
        refine wpAnyIn_take (i := 8) (v := ?_) hro rfl (by kernel_rfl) (by kernel_rfl) (by kernel_rfl) (fun _ _ _ h => h) ⟨Or.inl ⟨by rfl, ?_⟩, fun _ => rfl⟩ ?_
        rotate_left
        · intro w
          go_simp
          try with_reducible rfl
        refine wpAnyIn_ready (rs := [1, 9]) (by kernel_rfl) (by simp) ?_
        refine AllReadyIn.cons rfl (fun K hK => ?_) ?_
        · go_simp
          refine hK _ _ ?_; clear hK K
          refine wpAnyIn_take (i := 3) (v := ?_) hro rfl (by kernel_rfl) (by kernel_rfl) (by kernel_rfl) (fun _ _ _ h => h) ⟨Or.inl ⟨by rfl, ?_⟩, fun _ => rfl⟩ ?_
          rotate_left
          · intro w
            go_simp
            try with_reducible rfl
          refine wpAnyIn_ready (rs := [4, 9]) (by kernel_rfl) (by simp) ?_
          refine AllReadyIn.cons rfl (fun K hK => ?_) ?_
          · go_simp
            refine hK _ _ ?_; clear hK K
            refine wpAnyIn_ready (rs := [9]) (by kernel_rfl) (by simp) ?_
            refine AllReadyIn.cons rfl (fun K hK => ?_) ?_
            · go_simp
              refine hK _ _ ?_; clear hK K
              refine wpAnyIn_ready (rs := [10]) (by kernel_rfl) (by simp) ?_
              refine AllReadyIn.cons rfl (fun K hK => ?_) ?_
              · go_simp
                refine RoundIn.mono hR2 ?_
                rintro e_ W3 ⟨b, rfl, hb3⟩
                refine hK _ _ ?_; clear hK K
                refine wpAnyIn_take (i := 11) (v := ?_) hro rfl (by kernel_rfl) (by kernel_rfl) (by kernel_rfl) (fun _ _ _ h => h) ⟨Or.inl ⟨by rfl, ?_⟩, fun _ => rfl⟩ ?_
                rotate_left
                · intro w
                  go_simp
                  try with_reducible rfl
                refine wpAnyIn_done (by kernel_rfl) ?_ _
                rcases hb3 with ⟨rfl, hJ3, hk3⟩ | ⟨rfl, hJx3⟩
                · gi_wp2
                  go_roundw
                  case rel => exact ⟨k + 1, by omega, by rw [← hi] at *; exact val_two k (by omega), by rw [hts]; exact hJ3, hKt (hKt hnx (hKd wr)) hk3⟩
                  case measure => rw [← hi]; exact mea_two k d.length (by omega) (by omega)
                · gi_wp2
                  refine bodyPost_ret (results_none rfl _ _ _) rfl ?_
                  exact ⟨⟨_, rfl⟩, .inr ⟨_, ⟨k + 1, by omega, hts.symm⟩, hJx3⟩⟩
              exact AllReadyIn.nil
            exact AllReadyIn.nil
          refine AllReadyIn.cons rfl (fun K hK => ?_) ?_
          · go_simp
            refine hK _ _ ?_; clear hK K
            refine wpAnyIn_ready (rs := [4]) (by kernel_rfl) (by simp) ?_
            refine AllReadyIn.cons rfl (fun K hK => ?_) ?_
            · go_simp
              refine hK _ _ ?_; clear hK K
              refine wpAnyIn_ready (rs := [10]) (by kernel_rfl) (by simp) ?_
              refine AllReadyIn.cons rfl (fun K hK => ?_) ?_
              · go_simp
                refine RoundIn.mono hR2 ?_
                rintro e_ W3 ⟨b, rfl, hb3⟩
                refine hK _ _ ?_; clear hK K
                refine wpAnyIn_take (i := 11) (v := ?_) hro rfl (by kernel_rfl) (by kernel_rfl) (by kernel_rfl) (fun _ _ _ h => h) ⟨Or.inl ⟨by rfl, ?_⟩, fun _ => rfl⟩ ?_
                rotate_left
                · intro w
                  go_simp
                  try with_reducible rfl
                refine wpAnyIn_done (by kernel_rfl) ?_ _
                rcases hb3 with ⟨rfl, hJ3, hk3⟩ | ⟨rfl, hJx3⟩
                · gi_wp2
                  go_roundw
                  case rel => exact ⟨k + 1, by omega, by rw [← hi] at *; exact val_two k (by omega), by rw [hts]; exact hJ3, hKt (hKt hnx (hKd wr)) hk3⟩
                  case measure => rw [← hi]; exact mea_two k d.length (by omega) (by omega)
                · gi_wp2
                  refine bodyPost_ret (results_none rfl _ _ _) rfl ?_
                  exact ⟨⟨_, rfl⟩, .inr ⟨_, ⟨k + 1, by omega, hts.symm⟩, hJx3⟩⟩
              exact AllReadyIn.nil
            exact AllReadyIn.nil
          exact AllReadyIn.nil
        refine AllReadyIn.cons rfl (fun K hK => ?_) ?_
        · go_simp
          refine hK _ _ ?_; clear hK K
          refine wpAnyIn_ready (rs := [1]) (by kernel_rfl) (by simp) ?_
          refine AllReadyIn.cons rfl (fun K hK => ?_) ?_
          · go_simp
            refine hK _ _ ?_; clear hK K
            refine wpAnyIn_take (i := 3) (v := ?_) hro rfl (by kernel_rfl) (by kernel_rfl) (by kernel_rfl) (fun _ _ _ h => h) ⟨Or.inl ⟨by rfl, ?_⟩, fun _ => rfl⟩ ?_
            rotate_left
            · intro w
              go_simp
              try with_reducible rfl
            refine wpAnyIn_ready (rs := [4]) (by kernel_rfl) (by simp) ?_
            refine AllReadyIn.cons rfl (fun K hK => ?_) ?_
            · go_simp
              refine hK _ _ ?_; clear hK K
              refine wpAnyIn_ready (rs := [10]) (by kernel_rfl) (by simp) ?_
              refine AllReadyIn.cons rfl (fun K hK => ?_) ?_
              · go_simp
                refine RoundIn.mono hR2 ?_
                rintro e_ W3 ⟨b, rfl, hb3⟩
                refine hK _ _ ?_; clear hK K
                refine wpAnyIn_take (i := 11) (v := ?_) hro rfl (by kernel_rfl) (by kernel_rfl) (by kernel_rfl) (fun _ _ _ h => h) ⟨Or.inl ⟨by rfl, ?_⟩, fun _ => rfl⟩ ?_
                rotate_left
                · intro w
                  go_simp
                  try with_reducible rfl
                refine wpAnyIn_done (by kernel_rfl) ?_ _
                rcases hb3 with ⟨rfl, hJ3, hk3⟩ | ⟨rfl, hJx3⟩
                · gi_wp2
                  go_roundw
                  case rel => exact ⟨k + 1, by omega, by rw [← hi] at *; exact val_two k (by omega), by rw [hts]; exact hJ3, hKt (hKt hnx (hKd wr)) hk3⟩
                  case measure => rw [← hi]; exact mea_two k d.length (by omega) (by omega)
                · gi_wp2
                  refine bodyPost_ret (results_none rfl _ _ _) rfl ?_
                  exact ⟨⟨_, rfl⟩, .inr ⟨_, ⟨k + 1, by omega, hts.symm⟩, hJx3⟩⟩
              exact AllReadyIn.nil
            exact AllReadyIn.nil
          exact AllReadyIn.nil
        exact AllReadyIn.nil
      exact AllReadyIn.nil
    · obtain rfl : k = d.length / 2 := by omega
      have q0 := eq_false (show ¬ (j : Int) < (d.length : Int) by omega)
      gi_wp2
      go_end0
      exact ⟨⟨_, rfl⟩, .inl ⟨_, rfl, hJs⟩⟩
end
abbrev Prs (d : List G44) : Type := {x : G44 × G44 // x.1 ∈ d ∧ x.2 ∈ d}
theorem prs_stops (F : Fence) (n : Nat) (hF : F.fn 35) (hro : F.round = none) (hn : 1 ≤ n) (hmix : Try.prog.follows .mixedOrders = true) (Bs : Nat) (A : Option Addr) (cap : Nat) (d : List G44) (hreach : d.length ≤ 1048576) (w : World) (hBs : Bs < w.heap.size)
    (Kp : World → World → Prop) (hKr : ∀ W, Kp W W) (hKt : ∀ {A B C : World}, Kp A B → Kp B C → Kp A C) (hKd : ∀ W : World, Kp W W.drew) (hKc : ∀ {W W' : World}, Kp W W' → ∀ {p : Addr} {v : Value}, (p.block = Bs ∨ ∃ ad, A = some ad ∧ p.block = ad.block) → W.cell? p = some v → W'.cell? p = some v)
    (hc : w.cell? ⟨Bs, 0, none⟩ = some (.slice A d.length cap)) (hI : Kd.C kG w A d.length d) :
    SeqStopsK F n Try.prog 35 #[.pointer (some ⟨Bs, 0, none⟩)] (fun x : Prs d => #[AG x.1.1, AG x.1.2]) Kp (fun ys => ys.map Subtype.val = prsL d (d.length / 2))
      (fun pre => ∃ k, k ≤ d.length / 2 ∧ pre.map Subtype.val = prsL d k) (d.length / 2) w := fun l J Jx W hW hJa _ hY h0 => by
  refine (prs1_in F n hF hro hn hmix l Bs A d.length cap d rfl hreach Kp hKr hKt hKd hKc (fun pre W => ∃ p : List (Prs d), p.map Subtype.val = pre ∧ J p W) (fun pre W => ∃ p : List (Prs d), p.map Subtype.val = pre ∧ Jx p W) (fun pre W h => by
    obtain ⟨p, e, h⟩ := h
    exact ⟨p, e, hJa p W _ none h ⟨rfl, rfl, rfl, Nat.le_refl _, fun _ _ _ => rfl⟩ (fun r e => by cases e)⟩) ?_ W ((hW.cell (p := ⟨Bs, 0, none⟩) hBs).trans hc) (Kd.C_below hI hW) ⟨[], rfl, h0⟩).mono ?_
  · rintro pre x W1 ⟨p, rfl, hJ⟩ hlt hx
    rw [List.length_map] at hlt
    obtain ⟨fn, tmps, assign, body, hy, hR⟩ := hY p ⟨x, hx⟩ W1 hJ hlt
    refine ⟨fn, tmps, assign, body, hy, hR.mono ?_⟩
    rintro e W3 (⟨rfl, hJ3, hk3⟩ | ⟨rfl, hJx3⟩)
    · exact .inl ⟨rfl, ⟨p ++ [⟨x, hx⟩], by simp, hJ3⟩, hk3⟩
    · exact .inr ⟨rfl, ⟨p ++ [⟨x, hx⟩], by simp, hJx3⟩⟩
  · rintro e W' ⟨hv, ⟨ys, rfl, p, e1, h1⟩ | ⟨pre, ⟨k, hk, rfl⟩, p, e1, h1⟩⟩
    · exact ⟨hv, .inl ⟨p, e1, h1⟩⟩
    · exact ⟨hv, .inr ⟨p, ⟨k, hk, e1⟩, h1⟩⟩
section
attribute [local go_sem] Oper.semAt_some
set_option maxHeartbeats 1000000 in
/-- limit.pairs: the slice is boxed; the function value has caught the box. -/
theorem prs_in (F : Fence) (n : Nat) (hF : F.fn 22) (hro : F.round = none) (a : Option Addr) (len cap : Nat) (w : World) :
    CallsIn F n Try.prog 22 #[.slice a len cap] w fun e w' => e = .returned (.func (.func 35) #[] #[.pointer (some ⟨w.heap.size, 0, none⟩)]) ∧ w' = w.alloc (.cells #[.slice a len cap] 42) := by
  refine callsIn_of_wp Try.func22 rfl hF ?_ hro
  simp only [Try.ntmps22, List.size_toArray, List.length_cons, List.length_nil, Nat.reduceAdd, Nat.reduceSub, Array.replicate_succ, Array.replicate_zero, List.push_toArray, List.append_toArray, List.nil_append, List.cons_append]
  gi_wp2
  go_ret
  exact ⟨rfl, rfl⟩
end
end Go.Proofs.Ytdgpcjhincgijaa.Pr

-- YtdgpcjhincgijaaLm4
namespace Go.Proofs.Ytdgpcjhincgijaa.Pr
open Go.RowKit Go.Shelf Go.Proofs.YtdgpcjhincgijaaW.PrintWords Go.Proofs.YtdgpcjhincgijaaW.PrintLast Go.Proofs.YtdgpcjhincgijaaW.PrintMore
set_option linter.unusedVariables false
set_option linter.unusedSimpArgs false
/-! ### Packs and their rows -/
def pl (g : G44) : Int × List Int := (g.f0, g.l)
/-- A pack's row is read: its block holds numbers. -/
def InAt (W : World) (g : G44) : Prop := g.n = g.l.length ∧ (Kd.int .i64).C W g.A g.l.length g.l ∧ ∀ ad, g.A = some ad → ∃ cells, W.heap[ad.block]? = some (.cells cells 3 (0, 0))
theorem C_eq {A : Option Addr} {n : Nat} {xs : List Int} {W W' : World} (h : (Kd.int .i64).C W A n xs) (hk : ∀ ad, A = some ad → W'.heap[ad.block]? = W.heap[ad.block]?) : (Kd.int .i64).C W' A n xs := by
  obtain ⟨h1, h2, h3⟩ := h
  refine ⟨h1, h2, fun hn => ?_⟩
  obtain ⟨a, ha, hx⟩ := h3 hn
  refine ⟨a, ha, fun i p hp => ?_⟩
  obtain ⟨cs, hcs, hK, hcell⟩ := hx i p hp
  refine ⟨cs, hcs, hK, fun j u hu => ?_⟩
  have := hcell j u hu
  have hb := hk a ha
  rw [← this]
  have e : (a.add (i * (Kd.int .i64).sz + j)).block = a.block := add_block _ _
  unfold World.cell?
  rw [e, hb]
theorem InAt.eq {W W' : World} {g : G44} (h : InAt W g) (hk : ∀ k : Nat, (∃ cells, W.heap[k]? = some (.cells cells 3 (0, 0))) → W'.heap[k]? = W.heap[k]?) : InAt W' g :=
  ⟨h.1, C_eq h.2.1 (fun ad e => hk _ (h.2.2 ad e)), fun ad e => by
    obtain ⟨c, hc⟩ := h.2.2 ad e
    exact ⟨c, (hk _ ⟨c, hc⟩).trans hc⟩⟩
theorem InAt.below {W W' : World} {g : G44} (h : InAt W g) (hb : Below W.heap.size W W') : InAt W' g := h.eq fun k ⟨_, hc⟩ => hb.block k (blk_lt hc)
theorem InAt.grown {W W' : World} {g : G44} (h : InAt W g) {row : Option Nat} (hg : W.grownBy W' row) (hr : ∀ r, row = some r → ∃ cells, W.heap[r]? = some (.cells cells 44 (0, 0))) : InAt W' g := h.eq fun k ⟨_, hc⟩ => hg.block k (blk_lt hc) fun e => by
  obtain ⟨c2, hc2⟩ := hr k e.symm
  rw [hc] at hc2
  injection hc2 with h2
  injection h2 with _ h2 _
  exact absurd h2 (by decide)
/-- Each of a row's packs. -/
def InAll (W : World) (d : List G44) : Prop := ∀ g ∈ d, InAt W g
theorem InAll.below {W W' : World} {d : List G44} (h : InAll W d) (hb : Below W.heap.size W W') : InAll W' d := fun g hg => (h g hg).below hb
theorem InAll.grown {W W' : World} {d : List G44} (h : InAll W d) {row : Option Nat} (hg : W.grownBy W' row) (hr : ∀ r, row = some r → ∃ cells, W.heap[r]? = some (.cells cells 44 (0, 0))) : InAll W' d := fun g h2 => (h g h2).grown hg hr
theorem InAll.append {W : World} {d e : List G44} (h : InAll W d) (k : InAll W e) : InAll W (d ++ e) := fun g hg => by
  rcases List.mem_append.1 hg with hg | hg
  · exact h g hg
  · exact k g hg
/-! ### The symbols alone -/
def singL (l : List Int) (k : Nat) : List (Int × List Int) := ((List.range k).map fun j => (l.getD j 0, [(j : Int)])).filter fun x => decide (x.1 > 0)
theorem singL_succ (l : List Int) (k : Nat) : singL l (k + 1) = if l.getD k 0 > 0 then singL l k ++ [(l.getD k 0, [(k : Int)])] else singL l k := by
  unfold singL
  rw [List.range_succ, List.map_append, List.filter_append]
  by_cases h : l.getD k 0 > 0
  · rw [if_pos h]
    congr 1
    exact List.filter_cons_of_pos (by simpa using h)
  · rw [if_neg h]
    have : ((List.map (fun j => (l.getD j 0, [(j : Int)])) [k]).filter fun x => decide (x.1 > 0)) = [] := by
      rw [List.map_cons, List.map_nil, List.filter_cons_of_neg (by simpa using h), List.filter_nil]
    rw [this, List.append_nil]
theorem rd_getD (l : List Int) (k : Nat) : rd l (k : Int) = l.getD k 0 := by unfold rd; rw [Int.toNat_natCast]
/-! ### What Lengths tells, on lists -/
theorem singL_mem {l : List Int} {k : Nat} {p : Int × List Int} (h : p ∈ singL l k) : ∃ j : Nat, j < k ∧ p = (l.getD j 0, [(j : Int)]) ∧ l.getD j 0 > 0 := by
  unfold singL at h
  obtain ⟨h1, h2⟩ := List.mem_filter.1 h
  obtain ⟨j, hj, rfl⟩ := List.mem_map.1 h1
  exact ⟨j, List.mem_range.1 hj, rfl, of_decide_eq_true h2⟩
/-- One more bit for a symbol; for each of a row's. -/
def bump (out : List Int) (s : Int) : List Int := out.set s.toNat (out.getD s.toNat 0 + 1)
def bumps (out : List Int) (r : List Int) : List Int := r.foldl bump out
def zerosL (l : List Int) : List Int := List.replicate l.length 0
def wP (p : Int × List Int) : Int := p.1
/-- Packs, bought two at a time. -/
def pairP : List (Int × List Int) → List (Int × List Int)
  | a :: b :: t => (a.1 + b.1, a.2 ++ b.2) :: pairP t
  | _ => []
/-- What there is on each level. -/
inductive HaveRel (S : List (Int × List Int)) : Nat → List (Int × List Int) → Prop
  | zero : HaveRel S 0 []
  | succ {j : Nat} {Y Z : List (Int × List Int)} (h : HaveRel S j Y) (hs : Srt wP Z) (hb : Stb wP (S ++ pairP Y) Z) : HaveRel S (j + 1) Z
def LenIs (l : List Int) (most er : Int) (r : List Int) : Prop :=
  (¬ (oftenS l = true ∧ 1 ≤ most ∧ most ≤ 15) ∧ er = 2 ∧ r = []) ∨
  (oftenS l = true ∧ ∃ m : Nat, most = (m : Int) ∧ 1 ≤ m ∧ m ≤ 15 ∧
    ((2 ^ m < (singL l l.length).length ∧ er = 11 ∧ r = []) ∨
     ((singL l l.length).length ≤ 2 ^ m ∧ er = 0 ∧
       ((singL l l.length = [] ∧ r = zerosL l) ∨
        (∃ (x : Int) (j : Nat), j < l.length ∧ singL l l.length = [(x, [(j : Int)])] ∧ r = (zerosL l).set j 1) ∨
        (2 ≤ (singL l l.length).length ∧ ∃ S hs, Srt wP S ∧ Stb wP (singL l l.length) S ∧ HaveRel S m hs ∧ 2 * (singL l l.length).length - 2 ≤ hs.length ∧
          r = (hs.take (2 * (singL l l.length).length - 2)).foldl (fun out p => bumps out p.2) (zerosL l))))))
theorem lenIs_arg {l : List Int} {most : Int} (h : ¬ (oftenS l = true ∧ 1 ≤ most ∧ most ≤ 15)) : LenIs l most 2 [] := .inl ⟨h, rfl, rfl⟩
end Go.Proofs.Ytdgpcjhincgijaa.Pr

