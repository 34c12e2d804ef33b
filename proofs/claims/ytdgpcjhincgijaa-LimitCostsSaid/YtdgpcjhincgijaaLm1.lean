-- A text by hand (wip/limit).
import Derived.RangeFuncNested
import Derived.RangeFuncBound
import Derived.RangeFuncCalls
import Derived.RangeFuncLeaves
import Derived.RangeFuncBox
import Derived.Shelf.Abstract
import Derived.Shelf.RegionOpen
import Derived.OwnWalkIn
import Derived.TacticsInMore
import Derived.LoopNIn
import Derived.LoopIn
import Derived.Test.YtdgpcjhincgijaaPr0
import Derived.Test.YtdgpcjhincgijaaLs7
namespace Go.Proofs.Ytdgpcjhincgijaa.Pr
open Go.RowKit Go.Shelf Go.Proofs.YtdgpcjhincgijaaW.PrintWords Go.Proofs.YtdgpcjhincgijaaW.PrintLast Go.Proofs.YtdgpcjhincgijaaW.PrintMore
set_option linter.unusedVariables false
set_option linter.unusedSimpArgs false
section
attribute [local go_sem] Oper.semAt_some
theorem info44 : (Try.prog.info? 44).map (fun i => (i.zero, i.size, i.bytes)) = some (some (.agg #[(.int .i64 0), (.slice none 0 0)]), 2, 32) := by kernel_rfl
set_option maxHeartbeats 16000000 in
set_option maxRecDepth 1000000 in
theorem cmp44_calls (x y : G44) (w : World) : Calls Try.prog 34 #[.agg #[.int .i64 x.f0, .slice x.A x.n x.c], .agg #[.int .i64 y.f0, .slice y.A y.n y.c]] w fun e w' => e = .returned (.int .i64 (wrap64 (x.f0 - y.f0))) ∧ Below w.heap.size w w' := by
  have HB := Aside0.mk (Below.refl w.heap.size w)
  go_enter Try.func34, Try.ntmps34
  go_wp2_with (first
        | ((with_reducible refine gate_dst (N := 2) rfl ?_); refine box_event ?hg (N := 2) ?hd (cs := #[.int .i64 x.f0, .slice x.A x.n x.c]) (t := 44) ?hr ?_; (case hd => rfl); (case hg => rfl); (case hr => first | (go_simp; done) | (go_simp; rfl)); intro gx hg_ w2 hbox hb; have n0 := Aside0.mk (below_then HB.out HB.out.size hb); have n1 := Aside0.mk (hbox); clear HB; have HB := n0; have BX := n1; clear n0 n1; clear hg_ hbox hb; have hcgx0 : w2.cell? ⟨gx, 0, none⟩ = some (.int .i64 x.f0) := (blk_cell BX.out 0).trans rfl; have hcgx1 : w2.cell? ⟨gx, 1, none⟩ = some (.slice x.A x.n x.c) := (blk_cell BX.out 1).trans rfl)
        | ((with_reducible refine gate_dst (N := 3) rfl ?_); refine box_event ?hg (N := 3) ?hd (cs := #[.int .i64 y.f0, .slice y.A y.n y.c]) (t := 44) ?hr ?_; (case hd => rfl); (case hg => rfl); (case hr => first | (go_simp; done) | (go_simp; rfl)); intro gy hg_ w3 hbox hb; have n0 := Aside0.mk (below_then HB.out HB.out.size hb); have n1 := Aside0.mk (blk_below BX.out hb); have n2 := Aside0.mk (hbox); clear HB BX; have HB := n0; have BX := n1; have BY := n2; clear n0 n1 n2; clear hg_ hbox hb; clear hcgx0 hcgx1; have hcgx0 : w3.cell? ⟨gx, 0, none⟩ = some (.int .i64 x.f0) := (blk_cell BX.out 0).trans rfl; have hcgx1 : w3.cell? ⟨gx, 1, none⟩ = some (.slice x.A x.n x.c) := (blk_cell BX.out 1).trans rfl; have hcgy0 : w3.cell? ⟨gy, 0, none⟩ = some (.int .i64 y.f0) := (blk_cell BY.out 0).trans rfl; have hcgy1 : w3.cell? ⟨gy, 1, none⟩ = some (.slice y.A y.n y.c) := (blk_cell BY.out 1).trans rfl)
        )
  go_ret
  exact ⟨rfl, HB.out⟩
def PDm (x : G44) : Prop := 0 ≤ x.f0 ∧ x.f0 ≤ 2305843009213693952
def kF (x : G44) : Int := x.f0
theorem cmp44_ok (g3 go : Nat) (W : World) : CmpOk kF PDm g3 go W := fun W' _ x y hx hy => by
  refine (cmp44_calls x y W').mono ?_
  rintro e w ⟨rfl, hb⟩
  refine ⟨_, rfl, ?_, hb⟩
  obtain ⟨h1, h2⟩ := hx
  obtain ⟨h3, h4⟩ := hy
  unfold kF wrap64
  omega
set_option maxHeartbeats 16000000 in
set_option maxRecDepth 1000000 in
theorem sorted_calls (go cap base : Nat) (ok : Nat → Prop) (d : List G44) (W : World) (hR : Kd.R kG 44 W base ok (.slice (some ⟨go, 0, none⟩) d.length cap) d) (hD : ∀ x ∈ d, PDm x) (hl : d.length ≤ 1048576) :
    Calls Try.prog 20 #[.slice (some ⟨go, 0, none⟩) d.length cap] W fun e W' => e = .returned (.slice (some ⟨go, 0, none⟩) d.length cap) ∧ (∃ Z, Srt kF Z ∧ Stb kF d Z ∧ Kd.R kG 44 W' base ok (.slice (some ⟨go, 0, none⟩) d.length cap) Z) ∧ W.grownBy W' (some go) := by
  have HO := Aside0.mk hR
  have HD := Aside0.mk hD
  have HL := Aside0.mk hl
  clear hR hD hl
  go_enter Try.func20, Try.ntmps20
  go_wp2_with (go_at_call 33; refine (sortStable_calls kF PDm 0 go base d.length cap ok d _ HO.out HL.out HD.out (cmp44_ok 0 go _) (fun a m b => sym_ok kF _ 0 go base d.length cap _ _ a m b rfl)).mono ?_; rintro e_ w3 ⟨rfl, ho, hg⟩; have HO1 := Aside0.mk ho; have HG1 := Aside0.mk hg; clear ho hg)
  go_ret
  exact ⟨rfl, HO1.out, HG1.out⟩
theorem wrap64_id {n : Int} (h1 : -9223372036854775808 ≤ n) (h2 : n < 9223372036854775808) : wrap64 n = n := by
  unfold wrap64
  omega
theorem val_next (k : Nat) (h : k < 1000000000) : Value.int .i64 (wrap64 ((k : Int) + 1)) = Value.int .i64 ((k + 1 : Nat) : Int) := by
  rw [wrap64_id (by omega) (by omega), show (k : Int) + 1 = ((k + 1 : Nat) : Int) by omega]
theorem nat_next (k : Nat) (h : k < 1000000000) : (intOf (Value.int .i64 (wrap64 ((k : Int) + 1)))).toNat = k + 1 := by
  rw [val_next k h]
  exact Int.toNat_natCast _
def badF (n : Int) : Bool := decide (n < 0) || decide (n > 4294967295)
def badL (l : List Int) : Bool := l.any badF
set_option maxHeartbeats 16000000 in
set_option maxRecDepth 1000000 in
theorem oft1_calls (n : Int) (w : World) : Calls Try.prog 32 #[.int .i64 n] w fun e w' => e = .returned (.bool (badF n)) ∧ w' = w := by
  unfold badF
  by_cases h0 : n < 0
  · have q0 := eq_true h0
    rw [decide_eq_true h0]
    go_enter Try.func32, Try.ntmps32
    go_wp2
    go_ret
    exact ⟨rfl, rfl⟩
  · have q0 := eq_false h0
    rw [decide_eq_false h0]
    by_cases h1 : n > 4294967295
    · have q1 := eq_true h1
      have q2 := eq_true (show (4294967295 : Int) < n from h1)
      rw [decide_eq_true h1]
      go_enter Try.func32, Try.ntmps32
      go_wp2
      go_ret
      exact ⟨rfl, rfl⟩
    · have q1 := eq_false h1
      have q2 := eq_false (show ¬ (4294967295 : Int) < n from h1)
      rw [decide_eq_false h1]
      go_enter Try.func32, Try.ntmps32
      go_wp2
      go_ret
      exact ⟨rfl, rfl⟩
theorem takeI (xs : List Int) {k : Nat} (hk : k < xs.length) : xs.take (k + 1) = xs.take k ++ [rd xs (k : Int)] := by
  rw [List.take_add_one]
  unfold rd
  rw [Int.toNat_natCast, List.getD_eq_getElem?_getD, List.getElem?_eq_getElem hk]
  rfl
set_option maxHeartbeats 16000000 in
set_option maxRecDepth 1000000 in
theorem ixf_calls (A : Option Addr) (c : Nat) (l : List Int) (w : World) (hI : (Kd.int .i64).C w A l.length l) (hl : l.length ≤ 1048576) :
    Calls Try.prog 39 #[.slice A l.length c, .func (.func 32) #[] #[]] w fun e w' => (∃ r : Int, e = .returned (.int .i64 r) ∧ ((r = -1 ∧ badL l = false) ∨ (0 ≤ r ∧ badL l = true))) ∧ w' = w := by
  have HI := Aside0.mk hI
  clear hI
  go_enter Try.func39, Try.ntmps39
  go_wp2
  go_loopw [8] (fun v8 w' => ∃ k : Nat, k ≤ l.length ∧ v8 = .int .i64 (k : Int) ∧ Aside0 (badL (l.take k) = false) ∧ w' = w)
    (fun v8 _ => l.length + 1 - (intOf v8).toNat)
  case atStart => exact ⟨0, by omega, rfl, ⟨by simp [badL]⟩, rfl⟩
  case round =>
    obtain ⟨k, hk, rfl, HN, rfl⟩ := hrel
    by_cases hlt : k < l.length
    · obtain ⟨ad, ead, hx0⟩ := Kd.at_int HI.out (k : Int) (by omega) (by omega)
      subst ead
      rw [Int.toNat_natCast] at hx0
      have HT := Aside0.mk (takeI l hlt)
      obtain ⟨x, hx⟩ : ∃ x, rd l (k : Int) = x := ⟨_, rfl⟩
      rw [hx] at hx0 HT
      have q0 := eq_true (show (k : Int) < (l.length : Int) by omega)
      have q1 := eq_true (show (0 : Int) ≤ (k : Int) by omega)
      have q2 := eq_true hlt
      have HL := Aside0.mk hlt
      have HLL := Aside0.mk hl
      clear hx hk hl hlt
      obtain ⟨b, hb⟩ : ∃ b, badF x = b := ⟨_, rfl⟩
      have HBF := Aside0.mk hb
      clear hb
      cases b with
      | true =>
        go_wp2_with (go_at_call 32; have hc := oft1_calls x wr; rw [HBF.out] at hc; refine hc.mono ?_; clear hc; rintro e w3 ⟨rfl, rfl⟩)
        go_ret
        refine ⟨⟨_, rfl, .inr ⟨by omega, ?_⟩⟩, rfl⟩
        have h1 : l = l.take (k + 1) ++ l.drop (k + 1) := (List.take_append_drop _ _).symm
        rw [h1, HT.out]
        unfold badL
        simp [HBF.out]
      | false =>
        go_wp2_with (go_at_call 32; have hc := oft1_calls x wr; rw [HBF.out] at hc; refine hc.mono ?_; clear hc; rintro e w3 ⟨rfl, rfl⟩)
        have hlt := HL.out
        go_roundw
        case rel => exact ⟨k + 1, by omega, val_next _ (by have := HLL.out; omega), ⟨by rw [HT.out]; have := HN.out; unfold badL at this ⊢; rw [List.any_append, this]; simp [HBF.out]⟩, by first | rfl | trivial⟩
        case measure => rw [nat_next _ (by have := HLL.out; omega)]; simp only [intOf, Int.toNat_natCast]; omega
    · obtain rfl : k = l.length := by omega
      have q0 := eq_false (show ¬ (l.length : Int) < (l.length : Int) by omega)
      go_wp2
      go_ret
      exact ⟨⟨_, rfl, .inl ⟨rfl, by have := HN.out; rwa [List.take_length] at this⟩⟩, rfl⟩
set_option maxHeartbeats 16000000 in
set_option maxRecDepth 1000000 in
theorem ctf_calls (A : Option Addr) (c : Nat) (l : List Int) (w : World) (hI : (Kd.int .i64).C w A l.length l) (hl : l.length ≤ 1048576) :
    Calls Try.prog 31 #[.slice A l.length c, .func (.func 32) #[] #[]] w fun e w' => e = .returned (.bool (badL l)) ∧ w' = w := by
  have HI := Aside0.mk hI
  clear hI
  obtain ⟨b, hb⟩ : ∃ b, badL l = b := ⟨_, rfl⟩
  have HBF := Aside0.mk hb
  rw [hb]
  clear hb
  go_enter Try.func31, Try.ntmps31
  cases b with
  | true =>
    go_wp2_with (go_at_call 39; refine (ixf_calls A c l w HI.out hl).mono ?_; rintro e w3 ⟨⟨r, rfl, hr⟩, rfl⟩; have hr0 : 0 ≤ r := (by rcases hr with ⟨_, h⟩ | ⟨h, _⟩; (rw [HBF.out] at h; cases h); exact h); have q0 := eq_true hr0; have q1 := eq_true (show r ≥ 0 from hr0); clear hr hr0)
    go_ret
    exact ⟨rfl, rfl⟩
  | false =>
    go_wp2_with (go_at_call 39; refine (ixf_calls A c l w HI.out hl).mono ?_; rintro e w3 ⟨⟨r, rfl, hr⟩, rfl⟩; have hr0 : r = -1 := (by rcases hr with ⟨h, _⟩ | ⟨_, h⟩; exact h; (rw [HBF.out] at h; cases h)); subst hr0; clear hr)
    go_ret
    exact ⟨rfl, rfl⟩
def oftenS (l : List Int) : Bool := decide (1 ≤ l.length ∧ l.length ≤ 288) && !badL l
set_option maxHeartbeats 16000000 in
set_option maxRecDepth 1000000 in
theorem often_calls (A : Option Addr) (c : Nat) (l : List Int) (w : World) (hI : (Kd.int .i64).C w A l.length l) :
    Calls Try.prog 19 #[.slice A l.length c] w fun e w' => e = .returned (.bool (oftenS l)) ∧ w' = w := by
  have HI := Aside0.mk hI
  clear hI
  unfold oftenS
  by_cases h1 : l.length < 1
  · have q0 := eq_true (show (l.length : Int) < 1 by omega)
    have e0 : (l.length : Int) = 0 := by omega
    rw [decide_eq_false (by omega), Bool.false_and]
    go_enter Try.func19, Try.ntmps19
    go_wp2
    go_ret
    exact ⟨rfl, rfl⟩
  · have q0 := eq_false (show ¬ (l.length : Int) < 1 by omega)
    have q00 := eq_false h1
    by_cases h2 : l.length > 288
    · have q1 := eq_true (show (l.length : Int) > 288 by omega)
      have q2 := eq_true (show (288 : Int) < (l.length : Int) by omega)
      have q3 := eq_true (show 288 < l.length by omega)
      rw [decide_eq_false (by omega), Bool.false_and]
      clear h1 h2
      go_enter Try.func19, Try.ntmps19
      go_wp2
      go_ret
      exact ⟨rfl, rfl⟩
    · have q1 := eq_false (show ¬ (l.length : Int) > 288 by omega)
      have q2 := eq_false (show ¬ (288 : Int) < (l.length : Int) by omega)
      have q3 := eq_false (show ¬ 288 < l.length by omega)
      rw [decide_eq_true (by omega), Bool.true_and]
      have HL := Aside0.mk (show l.length ≤ 1048576 by omega)
      clear h1 h2
      go_enter Try.func19, Try.ntmps19
      go_wp2_with (go_at_call 31; refine (ctf_calls A c l w HI.out HL.out).mono ?_; rintro e w3 ⟨rfl, rfl⟩)
      go_ret
      exact ⟨rfl, rfl⟩
end
end Go.Proofs.Ytdgpcjhincgijaa.Pr
