-- A text by hand (wip/limit).
import Derived.RangeFuncNested
import Derived.RangeFuncBound
import Derived.RangeFuncCalls
import Derived.RangeFuncLeaves
import Derived.RangeFuncBox
import Derived.Shelf.Abstract
import Derived.Shelf.RegionOpen
import Derived.OwnWalkIn
import Derived.TacticsInMore
import Derived.LoopNIn
import Derived.LoopIn
import Derived.Lib.SliceRun
import Derived.Test.YtdgpcjhincgijaaPr0
import Derived.Test.YtdgpcjhincgijaaLm1
import Derived.Test.YtdgpcjhincgijaaWZeros
namespace Go.Proofs.Ytdgpcjhincgijaa.Pr
open Go.RowKit Go.Shelf Go.Proofs.YtdgpcjhincgijaaW.PrintWords Go.Proofs.YtdgpcjhincgijaaW.PrintLast Go.Proofs.YtdgpcjhincgijaaW.PrintMore
set_option linter.unusedVariables false
set_option linter.unusedSimpArgs false
section
attribute [local go_sem] Oper.semAt_some
set_option maxHeartbeats 16000000 in
set_option maxRecDepth 1000000 in
theorem clone_calls (ad : Addr) (c : Nat) (d : List G44) (w : World) (hI : Kd.C kG w (some ad) d.length d) (hl : d.length ≤ 1048576) :
    Calls Try.prog 21 #[.slice (some ad) d.length c] w fun e w' => ∃ v, e = .returned v ∧ Kd.R kG 44 w' w.heap.size (fun _ => True) v d ∧ Below w.heap.size w w' := by
  have HR := Aside0.mk hI
  have HL := Aside0.mk hl
  clear hI hl
  have heq := fun W => Lib.run_eql_slice_nil (P := Try.prog) W 42 44 (some ad) d.length c 0 0 Try.underlying42
  have HB := Aside0.mk (Below.refl w.heap.size w)
  go_enter Try.func21, Try.ntmps21
  go_wp2_with (first
        | ((with_reducible refine gate_dst (N := 5) rfl ?_); refine Kd.R_lit (kG) (w0 := w) w.heap.size 44 ?hg (N := 5) ?hd (xs := ([] : List G44)) (inner := []) (ok := fun _ => True) (okp := fun _ => True) ?hr ?hp (fun _ hk => hk) trivial HB.out HB.out.size (by simp) ?_; (case hd => rfl); (case hg => rfl); (case hr => first | (go_simp; done) | (go_simp; rfl)); (case hp => exact (Reps.none _ _)); intro v1 w1 ho hb hg hat; obtain ⟨A1, d1, ev_⟩ := Kd.R_slice ho; subst ev_; have n0 := Aside0.mk (ho); have n1 := Aside0.mk (hb); have n2 := Aside0.mk (Kd.C_below HR.out hb); clear HB HR; have HO := n0; have HBn := n1; have HR := n2; clear n0 n1 n2; have HB := HBn; clear HBn ho hb hg hat)
        | ((with_reducible refine gate_builtin (b := .append) (xs := #[.tmp 5, .tmp 6]) rfl ?_); at_builtin; refine Kd.R_append_rows kG (w0 := w) w.heap.size rfl (.tmp 5) (.tmp 6) 42 44 (.agg #[(.int .i64 0), (.slice none 0 0)]) 32 rfl Try.underlying42 info44 rfl (by decide) (by omega) (.slice A1 (([] : List G44).length) d1) [] d (some ad) _ _ (fun _ => True) (fun _ => False) rfl rfl ?aO ?aR (fun _ _ h => h) (fun _ h => h.elim) ?aF ?aB ?aS ?aL ?_; (case aR => exact HR.out); (case aB => exact HB.out); (case aF => exact fun _ _ => trivial); (case aO => exact HO.out); (case aS => exact HB.out.size); (case aL => have := HL.out; simp; omega); intro v2 w2 ho hb hg hat; rw [List.nil_append] at ho; have n0 := Aside0.mk (ho); have n1 := Aside0.mk (hb); clear HO HB; have HO := n0; have HB := n1; clear n0 n1; clear ho hb hg hat)
        )
  go_ret
  exact ⟨_, rfl, HO.out, HB.out⟩
set_option maxHeartbeats 16000000 in
set_option maxRecDepth 1000000 in
theorem grow_nil (n : Nat) (w : World) (hn : n ≤ 1048576) :
    Calls Try.prog 36 #[.slice none 0 0, .int .i64 (n : Int)] w fun e w' => ∃ v, e = .returned v ∧ Kd.R (Kd.int .i64) 3 w' w.heap.size (fun _ => True) v [] ∧ Below w.heap.size w w' := by
  have q0 := eq_false (show ¬ (n : Int) < 0 by omega)
  have w0 : wrap64 (0 : Int) = 0 := wrap64_id (by omega) (by omega)
  have w1 : wrap64 ((0 : Int) - 0) = 0 := wrap64_id (by omega) (by omega)
  have w2 : wrap64 ((n : Int) - 0) = (n : Int) := by rw [Int.sub_zero]; exact wrap64_id (by omega) (by omega)
  have w3 : wrap64 (n : Int) = (n : Int) := wrap64_id (by omega) (by omega)
  by_cases h0 : n = 0
  · subst h0
    go_enter Try.func36, Try.ntmps36
    go_wp2
    go_ret
    exact ⟨_, rfl, Kd.R_nil _ _ _ _ _, Below.refl _ _⟩
  · have q1 := eq_true (show (n : Int) > 0 by omega)
    have q2 := eq_true (show (0 : Int) < (n : Int) by omega)
    have q3 := eq_true (show 0 < n by omega)
    have HB := Aside0.mk (Below.refl w.heap.size w)
    have HN := Aside0.mk hn
    clear h0 hn
    go_enter Try.func36, Try.ntmps36
    go_wp2_with ((with_reducible refine gate_builtin (b := .append) (xs := #[.tmp 20, .tmp 21]) rfl ?_); at_builtin; refine Kd.R_append_zeros (Kd.int .i64) (w0 := w) w.heap.size rfl (.tmp 20) (.tmp 21) 22 3 3 (.int .i64 0) 8 rfl Try.underlying22 Try.underlying3 info3 rfl (by decide) (by omega) (.slice none 0 0) [] (0 : Int) (wrap64 (n : Int)) (fun _ => True) rfl rfl rfl (fun _ _ => trivial) (Kd.R_nil _ _ _ _ _) ?h0 HB.out ?hs ?hl ?_; (case h0 => rw [w3]; omega); (case hs => exact HB.out.size); (case hl => have := HN.out; rw [w3]; simp; omega); intro v1 w1' ho hb hg hat; obtain ⟨A1, d1, ev_⟩ := Kd.R_slice ho; subst ev_; have HO := Aside0.mk (Kd.R_take (m := 0) ho (by omega)); have HB2 := Aside0.mk hb; clear ho hb hg hat)
    go_ret
    exact ⟨_, rfl, HO.out, HB2.out⟩
end
section
attribute [local go_sem] Oper.semAt_some
def acc2 (l1 l2 : List Int) (k : Nat) : List Int := if k = 0 then [] else if k = 1 then l1 else l1 ++ l2
theorem acc2_len (l1 l2 : List Int) (k : Nat) : (acc2 l1 l2 k).length ≤ l1.length + l2.length := by
  unfold acc2
  by_cases h0 : k = 0
  · rw [if_pos h0]; simp
  · rw [if_neg h0]
    by_cases h1 : k = 1
    · rw [if_pos h1]; omega
    · rw [if_neg h1, List.length_append]; omega
/-- The k-th of two rows. -/
theorem two_at {w : World} {ad : Addr} {A1 A2 : Option Addr} {c1 c2 : Nat} {l1 l2 : List Int} (h0 : w.cell? (ad.add 0) = some (.slice A1 l1.length c1)) (h1 : w.cell? (ad.add 1) = some (.slice A2 l2.length c2)) (hC1 : (Kd.int .i64).C w A1 l1.length l1) (hC2 : (Kd.int .i64).C w A2 l2.length l2) {k : Nat} (hk : k < 2) :
    ∃ (A : Option Addr) (c : Nat) (l : List Int), w.cell? (ad.add k) = some (.slice A l.length c) ∧ (Kd.int .i64).C w A l.length l ∧ acc2 l1 l2 (k + 1) = acc2 l1 l2 k ++ l ∧ (acc2 l1 l2 k).length + l.length ≤ l1.length + l2.length := by
  match k, hk with
  | 0, _ => exact ⟨A1, c1, l1, h0, hC1, rfl, by simp [acc2]⟩
  | 1, _ => exact ⟨A2, c2, l2, h1, hC2, rfl, by simp [acc2]⟩
set_option maxHeartbeats 16000000 in
set_option maxRecDepth 1000000 in
theorem concat2_calls (ad : Addr) (cap : Nat) (A1 A2 : Option Addr) (c1 c2 : Nat) (l1 l2 : List Int) (w : World) (h0 : w.cell? (ad.add 0) = some (.slice A1 l1.length c1)) (h1 : w.cell? (ad.add 1) = some (.slice A2 l2.length c2)) (hC1 : (Kd.int .i64).C w A1 l1.length l1) (hC2 : (Kd.int .i64).C w A2 l2.length l2) (hl : l1.length + l2.length ≤ 1000000) :
    Calls Try.prog 23 #[.slice (some ad) 2 cap] w fun e w' => ∃ v, e = .returned v ∧ Kd.R (Kd.int .i64) 3 w' w.heap.size (fun _ => True) v (l1 ++ l2) ∧ Below w.heap.size w w' := by
  have TW := Aside0.mk (fun {k : Nat} (hk : k < 2) => two_at h0 h1 hC1 hC2 hk)
  have HL := Aside0.mk hl
  clear h0 h1 hC1 hC2 hl
  go_enter Try.func23, Try.ntmps23
  go_wp2
  go_loopw [3, 11] (fun x3 x11 w' => ∃ k : Nat, k ≤ 2 ∧ x11 = .int .i64 (k : Int) ∧ x3 = .int .i64 ((acc2 l1 l2 k).length : Int) ∧ w' = w) (fun _ x11 _ => 3 - (intOf x11).toNat)
  case atStart => exact ⟨0, by omega, rfl, rfl, rfl⟩
  case round =>
    obtain ⟨k, hk, rfl, rfl, rfl⟩ := hrel
    by_cases hlt : k < 2
    · obtain ⟨A, c, l, hcell, hC, hacc, hlen⟩ := TW.out hlt
      have q0 := eq_true (show (k : Int) < 2 by omega)
      have q1 := eq_true (show (0 : Int) ≤ (k : Int) by omega)
      have q2 := eq_true hlt
      have hsum : wrap64 (((acc2 l1 l2 k).length : Int) + (l.length : Int)) = ((acc2 l1 l2 (k + 1)).length : Int) := by rw [hacc, List.length_append, wrap64_id (by have := HL.out; omega) (by have := HL.out; omega)]; omega
      have q3 := eq_false (show ¬ (((acc2 l1 l2 (k + 1)).length : Int) < 0) by omega)
      have HLT := Aside0.mk hlt
      clear hk hlt hacc hlen hC
      obtain ⟨s1, hs1⟩ : ∃ s1, (acc2 l1 l2 (k + 1)).length = s1 := ⟨_, rfl⟩
      obtain ⟨s0, hs0⟩ : ∃ s0, (acc2 l1 l2 k).length = s0 := ⟨_, rfl⟩
      rw [hs0, hs1] at hsum
      rw [hs1] at q3
      rw [hs0]
      go_wp2
      go_roundw
      case rel => exact ⟨k + 1, by have := HLT.out; omega, val_next _ (by have := HLT.out; omega), by rw [hsum, hs1], by first | rfl | trivial⟩
      case measure => rw [nat_next _ (by have := HLT.out; omega)]; simp only [intOf, Int.toNat_natCast]; have := HLT.out; omega
    · obtain rfl : k = 2 := by omega
      have q0 := eq_false (show ¬ ((2 : Nat) : Int) < 2 by omega)
      have HLE := Aside0.mk (show (acc2 l1 l2 2).length ≤ 1048576 by have := acc2_len l1 l2 2; have := HL.out; omega)
      clear hk hlt
      obtain ⟨wz, rfl⟩ : ∃ wz, wz = wr := ⟨_, rfl⟩
      have HB := Aside0.mk (Below.refl wz.heap.size wz)
      go_wp2_with (go_at_call 36; refine (grow_nil (acc2 l1 l2 2).length _ HLE.out).mono ?_; rintro e_ w3 ⟨v_, rfl, ho_, hb⟩; obtain ⟨A1, d1, ev_⟩ := Kd.R_slice ho_; subst ev_; have HO := Aside0.mk ho_; have HB3 := Aside0.mk hb; clear ho_ hb)
      clear HB
      go_loopw [6, 27] (fun x6 x27 w' => ∃ (k : Nat) (A : Option Addr) (c : Nat), k ≤ 2 ∧ x27 = .int .i64 (k : Int) ∧ x6 = .slice A (acc2 l1 l2 k).length c ∧ Aside0 (Kd.R (Kd.int .i64) 3 w' wz.heap.size (fun _ => True) (.slice A (acc2 l1 l2 k).length c) (acc2 l1 l2 k)) ∧ Aside0 (Below wz.heap.size wz w')) (fun _ x27 _ => 3 - (intOf x27).toNat)
      case atStart => exact ⟨0, A1, d1, by omega, rfl, rfl, HO, HB3⟩
      case round =>
        clear HO HB3
        obtain ⟨k, A, c, hk, rfl, rfl, HO, HB⟩ := hrel
        by_cases hlt : k < 2
        · obtain ⟨A', c', l, hcell, hC, hacc, hlen⟩ := TW.out hlt
          have HAC := Aside0.mk hacc
          have HCL := Aside0.mk hC
          have HLN := Aside0.mk hlen
          have HLT := Aside0.mk hlt
          have q0 := eq_true (show (k : Int) < 2 by omega)
          have q1 := eq_true (show (0 : Int) ≤ (k : Int) by omega)
          have q2 := eq_true hlt
          have hcell2 := pw_cell_below HB.out hcell
          clear hk hlt hacc hlen hC hcell
          obtain ⟨xs, hxs⟩ : ∃ xs, acc2 l1 l2 k = xs := ⟨_, rfl⟩
          rw [hxs] at HO HAC HLN
          rw [hxs]
          go_wp2_with ((with_reducible refine gate_builtin (b := .append) (xs := #[.tmp 31, .tmp 32]) rfl ?_); at_builtin; refine Kd.R_append_rows (Kd.int .i64) (w0 := wz) wz.heap.size rfl (.tmp 31) (.tmp 32) 22 3 (.int .i64 0) 8 rfl Try.underlying22 info3 rfl (by decide) (by omega) (.slice A xs.length c) xs l A' _ _ (fun _ => True) (fun _ => False) rfl rfl ?aO ?aR (fun _ _ h => h) (fun _ h => h.elim) ?aF ?aB ?aS ?aL ?_; (case aR => exact Kd.C_below HCL.out HB.out); (case aB => exact HB.out); (case aF => exact fun _ _ => trivial); (case aO => exact HO.out); (case aS => exact HB.out.size); (case aL => have := HLN.out; have := HL.out; omega); intro v2 w2 ho hb hg hat; obtain ⟨A2, d2, ev_⟩ := Kd.R_slice ho; subst ev_; have HO2 := Aside0.mk ho; have HB2 := Aside0.mk hb; clear ho hb hg hat)
          go_roundw
          case rel => exact ⟨k + 1, A2, d2, by have := HLT.out; omega, val_next _ (by have := HLT.out; omega), by rw [HAC.out, List.length_append], by rw [HAC.out]; exact HO2, HB2⟩
          case measure => rw [nat_next _ (by have := HLT.out; omega)]; simp only [intOf, Int.toNat_natCast]; have := HLT.out; omega
        · obtain rfl : k = 2 := by omega
          have q0 := eq_false (show ¬ ((2 : Nat) : Int) < 2 by omega)
          go_wp2
          go_ret
          exact ⟨_, rfl, HO.out, HB.out⟩
end
end Go.Proofs.Ytdgpcjhincgijaa.Pr
