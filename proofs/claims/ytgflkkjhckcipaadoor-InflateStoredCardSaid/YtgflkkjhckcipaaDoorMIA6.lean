-- Texts by hand and by programs of this session, joined (wip/tool/merge.py).
import Derived.Shelf.Abstract
import Derived.Shelf.RegionOpen
import Derived.OwnWalkIn
import Derived.TacticsInMore
import Derived.LoopNIn
import Derived.LoopIn
import Derived.Test.YtgflkkjhckcipaaDoorMIA5
import Derived.Recover
import Derived.Defers
import Derived.Stop.Asserts
import Derived.Test.YtgflkkjhckcipaaDoorMIA3
import Derived.RangeFuncNested
import Derived.RangeFuncBound
import Derived.RangeFuncCalls
import Derived.RangeFuncLeaves
import Derived.RangeFuncBox
-- YtgflkkjhckcipaaDoorIf2
namespace Go.Proofs.YtgflkkjhckcipaaDoor.Pr
open Go.RowKit Go.Shelf Go.Proofs.YtgflkkjhckcipaaDoorW.PrintWords Go.Proofs.YtgflkkjhckcipaaDoorW.PrintLast Go.Proofs.YtgflkkjhckcipaaDoorW.PrintMore
set_option linter.unusedVariables false
set_option linter.unusedSimpArgs false
section
attribute [local go_sem] Oper.semAt_some
set_option maxHeartbeats 16000000 in
set_option maxRecDepth 1000000 in
theorem rbits_calls (k : Nat) (w0 : World) (A : Option Addr) (c : Nat) (l : List Int) (hC : (Kd.int .u8).C w0 A l.length l) (hc : l.length ≤ c) (w : World) (g : Nat) (N at_ : Int) (v : Value) (out : List Int) (most : Int) (n r1 r2 : Int) (H : RdrAt w0 w g A c l N at_ v out most) (hf : bits_Get.f k l N at_ n = some (r1, r2)) :
    Calls Tryd.prog 26 #[.pointer (some ⟨g, 0, none⟩), .int .i64 n] w fun e w' => (r2 = 0 ∧ e = .returned (.int .i64 r1) ∧ RdrAt w0 w' g A c l N (wrap64 (at_ + n)) v out most ∧ Moved w w' g v v) ∨ (r2 ≠ 0 ∧ Gives w0.heap.size w w' r2 e) := by
  have HF := Aside0.mk hf
  clear hf
  have HB := Aside0.mk H.below
  have GE := Aside0.mk H.ge
  have H0 := Aside0.mk H.below.size
  have BG := Aside0.mk H.blk
  have HO := Aside0.mk H.row
  have HC := Aside0.mk hC
  have HCc := Aside0.mk hc
  have HW := Aside0.mk (Below.refl w.heap.size w)
  clear H hC hc
  have huR := Tryd.underlying51
  have huB := Tryd.underlying35
  by_cases h2 : r2 = 0
  · subst h2
    go_enter Tryd.func26, Tryd.ntmps26
    go_upto_region 1 with (fail)
    have n0 := Aside0.mk (below_drew1 HB.out)
    have n1 := Aside0.mk (blk_drew BG.out)
    have n2 := Aside0.mk (Kd.R_drew HO.out)
    have n3 := Aside0.mk (below_drew1 HW.out)
    clear HB BG HO HW
    have HB := n0
    have BG := n1
    have HO := n2
    have HW := n3
    clear n0 n1 n2 n3
    refine start_ (n := 15) (S := fun w' => w'.cell? ⟨g, 0, none⟩ = some (.slice A l.length c) ∧ w'.cell? ⟨g, 1, none⟩ = some (.int .i64 N) ∧ w'.cell? ⟨g, 2, none⟩ = some (.int .i64 at_)) (ds := []) #[false, false, false, false, false, false, false, false, false, false, false, false, false, false, false] (by kernel_rfl) rfl rfl ⟨(blk_cell BG.out 0).trans rfl, (blk_cell BG.out 1).trans rfl, (blk_cell BG.out 2).trans rfl⟩ (fun hHeld => ?_)
    generalize w.drew = wd at HB BG HO HW hHeld ⊢
    refine pure_ (i := 0) (N := some 8) (v := ?_) (a' := ?_) #[true, false, false, false, false, false, false, false, false, false, false, false, false, false, false] rfl rfl (by kernel_rfl) (fun _ _ _ h => h) (Or.inl ⟨by rfl, ?_⟩) ?_ ?_
    rotate_left
    · intro w'
      go_simp
      with_reducible rfl
    rotate_left
    · simp only [Act.put, List.setIfInBounds_toArray, List.set_cons_zero, List.set_cons_succ, i64_w, i32_w, u8_w]
      rfl
    refine pure_ (i := 1) (N := some 9) (v := ?_) (a' := ?_) #[true, true, false, false, false, false, false, false, false, false, false, false, false, false, false] rfl rfl (by kernel_rfl) (fun _ _ _ h => h) (Or.inl ⟨by rfl, ?_⟩) ?_ ?_
    rotate_left
    · intro w'
      go_simp
      with_reducible rfl
    rotate_left
    · simp only [Act.put, List.setIfInBounds_toArray, List.set_cons_zero, List.set_cons_succ, i64_w, i32_w, u8_w]
      rfl
    refine pure_ (i := 2) (N := some 10) (v := ?_) (a' := ?_) #[true, true, true, false, false, false, false, false, false, false, false, false, false, false, false] rfl rfl (by kernel_rfl) (fun _ _ _ h => h) (Or.inl ⟨by rfl, ?_⟩) ?_ ?_
    rotate_left
    · intro w'
      go_simp
      with_reducible rfl
    rotate_left
    · simp only [Act.put, List.setIfInBounds_toArray, List.set_cons_zero, List.set_cons_succ, i64_w, i32_w, u8_w]
      rfl
    refine pure_ (i := 4) (N := some 12) (v := ?_) (a' := ?_) #[true, true, true, false, true, false, false, false, false, false, false, false, false, false, false] rfl rfl (by kernel_rfl) (fun _ _ _ h => h) (Or.inl ⟨by rfl, ?_⟩) ?_ ?_
    rotate_left
    · intro w'
      go_simp
      with_reducible rfl
    rotate_left
    · simp only [Act.put, List.setIfInBounds_toArray, List.set_cons_zero, List.set_cons_succ, i64_w, i32_w, u8_w]
      rfl
    refine pure_ (i := 5) (N := some 13) (v := ?_) (a' := ?_) #[true, true, true, false, true, true, false, false, false, false, false, false, false, false, false] rfl rfl (by kernel_rfl) (fun _ _ _ h => h) (Or.inl ⟨by rfl, ?_⟩) ?_ ?_
    rotate_left
    · intro w'
      go_simp
      with_reducible rfl
    rotate_left
    · simp only [Act.put, List.setIfInBounds_toArray, List.set_cons_zero, List.set_cons_succ, i64_w, i32_w, u8_w]
      rfl
    refine pure_ (i := 6) (N := some 14) (v := ?_) (a' := ?_) #[true, true, true, false, true, true, true, false, false, false, false, false, false, false, false] rfl rfl (by kernel_rfl) (fun _ _ _ h => h) (Or.inl ⟨by rfl, ?_⟩) ?_ ?_
    rotate_left
    · intro w'
      go_simp
      with_reducible rfl
    rotate_left
    · simp only [Act.put, List.setIfInBounds_toArray, List.set_cons_zero, List.set_cons_succ, i64_w, i32_w, u8_w]
      rfl
    refine pure_ (i := 8) (N := some 16) (v := ?_) (a' := ?_) #[true, true, true, false, true, true, true, false, true, false, false, false, false, false, false] rfl rfl (by kernel_rfl) (fun _ _ _ h => h) (Or.inl ⟨by rfl, ?_⟩) ?_ ?_
    rotate_left
    · intro w'
      go_simp
      with_reducible rfl
    rotate_left
    · simp only [Act.put, List.setIfInBounds_toArray, List.set_cons_zero, List.set_cons_succ, i64_w, i32_w, u8_w]
      rfl
    refine take_ (i := 3) (N := some 11) (v := ?_) (a' := ?_) #[true, true, true, true, true, true, true, false, true, false, false, false, false, false, false] rfl rfl (by kernel_rfl) (fun _ _ _ h => h) (Or.inl ⟨by rfl, ?_⟩) hHeld ?_ ?_
    rotate_left
    · rintro w' ⟨s0, s1, s2⟩
      go_simp
      with_reducible rfl
    rotate_left
    · simp only [Act.put, List.setIfInBounds_toArray, List.set_cons_zero, List.set_cons_succ, i64_w, i32_w, u8_w]
      rfl
    refine take_ (i := 7) (N := some 15) (v := ?_) (a' := ?_) #[true, true, true, true, true, true, true, true, true, false, false, false, false, false, false] rfl rfl (by kernel_rfl) (fun _ _ _ h => h) (Or.inl ⟨by rfl, ?_⟩) hHeld ?_ ?_
    rotate_left
    · rintro w' ⟨s0, s1, s2⟩
      go_simp
      with_reducible rfl
    rotate_left
    · simp only [Act.put, List.setIfInBounds_toArray, List.set_cons_zero, List.set_cons_succ, i64_w, i32_w, u8_w]
      rfl
    refine one_ (i := 9) (N := some 17) #[true, true, true, true, true, true, true, true, true, true, false, false, false, false, false] rfl rfl (by kernel_rfl) (by decide) (fun K hK => ?_)
    refine goes_ Tryd.func34 (by kernel_rfl) rfl #[.agg #[.slice A l.length c, .int .i64 N], .int .i64 at_, .int .i64 n] (by rfl) rfl rfl (by simp only [List.map_toArray, List.map_cons, List.map_nil]; rfl) ?_
    with_reducible refine (bits_Get.calls k A c l N at_ n r1 0 _ (Kd.C_below HC.out HB.out) HCc.out HF.out).mono ?_
    rintro e w5 ⟨rfl, hb⟩
    refine ⟨_, rfl, ?_⟩
    have n0 := Aside0.mk (below_then HB.out HB.out.size hb)
    have n1 := Aside0.mk (blk_below BG.out hb)
    have n2 := Aside0.mk (Kd.R_below HO.out hb)
    have n3 := Aside0.mk (below_then HW.out HW.out.size hb)
    clear HB BG HO HW
    have HB := n0
    have BG := n1
    have HO := n2
    have HW := n3
    clear n0 n1 n2 n3
    clear hb
    refine hK.out _ _ ⟨(blk_cell BG.out 0).trans rfl, (blk_cell BG.out 1).trans rfl, (blk_cell BG.out 2).trans rfl⟩ (fun hHeld => ?_)
    clear hK K
    refine norm_ (a' := ?_) ?_ ?_
    rotate_left
    · show Act.put _ (some 17) _ = _
      simp only [Act.put, List.setIfInBounds_toArray, List.set_cons_zero, List.set_cons_succ, i64_w, i32_w, u8_w]
      rfl
    refine pure_ (i := 10) (N := some 7) (v := ?_) (a' := ?_) #[true, true, true, true, true, true, true, true, true, true, true, false, false, false, false] rfl rfl (by kernel_rfl) (fun _ _ _ h => h) (Or.inl ⟨by rfl, ?_⟩) ?_ ?_
    rotate_left
    · intro w'
      go_simp
      with_reducible rfl
    rotate_left
    · simp only [Act.put, List.setIfInBounds_toArray, List.set_cons_zero, List.set_cons_succ, i64_w, i32_w, u8_w]
      rfl
    refine pure_ (i := 11) (N := some 18) (v := ?_) (a' := ?_) #[true, true, true, true, true, true, true, true, true, true, true, true, false, false, false] rfl rfl (by kernel_rfl) (fun _ _ _ h => h) (Or.inl ⟨by rfl, ?_⟩) ?_ ?_
    rotate_left
    · intro w'
      go_simp
      with_reducible rfl
    rotate_left
    · simp only [Act.put, List.setIfInBounds_toArray, List.set_cons_zero, List.set_cons_succ, i64_w, i32_w, u8_w]
      rfl
    refine pure_ (i := 12) (N := some 19) (v := ?_) (a' := ?_) #[true, true, true, true, true, true, true, true, true, true, true, true, true, false, false] rfl rfl (by kernel_rfl) (fun _ _ _ h => h) (Or.inl ⟨by rfl, ?_⟩) ?_ ?_
    rotate_left
    · intro w'
      go_simp
      with_reducible rfl
    rotate_left
    · simp only [Act.put, List.setIfInBounds_toArray, List.set_cons_zero, List.set_cons_succ, i64_w, i32_w, u8_w]
      rfl
    refine pure_ (i := 13) (N := some 5) (v := ?_) (a' := ?_) #[true, true, true, true, true, true, true, true, true, true, true, true, true, true, false] rfl rfl (by kernel_rfl) (fun _ _ _ h => h) (Or.inl ⟨by rfl, ?_⟩) ?_ ?_
    rotate_left
    · intro w'
      go_simp
      with_reducible rfl
    rotate_left
    · simp only [Act.put, List.setIfInBounds_toArray, List.set_cons_zero, List.set_cons_succ, i64_w, i32_w, u8_w]
      rfl
    refine pure_ (i := 14) (N := some 6) (v := ?_) (a' := ?_) #[true, true, true, true, true, true, true, true, true, true, true, true, true, true, true] rfl rfl (by kernel_rfl) (fun _ _ _ h => h) (Or.inl ⟨by rfl, ?_⟩) ?_ ?_
    rotate_left
    · intro w'
      go_simp
      with_reducible rfl
    rotate_left
    · simp only [Act.put, List.setIfInBounds_toArray, List.set_cons_zero, List.set_cons_succ, i64_w, i32_w, u8_w]
      rfl
    refine done_ (by kernel_rfl) ?_
    have hc2 : w5.cell? ⟨g, 2, none⟩ = some (.int .i64 at_) := (blk_cell BG.out 2).trans rfl
    have hf2 := blk_frozen BG.out 2
    go_wp2_with (go_at_call 35; refine (must_zero _).mono ?_; rintro e w' ⟨rfl, rfl⟩)
    go_ret
    exact .inl ⟨trivial, rfl, RdrAt.setAt ⟨HB.out, GE.out, BG.out, HO.out⟩ _, (Moved.of_below g v HW.out).set_ 2 _⟩
  · have HN := Aside0.mk h2
    clear h2
    go_enter Tryd.func26, Tryd.ntmps26
    go_upto_region 1 with (fail)
    have n0 := Aside0.mk (below_drew1 HB.out)
    have n1 := Aside0.mk (blk_drew BG.out)
    have n2 := Aside0.mk (Kd.R_drew HO.out)
    have n3 := Aside0.mk (below_drew1 HW.out)
    clear HB BG HO HW
    have HB := n0
    have BG := n1
    have HO := n2
    have HW := n3
    clear n0 n1 n2 n3
    refine start_ (n := 15) (S := fun w' => w'.cell? ⟨g, 0, none⟩ = some (.slice A l.length c) ∧ w'.cell? ⟨g, 1, none⟩ = some (.int .i64 N) ∧ w'.cell? ⟨g, 2, none⟩ = some (.int .i64 at_)) (ds := []) #[false, false, false, false, false, false, false, false, false, false, false, false, false, false, false] (by kernel_rfl) rfl rfl ⟨(blk_cell BG.out 0).trans rfl, (blk_cell BG.out 1).trans rfl, (blk_cell BG.out 2).trans rfl⟩ (fun hHeld => ?_)
    generalize w.drew = wd at HB BG HO HW hHeld ⊢
    refine pure_ (i := 0) (N := some 8) (v := ?_) (a' := ?_) #[true, false, false, false, false, false, false, false, false, false, false, false, false, false, false] rfl rfl (by kernel_rfl) (fun _ _ _ h => h) (Or.inl ⟨by rfl, ?_⟩) ?_ ?_
    rotate_left
    · intro w'
      go_simp
      with_reducible rfl
    rotate_left
    · simp only [Act.put, List.setIfInBounds_toArray, List.set_cons_zero, List.set_cons_succ, i64_w, i32_w, u8_w]
      rfl
    refine pure_ (i := 1) (N := some 9) (v := ?_) (a' := ?_) #[true, true, false, false, false, false, false, false, false, false, false, false, false, false, false] rfl rfl (by kernel_rfl) (fun _ _ _ h => h) (Or.inl ⟨by rfl, ?_⟩) ?_ ?_
    rotate_left
    · intro w'
      go_simp
      with_reducible rfl
    rotate_left
    · simp only [Act.put, List.setIfInBounds_toArray, List.set_cons_zero, List.set_cons_succ, i64_w, i32_w, u8_w]
      rfl
    refine pure_ (i := 2) (N := some 10) (v := ?_) (a' := ?_) #[true, true, true, false, false, false, false, false, false, false, false, false, false, false, false] rfl rfl (by kernel_rfl) (fun _ _ _ h => h) (Or.inl ⟨by rfl, ?_⟩) ?_ ?_
    rotate_left
    · intro w'
      go_simp
      with_reducible rfl
    rotate_left
    · simp only [Act.put, List.setIfInBounds_toArray, List.set_cons_zero, List.set_cons_succ, i64_w, i32_w, u8_w]
      rfl
    refine pure_ (i := 4) (N := some 12) (v := ?_) (a' := ?_) #[true, true, true, false, true, false, false, false, false, false, false, false, false, false, false] rfl rfl (by kernel_rfl) (fun _ _ _ h => h) (Or.inl ⟨by rfl, ?_⟩) ?_ ?_
    rotate_left
    · intro w'
      go_simp
      with_reducible rfl
    rotate_left
    · simp only [Act.put, List.setIfInBounds_toArray, List.set_cons_zero, List.set_cons_succ, i64_w, i32_w, u8_w]
      rfl
    refine pure_ (i := 5) (N := some 13) (v := ?_) (a' := ?_) #[true, true, true, false, true, true, false, false, false, false, false, false, false, false, false] rfl rfl (by kernel_rfl) (fun _ _ _ h => h) (Or.inl ⟨by rfl, ?_⟩) ?_ ?_
    rotate_left
    · intro w'
      go_simp
      with_reducible rfl
    rotate_left
    · simp only [Act.put, List.setIfInBounds_toArray, List.set_cons_zero, List.set_cons_succ, i64_w, i32_w, u8_w]
      rfl
    refine pure_ (i := 6) (N := some 14) (v := ?_) (a' := ?_) #[true, true, true, false, true, true, true, false, false, false, false, false, false, false, false] rfl rfl (by kernel_rfl) (fun _ _ _ h => h) (Or.inl ⟨by rfl, ?_⟩) ?_ ?_
    rotate_left
    · intro w'
      go_simp
      with_reducible rfl
    rotate_left
    · simp only [Act.put, List.setIfInBounds_toArray, List.set_cons_zero, List.set_cons_succ, i64_w, i32_w, u8_w]
      rfl
    refine pure_ (i := 8) (N := some 16) (v := ?_) (a' := ?_) #[true, true, true, false, true, true, true, false, true, false, false, false, false, false, false] rfl rfl (by kernel_rfl) (fun _ _ _ h => h) (Or.inl ⟨by rfl, ?_⟩) ?_ ?_
    rotate_left
    · intro w'
      go_simp
      with_reducible rfl
    rotate_left
    · simp only [Act.put, List.setIfInBounds_toArray, List.set_cons_zero, List.set_cons_succ, i64_w, i32_w, u8_w]
      rfl
    refine take_ (i := 3) (N := some 11) (v := ?_) (a' := ?_) #[true, true, true, true, true, true, true, false, true, false, false, false, false, false, false] rfl rfl (by kernel_rfl) (fun _ _ _ h => h) (Or.inl ⟨by rfl, ?_⟩) hHeld ?_ ?_
    rotate_left
    · rintro w' ⟨s0, s1, s2⟩
      go_simp
      with_reducible rfl
    rotate_left
    · simp only [Act.put, List.setIfInBounds_toArray, List.set_cons_zero, List.set_cons_succ, i64_w, i32_w, u8_w]
      rfl
    refine take_ (i := 7) (N := some 15) (v := ?_) (a' := ?_) #[true, true, true, true, true, true, true, true, true, false, false, false, false, false, false] rfl rfl (by kernel_rfl) (fun _ _ _ h => h) (Or.inl ⟨by rfl, ?_⟩) hHeld ?_ ?_
    rotate_left
    · rintro w' ⟨s0, s1, s2⟩
      go_simp
      with_reducible rfl
    rotate_left
    · simp only [Act.put, List.setIfInBounds_toArray, List.set_cons_zero, List.set_cons_succ, i64_w, i32_w, u8_w]
      rfl
    refine one_ (i := 9) (N := some 17) #[true, true, true, true, true, true, true, true, true, true, false, false, false, false, false] rfl rfl (by kernel_rfl) (by decide) (fun K hK => ?_)
    refine goes_ Tryd.func34 (by kernel_rfl) rfl #[.agg #[.slice A l.length c, .int .i64 N], .int .i64 at_, .int .i64 n] (by rfl) rfl rfl (by simp only [List.map_toArray, List.map_cons, List.map_nil]; rfl) ?_
    with_reducible refine (bits_Get.calls k A c l N at_ n r1 r2 _ (Kd.C_below HC.out HB.out) HCc.out HF.out).mono ?_
    rintro e w5 ⟨rfl, hb⟩
    refine ⟨_, rfl, ?_⟩
    have n0 := Aside0.mk (below_then HB.out HB.out.size hb)
    have n1 := Aside0.mk (blk_below BG.out hb)
    have n2 := Aside0.mk (Kd.R_below HO.out hb)
    have n3 := Aside0.mk (below_then HW.out HW.out.size hb)
    clear HB BG HO HW
    have HB := n0
    have BG := n1
    have HO := n2
    have HW := n3
    clear n0 n1 n2 n3
    clear hb
    refine hK.out _ _ ⟨(blk_cell BG.out 0).trans rfl, (blk_cell BG.out 1).trans rfl, (blk_cell BG.out 2).trans rfl⟩ (fun hHeld => ?_)
    clear hK K
    refine norm_ (a' := ?_) ?_ ?_
    rotate_left
    · show Act.put _ (some 17) _ = _
      simp only [Act.put, List.setIfInBounds_toArray, List.set_cons_zero, List.set_cons_succ, i64_w, i32_w, u8_w]
      rfl
    refine pure_ (i := 10) (N := some 7) (v := ?_) (a' := ?_) #[true, true, true, true, true, true, true, true, true, true, true, false, false, false, false] rfl rfl (by kernel_rfl) (fun _ _ _ h => h) (Or.inl ⟨by rfl, ?_⟩) ?_ ?_
    rotate_left
    · intro w'
      go_simp
      with_reducible rfl
    rotate_left
    · simp only [Act.put, List.setIfInBounds_toArray, List.set_cons_zero, List.set_cons_succ, i64_w, i32_w, u8_w]
      rfl
    refine pure_ (i := 11) (N := some 18) (v := ?_) (a' := ?_) #[true, true, true, true, true, true, true, true, true, true, true, true, false, false, false] rfl rfl (by kernel_rfl) (fun _ _ _ h => h) (Or.inl ⟨by rfl, ?_⟩) ?_ ?_
    rotate_left
    · intro w'
      go_simp
      with_reducible rfl
    rotate_left
    · simp only [Act.put, List.setIfInBounds_toArray, List.set_cons_zero, List.set_cons_succ, i64_w, i32_w, u8_w]
      rfl
    refine pure_ (i := 12) (N := some 19) (v := ?_) (a' := ?_) #[true, true, true, true, true, true, true, true, true, true, true, true, true, false, false] rfl rfl (by kernel_rfl) (fun _ _ _ h => h) (Or.inl ⟨by rfl, ?_⟩) ?_ ?_
    rotate_left
    · intro w'
      go_simp
      with_reducible rfl
    rotate_left
    · simp only [Act.put, List.setIfInBounds_toArray, List.set_cons_zero, List.set_cons_succ, i64_w, i32_w, u8_w]
      rfl
    refine pure_ (i := 13) (N := some 5) (v := ?_) (a' := ?_) #[true, true, true, true, true, true, true, true, true, true, true, true, true, true, false] rfl rfl (by kernel_rfl) (fun _ _ _ h => h) (Or.inl ⟨by rfl, ?_⟩) ?_ ?_
    rotate_left
    · intro w'
      go_simp
      with_reducible rfl
    rotate_left
    · simp only [Act.put, List.setIfInBounds_toArray, List.set_cons_zero, List.set_cons_succ, i64_w, i32_w, u8_w]
      rfl
    refine pure_ (i := 14) (N := some 6) (v := ?_) (a' := ?_) #[true, true, true, true, true, true, true, true, true, true, true, true, true, true, true] rfl rfl (by kernel_rfl) (fun _ _ _ h => h) (Or.inl ⟨by rfl, ?_⟩) ?_ ?_
    rotate_left
    · intro w'
      go_simp
      with_reducible rfl
    rotate_left
    · simp only [Act.put, List.setIfInBounds_toArray, List.set_cons_zero, List.set_cons_succ, i64_w, i32_w, u8_w]
      rfl
    refine done_ (by kernel_rfl) ?_
    go_wp2_with (go_at_call 35; refine (must_else r2 HN.out _).mono ?_; rintro e w' ⟨p, rfl, hfa, hb⟩)
    exact ⟨rfl, .inr ⟨HN.out, p, rfl, hfa, (HW.out.mono H0.out).trans (hb.mono HB.out.size)⟩⟩
end
end Go.Proofs.YtgflkkjhckcipaaDoor.Pr

-- YtgflkkjhckcipaaDoorIf25
namespace Go.Proofs.YtgflkkjhckcipaaDoor.Pr
open Go.RowKit Go.Shelf Go.Proofs.YtgflkkjhckcipaaDoorW.PrintWords Go.Proofs.YtgflkkjhckcipaaDoorW.PrintLast Go.Proofs.YtgflkkjhckcipaaDoorW.PrintMore
set_option linter.unusedVariables false
set_option linter.unusedSimpArgs false
section
attribute [local go_sem] Oper.semAt_some
abbrev Handle (w : World) : Prop := w.cell? ⟨0, 0, none⟩ = some (.iface 73 (.agg #[.pointer (some ⟨1, 43, none⟩)]))
theorem Handle.on {n : Nat} {w w' : World} (h : Handle w) (hb : Below n w w') (hn : 0 < n) : Handle w' := by
  show w'.cell? ⟨0, 0, none⟩ = _
  have e : w'.cell? ⟨0, 0, none⟩ = w.cell? ⟨0, 0, none⟩ := by simp only [World.cell?, hb.block 0 hn]
  rw [e]
  exact h
theorem Handle.pos {w : World} (h : Handle w) : 0 < w.heap.size := by
  rcases Nat.eq_zero_or_pos w.heap.size with h0 | h1
  · have h2 : w.cell? ⟨0, 0, none⟩ = _ := h
    simp [World.cell?, h0] at h2
  · exact h1
theorem as_told (n p q t : Nat) (old : Value) (w : World) (hn : n ≤ t) (hg : Handle w) (hp : w.heap[p]? = some (.cells #[.iface 41 (.pointer (some ⟨q, 0, none⟩))] 96 (0, 0))) (ht : w.heap[t]? = some (.cells #[old] 41 (0, 0))) :
    Calls Tryd.prog 14 #[.iface 94 (.pointer (some ⟨p, 0, none⟩)), .iface 46 (.pointer (some ⟨t, 0, none⟩))] w fun ev w' => ev = .returned (.bool true) ∧ w'.heap[t]? = some (.cells #[.pointer (some ⟨q, 0, none⟩)] 41 (0, 0)) ∧ (∀ k, k < w.heap.size → k ≠ t → w'.heap[k]? = w.heap[k]?) ∧ Below n w w' := by
  refine (as_within ⟨p, 0, none⟩ ⟨q, 0, none⟩ ⟨t, 0, none⟩ old w hg ((blk_cell hp 0).trans rfl) rfl ((blk_cell ht 0).trans rfl) (blk_frozen ht 0)).mono ?_
  rintro ev w' ⟨rfl, rfl⟩
  have hb := below_alloc (below_alloc (below_alloc (below_alloc (Below.refl w.heap.size w) (.cells #[.pointer (some ⟨t, 0, none⟩)] 46)) (.cells #[.pointer (some ⟨1, 46, none⟩), .pointer (some ⟨w.heap.size, 0, none⟩), .int .u64 150] 61)) (.cells #[.pointer (some ⟨1, 46, none⟩), .pointer (some ⟨w.heap.size, 0, none⟩), .int .u64 150] 61)) (.cells #[.pointer (some ⟨q, 0, none⟩)] 41)
  refine ⟨rfl, (blk_set (blk_below ht hb) 0 _).trans rfl, fun k hk hne => (Below.heap_setCell _ ⟨t, 0, none⟩ _ k hne).trans (hb.block k hk), (hb.mono (Nat.le_of_lt (Nat.lt_of_le_of_lt hn (blk_lt ht)))).setCell (p := ⟨t, 0, none⟩) hn _⟩
theorem assert_within (v : Value) (w : World) : Sem.run Tryd.prog (Instr.typeAssert (.iface 94 v) 20 43 true) w = .ok (.tuple #[.iface 94 v, .bool true]) w := Go.run_typeAssert_hasB Tryd.underlying43 (by kernel_rfl) v 20 w
attribute [local go_sem] assert_within
theorem fr_ (X pa pb pc : Value) : #[pa, pb, pc] ++ ((Array.replicate 23 undef).setIfInBounds 4 X).setIfInBounds 0 X = #[pa, pb, pc, X, undef, undef, undef, X, undef, undef, undef, undef, undef, undef, undef, undef, undef, undef, undef, undef, undef, undef, undef, undef, undef, undef] := by kernel_rfl
set_option maxHeartbeats 16000000 in
set_option maxRecDepth 1000000 in
theorem dcatchQ (a b c p q : Nat) (x0 x1 x2 : Value) (t0 t1 t2 : TypeId) (er : Int) (older : List PanicEntry) (w : World) (h01 : a < b) (h12 : b < c) (hg : Handle w)
    (h0 : w.heap[a]? = some (.cells #[x0] t0 (0, 0))) (h1 : w.heap[b]? = some (.cells #[x1] t1 (0, 0))) (h2 : w.heap[c]? = some (.cells #[x2] t2 (0, 0)))
    (hp : w.heap[p]? = some (.cells #[.iface 41 (.pointer (some ⟨q, 0, none⟩))] 96 (0, 0))) (hq : w.heap[q]? = some (.cells #[.int .i64 er] 48 (0, 0)))
    (Q : Ending → FrameMode → World → Prop) (hQ : ∀ w1 : World, w1.heap[a]? = some (.cells #[x0] t0 (0, 0)) → w1.heap[b]? = some (.cells #[x1] t1 (0, 0)) → w1.heap[c]? = some (.cells #[x2] t2 (0, 0)) → Below w.heap.size w w1 → Q (.returned (.tuple #[])) (.panicking ({ v := .iface 94 (.pointer (some ⟨p, 0, none⟩)), recovered := true } :: older)) (((w1.setCell ⟨a, 0, none⟩ (.slice none 0 0)).setCell ⟨b, 0, none⟩ (.int .i64 0)).setCell ⟨c, 0, none⟩ (.int .i64 er))) :
    CallsD Tryd.prog 13 #[.pointer (some ⟨a, 0, none⟩), .pointer (some ⟨b, 0, none⟩), .pointer (some ⟨c, 0, none⟩)] (.panicking ({ v := .iface 94 (.pointer (some ⟨p, 0, none⟩)), recovered := false } :: older)) w Q := by
  have huF := Tryd.underlying48
  have B1 := below_alloc (Below.refl w.heap.size w) (.cells #[.pointer none] 41)
  have hT := blk_new w (.cells #[.pointer none] 41)
  have GP := hg.pos
  have HG1 := Aside0.mk (hg.on B1 GP)
  have HP1 := Aside0.mk (blk_below hp B1)
  have HT1 := Aside0.mk hT
  have HS1 := Aside0.mk (World.size_alloc w (.cells #[.pointer none] 41))
  have L0 := Aside0.mk (blk_lt h0)
  have L1 := Aside0.mk (blk_lt h1)
  have L2 := Aside0.mk (blk_lt h2)
  have LQ := Aside0.mk (blk_lt hq)
  have W0 := Aside0.mk (blk_below h0 B1)
  have W1 := Aside0.mk (blk_below h1 B1)
  have W2 := Aside0.mk (blk_below h2 B1)
  have WQ := Aside0.mk (blk_below hq B1)
  have HB1 := Aside0.mk B1
  have HQ := Aside0.mk hQ
  have N1 := Aside0.mk h01
  have N2 := Aside0.mk h12
  clear B1 hT hg hp h0 h1 h2 hq GP hQ h01 h12
  refine callsD_of_wpS Tryd.func13 rfl fun c₀ cs hu => ?_
  apply wpS_seq
  apply wpS_region
  simp [wpOpsS, go_sem, recoverD, hu, Tryd.ntmps13, Exit.thenS]
  apply wpS_of_wp
  rw [fr_]
  go_wp2_with (go_at_call 14; refine (as_told w.heap.size p q w.heap.size _ _ (Nat.le_refl _) HG1.out HP1.out HT1.out).mono ?_; rintro e w' ⟨rfl, ht, hk, hb⟩; have ct := (blk_cell ht 0).trans rfl; (have F0 := (hk a (by rw [HS1.out]; have := L0.out; omega) (by have := L0.out; omega)).trans W0.out); (have F1 := (hk b (by rw [HS1.out]; have := L1.out; omega) (by have := L1.out; omega)).trans W1.out); (have F2 := (hk c (by rw [HS1.out]; have := L2.out; omega) (by have := L2.out; omega)).trans W2.out); (have FQ := (hk q (by rw [HS1.out]; have := LQ.out; omega) (by have := LQ.out; omega)).trans WQ.out); (have ct2 : w'.cell? ⟨w.heap.size, 0, none⟩ = some (.pointer (some ⟨q, 0, none⟩)) := (blk_cell ht 0).trans rfl); (have cq : w'.cell? ⟨q, 0, none⟩ = some (.int .i64 er) := (blk_cell FQ 0).trans rfl); (have c0 : w'.cell? ⟨a, 0, none⟩ = some x0 := (blk_cell F0 0).trans rfl); (have c1 : w'.cell? ⟨b, 0, none⟩ = some x1 := (blk_cell F1 0).trans rfl); (have c2 : w'.cell? ⟨c, 0, none⟩ = some x2 := (blk_cell F2 0).trans rfl); (have f0 := blk_frozen F0 0); (have f1 := blk_frozen F1 0); (have f2 := blk_frozen F2 0); (have n0 : a ≠ b := by have := N1.out; omega); (have n1 : a ≠ c := by have := N1.out; have := N2.out; omega); (have n2 : b ≠ c := by have := N2.out; omega); have S0 := Aside0.mk F0; have S1 := Aside0.mk F1; have S2 := Aside0.mk F2; have HBB := Aside0.mk hb; clear ht hk hb ct FQ F0 F1 F2)
  simp [bodyPostS, results, Tryd.results13]
  exact HQ.out _ S0.out S1.out S2.out (HB1.out.trans HBB.out)
theorem dcatch (n a b c p q : Nat) (x0 x1 x2 : Value) (t0 t1 t2 : TypeId) (er : Int) (older : List PanicEntry) (w : World) (hn : n ≤ a) (h01 : a < b) (h12 : b < c) (hg : Handle w)
    (h0 : w.heap[a]? = some (.cells #[x0] t0 (0, 0))) (h1 : w.heap[b]? = some (.cells #[x1] t1 (0, 0))) (h2 : w.heap[c]? = some (.cells #[x2] t2 (0, 0)))
    (hp : w.heap[p]? = some (.cells #[.iface 41 (.pointer (some ⟨q, 0, none⟩))] 96 (0, 0))) (hq : w.heap[q]? = some (.cells #[.int .i64 er] 48 (0, 0))) :
    CallsD Tryd.prog 13 #[.pointer (some ⟨a, 0, none⟩), .pointer (some ⟨b, 0, none⟩), .pointer (some ⟨c, 0, none⟩)] (.panicking ({ v := .iface 94 (.pointer (some ⟨p, 0, none⟩)), recovered := false } :: older)) w fun e u' w' =>
      e = .returned (.tuple #[]) ∧ u' = .panicking ({ v := .iface 94 (.pointer (some ⟨p, 0, none⟩)), recovered := true } :: older) ∧ w'.cell? ⟨a, 0, none⟩ = some (.slice none 0 0) ∧ w'.cell? ⟨b, 0, none⟩ = some (.int .i64 0) ∧ w'.cell? ⟨c, 0, none⟩ = some (.int .i64 er) ∧ Below n w w' := by
  refine dcatchQ a b c p q x0 x1 x2 t0 t1 t2 er older w h01 h12 hg h0 h1 h2 hp hq _ fun w1 d0 d1 d2 hb => ⟨rfl, rfl, ?_, ?_, ?_, ?_⟩
  all_goals
    have k1 : ∀ (W : World) (g j : Nat) (u : Value), j ≠ g → (W.setCell ⟨g, 0, none⟩ u).heap[j]? = W.heap[j]? := fun W g j u hne => Below.heap_setCell W ⟨g, 0, none⟩ u j hne
    have s0 := blk_set d0 0 (.slice none 0 0)
    have s1 := blk_set ((k1 w1 a b (.slice none 0 0) (by omega)).trans d1) 0 (.int .i64 0)
    have s2 := blk_set ((k1 _ b c (.int .i64 0) (by omega)).trans ((k1 w1 a c (.slice none 0 0) (by omega)).trans d2)) 0 (.int .i64 er)
  · exact (blk_cell ((k1 _ c a (.int .i64 er) (by omega)).trans ((k1 _ b a (.int .i64 0) (by omega)).trans s0)) 0).trans rfl
  · exact (blk_cell ((k1 _ c b (.int .i64 er) (by omega)).trans s1) 0).trans rfl
  · exact (blk_cell s2 0).trans rfl
  · have la := blk_lt h0
    exact (((hb.mono (by omega)).setCell (p := ⟨a, 0, none⟩) hn _).setCell (p := ⟨b, 0, none⟩) (by show n ≤ b; omega) _).setCell (p := ⟨c, 0, none⟩) (by show n ≤ c; omega) _
set_option maxHeartbeats 16000000 in
set_option maxRecDepth 1000000 in
theorem didle (a b c : Nat) (w : World) :
    CallsD Tryd.prog 13 #[.pointer (some ⟨a, 0, none⟩), .pointer (some ⟨b, 0, none⟩), .pointer (some ⟨c, 0, none⟩)] .returning w fun e u' w' => e = .returned (.tuple #[]) ∧ u' = .returning ∧ w' = w := by
  refine callsD_of_wpS Tryd.func13 rfl fun c₀ cs hu => ?_
  apply wpS_seq
  apply wpS_region
  simp [wpOpsS, go_sem, recoverD, hu, Tryd.ntmps13, Exit.thenS]
  apply wpS_of_wp
  rw [fr_]
  go_wp2
  cases c₀
  simp_all [bodyPostS, results, Tryd.results13]
end
end Go.Proofs.YtgflkkjhckcipaaDoor.Pr

-- YtgflkkjhckcipaaDoorHu1
namespace Go.Proofs.YtgflkkjhckcipaaDoor.Hu
open Go.RowKit Go.Shelf Go.Proofs.YtgflkkjhckcipaaDoorW.PrintWords Go.Proofs.YtgflkkjhckcipaaDoorW.PrintLast Go.Proofs.YtgflkkjhckcipaaDoorW.PrintMore
set_option linter.unusedVariables false
set_option linter.unusedSimpArgs false
def usedL (zs : List Int) (k : Nat) : List (Nat × Int) := ((List.range k).map fun j => (j, zs[j]?.getD 0)).filter fun x => decide (x.2 ≠ 0)
theorem usedL_zero (zs : List Int) : usedL zs 0 = [] := rfl
theorem usedL_succ (zs : List Int) (k : Nat) : usedL zs (k + 1) = if zs[k]?.getD 0 = 0 then usedL zs k else usedL zs k ++ [(k, zs[k]?.getD 0)] := by
  unfold usedL
  rw [List.range_succ, List.map_append, List.filter_append]
  by_cases h : zs[k]?.getD 0 = 0
  · rw [if_pos h]
    simp [h]
  · rw [if_neg h]
    simp [h]
theorem usedL_len (zs : List Int) (k : Nat) : (usedL zs k).length ≤ k := by
  unfold usedL
  refine Nat.le_trans (List.length_filter_le _ _) ?_
  simp
theorem usedL_sub (zs : List Int) {k : Nat} (hk : k ≤ zs.length) : ∀ x ∈ usedL zs k, x ∈ usedL zs zs.length := by
  intro x hx
  unfold usedL at hx ⊢
  rw [List.mem_filter, List.mem_map] at hx ⊢
  obtain ⟨⟨j, hj, rfl⟩, h2⟩ := hx
  rw [List.mem_range] at hj
  exact ⟨⟨j, List.mem_range.2 (by omega), rfl⟩, h2⟩
section
attribute [local go_sem] Oper.semAt_some
set_option maxRecDepth 100000 in
set_option maxHeartbeats 2000000 in
theorem used1_in (F : Fence) (n : Nat) (hF : F.fn 68) (hro : F.round = none) (hn : 1 ≤ n) (l Bs n₀ : Nat) (A : Option Addr) (len cap : Nat) (zs : List Int) (hz : len = zs.length) (hreach : len * 8 ≤ 140737488355328) (hb : ∀ ad, A = some ad → ad.block < n₀) (J Jx : List (Nat × Int) → World → Prop)
    (hY : ∀ pre x W, J pre W → pre.length < len → YieldAt F (n - 1) Tryd.prog l #[.int .i64 (x.1 : Int), .int .i64 x.2] W fun e W' =>
      (e = .returned (.bool true) ∧ J (pre ++ [x]) W' ∧ Below n₀ W W') ∨ (e = .returned (.bool false) ∧ Jx (pre ++ [x]) W'))
    (W : World) (hBs : W.cell? ⟨Bs, 0, none⟩ = some (.slice A len cap)) (hc : (Kd.int .i64).C W A len zs) (h0 : J [] W) :
    CallsIn F n Tryd.prog 68 #[.func (.yield l) #[] #[], .pointer (some ⟨Bs, 0, none⟩)] W fun e W' => (∃ v, e = .returned v) ∧
      ((∃ ys, ys = usedL zs len ∧ J ys W') ∨ (∃ pre, (∃ k, k ≤ len ∧ pre = usedL zs k) ∧ Jx pre W')) := by
  refine callsIn_of_wp Tryd.func68 rfl hF ?_ hro
  simp only [Tryd.ntmps68, List.size_toArray, List.length_cons, List.length_nil, Nat.reduceAdd, Nat.reduceSub, Array.replicate_succ, Array.replicate_zero, List.push_toArray, List.append_toArray, List.nil_append, List.cons_append]
  gi_wp2
  gi_loopw [7] (fun i wr => ∃ k : Nat, k ≤ len ∧ i = .int .i64 k ∧ J (usedL zs k) wr ∧ Below n₀ W wr)
    (fun i _ => len - (intOf i).toNat)
  case atStart => exact ⟨0, Nat.zero_le _, rfl, h0, Below.refl _ _⟩
  case round =>
    obtain ⟨k, hk, rfl, hJs, hnx⟩ := hrel
    by_cases hlt : k < len
    · obtain ⟨ad, rfl, hx⟩ := Kd.at_int hc (k : Int) (by omega) (by omega)
      rw [Int.toNat_natCast] at hx
      have hcx : wr.cell? (ad.add k) = some (.int .i64 (zs[k]?.getD 0)) := (hnx.cell (p := ad.add k) (show (ad.add k).block < n₀ by rw [show (ad.add k).block = ad.block by unfold Addr.add; split <;> rfl]; exact hb ad rfl)).trans (by rw [hx]; unfold rd; rw [Int.toNat_natCast, List.getD_eq_getElem?_getD])
      clear hx
      obtain ⟨v, hv⟩ : ∃ v, zs[k]?.getD 0 = v := ⟨_, rfl⟩
      have hs := usedL_succ zs k
      rw [hv] at hcx hs
      by_cases h0v : v = 0
      · rw [if_pos h0v] at hs
        have hq := eq_true h0v
        have hqb : (v != 0) = false := bne_eq_false_iff_eq.mpr h0v
        have hqc : (v == 0) = true := beq_iff_eq.mpr h0v
        clear hv

        gi_wp2

        refine ⟨fun _ h => (by cases h), ?_⟩
        gi_wp2
        go_roundw
        case rel => exact ⟨k + 1, by omega, by simp, by rw [hs]; exact hJs, hnx⟩
        case measure => simp [intOf]; omega
      · rw [if_neg h0v] at hs
        have hqb : (v != 0) = true := bne_iff_ne.mpr h0v
        have hqc : (v == 0) = false := beq_eq_false_iff_ne.mpr h0v
        clear hv
        obtain ⟨fn, tmps, assign, body, hy, hR⟩ := hY _ (k, v) wr hJs (Nat.lt_of_le_of_lt (usedL_len zs k) hlt)
        dsimp only at hy
        gi_wp2
        refine hR.mono ?_
        rintro e W3 (⟨rfl, hJ3, hk3⟩ | ⟨rfl, hJx3⟩)
        · gi_wp2
          go_roundw
          case rel => exact ⟨k + 1, by omega, by simp, by rw [hs]; exact hJ3, hnx.trans hk3⟩
          case measure => simp [intOf]; omega
        · gi_wp2
          refine bodyPost_ret (results_none rfl _ _ _) rfl ?_
          exact ⟨⟨_, rfl⟩, .inr ⟨_, ⟨k + 1, by omega, hs.symm⟩, hJx3⟩⟩
    · obtain rfl : k = len := by omega
      gi_wp2
      go_end0
      exact ⟨⟨_, rfl⟩, .inl ⟨_, rfl, hJs⟩⟩
end
theorem used_stops (F : Fence) (n : Nat) (hF : F.fn 68) (hro : F.round = none) (hn : 1 ≤ n) (Bs n₀ : Nat) (A : Option Addr) (len cap : Nat) (zs : List Int) (hz : len = zs.length) (hreach : len * 8 ≤ 140737488355328) (hb : ∀ ad, A = some ad → ad.block < n₀) (w : World) (hBs : Bs < w.heap.size) (hn₀ : n₀ ≤ w.heap.size)
    (hc : w.cell? ⟨Bs, 0, none⟩ = some (.slice A len cap)) (hI : (Kd.int .i64).C w A len zs) :
    SeqStopsK F n Tryd.prog 68 #[.pointer (some ⟨Bs, 0, none⟩)] (fun x : Nat × Int => #[Value.int .i64 (x.1 : Int), Value.int .i64 x.2]) (Below n₀) (fun ys => ys = usedL zs zs.length)
      (fun pre => ∃ k, k ≤ zs.length ∧ pre = usedL zs k) zs.length w := fun l J Jx W hW _ _ hY h0 => by
  subst hz
  exact used1_in F n hF hro hn l Bs n₀ A zs.length cap zs rfl hreach hb J Jx hY W ((hW.cell (p := ⟨Bs, 0, none⟩) hBs).trans hc) (Kd.C_below hI hW) h0
section
attribute [local go_sem] Oper.semAt_some
set_option maxHeartbeats 1000000 in
theorem used_in (F : Fence) (n : Nat) (hF : F.fn 57) (hro : F.round = none) (a : Option Addr) (len cap : Nat) (w : World) :
    CallsIn F n Tryd.prog 57 #[.slice a len cap] w fun e w' => e = .returned (.func (.func 68) #[] #[.pointer (some ⟨w.heap.size, 0, none⟩)]) ∧ w' = w.alloc (.cells #[.slice a len cap] 32) := by
  refine callsIn_of_wp Tryd.func57 rfl hF ?_ hro
  simp only [Tryd.ntmps57, List.size_toArray, List.length_cons, List.length_nil, Nat.reduceAdd, Nat.reduceSub, Array.replicate_succ, Array.replicate_zero, List.push_toArray, List.append_toArray, List.nil_append, List.cons_append]
  gi_wp2
  go_ret
  exact ⟨rfl, rfl⟩
end
def cntStep (c : List Int) (x : Nat × Int) : List Int := c.set x.2.toNat (wrap64 (rd c x.2 + 1))
def cntL (pre : List (Nat × Int)) : List Int := pre.foldl cntStep (List.replicate 16 0)
theorem cntL_snoc (pre : List (Nat × Int)) (x : Nat × Int) : cntL (pre ++ [x]) = cntStep (cntL pre) x := by unfold cntL; rw [List.foldl_append]; rfl
theorem cntL_len (pre : List (Nat × Int)) : (cntL pre).length = 16 := by
  have : ∀ (c : List Int), c.length = 16 → (pre.foldl cntStep c).length = 16 := by
    induction pre with
    | nil => intro c h; exact h
    | cons x pre ih => intro c h; exact ih _ (by unfold cntStep; rw [List.length_set]; exact h)
  exact this _ (by simp)
def Lok (x : Int) : Prop := 0 ≤ x ∧ x ≤ 15
instance (x : Int) : Decidable (Lok x) := by unfold Lok; infer_instance
def zero16 : List Int := List.replicate 16 0
def countedS (zs : List Int) : List Int × Bool := if zs.length < 1 ∨ 288 < zs.length then (zero16, false) else if (usedL zs zs.length).all (fun x => decide (Lok x.2)) then (cntL (usedL zs zs.length), true) else (zero16, false)
def agg16 (c : List Int) : Value := .agg (c.map (Value.int .i64)).toArray
def CountedPost (zs : List Int) (w : World) (e : Ending) (w' : World) : Prop := e = .returned (.tuple #[agg16 (countedS zs).1, .bool (countedS zs).2]) ∧ Below w.heap.size w w'
end Go.Proofs.YtgflkkjhckcipaaDoor.Hu

-- YtgflkkjhckcipaaDoorHu2
namespace Go.Proofs.YtgflkkjhckcipaaDoor.Hu
open Go.RowKit Go.Shelf Go.Proofs.YtgflkkjhckcipaaDoorW.PrintWords Go.Proofs.YtgflkkjhckcipaaDoorW.PrintLast Go.Proofs.YtgflkkjhckcipaaDoorW.PrintMore
set_option linter.unusedVariables false
set_option linter.unusedSimpArgs false
def vec16 (c : List Int) : Array Value := (c.map (Value.int .i64)).toArray
theorem blk_own {β : Type} (g : β → Nat) (t : β → TypeId) (cs : β → Array Value) : Own (fun (s : β) W => W.heap[g s]? = some (.cells (cs s) (t s) (0, 0))) := fun s A B row hs hg hr => (hg.block (g s) (blk_lt hs) (fun e => by
  obtain ⟨o, ho, hn⟩ := hr (g s) e.symm
  rw [hs] at ho
  injection ho with ho
  rw [← ho] at hn
  cases hn)).trans hs
theorem results_arr_bool {fn : Func} {p q : Tmp} (h : fn.results = #[.cell p 115, .cell q 4]) (tmps : Array Value) (w : World) (g : Nat) (t : TypeId) (cs : Array Value) (fr : Nat × Nat) (g2 : Nat) (b : Bool)
    (hp : tmps.getD p undef = .pointer (some ⟨g, 0, none⟩)) (hg : w.heap[g]? = some (.cells cs t fr))
    (hi : (Tryd.prog.info? 115).map (·.size) = some cs.size)
    (hq : tmps.getD q undef = .pointer (some ⟨g2, 0, none⟩)) (hb : w.cell? ⟨g2, 0, none⟩ = some (.bool b)) :
    (results fn tmps).run Tryd.prog w = .ok (.tuple #[.agg cs, .bool b]) w := by
  have hp' : tmps[p]?.getD undef = .pointer (some ⟨g, 0, none⟩) := by simpa using hp
  have hq' : tmps[q]?.getD undef = .pointer (some ⟨g2, 0, none⟩) := by simpa using hq
  have e1 := run_loadVar_row w g t 115 cs fr _ hg Tryd.underlying115 rfl hi
  have e2 : (loadVar 4 ⟨g2, 0, none⟩).run Tryd.prog w = .ok (.bool b) w := by
    have hu4 := Tryd.underlying4
    simp [loadVar, go_sem, hb]
  simp [results, h, hp', hq', asAddr, e1, e2]
theorem set16 {W : World} {g t : Nat} {c0 c1 c2 c3 c4 c5 c6 c7 c8 c9 c10 c11 c12 c13 c14 c15 : Value} (h : W.heap[g]? = some (.cells #[c0, c1, c2, c3, c4, c5, c6, c7, c8, c9, c10, c11, c12, c13, c14, c15] t (0, 0))) (v0 v1 v2 v3 v4 v5 v6 v7 v8 v9 v10 v11 v12 v13 v14 v15 : Value) :
    ((((((((((((((((W.setCell ⟨g, 0, none⟩ (v0)).setCell ⟨g, 1, none⟩ (v1)).setCell ⟨g, 2, none⟩ (v2)).setCell ⟨g, 3, none⟩ (v3)).setCell ⟨g, 4, none⟩ (v4)).setCell ⟨g, 5, none⟩ (v5)).setCell ⟨g, 6, none⟩ (v6)).setCell ⟨g, 7, none⟩ (v7)).setCell ⟨g, 8, none⟩ (v8)).setCell ⟨g, 9, none⟩ (v9)).setCell ⟨g, 10, none⟩ (v10)).setCell ⟨g, 11, none⟩ (v11)).setCell ⟨g, 12, none⟩ (v12)).setCell ⟨g, 13, none⟩ (v13)).setCell ⟨g, 14, none⟩ (v14)).setCell ⟨g, 15, none⟩ (v15)).heap[g]? = some (.cells #[v0, v1, v2, v3, v4, v5, v6, v7, v8, v9, v10, v11, v12, v13, v14, v15] t (0, 0)) := by
  have h := blk_put h 0 v0 (cs' := #[v0, c1, c2, c3, c4, c5, c6, c7, c8, c9, c10, c11, c12, c13, c14, c15]) rfl
  have h := blk_put h 1 v1 (cs' := #[v0, v1, c2, c3, c4, c5, c6, c7, c8, c9, c10, c11, c12, c13, c14, c15]) rfl
  have h := blk_put h 2 v2 (cs' := #[v0, v1, v2, c3, c4, c5, c6, c7, c8, c9, c10, c11, c12, c13, c14, c15]) rfl
  have h := blk_put h 3 v3 (cs' := #[v0, v1, v2, v3, c4, c5, c6, c7, c8, c9, c10, c11, c12, c13, c14, c15]) rfl
  have h := blk_put h 4 v4 (cs' := #[v0, v1, v2, v3, v4, c5, c6, c7, c8, c9, c10, c11, c12, c13, c14, c15]) rfl
  have h := blk_put h 5 v5 (cs' := #[v0, v1, v2, v3, v4, v5, c6, c7, c8, c9, c10, c11, c12, c13, c14, c15]) rfl
  have h := blk_put h 6 v6 (cs' := #[v0, v1, v2, v3, v4, v5, v6, c7, c8, c9, c10, c11, c12, c13, c14, c15]) rfl
  have h := blk_put h 7 v7 (cs' := #[v0, v1, v2, v3, v4, v5, v6, v7, c8, c9, c10, c11, c12, c13, c14, c15]) rfl
  have h := blk_put h 8 v8 (cs' := #[v0, v1, v2, v3, v4, v5, v6, v7, v8, c9, c10, c11, c12, c13, c14, c15]) rfl
  have h := blk_put h 9 v9 (cs' := #[v0, v1, v2, v3, v4, v5, v6, v7, v8, v9, c10, c11, c12, c13, c14, c15]) rfl
  have h := blk_put h 10 v10 (cs' := #[v0, v1, v2, v3, v4, v5, v6, v7, v8, v9, v10, c11, c12, c13, c14, c15]) rfl
  have h := blk_put h 11 v11 (cs' := #[v0, v1, v2, v3, v4, v5, v6, v7, v8, v9, v10, v11, c12, c13, c14, c15]) rfl
  have h := blk_put h 12 v12 (cs' := #[v0, v1, v2, v3, v4, v5, v6, v7, v8, v9, v10, v11, v12, c13, c14, c15]) rfl
  have h := blk_put h 13 v13 (cs' := #[v0, v1, v2, v3, v4, v5, v6, v7, v8, v9, v10, v11, v12, v13, c14, c15]) rfl
  have h := blk_put h 14 v14 (cs' := #[v0, v1, v2, v3, v4, v5, v6, v7, v8, v9, v10, v11, v12, v13, v14, c15]) rfl
  have h := blk_put h 15 v15 (cs' := #[v0, v1, v2, v3, v4, v5, v6, v7, v8, v9, v10, v11, v12, v13, v14, v15]) rfl
  exact h
theorem set16_keeps (W : World) (g : Nat) (v0 v1 v2 v3 v4 v5 v6 v7 v8 v9 v10 v11 v12 v13 v14 v15 : Value) : KeepsOthers W ((((((((((((((((W.setCell ⟨g, 0, none⟩ (v0)).setCell ⟨g, 1, none⟩ (v1)).setCell ⟨g, 2, none⟩ (v2)).setCell ⟨g, 3, none⟩ (v3)).setCell ⟨g, 4, none⟩ (v4)).setCell ⟨g, 5, none⟩ (v5)).setCell ⟨g, 6, none⟩ (v6)).setCell ⟨g, 7, none⟩ (v7)).setCell ⟨g, 8, none⟩ (v8)).setCell ⟨g, 9, none⟩ (v9)).setCell ⟨g, 10, none⟩ (v10)).setCell ⟨g, 11, none⟩ (v11)).setCell ⟨g, 12, none⟩ (v12)).setCell ⟨g, 13, none⟩ (v13)).setCell ⟨g, 14, none⟩ (v14)).setCell ⟨g, 15, none⟩ (v15)) := by
  refine KeepsOthers.trans ?_ (KeepsOthers.setCell _ _ _)
  refine KeepsOthers.trans ?_ (KeepsOthers.setCell _ _ _)
  refine KeepsOthers.trans ?_ (KeepsOthers.setCell _ _ _)
  refine KeepsOthers.trans ?_ (KeepsOthers.setCell _ _ _)
  refine KeepsOthers.trans ?_ (KeepsOthers.setCell _ _ _)
  refine KeepsOthers.trans ?_ (KeepsOthers.setCell _ _ _)
  refine KeepsOthers.trans ?_ (KeepsOthers.setCell _ _ _)
  refine KeepsOthers.trans ?_ (KeepsOthers.setCell _ _ _)
  refine KeepsOthers.trans ?_ (KeepsOthers.setCell _ _ _)
  refine KeepsOthers.trans ?_ (KeepsOthers.setCell _ _ _)
  refine KeepsOthers.trans ?_ (KeepsOthers.setCell _ _ _)
  refine KeepsOthers.trans ?_ (KeepsOthers.setCell _ _ _)
  refine KeepsOthers.trans ?_ (KeepsOthers.setCell _ _ _)
  refine KeepsOthers.trans ?_ (KeepsOthers.setCell _ _ _)
  refine KeepsOthers.trans ?_ (KeepsOthers.setCell _ _ _)
  exact KeepsOthers.setCell _ _ _
theorem set16_below {W w : World} {n₀ g : Nat} (h : Below n₀ w W) (hg : n₀ ≤ g) (v0 v1 v2 v3 v4 v5 v6 v7 v8 v9 v10 v11 v12 v13 v14 v15 : Value) : Below n₀ w ((((((((((((((((W.setCell ⟨g, 0, none⟩ (v0)).setCell ⟨g, 1, none⟩ (v1)).setCell ⟨g, 2, none⟩ (v2)).setCell ⟨g, 3, none⟩ (v3)).setCell ⟨g, 4, none⟩ (v4)).setCell ⟨g, 5, none⟩ (v5)).setCell ⟨g, 6, none⟩ (v6)).setCell ⟨g, 7, none⟩ (v7)).setCell ⟨g, 8, none⟩ (v8)).setCell ⟨g, 9, none⟩ (v9)).setCell ⟨g, 10, none⟩ (v10)).setCell ⟨g, 11, none⟩ (v11)).setCell ⟨g, 12, none⟩ (v12)).setCell ⟨g, 13, none⟩ (v13)).setCell ⟨g, 14, none⟩ (v14)).setCell ⟨g, 15, none⟩ (v15)) := by
  have h := Below.setCell (p := ⟨g, 0, none⟩) h hg v0
  have h := Below.setCell (p := ⟨g, 1, none⟩) h hg v1
  have h := Below.setCell (p := ⟨g, 2, none⟩) h hg v2
  have h := Below.setCell (p := ⟨g, 3, none⟩) h hg v3
  have h := Below.setCell (p := ⟨g, 4, none⟩) h hg v4
  have h := Below.setCell (p := ⟨g, 5, none⟩) h hg v5
  have h := Below.setCell (p := ⟨g, 6, none⟩) h hg v6
  have h := Below.setCell (p := ⟨g, 7, none⟩) h hg v7
  have h := Below.setCell (p := ⟨g, 8, none⟩) h hg v8
  have h := Below.setCell (p := ⟨g, 9, none⟩) h hg v9
  have h := Below.setCell (p := ⟨g, 10, none⟩) h hg v10
  have h := Below.setCell (p := ⟨g, 11, none⟩) h hg v11
  have h := Below.setCell (p := ⟨g, 12, none⟩) h hg v12
  have h := Below.setCell (p := ⟨g, 13, none⟩) h hg v13
  have h := Below.setCell (p := ⟨g, 14, none⟩) h hg v14
  have h := Below.setCell (p := ⟨g, 15, none⟩) h hg v15
  exact h
theorem set16_far {W : World} {g g' t : Nat} {cs : Array Value} (h : W.heap[g']? = some (.cells cs t (0, 0))) (hg : g' ≠ g) (v0 v1 v2 v3 v4 v5 v6 v7 v8 v9 v10 v11 v12 v13 v14 v15 : Value) : ((((((((((((((((W.setCell ⟨g, 0, none⟩ (v0)).setCell ⟨g, 1, none⟩ (v1)).setCell ⟨g, 2, none⟩ (v2)).setCell ⟨g, 3, none⟩ (v3)).setCell ⟨g, 4, none⟩ (v4)).setCell ⟨g, 5, none⟩ (v5)).setCell ⟨g, 6, none⟩ (v6)).setCell ⟨g, 7, none⟩ (v7)).setCell ⟨g, 8, none⟩ (v8)).setCell ⟨g, 9, none⟩ (v9)).setCell ⟨g, 10, none⟩ (v10)).setCell ⟨g, 11, none⟩ (v11)).setCell ⟨g, 12, none⟩ (v12)).setCell ⟨g, 13, none⟩ (v13)).setCell ⟨g, 14, none⟩ (v14)).setCell ⟨g, 15, none⟩ (v15)).heap[g']? = some (.cells cs t (0, 0)) := by
  have h := blk_far (p := ⟨g, 0, none⟩) h hg v0
  have h := blk_far (p := ⟨g, 1, none⟩) h hg v1
  have h := blk_far (p := ⟨g, 2, none⟩) h hg v2
  have h := blk_far (p := ⟨g, 3, none⟩) h hg v3
  have h := blk_far (p := ⟨g, 4, none⟩) h hg v4
  have h := blk_far (p := ⟨g, 5, none⟩) h hg v5
  have h := blk_far (p := ⟨g, 6, none⟩) h hg v6
  have h := blk_far (p := ⟨g, 7, none⟩) h hg v7
  have h := blk_far (p := ⟨g, 8, none⟩) h hg v8
  have h := blk_far (p := ⟨g, 9, none⟩) h hg v9
  have h := blk_far (p := ⟨g, 10, none⟩) h hg v10
  have h := blk_far (p := ⟨g, 11, none⟩) h hg v11
  have h := blk_far (p := ⟨g, 12, none⟩) h hg v12
  have h := blk_far (p := ⟨g, 13, none⟩) h hg v13
  have h := blk_far (p := ⟨g, 14, none⟩) h hg v14
  have h := blk_far (p := ⟨g, 15, none⟩) h hg v15
  exact h
section
attribute [local go_sem] Oper.semAt_some
set_option maxRecDepth 100000 in
set_option maxHeartbeats 4000000 in
theorem counted_in (F : Fence) (n : Nat) (hF : F.fn 56) (h26 : F.fn 57) (h41 : F.fn 68) (hro : F.round = none) (hn : 3 ≤ n) (A : Option Addr) (cap : Nat) (zs : List Int) (w : World) (hr : (Kd.int .i64).C w A zs.length zs) (hs : ¬ (zs.length < 1 ∨ 288 < zs.length)) (hbl : ∀ ad, A = some ad → ad.block < w.heap.size) :
    CallsIn F n Tryd.prog 56 #[.slice A zs.length cap] w (CountedPost zs w) := by
  have h1 : 1 ≤ n := by omega
  refine callsIn_of_wp_marks Tryd.func56 rfl hF ?_ hro
  simp only [Tryd.ntmps56, List.size_toArray, List.length_cons, List.length_nil, Nat.reduceAdd, Nat.reduceSub, Array.replicate_succ, Array.replicate_zero, List.push_toArray, List.append_toArray, List.nil_append, List.cons_append]
  have c1 := eq_false (show ¬ (zs.length : Int) < 1 by omega)
  have c2 := eq_false (show ¬ (zs.length : Int) > 288 by omega)
  obtain ⟨len, hl⟩ : ∃ m : Nat, zs.length = m := ⟨_, rfl⟩
  have d1 : decide ((zs.length : Int) < 1) = false := decide_eq_false (by omega)
  have d2 : decide ((288 : Int) < (zs.length : Int)) = false := decide_eq_false (by omega)
  have d3 := eq_false (show ¬ zs.length < 1 by omega)
  have d4 := eq_false (show ¬ 288 < zs.length by omega)
  clear hl
  gi_wp2_with (gi_at_call 57; refine (used_in F (n - 1) h26 hro _ _ _ _).mono ?_; rintro e w' ⟨rfl, rfl⟩)
  have bR2 := blk_alloc (blk_alloc (blk_alloc (blk_new w (.cells #[Value.int IntKind.i64 0, Value.int IntKind.i64 0, Value.int IntKind.i64 0, Value.int IntKind.i64 0, Value.int IntKind.i64 0, Value.int IntKind.i64 0, Value.int IntKind.i64 0, Value.int IntKind.i64 0, Value.int IntKind.i64 0, Value.int IntKind.i64 0, Value.int IntKind.i64 0, Value.int IntKind.i64 0, Value.int IntKind.i64 0, Value.int IntKind.i64 0, Value.int IntKind.i64 0, Value.int IntKind.i64 0] 115 (0, 0))) (.cells #[.bool false] 4 (0, 0))) (.cells #[Value.int IntKind.i64 0, Value.int IntKind.i64 0, Value.int IntKind.i64 0, Value.int IntKind.i64 0, Value.int IntKind.i64 0, Value.int IntKind.i64 0, Value.int IntKind.i64 0, Value.int IntKind.i64 0, Value.int IntKind.i64 0, Value.int IntKind.i64 0, Value.int IntKind.i64 0, Value.int IntKind.i64 0, Value.int IntKind.i64 0, Value.int IntKind.i64 0, Value.int IntKind.i64 0, Value.int IntKind.i64 0] 115 (0, 0))) (.cells #[.slice A zs.length cap] 32 (0, 0))
  have bR3 := blk_alloc (blk_alloc (blk_new (w.alloc (.cells #[Value.int IntKind.i64 0, Value.int IntKind.i64 0, Value.int IntKind.i64 0, Value.int IntKind.i64 0, Value.int IntKind.i64 0, Value.int IntKind.i64 0, Value.int IntKind.i64 0, Value.int IntKind.i64 0, Value.int IntKind.i64 0, Value.int IntKind.i64 0, Value.int IntKind.i64 0, Value.int IntKind.i64 0, Value.int IntKind.i64 0, Value.int IntKind.i64 0, Value.int IntKind.i64 0, Value.int IntKind.i64 0] 115 (0, 0))) (.cells #[.bool false] 4 (0, 0))) (.cells #[Value.int IntKind.i64 0, Value.int IntKind.i64 0, Value.int IntKind.i64 0, Value.int IntKind.i64 0, Value.int IntKind.i64 0, Value.int IntKind.i64 0, Value.int IntKind.i64 0, Value.int IntKind.i64 0, Value.int IntKind.i64 0, Value.int IntKind.i64 0, Value.int IntKind.i64 0, Value.int IntKind.i64 0, Value.int IntKind.i64 0, Value.int IntKind.i64 0, Value.int IntKind.i64 0, Value.int IntKind.i64 0] 115 (0, 0))) (.cells #[.slice A zs.length cap] 32 (0, 0))
  have bC := blk_alloc (blk_new ((w.alloc (.cells #[Value.int IntKind.i64 0, Value.int IntKind.i64 0, Value.int IntKind.i64 0, Value.int IntKind.i64 0, Value.int IntKind.i64 0, Value.int IntKind.i64 0, Value.int IntKind.i64 0, Value.int IntKind.i64 0, Value.int IntKind.i64 0, Value.int IntKind.i64 0, Value.int IntKind.i64 0, Value.int IntKind.i64 0, Value.int IntKind.i64 0, Value.int IntKind.i64 0, Value.int IntKind.i64 0, Value.int IntKind.i64 0] 115 (0, 0))).alloc (.cells #[.bool false] 4 (0, 0))) (.cells #[Value.int IntKind.i64 0, Value.int IntKind.i64 0, Value.int IntKind.i64 0, Value.int IntKind.i64 0, Value.int IntKind.i64 0, Value.int IntKind.i64 0, Value.int IntKind.i64 0, Value.int IntKind.i64 0, Value.int IntKind.i64 0, Value.int IntKind.i64 0, Value.int IntKind.i64 0, Value.int IntKind.i64 0, Value.int IntKind.i64 0, Value.int IntKind.i64 0, Value.int IntKind.i64 0, Value.int IntKind.i64 0] 115 (0, 0))) (.cells #[.slice A zs.length cap] 32 (0, 0))
  have bB := blk_new (((w.alloc (.cells #[Value.int IntKind.i64 0, Value.int IntKind.i64 0, Value.int IntKind.i64 0, Value.int IntKind.i64 0, Value.int IntKind.i64 0, Value.int IntKind.i64 0, Value.int IntKind.i64 0, Value.int IntKind.i64 0, Value.int IntKind.i64 0, Value.int IntKind.i64 0, Value.int IntKind.i64 0, Value.int IntKind.i64 0, Value.int IntKind.i64 0, Value.int IntKind.i64 0, Value.int IntKind.i64 0, Value.int IntKind.i64 0] 115 (0, 0))).alloc (.cells #[.bool false] 4 (0, 0))).alloc (.cells #[Value.int IntKind.i64 0, Value.int IntKind.i64 0, Value.int IntKind.i64 0, Value.int IntKind.i64 0, Value.int IntKind.i64 0, Value.int IntKind.i64 0, Value.int IntKind.i64 0, Value.int IntKind.i64 0, Value.int IntKind.i64 0, Value.int IntKind.i64 0, Value.int IntKind.i64 0, Value.int IntKind.i64 0, Value.int IntKind.i64 0, Value.int IntKind.i64 0, Value.int IntKind.i64 0, Value.int IntKind.i64 0] 115 (0, 0))) (.cells #[.slice A zs.length cap] 32 (0, 0))
  simp only [World.size_alloc] at bR3 bC bB
  have hB0 : Below w.heap.size w ((((w.alloc (.cells #[Value.int IntKind.i64 0, Value.int IntKind.i64 0, Value.int IntKind.i64 0, Value.int IntKind.i64 0, Value.int IntKind.i64 0, Value.int IntKind.i64 0, Value.int IntKind.i64 0, Value.int IntKind.i64 0, Value.int IntKind.i64 0, Value.int IntKind.i64 0, Value.int IntKind.i64 0, Value.int IntKind.i64 0, Value.int IntKind.i64 0, Value.int IntKind.i64 0, Value.int IntKind.i64 0, Value.int IntKind.i64 0] 115 (0, 0))).alloc (.cells #[.bool false] 4 (0, 0))).alloc (.cells #[Value.int IntKind.i64 0, Value.int IntKind.i64 0, Value.int IntKind.i64 0, Value.int IntKind.i64 0, Value.int IntKind.i64 0, Value.int IntKind.i64 0, Value.int IntKind.i64 0, Value.int IntKind.i64 0, Value.int IntKind.i64 0, Value.int IntKind.i64 0, Value.int IntKind.i64 0, Value.int IntKind.i64 0, Value.int IntKind.i64 0, Value.int IntKind.i64 0, Value.int IntKind.i64 0, Value.int IntKind.i64 0] 115 (0, 0))).alloc (.cells #[.slice A zs.length cap] 32 (0, 0))) := below_alloc (below_alloc (below_alloc (below_alloc (Below.refl _ _) _) _) _) _
  have hsz : ((((w.alloc (.cells #[Value.int IntKind.i64 0, Value.int IntKind.i64 0, Value.int IntKind.i64 0, Value.int IntKind.i64 0, Value.int IntKind.i64 0, Value.int IntKind.i64 0, Value.int IntKind.i64 0, Value.int IntKind.i64 0, Value.int IntKind.i64 0, Value.int IntKind.i64 0, Value.int IntKind.i64 0, Value.int IntKind.i64 0, Value.int IntKind.i64 0, Value.int IntKind.i64 0, Value.int IntKind.i64 0, Value.int IntKind.i64 0] 115 (0, 0))).alloc (.cells #[.bool false] 4 (0, 0))).alloc (.cells #[Value.int IntKind.i64 0, Value.int IntKind.i64 0, Value.int IntKind.i64 0, Value.int IntKind.i64 0, Value.int IntKind.i64 0, Value.int IntKind.i64 0, Value.int IntKind.i64 0, Value.int IntKind.i64 0, Value.int IntKind.i64 0, Value.int IntKind.i64 0, Value.int IntKind.i64 0, Value.int IntKind.i64 0, Value.int IntKind.i64 0, Value.int IntKind.i64 0, Value.int IntKind.i64 0, Value.int IntKind.i64 0] 115 (0, 0))).alloc (.cells #[.slice A zs.length cap] 32 (0, 0))).heap.size = w.heap.size + 4 := by simp only [World.size_alloc]
  generalize ((((w.alloc (.cells #[Value.int IntKind.i64 0, Value.int IntKind.i64 0, Value.int IntKind.i64 0, Value.int IntKind.i64 0, Value.int IntKind.i64 0, Value.int IntKind.i64 0, Value.int IntKind.i64 0, Value.int IntKind.i64 0, Value.int IntKind.i64 0, Value.int IntKind.i64 0, Value.int IntKind.i64 0, Value.int IntKind.i64 0, Value.int IntKind.i64 0, Value.int IntKind.i64 0, Value.int IntKind.i64 0, Value.int IntKind.i64 0] 115 (0, 0))).alloc (.cells #[.bool false] 4 (0, 0))).alloc (.cells #[Value.int IntKind.i64 0, Value.int IntKind.i64 0, Value.int IntKind.i64 0, Value.int IntKind.i64 0, Value.int IntKind.i64 0, Value.int IntKind.i64 0, Value.int IntKind.i64 0, Value.int IntKind.i64 0, Value.int IntKind.i64 0, Value.int IntKind.i64 0, Value.int IntKind.i64 0, Value.int IntKind.i64 0, Value.int IntKind.i64 0, Value.int IntKind.i64 0, Value.int IntKind.i64 0, Value.int IntKind.i64 0] 115 (0, 0))).alloc (.cells #[.slice A zs.length cap] 32 (0, 0))) = W0 at bR2 bR3 bC bB hB0 hsz ⊢
  have o1 : ∀ (g t : Nat) (cs : Array Value), OwnFrom (β := List (Nat × Int)) W0.heap.size (fun _ W => W.heap[g]? = some (.cells cs t (0, 0))) := fun g t cs => Own.from (blk_own (β := List (Nat × Int)) (fun _ => g) (fun _ => t) (fun _ => cs)) _
  have o2 : OwnFrom (β := List (Nat × Int)) W0.heap.size (fun pre W => W.heap[w.heap.size + 1 + 1]? = some (.cells (vec16 (cntL pre)) 115 (0, 0))) := Own.from (blk_own (fun _ => w.heap.size + 1 + 1) (fun _ => 115) (fun pre => vec16 (cntL pre))) _
  have o3 : OwnFrom (β := List (Nat × Int)) W0.heap.size (fun _ W => Below w.heap.size w W) := ownFrom_below (Nat.le_refl _) (by omega)
  refine wpIn_rangeFunc_ownG hro h1 (gf := 68) (lb := #[.pointer (some ⟨w.heap.size + 1 + 1 + 1, 0, none⟩)]) rfl h41 (enters_of Tryd.func68 (by kernel_rfl) rfl)
    (used_stops F (n - 1) h41 hro (by omega) (w.heap.size + 1 + 1 + 1) w.heap.size A zs.length cap zs rfl (by omega) hbl W0 (blk_lt bB) (by omega) ((blk_cell bB 0).trans rfl) (Kd.C_below hr hB0)) belowK_t (belowK_b (by omega)) (Below.refl _ _) (fun _ => rfl)
    (fun pre W => (∀ p ∈ pre, Lok p.2) ∧ W.heap[w.heap.size + 1 + 1]? = some (.cells (vec16 (cntL pre)) 115 (0, 0)) ∧ W.heap[w.heap.size]? = some (.cells #[Value.int IntKind.i64 0, Value.int IntKind.i64 0, Value.int IntKind.i64 0, Value.int IntKind.i64 0, Value.int IntKind.i64 0, Value.int IntKind.i64 0, Value.int IntKind.i64 0, Value.int IntKind.i64 0, Value.int IntKind.i64 0, Value.int IntKind.i64 0, Value.int IntKind.i64 0, Value.int IntKind.i64 0, Value.int IntKind.i64 0, Value.int IntKind.i64 0, Value.int IntKind.i64 0, Value.int IntKind.i64 0] 115 (0, 0)) ∧ W.heap[w.heap.size + 1]? = some (.cells #[.bool false] 4 (0, 0)) ∧ Below w.heap.size w W)
    (fun c pre W => (c = .ret ∧ ∃ ini last, pre = ini ++ [last] ∧ ¬ Lok last.2) ∧ W.heap[w.heap.size]? = some (.cells #[Value.int IntKind.i64 0, Value.int IntKind.i64 0, Value.int IntKind.i64 0, Value.int IntKind.i64 0, Value.int IntKind.i64 0, Value.int IntKind.i64 0, Value.int IntKind.i64 0, Value.int IntKind.i64 0, Value.int IntKind.i64 0, Value.int IntKind.i64 0, Value.int IntKind.i64 0, Value.int IntKind.i64 0, Value.int IntKind.i64 0, Value.int IntKind.i64 0, Value.int IntKind.i64 0, Value.int IntKind.i64 0] 115 (0, 0)) ∧ W.heap[w.heap.size + 1]? = some (.cells #[.bool false] 4 (0, 0)) ∧ Below w.heap.size w W)
    (OwnFrom.and (ownFrom_pure _ _) (OwnFrom.and o2 (OwnFrom.and (o1 _ _ _) (OwnFrom.and (o1 _ _ _) o3))))
    (fun c => OwnFrom.and (ownFrom_pure _ _) (OwnFrom.and (o1 _ _ _) (OwnFrom.and (o1 _ _ _) o3)))
    ⟨by simp, bC, bR2, bR3, hB0⟩
    (fun x => { tmps := #[.slice A zs.length cap, undef, .pointer (some ⟨w.heap.size, 0, none⟩), .pointer (some ⟨w.heap.size + 1, 0, none⟩), .pointer (some ⟨w.heap.size + 1 + 1, 0, none⟩), undef, .int .i64 x.2, .slice A zs.length cap, .int .i64 zs.length, .bool false, .bool false, .slice A zs.length cap, .int .i64 zs.length, .bool false, .bool false, undef, .slice A zs.length cap, .func (.func 68) #[] #[.pointer (some ⟨w.heap.size + 1 + 1 + 1, 0, none⟩)], .int .i64 (x.1 : Int), .int .i64 x.2, undef, undef, undef, undef, undef, undef, undef, undef, undef, undef, undef, undef, undef], defers := [] }) ?assign ?body ?done ?stop
  case assign =>
    intro l x W K hK
    gi_wp2
    exact hK
  case body =>
    rintro l pre x W ⟨hp, hC, hR2, hR3, hB⟩ _
    by_cases hx : Lok x.2
    · have q1 := eq_false (show ¬ x.2 < 0 from by have := hx.1; omega)
      have q2 := eq_false (show ¬ x.2 > 15 from by have := hx.2; omega)
      have q3 := eq_false (show ¬ 15 < x.2 from by have := hx.2; omega)
      obtain ⟨h0, h15⟩ := hx
      have hcl := cntL_len pre
      have hc : W.cell? ⟨w.heap.size + 1 + 1, x.2.toNat, none⟩ = some (.int .i64 (rd (cntL pre) x.2)) := by
        rw [blk_cell hC]
        unfold vec16 rd
        rw [List.getElem?_toArray, List.getElem?_map, List.getD_eq_getElem?_getD, List.getElem?_eq_getElem (show x.2.toNat < (cntL pre).length by omega)]
        rfl
      have hf := blk_frozen hC x.2.toNat
      have hi0 := eq_true h0
      have hi1 := eq_true (show x.2 < 16 by omega)
      have hi2 := eq_true (show x.2.toNat < 16 by omega)
      gi_wp2
      refine ⟨(KeepsOthers.setCell _ _ _).from _, (Below.refl w.heap.size W).setCell (p := ⟨w.heap.size + 1 + 1, x.2.toNat, none⟩) (show w.heap.size ≤ w.heap.size + 1 + 1 by omega) _, ⟨fun p hp' => (List.mem_append.1 hp').elim (hp p) (fun e => by simp at e; subst e; exact ⟨h0, h15⟩), ?_, blk_far (p := ⟨w.heap.size + 1 + 1, x.2.toNat, none⟩) hR2 (show w.heap.size ≠ w.heap.size + 1 + 1 by omega) _, blk_far (p := ⟨w.heap.size + 1 + 1, x.2.toNat, none⟩) hR3 (show w.heap.size + 1 ≠ w.heap.size + 1 + 1 by omega) _, hB.setCell (p := ⟨w.heap.size + 1 + 1, x.2.toNat, none⟩) (show w.heap.size ≤ w.heap.size + 1 + 1 by omega) _⟩⟩
      refine blk_put hC x.2.toNat _ ?_
      rw [cntL_snoc]
      unfold vec16 cntStep
      rw [List.setIfInBounds_toArray, List.map_set]
    · by_cases hneg : x.2 < 0
      · have q1 := eq_true hneg
        have hc0 : W.cell? ⟨w.heap.size, 0, none⟩ = some (.int .i64 0) := (blk_cell hR2 0).trans rfl
        have hf0 := blk_frozen hR2 0
        have hc1 : W.cell? ⟨w.heap.size, 1, none⟩ = some (.int .i64 0) := (blk_cell hR2 1).trans rfl
        have hf1 := blk_frozen hR2 1
        have hc2 : W.cell? ⟨w.heap.size, 2, none⟩ = some (.int .i64 0) := (blk_cell hR2 2).trans rfl
        have hf2 := blk_frozen hR2 2
        have hc3 : W.cell? ⟨w.heap.size, 3, none⟩ = some (.int .i64 0) := (blk_cell hR2 3).trans rfl
        have hf3 := blk_frozen hR2 3
        have hc4 : W.cell? ⟨w.heap.size, 4, none⟩ = some (.int .i64 0) := (blk_cell hR2 4).trans rfl
        have hf4 := blk_frozen hR2 4
        have hc5 : W.cell? ⟨w.heap.size, 5, none⟩ = some (.int .i64 0) := (blk_cell hR2 5).trans rfl
        have hf5 := blk_frozen hR2 5
        have hc6 : W.cell? ⟨w.heap.size, 6, none⟩ = some (.int .i64 0) := (blk_cell hR2 6).trans rfl
        have hf6 := blk_frozen hR2 6
        have hc7 : W.cell? ⟨w.heap.size, 7, none⟩ = some (.int .i64 0) := (blk_cell hR2 7).trans rfl
        have hf7 := blk_frozen hR2 7
        have hc8 : W.cell? ⟨w.heap.size, 8, none⟩ = some (.int .i64 0) := (blk_cell hR2 8).trans rfl
        have hf8 := blk_frozen hR2 8
        have hc9 : W.cell? ⟨w.heap.size, 9, none⟩ = some (.int .i64 0) := (blk_cell hR2 9).trans rfl
        have hf9 := blk_frozen hR2 9
        have hc10 : W.cell? ⟨w.heap.size, 10, none⟩ = some (.int .i64 0) := (blk_cell hR2 10).trans rfl
        have hf10 := blk_frozen hR2 10
        have hc11 : W.cell? ⟨w.heap.size, 11, none⟩ = some (.int .i64 0) := (blk_cell hR2 11).trans rfl
        have hf11 := blk_frozen hR2 11
        have hc12 : W.cell? ⟨w.heap.size, 12, none⟩ = some (.int .i64 0) := (blk_cell hR2 12).trans rfl
        have hf12 := blk_frozen hR2 12
        have hc13 : W.cell? ⟨w.heap.size, 13, none⟩ = some (.int .i64 0) := (blk_cell hR2 13).trans rfl
        have hf13 := blk_frozen hR2 13
        have hc14 : W.cell? ⟨w.heap.size, 14, none⟩ = some (.int .i64 0) := (blk_cell hR2 14).trans rfl
        have hf14 := blk_frozen hR2 14
        have hc15 : W.cell? ⟨w.heap.size, 15, none⟩ = some (.int .i64 0) := (blk_cell hR2 15).trans rfl
        have hf15 := blk_frozen hR2 15
        have hcb : W.cell? ⟨w.heap.size + 1, 0, none⟩ = some (.bool false) := (blk_cell hR3 0).trans rfl
        have hfb := blk_frozen hR3 0
        gi_wp2
        refine ⟨((set16_keeps W w.heap.size _ _ _ _ _ _ _ _ _ _ _ _ _ _ _ _).trans (KeepsOthers.setCell _ _ _)).from _, ⟨⟨rfl, by first | exact ⟨pre, x, rfl, hx⟩ | exact ⟨pre, x.1, x.2, rfl, hx⟩⟩, blk_far (p := ⟨w.heap.size + 1, 0, none⟩) (set16 hR2 _ _ _ _ _ _ _ _ _ _ _ _ _ _ _ _) (show w.heap.size ≠ w.heap.size + 1 by omega) _, blk_put (set16_far hR3 (show w.heap.size + 1 ≠ w.heap.size by omega) _ _ _ _ _ _ _ _ _ _ _ _ _ _ _ _) 0 _ rfl, (set16_below hB (Nat.le_refl _) _ _ _ _ _ _ _ _ _ _ _ _ _ _ _ _).setCell (p := ⟨w.heap.size + 1, 0, none⟩) (show w.heap.size ≤ w.heap.size + 1 by omega) _⟩⟩
      · have q1 := eq_false hneg
        have q2 := eq_true (show x.2 > 15 by unfold Lok at hx; omega)
        have q3 := eq_true (show 15 < x.2 by unfold Lok at hx; omega)
        have hc0 : W.cell? ⟨w.heap.size, 0, none⟩ = some (.int .i64 0) := (blk_cell hR2 0).trans rfl
        have hf0 := blk_frozen hR2 0
        have hc1 : W.cell? ⟨w.heap.size, 1, none⟩ = some (.int .i64 0) := (blk_cell hR2 1).trans rfl
        have hf1 := blk_frozen hR2 1
        have hc2 : W.cell? ⟨w.heap.size, 2, none⟩ = some (.int .i64 0) := (blk_cell hR2 2).trans rfl
        have hf2 := blk_frozen hR2 2
        have hc3 : W.cell? ⟨w.heap.size, 3, none⟩ = some (.int .i64 0) := (blk_cell hR2 3).trans rfl
        have hf3 := blk_frozen hR2 3
        have hc4 : W.cell? ⟨w.heap.size, 4, none⟩ = some (.int .i64 0) := (blk_cell hR2 4).trans rfl
        have hf4 := blk_frozen hR2 4
        have hc5 : W.cell? ⟨w.heap.size, 5, none⟩ = some (.int .i64 0) := (blk_cell hR2 5).trans rfl
        have hf5 := blk_frozen hR2 5
        have hc6 : W.cell? ⟨w.heap.size, 6, none⟩ = some (.int .i64 0) := (blk_cell hR2 6).trans rfl
        have hf6 := blk_frozen hR2 6
        have hc7 : W.cell? ⟨w.heap.size, 7, none⟩ = some (.int .i64 0) := (blk_cell hR2 7).trans rfl
        have hf7 := blk_frozen hR2 7
        have hc8 : W.cell? ⟨w.heap.size, 8, none⟩ = some (.int .i64 0) := (blk_cell hR2 8).trans rfl
        have hf8 := blk_frozen hR2 8
        have hc9 : W.cell? ⟨w.heap.size, 9, none⟩ = some (.int .i64 0) := (blk_cell hR2 9).trans rfl
        have hf9 := blk_frozen hR2 9
        have hc10 : W.cell? ⟨w.heap.size, 10, none⟩ = some (.int .i64 0) := (blk_cell hR2 10).trans rfl
        have hf10 := blk_frozen hR2 10
        have hc11 : W.cell? ⟨w.heap.size, 11, none⟩ = some (.int .i64 0) := (blk_cell hR2 11).trans rfl
        have hf11 := blk_frozen hR2 11
        have hc12 : W.cell? ⟨w.heap.size, 12, none⟩ = some (.int .i64 0) := (blk_cell hR2 12).trans rfl
        have hf12 := blk_frozen hR2 12
        have hc13 : W.cell? ⟨w.heap.size, 13, none⟩ = some (.int .i64 0) := (blk_cell hR2 13).trans rfl
        have hf13 := blk_frozen hR2 13
        have hc14 : W.cell? ⟨w.heap.size, 14, none⟩ = some (.int .i64 0) := (blk_cell hR2 14).trans rfl
        have hf14 := blk_frozen hR2 14
        have hc15 : W.cell? ⟨w.heap.size, 15, none⟩ = some (.int .i64 0) := (blk_cell hR2 15).trans rfl
        have hf15 := blk_frozen hR2 15
        have hcb : W.cell? ⟨w.heap.size + 1, 0, none⟩ = some (.bool false) := (blk_cell hR3 0).trans rfl
        have hfb := blk_frozen hR3 0
        gi_wp2
        refine ⟨((set16_keeps W w.heap.size _ _ _ _ _ _ _ _ _ _ _ _ _ _ _ _).trans (KeepsOthers.setCell _ _ _)).from _, ⟨⟨rfl, by first | exact ⟨pre, x, rfl, hx⟩ | exact ⟨pre, x.1, x.2, rfl, hx⟩⟩, blk_far (p := ⟨w.heap.size + 1, 0, none⟩) (set16 hR2 _ _ _ _ _ _ _ _ _ _ _ _ _ _ _ _) (show w.heap.size ≠ w.heap.size + 1 by omega) _, blk_put (set16_far hR3 (show w.heap.size + 1 ≠ w.heap.size by omega) _ _ _ _ _ _ _ _ _ _ _ _ _ _ _ _) 0 _ rfl, (set16_below hB (Nat.le_refl _) _ _ _ _ _ _ _ _ _ _ _ _ _ _ _ _).setCell (p := ⟨w.heap.size + 1, 0, none⟩) (show w.heap.size ≤ w.heap.size + 1 by omega) _⟩⟩
  case done =>
    rintro D ys W hD rfl ⟨hp, hC, hR2, hR3, hB⟩ hK
    have hall : (countedS zs) = (cntL (usedL zs zs.length), true) := by
      unfold countedS
      rw [if_neg hs, if_pos (List.all_eq_true.2 fun p hp' => decide_eq_true (hp p hp'))]
    have hlen := cntL_len (usedL zs zs.length)
    generalize cntL (usedL zs zs.length) = cl at hC hlen hall
    obtain ⟨x0, cl, rfl⟩ := List.exists_cons_of_length_pos (l := cl) (by omega)
    obtain ⟨x1, cl, rfl⟩ := List.exists_cons_of_length_pos (l := cl) (by simp only [List.length_cons] at hlen; omega)
    obtain ⟨x2, cl, rfl⟩ := List.exists_cons_of_length_pos (l := cl) (by simp only [List.length_cons] at hlen; omega)
    obtain ⟨x3, cl, rfl⟩ := List.exists_cons_of_length_pos (l := cl) (by simp only [List.length_cons] at hlen; omega)
    obtain ⟨x4, cl, rfl⟩ := List.exists_cons_of_length_pos (l := cl) (by simp only [List.length_cons] at hlen; omega)
    obtain ⟨x5, cl, rfl⟩ := List.exists_cons_of_length_pos (l := cl) (by simp only [List.length_cons] at hlen; omega)
    obtain ⟨x6, cl, rfl⟩ := List.exists_cons_of_length_pos (l := cl) (by simp only [List.length_cons] at hlen; omega)
    obtain ⟨x7, cl, rfl⟩ := List.exists_cons_of_length_pos (l := cl) (by simp only [List.length_cons] at hlen; omega)
    obtain ⟨x8, cl, rfl⟩ := List.exists_cons_of_length_pos (l := cl) (by simp only [List.length_cons] at hlen; omega)
    obtain ⟨x9, cl, rfl⟩ := List.exists_cons_of_length_pos (l := cl) (by simp only [List.length_cons] at hlen; omega)
    obtain ⟨x10, cl, rfl⟩ := List.exists_cons_of_length_pos (l := cl) (by simp only [List.length_cons] at hlen; omega)
    obtain ⟨x11, cl, rfl⟩ := List.exists_cons_of_length_pos (l := cl) (by simp only [List.length_cons] at hlen; omega)
    obtain ⟨x12, cl, rfl⟩ := List.exists_cons_of_length_pos (l := cl) (by simp only [List.length_cons] at hlen; omega)
    obtain ⟨x13, cl, rfl⟩ := List.exists_cons_of_length_pos (l := cl) (by simp only [List.length_cons] at hlen; omega)
    obtain ⟨x14, cl, rfl⟩ := List.exists_cons_of_length_pos (l := cl) (by simp only [List.length_cons] at hlen; omega)
    obtain ⟨x15, cl, rfl⟩ := List.exists_cons_of_length_pos (l := cl) (by simp only [List.length_cons] at hlen; omega)
    obtain rfl : cl = [] := List.eq_nil_of_length_eq_zero (by simp only [List.length_cons] at hlen; omega)
    replace hC : W.heap[w.heap.size + 1 + 1]? = some (.cells #[Value.int .i64 x0, Value.int .i64 x1, Value.int .i64 x2, Value.int .i64 x3, Value.int .i64 x4, Value.int .i64 x5, Value.int .i64 x6, Value.int .i64 x7, Value.int .i64 x8, Value.int .i64 x9, Value.int .i64 x10, Value.int .i64 x11, Value.int .i64 x12, Value.int .i64 x13, Value.int .i64 x14, Value.int .i64 x15] 115 (0, 0)) := hC
    have hx0 : W.cell? ⟨w.heap.size + 1 + 1, 0, none⟩ = some (Value.int .i64 x0) := (blk_cell hC 0).trans rfl
    have hx1 : W.cell? ⟨w.heap.size + 1 + 1, 1, none⟩ = some (Value.int .i64 x1) := (blk_cell hC 1).trans rfl
    have hx2 : W.cell? ⟨w.heap.size + 1 + 1, 2, none⟩ = some (Value.int .i64 x2) := (blk_cell hC 2).trans rfl
    have hx3 : W.cell? ⟨w.heap.size + 1 + 1, 3, none⟩ = some (Value.int .i64 x3) := (blk_cell hC 3).trans rfl
    have hx4 : W.cell? ⟨w.heap.size + 1 + 1, 4, none⟩ = some (Value.int .i64 x4) := (blk_cell hC 4).trans rfl
    have hx5 : W.cell? ⟨w.heap.size + 1 + 1, 5, none⟩ = some (Value.int .i64 x5) := (blk_cell hC 5).trans rfl
    have hx6 : W.cell? ⟨w.heap.size + 1 + 1, 6, none⟩ = some (Value.int .i64 x6) := (blk_cell hC 6).trans rfl
    have hx7 : W.cell? ⟨w.heap.size + 1 + 1, 7, none⟩ = some (Value.int .i64 x7) := (blk_cell hC 7).trans rfl
    have hx8 : W.cell? ⟨w.heap.size + 1 + 1, 8, none⟩ = some (Value.int .i64 x8) := (blk_cell hC 8).trans rfl
    have hx9 : W.cell? ⟨w.heap.size + 1 + 1, 9, none⟩ = some (Value.int .i64 x9) := (blk_cell hC 9).trans rfl
    have hx10 : W.cell? ⟨w.heap.size + 1 + 1, 10, none⟩ = some (Value.int .i64 x10) := (blk_cell hC 10).trans rfl
    have hx11 : W.cell? ⟨w.heap.size + 1 + 1, 11, none⟩ = some (Value.int .i64 x11) := (blk_cell hC 11).trans rfl
    have hx12 : W.cell? ⟨w.heap.size + 1 + 1, 12, none⟩ = some (Value.int .i64 x12) := (blk_cell hC 12).trans rfl
    have hx13 : W.cell? ⟨w.heap.size + 1 + 1, 13, none⟩ = some (Value.int .i64 x13) := (blk_cell hC 13).trans rfl
    have hx14 : W.cell? ⟨w.heap.size + 1 + 1, 14, none⟩ = some (Value.int .i64 x14) := (blk_cell hC 14).trans rfl
    have hx15 : W.cell? ⟨w.heap.size + 1 + 1, 15, none⟩ = some (Value.int .i64 x15) := (blk_cell hC 15).trans rfl
    have hz0 : W.cell? ⟨w.heap.size, 0, none⟩ = some (Value.int .i64 0) := (blk_cell hR2 0).trans rfl
    have hz1 : W.cell? ⟨w.heap.size, 1, none⟩ = some (Value.int .i64 0) := (blk_cell hR2 1).trans rfl
    have hz2 : W.cell? ⟨w.heap.size, 2, none⟩ = some (Value.int .i64 0) := (blk_cell hR2 2).trans rfl
    have hz3 : W.cell? ⟨w.heap.size, 3, none⟩ = some (Value.int .i64 0) := (blk_cell hR2 3).trans rfl
    have hz4 : W.cell? ⟨w.heap.size, 4, none⟩ = some (Value.int .i64 0) := (blk_cell hR2 4).trans rfl
    have hz5 : W.cell? ⟨w.heap.size, 5, none⟩ = some (Value.int .i64 0) := (blk_cell hR2 5).trans rfl
    have hz6 : W.cell? ⟨w.heap.size, 6, none⟩ = some (Value.int .i64 0) := (blk_cell hR2 6).trans rfl
    have hz7 : W.cell? ⟨w.heap.size, 7, none⟩ = some (Value.int .i64 0) := (blk_cell hR2 7).trans rfl
    have hz8 : W.cell? ⟨w.heap.size, 8, none⟩ = some (Value.int .i64 0) := (blk_cell hR2 8).trans rfl
    have hz9 : W.cell? ⟨w.heap.size, 9, none⟩ = some (Value.int .i64 0) := (blk_cell hR2 9).trans rfl
    have hz10 : W.cell? ⟨w.heap.size, 10, none⟩ = some (Value.int .i64 0) := (blk_cell hR2 10).trans rfl
    have hz11 : W.cell? ⟨w.heap.size, 11, none⟩ = some (Value.int .i64 0) := (blk_cell hR2 11).trans rfl
    have hz12 : W.cell? ⟨w.heap.size, 12, none⟩ = some (Value.int .i64 0) := (blk_cell hR2 12).trans rfl
    have hz13 : W.cell? ⟨w.heap.size, 13, none⟩ = some (Value.int .i64 0) := (blk_cell hR2 13).trans rfl
    have hz14 : W.cell? ⟨w.heap.size, 14, none⟩ = some (Value.int .i64 0) := (blk_cell hR2 14).trans rfl
    have hz15 : W.cell? ⟨w.heap.size, 15, none⟩ = some (Value.int .i64 0) := (blk_cell hR2 15).trans rfl
    have hf0 := blk_frozen hR2 0
    have hf1 := blk_frozen hR2 1
    have hf2 := blk_frozen hR2 2
    have hf3 := blk_frozen hR2 3
    have hf4 := blk_frozen hR2 4
    have hf5 := blk_frozen hR2 5
    have hf6 := blk_frozen hR2 6
    have hf7 := blk_frozen hR2 7
    have hf8 := blk_frozen hR2 8
    have hf9 := blk_frozen hR2 9
    have hf10 := blk_frozen hR2 10
    have hf11 := blk_frozen hR2 11
    have hf12 := blk_frozen hR2 12
    have hf13 := blk_frozen hR2 13
    have hf14 := blk_frozen hR2 14
    have hf15 := blk_frozen hR2 15
    have hcb : W.cell? ⟨w.heap.size + 1, 0, none⟩ = some (.bool false) := (blk_cell hR3 0).trans rfl
    have hfb := blk_frozen hR3 0
    have HA := Aside0.mk hall
    clear hall hlen
    gi_wp2
    have hKf := ((set16_keeps W w.heap.size (Value.int .i64 x0) (Value.int .i64 x1) (Value.int .i64 x2) (Value.int .i64 x3) (Value.int .i64 x4) (Value.int .i64 x5) (Value.int .i64 x6) (Value.int .i64 x7) (Value.int .i64 x8) (Value.int .i64 x9) (Value.int .i64 x10) (Value.int .i64 x11) (Value.int .i64 x12) (Value.int .i64 x13) (Value.int .i64 x14) (Value.int .i64 x15)).trans (KeepsOthers.setCell _ ⟨w.heap.size + 1, 0, none⟩ (.bool true))).same D _ hK rfl
    have hb2 := blk_far (p := ⟨w.heap.size + 1, 0, none⟩) (set16 hR2 (Value.int .i64 x0) (Value.int .i64 x1) (Value.int .i64 x2) (Value.int .i64 x3) (Value.int .i64 x4) (Value.int .i64 x5) (Value.int .i64 x6) (Value.int .i64 x7) (Value.int .i64 x8) (Value.int .i64 x9) (Value.int .i64 x10) (Value.int .i64 x11) (Value.int .i64 x12) (Value.int .i64 x13) (Value.int .i64 x14) (Value.int .i64 x15)) (show w.heap.size ≠ w.heap.size + 1 by omega) (.bool true)
    have hb3 := blk_put (set16_far hR3 (show w.heap.size + 1 ≠ w.heap.size by omega) (Value.int .i64 x0) (Value.int .i64 x1) (Value.int .i64 x2) (Value.int .i64 x3) (Value.int .i64 x4) (Value.int .i64 x5) (Value.int .i64 x6) (Value.int .i64 x7) (Value.int .i64 x8) (Value.int .i64 x9) (Value.int .i64 x10) (Value.int .i64 x11) (Value.int .i64 x12) (Value.int .i64 x13) (Value.int .i64 x14) (Value.int .i64 x15)) 0 (.bool true) (cs' := #[.bool true]) rfl
    have hBf := (set16_below hB (Nat.le_refl _) (Value.int .i64 x0) (Value.int .i64 x1) (Value.int .i64 x2) (Value.int .i64 x3) (Value.int .i64 x4) (Value.int .i64 x5) (Value.int .i64 x6) (Value.int .i64 x7) (Value.int .i64 x8) (Value.int .i64 x9) (Value.int .i64 x10) (Value.int .i64 x11) (Value.int .i64 x12) (Value.int .i64 x13) (Value.int .i64 x14) (Value.int .i64 x15)).setCell (p := ⟨w.heap.size + 1, 0, none⟩) (show w.heap.size ≤ w.heap.size + 1 by omega) (.bool true)
    generalize (((((((((((((((((W.setCell ⟨w.heap.size, 0, none⟩ (Value.int .i64 x0)).setCell ⟨w.heap.size, 1, none⟩ (Value.int .i64 x1)).setCell ⟨w.heap.size, 2, none⟩ (Value.int .i64 x2)).setCell ⟨w.heap.size, 3, none⟩ (Value.int .i64 x3)).setCell ⟨w.heap.size, 4, none⟩ (Value.int .i64 x4)).setCell ⟨w.heap.size, 5, none⟩ (Value.int .i64 x5)).setCell ⟨w.heap.size, 6, none⟩ (Value.int .i64 x6)).setCell ⟨w.heap.size, 7, none⟩ (Value.int .i64 x7)).setCell ⟨w.heap.size, 8, none⟩ (Value.int .i64 x8)).setCell ⟨w.heap.size, 9, none⟩ (Value.int .i64 x9)).setCell ⟨w.heap.size, 10, none⟩ (Value.int .i64 x10)).setCell ⟨w.heap.size, 11, none⟩ (Value.int .i64 x11)).setCell ⟨w.heap.size, 12, none⟩ (Value.int .i64 x12)).setCell ⟨w.heap.size, 13, none⟩ (Value.int .i64 x13)).setCell ⟨w.heap.size, 14, none⟩ (Value.int .i64 x14)).setCell ⟨w.heap.size, 15, none⟩ (Value.int .i64 x15)).setCell ⟨w.heap.size + 1, 0, none⟩ (.bool true)) = Wf at hKf hb2 hb3 hBf ⊢
    have e2 := ((grownBy_putObj' Wf D (.deferred none)).block w.heap.size (blk_lt hb2) (by intro e; injection e with e; omega)).trans hb2
    have e3 := ((grownBy_putObj' Wf D (.deferred none)).block (w.heap.size + 1) (blk_lt hb3) (by intro e; injection e with e; omega)).trans hb3
    refine ⟨by simp, .inl ⟨_, _, rfl, run_takeDeferred hKf, ?_⟩⟩
    have yb := (blk_cell e3 0).trans (show _ = some (Value.bool true) from rfl)
    refine ⟨.tuple #[agg16 [x0, x1, x2, x3, x4, x5, x6, x7, x8, x9, x10, x11, x12, x13, x14, x15], .bool true], ?_, by rw [HA.out], hBf.trans (belowK_b (w := w) (Nat.le_refl _) Wf D _ _ (by omega) hKf rfl rfl)⟩
    exact results_arr_bool rfl _ _ w.heap.size 115 _ (0, 0) (w.heap.size + 1) _ rfl e2 (by kernel_rfl) rfl yb
  case stop =>
    rintro D c pre W hD ⟨k, hk, rfl⟩ ⟨⟨rfl, ini, last, e1, e2⟩, hR2, hR3, hB⟩ hK
    have hall : countedS zs = (zero16, false) := by
      unfold countedS
      rw [if_neg hs, if_neg]
      intro h
      have hm : last ∈ usedL zs zs.length := usedL_sub zs hk last (by rw [e1]; simp)
      exact e2 (of_decide_eq_true (List.all_eq_true.1 h last hm))
    have HA := Aside0.mk hall
    clear hall e1 e2
    gi_wp2
    have e2 := ((grownBy_putObj' W D (.deferred none)).block w.heap.size (blk_lt hR2) (by intro e; injection e with e; omega)).trans hR2
    have e3 := ((grownBy_putObj' W D (.deferred none)).block (w.heap.size + 1) (blk_lt hR3) (by intro e; injection e with e; omega)).trans hR3
    refine ⟨by simp, .inl ⟨_, _, rfl, run_takeDeferred hK, ?_⟩⟩
    have yb := (blk_cell e3 0).trans (show _ = some (Value.bool false) from rfl)
    refine ⟨.tuple #[agg16 zero16, .bool false], ?_, by rw [HA.out], hB.trans (belowK_b (w := w) (Nat.le_refl _) W D _ _ (by omega) hK rfl rfl)⟩
    exact results_arr_bool rfl _ _ w.heap.size 115 _ (0, 0) (w.heap.size + 1) _ rfl e2 (by kernel_rfl) rfl yb
end
end Go.Proofs.YtgflkkjhckcipaaDoor.Hu

-- YtgflkkjhckcipaaDoorHu3
namespace Go.Proofs.YtgflkkjhckcipaaDoor.Hu
open Go.RowKit Go.Shelf Go.Proofs.YtgflkkjhckcipaaDoorW.PrintWords Go.Proofs.YtgflkkjhckcipaaDoorW.PrintLast Go.Proofs.YtgflkkjhckcipaaDoorW.PrintMore
set_option linter.unusedVariables false
set_option linter.unusedSimpArgs false
section
attribute [local go_sem] Oper.semAt_some
set_option maxRecDepth 100000 in
set_option maxHeartbeats 4000000 in
theorem counted_short (F : Fence) (n : Nat) (hF : F.fn 56) (hro : F.round = none) (A : Option Addr) (cap : Nat) (zs : List Int) (w : World) (hs : zs.length < 1 ∨ 288 < zs.length) :
    CallsIn F n Tryd.prog 56 #[.slice A zs.length cap] w (CountedPost zs w) := by
  have hall : countedS zs = (zero16, false) := by unfold countedS; rw [if_pos hs]
  have HA := Aside0.mk hall
  clear hall
  refine callsIn_of_wp Tryd.func56 rfl hF ?_ hro
  simp only [Tryd.ntmps56, List.size_toArray, List.length_cons, List.length_nil, Nat.reduceAdd, Nat.reduceSub, Array.replicate_succ, Array.replicate_zero, List.push_toArray, List.append_toArray, List.nil_append, List.cons_append]
  have bR2 := blk_alloc (blk_alloc (blk_new w (.cells #[Value.int IntKind.i64 0, Value.int IntKind.i64 0, Value.int IntKind.i64 0, Value.int IntKind.i64 0, Value.int IntKind.i64 0, Value.int IntKind.i64 0, Value.int IntKind.i64 0, Value.int IntKind.i64 0, Value.int IntKind.i64 0, Value.int IntKind.i64 0, Value.int IntKind.i64 0, Value.int IntKind.i64 0, Value.int IntKind.i64 0, Value.int IntKind.i64 0, Value.int IntKind.i64 0, Value.int IntKind.i64 0] 115 (0, 0))) (.cells #[.bool false] 4 (0, 0))) (.cells #[Value.int IntKind.i64 0, Value.int IntKind.i64 0, Value.int IntKind.i64 0, Value.int IntKind.i64 0, Value.int IntKind.i64 0, Value.int IntKind.i64 0, Value.int IntKind.i64 0, Value.int IntKind.i64 0, Value.int IntKind.i64 0, Value.int IntKind.i64 0, Value.int IntKind.i64 0, Value.int IntKind.i64 0, Value.int IntKind.i64 0, Value.int IntKind.i64 0, Value.int IntKind.i64 0, Value.int IntKind.i64 0] 115 (0, 0))
  have bR3 := blk_alloc (blk_new (w.alloc (.cells #[Value.int IntKind.i64 0, Value.int IntKind.i64 0, Value.int IntKind.i64 0, Value.int IntKind.i64 0, Value.int IntKind.i64 0, Value.int IntKind.i64 0, Value.int IntKind.i64 0, Value.int IntKind.i64 0, Value.int IntKind.i64 0, Value.int IntKind.i64 0, Value.int IntKind.i64 0, Value.int IntKind.i64 0, Value.int IntKind.i64 0, Value.int IntKind.i64 0, Value.int IntKind.i64 0, Value.int IntKind.i64 0] 115 (0, 0))) (.cells #[.bool false] 4 (0, 0))) (.cells #[Value.int IntKind.i64 0, Value.int IntKind.i64 0, Value.int IntKind.i64 0, Value.int IntKind.i64 0, Value.int IntKind.i64 0, Value.int IntKind.i64 0, Value.int IntKind.i64 0, Value.int IntKind.i64 0, Value.int IntKind.i64 0, Value.int IntKind.i64 0, Value.int IntKind.i64 0, Value.int IntKind.i64 0, Value.int IntKind.i64 0, Value.int IntKind.i64 0, Value.int IntKind.i64 0, Value.int IntKind.i64 0] 115 (0, 0))
  simp only [World.size_alloc] at bR3
  have hB0 : Below w.heap.size w (((w.alloc (.cells #[Value.int IntKind.i64 0, Value.int IntKind.i64 0, Value.int IntKind.i64 0, Value.int IntKind.i64 0, Value.int IntKind.i64 0, Value.int IntKind.i64 0, Value.int IntKind.i64 0, Value.int IntKind.i64 0, Value.int IntKind.i64 0, Value.int IntKind.i64 0, Value.int IntKind.i64 0, Value.int IntKind.i64 0, Value.int IntKind.i64 0, Value.int IntKind.i64 0, Value.int IntKind.i64 0, Value.int IntKind.i64 0] 115 (0, 0))).alloc (.cells #[.bool false] 4 (0, 0))).alloc (.cells #[Value.int IntKind.i64 0, Value.int IntKind.i64 0, Value.int IntKind.i64 0, Value.int IntKind.i64 0, Value.int IntKind.i64 0, Value.int IntKind.i64 0, Value.int IntKind.i64 0, Value.int IntKind.i64 0, Value.int IntKind.i64 0, Value.int IntKind.i64 0, Value.int IntKind.i64 0, Value.int IntKind.i64 0, Value.int IntKind.i64 0, Value.int IntKind.i64 0, Value.int IntKind.i64 0, Value.int IntKind.i64 0] 115 (0, 0))) := below_alloc (below_alloc (below_alloc (Below.refl _ _) _) _) _
  have H2 := Aside0.mk bR2
  have H3 := Aside0.mk bR3
  have HB := Aside0.mk hB0
  clear bR2 bR3 hB0
  rcases hs with hs | hs
  · have h1 := eq_true (show (zs.length : Int) < 1 by omega)
    have h2 := eq_true (show zs.length < 1 by omega)
    clear hs
    gi_wp2
    refine bodyPost_ret (results_arr_bool rfl _ _ w.heap.size 115 _ (0, 0) (w.heap.size + 1) _ rfl H2.out (by kernel_rfl) rfl ((blk_cell H3.out 0).trans rfl)) rfl ?_
    exact ⟨by rw [HA.out]; rfl, HB.out⟩
  · have h1 := eq_false (show ¬ (zs.length : Int) < 1 by omega)
    have h2 := eq_false (show ¬ zs.length < 1 by omega)
    have h3 := eq_true (show (288 : Int) < (zs.length : Int) by omega)
    have h4 := eq_true (show 288 < zs.length by omega)
    clear hs
    gi_wp2
    refine bodyPost_ret (results_arr_bool rfl _ _ w.heap.size 115 _ (0, 0) (w.heap.size + 1) _ rfl H2.out (by kernel_rfl) rfl ((blk_cell H3.out 0).trans rfl)) rfl ?_
    exact ⟨by rw [HA.out]; rfl, HB.out⟩
end
end Go.Proofs.YtgflkkjhckcipaaDoor.Hu

-- YtgflkkjhckcipaaDoorHu4
namespace Go.Proofs.YtgflkkjhckcipaaDoor.Hu
open Go.RowKit Go.Shelf Go.Proofs.YtgflkkjhckcipaaDoorW.PrintWords Go.Proofs.YtgflkkjhckcipaaDoorW.PrintLast Go.Proofs.YtgflkkjhckcipaaDoorW.PrintMore
set_option linter.unusedVariables false
set_option linter.unusedSimpArgs false
theorem huff_counted.calls (A : Option Addr) (c : Nat) (zs : List Int) (w : World) (hr : (Kd.int .i64).C w A zs.length zs) : Calls Tryd.prog 56 #[.slice A zs.length c] w (CountedPost zs w) := by
  refine (callsIn_wide (n := 3)).1 ?_
  by_cases hs : zs.length < 1 ∨ 288 < zs.length
  · exact counted_short _ _ trivial rfl A c zs w hs
  · refine counted_in _ _ trivial trivial trivial rfl (Nat.le_refl _) A c zs w hr hs (fun ad e => ?_)
    subst e
    obtain ⟨ad', e, hx⟩ := Kd.at_int hr 0 (by omega) (by omega)
    injection e with e
    subst e
    exact World.block_lt_of_cell? w _ hx
def roomF (c : List Int) : Nat → Int → Int
  | 0, left => left
  | d + 1, left => if wrap64 (wrap64 (2 * left) - rd c ((15 - d : Nat) : Int)) < 0 then wrap64 (wrap64 (2 * left) - rd c ((15 - d : Nat) : Int)) else roomF c d (wrap64 (wrap64 (2 * left) - rd c ((15 - d : Nat) : Int)))
def roomS (c : List Int) : Int := roomF c 15 1
section
attribute [local go_sem] Oper.semAt_some
set_option maxRecDepth 100000 in
set_option maxHeartbeats 4000000 in
theorem room_in (F : Fence) (n : Nat) (hF : F.fn 67) (hro : F.round = none) (g : Nat) (c : List Int) (hl : c.length = 16) (w : World) (hb : w.heap[g]? = some (.cells (vec16 c) 115 (0, 0))) :
    CallsIn F n Tryd.prog 67 #[.pointer (some ⟨g, 0, none⟩)] w fun e w' => e = .returned (.int .i64 (roomS c)) ∧ w' = w := by
  refine callsIn_of_wp Tryd.func67 rfl hF ?_ hro
  simp only [Tryd.ntmps67, List.size_toArray, List.length_cons, List.length_nil, Nat.reduceAdd, Nat.reduceSub, Array.replicate_succ, Array.replicate_zero, List.push_toArray, List.append_toArray, List.nil_append, List.cons_append]
  obtain ⟨rS, hS⟩ : ∃ r, roomS c = r := ⟨_, rfl⟩
  rw [hS]
  have HC : ∀ i : Nat, i < 16 → w.cell? ⟨g, i, none⟩ = some (.int .i64 (rd c (i : Int))) := fun i hi => by
    rw [blk_cell hb]
    unfold vec16 rd
    rw [List.getElem?_toArray, List.getElem?_map, List.getD_eq_getElem?_getD, Int.toNat_natCast, List.getElem?_eq_getElem (show i < c.length by omega)]
    rfl
  have HCA := Aside0.mk HC
  clear HC
  gi_wp2
  gi_loopw [3, 4] (fun x l wr => ∃ (d : Nat) (left : Int), d ≤ 15 ∧ x = .int .i64 left ∧ l = .int .i64 ((16 - d : Nat) : Int) ∧ roomF c d left = rS ∧ wr = w)
    (fun _ l _ => 16 - (intOf l).toNat)
  case atStart => exact ⟨15, 1, by omega, rfl, rfl, hS, rfl⟩
  case round =>
    obtain ⟨d, left, hd, rfl, rfl, hr, rfl⟩ := hrel
    cases d with
    | zero =>
      have q := eq_false (show ¬ ((16 - 0 : Nat) : Int) ≤ 15 by omega)
      simp only [roomF] at hr
      subst hr
      gi_wp2
      go_ret
      exact ⟨rfl, rfl⟩
    | succ d =>
      obtain ⟨m, hm⟩ : ∃ m : Nat, 16 - (d + 1) = m := ⟨_, rfl⟩
      rw [hm]
      have hm2 : 15 - d = m := by omega
      simp only [roomF, hm2] at hr
      have q := eq_true (show (m : Int) ≤ 15 by omega)
      have q0 := eq_true (show (0 : Int) ≤ (m : Int) by omega)
      have q1 := eq_true (show (m : Int) < 16 by omega)
      have q2 := eq_true (show m < 16 by omega)
      have q3 := eq_true (show m ≤ 15 by omega)
      have hc := HCA.out m (by omega)
      obtain ⟨y, hy⟩ : ∃ y, wrap64 (wrap64 (2 * left) - rd c (m : Int)) = y := ⟨_, rfl⟩
      rw [hy] at hr
      by_cases hneg : y < 0
      · rw [if_pos hneg] at hr
        subst hr
        have q4 := eq_true hneg
        gi_wp2
        go_ret
        exact ⟨by rw [← hy]; rfl, rfl⟩
      · rw [if_neg hneg] at hr
        have q4 := eq_false hneg
        gi_wp2
        go_roundw
        case rel => exact ⟨d, y, by omega, by first | rfl | (simp [hy]; done) | (rw [← hy]), by first | rfl | (congr 1; omega) | (simp; omega), hr, by first | rfl | trivial⟩
        case measure => simp [intOf]; omega
end
theorem room.calls (g : Nat) (c : List Int) (hl : c.length = 16) (w : World) (hb : w.heap[g]? = some (.cells (vec16 c) 115 (0, 0))) : Calls Tryd.prog 67 #[.pointer (some ⟨g, 0, none⟩)] w fun e w' => e = .returned (.int .i64 (roomS c)) ∧ w' = w :=
  (callsIn_wide (n := 3)).1 (room_in _ _ trivial rfl g c hl w hb)
end Go.Proofs.YtgflkkjhckcipaaDoor.Hu

