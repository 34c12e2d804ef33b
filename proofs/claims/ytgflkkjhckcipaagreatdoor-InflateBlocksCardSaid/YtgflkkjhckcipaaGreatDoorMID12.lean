-- Texts by hand and by programs of this session, joined (wip/tool/merge.py).
import Derived.Shelf.Abstract
import Derived.Shelf.RegionOpen
import Derived.OwnWalkIn
import Derived.TacticsInMore
import Derived.LoopNIn
import Derived.LoopIn
import Derived.Test.YtgflkkjhckcipaaGreatDoorMID11
-- YtgflkkjhckcipaaGreatDoorIf14
set_option maxHeartbeats 16000000
set_option maxRecDepth 1000000
namespace Go.Proofs.YtgflkkjhckcipaaGreatDoor.Pr
open Go.RowKit Go.Shelf Go.Proofs.YtgflkkjhckcipaaGreatDoorW.PrintWords Go.Proofs.YtgflkkjhckcipaaGreatDoorW.PrintLast Go.Proofs.YtgflkkjhckcipaaGreatDoorW.PrintMore
set_option linter.unusedVariables false
set_option linter.unusedSimpArgs false
def fixL (i : Nat) : Int := if 144 ≤ i ∧ i < 256 then 9 else if 256 ≤ i ∧ i < 280 then 7 else 8
def fixUp (i : Nat) : List Int := (List.range 288).map fun j => if j < i then fixL j else 0
def fixLit : List Int := (List.range 288).map fixL
def fixDistUp (i : Nat) : List Int := List.replicate i 5 ++ List.replicate (32 - i) 0
def fixDist : List Int := List.replicate 32 5
theorem fixUp_len (i : Nat) : (fixUp i).length = 288 := by unfold fixUp; rw [List.length_map, List.length_range]
theorem fixUp_zero : fixUp 0 = List.replicate 288 0 := by decide +kernel
theorem fixUp_all : fixUp 288 = fixLit := by decide +kernel
theorem fixUp_set {i : Nat} (h : i < 288) : (fixUp i).set i (fixL i) = fixUp (i + 1) := by
  apply List.ext_getElem?
  intro j; rw [List.getElem?_set, fixUp_len]; unfold fixUp; rw [List.getElem?_map, List.getElem?_map]
  by_cases hj : j < 288
  · rw [List.getElem?_range hj]; simp only [Option.map_some]
    by_cases e : i = j
    · subst e; rw [if_pos rfl, if_pos hj, if_pos (by omega)]
    rw [if_neg e]
    by_cases e2 : j < i
    · rw [if_pos e2, if_pos (by omega)]
    rw [if_neg e2, if_neg (by omega)]
  rw [if_neg (by omega), List.getElem?_eq_none (by rw [List.length_range]; omega)]
  rfl
theorem fixDist_all : fixDistUp 32 = fixDist := rfl
theorem fixDist_all_ : ∀ i : Fin 32, (fixDistUp i.val).set i.val 5 = fixDistUp (i.val + 1) := by decide
theorem fixDist_set {i : Nat} (h : i < 32) : (fixDistUp i).set i 5 = fixDistUp (i + 1) := fixDist_all_ ⟨i, h⟩
theorem fixLit_new : Hu.newS fixLit = 0 := by decide +kernel
theorem fixDist_new : Hu.newS fixDist = 0 := by decide +kernel
theorem okl_new {z : List Int} (h : Hu.newS z = 0) : OKL z := (tbl_of_new h).1
def fixedM (l : List Int) (most : Int) (k p : Nat) (out : List Int) : Except Int (Nat × List Int) := symbolsM l most fixLit (some fixDist) k p out
theorem R_apart {W : World} {base e gl gd n c : Nat} {xs : List Int} (h : Kd.R (Kd.int .i64) e W base (fun _ => True) (.slice (some ⟨gd, 0, none⟩) n c) xs) (hne : gl ≠ gd) (i : Nat) (u : Value) : Kd.R (Kd.int .i64) e (W.setCell ⟨gl, i, none⟩ u) base (fun _ => True) (.slice (some ⟨gd, 0, none⟩) n c) xs :=
  Kd.R_of_own (own_setCell (Kd.own_of_R h) (fun e => hne (by injection e)) u) (fun _ _ => trivial)
theorem fixLit_len : fixLit.length = 288 := by decide +kernel
theorem fixDist_len_ : fixDist.length = 32 := by decide +kernel
theorem table_ok (A : Option Addr) (c n : Nat) (z : List Int) (w : World) (hn : z.length = n) (hr : (Kd.int .i64).C w A z.length z) (hz : Hu.newS z = 0) :
    Calls Tryz.prog 34 #[.slice A n c] w fun e w' => ∃ gt, e = .returned (.pointer (some ⟨gt, 0, none⟩)) ∧ CodeIn w' (.pointer (some ⟨gt, 0, none⟩)) (some z) ∧ Below w.heap.size w w' := by
  subst hn; refine (table_calls A c z w hr).mono ?_; rintro e w' (⟨_, gt, he, hT, hb⟩ | ⟨h0, _⟩)
  · exact ⟨gt, he, ⟨okl_new hz, rfl, hT⟩, hb⟩
  exact absurd hz h0
theorem ToldO.from {w0 w w1 w' : World} {g c : Nat} {A : Option Addr} {l : List Int} {N at_ : Int} {v v1 : Value} {out : List Int} {most : Int} {e : Ending} {R : Except Int (Nat × List Int)} (H : RdrAt w0 w g A c l N at_ v out most) {N1 at1 : Int} {out1 : List Int} (H1 : RdrAt w0 w1 g A c l N1 at1 v1 out1 most) (hm : Moved w w1 g v v1) (h : ToldO w0 w1 g A c l v1 most e w' R) : ToldO w0 w g A c l v most e w' R := by
  cases R with
  | ok r =>
    obtain ⟨h1, h2, v', h3, h4⟩ := h; exact ⟨h1, h2, v', h3, hm.trans h4⟩
  | error er => exact Gives.from h (H.between H1 hm.size) (Nat.le_refl _)
section
attribute [local go_sem] Oper.semAt_some
theorem fixed_told {w0 : World} {A : Option Addr} {c : Nat} {l : List Int} (hr : RowOk w0 A c l) (w : World) (g p : Nat) (v : Value) (out : List Int) (most : Int) (H : RdrAt w0 w g A c l (NN l) (p : Int) v out most) (hp : p ≤ 8 * l.length) (hm0 : (out.length : Int) ≤ most) (hm1 : most ≤ 65536) (k : Nat) (hk : 8 * l.length - p < k) :
    Calls Tryz.prog 19 #[.pointer (some ⟨g, 0, none⟩)] w fun e w' => ToldO w0 w g A c l v most e w' (fixedM l most k p out) := by
  have HR := Aside0.mk hr
  have HX := Aside0.mk H
  have HP := Aside0.mk hp
  have HM0 := Aside0.mk hm0
  have HM1 := Aside0.mk hm1
  have HK := Aside0.mk hk
  have HB := Aside0.mk (Below.refl w.heap.size w)
  clear hr H hp hm0 hm1 hk
  unfold fixedM
  obtain ⟨R, hR⟩ : ∃ R, symbolsM l most fixLit (some fixDist) k p out = R := ⟨_, rfl⟩
  rw [hR]
  have HRR := Aside0.mk hR
  clear hR
  go_enter Tryz.func19, Tryz.ntmps19
  go_upto_region 0 with (fail)
  have HB_ := Aside0.mk (below_drew1 HB.out)
  clear HB
  have HB := HB_
  clear HB_
  refine start_ (n := 4) (S := fun w' => True) (ds := []) #[false, false, false, false] (by kernel_rfl) rfl rfl trivial (fun hHeld => ?_)
  generalize w.drew = wd at HB hHeld ⊢
  refine join_ (σ := Nat × Nat × Nat × Nat) 1 #[true, true, true, false] (fun s => [(6, .slice (some ⟨s.1, 0, none⟩) 288 s.2.1), (7, .slice (some ⟨s.2.2.1, 0, none⟩) 32 s.2.2.2), (2, .slice (some ⟨s.1, 0, none⟩) 288 s.2.1)]) (fun s w' => (Kd.R (Kd.int .i64) 3 w' w.heap.size (fun _ => True) (.slice (some ⟨s.1, 0, none⟩) 288 s.2.1) (List.replicate 288 0) ∧ Kd.R (Kd.int .i64) 3 w' w.heap.size (fun _ => True) (.slice (some ⟨s.2.2.1, 0, none⟩) 32 s.2.2.2) (List.replicate 32 0) ∧ s.1 ≠ s.2.2.1 ∧ w.heap.size ≤ s.1 ∧ w.heap.size ≤ s.2.2.1 ∧ Below w.heap.size w w') ∧ True) ?_ ?_
  rotate_left
  · intro hCont
    refine two_ (i := 0) (j := 1) (Ni := some 6) (Nj := some 7) #[true, false, false, false] #[false, true, false, false] rfl rfl rfl rfl (by kernel_rfl) (by decide) (by decide) (fun K hK => ?_) (fun K hK => ?_)
    · skip
      refine Kd.R_make_step (Kd.int .i64) (w0 := w) w.heap.size 3 (by rfl) (N := 6) rfl 68 (.const (.int .i64 288)) (.const (.int .i64 288)) rfl 288 rfl rfl Tryz.underlying68 (.int .i64 0) 8 Hu.info3 rfl (by decide) (by omega) (0 : Int) (ok := fun _ => True) (okp := fun _ => False) rfl (fun _ h => h.elim) trivial (by decide) (by decide) HB.out HB.out.size ?_
      intro v0_ w4 ho hb hg hat
      replace ho : Kd.R (Kd.int .i64) 3 w4 w.heap.size (fun _ => True) v0_ (List.replicate 288 0) := ho
      obtain ⟨gl, cl, ev, hgb, hgl_, cells_, hcells_⟩ := Kd.R_form ho (by rw [List.length_replicate]; decide)
      rw [List.length_replicate] at ev
      subst ev
      have n0 := Aside0.mk (hb)
      have n1 := Aside0.mk (ho)
      clear HB
      have HB := n0
      have HL := n1
      clear n0 n1
      clear hb hg hat hgb hgl_ hcells_ ho
      refine hK.out _ _ trivial (fun hHeld => ?_)
      clear hK K
      refine norm_ (a' := ?_) ?_ ?_
      rotate_left
      · show Act.put _ (some 6) _ = _
        simp only [Act.put, List.setIfInBounds_toArray, List.set_cons_zero, List.set_cons_succ, i64_w, i32_w, u8_w]
        rfl
      refine pure_ (i := 2) (N := some 2) (v := ?_) (a' := ?_) #[true, false, true, false] rfl rfl (by kernel_rfl) (fun _ _ _ h => h) (Or.inl ⟨by rfl, ?_⟩) ?_ ?_
      rotate_left
      · intro w'
        go_simp
        with_reducible rfl
      rotate_left
      · simp only [Act.put, List.setIfInBounds_toArray, List.set_cons_zero, List.set_cons_succ, i64_w, i32_w, u8_w]
        rfl
      refine one_ (i := 1) (N := some 7) #[true, true, true, false] rfl rfl (by kernel_rfl) (by decide) (fun K hK => ?_)
      refine Kd.R_make_step (Kd.int .i64) (w0 := w) w.heap.size 3 (by rfl) (N := 7) rfl 68 (.const (.int .i64 32)) (.const (.int .i64 32)) rfl 32 rfl rfl Tryz.underlying68 (.int .i64 0) 8 Hu.info3 rfl (by decide) (by omega) (0 : Int) (ok := fun _ => True) (okp := fun _ => False) rfl (fun _ h => h.elim) trivial (by decide) (by decide) HB.out HB.out.size ?_
      intro v1_ w5 ho hb hg hat
      replace ho : Kd.R (Kd.int .i64) 3 w5 w.heap.size (fun _ => True) v1_ (List.replicate 32 0) := ho
      obtain ⟨gd, cd, ev, hgb, hgl_, cells_, hcells_⟩ := Kd.R_form ho (by rw [List.length_replicate]; decide)
      rw [List.length_replicate] at ev
      subst ev
      have hne : gd ≠ gl := (by have hlt := Kd.R_lt HL.out gl rfl; obtain ⟨b, hb1, hb2⟩ := hat; simp [Value.ownBlock] at hb1; omega)
      have HNE := Aside0.mk (show gl ≠ gd from fun e => hne e.symm)
      clear hne
      have n0 := Aside0.mk (hb)
      have n1 := Aside0.mk (ho)
      have n2 := Aside0.mk (Kd.R_grown HL.out hg (fun k _ => by simp))
      clear HB HL
      have HB := n0
      have HD := n1
      have HL := n2
      clear n0 n1 n2
      clear hb hg hat hgb hgl_ hcells_ ho
      refine hK.out _ _ trivial (fun hHeld => ?_)
      clear hK K
      refine norm_ (a' := ?_) ?_ ?_
      rotate_left
      · show Act.put _ (some 7) _ = _
        simp only [Act.put, List.setIfInBounds_toArray, List.set_cons_zero, List.set_cons_succ, i64_w, i32_w, u8_w]
        rfl
      exact norm_ (by simp only [putAll, Act.put, List.setIfInBounds_toArray, List.set_cons_zero, List.set_cons_succ]) (hCont (gl, cl, gd, cd) _ ⟨⟨HL.out, HD.out, HNE.out, Kd.R_base HL.out gl rfl, Kd.R_base HD.out gd rfl, HB.out⟩, trivial⟩)
    · skip
      refine Kd.R_make_step (Kd.int .i64) (w0 := w) w.heap.size 3 (by rfl) (N := 7) rfl 68 (.const (.int .i64 32)) (.const (.int .i64 32)) rfl 32 rfl rfl Tryz.underlying68 (.int .i64 0) 8 Hu.info3 rfl (by decide) (by omega) (0 : Int) (ok := fun _ => True) (okp := fun _ => False) rfl (fun _ h => h.elim) trivial (by decide) (by decide) HB.out HB.out.size ?_
      intro v1_ w4 ho hb hg hat
      replace ho : Kd.R (Kd.int .i64) 3 w4 w.heap.size (fun _ => True) v1_ (List.replicate 32 0) := ho
      obtain ⟨gd, cd, ev, hgb, hgl_, cells_, hcells_⟩ := Kd.R_form ho (by rw [List.length_replicate]; decide)
      rw [List.length_replicate] at ev
      subst ev
      have n0 := Aside0.mk (hb)
      have n1 := Aside0.mk (ho)
      clear HB
      have HB := n0
      have HD := n1
      clear n0 n1
      clear hb hg hat hgb hgl_ hcells_ ho
      refine hK.out _ _ trivial (fun hHeld => ?_)
      clear hK K
      refine norm_ (a' := ?_) ?_ ?_
      rotate_left
      · show Act.put _ (some 7) _ = _
        simp only [Act.put, List.setIfInBounds_toArray, List.set_cons_zero, List.set_cons_succ, i64_w, i32_w, u8_w]
        rfl
      refine one_ (i := 0) (N := some 6) #[true, true, false, false] rfl rfl (by kernel_rfl) (by decide) (fun K hK => ?_)
      refine Kd.R_make_step (Kd.int .i64) (w0 := w) w.heap.size 3 (by rfl) (N := 6) rfl 68 (.const (.int .i64 288)) (.const (.int .i64 288)) rfl 288 rfl rfl Tryz.underlying68 (.int .i64 0) 8 Hu.info3 rfl (by decide) (by omega) (0 : Int) (ok := fun _ => True) (okp := fun _ => False) rfl (fun _ h => h.elim) trivial (by decide) (by decide) HB.out HB.out.size ?_
      intro v0_ w5 ho hb hg hat
      replace ho : Kd.R (Kd.int .i64) 3 w5 w.heap.size (fun _ => True) v0_ (List.replicate 288 0) := ho
      obtain ⟨gl, cl, ev, hgb, hgl_, cells_, hcells_⟩ := Kd.R_form ho (by rw [List.length_replicate]; decide)
      rw [List.length_replicate] at ev
      subst ev
      have hne : gl ≠ gd := (by have hlt := Kd.R_lt HD.out gd rfl; obtain ⟨b, hb1, hb2⟩ := hat; simp [Value.ownBlock] at hb1; omega)
      have HNE := Aside0.mk (show gl ≠ gd from hne)
      clear hne
      have n0 := Aside0.mk (hb)
      have n1 := Aside0.mk (ho)
      have n2 := Aside0.mk (Kd.R_grown HD.out hg (fun k _ => by simp))
      clear HB HD
      have HB := n0
      have HL := n1
      have HD := n2
      clear n0 n1 n2
      clear hb hg hat hgb hgl_ hcells_ ho
      refine hK.out _ _ trivial (fun hHeld => ?_)
      clear hK K
      refine norm_ (a' := ?_) ?_ ?_
      rotate_left
      · show Act.put _ (some 6) _ = _
        simp only [Act.put, List.setIfInBounds_toArray, List.set_cons_zero, List.set_cons_succ, i64_w, i32_w, u8_w]
        rfl
      refine pure_ (i := 2) (N := some 2) (v := ?_) (a' := ?_) #[true, true, true, false] rfl rfl (by kernel_rfl) (fun _ _ _ h => h) (Or.inl ⟨by rfl, ?_⟩) ?_ ?_
      rotate_left
      · intro w'
        go_simp
        with_reducible rfl
      rotate_left
      · simp only [Act.put, List.setIfInBounds_toArray, List.set_cons_zero, List.set_cons_succ, i64_w, i32_w, u8_w]
        rfl
      exact norm_ (by simp only [putAll, Act.put, List.setIfInBounds_toArray, List.set_cons_zero, List.set_cons_succ]) (hCont (gl, cl, gd, cd) _ ⟨⟨HL.out, HD.out, HNE.out, Kd.R_base HL.out gl rfl, Kd.R_base HD.out gd rfl, HB.out⟩, trivial⟩)
  rintro ⟨gl, cl, gd, cd⟩ w9 ⟨⟨hL, hD, hne, hgel, hged, hB⟩, hHeld⟩
  have HGE := Aside0.mk hgel
  have HGD := Aside0.mk hged
  have HL := Aside0.mk hL
  have HD := Aside0.mk hD
  have HNE := Aside0.mk hne
  have HB := Aside0.mk hB
  clear hL hD hne hB hgel hged
  refine norm_ (a' := ?_) ?_ ?_
  rotate_left
  · simp only [putAll, Act.put, List.setIfInBounds_toArray, List.set_cons_zero, List.set_cons_succ]
    rfl
  refine pure_ (i := 3) (N := some 3) (v := ?_) (a' := ?_) #[true, true, true, true] rfl rfl (by kernel_rfl) (fun _ _ _ h => h) (Or.inl ⟨by rfl, ?_⟩) ?_ ?_
  rotate_left
  · intro w'
    go_simp
    with_reducible rfl
  rotate_left
  · simp only [Act.put, List.setIfInBounds_toArray, List.set_cons_zero, List.set_cons_succ, i64_w, i32_w, u8_w]
    rfl
  refine done_ (by kernel_rfl) ?_
  clear hHeld
  have HL_ := Aside0.mk (show Kd.R (Kd.int .i64) 3 w9 w.heap.size (fun _ => True) (.slice (some ⟨gl, 0, none⟩) 288 cl) (fixUp 0) from by rw [fixUp_zero]; exact HL.out)
  clear HL
  have HL := HL_
  clear HL_
  go_wp2
  go_loopw [10] (fun x10 w' => ∃ i : Nat, i ≤ 288 ∧ x10 = .int .i64 (i : Int) ∧ Aside0 (Kd.R (Kd.int .i64) 3 w' w.heap.size (fun _ => True) (.slice (some ⟨gl, 0, none⟩) 288 cl) (fixUp i)) ∧ Aside0 (Kd.R (Kd.int .i64) 3 w' w.heap.size (fun _ => True) (.slice (some ⟨gd, 0, none⟩) 32 cd) (List.replicate 32 0)) ∧ Aside0 (Below w.heap.size w w')) (fun x10 _ => 289 - (intOf x10).toNat)
  case atStart => exact ⟨0, by omega, rfl, HL, HD, HB⟩
  case round =>
    clear HL HD HB
    obtain ⟨i, hi, rfl, HL, HD, HB⟩ := hrel
    by_cases hlt : i < 288
    · by_cases h9 : 144 ≤ i ∧ i < 256
      · have q0 := eq_true (show (144 : Int) ≤ (i : Int) by omega)
        have q0n := eq_true (show 144 ≤ i by omega)
        have q1 := eq_true (show (i : Int) < 256 by omega)
        have q1n := eq_true (show i < 256 by omega)
        have hcv := (Hu.row_at HL.out i hlt).1
        have hfv := (Hu.row_at HL.out i hlt).2
        have HI := Aside0.mk hlt
        have HFX := Aside0.mk (show fixL i = 9 from by unfold fixL; rw [if_pos (by omega)])
        have q10 := eq_true (show (i : Int) < 288 by omega)
        have q11 := eq_true hlt
        have q12 := eq_true (show (0 : Int) ≤ (i : Int) by omega)
        clear hlt hi
        go_wp2
        go_roundw
        case rel => exact ⟨i + 1, by have := HI.out; omega, (by (congr 1)), ⟨by rw [← fixUp_set HI.out, HFX.out]; exact (Hu.row_put HL.out i 9).1⟩, ⟨R_apart HD.out HNE.out _ _⟩, ⟨HB.out.setCell (p := ⟨gl, i, none⟩) HGE.out _⟩⟩
        case measure => (simp only [intOf]; have := HI.out; omega)
      · by_cases h7 : 256 ≤ i ∧ i < 280
        · have q0 := eq_true (show (144 : Int) ≤ (i : Int) by omega)
          have q0n := eq_true (show 144 ≤ i by omega)
          have q1 := eq_false (show ¬ (i : Int) < 256 by omega)
          have q1n := eq_false (show ¬ i < 256 by omega)
          have q2 := eq_true (show (256 : Int) ≤ (i : Int) by omega)
          have q2n := eq_true (show 256 ≤ i by omega)
          have q3 := eq_true (show (i : Int) < 280 by omega)
          have q3n := eq_true (show i < 280 by omega)
          have hcv := (Hu.row_at HL.out i hlt).1
          have hfv := (Hu.row_at HL.out i hlt).2
          have HI := Aside0.mk hlt
          have HFX := Aside0.mk (show fixL i = 7 from by unfold fixL; rw [if_neg (by omega), if_pos (by omega)])
          have q10 := eq_true (show (i : Int) < 288 by omega)
          have q11 := eq_true hlt
          have q12 := eq_true (show (0 : Int) ≤ (i : Int) by omega)
          clear hlt hi
          go_wp2
          go_roundw
          case rel => exact ⟨i + 1, by have := HI.out; omega, (by (congr 1)), ⟨by rw [← fixUp_set HI.out, HFX.out]; exact (Hu.row_put HL.out i 7).1⟩, ⟨R_apart HD.out HNE.out _ _⟩, ⟨HB.out.setCell (p := ⟨gl, i, none⟩) HGE.out _⟩⟩
          case measure => (simp only [intOf]; have := HI.out; omega)
        · rcases (by omega : i < 144 ∨ 280 ≤ i) with h8 | h8
          · have q0 := eq_false (show ¬ (144 : Int) ≤ (i : Int) by omega)
            have q0n := eq_false (show ¬ 144 ≤ i by omega)
            have q2 := eq_false (show ¬ (256 : Int) ≤ (i : Int) by omega)
            have q2n := eq_false (show ¬ 256 ≤ i by omega)
            have hcv := (Hu.row_at HL.out i hlt).1
            have hfv := (Hu.row_at HL.out i hlt).2
            have HI := Aside0.mk hlt
            have HFX := Aside0.mk (show fixL i = 8 from by unfold fixL; rw [if_neg (by omega), if_neg (by omega)])
            have q10 := eq_true (show (i : Int) < 288 by omega)
            have q11 := eq_true hlt
            have q12 := eq_true (show (0 : Int) ≤ (i : Int) by omega)
            clear hlt hi
            go_wp2
            go_roundw
            case rel => exact ⟨i + 1, by have := HI.out; omega, (by (congr 1)), ⟨by rw [← fixUp_set HI.out, HFX.out]; exact (Hu.row_put HL.out i 8).1⟩, ⟨R_apart HD.out HNE.out _ _⟩, ⟨HB.out.setCell (p := ⟨gl, i, none⟩) HGE.out _⟩⟩
            case measure => (simp only [intOf]; have := HI.out; omega)
          · have q0 := eq_true (show (144 : Int) ≤ (i : Int) by omega)
            have q0n := eq_true (show 144 ≤ i by omega)
            have q1 := eq_false (show ¬ (i : Int) < 256 by omega)
            have q1n := eq_false (show ¬ i < 256 by omega)
            have q2 := eq_true (show (256 : Int) ≤ (i : Int) by omega)
            have q2n := eq_true (show 256 ≤ i by omega)
            have q3 := eq_false (show ¬ (i : Int) < 280 by omega)
            have q3n := eq_false (show ¬ i < 280 by omega)
            have hcv := (Hu.row_at HL.out i hlt).1
            have hfv := (Hu.row_at HL.out i hlt).2
            have HI := Aside0.mk hlt
            have HFX := Aside0.mk (show fixL i = 8 from by unfold fixL; rw [if_neg (by omega), if_neg (by omega)])
            have q10 := eq_true (show (i : Int) < 288 by omega)
            have q11 := eq_true hlt
            have q12 := eq_true (show (0 : Int) ≤ (i : Int) by omega)
            clear hlt hi
            go_wp2
            go_roundw
            case rel => exact ⟨i + 1, by have := HI.out; omega, (by exact val_next _ (by have := HI.out; omega)), ⟨by rw [← fixUp_set HI.out, HFX.out]; exact (Hu.row_put HL.out i 8).1⟩, ⟨R_apart HD.out HNE.out _ _⟩, ⟨HB.out.setCell (p := ⟨gl, i, none⟩) HGE.out _⟩⟩
            case measure => (rw [nat_next _ (by have := HI.out; omega)]; simp only [intOf, Int.toNat_natCast]; have := HI.out; omega)
    · obtain rfl : i = 288 := by omega
      have HL_ := Aside0.mk (show Kd.R (Kd.int .i64) 3 wr w.heap.size (fun _ => True) (.slice (some ⟨gl, 0, none⟩) 288 cl) fixLit from by rw [← fixUp_all]; exact HL.out)
      clear HL hi hlt
      have HL := HL_
      clear HL_
      have HD_ := Aside0.mk (show Kd.R (Kd.int .i64) 3 wr w.heap.size (fun _ => True) (.slice (some ⟨gd, 0, none⟩) 32 cd) (fixDistUp 0) from HD.out)
      clear HD
      have HD := HD_
      clear HD_
      go_wp2
      go_loopw [39] (fun x39 w' => ∃ i : Nat, i ≤ 32 ∧ x39 = .int .i64 (i : Int) ∧ Aside0 (Kd.R (Kd.int .i64) 3 w' w.heap.size (fun _ => True) (.slice (some ⟨gl, 0, none⟩) 288 cl) fixLit) ∧ Aside0 (Kd.R (Kd.int .i64) 3 w' w.heap.size (fun _ => True) (.slice (some ⟨gd, 0, none⟩) 32 cd) (fixDistUp i)) ∧ Aside0 (Below w.heap.size w w')) (fun x39 _ => 33 - (intOf x39).toNat)
      case atStart => exact ⟨0, by omega, rfl, HL, HD, HB⟩
      case round =>
        clear HL HD HB
        obtain ⟨i, hi, rfl, HL, HD, HB⟩ := hrel
        by_cases hlt : i < 32
        · have hcv := (Hu.row_at HD.out i hlt).1
          have hfv := (Hu.row_at HD.out i hlt).2
          have HI := Aside0.mk hlt
          have q10 := eq_true (show (i : Int) < 32 by omega)
          have q11 := eq_true hlt
          have q12 := eq_true (show (0 : Int) ≤ (i : Int) by omega)
          clear hlt hi
          go_wp2
          go_roundw
          case rel => exact ⟨i + 1, by have := HI.out; omega, (by exact val_next _ (by have := HI.out; omega)), ⟨R_apart HL.out HNE.out.symm _ _⟩, ⟨by rw [← fixDist_set HI.out]; exact (Hu.row_put HD.out i 5).1⟩, ⟨HB.out.setCell (p := ⟨gd, i, none⟩) HGD.out _⟩⟩
          case measure => (rw [nat_next _ (by have := HI.out; omega)]; simp only [intOf, Int.toNat_natCast]; have := HI.out; omega)
        · obtain rfl : i = 32 := by omega
          have HD_ := Aside0.mk (show Kd.R (Kd.int .i64) 3 wr w.heap.size (fun _ => True) (.slice (some ⟨gd, 0, none⟩) 32 cd) fixDist from by rw [← fixDist_all]; exact HD.out)
          clear HD hi hlt
          have HD := HD_
          clear HD_
          cases R with
          | error er =>
            go_wp2_with (first
        | (go_at_call 34; refine (table_ok (some ⟨gl, 0, none⟩) cl 288 fixLit _ fixLit_len (Kd.R_reads' HL.out).2.2 fixLit_new).mono ?_; rintro e w' ⟨gt, rfl, hT, hb⟩; have n0 := Aside0.mk (hT); have n1 := Aside0.mk (Kd.R_below HD.out hb); have n2 := Aside0.mk (below_then HB.out HB.out.size hb); clear HD HB HL; have C1 := n0; have HD := n1; have HB := n2; clear n0 n1 n2; clear hT hb)
        | (go_at_call 34; refine (table_ok (some ⟨gd, 0, none⟩) cd 32 fixDist _ fixDist_len_ (Kd.R_reads' HD.out).2.2 fixDist_new).mono ?_; rintro e w' ⟨gt2, rfl, hT, hb⟩; have n0 := Aside0.mk (hT); have n1 := Aside0.mk (C1.out.on hb); have n2 := Aside0.mk (below_then HB.out HB.out.size hb); clear C1 HB HD; have C2 := n0; have C1 := n1; have HB := n2; clear n0 n1 n2; clear hT hb)
        | (go_at_call 33; have hcc := symbols_told HR.out _ g p v out most _ fixLit _ (some fixDist) (HX.out.on HB.out) HP.out HM0.out HM1.out C1.out C2.out (okl_new fixLit_new) (fun z hz => by injection hz with hz; subst hz; exact okl_new fixDist_new) k HK.out; rw [HRR.out] at hcc; refine hcc.mono ?_; clear hcc; rintro e w' ⟨pp, rfl, hfa, hb⟩)
        )
            exact ⟨rfl, pp, rfl, hfa, (HX.out.between (HX.out.on HB.out) HB.out.size).trans hb⟩
          | ok r =>
            obtain ⟨p2, ys⟩ := r
            go_wp2_with (first
        | (go_at_call 34; refine (table_ok (some ⟨gl, 0, none⟩) cl 288 fixLit _ fixLit_len (Kd.R_reads' HL.out).2.2 fixLit_new).mono ?_; rintro e w' ⟨gt, rfl, hT, hb⟩; have n0 := Aside0.mk (hT); have n1 := Aside0.mk (Kd.R_below HD.out hb); have n2 := Aside0.mk (below_then HB.out HB.out.size hb); clear HD HB HL; have C1 := n0; have HD := n1; have HB := n2; clear n0 n1 n2; clear hT hb)
        | (go_at_call 34; refine (table_ok (some ⟨gd, 0, none⟩) cd 32 fixDist _ fixDist_len_ (Kd.R_reads' HD.out).2.2 fixDist_new).mono ?_; rintro e w' ⟨gt2, rfl, hT, hb⟩; have n0 := Aside0.mk (hT); have n1 := Aside0.mk (C1.out.on hb); have n2 := Aside0.mk (below_then HB.out HB.out.size hb); clear C1 HB HD; have C2 := n0; have C1 := n1; have HB := n2; clear n0 n1 n2; clear hT hb)
        | (go_at_call 33; have hcc := symbols_told HR.out _ g p v out most _ fixLit _ (some fixDist) (HX.out.on HB.out) HP.out HM0.out HM1.out C1.out C2.out (okl_new fixLit_new) (fun z hz => by injection hz with hz; subst hz; exact okl_new fixDist_new) k HK.out; rw [HRR.out] at hcc; refine hcc.mono ?_; clear hcc; rintro e w' ⟨rfl, hq, v', hat, hm⟩)
        )
            go_end0
            exact ⟨rfl, hq, v', hat, (Moved.of_below g v HB.out).trans hm⟩
end
-- YtgflkkjhckcipaaGreatDoorIf15
def orderL : List Nat := [16, 17, 18, 0, 8, 7, 9, 6, 10, 5, 11, 4, 12, 3, 13, 2, 14, 1, 15]
def codesM (l : List Int) : Nat → Nat → Nat → List Int → Except Int (List Int × Nat)
  | 0, _, p, lens => if Hu.newS lens = 0 then .ok (lens, p) else .error (Hu.newS lens)
  | d + 1, i, p, lens => match bitsM l p 3 with
    | .error e => .error e
    | .ok (x, p1) => codesM l d (i + 1) p1 (lens.set (orderL.getD i 0) x)
def extraN (s : Int) : Nat := if s = 16 then 2 else if s = 17 then 3 else if s = 18 then 7 else 0
def takeM (out : List Int) (s x : Int) (n : Nat) : Except Int (List Int) :=
  if s = 16 ∧ out.length = 0 then .error 9
  else
    let v : Int := if s = 16 then out.getD (out.length - 1) 0 else if s = 17 then 0 else if s = 18 then 0 else s
    let many : Nat := if s = 16 then 3 + x.toNat else if s = 17 then 3 + x.toNat else if s = 18 then 11 + x.toNat else 1
    if many > n - out.length then .error 3 else .ok (out ++ List.replicate many v)
def lengthsM (l z : List Int) (n : Nat) : Nat → Nat → List Int → Except Int (List Int × Nat)
  | 0, _, _ => .error 0
  | k + 1, p, out => if out.length < n then (match symM l (some z) p with
      | .error e => .error e
      | .ok (s, p1) => match bitsM l p1 (extraN s) with
        | .error e => .error e
        | .ok (x, p2) => match takeM out s x n with
          | .error e => .error e
          | .ok out2 => lengthsM l z n k p2 out2)
    else .ok (out, p)
def headerM (l : List Int) (k p : Nat) : Except Int (List Int × List Int × Nat) :=
  match bitsM l p 5 with
  | .error e => .error e
  | .ok (x, p1) => match bitsM l p1 5 with
    | .error e => .error e
    | .ok (y, p2) => if 257 + x > 286 ∨ 1 + y > 30 then .error 3 else match bitsM l p2 4 with
      | .error e => .error e
      | .ok (q, p3) => match codesM l (4 + q.toNat) 0 p3 (List.replicate 19 0) with
        | .error e => .error e
        | .ok (z, p4) => match lengthsM l z (257 + x.toNat + (1 + y.toNat)) k p4 [] with
          | .error e => .error e
          | .ok (all, p5) => .ok (all.take (257 + x.toNat), all.drop (257 + x.toNat), p5)
def HGives (n : Nat) (w w' : World) (er : Int) (e : Ending) : Prop := e = .panicked [{ v := .iface 24 (.int .i64 er), recovered := false }] ∧ Below n w w'
structure HRdrAt (w0 w : World) (g : Nat) (A : Option Addr) (c : Nat) (l : List Int) (N at_ : Int) : Prop where
  below : Below w0.heap.size w0 w
  ge : w0.heap.size ≤ g
  blk : w.heap[g]? = some (.cells #[.slice A l.length c, .int .i64 N, .int .i64 at_] 115 (0, 0))
structure HMoved (w w' : World) (g : Nat) : Prop where
  size : w.heap.size ≤ w'.heap.size
  keep : ∀ k, k < w.heap.size → k ≠ g → w'.heap[k]? = w.heap[k]?
theorem HMoved.of_below {w w' : World} (g : Nat) (h : Below w.heap.size w w') : HMoved w w' g := ⟨h.size, fun k hk _ => h.block k hk⟩
theorem HMoved.trans {w w1 w2 : World} {g : Nat} (h : HMoved w w1 g) (k : HMoved w1 w2 g) : HMoved w w2 g := ⟨Nat.le_trans h.size k.size, fun i hi hg => (k.keep i (Nat.lt_of_lt_of_le hi h.size) hg).trans (h.keep i hi hg)⟩
theorem HMoved.set_ {w w1 : World} {g : Nat} (h : HMoved w w1 g) (j : Nat) (u : Value) : HMoved w (w1.setCell ⟨g, j, none⟩ u) g := ⟨by simpa [World.setCell] using h.size, fun i hi hg => (Below.heap_setCell w1 ⟨g, j, none⟩ u i hg).trans (h.keep i hi hg)⟩
theorem HRdrAt.on {w0 w w' : World} {g c : Nat} {A : Option Addr} {l : List Int} {N at_ : Int} (h : HRdrAt w0 w g A c l N at_) (hb : Below w.heap.size w w') : HRdrAt w0 w' g A c l N at_ := ⟨below_then h.below h.below.size hb, h.ge, blk_below h.blk hb⟩
theorem HRdrAt.setAt {w0 w : World} {g c : Nat} {A : Option Addr} {l : List Int} {N at_ : Int} (h : HRdrAt w0 w g A c l N at_) (x : Int) : HRdrAt w0 (w.setCell ⟨g, 2, none⟩ (.int .i64 x)) g A c l N x := ⟨h.below.setCell (p := ⟨g, 2, none⟩) h.ge _, h.ge, blk_set h.blk 2 _⟩
theorem HRdrAt.between {w0 w w1 : World} {g g1 c c1 : Nat} {A A1 : Option Addr} {l l1 : List Int} {N at_ N1 at1 : Int} (H : HRdrAt w0 w g A c l N at_) (H1 : HRdrAt w0 w1 g1 A1 c1 l1 N1 at1) (hs : w.heap.size ≤ w1.heap.size) : Below w0.heap.size w w1 :=
  ⟨H1.below.os.trans H.below.os.symm, H1.below.tape.trans H.below.tape.symm, H1.below.output.trans H.below.output.symm, hs, fun k hk => (H1.below.block k hk).trans (H.below.block k hk).symm⟩
def HToldV (w0 w : World) (g : Nat) (A : Option Addr) (c : Nat) (l : List Int) (e : Ending) (w' : World) : Except Int (Int × Nat) → Prop
  | .ok (x, p') => e = .returned (.int .i64 x) ∧ p' ≤ 8 * l.length ∧ HRdrAt w0 w' g A c l (NN l) ((p' : Nat) : Int) ∧ HMoved w w' g
  | .error er => HGives w0.heap.size w w' er e
theorem hmust_zero (r : Value) (w : World) : Calls Tryz.prog 49 #[r, .int .i64 0] w fun e w' => e = .returned (.tuple #[]) ∧ w' = w := by
  go_enter Tryz.func49, Tryz.ntmps49; go_wp2
  go_end0
  exact ⟨rfl, rfl⟩
theorem hmust_else (r : Value) (er : Int) (h : er ≠ 0) (w : World) : Calls Tryz.prog 49 #[r, .int .i64 er] w fun e w' => HGives w.heap.size w w' er e := by
  have q := bne_iff_ne.2 h; go_enter Tryz.func49, Tryz.ntmps49; go_wp2; exact ⟨rfl, rfl, Below.refl _ _⟩
section
attribute [local go_sem] Oper.semAt_some
theorem hbits_calls (k : Nat) {w0 : World} {A : Option Addr} {c : Nat} {l : List Int} (hC : (Kd.int .u8).C w0 A l.length l) (hc : l.length ≤ c) (w : World) (g : Nat) (N at_ n r1 r2 : Int) (H : HRdrAt w0 w g A c l N at_) (hf : bits_Get.f k l N at_ n = some (r1, r2)) :
    Calls Tryz.prog 48 #[.pointer (some ⟨g, 0, none⟩), .int .i64 n] w fun e w' => (r2 = 0 ∧ e = .returned (.int .i64 r1) ∧ HRdrAt w0 w' g A c l N (wrap64 (at_ + n)) ∧ HMoved w w' g) ∨ (r2 ≠ 0 ∧ HGives w0.heap.size w w' r2 e) := by
  have huR := Tryz.underlying115; have huB := Tryz.underlying43; have HF := Ak hf; have HC := Ak hC; have HCc := Ak hc; have HX := Ak H; have AT := Ak H; have MV := Ak (HMoved.of_below g (Below.refl w.heap.size w)); clear H hf hC hc
  by_cases h2 : r2 = 0
  · subst h2; go_enter Tryz.func48, Tryz.ntmps48
    go_upto_region 1 with (fail)
    replace AT := Ak (AT.out.on (below_drew (Below.refl _ _))); replace MV := Ak (MV.out.trans (HMoved.of_below g (below_drew (Below.refl _ _)))); refine sq 15 (S := fun w' => w'.cell? ⟨g, 0, none⟩ = some (.slice A l.length c) ∧ w'.cell? ⟨g, 1, none⟩ = some (.int .i64 N) ∧ w'.cell? ⟨g, 2, none⟩ = some (.int .i64 at_)) (ds := []) ⟨(blk_cell AT.out.blk 0).trans rfl, (blk_cell AT.out.blk 1).trans rfl, (blk_cell AT.out.blk 2).trans rfl⟩ fun hHeld => ?_; generalize w.drew = wd at AT MV hHeld ⊢; refine pq 0 8 ?_; refine pq 1 9 ?_; refine pq 2 10 ?_; refine pq 4 12 ?_; refine pq 5 13 ?_; refine pq 6 14 ?_; refine pq 8 16 ?_; refine tq 3 11 ?_ hHeld; refine tq 7 15 ?_ hHeld; refine oq 9 17 fun K hK => ?_; refine gq Tryz.func30 #[.agg #[.slice A l.length c, .int .i64 N], .int .i64 at_, .int .i64 n] ?_
    with_reducible refine (bits_Get.calls k A c l N at_ n r1 0 _ (Kd.C_below HC.out AT.out.below) HCc.out HF.out).mono ?_
    rintro e w5 ⟨rfl, hb⟩; refine ⟨_, rfl, ?_⟩; replace AT := Ak (AT.out.on hb); replace MV := Ak (MV.out.trans (HMoved.of_below g hb)); clear hb; refine hK.out _ _ ⟨(blk_cell AT.out.blk 0).trans rfl, (blk_cell AT.out.blk 1).trans rfl, (blk_cell AT.out.blk 2).trans rfl⟩ (fun hHeld => ?_); clear hK K; refine nq 17 ?_; refine pq 10 7 ?_; refine pq 11 18 ?_; refine pq 12 19 ?_; refine pq 13 5 ?_; refine pq 14 6 ?_; refine dq ?_; have hc2 : w5.cell? ⟨g, 2, none⟩ = some (.int .i64 at_) := (blk_cell AT.out.blk 2).trans rfl; have hf2 := blk_frozen AT.out.blk 2
    go_wp2_with (go_at_call 49; refine (hmust_zero _ _).mono ?_; rintro e w' ⟨rfl, rfl⟩)
    go_ret; exact .inl ⟨trivial, rfl, AT.out.setAt _, MV.out.set_ 2 _⟩
  have HN := Ak h2; clear h2; go_enter Tryz.func48, Tryz.ntmps48
  go_upto_region 1 with (fail)
  replace AT := Ak (AT.out.on (below_drew (Below.refl _ _))); replace MV := Ak (MV.out.trans (HMoved.of_below g (below_drew (Below.refl _ _)))); refine sq 15 (S := fun w' => w'.cell? ⟨g, 0, none⟩ = some (.slice A l.length c) ∧ w'.cell? ⟨g, 1, none⟩ = some (.int .i64 N) ∧ w'.cell? ⟨g, 2, none⟩ = some (.int .i64 at_)) (ds := []) ⟨(blk_cell AT.out.blk 0).trans rfl, (blk_cell AT.out.blk 1).trans rfl, (blk_cell AT.out.blk 2).trans rfl⟩ fun hHeld => ?_; generalize w.drew = wd at AT MV hHeld ⊢; refine pq 0 8 ?_; refine pq 1 9 ?_; refine pq 2 10 ?_; refine pq 4 12 ?_; refine pq 5 13 ?_; refine pq 6 14 ?_; refine pq 8 16 ?_; refine tq 3 11 ?_ hHeld; refine tq 7 15 ?_ hHeld; refine oq 9 17 fun K hK => ?_; refine gq Tryz.func30 #[.agg #[.slice A l.length c, .int .i64 N], .int .i64 at_, .int .i64 n] ?_
  with_reducible refine (bits_Get.calls k A c l N at_ n r1 r2 _ (Kd.C_below HC.out AT.out.below) HCc.out HF.out).mono ?_
  rintro e w5 ⟨rfl, hb⟩; refine ⟨_, rfl, ?_⟩; replace AT := Ak (AT.out.on hb); replace MV := Ak (MV.out.trans (HMoved.of_below g hb)); clear hb; refine hK.out _ _ ⟨(blk_cell AT.out.blk 0).trans rfl, (blk_cell AT.out.blk 1).trans rfl, (blk_cell AT.out.blk 2).trans rfl⟩ (fun hHeld => ?_); clear hK K; refine nq 17 ?_; refine pq 10 7 ?_; refine pq 11 18 ?_; refine pq 12 19 ?_; refine pq 13 5 ?_; refine pq 14 6 ?_; refine dq ?_
  go_wp2_with (go_at_call 49; refine (hmust_else _ r2 HN.out _).mono ?_; rintro e w' ⟨rfl, hb⟩)
  exact ⟨rfl, .inr ⟨HN.out, rfl, (HX.out.between AT.out MV.out.size).trans (hb.mono AT.out.below.size)⟩⟩
end
theorem hbits_told {w0 : World} {A : Option Addr} {c : Nat} {l : List Int} (hr : RowOk w0 A c l) (w : World) (g p n : Nat) (m : Int) (hm : m = (n : Int)) (H : HRdrAt w0 w g A c l (NN l) (p : Int)) (hp : p ≤ 8 * l.length) (hn : n ≤ 32) :
    Calls Tryz.prog 48 #[.pointer (some ⟨g, 0, none⟩), .int .i64 m] w fun e w' => HToldV w0 w g A c l e w' (bitsM l p n) := by
  subst hm; have hlen := hr.len; have hf := get_eq (k := 40) (Nat.le_refl _) (l := l) (n := NN l) (a := (p : Int)) (c := (n : Int)) hr.byt (by omega) (by unfold NN; omega) (by unfold NN; omega); rw [getS_at hr.byt hp hn] at hf; unfold bitsM
  by_cases h : p + n ≤ 8 * l.length
  · rw [if_pos h] at hf ⊢; refine (hbits_calls 40 hr.C hr.cap w g _ _ _ _ _ H hf).mono ?_; rintro e w' (⟨_, he, hat, hm⟩ | ⟨hne, _⟩)
    · have e1 : wrap64 ((p : Int) + (n : Int)) = ((p + n : Nat) : Int) := by rw [wrap64_id (by omega) (by omega)]; omega
      rw [e1] at hat; exact ⟨he, h, hat, hm⟩
    exact absurd rfl hne
  rw [if_neg h] at hf ⊢; refine (hbits_calls 40 hr.C hr.cap w g _ _ _ _ _ H hf).mono ?_; rintro e w' (⟨h0, _⟩ | ⟨_, hg⟩)
  · exact absurd h0 (by decide)
  exact hg
-- YtgflkkjhckcipaaGreatDoorIf16
structure RMoved (w w' : World) (v v' : Value) : Prop where
  size : w.heap.size ≤ w'.heap.size
  keep : ∀ k, k < w.heap.size → some k ≠ v.ownBlock → w'.heap[k]? = w.heap[k]?
  own : v'.ownBlock = v.ownBlock ∨ ∃ j, w.heap.size ≤ j ∧ v'.ownBlock = some j
theorem RMoved.of_below {w w' : World} (v : Value) (h : Below w.heap.size w w') : RMoved w w' v v := ⟨h.size, fun k hk _ => h.block k hk, .inl rfl⟩
theorem RMoved.trans {w w1 w2 : World} {v v1 v2 : Value} (h : RMoved w w1 v v1) (k : RMoved w1 w2 v1 v2) : RMoved w w2 v v2 := by
  refine ⟨Nat.le_trans h.size k.size, fun i hi ho => ?_, ?_⟩
  · refine (k.keep i (Nat.lt_of_lt_of_le hi h.size) ?_).trans (h.keep i hi ho)
    rcases h.own with e | ⟨j, hj, e⟩
    · rw [e]; exact ho
    rw [e]; intro e2; injection e2 with e2; omega
  rcases k.own with e | ⟨j, hj, e⟩
  · rw [e]; exact h.own
  exact .inr ⟨j, Nat.le_trans h.size hj, e⟩
theorem RMoved.grown {w w' : World} {v v' : Value} (hg : w.grownBy w' v.ownBlock) (hat : v'.ownBlock = v.ownBlock ∨ ∃ b, v'.ownBlock = some b ∧ w.heap.size ≤ b) : RMoved w w' v v' := by
  refine ⟨hg.size, fun k hk ho => hg.block k hk ho, ?_⟩
  rcases hat with e | ⟨b, e, hb⟩
  · exact .inl e
  exact .inr ⟨b, hb, e⟩
def TakeIs (w : World) (b0 : Nat) (v : Value) (e : Ending) (w' : World) : Except Int (List Int) → Prop
  | .ok out' => ∃ v', e = .returned (.tuple #[v', .int .i64 0]) ∧ (Kd.int .i64).R 3 w' b0 (fun _ => True) v' out' ∧ Below b0 w w' ∧ RMoved w w' v v'
  | .error er => e = .returned (.tuple #[.slice none 0 0, .int .i64 er]) ∧ Below w.heap.size w w' ∧ er ≠ 0
def takeV (out : List Int) (s : Int) : Int := if s = 16 then out.getD (out.length - 1) 0 else if s = 17 then 0 else if s = 18 then 0 else s
def takeN (s x : Int) : Nat := if s = 16 then 3 + x.toNat else if s = 17 then 3 + x.toNat else if s = 18 then 11 + x.toNat else 1
theorem takeM_eq (out : List Int) (s x : Int) (n : Nat) : takeM out s x n = if s = 16 ∧ out.length = 0 then .error 9 else if takeN s x > n - out.length then .error 3 else .ok (out ++ List.replicate (takeN s x) (takeV out s)) := rfl
section
attribute [local go_sem] Oper.semAt_some
theorem take_calls (w : World) (b0 : Nat) (v : Value) (out : List Int) (s x : Int) (n : Nat) (hO : (Kd.int .i64).R 3 w b0 (fun _ => True) v out) (hb0 : b0 ≤ w.heap.size) (hx0 : 0 ≤ x) (hx1 : x ≤ 1000) (hn : n ≤ 1000) (hon : out.length ≤ n) :
    Calls Tryz.prog 74 #[v, .agg #[.int .i64 s, .int .i64 x], .int .i64 (n : Int)] w fun e w' => TakeIs w b0 v e w' (takeM out s x n) := by
  obtain ⟨A0, c0, rfl⟩ := Kd.R_slice hO; rw [takeM_eq]; have huRun := Tryz.underlying127; have HO := Ak hO; have HS := Ak hb0; have HX := Ak (And.intro hx0 hx1); have HN := Ak hn; have HON := Ak hon; have BT := blk_new w (.cells #[.int .i64 s, .int .i64 x] 127 (0, 0)); have HB1 := Ak (below_alloc (Below.refl w.heap.size w) (.cells #[.int .i64 s, .int .i64 x] 127 (0, 0))); have hc0 : (w.alloc (.cells #[.int .i64 s, .int .i64 x] 127 (0, 0))).cell? ⟨w.heap.size, 0, none⟩ = some (.int .i64 s) := (blk_cell BT 0).trans rfl; have hc1 : (w.alloc (.cells #[.int .i64 s, .int .i64 x] 127 (0, 0))).cell? ⟨w.heap.size, 1, none⟩ = some (.int .i64 x) := (blk_cell BT 1).trans rfl; clear hO hb0 hx0 hx1 hn hon
  by_cases h0 : s = 16 ∧ out.length = 0
  · rw [if_pos h0]; obtain ⟨h0, h1⟩ := h0; subst h0
    have q0 : ((out.length : Int) == 0) = true := by rw [h1]; rfl
    have q1 := eq_true (show (out.length : Int) = 0 by omega); have q2 := eq_true h1; have HBB := HB1; clear h1 BT; go_enter Tryz.func74, Tryz.ntmps74; go_wp2; go_ret2; exact ⟨rfl, HB1.out, by decide⟩
  rw [if_neg h0]; obtain ⟨M, hM⟩ : ∃ M, M = (if takeN s x > n - out.length then (.error 3 : Except Int (List Int)) else .ok (out ++ List.replicate (takeN s x) (takeV out s))) := ⟨_, rfl⟩; rw [← hM]; have HM := Ak hM; clear hM; go_enter Tryz.func74, Tryz.ntmps74; have q16 : s = 16 → ((out.length : Int) == 0) = false := fun h => beq_eq_false_iff_ne.mpr (fun e => h0 ⟨h, by omega⟩); have H0 := Ak h0; clear h0
  go_upto_block 0 with (fail)
  go_cut [8, 9] from 10 (fun v8 v9 w' => v8 = .int .i64 (takeV out s) ∧ v9 = .int .i64 ((takeN s x : Nat) : Int) ∧ Aside0 (Below w.heap.size w w'))
  case first =>
    by_cases hs : s = 16
    · have q2 := q16 hs; subst hs; have hne : out.length ≠ 0 := fun e => H0.out ⟨rfl, e⟩; have q3 := eq_false (show ¬ (out.length : Int) = 0 by omega); have hN := HN.out; have hON := HON.out; obtain ⟨j, hj⟩ : ∃ j, j = out.length - 1 := ⟨_, rfl⟩; obtain ⟨ad, ead, hcell⟩ := Kd.at_int (Kd.R_reads' HO.out).2.2 ((j : Nat) : Int) (by omega) (by omega); subst ead; rw [Int.toNat_natCast, rd_nat] at hcell; obtain ⟨b, hb0⟩ : ∃ b, b = out.getD j 0 := ⟨_, rfl⟩; rw [← hb0] at hcell
      have hwj : wrap64 ((out.length : Int) - 1) = (j : Int) := by rw [wrap64_id (by omega) (by omega)]; omega
      have pj := eq_true (show 0 ≤ (j : Int) by omega); have qj := eq_true (show (j : Int) < (out.length : Int) by omega)
      have hvb : takeV out 16 = b := by unfold takeV; rw [if_pos rfl, hb0, hj]
      have HVB := Ak hvb; have HC := Ak (pw_cell_below HB1.out hcell); have B1 := HB1; clear hcell hb0 hj hne hvb q16 hN hON
      have hw3 : wrap64 (3 + x) = ((takeN 16 x : Nat) : Int) := by have := HX.out; rw [show takeN 16 x = 3 + x.toNat from rfl, wrap64_id (by omega) (by omega)]; omega
      have HW3 := Ak hw3; clear hw3
      go_upto_region 5 with (fail)
      have BT_ := blk_below BT (below_drew (Below.refl _ _)); have HF := Ak (below_drew HB1.out); clear hc0 hc1 BT; have BT := BT_; clear BT_; replace HC := Ak (pw_cell_below (below_drew (Below.refl _ _)) HC.out); refine sq 11 (S := fun w' => w'.cell? ⟨w.heap.size, 1, none⟩ = some (.int .i64 x) ∧ w'.cell? (ad.add j) = some (.int .i64 b)) (ds := []) ⟨(blk_cell BT 1).trans rfl, HC.out⟩ fun hHeld => ?_; refine pq 0 25 ?_; refine pq 1 26 ?_; refine pq 2 27 ?_; refine pq 3 28 ?_; refine pq 4 29 ?_; refine pq 6 31 ?_; refine tq 5 30 ?_ hHeld; refine pq 9 8 ?_; refine tq 7 32 ?_ hHeld; refine pq 8 33 ?_; refine pq 10 9 ?_; refine dq ?_; go_wp2
      go_meet
      case rel => exact ⟨by rw [HVB.out], by rw [← HW3.out], ⟨HF.out⟩⟩
    have q0 := eq_false hs; have q0b : (s == 16) = false := beq_eq_false_iff_ne.mpr hs
    by_cases h17 : s = 17
    · subst h17
      have hw3 : wrap64 (3 + x) = ((takeN 17 x : Nat) : Int) := by have := HX.out; rw [show takeN 17 x = 3 + x.toNat from rfl, wrap64_id (by omega) (by omega)]; omega
      have HW3 := Ak hw3; clear hw3 q16 hs
      go_upto_region 7 with (fail)
      have BT_ := blk_below BT (below_drew (Below.refl _ _)); have HF := Ak (below_drew HB1.out); clear hc0 hc1 BT; have BT := BT_; clear BT_; refine sq 5 (S := fun w' => w'.cell? ⟨w.heap.size, 1, none⟩ = some (.int .i64 x)) (ds := []) ((blk_cell BT 1).trans rfl) fun hHeld => ?_; refine pq 0 38 ?_; refine pq 3 8 ?_; refine tq 1 39 ?_ hHeld; refine pq 2 40 ?_; refine pq 4 9 ?_; refine dq ?_; go_wp2
      go_meet
      case rel => exact ⟨rfl, by rw [← HW3.out], ⟨HF.out⟩⟩
    have q1 := eq_false h17; have q1b : (s == 17) = false := beq_eq_false_iff_ne.mpr h17
    by_cases h18 : s = 18
    · subst h18
      have hw3 : wrap64 (11 + x) = ((takeN 18 x : Nat) : Int) := by have := HX.out; rw [show takeN 18 x = 11 + x.toNat from rfl, wrap64_id (by omega) (by omega)]; omega
      have HW3 := Ak hw3; clear hw3 q16 hs h17
      go_upto_region 9 with (fail)
      have BT_ := blk_below BT (below_drew (Below.refl _ _)); have HF := Ak (below_drew HB1.out); clear hc0 hc1 BT; have BT := BT_; clear BT_; refine sq 5 (S := fun w' => w'.cell? ⟨w.heap.size, 1, none⟩ = some (.int .i64 x)) (ds := []) ((blk_cell BT 1).trans rfl) fun hHeld => ?_; refine pq 0 45 ?_; refine pq 3 8 ?_; refine tq 1 46 ?_ hHeld; refine pq 2 47 ?_; refine pq 4 9 ?_; refine dq ?_; go_wp2
      go_meet
      case rel => exact ⟨rfl, by rw [← HW3.out], ⟨HF.out⟩⟩
    have q2 := eq_false h18; have q2b : (s == 18) = false := beq_eq_false_iff_ne.mpr h18
    have hv : takeV out s = s := by unfold takeV; rw [if_neg hs, if_neg h17, if_neg h18]
    have hn : takeN s x = 1 := by unfold takeN; rw [if_neg hs, if_neg h17, if_neg h18]
    have HV := Ak hv; have HNN := Ak hn; clear hv hn q16 hs h17 h18; go_wp2
    go_meet
    case rel => exact ⟨by rw [HV.out], by rw [HNN.out]; rfl, ⟨HB1.out⟩⟩
  case rest =>
    obtain ⟨rfl, rfl, HB⟩ := hcut; clear HB1 hc0 hc1 BT q16 H0; have HR := Ak (Kd.R_below HO.out HB.out); have MV := Ak (RMoved.of_below (.slice A0 out.length c0) HB.out); have HBB := Ak (HB.out.mono HS.out); obtain ⟨tv, htv⟩ : ∃ tv, tv = takeV out s := ⟨_, rfl⟩; obtain ⟨tn, htn⟩ : ∃ tn, tn = takeN s x := ⟨_, rfl⟩; obtain ⟨rm, hrm⟩ : ∃ rm, rm = n - out.length := ⟨_, rfl⟩
    have hwr : wrap64 ((n : Int) - (out.length : Int)) = (rm : Int) := by have := HN.out; have := HON.out; rw [wrap64_id (by omega) (by omega)]; omega
    have HRM := Ak hrm; have hM := HM.out; rw [← htv, ← htn, ← hrm] at hM; clear HM; rw [← htv, ← htn]; clear htv htn hrm
    by_cases hgt : tn > rm
    · rw [if_pos hgt] at hM; have HM := Ak hM; clear hM; have q0 := eq_true (show (rm : Int) < (tn : Int) by omega); have q0b := decide_eq_true (show (rm : Int) < (tn : Int) by omega); clear hgt; go_wp2; go_ret2; rw [HM.out]; exact ⟨rfl, HB.out, by decide⟩
    rw [if_neg hgt] at hM; have HM := Ak hM; clear hM; have q0 := eq_false (show ¬ (rm : Int) < (tn : Int) by omega); have q0b := decide_eq_false (show ¬ (rm : Int) < (tn : Int) by omega); have HTN := Ak (show tn ≤ rm by omega); clear hgt
    go_upto_region 12 with (fail)
    clear hwr; go_wp2
    go_loopw [0, 55] (fun v0 v55 w' => ∃ (k : Nat) (ys : List Int), v55 = .int .i64 (k : Int) ∧ Aside0 (ys = out ++ List.replicate k tv) ∧ Aside0 ((Kd.int .i64).R 3 w' b0 (fun _ => True) v0 ys) ∧ Aside0 (Below b0 w w') ∧ Aside0 (RMoved w w' (.slice A0 out.length c0) v0) ∧ Aside0 (k ≤ tn)) (fun _ v _ => tn - (intOf v).toNat)
    case atStart => exact ⟨0, out, rfl, ⟨by rw [List.replicate_zero, List.append_nil]⟩, HR, HBB, MV, ⟨Nat.zero_le _⟩⟩
    case round =>
      clear HR HBB MV; obtain ⟨k, ys, rfl, HY, HR, HBB, MV, HK⟩ := hrel
      by_cases hk : k < tn
      · have q1 := eq_true (show (k : Int) < (tn : Int) by omega); have q1b := decide_eq_true (show (k : Int) < (tn : Int) by omega); have HKL := Ak hk; have HYL := Ak (show ys.length ≤ 3000 by have e := HY.out; have := HTN.out; have := HRM.out; have := HN.out; rw [e, List.length_append, List.length_replicate]; omega)
        have hst : ys ++ [tv] = out ++ List.replicate (k + 1) tv := by rw [HY.out, List.replicate_succ', List.append_assoc]
        have HST := Ak hst; obtain ⟨A1, c1, rfl⟩ := Kd.R_slice HR.out; clear hk hst
        go_wp2_with ((with_reducible refine gate_builtin (b := .append) (xs := #[.tmp 57, .tmp 59]) rfl ?_); at_builtin; refine Kd.R_append (Kd.int .i64) (w0 := w) b0 rfl (.tmp 57) (.tmp 59) 68 3 (.int .i64 0) 8 rfl Tryz.underlying68 Hu.info3 rfl (by decide) (by omega) (.slice A1 ys.length c1) ys tv [.int .i64 tv] (fun _ => True) (fun _ => False) rfl rfl ?aP (fun _ hk => hk.elim) ?aF ?aO ?aB ?aS ?aL ?_; (case aP => exact rfl); (case aF => exact (fun _ _ => trivial)); (case aO => exact HR.out); (case aB => exact HBB.out); (case aS => exact Nat.le_trans HS.out HBB.out.size); (case aL => have := HYL.out; omega); intro v3 w6 ho hb hg hat; obtain ⟨zs, hzs⟩ : ∃ zs, zs = ys ++ [tv] := ⟨_, rfl⟩; rw [← hzs] at ho; have HZS := Ak hzs; clear hzs; have MV_ := Ak (MV.out.trans (RMoved.grown hg hat)); clear HR HBB MV; have HR := Ak ho; have HBB := Ak hb; have MV := MV_; clear MV_ ho hb hg hat)
        go_roundw
        case rel => exact ⟨k + 1, zs, val_next _ (by have := HKL.out; have := HTN.out; have := HRM.out; have := HN.out; omega), ⟨by rw [HZS.out, HST.out]⟩, HR, HBB, MV, ⟨HKL.out⟩⟩
        case measure => rw [nat_next _ (by have := HKL.out; have := HTN.out; have := HRM.out; have := HN.out; omega)]; simp only [intOf, Int.toNat_natCast]; have := HKL.out; omega
      obtain rfl : k = tn := by have := HK.out; omega
      have q1 := eq_false (show ¬ (k : Int) < (k : Int) by omega); have q1b := decide_eq_false (show ¬ (k : Int) < (k : Int) by omega); clear hk; go_wp2; go_ret2; rw [HM.out]; exact ⟨_, rfl, by rw [← HY.out]; exact HR.out, HBB.out, MV.out⟩
end
-- YtgflkkjhckcipaaGreatDoorIf17
def orderI : List Int := [16, 17, 18, 0, 8, 7, 9, 6, 10, 5, 11, 4, 12, 3, 13, 2, 14, 1, 15]
theorem orderI_all : ∀ i : Fin 19, rd orderI ((i.val : Nat) : Int) = ((orderL.getD i.val 0 : Nat) : Int) ∧ orderL.getD i.val 0 < 19 := by decide
theorem orderI_at {i : Nat} (h : i < 19) : rd orderI (i : Int) = ((orderL.getD i 0 : Nat) : Int) ∧ orderL.getD i 0 < 19 := orderI_all ⟨i, h⟩
theorem HMoved.row {w w' : World} {g base : Nat} {v : Value} {xs : List Int} {cells : Array Value} (h : Kd.R (Kd.int .i64) 3 w base (fun _ => True) v xs) (hb : w.heap[g]? = some (.cells cells 115 (0, 0))) (hm : HMoved w w' g) : Kd.R (Kd.int .i64) 3 w' base (fun _ => True) v xs :=
  Kd.R_mono (Kd.R_step (Kd.R_types h hb (by decide)) (fun k ho hk => hm.keep k hk ho.2)) (fun _ hk => hk.1)
theorem HRdrAt.setRow {w0 w : World} {g c gl : Nat} {A : Option Addr} {l : List Int} {N at_ : Int} (h : HRdrAt w0 w g A c l N at_) (hne : gl ≠ g) (hge : w0.heap.size ≤ gl) (i : Nat) (u : Value) : HRdrAt w0 (w.setCell ⟨gl, i, none⟩ u) g A c l N at_ :=
  ⟨h.below.setCell (p := ⟨gl, i, none⟩) hge _, h.ge, (Below.heap_setCell w ⟨gl, i, none⟩ u g (fun e => hne e.symm)).trans h.blk⟩
theorem HMoved.setRow {w w1 : World} {g gl : Nat} (h : HMoved w w1 g) (hge : w.heap.size ≤ gl) (i : Nat) (u : Value) : HMoved w (w1.setCell ⟨gl, i, none⟩ u) g :=
  ⟨by simpa [World.setCell] using h.size, fun k hk hg => (Below.heap_setCell w1 ⟨gl, i, none⟩ u k (fun e => by have e2 : k = gl := e; omega)).trans (h.keep k hk hg)⟩
theorem hnew_ok (A : Option Addr) (c n : Nat) (z : List Int) (w : World) (hn : z.length = n) (hr : (Kd.int .i64).C w A z.length z) (hz : Hu.newS z = 0) :
    Calls Tryz.prog 46 #[.slice A n c] w fun e w' => ∃ gt, e = .returned (.tuple #[.pointer (some ⟨gt, 0, none⟩), .int .i64 0]) ∧ TabIn w' gt (Hu.countedS z).1 (Hu.symsS z) ∧ Below w.heap.size w w' := by
  subst hn
  refine (Hu.huff_New_all A c z w hr (fun h => ⟨fun x hx => by
    obtain ⟨j, hj, rfl⟩ := List.getElem_of_mem hx; have := (checkS_lens h).2.2 j hj
    rwa [List.getD_eq_getElem?_getD, List.getElem?_eq_getElem hj] at this, (checkS_lens h).2.1⟩)).mono ?_
  rintro e w' ⟨h1, _, hb⟩; obtain ⟨gt, he, ho⟩ := h1 hz; exact ⟨gt, he, TabIn.of_own ho, hb⟩
theorem hnew_bad (A : Option Addr) (c n : Nat) (z : List Int) (w : World) (hn : z.length = n) (hr : (Kd.int .i64).C w A z.length z) (hz : Hu.newS z ≠ 0) :
    Calls Tryz.prog 46 #[.slice A n c] w fun e w' => e = .returned (.tuple #[.pointer none, .int .i64 (Hu.newS z)]) ∧ Below w.heap.size w w' := by
  subst hn
  refine (Hu.huff_New_all A c z w hr (fun h => ⟨fun x hx => by
    obtain ⟨j, hj, rfl⟩ := List.getElem_of_mem hx; have := (checkS_lens h).2.2 j hj
    rwa [List.getD_eq_getElem?_getD, List.getElem?_eq_getElem hj] at this, (checkS_lens h).2.1⟩)).mono ?_
  rintro e w' ⟨_, h1, hb⟩; exact ⟨h1 hz, hb⟩
def HToldC (w0 w : World) (g : Nat) (A : Option Addr) (c : Nat) (l : List Int) (e : Ending) (w' : World) : Except Int (List Int × Nat) → Prop
  | .ok (z, p') => ∃ gt, e = .returned (.pointer (some ⟨gt, 0, none⟩)) ∧ p' ≤ 8 * l.length ∧ Hu.newS z = 0 ∧ TabIn w' gt (Hu.countedS z).1 (Hu.symsS z) ∧ HRdrAt w0 w' g A c l (NN l) ((p' : Nat) : Int) ∧ HMoved w w' g
  | .error er => HGives w0.heap.size w w' er e
section
attribute [local go_sem] Oper.semAt_some
theorem codes_told {w0 : World} {A : Option Addr} {c : Nat} {l : List Int} (hr : RowOk w0 A c l) (w : World) (g p m : Nat) (n : Int) (hn : n = (m : Int)) (hm : m ≤ 19) (H : HRdrAt w0 w g A c l (NN l) (p : Int)) (hp : p ≤ 8 * l.length) :
    Calls Tryz.prog 50 #[.pointer (some ⟨g, 0, none⟩), .int .i64 n] w fun e w' => HToldC w0 w g A c l e w' (codesM l m 0 p (List.replicate 19 0)) := by
  subst hn; have HR := Ak hr; have HX := Ak H; have AT := Ak H; have MV := Ak (HMoved.of_below g (Below.refl w.heap.size w)); have HP := Ak hp; have HM := Ak hm; have qm := eq_true (show 0 ≤ (m : Int) by omega); obtain ⟨R, hR⟩ : ∃ R, codesM l m 0 p (List.replicate 19 0) = R := ⟨_, rfl⟩; rw [hR]; have HRR := Ak hR; clear hr H hp hm hR; go_enter Tryz.func50, Tryz.ntmps50
  go_wp2_with (first | ((with_reducible refine gate_dst (N := 10) rfl ?_); refine Kd.R_make (Kd.int .i64) (w0 := w) w.heap.size 3 ?hg (N := 10) ?hd 68 (.const (.int .i64 19)) (.const (.int .i64 19)) rfl 19 rfl rfl Tryz.underlying68 (.int .i64 0) 8 Hu.info3 rfl (by decide) (by omega) (0 : Int) (ok := fun _ => True) (okp := fun _ => False) rfl (fun _ h => h.elim) trivial (by decide) (by decide) (Below.refl _ _) (Nat.le_refl _) ?_; (case hd => rfl); (case hg => rfl); intro v1 w1 ho hb hg hat; replace ho : Kd.R (Kd.int .i64) 3 w1 w.heap.size (fun _ => True) v1 (List.replicate 19 0) := ho; obtain ⟨gl, cl, ev_, hgb, hgl_, cells_, hcells_⟩ := Kd.R_form ho (by rw [List.length_replicate]; decide); rw [List.length_replicate] at ev_; subst ev_; have HL := Ak ho; have AT_ := Ak (AT.out.on hb); have MV_ := Ak (HMoved.of_below g hb); have HBW := Ak hb; clear AT MV hgb hgl_ hcells_ ho hb hg hat; have AT := AT_; have MV := MV_; clear AT_ MV_) | (go_at_call 73; refine (header_order.calls _ _ rfl).mono ?_; rintro e w2 ⟨v2, rfl, ho, hb⟩; replace ho : Kd.R (Kd.int .i64) 3 w2 w1.heap.size (fun _ => True) v2 orderI := ho; obtain ⟨go, co, ev_, hgb, hgl_, cells_, hcells_⟩ := Kd.R_form ho (by decide); replace ev_ : v2 = .slice (some ⟨go, 0, none⟩) 19 co := ev_; subst ev_; have HNE := Ak (show gl ≠ go from by have h1 := Kd.R_lt HL.out gl rfl; have h2 := Kd.R_base ho go rfl; omega); have HO := Ak (Kd.R_lower ho HBW.out.size); have AT_ := Ak (AT.out.on hb); have MV_ := Ak (MV.out.trans (HMoved.of_below g hb)); have HL_ := Ak (Kd.R_below HL.out hb); have hcc := (Kd.R_reads' ho).2.1; have qco := eq_true (show (m : Int) ≤ (co : Int) by have := HM.out; omega); clear AT MV HL hgb hgl_ hcells_ ho hb; have AT := AT_; have MV := MV_; have HL := HL_; clear AT_ MV_ HL_))
  clear hcc; replace HL := Ak (show Kd.R (Kd.int .i64) 3 w2 w.heap.size (fun _ => True) (.slice (some ⟨gl, 0, none⟩) 19 cl) (List.replicate 19 0) from HL.out); replace HO := Ak (show Kd.R (Kd.int .i64) 3 w2 w.heap.size (fun _ => True) (.slice (some ⟨go, 0, none⟩) 19 co) orderI from HO.out)
  go_loopw [15] (fun v15 w' => ∃ (i p' : Nat) (z : List Int), v15 = .int .i64 (i : Int) ∧ Aside0 (i ≤ m) ∧ Aside0 (HRdrAt w0 w' g A c l (NN l) (p' : Int)) ∧ Aside0 (HMoved w w' g) ∧ Aside0 (Kd.R (Kd.int .i64) 3 w' w.heap.size (fun _ => True) (.slice (some ⟨gl, 0, none⟩) 19 cl) z) ∧ Aside0 (Kd.R (Kd.int .i64) 3 w' w.heap.size (fun _ => True) (.slice (some ⟨go, 0, none⟩) 19 co) orderI) ∧ Aside0 (p' ≤ 8 * l.length) ∧ Aside0 (codesM l (m - i) i p' z = R)) (fun v15 _ => 20 - (intOf v15).toNat)
  case atStart => exact ⟨0, p, _, rfl, ⟨Nat.zero_le _⟩, AT, MV, HL, HO, HP, HRR⟩
  case round =>
    clear AT MV HL HO HP HRR; obtain ⟨i, p1, z, rfl, HI, AT, MV, HL, HO, HP, HRR⟩ := hrel; have hRR := HRR.out; clear HRR
    by_cases hlt : i < m
    rotate_left
    · obtain rfl : i = m := by have := HI.out; omega
      rw [Nat.sub_self] at hRR; unfold codesM at hRR; have q0 := eq_false (show ¬ (i : Int) < (i : Int) by omega)
      by_cases hz : Hu.newS z = 0
      · rw [if_pos hz] at hRR; have HRR := Ak hRR.symm; have HZ := Ak hz; clear hz hRR hlt
        go_wp2_with (first | (go_at_call 46; refine (hnew_ok (some ⟨gl, 0, none⟩) cl 19 z _ (Kd.R_reads' HL.out).1.symm (Kd.R_reads' HL.out).2.2 HZ.out).mono ?_; rintro e w3 ⟨gt, rfl, ht, hb⟩; have HT := Ak ht; replace AT := Ak (AT.out.on hb); replace MV := Ak (MV.out.trans (HMoved.of_below g hb)); clear HL HO ht hb) | (go_at_call 49; refine (hmust_zero _ _).mono ?_; rintro e w' ⟨rfl, hw_⟩; subst hw_))
        go_ret; rw [HRR.out]; exact ⟨gt, rfl, HP.out, HZ.out, HT.out, AT.out, MV.out⟩
      rw [if_neg hz] at hRR; have HRR := Ak hRR.symm; have HZ := Ak hz; clear hz hRR hlt; obtain ⟨er, her⟩ : ∃ er, er = Hu.newS z := ⟨_, rfl⟩; have HER := Ak her; have HE0 := Ak (show er ≠ 0 from by rw [her]; exact HZ.out); clear her
      go_wp2_with (first | (go_at_call 46; refine (hnew_bad (some ⟨gl, 0, none⟩) cl 19 z _ (Kd.R_reads' HL.out).1.symm (Kd.R_reads' HL.out).2.2 HZ.out).mono ?_; rintro e w3 ⟨rfl, hb⟩; rw [← HER.out]; replace AT := Ak (AT.out.on hb); replace MV := Ak (MV.out.trans (HMoved.of_below g hb)); clear HL HO hb) | (go_at_call 49; refine (hmust_else _ er HE0.out _).mono ?_; rintro e w' ⟨rfl, hb⟩))
      exact ⟨rfl, by rw [HRR.out, ← HER.out]; exact ⟨rfl, (HX.out.between AT.out MV.out.size).trans (hb.mono AT.out.below.size)⟩⟩
    obtain ⟨d, hd⟩ : ∃ d, m - i = d + 1 := ⟨m - i - 1, by omega⟩; rw [hd] at hRR; unfold codesM at hRR; obtain ⟨ad, ead, hcell⟩ := Kd.at_int (Kd.R_reads' HO.out).2.2 ((i : Nat) : Int) (by omega) (by have : i < 19 := (by have := HM.out; omega); show (i : Int) < 19; omega)
    injection ead with ead
    subst ead; rw [Int.toNat_natCast, (orderI_at (show i < 19 by have := HM.out; omega)).1] at hcell; have hoi := (orderI_at (show i < 19 by have := HM.out; omega)).2; obtain ⟨oi, hoe⟩ : ∃ oi, oi = orderL.getD i 0 := ⟨_, rfl⟩; rw [← hoe] at hcell hoi hRR; replace hcell : wr.cell? ⟨go, i, none⟩ = some (.int .i64 (oi : Int)) := (by rw [← hcell]; congr 1; simp [Addr.add]); have HOI := Ak hoi; have HD := Ak hd; have q0 := eq_true (show (i : Int) < (m : Int) by omega); have q1 := eq_true (show 0 ≤ (i : Int) by omega); have q2 := eq_true (show (oi : Int) < 19 by omega); have q3 := eq_true (show 0 ≤ (oi : Int) by omega); have q4 := eq_true hlt; have q5 := eq_true hoi; clear hoe hoi hd; have HLT := Ak hlt; clear hlt
    cases hbm : bitsM l p1 3 with
    | error er =>
      rw [hbm] at hRR; have HRR := Ak hRR.symm; have HBM := Ak hbm; clear hRR hbm
      go_wp2_with (go_at_call 48; have hcc := hbits_told HR.out _ g p1 3 3 rfl AT.out HP.out (by decide); rw [HBM.out] at hcc; refine hcc.mono ?_; clear hcc; rintro e w' ⟨rfl, hb⟩)
      exact ⟨rfl, by rw [HRR.out]; exact ⟨rfl, (HX.out.between AT.out MV.out.size).trans hb⟩⟩
    | ok r1 => ?_
    obtain ⟨x, p2⟩ := r1; rw [hbm] at hRR; dsimp only at hRR; have HRR := Ak hRR; have HBM := Ak hbm; clear hRR hbm
    go_wp2_with (go_at_call 48; have hcc := hbits_told HR.out _ g p1 3 3 rfl AT.out HP.out (by decide); rw [HBM.out] at hcc; refine hcc.mono ?_; clear hcc; rintro e w' ⟨rfl, hq_, hat_, hm_⟩; have HL_ := Ak (HMoved.row HL.out AT.out.blk hm_); have HO_ := Ak (HMoved.row HO.out AT.out.blk hm_); have MV_ := Ak (MV.out.trans hm_); have HGG := Ak (show gl ≠ g from fun e => Kd.R_ne HL.out AT.out.blk (by decide) (by rw [e]; rfl)); have AT_ := Ak hat_; have HP_ := Ak hq_; clear AT MV HL HO HP hq_ hat_ hm_; have AT := AT_; have MV := MV_; have HL := HL_; have HO := HO_; have HP := HP_; clear AT_ MV_ HL_ HO_ HP_; have hcv := (Hu.row_at HL.out oi HOI.out).1; have hfv := (Hu.row_at HL.out oi HOI.out).2)
    go_roundw
    case rel => exact ⟨i + 1, p2, _, val_next _ (by have := HLT.out; have := HM.out; omega), ⟨HLT.out⟩, ⟨AT.out.setRow HGG.out (Nat.le_trans HX.out.below.size (Kd.R_base HL.out gl rfl)) oi _⟩, ⟨MV.out.setRow (Kd.R_base HL.out gl rfl) oi _⟩, ⟨(Hu.row_put HL.out oi x).1⟩, ⟨R_apart HO.out HNE.out _ _⟩, HP, ⟨by rw [show m - (i + 1) = d by have := HD.out; omega]; exact HRR.out⟩⟩
    case measure => rw [nat_next _ (by have := HLT.out; have := HM.out; omega)]; simp only [intOf, Int.toNat_natCast]; have := HLT.out; have := HM.out; omega
end
end Go.Proofs.YtgflkkjhckcipaaGreatDoor.Pr

