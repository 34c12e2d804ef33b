-- Texts by hand and by programs of this session, joined (wip/tool/merge.py).
import Derived.Test.YtgflkkjhckcipaaDoorMIA18
-- YtgflkkjhckcipaaDoorPg7
namespace Go.Proofs.YtgflkkjhckcipaaDoor.Pg
open Go.RowKit Go.Proofs.YtgflkkjhckcipaaDoorW.PrintWords Go.Proofs.YtgflkkjhckcipaaDoorW.PrintLast Go.Proofs.YtgflkkjhckcipaaDoorW.PrintMore
attribute [local go_sem] max2_int min2_int max_two min_two max_three min_three max_four min_four   -- for this text's walks alone
set_option linter.unusedVariables false
set_option linter.unusedSimpArgs false

mutual
def valiselaw09_InflateStored.j0 : Nat → List (List Int) → Bool → Option (Bool)
  | 0, _, _ => none
  | k + 1, x0, x18 => if x18 = true then ((valiselaw09_lives.f).bind fun t170 => (some t170)) else (valiselaw09_InflateStored.l0 k x0 ([] : List Int) (⟨#[]⟩ : ByteArray) 0)
def valiselaw09_InflateStored.l0 : Nat → List (List Int) → List Int → ByteArray → Int → Option (Bool)
  | 0, _, _, _, _ => none
  | k + 1, x0, x3, x4, x5 => if x5 < (x0.length : Int) then (if 0 ≤ x5 then (if ((rd_L1 x0 x5).length : Int) > 3000 then ((valiselaw09_lives.f).bind fun t178 => (some t178)) else (if x5 = (wrap64 ((x0.length : Int) - 1)) then ((some (([1, (((rd_L1 x0 x5).length : Int)) % 256, (((rd_L1 x0 x5).length : Int) / 256) % 256, Go.bits .xor .u8 255 ((((rd_L1 x0 x5).length : Int)) % 256), Go.bits .xor .u8 255 ((((rd_L1 x0 x5).length : Int) / 256) % 256)] : List Int) : List Int)).bind fun y180 => (if x3.length + y180.length < 140737488355328 then ((some (x3 ++ y180 : List Int)).bind fun y183 => (if y183.length + (rd_L1 x0 x5).length < 140737488355328 then (if x4.size + (strOfNums (rd_L1 x0 x5)).size ≤ 9223372036854775807 then (valiselaw09_InflateStored.l0 k x0 (y183 ++ (rd_L1 x0 x5)) (x4 ++ (strOfNums (rd_L1 x0 x5))) (wrap64 (x5 + 1))) else (none)) else (none))) else (none))) else ((some (([0, (((rd_L1 x0 x5).length : Int)) % 256, (((rd_L1 x0 x5).length : Int) / 256) % 256, Go.bits .xor .u8 255 ((((rd_L1 x0 x5).length : Int)) % 256), Go.bits .xor .u8 255 ((((rd_L1 x0 x5).length : Int) / 256) % 256)] : List Int) : List Int)).bind fun y192 => (if x3.length + y192.length < 140737488355328 then ((some (x3 ++ y192 : List Int)).bind fun y195 => (if y195.length + (rd_L1 x0 x5).length < 140737488355328 then (if x4.size + (strOfNums (rd_L1 x0 x5)).size ≤ 9223372036854775807 then (valiselaw09_InflateStored.l0 k x0 (y195 ++ (rd_L1 x0 x5)) (x4 ++ (strOfNums (rd_L1 x0 x5))) (wrap64 (x5 + 1))) else (none)) else (none))) else (none))))) else (none)) else ((inflate_Decode.f x3 65536).bind fun bt171 => (if (strOfNums bt171.1).toList = x4.toList then (if bt171.2.1 = (x3.length : Int) then (if bt171.2.2 = 0 then ((valiselaw09_lives.f).bind fun t176 => (some t176)) else (some false)) else (some false)) else (some false)))
end
def valiselaw09_InflateStored.f (k : Nat) (l0 : List (List Int)) : Option (Bool) := if (l0.length : Int) = 0 then (valiselaw09_InflateStored.j0 k l0 true) else (valiselaw09_InflateStored.j0 k l0 (decide ((l0.length : Int) > 12)))
theorem valiselaw09_InflateStored.mono_l : ∀ k, (∀ y0 y1, LeO (valiselaw09_InflateStored.j0 k y0 y1) (valiselaw09_InflateStored.j0 (k + 1) y0 y1)) ∧ (∀ y0 y1 y2 y3, LeO (valiselaw09_InflateStored.l0 k y0 y1 y2 y3) (valiselaw09_InflateStored.l0 (k + 1) y0 y1 y2 y3))
  | 0 => ⟨fun _ _ r h => by simp [valiselaw09_InflateStored.j0] at h, fun _ _ _ _ r h => by simp [valiselaw09_InflateStored.l0] at h⟩
  | k + 1 => by
    obtain ⟨ih0, ih1⟩ := valiselaw09_InflateStored.mono_l k
    refine ⟨?_, ?_⟩
    · intro y0 y1
      unfold valiselaw09_InflateStored.j0
      repeat' first
      | (with_reducible exact ih0 _ _)
      | (with_reducible exact ih1 _ _ _ _)
      | (with_reducible exact LeO.refl _)
      | (with_reducible exact LeO.none _)
      | (with_reducible refine LeO.ite ?_ ?_)
      | (with_reducible refine LeO.bind ?_ (fun _ => ?_))
      | exact ih0 _ _
      | exact ih1 _ _ _ _
      | exact LeO.none _
      | refine LeO.ite ?_ ?_
      | refine LeO.bind ?_ (fun _ => ?_)
    · intro y0 y1 y2 y3
      unfold valiselaw09_InflateStored.l0
      repeat' first
      | (with_reducible exact ih0 _ _)
      | (with_reducible exact ih1 _ _ _ _)
      | (with_reducible exact LeO.refl _)
      | (with_reducible exact LeO.none _)
      | (with_reducible refine LeO.ite ?_ ?_)
      | (with_reducible refine LeO.bind ?_ (fun _ => ?_))
      | exact ih0 _ _
      | exact ih1 _ _ _ _
      | exact LeO.none _
      | refine LeO.ite ?_ ?_
      | refine LeO.bind ?_ (fun _ => ?_)
theorem valiselaw09_InflateStored.mono : ∀ a0 k, LeO (valiselaw09_InflateStored.f k a0) (valiselaw09_InflateStored.f (k + 1) a0) := by
  intro a0 k
  obtain ⟨ih0, ih1⟩ := valiselaw09_InflateStored.mono_l k
  unfold valiselaw09_InflateStored.f
  repeat' first
      | (with_reducible exact ih0 _ _)
      | (with_reducible exact ih1 _ _ _ _)
      | (with_reducible exact LeO.refl _)
      | (with_reducible exact LeO.none _)
      | (with_reducible refine LeO.ite ?_ ?_)
      | (with_reducible refine LeO.bind ?_ (fun _ => ?_))
      | exact ih0 _ _
      | exact ih1 _ _ _ _
      | exact LeO.none _
      | refine LeO.ite ?_ ?_
      | refine LeO.bind ?_ (fun _ => ?_)
set_option maxHeartbeats 8000000 in
set_option maxRecDepth 100000 in
theorem valiselaw09_InflateStored.calls (k : Nat) (A0 : Option Addr) (c0 : Nat) (l0 : List (List Int)) (r : Bool) (w : World) (hr0 : Kd.C (Kd.slice 5 (Kd.int .u8)) w A0 l0.length l0) (hc0 : l0.length ≤ c0) (HGL : Pr.Handle w) (h : valiselaw09_InflateStored.f k l0 = some r) (hrt : r = true) :
    Calls Tryd.prog 5 #[.slice A0 l0.length c0] w fun e w' => e = .returned (.bool r) ∧ Below w.heap.size w w' := by
  have HR0 := Aside0.mk hr0
  have HC0 := Aside0.mk hc0
  clear hr0 hc0
  have HB := Aside0.mk (Below.refl w.heap.size w)
  have HGH := Aside0.mk HGL
  clear HGL
  have H : (if (l0.length : Int) = 0 then (valiselaw09_InflateStored.j0 k l0 true) else (valiselaw09_InflateStored.j0 k l0 (decide ((l0.length : Int) > 12)))) = some r := h
  clear h
  have HC2 := Aside0.mk H
  clear H
  go_enter Tryd.func5, Tryd.ntmps5
  go_upto_region 1 with (fail)
  go_cut [18] (fun v18 wc => ∃ (kq : Nat) (x18_1 : Bool), v18 = .bool x18_1 ∧ Aside0 (valiselaw09_InflateStored.j0 kq l0 x18_1 = some r) ∧ Aside0 (kq ≤ k) ∧ Aside0 (Below w.heap.size w wc))
  case first =>
    have H := HC2.out
    clear HC2
    by_cases c3 : (l0.length : Int) = 0
    · rw [if_pos c3] at H
      have c3b0 : ((l0.length : Int) == 0) = true := beq_iff_eq.mpr c3
      have c3b1 : ((l0.length : Int) != 0) = false := bne_eq_false_iff_eq.mpr c3
      clear c3
      (first | rw [c3b0] | (simp only [i64_w, i32_w, u8_w]; rw [c3b0]) | skip)
      have H' := Aside0.mk H
      clear H
      go_wp2
      go_meet
      case rel => exact ⟨_, (true), (by first | rfl | (simp; done) | (simp [*]; done)), H', ⟨by first | omega | exact Nat.le_refl _⟩, ⟨by repeat (first | (with_reducible first | exact HB.out | apply below_alloc | apply pw_below_drewN | apply below_drew1) | exact HB.out)⟩⟩
    · rw [if_neg c3] at H
      have c3b0 : ((l0.length : Int) == 0) = false := beq_eq_false_iff_ne.mpr c3
      have c3b1 : ((l0.length : Int) != 0) = true := bne_iff_ne.mpr c3
      have c3b2 : ¬ (l0 = []) := fun h_ => c3 (by rw [h_]; rfl)
      (first | rw [c3b0] | (simp only [i64_w, i32_w, u8_w]; rw [c3b0]) | skip)
      have H' := Aside0.mk H
      clear H
      go_wp2
      go_meet
      case rel => exact ⟨_, (decide ((l0.length : Int) > 12)), (by first | rfl | (simp; done) | (simp [*]; done)), H', ⟨by first | omega | exact Nat.le_refl _⟩, ⟨by repeat (first | (with_reducible first | exact HB.out | apply below_alloc | apply pw_below_drewN | apply below_drew1) | exact HB.out)⟩⟩
  case rest =>
    clear HC2
    try clear p2
    try clear c3
    try clear c3b0
    try clear c3b1
    try clear c3b2
    obtain ⟨kq, x18_1, rfl, HA, HJ1, HB⟩ := hcut
    cases kq with
    | zero => exact absurd HA.out (by simp [valiselaw09_InflateStored.j0])
    | succ kj1 =>
      have H := HA.out
      clear HA
      simp only [valiselaw09_InflateStored.j0] at H
      by_cases c4 : x18_1 = true
      · subst c4
        have H1 : ((valiselaw09_lives.f).bind fun t170 => (some t170)) = some r := by rw [if_pos rfl] at H; exact H
        clear H
        have H := H1
        clear H1
        replace H := Option.bind_eq_some_iff.mp H
        obtain ⟨t170, A50, H⟩ := H
        replace H : (some t170) = some r := H
        have A5 := Aside0.mk A50
        clear A50
        obtain rfl := Option.some.inj H
        go_wp2_with (first | ((with_reducible refine gate_callee (f := 7) rfl ?_); refine goesL_ (some 19) rfl rfl Tryd.func7 (by kernel_rfl) rfl #[] rfl (by (try simp only [List.map_toArray, List.map_cons, List.map_nil]); first | done | rfl | (simp only [List.length_drop, List.length_take]; rfl)) ?_; (with_reducible refine (valiselaw09_lives.calls  t170 _ (Pr.Handle.on HGH.out (by repeat (first | (with_reducible first | exact HB.out | apply below_alloc | apply pw_below_drewN | apply below_drew1) | exact HB.out)) (Pr.Handle.pos HGH.out)) A5.out).mono ?_); rintro e w6 ⟨rfl, hb⟩; refine ⟨_, rfl, ?_⟩; have n0_ := Aside0.mk (below_step (by repeat (first | (with_reducible first | exact HB.out | apply below_alloc | apply pw_below_drewN | apply below_drew1) | exact HB.out)) hb); clear HB; have HB := n0_; clear n0_; (try clear hb); (try clear hb2); (try clear hk); (try clear hi)))
        go_ret
        exact ⟨by first | rfl | (simp [errW_none, errW_some] <;> rfl) | (simp [*, errW_none, errW_some] <;> rfl), by repeat (first | (with_reducible first | exact HB.out | apply below_alloc | apply pw_below_drewN | apply below_drew1) | exact HB.out)⟩
      · replace c4 := Bool.eq_false_iff.mpr c4
        subst c4
        have H1 : (valiselaw09_InflateStored.l0 kj1 l0 ([] : List Int) (⟨#[]⟩ : ByteArray) 0) = some r := by rw [if_neg (show ¬ (false = true) by decide)] at H; exact H
        clear H
        have H := H1
        clear H1
        have H' := Aside0.mk H
        clear H
        go_wp2
        go_loopg [3, 4, 5] kj1 (fun kq v3 v4 v5 w' => ∃ (x3_2 : List Int) (x4_2 : ByteArray) (x5_2 : Int), v4 = .string x4_2 ∧ v5 = .int .i64 x5_2 ∧ Aside0 (valiselaw09_InflateStored.l0 kq l0 x3_2 x4_2 x5_2 = some r) ∧ Aside0 (kq ≤ kj1) ∧ Aside0 (Kd.R (Kd.int .u8) 5 w' w.heap.size (fun _ => True) v3 x3_2) ∧ Aside0 (Below w.heap.size w w'))
        case atStart => exact ⟨(([] : List Int)), ((⟨#[]⟩ : ByteArray)), (0), (by first | rfl | (simp; done) | (simp [*]; done)), (by first | rfl | (simp; done) | (simp [*]; done)), H', ⟨Nat.le_refl _⟩, ⟨by first | exact Kd.R_nil _ _ _ _ _ | exact Kd.N_nil _ _ _ _ _ | exact Kd.V_nil _ _ _ _ _ | exact Kd.Q_nil _ _ _ _ _ | exact Kd.S_nil _ _ _ _ _⟩, ⟨by repeat (first | (with_reducible first | exact HB.out | apply below_alloc | apply pw_below_drewN | apply below_drew1) | exact HB.out)⟩⟩
        case round =>
          clear H'
          try clear p2
          try clear c3
          try clear c3b0
          try clear c3b1
          try clear c3b2
          try clear c4
          try clear c5
          try clear p2
          obtain ⟨x3_2, x4_2, x5_2, rfl, rfl, HA, HK2, HO_3, HB⟩ := hrel
          cases gk with
          | zero => exact absurd HA.out (by simp [valiselaw09_InflateStored.l0])
          | succ k2 =>
            have H := HA.out
            clear HA
            simp only [valiselaw09_InflateStored.l0] at H
            by_cases c7 : x5_2 < (l0.length : Int)
            · rw [if_pos c7] at H
              have c7b0 : decide (x5_2 < (l0.length : Int)) = true := decide_eq_true c7
              clear c7
              by_cases c8 : 0 ≤ x5_2
              · rw [if_pos c8] at H
                have c8b0 : decide (0 ≤ x5_2) = true := decide_eq_true c8
                clear c8
                by_cases c9 : ((rd_L1 l0 x5_2).length : Int) > 3000
                · rw [if_pos c9] at H
                  have c9b0 : decide (3000 < ((rd_L1 l0 x5_2).length : Int)) = true := decide_eq_true c9
                  have c9b1 : decide (3000 < (rd_L1 l0 x5_2).length) = true := decide_eq_true (by omega)
                  clear c9
                  replace H := Option.bind_eq_some_iff.mp H
                  obtain ⟨t178, A100, H⟩ := H
                  replace H : (some t178) = some r := H
                  have A10 := Aside0.mk A100
                  clear A100
                  obtain rfl := Option.some.inj H
                  have p177 : 0 ≤ (x5_2 : Int) := of_decide_eq_true (by first | (with_reducible assumption) | assumption)
                  have q177 : x5_2 < (l0.length : Int) := of_decide_eq_true (by first | (with_reducible assumption) | assumption)
                  obtain ⟨ad177, A177_0, c177_0, e177, hx177_0, hl177_0, hi177_0⟩ := at_L1 HR0.out x5_2 p177 q177
                  cases e177
                  replace hx177_0 := (HB.out.cell (World.block_lt_of_cell? w _ hx177_0)).trans hx177_0
                  have HR177_0 := Aside0.mk hi177_0
                  have HC177_0 := Aside0.mk hl177_0
                  clear hi177_0 hl177_0
                  replace p177 := eq_true p177
                  replace q177 := eq_true q177
                  go_wp2_with (first | ((with_reducible refine gate_callee (f := 7) rfl ?_); refine goesL_ (some 32) rfl rfl Tryd.func7 (by kernel_rfl) rfl #[] rfl (by (try simp only [List.map_toArray, List.map_cons, List.map_nil]); first | done | rfl | (simp only [List.length_drop, List.length_take]; rfl)) ?_; (with_reducible refine (valiselaw09_lives.calls  t178 _ (Pr.Handle.on HGH.out (by repeat (first | (with_reducible first | exact HB.out | apply below_alloc | apply pw_below_drewN | apply below_drew1) | exact HB.out)) (Pr.Handle.pos HGH.out)) A10.out).mono ?_); rintro e w11 ⟨rfl, hb⟩; refine ⟨_, rfl, ?_⟩; have n0_ := Aside0.mk (Kd.R_below (by (with_reducible repeat (first | apply Kd.R_alloc | apply Kd.R_drewN | apply Kd.R_drew)); exact HO_3.out) hb); have n1_ := Aside0.mk (below_step (by repeat (first | (with_reducible first | exact HB.out | apply below_alloc | apply pw_below_drewN | apply below_drew1) | exact HB.out)) hb); clear HO_3; clear HB; have HO_3 := n0_; have HB := n1_; clear n0_ n1_; (try clear hb); (try clear hb2); (try clear hk); (try clear hi)))
                  go_ret
                  exact ⟨by first | rfl | (simp [errW_none, errW_some] <;> rfl) | (simp [*, errW_none, errW_some] <;> rfl), by repeat (first | (with_reducible first | exact HB.out | apply below_alloc | apply pw_below_drewN | apply below_drew1) | exact HB.out)⟩
                · rw [if_neg c9] at H
                  have c9b0 : decide (3000 < ((rd_L1 l0 x5_2).length : Int)) = false := decide_eq_false c9
                  have c9b1 : decide (3000 < (rd_L1 l0 x5_2).length) = false := decide_eq_false (by omega)
                  clear c9
                  by_cases c12 : x5_2 = (wrap64 ((l0.length : Int) - 1))
                  · rw [if_pos c12] at H
                    have c12b0 : (x5_2 == (wrap64 ((l0.length : Int) - 1))) = true := beq_iff_eq.mpr c12
                    have c12b1 : (x5_2 != (wrap64 ((l0.length : Int) - 1))) = false := bne_eq_false_iff_eq.mpr c12
                    clear c12
                    obtain ⟨y180, hy180⟩ : ∃ y_ : List Int, y_ = (([1, (((rd_L1 l0 x5_2).length : Int)) % 256, (((rd_L1 l0 x5_2).length : Int) / 256) % 256, Go.bits .xor .u8 255 ((((rd_L1 l0 x5_2).length : Int)) % 256), Go.bits .xor .u8 255 ((((rd_L1 l0 x5_2).length : Int) / 256) % 256)] : List Int)) := ⟨_, rfl⟩
                    replace H : (if x3_2.length + y180.length < 140737488355328 then ((some (x3_2 ++ y180 : List Int)).bind fun y183 => (if y183.length + (rd_L1 l0 x5_2).length < 140737488355328 then (if x4_2.size + (strOfNums (rd_L1 l0 x5_2)).size ≤ 9223372036854775807 then (valiselaw09_InflateStored.l0 k2 l0 (y183 ++ (rd_L1 l0 x5_2)) (x4_2 ++ (strOfNums (rd_L1 l0 x5_2))) (wrap64 (x5_2 + 1))) else (none)) else (none))) else (none)) = some r := by first | (rw [hy180]; with_reducible exact H) | (have H2_ := (Option.bind_some _ _).symm.trans H; rw [hy180]; with_reducible exact H2_) | (have H2_ := (Option.bind_some _ _).symm.trans H; with_reducible exact H2_) | with_reducible exact H | (rw [hy180]; exact H) | exact H
                    have Ny180 := Aside0.mk hy180
                    clear hy180
                    by_cases c13 : x3_2.length + y180.length < 140737488355328
                    · rw [if_pos c13] at H
                      have LMc13 := Aside0.mk c13
                      clear c13
                      obtain ⟨y183, hy183⟩ : ∃ y_ : List Int, y_ = (x3_2 ++ y180) := ⟨_, rfl⟩
                      replace H : (if y183.length + (rd_L1 l0 x5_2).length < 140737488355328 then (if x4_2.size + (strOfNums (rd_L1 l0 x5_2)).size ≤ 9223372036854775807 then (valiselaw09_InflateStored.l0 k2 l0 (y183 ++ (rd_L1 l0 x5_2)) (x4_2 ++ (strOfNums (rd_L1 l0 x5_2))) (wrap64 (x5_2 + 1))) else (none)) else (none)) = some r := by first | (rw [hy183]; with_reducible exact H) | (have H2_ := (Option.bind_some _ _).symm.trans H; rw [hy183]; with_reducible exact H2_) | (have H2_ := (Option.bind_some _ _).symm.trans H; with_reducible exact H2_) | with_reducible exact H | (rw [hy183]; exact H) | exact H
                      have Ny183 := Aside0.mk hy183
                      clear hy183
                      by_cases c14 : y183.length + (rd_L1 l0 x5_2).length < 140737488355328
                      · rw [if_pos c14] at H
                        have LMc14 := Aside0.mk c14
                        clear c14
                        obtain ⟨y187, hy187⟩ : ∃ y_ : List Int, y_ = (y183 ++ (rd_L1 l0 x5_2)) := ⟨_, rfl⟩
                        replace H : (if x4_2.size + (strOfNums (rd_L1 l0 x5_2)).size ≤ 9223372036854775807 then (valiselaw09_InflateStored.l0 k2 l0 y187 (x4_2 ++ (strOfNums (rd_L1 l0 x5_2))) (wrap64 (x5_2 + 1))) else (none)) = some r := by first | (rw [hy187]; with_reducible exact H) | (have H2_ := (Option.bind_some _ _).symm.trans H; rw [hy187]; with_reducible exact H2_) | (have H2_ := (Option.bind_some _ _).symm.trans H; with_reducible exact H2_) | with_reducible exact H | (rw [hy187]; exact H) | exact H
                        have Ny187 := Aside0.mk hy187
                        clear hy187
                        by_cases c15 : x4_2.size + (strOfNums (rd_L1 l0 x5_2)).size ≤ 9223372036854775807
                        · rw [if_pos c15] at H
                          have c15b0 := eq_true c15
                          have c15b1 : decide (x4_2.size + (strOfNums (rd_L1 l0 x5_2)).size ≤ 9223372036854775807) = true := decide_eq_true c15
                          try have c15b2 : (9223372036854775807 < x4_2.size + (strOfNums (rd_L1 l0 x5_2)).size) = False := eq_false (Nat.not_lt.2 c15)
                          have H' := Aside0.mk H
                          clear H
                          have p177 : 0 ≤ (x5_2 : Int) := of_decide_eq_true (by first | (with_reducible assumption) | assumption)
                          have q177 : x5_2 < (l0.length : Int) := of_decide_eq_true (by first | (with_reducible assumption) | assumption)
                          obtain ⟨ad177, A177_0, c177_0, e177, hx177_0, hl177_0, hi177_0⟩ := at_L1 HR0.out x5_2 p177 q177
                          cases e177
                          replace hx177_0 := (HB.out.cell (World.block_lt_of_cell? w _ hx177_0)).trans hx177_0
                          have HR177_0 := Aside0.mk hi177_0
                          have HC177_0 := Aside0.mk hl177_0
                          clear hi177_0 hl177_0
                          replace p177 := eq_true p177
                          replace q177 := eq_true q177
                          have p179 : 0 ≤ (x5_2 : Int) := of_decide_eq_true (by first | (with_reducible assumption) | assumption)
                          have q179 : x5_2 < (l0.length : Int) := of_decide_eq_true (by first | (with_reducible assumption) | assumption)
                          obtain ⟨ad179, A179_0, c179_0, e179, hx179_0, hl179_0, hi179_0⟩ := at_L1 HR0.out x5_2 p179 q179
                          obtain rfl : ad177 = ad179 := (by injection e179)
                          replace hx179_0 := (HB.out.cell (World.block_lt_of_cell? w _ hx179_0)).trans hx179_0
                          have HR179_0 := Aside0.mk hi179_0
                          have HC179_0 := Aside0.mk hl179_0
                          clear hi179_0 hl179_0
                          replace p179 := eq_true p179
                          replace q179 := eq_true q179
                          have ea_ := Option.some.inj (hx177_0.symm.trans hx179_0)
                          injection ea_ with ea_ en_ ec_
                          subst ea_
                          subst ec_
                          clear en_
                          go_wp2_with (first | ((with_reducible refine gate_dst (N := 57) rfl ?_); (try (refine gate_guard (by rfl) ?_; dsimp only)); refine Kd.R_lit (Kd.int .u8) _ 5 ?hg (N := 57) ?hd (xs := ([1, (((rd_L1 l0 x5_2).length : Int)) % 256, (((rd_L1 l0 x5_2).length : Int) / 256) % 256, Go.bits .xor .u8 255 ((((rd_L1 l0 x5_2).length : Int)) % 256), Go.bits .xor .u8 255 ((((rd_L1 l0 x5_2).length : Int) / 256) % 256)] : List Int)) (inner := [.int .u8 1, .int .u8 ((((rd_L1 l0 x5_2).length : Int)) % 256), .int .u8 ((((rd_L1 l0 x5_2).length : Int) / 256) % 256), .int .u8 (Go.bits .xor .u8 255 ((((rd_L1 l0 x5_2).length : Int)) % 256)), .int .u8 (Go.bits .xor .u8 255 ((((rd_L1 l0 x5_2).length : Int) / 256) % 256))]) (ok := fun _ => True) (okp := fun _ => True) ?hr ?hp (fun _ hk => hk) trivial (Below.refl _ _) (Nat.le_refl _) (by simp) ?_; (case hd => rfl); (case hg => rfl); (case hr => first | (go_simp; done) | (go_simp; rfl)); (case hp => exact (Reps.one (show Kd.M (Kd.int .u8) _ _ _ 1 [.int .u8 1] from rfl) (Reps.one (show Kd.M (Kd.int .u8) _ _ _ ((((rd_L1 l0 x5_2).length : Int)) % 256) [.int .u8 ((((rd_L1 l0 x5_2).length : Int)) % 256)] from rfl) (Reps.one (show Kd.M (Kd.int .u8) _ _ _ ((((rd_L1 l0 x5_2).length : Int) / 256) % 256) [.int .u8 ((((rd_L1 l0 x5_2).length : Int) / 256) % 256)] from rfl) (Reps.one (show Kd.M (Kd.int .u8) _ _ _ (Go.bits .xor .u8 255 ((((rd_L1 l0 x5_2).length : Int)) % 256)) [.int .u8 (Go.bits .xor .u8 255 ((((rd_L1 l0 x5_2).length : Int)) % 256))] from rfl) (Reps.one (show Kd.M (Kd.int .u8) _ _ _ (Go.bits .xor .u8 255 ((((rd_L1 l0 x5_2).length : Int) / 256) % 256)) [.int .u8 (Go.bits .xor .u8 255 ((((rd_L1 l0 x5_2).length : Int) / 256) % 256))] from rfl) (Reps.none _ _))))))); intro v181 w16 ho17 hb hg_ hnew_; clear hg_ hnew_; (first | rw [← Ny180.out] at ho17 | (simp only [Int.reduceToNat] at ho17; rw [← Ny180.out] at ho17)); have n0_ := Aside0.mk (Kd.R_elder' (by (with_reducible repeat (first | apply Kd.R_alloc | apply Kd.R_drewN | apply Kd.R_drew)); exact HO_3.out) (Kd.R_base ho17) hb); have n1_ := Aside0.mk (Kd.R_lower (Kd.R_new' ho17 (Kd.R_lt (by (with_reducible repeat (first | apply Kd.R_alloc | apply Kd.R_drewN | apply Kd.R_drew)); exact HO_3.out))) (below_size (by repeat (first | (with_reducible first | exact HB.out | apply below_alloc | apply pw_below_drewN | apply below_drew1) | exact HB.out)))); have n2_ := Aside0.mk (below_step (by repeat (first | (with_reducible first | exact HB.out | apply below_alloc | apply pw_below_drewN | apply below_drew1) | exact HB.out)) hb); clear HO_3; clear HB; have HO_3 := n0_; have HO182 := n1_; have HB := n2_; clear n0_ n1_ n2_; clear hb ho17; obtain ⟨Ao19, co19, eo19⟩ := Kd.R_slice HO182.out; subst eo19) | ((with_reducible refine gate_builtin (b := .append) (xs := #[.tmp 43, .tmp 57]) rfl ?_); (try (refine gate_guard (by rfl) ?_; dsimp only)); at_builtin; refine Kd.R_append_rows (Kd.int .u8) (w0 := w) w.heap.size rfl (.tmp 43) (.tmp 57) 22 5 (.int .u8 0) 1 rfl Tryd.underlying22 info5 rfl (by decide) (by omega) u3 x3_2 y180 _ _ _ (fun k_ => some k_ ≠ (.slice Ao19 y180.length co19 : Value).ownBlock) (fun _ => False) rfl rfl ?aO ?aR (fun _ _ h => h) (fun _ h => h.elim) ?aF ?aB ?aS ?aL ?_; (case aR => repeat (first | exact (Kd.R_reads' HO182.out).2.2 | (with_reducible refine Kd.C_alloc ?_ _) | (with_reducible refine Kd.C_drewN ?_ _) | (with_reducible refine Kd.C_drew ?_))); (case aB => exact (by repeat (first | (with_reducible first | exact HB.out | apply below_alloc | apply pw_below_drewN | apply below_drew1) | exact HB.out))); (case aF => exact (fun k_ hk => Kd.fresh' (Kd.R_lt (by (with_reducible repeat (first | apply Kd.R_alloc | apply Kd.R_drewN | apply Kd.R_drew)); exact HO182.out)) k_ hk)); (case aO => exact (by (with_reducible repeat (first | apply Kd.R_alloc | apply Kd.R_drewN | apply Kd.R_drew)); exact Kd.R_mono HO_3.out (fun _ hk => hk.2))); (case aS => exact (below_size (by repeat (first | (with_reducible first | exact HB.out | apply below_alloc | apply pw_below_drewN | apply below_drew1) | exact HB.out)))); (case aL => have := LMc13.out; omega); intro v184 w18 ho hb hg hat; rw [← Ny183.out] at ho; have n0_ := Aside0.mk (Kd.R_after (ok := (fun _ => True)) (by (with_reducible repeat (first | apply Kd.R_alloc | apply Kd.R_drewN | apply Kd.R_drew)); exact HO182.out) hg hat); have n1_ := Aside0.mk (hb); have n2_ := Aside0.mk (ho); clear HO182; clear HB; clear HO_3; have HO182 := n0_; have HB := n1_; have HO185 := n2_; clear n0_ n1_ n2_; clear ho hb hg hat; have p186 : 0 ≤ (x5_2 : Int) := of_decide_eq_true (by first | (with_reducible assumption) | assumption); have q186 : x5_2 < (l0.length : Int) := of_decide_eq_true (by first | (with_reducible assumption) | assumption); obtain ⟨ad186, A186_0, c186_0, e186, hx186_0, hl186_0, hi186_0⟩ := at_L1 HR0.out x5_2 p186 q186; obtain rfl : ad177 = ad186 := (by injection e186); replace hx186_0 := (HB.out.cell (World.block_lt_of_cell? w _ hx186_0)).trans hx186_0; have HR186_0 := Aside0.mk hi186_0; have HC186_0 := Aside0.mk hl186_0; clear hi186_0 hl186_0; replace p186 := eq_true p186; replace q186 := eq_true q186) | ((with_reducible refine gate_builtin (b := .append) (xs := #[.tmp 59, .tmp 63]) rfl ?_); (try (refine gate_guard (by rfl) ?_; dsimp only)); at_builtin; refine Kd.R_append_rows (Kd.int .u8) (w0 := w) w.heap.size rfl (.tmp 59) (.tmp 63) 22 5 (.int .u8 0) 1 rfl Tryd.underlying22 info5 rfl (by decide) (by omega) v184 y183 (rd_L1 l0 x5_2) _ _ _ (fun k_ => some k_ ≠ (.slice Ao19 y180.length co19 : Value).ownBlock) (fun _ => False) rfl rfl ?aO ?aR (fun _ _ h => h) (fun _ h => h.elim) ?aF ?aB ?aS ?aL ?_; (case aR => repeat (first | exact (Kd.C_below HR186_0.out HB.out) | (with_reducible refine Kd.C_alloc ?_ _) | (with_reducible refine Kd.C_drewN ?_ _) | (with_reducible refine Kd.C_drew ?_))); (case aB => exact (by repeat (first | (with_reducible first | exact HB.out | apply below_alloc | apply pw_below_drewN | apply below_drew1) | exact HB.out))); (case aF => exact (fun k_ hk => Kd.fresh' (Kd.R_lt (by (with_reducible repeat (first | apply Kd.R_alloc | apply Kd.R_drewN | apply Kd.R_drew)); exact HO182.out)) k_ hk)); (case aO => exact (by (with_reducible repeat (first | apply Kd.R_alloc | apply Kd.R_drewN | apply Kd.R_drew)); exact HO185.out)); (case aS => exact (below_size (by repeat (first | (with_reducible first | exact HB.out | apply below_alloc | apply pw_below_drewN | apply below_drew1) | exact HB.out)))); (case aL => have := LMc14.out; omega); intro v188 w20 ho hb hg hat; rw [← Ny187.out] at ho; have n0_ := Aside0.mk (Kd.R_after (ok := (fun _ => True)) (by (with_reducible repeat (first | apply Kd.R_alloc | apply Kd.R_drewN | apply Kd.R_drew)); exact HO182.out) hg hat); have n1_ := Aside0.mk (hb); have n2_ := Aside0.mk (ho); clear HO182; clear HB; clear HO185; have HO182 := n0_; have HB := n1_; have HO189 := n2_; clear n0_ n1_ n2_; clear ho hb hg hat; have p190 : 0 ≤ (x5_2 : Int) := of_decide_eq_true (by first | (with_reducible assumption) | assumption); have q190 : x5_2 < (l0.length : Int) := of_decide_eq_true (by first | (with_reducible assumption) | assumption); obtain ⟨ad190, A190_0, c190_0, e190, hx190_0, hl190_0, hi190_0⟩ := at_L1 HR0.out x5_2 p190 q190; obtain rfl : ad177 = ad190 := (by injection e190); replace hx190_0 := (HB.out.cell (World.block_lt_of_cell? w _ hx190_0)).trans hx190_0; have HR190_0 := Aside0.mk hi190_0; have HC190_0 := Aside0.mk hl190_0; clear hi190_0 hl190_0; replace p190 := eq_true p190; replace q190 := eq_true q190; have hcv21 := Kd.C_string (P := Tryd.prog) (A := A190_0) (c := c190_0) Tryd.underlying22 Tryd.underlying5 Tryd.underlying9 (Kd.C_below HR190_0.out HB.out)))
                          go_roundg k2
                          case measure => have := HJ1.out; have := HK2.out; omega
                          case rel => exact ⟨(y187), (x4_2 ++ (strOfNums (rd_L1 l0 x5_2))), (wrap64 (x5_2 + 1)), (by first | rfl | (simp; done) | (simp [*]; done)), (by first | rfl | (simp; done) | (simp [*]; done)), H', ⟨by have := HJ1.out; have := HK2.out; omega⟩, ⟨by (with_reducible repeat (first | apply Kd.R_alloc | apply Kd.R_drewN | apply Kd.R_drew)); exact Kd.R_mono HO189.out (fun _ hk => trivial)⟩, ⟨by repeat (first | (with_reducible first | exact HB.out | apply below_alloc | apply pw_below_drewN | apply below_drew1) | exact HB.out)⟩⟩
                        · rw [if_neg c15] at H
                          exact absurd H (by simp)
                      · rw [if_neg c14] at H
                        exact absurd H (by simp)
                    · rw [if_neg c13] at H
                      exact absurd H (by simp)
                  · rw [if_neg c12] at H
                    have c12b0 : (x5_2 == (wrap64 ((l0.length : Int) - 1))) = false := beq_eq_false_iff_ne.mpr c12
                    have c12b1 : (x5_2 != (wrap64 ((l0.length : Int) - 1))) = true := bne_iff_ne.mpr c12
                    obtain ⟨y192, hy192⟩ : ∃ y_ : List Int, y_ = (([0, (((rd_L1 l0 x5_2).length : Int)) % 256, (((rd_L1 l0 x5_2).length : Int) / 256) % 256, Go.bits .xor .u8 255 ((((rd_L1 l0 x5_2).length : Int)) % 256), Go.bits .xor .u8 255 ((((rd_L1 l0 x5_2).length : Int) / 256) % 256)] : List Int)) := ⟨_, rfl⟩
                    replace H : (if x3_2.length + y192.length < 140737488355328 then ((some (x3_2 ++ y192 : List Int)).bind fun y195 => (if y195.length + (rd_L1 l0 x5_2).length < 140737488355328 then (if x4_2.size + (strOfNums (rd_L1 l0 x5_2)).size ≤ 9223372036854775807 then (valiselaw09_InflateStored.l0 k2 l0 (y195 ++ (rd_L1 l0 x5_2)) (x4_2 ++ (strOfNums (rd_L1 l0 x5_2))) (wrap64 (x5_2 + 1))) else (none)) else (none))) else (none)) = some r := by first | (rw [hy192]; with_reducible exact H) | (have H2_ := (Option.bind_some _ _).symm.trans H; rw [hy192]; with_reducible exact H2_) | (have H2_ := (Option.bind_some _ _).symm.trans H; with_reducible exact H2_) | with_reducible exact H | (rw [hy192]; exact H) | exact H
                    have Ny192 := Aside0.mk hy192
                    clear hy192
                    by_cases c22 : x3_2.length + y192.length < 140737488355328
                    · rw [if_pos c22] at H
                      have LMc22 := Aside0.mk c22
                      clear c22
                      obtain ⟨y195, hy195⟩ : ∃ y_ : List Int, y_ = (x3_2 ++ y192) := ⟨_, rfl⟩
                      replace H : (if y195.length + (rd_L1 l0 x5_2).length < 140737488355328 then (if x4_2.size + (strOfNums (rd_L1 l0 x5_2)).size ≤ 9223372036854775807 then (valiselaw09_InflateStored.l0 k2 l0 (y195 ++ (rd_L1 l0 x5_2)) (x4_2 ++ (strOfNums (rd_L1 l0 x5_2))) (wrap64 (x5_2 + 1))) else (none)) else (none)) = some r := by first | (rw [hy195]; with_reducible exact H) | (have H2_ := (Option.bind_some _ _).symm.trans H; rw [hy195]; with_reducible exact H2_) | (have H2_ := (Option.bind_some _ _).symm.trans H; with_reducible exact H2_) | with_reducible exact H | (rw [hy195]; exact H) | exact H
                      have Ny195 := Aside0.mk hy195
                      clear hy195
                      by_cases c23 : y195.length + (rd_L1 l0 x5_2).length < 140737488355328
                      · rw [if_pos c23] at H
                        have LMc23 := Aside0.mk c23
                        clear c23
                        obtain ⟨y199, hy199⟩ : ∃ y_ : List Int, y_ = (y195 ++ (rd_L1 l0 x5_2)) := ⟨_, rfl⟩
                        replace H : (if x4_2.size + (strOfNums (rd_L1 l0 x5_2)).size ≤ 9223372036854775807 then (valiselaw09_InflateStored.l0 k2 l0 y199 (x4_2 ++ (strOfNums (rd_L1 l0 x5_2))) (wrap64 (x5_2 + 1))) else (none)) = some r := by first | (rw [hy199]; with_reducible exact H) | (have H2_ := (Option.bind_some _ _).symm.trans H; rw [hy199]; with_reducible exact H2_) | (have H2_ := (Option.bind_some _ _).symm.trans H; with_reducible exact H2_) | with_reducible exact H | (rw [hy199]; exact H) | exact H
                        have Ny199 := Aside0.mk hy199
                        clear hy199
                        by_cases c24 : x4_2.size + (strOfNums (rd_L1 l0 x5_2)).size ≤ 9223372036854775807
                        · rw [if_pos c24] at H
                          have c24b0 := eq_true c24
                          have c24b1 : decide (x4_2.size + (strOfNums (rd_L1 l0 x5_2)).size ≤ 9223372036854775807) = true := decide_eq_true c24
                          try have c24b2 : (9223372036854775807 < x4_2.size + (strOfNums (rd_L1 l0 x5_2)).size) = False := eq_false (Nat.not_lt.2 c24)
                          have H' := Aside0.mk H
                          clear H
                          have p177 : 0 ≤ (x5_2 : Int) := of_decide_eq_true (by first | (with_reducible assumption) | assumption)
                          have q177 : x5_2 < (l0.length : Int) := of_decide_eq_true (by first | (with_reducible assumption) | assumption)
                          obtain ⟨ad177, A177_0, c177_0, e177, hx177_0, hl177_0, hi177_0⟩ := at_L1 HR0.out x5_2 p177 q177
                          cases e177
                          replace hx177_0 := (HB.out.cell (World.block_lt_of_cell? w _ hx177_0)).trans hx177_0
                          have HR177_0 := Aside0.mk hi177_0
                          have HC177_0 := Aside0.mk hl177_0
                          clear hi177_0 hl177_0
                          replace p177 := eq_true p177
                          replace q177 := eq_true q177
                          have p191 : 0 ≤ (x5_2 : Int) := of_decide_eq_true (by first | (with_reducible assumption) | assumption)
                          have q191 : x5_2 < (l0.length : Int) := of_decide_eq_true (by first | (with_reducible assumption) | assumption)
                          obtain ⟨ad191, A191_0, c191_0, e191, hx191_0, hl191_0, hi191_0⟩ := at_L1 HR0.out x5_2 p191 q191
                          obtain rfl : ad177 = ad191 := (by injection e191)
                          replace hx191_0 := (HB.out.cell (World.block_lt_of_cell? w _ hx191_0)).trans hx191_0
                          have HR191_0 := Aside0.mk hi191_0
                          have HC191_0 := Aside0.mk hl191_0
                          clear hi191_0 hl191_0
                          replace p191 := eq_true p191
                          replace q191 := eq_true q191
                          have ea_ := Option.some.inj (hx177_0.symm.trans hx191_0)
                          injection ea_ with ea_ en_ ec_
                          subst ea_
                          subst ec_
                          clear en_
                          go_wp2_with (first | ((with_reducible refine gate_dst (N := 57) rfl ?_); (try (refine gate_guard (by rfl) ?_; dsimp only)); refine Kd.R_lit (Kd.int .u8) _ 5 ?hg (N := 57) ?hd (xs := ([0, (((rd_L1 l0 x5_2).length : Int)) % 256, (((rd_L1 l0 x5_2).length : Int) / 256) % 256, Go.bits .xor .u8 255 ((((rd_L1 l0 x5_2).length : Int)) % 256), Go.bits .xor .u8 255 ((((rd_L1 l0 x5_2).length : Int) / 256) % 256)] : List Int)) (inner := [.int .u8 0, .int .u8 ((((rd_L1 l0 x5_2).length : Int)) % 256), .int .u8 ((((rd_L1 l0 x5_2).length : Int) / 256) % 256), .int .u8 (Go.bits .xor .u8 255 ((((rd_L1 l0 x5_2).length : Int)) % 256)), .int .u8 (Go.bits .xor .u8 255 ((((rd_L1 l0 x5_2).length : Int) / 256) % 256))]) (ok := fun _ => True) (okp := fun _ => True) ?hr ?hp (fun _ hk => hk) trivial (Below.refl _ _) (Nat.le_refl _) (by simp) ?_; (case hd => rfl); (case hg => rfl); (case hr => first | (go_simp; done) | (go_simp; rfl)); (case hp => exact (Reps.one (show Kd.M (Kd.int .u8) _ _ _ 0 [.int .u8 0] from rfl) (Reps.one (show Kd.M (Kd.int .u8) _ _ _ ((((rd_L1 l0 x5_2).length : Int)) % 256) [.int .u8 ((((rd_L1 l0 x5_2).length : Int)) % 256)] from rfl) (Reps.one (show Kd.M (Kd.int .u8) _ _ _ ((((rd_L1 l0 x5_2).length : Int) / 256) % 256) [.int .u8 ((((rd_L1 l0 x5_2).length : Int) / 256) % 256)] from rfl) (Reps.one (show Kd.M (Kd.int .u8) _ _ _ (Go.bits .xor .u8 255 ((((rd_L1 l0 x5_2).length : Int)) % 256)) [.int .u8 (Go.bits .xor .u8 255 ((((rd_L1 l0 x5_2).length : Int)) % 256))] from rfl) (Reps.one (show Kd.M (Kd.int .u8) _ _ _ (Go.bits .xor .u8 255 ((((rd_L1 l0 x5_2).length : Int) / 256) % 256)) [.int .u8 (Go.bits .xor .u8 255 ((((rd_L1 l0 x5_2).length : Int) / 256) % 256))] from rfl) (Reps.none _ _))))))); intro v193 w25 ho26 hb hg_ hnew_; clear hg_ hnew_; (first | rw [← Ny192.out] at ho26 | (simp only [Int.reduceToNat] at ho26; rw [← Ny192.out] at ho26)); have n0_ := Aside0.mk (Kd.R_elder' (by (with_reducible repeat (first | apply Kd.R_alloc | apply Kd.R_drewN | apply Kd.R_drew)); exact HO_3.out) (Kd.R_base ho26) hb); have n1_ := Aside0.mk (Kd.R_lower (Kd.R_new' ho26 (Kd.R_lt (by (with_reducible repeat (first | apply Kd.R_alloc | apply Kd.R_drewN | apply Kd.R_drew)); exact HO_3.out))) (below_size (by repeat (first | (with_reducible first | exact HB.out | apply below_alloc | apply pw_below_drewN | apply below_drew1) | exact HB.out)))); have n2_ := Aside0.mk (below_step (by repeat (first | (with_reducible first | exact HB.out | apply below_alloc | apply pw_below_drewN | apply below_drew1) | exact HB.out)) hb); clear HO_3; clear HB; have HO_3 := n0_; have HO194 := n1_; have HB := n2_; clear n0_ n1_ n2_; clear hb ho26; obtain ⟨Ao28, co28, eo28⟩ := Kd.R_slice HO194.out; subst eo28) | ((with_reducible refine gate_builtin (b := .append) (xs := #[.tmp 43, .tmp 57]) rfl ?_); (try (refine gate_guard (by rfl) ?_; dsimp only)); at_builtin; refine Kd.R_append_rows (Kd.int .u8) (w0 := w) w.heap.size rfl (.tmp 43) (.tmp 57) 22 5 (.int .u8 0) 1 rfl Tryd.underlying22 info5 rfl (by decide) (by omega) u3 x3_2 y192 _ _ _ (fun k_ => some k_ ≠ (.slice Ao28 y192.length co28 : Value).ownBlock) (fun _ => False) rfl rfl ?aO ?aR (fun _ _ h => h) (fun _ h => h.elim) ?aF ?aB ?aS ?aL ?_; (case aR => repeat (first | exact (Kd.R_reads' HO194.out).2.2 | (with_reducible refine Kd.C_alloc ?_ _) | (with_reducible refine Kd.C_drewN ?_ _) | (with_reducible refine Kd.C_drew ?_))); (case aB => exact (by repeat (first | (with_reducible first | exact HB.out | apply below_alloc | apply pw_below_drewN | apply below_drew1) | exact HB.out))); (case aF => exact (fun k_ hk => Kd.fresh' (Kd.R_lt (by (with_reducible repeat (first | apply Kd.R_alloc | apply Kd.R_drewN | apply Kd.R_drew)); exact HO194.out)) k_ hk)); (case aO => exact (by (with_reducible repeat (first | apply Kd.R_alloc | apply Kd.R_drewN | apply Kd.R_drew)); exact Kd.R_mono HO_3.out (fun _ hk => hk.2))); (case aS => exact (below_size (by repeat (first | (with_reducible first | exact HB.out | apply below_alloc | apply pw_below_drewN | apply below_drew1) | exact HB.out)))); (case aL => have := LMc22.out; omega); intro v196 w27 ho hb hg hat; rw [← Ny195.out] at ho; have n0_ := Aside0.mk (Kd.R_after (ok := (fun _ => True)) (by (with_reducible repeat (first | apply Kd.R_alloc | apply Kd.R_drewN | apply Kd.R_drew)); exact HO194.out) hg hat); have n1_ := Aside0.mk (hb); have n2_ := Aside0.mk (ho); clear HO194; clear HB; clear HO_3; have HO194 := n0_; have HB := n1_; have HO197 := n2_; clear n0_ n1_ n2_; clear ho hb hg hat; have p198 : 0 ≤ (x5_2 : Int) := of_decide_eq_true (by first | (with_reducible assumption) | assumption); have q198 : x5_2 < (l0.length : Int) := of_decide_eq_true (by first | (with_reducible assumption) | assumption); obtain ⟨ad198, A198_0, c198_0, e198, hx198_0, hl198_0, hi198_0⟩ := at_L1 HR0.out x5_2 p198 q198; obtain rfl : ad177 = ad198 := (by injection e198); replace hx198_0 := (HB.out.cell (World.block_lt_of_cell? w _ hx198_0)).trans hx198_0; have HR198_0 := Aside0.mk hi198_0; have HC198_0 := Aside0.mk hl198_0; clear hi198_0 hl198_0; replace p198 := eq_true p198; replace q198 := eq_true q198) | ((with_reducible refine gate_builtin (b := .append) (xs := #[.tmp 59, .tmp 63]) rfl ?_); (try (refine gate_guard (by rfl) ?_; dsimp only)); at_builtin; refine Kd.R_append_rows (Kd.int .u8) (w0 := w) w.heap.size rfl (.tmp 59) (.tmp 63) 22 5 (.int .u8 0) 1 rfl Tryd.underlying22 info5 rfl (by decide) (by omega) v196 y195 (rd_L1 l0 x5_2) _ _ _ (fun k_ => some k_ ≠ (.slice Ao28 y192.length co28 : Value).ownBlock) (fun _ => False) rfl rfl ?aO ?aR (fun _ _ h => h) (fun _ h => h.elim) ?aF ?aB ?aS ?aL ?_; (case aR => repeat (first | exact (Kd.C_below HR198_0.out HB.out) | (with_reducible refine Kd.C_alloc ?_ _) | (with_reducible refine Kd.C_drewN ?_ _) | (with_reducible refine Kd.C_drew ?_))); (case aB => exact (by repeat (first | (with_reducible first | exact HB.out | apply below_alloc | apply pw_below_drewN | apply below_drew1) | exact HB.out))); (case aF => exact (fun k_ hk => Kd.fresh' (Kd.R_lt (by (with_reducible repeat (first | apply Kd.R_alloc | apply Kd.R_drewN | apply Kd.R_drew)); exact HO194.out)) k_ hk)); (case aO => exact (by (with_reducible repeat (first | apply Kd.R_alloc | apply Kd.R_drewN | apply Kd.R_drew)); exact HO197.out)); (case aS => exact (below_size (by repeat (first | (with_reducible first | exact HB.out | apply below_alloc | apply pw_below_drewN | apply below_drew1) | exact HB.out)))); (case aL => have := LMc23.out; omega); intro v200 w29 ho hb hg hat; rw [← Ny199.out] at ho; have n0_ := Aside0.mk (Kd.R_after (ok := (fun _ => True)) (by (with_reducible repeat (first | apply Kd.R_alloc | apply Kd.R_drewN | apply Kd.R_drew)); exact HO194.out) hg hat); have n1_ := Aside0.mk (hb); have n2_ := Aside0.mk (ho); clear HO194; clear HB; clear HO197; have HO194 := n0_; have HB := n1_; have HO201 := n2_; clear n0_ n1_ n2_; clear ho hb hg hat; have p202 : 0 ≤ (x5_2 : Int) := of_decide_eq_true (by first | (with_reducible assumption) | assumption); have q202 : x5_2 < (l0.length : Int) := of_decide_eq_true (by first | (with_reducible assumption) | assumption); obtain ⟨ad202, A202_0, c202_0, e202, hx202_0, hl202_0, hi202_0⟩ := at_L1 HR0.out x5_2 p202 q202; obtain rfl : ad177 = ad202 := (by injection e202); replace hx202_0 := (HB.out.cell (World.block_lt_of_cell? w _ hx202_0)).trans hx202_0; have HR202_0 := Aside0.mk hi202_0; have HC202_0 := Aside0.mk hl202_0; clear hi202_0 hl202_0; replace p202 := eq_true p202; replace q202 := eq_true q202; have hcv30 := Kd.C_string (P := Tryd.prog) (A := A202_0) (c := c202_0) Tryd.underlying22 Tryd.underlying5 Tryd.underlying9 (Kd.C_below HR202_0.out HB.out)))
                          go_roundg k2
                          case measure => have := HJ1.out; have := HK2.out; omega
                          case rel => exact ⟨(y199), (x4_2 ++ (strOfNums (rd_L1 l0 x5_2))), (wrap64 (x5_2 + 1)), (by first | rfl | (simp; done) | (simp [*]; done)), (by first | rfl | (simp; done) | (simp [*]; done)), H', ⟨by have := HJ1.out; have := HK2.out; omega⟩, ⟨by (with_reducible repeat (first | apply Kd.R_alloc | apply Kd.R_drewN | apply Kd.R_drew)); exact Kd.R_mono HO201.out (fun _ hk => trivial)⟩, ⟨by repeat (first | (with_reducible first | exact HB.out | apply below_alloc | apply pw_below_drewN | apply below_drew1) | exact HB.out)⟩⟩
                        · rw [if_neg c24] at H
                          exact absurd H (by simp)
                      · rw [if_neg c23] at H
                        exact absurd H (by simp)
                    · rw [if_neg c22] at H
                      exact absurd H (by simp)
              · rw [if_neg c8] at H
                exact absurd H (by simp)
            · rw [if_neg c7] at H
              have c7b0 : decide (x5_2 < (l0.length : Int)) = false := decide_eq_false c7
              clear c7
              replace H := Option.bind_eq_some_iff.mp H
              obtain ⟨⟨t171, t172, t173⟩, A310, H⟩ := H
              replace H : (if (strOfNums t171).toList = x4_2.toList then (if t172 = (x3_2.length : Int) then (if t173 = 0 then ((valiselaw09_lives.f).bind fun t176 => (some t176)) else (some false)) else (some false)) else (some false)) = some r := H
              have A31 := Aside0.mk A310
              clear A310
              by_cases c32 : (strOfNums t171).toList = x4_2.toList
              · rw [if_pos c32] at H
                have c32b0 : ((strOfNums t171).toList == x4_2.toList) = true := beq_iff_eq.mpr c32
                have c32b1 : ((strOfNums t171).toList != x4_2.toList) = false := bne_eq_false_iff_eq.mpr c32
                clear c32
                by_cases c33 : t172 = (x3_2.length : Int)
                · rw [if_pos c33] at H
                  have c33b0 : (t172 == (x3_2.length : Int)) = true := beq_iff_eq.mpr c33
                  have c33b1 : (t172 != (x3_2.length : Int)) = false := bne_eq_false_iff_eq.mpr c33
                  clear c33
                  by_cases c34 : t173 = 0
                  · rw [if_pos c34] at H
                    have c34b0 : (t173 == 0) = true := beq_iff_eq.mpr c34
                    have c34b1 : (t173 != 0) = false := bne_eq_false_iff_eq.mpr c34
                    clear c34
                    replace H := Option.bind_eq_some_iff.mp H
                    obtain ⟨t176, A350, H⟩ := H
                    replace H : (some t176) = some r := H
                    have A35 := Aside0.mk A350
                    clear A350
                    obtain rfl := Option.some.inj H
                    obtain ⟨Ao36, co36, eo36⟩ := Kd.R_slice HO_3.out
                    subst eo36
                    go_wp2_with (first | ((with_reducible refine gate_callee (f := 8) rfl ?_); refine goesL_ (some 74) rfl rfl Tryd.func8 (by kernel_rfl) rfl #[.slice Ao36 x3_2.length co36, .int .i64 65536] rfl (by (try simp only [List.map_toArray, List.map_cons, List.map_nil]); first | done | rfl | (simp only [List.length_drop, List.length_take]; rfl)) ?_; (with_reducible refine (inflate_Decode.calls _ _ x3_2 65536 t171 t172 t173 _ ?side1 ?side2 A31.out (Pr.Handle.on HGH.out (by repeat (first | (with_reducible first | exact HB.out | apply below_alloc | apply pw_below_drewN | apply below_drew1) | exact HB.out)) (Pr.Handle.pos HGH.out))).mono ?_); (case side1 => repeat (first | exact (Kd.R_reads' HO_3.out).2.2 | (with_reducible refine Kd.C_alloc ?_ _) | (with_reducible refine Kd.C_drewN ?_ _) | (with_reducible refine Kd.C_drew ?_))); (case side2 => exact (Kd.R_reads' HO_3.out).2.1); rintro e w37 ⟨v174, rfl, ho0, hb⟩; refine ⟨_, rfl, ?_⟩; have n0_ := Aside0.mk (Kd.R_elder' (by (with_reducible repeat (first | apply Kd.R_alloc | apply Kd.R_drewN | apply Kd.R_drew)); exact HO_3.out) (Kd.R_base ho0) hb); have n1_ := Aside0.mk (Kd.R_lower (Kd.R_new' ho0 (Kd.R_lt (by (with_reducible repeat (first | apply Kd.R_alloc | apply Kd.R_drewN | apply Kd.R_drew)); exact HO_3.out))) (below_size (by repeat (first | (with_reducible first | exact HB.out | apply below_alloc | apply pw_below_drewN | apply below_drew1) | exact HB.out)))); have n2_ := Aside0.mk (below_step (by repeat (first | (with_reducible first | exact HB.out | apply below_alloc | apply pw_below_drewN | apply below_drew1) | exact HB.out)) hb); clear HO_3; clear HB; have HO_3 := n0_; have HO175 := n1_; have HB := n2_; clear n0_ n1_ n2_; (try clear hb); (try clear hb2); (try clear hk); (try clear hi); (try clear ho0); have hcv38 := own_string (P := Tryd.prog) Tryd.underlying22 Tryd.underlying5 Tryd.underlying9 (Kd.own_of_R HO175.out)) | (go_at_call 7; (with_reducible refine (valiselaw09_lives.calls  t176 _ (Pr.Handle.on HGH.out (by repeat (first | (with_reducible first | exact HB.out | apply below_alloc | apply pw_below_drewN | apply below_drew1) | exact HB.out)) (Pr.Handle.pos HGH.out)) A35.out).mono ?_); rintro e w39 ⟨rfl, hb⟩; have n0_ := Aside0.mk (Kd.R_below (by (with_reducible repeat (first | apply Kd.R_alloc | apply Kd.R_drewN | apply Kd.R_drew)); exact HO_3.out) hb); have n1_ := Aside0.mk (Kd.R_below (by (with_reducible repeat (first | apply Kd.R_alloc | apply Kd.R_drewN | apply Kd.R_drew)); exact HO175.out) hb); have n2_ := Aside0.mk (below_step (by repeat (first | (with_reducible first | exact HB.out | apply below_alloc | apply pw_below_drewN | apply below_drew1) | exact HB.out)) hb); clear HO_3; clear HO175; clear HB; have HO_3 := n0_; have HO175 := n1_; have HB := n2_; clear n0_ n1_ n2_; (try clear hb); (try clear hb2); (try clear hk); (try clear hi)))
                    go_ret
                    exact ⟨by first | rfl | (simp [errW_none, errW_some] <;> rfl) | (simp [*, errW_none, errW_some] <;> rfl), by repeat (first | (with_reducible first | exact HB.out | apply below_alloc | apply pw_below_drewN | apply below_drew1) | exact HB.out)⟩
                  · rw [if_neg c34] at H
                    have c34b0 : (t173 == 0) = false := beq_eq_false_iff_ne.mpr c34
                    have c34b1 : (t173 != 0) = true := bne_iff_ne.mpr c34
                    obtain rfl := Option.some.inj H
                    cases hrt
                · rw [if_neg c33] at H
                  have c33b0 : (t172 == (x3_2.length : Int)) = false := beq_eq_false_iff_ne.mpr c33
                  have c33b1 : (t172 != (x3_2.length : Int)) = true := bne_iff_ne.mpr c33
                  obtain rfl := Option.some.inj H
                  cases hrt
              · rw [if_neg c32] at H
                have c32b0 : ((strOfNums t171).toList == x4_2.toList) = false := beq_eq_false_iff_ne.mpr c32
                have c32b1 : ((strOfNums t171).toList != x4_2.toList) = true := bne_iff_ne.mpr c32
                obtain rfl := Option.some.inj H
                cases hrt

end Go.Proofs.YtgflkkjhckcipaaDoor.Pg

-- YtgflkkjhckcipaaDoorPureInflateStored
namespace Go.Proofs.YtgflkkjhckcipaaDoor.PureInflateStored
open Go.RowKit Go.Proofs.YtgflkkjhckcipaaDoor.Pg Go.Proofs.YtgflkkjhckcipaaDoorW.PrintWords Go.Proofs.YtgflkkjhckcipaaDoorW.PrintLast
set_option linter.unusedVariables false
set_option linter.unusedSimpArgs false
theorem dec_ok {l : List Int} (hb : Pr.Byt l) (hl : l.length ≤ 1000000) {most : Int} {n : Nat} {ys : List Int} (h : Pr.inflM l most = .ok (n, ys)) : inflate_Decode.f l most = some (ys, (n : Int), 0) := by
  unfold inflate_Decode.f
  rw [if_pos (Pr.bytB_iff.2 ⟨hb, hl⟩)]
  unfold Pr.decS
  rw [h]
theorem dec_err {l : List Int} (hb : Pr.Byt l) (hl : l.length ≤ 1000000) {most : Int} {er : Int} (h : Pr.inflM l most = .error er) : inflate_Decode.f l most = some ([], 0, er) := by
  unfold inflate_Decode.f
  rw [if_pos (Pr.bytB_iff.2 ⟨hb, hl⟩)]
  unfold Pr.decS
  rw [h]
theorem byt_of {l : List Int} (h : ∀ x ∈ l, (Lit.int .u8 x).wf = true) : Pr.Byt l := Pr.byt_wf h
theorem xor255 {x : Int} (h0 : 0 ≤ x) (h1 : x < 256) : Go.bits .xor .u8 255 x = 255 - x := by
  have h : ∀ n : Nat, n < 256 → Go.bits .xor .u8 255 (n : Int) = 255 - (n : Int) := by decide +kernel
  have := h x.toNat (by omega)
  rw [Int.toNat_of_nonneg h0] at this
  exact this
theorem str_app (a b : List Int) : strOfNums a ++ strOfNums b = strOfNums (a ++ b) := by
  apply ByteArray.ext
  rw [ByteArray.data_append]
  unfold strOfNums
  simp
theorem rd_row (l : List (List Int)) (i : Nat) : rd_L1 l (i : Int) = l.getD i [] := by
  unfold rd_L1
  rw [Int.toNat_natCast]
theorem byt_block {f : Int} (hf : f = 0 ∨ f = 1) {xs : List Int} (hb : Pr.Byt xs) : Pr.Byt (Pr.blockB f xs) := by
  intro x hx
  unfold Pr.blockB at hx
  rcases List.mem_append.1 hx with h | h
  · simp only [List.mem_cons, List.not_mem_nil, or_false] at h
    rcases h with rfl | rfl | rfl | rfl | rfl
    · rcases hf with rfl | rfl <;> omega
    all_goals omega
  · exact hb x h
theorem byt_stP {rows : List (List Int)} (h : ∀ i, Pr.Byt (rows.getD i [])) (k : Nat) : ∀ i, Pr.Byt (Pr.stP rows k i)
  | 0 => fun x hx => by cases hx
  | i + 1 => by
    intro x hx
    rw [Pr.stP] at hx
    rcases List.mem_append.1 hx with h2 | h2
    · exact byt_stP h k i x h2
    · exact byt_block (by split <;> simp) (h i) x h2
theorem stP_len {rows : List (List Int)} (h : ∀ i, (rows.getD i []).length ≤ 3000) (k : Nat) : ∀ i, (Pr.stP rows k i).length ≤ 3005 * i
  | 0 => by simp [Pr.stP]
  | i + 1 => by
    have := stP_len h k i
    have := h i
    have : (Pr.blockB (if i + 1 = k then 1 else 0) (rows.getD i [])).length = 5 + (rows.getD i []).length := by simp [Pr.blockB]; omega
    rw [Pr.stP, List.length_append]
    omega
theorem stored_loop (rows : List (List Int)) (hb : ∀ i, Pr.Byt (rows.getD i [])) (hl : rows.length ≤ 12) (h1 : 1 ≤ rows.length) : ∀ j i : Nat, i + j = rows.length → (∀ i' < i, (rows.getD i' []).length ≤ 3000) → ∃ r, valiselaw09_InflateStored.l0 (j + 1) rows (Pr.stP rows rows.length i) (strOfNums (Pr.allP rows i)) (i : Int) = some r ∧ r = true
  | 0, i, hi, hs => by
    have hs2 : ∀ i', (rows.getD i' []).length ≤ 3000 := fun i' => by
      by_cases h : i' < i
      · exact hs i' h
      · rw [List.getD_eq_getElem?_getD, List.getElem?_eq_none (by omega)]
        simp
    have hT := valiselaw09_lives.true_
    have hd := dec_ok (byt_stP hb rows.length rows.length) (by have := stP_len hs2 rows.length rows.length; omega) (Pr.infl_stored rows hs2 rows.length hl h1)
    have e : i = rows.length := by omega
    subst e
    refine ⟨true, ?_, rfl⟩
    rw [valiselaw09_InflateStored.l0, if_neg (by omega), hd]
    simp [hT]
  | j + 1, i, hi, hs => by
    have hT := valiselaw09_lives.true_
    rw [valiselaw09_InflateStored.l0, if_pos (by omega), if_pos (by omega), rd_row]
    by_cases hr : ((rows.getD i []).length : Int) > 3000
    · rw [if_pos hr, hT]
      exact ⟨true, rfl, rfl⟩
    · rw [if_neg hr]
      have hs' : ∀ i' < i + 1, (rows.getD i' []).length ≤ 3000 := fun i' h => by
        by_cases h2 : i' < i
        · exact hs i' h2
        · obtain rfl : i' = i := by omega
          omega
      have hw : wrap64 ((rows.length : Int) - 1) = (rows.length : Int) - 1 := Pr.wrap64_id (by omega) (by omega)
      have hw2 : wrap64 ((i : Int) + 1) = ((i + 1 : Nat) : Int) := by rw [Pr.wrap64_id (by omega) (by omega)]; omega
      have x1 := xor255 (x := ((rows.getD i []).length : Int) % 256) (by omega) (by omega)
      have x2 := xor255 (x := ((rows.getD i []).length : Int) / 256 % 256) (by omega) (by omega)
      rw [hw, x1, x2]
      have hlen : (Pr.stP rows rows.length i).length ≤ 3005 * i := by
        have g : ∀ m, m ≤ i → (Pr.stP rows rows.length m).length ≤ 3005 * m := by
          intro m
          induction m with
          | zero => intro _; simp [Pr.stP]
          | succ m ih =>
            intro hm
            have h3 := ih (by omega)
            have h4 := hs m (by omega)
            have h5 : (Pr.blockB (if m + 1 = rows.length then 1 else 0) (rows.getD m [])).length = 5 + (rows.getD m []).length := by simp [Pr.blockB]; omega
            rw [Pr.stP, List.length_append]
            omega
        exact g i (Nat.le_refl _)
      have hall : (Pr.allP rows i).length ≤ 3000 * i := by
        have g : ∀ m, m ≤ i → (Pr.allP rows m).length ≤ 3000 * m := by
          intro m
          induction m with
          | zero => intro _; simp [Pr.allP]
          | succ m ih =>
            intro hm
            have h3 := ih (by omega)
            have h4 := hs m (by omega)
            rw [Pr.allP, List.length_append]
            omega
        exact g i (Nat.le_refl _)
      have ih := stored_loop rows hb hl h1 j (i + 1) (by omega) hs'
      have hs3 : strOfNums (Pr.allP rows i) ++ strOfNums (rows.getD i []) = strOfNums (Pr.allP rows (i + 1)) := by rw [str_app]; rfl
      by_cases hlast : (i : Int) = (rows.length : Int) - 1
      · rw [if_pos hlast]
        simp only [Option.bind_some]
        rw [if_pos (by simp only [List.length_cons, List.length_nil]; omega), if_pos (by simp only [List.length_append, List.length_cons, List.length_nil]; omega), if_pos (by rw [strOfNums_size, strOfNums_size]; omega), hw2, hs3]
        have e : Pr.stP rows rows.length i ++ [1, ((rows.getD i []).length : Int) % 256, ((rows.getD i []).length : Int) / 256 % 256, 255 - ((rows.getD i []).length : Int) % 256, 255 - ((rows.getD i []).length : Int) / 256 % 256] ++ rows.getD i [] = Pr.stP rows rows.length (i + 1) := by
          rw [Pr.stP, if_pos (by omega), Pr.blockB, List.append_assoc]
        rw [e]
        exact ih
      · rw [if_neg hlast]
        simp only [Option.bind_some]
        rw [if_pos (by simp only [List.length_cons, List.length_nil]; omega), if_pos (by simp only [List.length_append, List.length_cons, List.length_nil]; omega), if_pos (by rw [strOfNums_size, strOfNums_size]; omega), hw2, hs3]
        have e : Pr.stP rows rows.length i ++ [0, ((rows.getD i []).length : Int) % 256, ((rows.getD i []).length : Int) / 256 % 256, 255 - ((rows.getD i []).length : Int) % 256, 255 - ((rows.getD i []).length : Int) / 256 % 256] ++ rows.getD i [] = Pr.stP rows rows.length (i + 1) := by
          rw [Pr.stP, if_neg (by omega), Pr.blockB, List.append_assoc]
        rw [e]
        exact ih
theorem InflateStored (rows : List (List Int)) (hb : ∀ r ∈ rows, ∀ x ∈ r, (Lit.int .u8 x).wf = true) : ∃ k, valiselaw09_InflateStored.f k rows = some true := by
  have hT := valiselaw09_lives.true_
  have hb2 : ∀ i, Pr.Byt (rows.getD i []) := fun i => by
    by_cases h : i < rows.length
    · rw [List.getD_eq_getElem?_getD, List.getElem?_eq_getElem h]
      exact byt_of (hb _ (List.getElem_mem h))
    · rw [List.getD_eq_getElem?_getD, List.getElem?_eq_none (by omega)]
      intro x hx
      cases hx
  refine ⟨rows.length + 2, ?_⟩
  unfold valiselaw09_InflateStored.f
  by_cases c1 : (rows.length : Int) = 0
  · rw [if_pos c1]
    simp [valiselaw09_InflateStored.j0, hT]
  · rw [if_neg c1]
    by_cases c2 : (rows.length : Int) > 12
    · rw [decide_eq_true c2]
      simp [valiselaw09_InflateStored.j0, hT]
    · rw [decide_eq_false c2, valiselaw09_InflateStored.j0, if_neg (by decide)]
      obtain ⟨r, h, rfl⟩ := stored_loop rows hb2 (by omega) (by omega) rows.length 0 (by omega) (fun _ h => by omega)
      exact h
end Go.Proofs.YtgflkkjhckcipaaDoor.PureInflateStored

