-- Texts by hand and by programs of this session, joined (wip/tool/merge.py).
import Derived.Test.YtgflkkjhckcipaaDoorMIA18
-- YtgflkkjhckcipaaDoorPg6
namespace Go.Proofs.YtgflkkjhckcipaaDoor.Pg
open Go.RowKit Go.Proofs.YtgflkkjhckcipaaDoorW.PrintWords Go.Proofs.YtgflkkjhckcipaaDoorW.PrintLast Go.Proofs.YtgflkkjhckcipaaDoorW.PrintMore
attribute [local go_sem] max2_int min2_int max_two min_two max_three min_three max_four min_four   -- for this text's walks alone
set_option linter.unusedVariables false
set_option linter.unusedSimpArgs false

mutual
def valiselaw09_InflateMost.j0 : Nat → List Int → Int → Bool → Option (Bool)
  | 0, _, _, _ => none
  | k + 1, x0, x1, x27 => if x27 = true then ((valiselaw09_lives.f).bind fun t146 => (some t146)) else ((inflate_Decode.f x0 x1).bind fun bt147 => (if bt147.2.2 = 0 then ((inflate_Decode.f x0 65536).bind fun bt153 => ((inflate_Decode.f x0 (bt147.1.length : Int)).bind fun bt158 => (if (strOfNums bt147.1).toList = (strOfNums bt153.1).toList then (if bt153.2.1 = bt147.2.1 then (if bt153.2.2 = 0 then (if (strOfNums bt147.1).toList = (strOfNums bt158.1).toList then (if bt158.2.1 = bt147.2.1 then (if bt158.2.2 = 0 then (valiselaw09_InflateMost.j1 k x0 bt147.1 (decide ((bt147.1.length : Int) > x1))) else (valiselaw09_InflateMost.j1 k x0 bt147.1 true)) else (valiselaw09_InflateMost.j1 k x0 bt147.1 true)) else (valiselaw09_InflateMost.j1 k x0 bt147.1 true)) else (valiselaw09_InflateMost.j1 k x0 bt147.1 true)) else (valiselaw09_InflateMost.j1 k x0 bt147.1 true)) else (valiselaw09_InflateMost.j1 k x0 bt147.1 true)))) else (if (bt147.1.length : Int) = 0 then (if bt147.2.1 = 0 then ((valiselaw09_lives.f).bind fun t152 => (some t152)) else (some false)) else (some false))))
def valiselaw09_InflateMost.j1 : Nat → List Int → List Int → Bool → Option (Bool)
  | 0, _, _, _ => none
  | k + 1, x0, x5, x97 => if x97 = true then (some false) else (if (x5.length : Int) = 0 then ((valiselaw09_lives.f).bind fun t163 => (some t163)) else ((inflate_Decode.f x0 (wrap64 ((x5.length : Int) - 1))).bind fun bt164 => (if bt164.2.2 = 3 then ((valiselaw09_lives.f).bind fun t169 => (some t169)) else (some false))))
end
def valiselaw09_InflateMost.f (k : Nat) (l0 : List Int) (a1 : Int) : Option (Bool) := if (l0.length : Int) > 3000 then (valiselaw09_InflateMost.j0 k l0 a1 true) else (if a1 < 0 then (valiselaw09_InflateMost.j0 k l0 a1 true) else (valiselaw09_InflateMost.j0 k l0 a1 (decide (a1 > 65536))))
theorem valiselaw09_InflateMost.mono_l : ∀ k, (∀ y0 y1 y2, LeO (valiselaw09_InflateMost.j0 k y0 y1 y2) (valiselaw09_InflateMost.j0 (k + 1) y0 y1 y2)) ∧ (∀ y0 y1 y2, LeO (valiselaw09_InflateMost.j1 k y0 y1 y2) (valiselaw09_InflateMost.j1 (k + 1) y0 y1 y2))
  | 0 => ⟨fun _ _ _ r h => by simp [valiselaw09_InflateMost.j0] at h, fun _ _ _ r h => by simp [valiselaw09_InflateMost.j1] at h⟩
  | k + 1 => by
    obtain ⟨ih0, ih1⟩ := valiselaw09_InflateMost.mono_l k
    refine ⟨?_, ?_⟩
    · intro y0 y1 y2
      unfold valiselaw09_InflateMost.j0
      repeat' first
      | (with_reducible exact ih0 _ _ _)
      | (with_reducible exact ih1 _ _ _)
      | (with_reducible exact LeO.refl _)
      | (with_reducible exact LeO.none _)
      | (with_reducible refine LeO.ite ?_ ?_)
      | (with_reducible refine LeO.bind ?_ (fun _ => ?_))
      | exact ih0 _ _ _
      | exact ih1 _ _ _
      | exact LeO.none _
      | refine LeO.ite ?_ ?_
      | refine LeO.bind ?_ (fun _ => ?_)
    · intro y0 y1 y2
      unfold valiselaw09_InflateMost.j1
      repeat' first
      | (with_reducible exact ih0 _ _ _)
      | (with_reducible exact ih1 _ _ _)
      | (with_reducible exact LeO.refl _)
      | (with_reducible exact LeO.none _)
      | (with_reducible refine LeO.ite ?_ ?_)
      | (with_reducible refine LeO.bind ?_ (fun _ => ?_))
      | exact ih0 _ _ _
      | exact ih1 _ _ _
      | exact LeO.none _
      | refine LeO.ite ?_ ?_
      | refine LeO.bind ?_ (fun _ => ?_)
theorem valiselaw09_InflateMost.mono : ∀ a0 a1 k, LeO (valiselaw09_InflateMost.f k a0 a1) (valiselaw09_InflateMost.f (k + 1) a0 a1) := by
  intro a0 a1 k
  obtain ⟨ih0, ih1⟩ := valiselaw09_InflateMost.mono_l k
  unfold valiselaw09_InflateMost.f
  repeat' first
      | (with_reducible exact ih0 _ _ _)
      | (with_reducible exact ih1 _ _ _)
      | (with_reducible exact LeO.refl _)
      | (with_reducible exact LeO.none _)
      | (with_reducible refine LeO.ite ?_ ?_)
      | (with_reducible refine LeO.bind ?_ (fun _ => ?_))
      | exact ih0 _ _ _
      | exact ih1 _ _ _
      | exact LeO.none _
      | refine LeO.ite ?_ ?_
      | refine LeO.bind ?_ (fun _ => ?_)
set_option maxHeartbeats 8000000 in
set_option maxRecDepth 100000 in
theorem valiselaw09_InflateMost.calls (k : Nat) (A0 : Option Addr) (c0 : Nat) (l0 : List Int) (a1 : Int) (r : Bool) (w : World) (hr0 : Kd.C (Kd.int .u8) w A0 l0.length l0) (hc0 : l0.length ≤ c0) (HGL : Pr.Handle w) (h : valiselaw09_InflateMost.f k l0 a1 = some r) (hrt : r = true) :
    Calls Tryd.prog 4 #[.slice A0 l0.length c0, .int .i64 a1] w fun e w' => e = .returned (.bool r) ∧ Below w.heap.size w w' := by
  have HR0 := Aside0.mk hr0
  have HC0 := Aside0.mk hc0
  clear hr0 hc0
  have HB := Aside0.mk (Below.refl w.heap.size w)
  have HGH := Aside0.mk HGL
  clear HGL
  have H : (if (l0.length : Int) > 3000 then (valiselaw09_InflateMost.j0 k l0 a1 true) else (if a1 < 0 then (valiselaw09_InflateMost.j0 k l0 a1 true) else (valiselaw09_InflateMost.j0 k l0 a1 (decide (a1 > 65536))))) = some r := h
  clear h
  have HC3 := Aside0.mk H
  clear H
  go_enter Tryd.func4, Tryd.ntmps4
  go_upto_region 1 with (fail)
  go_cut [27] (fun v27 wc => ∃ (kq : Nat) (x27_2 : Bool), v27 = .bool x27_2 ∧ Aside0 (valiselaw09_InflateMost.j0 kq l0 a1 x27_2 = some r) ∧ Aside0 (kq ≤ k) ∧ Aside0 (Below w.heap.size w wc))
  case first =>
    have H := HC3.out
    clear HC3
    by_cases c4 : (l0.length : Int) > 3000
    · rw [if_pos c4] at H
      have c4b0 : decide (3000 < (l0.length : Int)) = true := decide_eq_true c4
      have c4b1 : decide (3000 < l0.length) = true := decide_eq_true (by omega)
      clear c4
      (first | rw [c4b0] | (simp only [i64_w, i32_w, u8_w]; rw [c4b0]) | skip)
      have H' := Aside0.mk H
      clear H
      go_wp2
      go_meet
      case rel => exact ⟨_, (true), (by first | rfl | (simp; done) | (simp [*]; done)), H', ⟨by first | omega | exact Nat.le_refl _⟩, ⟨by repeat (first | (with_reducible first | exact HB.out | apply below_alloc | apply pw_below_drewN | apply below_drew1) | exact HB.out)⟩⟩
    · rw [if_neg c4] at H
      have c4b0 : decide (3000 < (l0.length : Int)) = false := decide_eq_false c4
      have c4b1 : decide (3000 < l0.length) = false := decide_eq_false (by omega)
      clear c4
      (first | rw [c4b0] | (simp only [i64_w, i32_w, u8_w]; rw [c4b0]) | skip)
      by_cases c5 : a1 < 0
      · rw [if_pos c5] at H
        have c5b0 : decide (a1 < 0) = true := decide_eq_true c5
        clear c5
        have H' := Aside0.mk H
        clear H
        go_wp2
        go_meet
        case rel => exact ⟨_, (true), (by first | rfl | (simp; done) | (simp [*]; done)), H', ⟨by first | omega | exact Nat.le_refl _⟩, ⟨by repeat (first | (with_reducible first | exact HB.out | apply below_alloc | apply pw_below_drewN | apply below_drew1) | exact HB.out)⟩⟩
      · rw [if_neg c5] at H
        have c5b0 : decide (a1 < 0) = false := decide_eq_false c5
        clear c5
        have H' := Aside0.mk H
        clear H
        go_wp2
        go_meet
        case rel => exact ⟨_, (decide (a1 > 65536)), (by first | rfl | (simp; done) | (simp [*]; done)), H', ⟨by first | omega | exact Nat.le_refl _⟩, ⟨by repeat (first | (with_reducible first | exact HB.out | apply below_alloc | apply pw_below_drewN | apply below_drew1) | exact HB.out)⟩⟩
  case rest =>
    clear HC3
    try clear p2
    try clear c4
    try clear c4b0
    try clear c4b1
    try clear c5
    try clear c5b0
    obtain ⟨kq, x27_2, rfl, HA, HJ2, HB⟩ := hcut
    cases kq with
    | zero => exact absurd HA.out (by simp [valiselaw09_InflateMost.j0])
    | succ kj2 =>
      have H := HA.out
      clear HA
      simp only [valiselaw09_InflateMost.j0] at H
      by_cases c6 : x27_2 = true
      · subst c6
        have H1 : ((valiselaw09_lives.f).bind fun t146 => (some t146)) = some r := by rw [if_pos rfl] at H; exact H
        clear H
        have H := H1
        clear H1
        replace H := Option.bind_eq_some_iff.mp H
        obtain ⟨t146, A70, H⟩ := H
        replace H : (some t146) = some r := H
        have A7 := Aside0.mk A70
        clear A70
        obtain rfl := Option.some.inj H
        go_wp2_with (first | ((with_reducible refine gate_callee (f := 7) rfl ?_); refine goesL_ (some 28) rfl rfl Tryd.func7 (by kernel_rfl) rfl #[] rfl (by (try simp only [List.map_toArray, List.map_cons, List.map_nil]); first | done | rfl | (simp only [List.length_drop, List.length_take]; rfl)) ?_; (with_reducible refine (valiselaw09_lives.calls  t146 _ (Pr.Handle.on HGH.out (by repeat (first | (with_reducible first | exact HB.out | apply below_alloc | apply pw_below_drewN | apply below_drew1) | exact HB.out)) (Pr.Handle.pos HGH.out)) A7.out).mono ?_); rintro e w8 ⟨rfl, hb⟩; refine ⟨_, rfl, ?_⟩; have n0_ := Aside0.mk (below_step (by repeat (first | (with_reducible first | exact HB.out | apply below_alloc | apply pw_below_drewN | apply below_drew1) | exact HB.out)) hb); clear HB; have HB := n0_; clear n0_; (try clear hb); (try clear hb2); (try clear hk); (try clear hi)))
        go_ret
        exact ⟨by first | rfl | (simp [errW_none, errW_some] <;> rfl) | (simp [*, errW_none, errW_some] <;> rfl), by repeat (first | (with_reducible first | exact HB.out | apply below_alloc | apply pw_below_drewN | apply below_drew1) | exact HB.out)⟩
      · replace c6 := Bool.eq_false_iff.mpr c6
        subst c6
        have H1 : ((inflate_Decode.f l0 a1).bind fun bt147 => (if bt147.2.2 = 0 then ((inflate_Decode.f l0 65536).bind fun bt153 => ((inflate_Decode.f l0 (bt147.1.length : Int)).bind fun bt158 => (if (strOfNums bt147.1).toList = (strOfNums bt153.1).toList then (if bt153.2.1 = bt147.2.1 then (if bt153.2.2 = 0 then (if (strOfNums bt147.1).toList = (strOfNums bt158.1).toList then (if bt158.2.1 = bt147.2.1 then (if bt158.2.2 = 0 then (valiselaw09_InflateMost.j1 kj2 l0 bt147.1 (decide ((bt147.1.length : Int) > a1))) else (valiselaw09_InflateMost.j1 kj2 l0 bt147.1 true)) else (valiselaw09_InflateMost.j1 kj2 l0 bt147.1 true)) else (valiselaw09_InflateMost.j1 kj2 l0 bt147.1 true)) else (valiselaw09_InflateMost.j1 kj2 l0 bt147.1 true)) else (valiselaw09_InflateMost.j1 kj2 l0 bt147.1 true)) else (valiselaw09_InflateMost.j1 kj2 l0 bt147.1 true)))) else (if (bt147.1.length : Int) = 0 then (if bt147.2.1 = 0 then ((valiselaw09_lives.f).bind fun t152 => (some t152)) else (some false)) else (some false)))) = some r := by rw [if_neg (show ¬ (false = true) by decide)] at H; exact H
        clear H
        have H := H1
        clear H1
        replace H := Option.bind_eq_some_iff.mp H
        obtain ⟨⟨t147, t148, t149⟩, A90, H⟩ := H
        replace H : (if t149 = 0 then ((inflate_Decode.f l0 65536).bind fun bt153 => ((inflate_Decode.f l0 (t147.length : Int)).bind fun bt158 => (if (strOfNums t147).toList = (strOfNums bt153.1).toList then (if bt153.2.1 = t148 then (if bt153.2.2 = 0 then (if (strOfNums t147).toList = (strOfNums bt158.1).toList then (if bt158.2.1 = t148 then (if bt158.2.2 = 0 then (valiselaw09_InflateMost.j1 kj2 l0 t147 (decide ((t147.length : Int) > a1))) else (valiselaw09_InflateMost.j1 kj2 l0 t147 true)) else (valiselaw09_InflateMost.j1 kj2 l0 t147 true)) else (valiselaw09_InflateMost.j1 kj2 l0 t147 true)) else (valiselaw09_InflateMost.j1 kj2 l0 t147 true)) else (valiselaw09_InflateMost.j1 kj2 l0 t147 true)) else (valiselaw09_InflateMost.j1 kj2 l0 t147 true)))) else (if (t147.length : Int) = 0 then (if t148 = 0 then ((valiselaw09_lives.f).bind fun t152 => (some t152)) else (some false)) else (some false))) = some r := H
        have A9 := Aside0.mk A90
        clear A90
        by_cases c10 : t149 = 0
        · rw [if_pos c10] at H
          have c10b0 : (t149 == 0) = true := beq_iff_eq.mpr c10
          have c10b1 : (t149 != 0) = false := bne_eq_false_iff_eq.mpr c10
          clear c10
          replace H := Option.bind_eq_some_iff.mp H
          obtain ⟨⟨t153, t154, t155⟩, A110, H⟩ := H
          replace H : ((inflate_Decode.f l0 (t147.length : Int)).bind fun bt158 => (if (strOfNums t147).toList = (strOfNums t153).toList then (if t154 = t148 then (if t155 = 0 then (if (strOfNums t147).toList = (strOfNums bt158.1).toList then (if bt158.2.1 = t148 then (if bt158.2.2 = 0 then (valiselaw09_InflateMost.j1 kj2 l0 t147 (decide ((t147.length : Int) > a1))) else (valiselaw09_InflateMost.j1 kj2 l0 t147 true)) else (valiselaw09_InflateMost.j1 kj2 l0 t147 true)) else (valiselaw09_InflateMost.j1 kj2 l0 t147 true)) else (valiselaw09_InflateMost.j1 kj2 l0 t147 true)) else (valiselaw09_InflateMost.j1 kj2 l0 t147 true)) else (valiselaw09_InflateMost.j1 kj2 l0 t147 true))) = some r := H
          have A11 := Aside0.mk A110
          clear A110
          replace H := Option.bind_eq_some_iff.mp H
          obtain ⟨⟨t158, t159, t160⟩, A120, H⟩ := H
          replace H : (if (strOfNums t147).toList = (strOfNums t153).toList then (if t154 = t148 then (if t155 = 0 then (if (strOfNums t147).toList = (strOfNums t158).toList then (if t159 = t148 then (if t160 = 0 then (valiselaw09_InflateMost.j1 kj2 l0 t147 (decide ((t147.length : Int) > a1))) else (valiselaw09_InflateMost.j1 kj2 l0 t147 true)) else (valiselaw09_InflateMost.j1 kj2 l0 t147 true)) else (valiselaw09_InflateMost.j1 kj2 l0 t147 true)) else (valiselaw09_InflateMost.j1 kj2 l0 t147 true)) else (valiselaw09_InflateMost.j1 kj2 l0 t147 true)) else (valiselaw09_InflateMost.j1 kj2 l0 t147 true)) = some r := H
          have A12 := Aside0.mk A120
          clear A120
          have HC13 := Aside0.mk H
          clear H
          go_upto_region 8 with (first | ((with_reducible refine gate_callee (f := 8) rfl ?_); refine goesL_ (some 32) rfl rfl Tryd.func8 (by kernel_rfl) rfl #[.slice A0 l0.length c0, .int .i64 a1] rfl (by (try simp only [List.map_toArray, List.map_cons, List.map_nil]); first | done | rfl | (simp only [List.length_drop, List.length_take]; rfl)) ?_; (with_reducible refine (inflate_Decode.calls _ _ l0 a1 t147 t148 t149 _ ?side1 ?side2 A9.out (Pr.Handle.on HGH.out (by repeat (first | (with_reducible first | exact HB.out | apply below_alloc | apply pw_below_drewN | apply below_drew1) | exact HB.out)) (Pr.Handle.pos HGH.out))).mono ?_); (case side1 => repeat (first | exact (Kd.C_below HR0.out HB.out) | (with_reducible refine Kd.C_alloc ?_ _) | (with_reducible refine Kd.C_drewN ?_ _) | (with_reducible refine Kd.C_drew ?_))); (case side2 => exact HC0.out); rintro e w14 ⟨v150, rfl, ho0, hb⟩; refine ⟨_, rfl, ?_⟩; have n0_ := Aside0.mk (Kd.R_lower ho0 (below_size (by repeat (first | (with_reducible first | exact HB.out | apply below_alloc | apply pw_below_drewN | apply below_drew1) | exact HB.out)))); have n1_ := Aside0.mk (below_step (by repeat (first | (with_reducible first | exact HB.out | apply below_alloc | apply pw_below_drewN | apply below_drew1) | exact HB.out)) hb); clear HB; have HO151 := n0_; have HB := n1_; clear n0_ n1_; (try clear hb); (try clear hb2); (try clear hk); (try clear hi); (try clear ho0)) | ((with_reducible refine gate_callee (f := 8) rfl ?_); refine goesL_ (some 50) rfl rfl Tryd.func8 (by kernel_rfl) rfl #[.slice A0 l0.length c0, .int .i64 65536] rfl (by (try simp only [List.map_toArray, List.map_cons, List.map_nil]); first | done | rfl | (simp only [List.length_drop, List.length_take]; rfl)) ?_; (with_reducible refine (inflate_Decode.calls _ _ l0 65536 t153 t154 t155 _ ?side1 ?side2 A11.out (Pr.Handle.on HGH.out (by repeat (first | (with_reducible first | exact HB.out | apply below_alloc | apply pw_below_drewN | apply below_drew1) | exact HB.out)) (Pr.Handle.pos HGH.out))).mono ?_); (case side1 => repeat (first | exact (Kd.C_below HR0.out HB.out) | (with_reducible refine Kd.C_alloc ?_ _) | (with_reducible refine Kd.C_drewN ?_ _) | (with_reducible refine Kd.C_drew ?_))); (case side2 => exact HC0.out); rintro e w15 ⟨v156, rfl, ho0, hb⟩; refine ⟨_, rfl, ?_⟩; have n0_ := Aside0.mk (Kd.R_elder' (by (with_reducible repeat (first | apply Kd.R_alloc | apply Kd.R_drewN | apply Kd.R_drew)); exact HO151.out) (Kd.R_base ho0) hb); have n1_ := Aside0.mk (Kd.R_lower (Kd.R_new' ho0 (Kd.R_lt (by (with_reducible repeat (first | apply Kd.R_alloc | apply Kd.R_drewN | apply Kd.R_drew)); exact HO151.out))) (below_size (by repeat (first | (with_reducible first | exact HB.out | apply below_alloc | apply pw_below_drewN | apply below_drew1) | exact HB.out)))); have n2_ := Aside0.mk (below_step (by repeat (first | (with_reducible first | exact HB.out | apply below_alloc | apply pw_below_drewN | apply below_drew1) | exact HB.out)) hb); clear HO151; clear HB; have HO151 := n0_; have HO157 := n1_; have HB := n2_; clear n0_ n1_ n2_; (try clear hb); (try clear hb2); (try clear hk); (try clear hi); (try clear ho0); obtain ⟨Ao16, co16, eo16⟩ := Kd.R_slice HO151.out; subst eo16) | ((with_reducible refine gate_callee (f := 8) rfl ?_); refine goesL_ (some 58) rfl rfl Tryd.func8 (by kernel_rfl) rfl #[.slice A0 l0.length c0, .int .i64 (t147.length : Int)] rfl (by (try simp only [List.map_toArray, List.map_cons, List.map_nil]); first | done | rfl | (simp only [List.length_drop, List.length_take]; rfl)) ?_; (with_reducible refine (inflate_Decode.calls _ _ l0 (t147.length : Int) t158 t159 t160 _ ?side1 ?side2 A12.out (Pr.Handle.on HGH.out (by repeat (first | (with_reducible first | exact HB.out | apply below_alloc | apply pw_below_drewN | apply below_drew1) | exact HB.out)) (Pr.Handle.pos HGH.out))).mono ?_); (case side1 => repeat (first | exact (Kd.C_below HR0.out HB.out) | (with_reducible refine Kd.C_alloc ?_ _) | (with_reducible refine Kd.C_drewN ?_ _) | (with_reducible refine Kd.C_drew ?_))); (case side2 => exact HC0.out); rintro e w17 ⟨v161, rfl, ho0, hb⟩; refine ⟨_, rfl, ?_⟩; have n0_ := Aside0.mk (Kd.R_elder' (by (with_reducible repeat (first | apply Kd.R_alloc | apply Kd.R_drewN | apply Kd.R_drew)); exact HO151.out) (Kd.R_base ho0) hb); have n1_ := Aside0.mk (Kd.R_elder' (by (with_reducible repeat (first | apply Kd.R_alloc | apply Kd.R_drewN | apply Kd.R_drew)); exact HO157.out) (Kd.R_base ho0) hb); have n2_ := Aside0.mk (Kd.R_lower (Kd.R_new' (Kd.R_new' ho0 (Kd.R_lt (by (with_reducible repeat (first | apply Kd.R_alloc | apply Kd.R_drewN | apply Kd.R_drew)); exact HO151.out))) (Kd.R_lt (by (with_reducible repeat (first | apply Kd.R_alloc | apply Kd.R_drewN | apply Kd.R_drew)); exact HO157.out))) (below_size (by repeat (first | (with_reducible first | exact HB.out | apply below_alloc | apply pw_below_drewN | apply below_drew1) | exact HB.out)))); have n3_ := Aside0.mk (below_step (by repeat (first | (with_reducible first | exact HB.out | apply below_alloc | apply pw_below_drewN | apply below_drew1) | exact HB.out)) hb); clear HO151; clear HO157; clear HB; have HO151 := n0_; have HO157 := n1_; have HO162 := n2_; have HB := n3_; clear n0_ n1_ n2_ n3_; (try clear hb); (try clear hb2); (try clear hk); (try clear hi); (try clear ho0)))
          (try simp only [Act.put, List.setIfInBounds_toArray, List.set_cons_zero, List.set_cons_succ])
          go_cut [97] (fun v97 wc => ∃ (kq : Nat) (x97_12 : Bool), v97 = .bool x97_12 ∧ Aside0 (valiselaw09_InflateMost.j1 kq l0 t147 x97_12 = some r) ∧ Aside0 (kq ≤ kj2) ∧ Aside0 (Kd.R (Kd.int .u8) 5 wc w.heap.size (fun _ => True) (.slice Ao16 t147.length co16) t147) ∧ Aside0 (Below w.heap.size w wc))
          case first =>
            have H := HC13.out
            clear HC13
            by_cases c18 : (strOfNums t147).toList = (strOfNums t153).toList
            · rw [if_pos c18] at H
              have c18b0 : ((strOfNums t147).toList == (strOfNums t153).toList) = true := beq_iff_eq.mpr c18
              have c18b1 : ((strOfNums t147).toList != (strOfNums t153).toList) = false := bne_eq_false_iff_eq.mpr c18
              clear c18
              (first | rw [c18b0] | (simp only [i64_w, i32_w, u8_w]; rw [c18b0]) | skip)
              by_cases c19 : t154 = t148
              · rw [if_pos c19] at H
                have c19b0 : (t154 == t148) = true := beq_iff_eq.mpr c19
                have c19b1 : (t154 != t148) = false := bne_eq_false_iff_eq.mpr c19
                clear c19
                by_cases c20 : t155 = 0
                · rw [if_pos c20] at H
                  have c20b0 : (t155 == 0) = true := beq_iff_eq.mpr c20
                  have c20b1 : (t155 != 0) = false := bne_eq_false_iff_eq.mpr c20
                  clear c20
                  by_cases c21 : (strOfNums t147).toList = (strOfNums t158).toList
                  · rw [if_pos c21] at H
                    have c21b0 : ((strOfNums t147).toList == (strOfNums t158).toList) = true := beq_iff_eq.mpr c21
                    have c21b1 : ((strOfNums t147).toList != (strOfNums t158).toList) = false := bne_eq_false_iff_eq.mpr c21
                    clear c21
                    by_cases c22 : t159 = t148
                    · rw [if_pos c22] at H
                      have c22b0 : (t159 == t148) = true := beq_iff_eq.mpr c22
                      have c22b1 : (t159 != t148) = false := bne_eq_false_iff_eq.mpr c22
                      clear c22
                      by_cases c23 : t160 = 0
                      · rw [if_pos c23] at H
                        have c23b0 : (t160 == 0) = true := beq_iff_eq.mpr c23
                        have c23b1 : (t160 != 0) = false := bne_eq_false_iff_eq.mpr c23
                        clear c23
                        have H' := Aside0.mk H
                        clear H
                        have hcv24 := own_string (P := Tryd.prog) Tryd.underlying22 Tryd.underlying5 Tryd.underlying9 (Kd.own_of_R HO151.out)
                        have hcv25 := own_string (P := Tryd.prog) Tryd.underlying22 Tryd.underlying5 Tryd.underlying9 (Kd.own_of_R HO157.out)
                        have hcv26 := own_string (P := Tryd.prog) Tryd.underlying22 Tryd.underlying5 Tryd.underlying9 (Kd.own_of_R HO151.out)
                        have hcv27 := own_string (P := Tryd.prog) Tryd.underlying22 Tryd.underlying5 Tryd.underlying9 (Kd.own_of_R HO162.out)
                        go_wp2
                        go_meet
                        case rel => exact ⟨_, (decide ((t147.length : Int) > a1)), (by first | rfl | (simp; done) | (simp [*]; done)), H', ⟨by have := HJ2.out; first | omega | exact Nat.le_refl _⟩, ⟨by (with_reducible repeat (first | apply Kd.R_alloc | apply Kd.R_drewN | apply Kd.R_drew)); exact Kd.R_mono HO151.out (fun _ hk => trivial)⟩, ⟨by repeat (first | (with_reducible first | exact HB.out | apply below_alloc | apply pw_below_drewN | apply below_drew1) | exact HB.out)⟩⟩
                      · rw [if_neg c23] at H
                        have c23b0 : (t160 == 0) = false := beq_eq_false_iff_ne.mpr c23
                        have c23b1 : (t160 != 0) = true := bne_iff_ne.mpr c23
                        have H' := Aside0.mk H
                        clear H
                        have hcv28 := own_string (P := Tryd.prog) Tryd.underlying22 Tryd.underlying5 Tryd.underlying9 (Kd.own_of_R HO151.out)
                        have hcv29 := own_string (P := Tryd.prog) Tryd.underlying22 Tryd.underlying5 Tryd.underlying9 (Kd.own_of_R HO157.out)
                        have hcv30 := own_string (P := Tryd.prog) Tryd.underlying22 Tryd.underlying5 Tryd.underlying9 (Kd.own_of_R HO151.out)
                        have hcv31 := own_string (P := Tryd.prog) Tryd.underlying22 Tryd.underlying5 Tryd.underlying9 (Kd.own_of_R HO162.out)
                        go_wp2
                        go_meet
                        case rel => exact ⟨_, (true), (by first | rfl | (simp; done) | (simp [*]; done)), H', ⟨by have := HJ2.out; first | omega | exact Nat.le_refl _⟩, ⟨by (with_reducible repeat (first | apply Kd.R_alloc | apply Kd.R_drewN | apply Kd.R_drew)); exact Kd.R_mono HO151.out (fun _ hk => trivial)⟩, ⟨by repeat (first | (with_reducible first | exact HB.out | apply below_alloc | apply pw_below_drewN | apply below_drew1) | exact HB.out)⟩⟩
                    · rw [if_neg c22] at H
                      have c22b0 : (t159 == t148) = false := beq_eq_false_iff_ne.mpr c22
                      have c22b1 : (t159 != t148) = true := bne_iff_ne.mpr c22
                      have H' := Aside0.mk H
                      clear H
                      have hcv32 := own_string (P := Tryd.prog) Tryd.underlying22 Tryd.underlying5 Tryd.underlying9 (Kd.own_of_R HO151.out)
                      have hcv33 := own_string (P := Tryd.prog) Tryd.underlying22 Tryd.underlying5 Tryd.underlying9 (Kd.own_of_R HO157.out)
                      have hcv34 := own_string (P := Tryd.prog) Tryd.underlying22 Tryd.underlying5 Tryd.underlying9 (Kd.own_of_R HO151.out)
                      have hcv35 := own_string (P := Tryd.prog) Tryd.underlying22 Tryd.underlying5 Tryd.underlying9 (Kd.own_of_R HO162.out)
                      go_wp2
                      go_meet
                      case rel => exact ⟨_, (true), (by first | rfl | (simp; done) | (simp [*]; done)), H', ⟨by have := HJ2.out; first | omega | exact Nat.le_refl _⟩, ⟨by (with_reducible repeat (first | apply Kd.R_alloc | apply Kd.R_drewN | apply Kd.R_drew)); exact Kd.R_mono HO151.out (fun _ hk => trivial)⟩, ⟨by repeat (first | (with_reducible first | exact HB.out | apply below_alloc | apply pw_below_drewN | apply below_drew1) | exact HB.out)⟩⟩
                  · rw [if_neg c21] at H
                    have c21b0 : ((strOfNums t147).toList == (strOfNums t158).toList) = false := beq_eq_false_iff_ne.mpr c21
                    have c21b1 : ((strOfNums t147).toList != (strOfNums t158).toList) = true := bne_iff_ne.mpr c21
                    have H' := Aside0.mk H
                    clear H
                    have hcv36 := own_string (P := Tryd.prog) Tryd.underlying22 Tryd.underlying5 Tryd.underlying9 (Kd.own_of_R HO151.out)
                    have hcv37 := own_string (P := Tryd.prog) Tryd.underlying22 Tryd.underlying5 Tryd.underlying9 (Kd.own_of_R HO157.out)
                    have hcv38 := own_string (P := Tryd.prog) Tryd.underlying22 Tryd.underlying5 Tryd.underlying9 (Kd.own_of_R HO151.out)
                    have hcv39 := own_string (P := Tryd.prog) Tryd.underlying22 Tryd.underlying5 Tryd.underlying9 (Kd.own_of_R HO162.out)
                    go_wp2
                    go_meet
                    case rel => exact ⟨_, (true), (by first | rfl | (simp; done) | (simp [*]; done)), H', ⟨by have := HJ2.out; first | omega | exact Nat.le_refl _⟩, ⟨by (with_reducible repeat (first | apply Kd.R_alloc | apply Kd.R_drewN | apply Kd.R_drew)); exact Kd.R_mono HO151.out (fun _ hk => trivial)⟩, ⟨by repeat (first | (with_reducible first | exact HB.out | apply below_alloc | apply pw_below_drewN | apply below_drew1) | exact HB.out)⟩⟩
                · rw [if_neg c20] at H
                  have c20b0 : (t155 == 0) = false := beq_eq_false_iff_ne.mpr c20
                  have c20b1 : (t155 != 0) = true := bne_iff_ne.mpr c20
                  have H' := Aside0.mk H
                  clear H
                  have hcv40 := own_string (P := Tryd.prog) Tryd.underlying22 Tryd.underlying5 Tryd.underlying9 (Kd.own_of_R HO151.out)
                  have hcv41 := own_string (P := Tryd.prog) Tryd.underlying22 Tryd.underlying5 Tryd.underlying9 (Kd.own_of_R HO157.out)
                  go_wp2
                  go_meet
                  case rel => exact ⟨_, (true), (by first | rfl | (simp; done) | (simp [*]; done)), H', ⟨by have := HJ2.out; first | omega | exact Nat.le_refl _⟩, ⟨by (with_reducible repeat (first | apply Kd.R_alloc | apply Kd.R_drewN | apply Kd.R_drew)); exact Kd.R_mono HO151.out (fun _ hk => trivial)⟩, ⟨by repeat (first | (with_reducible first | exact HB.out | apply below_alloc | apply pw_below_drewN | apply below_drew1) | exact HB.out)⟩⟩
              · rw [if_neg c19] at H
                have c19b0 : (t154 == t148) = false := beq_eq_false_iff_ne.mpr c19
                have c19b1 : (t154 != t148) = true := bne_iff_ne.mpr c19
                have H' := Aside0.mk H
                clear H
                have hcv42 := own_string (P := Tryd.prog) Tryd.underlying22 Tryd.underlying5 Tryd.underlying9 (Kd.own_of_R HO151.out)
                have hcv43 := own_string (P := Tryd.prog) Tryd.underlying22 Tryd.underlying5 Tryd.underlying9 (Kd.own_of_R HO157.out)
                go_wp2
                go_meet
                case rel => exact ⟨_, (true), (by first | rfl | (simp; done) | (simp [*]; done)), H', ⟨by have := HJ2.out; first | omega | exact Nat.le_refl _⟩, ⟨by (with_reducible repeat (first | apply Kd.R_alloc | apply Kd.R_drewN | apply Kd.R_drew)); exact Kd.R_mono HO151.out (fun _ hk => trivial)⟩, ⟨by repeat (first | (with_reducible first | exact HB.out | apply below_alloc | apply pw_below_drewN | apply below_drew1) | exact HB.out)⟩⟩
            · rw [if_neg c18] at H
              have c18b0 : ((strOfNums t147).toList == (strOfNums t153).toList) = false := beq_eq_false_iff_ne.mpr c18
              have c18b1 : ((strOfNums t147).toList != (strOfNums t153).toList) = true := bne_iff_ne.mpr c18
              (first | rw [c18b0] | (simp only [i64_w, i32_w, u8_w]; rw [c18b0]) | skip)
              have H' := Aside0.mk H
              clear H
              have hcv44 := own_string (P := Tryd.prog) Tryd.underlying22 Tryd.underlying5 Tryd.underlying9 (Kd.own_of_R HO151.out)
              have hcv45 := own_string (P := Tryd.prog) Tryd.underlying22 Tryd.underlying5 Tryd.underlying9 (Kd.own_of_R HO157.out)
              go_wp2
              go_meet
              case rel => exact ⟨_, (true), (by first | rfl | (simp; done) | (simp [*]; done)), H', ⟨by have := HJ2.out; first | omega | exact Nat.le_refl _⟩, ⟨by (with_reducible repeat (first | apply Kd.R_alloc | apply Kd.R_drewN | apply Kd.R_drew)); exact Kd.R_mono HO151.out (fun _ hk => trivial)⟩, ⟨by repeat (first | (with_reducible first | exact HB.out | apply below_alloc | apply pw_below_drewN | apply below_drew1) | exact HB.out)⟩⟩
          case rest =>
            clear HC13
            try clear c1
            try clear c2
            try clear p2
            try clear hcv2
            try clear hcv3
            try clear c4
            try clear c4b0
            try clear c4b1
            try clear hcv4
            try clear c5
            try clear c5b0
            try clear c6
            try clear c7
            try clear c8
            try clear c10
            try clear c10b0
            try clear c10b1
            try clear c18
            try clear c18b0
            try clear c18b1
            try clear c19
            try clear c19b0
            try clear c19b1
            try clear c20
            try clear c20b0
            try clear c20b1
            try clear c21
            try clear c21b0
            try clear c21b1
            try clear c22
            try clear c22b0
            try clear c22b1
            try clear c23
            try clear c23b0
            try clear c23b1
            try clear hcv24
            try clear hcv25
            try clear hcv26
            try clear hcv27
            try clear hcv28
            try clear hcv29
            try clear hcv30
            try clear hcv31
            try clear hcv32
            try clear hcv33
            try clear hcv34
            try clear hcv35
            try clear hcv36
            try clear hcv37
            try clear hcv38
            try clear hcv39
            try clear hcv40
            try clear hcv41
            try clear hcv42
            try clear hcv43
            try clear hcv44
            try clear hcv45
            try clear p2
            obtain ⟨kq, x97_12, rfl, HA, HJ12, HO_5, HB⟩ := hcut
            cases kq with
            | zero => exact absurd HA.out (by simp [valiselaw09_InflateMost.j1])
            | succ kj12 =>
              have H := HA.out
              clear HA
              simp only [valiselaw09_InflateMost.j1] at H
              by_cases c46 : x97_12 = true
              · subst c46
                have H1 : (some false) = some r := by rw [if_pos rfl] at H; exact H
                clear H
                have H := H1
                clear H1
                obtain rfl := Option.some.inj H
                cases hrt
              · replace c46 := Bool.eq_false_iff.mpr c46
                subst c46
                have H1 : (if (t147.length : Int) = 0 then ((valiselaw09_lives.f).bind fun t163 => (some t163)) else ((inflate_Decode.f l0 (wrap64 ((t147.length : Int) - 1))).bind fun bt164 => (if bt164.2.2 = 3 then ((valiselaw09_lives.f).bind fun t169 => (some t169)) else (some false)))) = some r := by rw [if_neg (show ¬ (false = true) by decide)] at H; exact H
                clear H
                have H := H1
                clear H1
                by_cases c47 : (t147.length : Int) = 0
                · rw [if_pos c47] at H
                  have c47b0 : ((t147.length : Int) == 0) = true := beq_iff_eq.mpr c47
                  have c47b1 : ((t147.length : Int) != 0) = false := bne_eq_false_iff_eq.mpr c47
                  clear c47
                  replace H := Option.bind_eq_some_iff.mp H
                  obtain ⟨t163, A480, H⟩ := H
                  replace H : (some t163) = some r := H
                  have A48 := Aside0.mk A480
                  clear A480
                  obtain rfl := Option.some.inj H
                  go_wp2_with (first | ((with_reducible refine gate_callee (f := 7) rfl ?_); refine goesL_ (some 101) rfl rfl Tryd.func7 (by kernel_rfl) rfl #[] rfl (by (try simp only [List.map_toArray, List.map_cons, List.map_nil]); first | done | rfl | (simp only [List.length_drop, List.length_take]; rfl)) ?_; (with_reducible refine (valiselaw09_lives.calls  t163 _ (Pr.Handle.on HGH.out (by repeat (first | (with_reducible first | exact HB.out | apply below_alloc | apply pw_below_drewN | apply below_drew1) | exact HB.out)) (Pr.Handle.pos HGH.out)) A48.out).mono ?_); rintro e w49 ⟨rfl, hb⟩; refine ⟨_, rfl, ?_⟩; have n0_ := Aside0.mk (Kd.R_below (by (with_reducible repeat (first | apply Kd.R_alloc | apply Kd.R_drewN | apply Kd.R_drew)); exact HO_5.out) hb); have n1_ := Aside0.mk (below_step (by repeat (first | (with_reducible first | exact HB.out | apply below_alloc | apply pw_below_drewN | apply below_drew1) | exact HB.out)) hb); clear HO_5; clear HB; have HO_5 := n0_; have HB := n1_; clear n0_ n1_; (try clear hb); (try clear hb2); (try clear hk); (try clear hi)))
                  go_ret
                  exact ⟨by first | rfl | (simp [errW_none, errW_some] <;> rfl) | (simp [*, errW_none, errW_some] <;> rfl), by repeat (first | (with_reducible first | exact HB.out | apply below_alloc | apply pw_below_drewN | apply below_drew1) | exact HB.out)⟩
                · rw [if_neg c47] at H
                  have c47b0 : ((t147.length : Int) == 0) = false := beq_eq_false_iff_ne.mpr c47
                  have c47b1 : ((t147.length : Int) != 0) = true := bne_iff_ne.mpr c47
                  have c47b2 : ¬ (t147 = []) := fun h_ => c47 (by rw [h_]; rfl)
                  replace H := Option.bind_eq_some_iff.mp H
                  obtain ⟨⟨t164, t165, t166⟩, A500, H⟩ := H
                  replace H : (if t166 = 3 then ((valiselaw09_lives.f).bind fun t169 => (some t169)) else (some false)) = some r := H
                  have A50 := Aside0.mk A500
                  clear A500
                  by_cases c51 : t166 = 3
                  · rw [if_pos c51] at H
                    have c51b0 : (t166 == 3) = true := beq_iff_eq.mpr c51
                    have c51b1 : (t166 != 3) = false := bne_eq_false_iff_eq.mpr c51
                    clear c51
                    replace H := Option.bind_eq_some_iff.mp H
                    obtain ⟨t169, A520, H⟩ := H
                    replace H : (some t169) = some r := H
                    have A52 := Aside0.mk A520
                    clear A520
                    obtain rfl := Option.some.inj H
                    go_wp2_with (first | ((with_reducible refine gate_callee (f := 8) rfl ?_); refine goesL_ (some 107) rfl rfl Tryd.func8 (by kernel_rfl) rfl #[.slice A0 l0.length c0, .int .i64 (wrap64 ((t147.length : Int) - 1))] rfl (by (try simp only [List.map_toArray, List.map_cons, List.map_nil]); first | done | rfl | (simp only [List.length_drop, List.length_take]; rfl)) ?_; (with_reducible refine (inflate_Decode.calls _ _ l0 (wrap64 ((t147.length : Int) - 1)) t164 t165 t166 _ ?side1 ?side2 A50.out (Pr.Handle.on HGH.out (by repeat (first | (with_reducible first | exact HB.out | apply below_alloc | apply pw_below_drewN | apply below_drew1) | exact HB.out)) (Pr.Handle.pos HGH.out))).mono ?_); (case side1 => repeat (first | exact (Kd.C_below HR0.out HB.out) | (with_reducible refine Kd.C_alloc ?_ _) | (with_reducible refine Kd.C_drewN ?_ _) | (with_reducible refine Kd.C_drew ?_))); (case side2 => exact HC0.out); rintro e w53 ⟨v167, rfl, ho0, hb⟩; refine ⟨_, rfl, ?_⟩; have n0_ := Aside0.mk (Kd.R_elder' (by (with_reducible repeat (first | apply Kd.R_alloc | apply Kd.R_drewN | apply Kd.R_drew)); exact HO_5.out) (Kd.R_base ho0) hb); have n1_ := Aside0.mk (Kd.R_lower (Kd.R_new' ho0 (Kd.R_lt (by (with_reducible repeat (first | apply Kd.R_alloc | apply Kd.R_drewN | apply Kd.R_drew)); exact HO_5.out))) (below_size (by repeat (first | (with_reducible first | exact HB.out | apply below_alloc | apply pw_below_drewN | apply below_drew1) | exact HB.out)))); have n2_ := Aside0.mk (below_step (by repeat (first | (with_reducible first | exact HB.out | apply below_alloc | apply pw_below_drewN | apply below_drew1) | exact HB.out)) hb); clear HO_5; clear HB; have HO_5 := n0_; have HO168 := n1_; have HB := n2_; clear n0_ n1_ n2_; (try clear hb); (try clear hb2); (try clear hk); (try clear hi); (try clear ho0)) | (go_at_call 7; (with_reducible refine (valiselaw09_lives.calls  t169 _ (Pr.Handle.on HGH.out (by repeat (first | (with_reducible first | exact HB.out | apply below_alloc | apply pw_below_drewN | apply below_drew1) | exact HB.out)) (Pr.Handle.pos HGH.out)) A52.out).mono ?_); rintro e w54 ⟨rfl, hb⟩; have n0_ := Aside0.mk (Kd.R_below (by (with_reducible repeat (first | apply Kd.R_alloc | apply Kd.R_drewN | apply Kd.R_drew)); exact HO_5.out) hb); have n1_ := Aside0.mk (Kd.R_below (by (with_reducible repeat (first | apply Kd.R_alloc | apply Kd.R_drewN | apply Kd.R_drew)); exact HO168.out) hb); have n2_ := Aside0.mk (below_step (by repeat (first | (with_reducible first | exact HB.out | apply below_alloc | apply pw_below_drewN | apply below_drew1) | exact HB.out)) hb); clear HO_5; clear HO168; clear HB; have HO_5 := n0_; have HO168 := n1_; have HB := n2_; clear n0_ n1_ n2_; (try clear hb); (try clear hb2); (try clear hk); (try clear hi)))
                    go_ret
                    exact ⟨by first | rfl | (simp [errW_none, errW_some] <;> rfl) | (simp [*, errW_none, errW_some] <;> rfl), by repeat (first | (with_reducible first | exact HB.out | apply below_alloc | apply pw_below_drewN | apply below_drew1) | exact HB.out)⟩
                  · rw [if_neg c51] at H
                    have c51b0 : (t166 == 3) = false := beq_eq_false_iff_ne.mpr c51
                    have c51b1 : (t166 != 3) = true := bne_iff_ne.mpr c51
                    obtain rfl := Option.some.inj H
                    cases hrt
        · rw [if_neg c10] at H
          have c10b0 : (t149 == 0) = false := beq_eq_false_iff_ne.mpr c10
          have c10b1 : (t149 != 0) = true := bne_iff_ne.mpr c10
          by_cases c56 : (t147.length : Int) = 0
          · rw [if_pos c56] at H
            have c56b0 : ((t147.length : Int) == 0) = true := beq_iff_eq.mpr c56
            have c56b1 : ((t147.length : Int) != 0) = false := bne_eq_false_iff_eq.mpr c56
            clear c56
            by_cases c57 : t148 = 0
            · rw [if_pos c57] at H
              have c57b0 : (t148 == 0) = true := beq_iff_eq.mpr c57
              have c57b1 : (t148 != 0) = false := bne_eq_false_iff_eq.mpr c57
              clear c57
              replace H := Option.bind_eq_some_iff.mp H
              obtain ⟨t152, A580, H⟩ := H
              replace H : (some t152) = some r := H
              have A58 := Aside0.mk A580
              clear A580
              obtain rfl := Option.some.inj H
              go_wp2_with (first | ((with_reducible refine gate_callee (f := 8) rfl ?_); refine goesL_ (some 32) rfl rfl Tryd.func8 (by kernel_rfl) rfl #[.slice A0 l0.length c0, .int .i64 a1] rfl (by (try simp only [List.map_toArray, List.map_cons, List.map_nil]); first | done | rfl | (simp only [List.length_drop, List.length_take]; rfl)) ?_; (with_reducible refine (inflate_Decode.calls _ _ l0 a1 t147 t148 t149 _ ?side1 ?side2 A9.out (Pr.Handle.on HGH.out (by repeat (first | (with_reducible first | exact HB.out | apply below_alloc | apply pw_below_drewN | apply below_drew1) | exact HB.out)) (Pr.Handle.pos HGH.out))).mono ?_); (case side1 => repeat (first | exact (Kd.C_below HR0.out HB.out) | (with_reducible refine Kd.C_alloc ?_ _) | (with_reducible refine Kd.C_drewN ?_ _) | (with_reducible refine Kd.C_drew ?_))); (case side2 => exact HC0.out); rintro e w59 ⟨v150, rfl, ho0, hb⟩; refine ⟨_, rfl, ?_⟩; have n0_ := Aside0.mk (Kd.R_lower ho0 (below_size (by repeat (first | (with_reducible first | exact HB.out | apply below_alloc | apply pw_below_drewN | apply below_drew1) | exact HB.out)))); have n1_ := Aside0.mk (below_step (by repeat (first | (with_reducible first | exact HB.out | apply below_alloc | apply pw_below_drewN | apply below_drew1) | exact HB.out)) hb); clear HB; have HO151 := n0_; have HB := n1_; clear n0_ n1_; (try clear hb); (try clear hb2); (try clear hk); (try clear hi); (try clear ho0); obtain ⟨Ao60, co60, eo60⟩ := Kd.R_slice HO151.out; subst eo60) | (go_at_call 7; (with_reducible refine (valiselaw09_lives.calls  t152 _ (Pr.Handle.on HGH.out (by repeat (first | (with_reducible first | exact HB.out | apply below_alloc | apply pw_below_drewN | apply below_drew1) | exact HB.out)) (Pr.Handle.pos HGH.out)) A58.out).mono ?_); rintro e w61 ⟨rfl, hb⟩; have n0_ := Aside0.mk (Kd.R_below (by (with_reducible repeat (first | apply Kd.R_alloc | apply Kd.R_drewN | apply Kd.R_drew)); exact HO151.out) hb); have n1_ := Aside0.mk (below_step (by repeat (first | (with_reducible first | exact HB.out | apply below_alloc | apply pw_below_drewN | apply below_drew1) | exact HB.out)) hb); clear HO151; clear HB; have HO151 := n0_; have HB := n1_; clear n0_ n1_; (try clear hb); (try clear hb2); (try clear hk); (try clear hi)))
              go_ret
              exact ⟨by first | rfl | (simp [errW_none, errW_some] <;> rfl) | (simp [*, errW_none, errW_some] <;> rfl), by repeat (first | (with_reducible first | exact HB.out | apply below_alloc | apply pw_below_drewN | apply below_drew1) | exact HB.out)⟩
            · rw [if_neg c57] at H
              have c57b0 : (t148 == 0) = false := beq_eq_false_iff_ne.mpr c57
              have c57b1 : (t148 != 0) = true := bne_iff_ne.mpr c57
              obtain rfl := Option.some.inj H
              cases hrt
          · rw [if_neg c56] at H
            have c56b0 : ((t147.length : Int) == 0) = false := beq_eq_false_iff_ne.mpr c56
            have c56b1 : ((t147.length : Int) != 0) = true := bne_iff_ne.mpr c56
            have c56b2 : ¬ (t147 = []) := fun h_ => c56 (by rw [h_]; rfl)
            obtain rfl := Option.some.inj H
            cases hrt

def valiselaw09_InflateMost.Pure : Prop := ∀ (l0 : List Int) (a1 : Int), l0.length ≤ maxLen → l0.length * 1 ≤ 140737488351232 → (∀ x ∈ l0, (Lit.int .u8 x).wf = true) → (Lit.int .i64 a1).wf = true → ∃ k, valiselaw09_InflateMost.f k l0 a1 = some true
theorem valiselaw09_InflateMost.walk (P : valiselaw09_InflateMost.Pure) (a0 : Option Addr) (len0 cap0 : Nat) (z0 : List Int) (a1 : Int) (w : World) (HGL : Pr.Handle w) (w0 : (a0 = none ∧ len0 = 0 ∧ cap0 = 0 ∧ z0 = []) ∨ ∃ x, a0 = some x ∧ len0 ≤ cap0 ∧ cap0 ≤ maxLen ∧ z0.length = cap0 ∧ (∀ i, i < z0.length → w.cell? (x.add i) = some (.int .u8 (z0.getD i 0))) ∧ ∀ n ∈ z0, (Lit.int .u8 n).wf = true) (y0 : len0 * 1 ≤ 140737488351232) (w1 : (Lit.int .i64 a1).wf = true) :
    Calls Tryd.prog 4 #[.slice a0 len0 cap0, .int .i64 a1] w fun e w' => e = .returned (.bool true) ∧ Below w.heap.size w w' := by
  obtain ⟨l0, rfl, hr0, hm0, hw0, hc0⟩ := ReadsInt.ofRowC w0
  obtain ⟨k, h⟩ := P l0 a1 hm0 y0 hw0 w1
  refine (valiselaw09_InflateMost.calls k _ _ l0 a1 true w (Kd.C_of_reads (d := (0 : Int)) (h1 := fun _ => rfl) hr0) hc0 HGL h rfl).mono ?_
  rintro e w' ⟨rfl, hd⟩
  exact ⟨rfl, hd⟩

end Go.Proofs.YtgflkkjhckcipaaDoor.Pg

-- YtgflkkjhckcipaaDoorPureInflateMost
namespace Go.Proofs.YtgflkkjhckcipaaDoor.PureInflateMost
open Go.RowKit Go.Proofs.YtgflkkjhckcipaaDoor.Pg Go.Proofs.YtgflkkjhckcipaaDoorW.PrintWords Go.Proofs.YtgflkkjhckcipaaDoorW.PrintLast
set_option linter.unusedVariables false
set_option linter.unusedSimpArgs false
theorem dec_ok {l : List Int} (hb : Pr.Byt l) (hl : l.length ≤ 1000000) {most : Int} {n : Nat} {ys : List Int} (h : Pr.inflM l most = .ok (n, ys)) : inflate_Decode.f l most = some (ys, (n : Int), 0) := by
  unfold inflate_Decode.f
  rw [if_pos (Pr.bytB_iff.2 ⟨hb, hl⟩)]
  unfold Pr.decS
  rw [h]
theorem dec_err {l : List Int} (hb : Pr.Byt l) (hl : l.length ≤ 1000000) {most : Int} {er : Int} (h : Pr.inflM l most = .error er) : inflate_Decode.f l most = some ([], 0, er) := by
  unfold inflate_Decode.f
  rw [if_pos (Pr.bytB_iff.2 ⟨hb, hl⟩)]
  unfold Pr.decS
  rw [h]
theorem byt_of {l : List Int} (h : ∀ x ∈ l, (Lit.int .u8 x).wf = true) : Pr.Byt l := Pr.byt_wf h
theorem InflateMost : valiselaw09_InflateMost.Pure := by
  intro l0 a1 _ _ hw0 _
  have hb0 := byt_of hw0
  refine ⟨2, ?_⟩
  have hT := valiselaw09_lives.true_
  unfold valiselaw09_InflateMost.f
  by_cases c1 : (l0.length : Int) > 3000
  · rw [if_pos c1]
    simp [valiselaw09_InflateMost.j0, hT]
  · rw [if_neg c1]
    by_cases c2 : a1 < 0
    · rw [if_pos c2]
      simp [valiselaw09_InflateMost.j0, hT]
    · rw [if_neg c2]
      by_cases c3 : a1 > 65536
      · rw [decide_eq_true c3]
        simp [valiselaw09_InflateMost.j0, hT]
      · rw [decide_eq_false c3, valiselaw09_InflateMost.j0, if_neg (by decide)]
        cases hi : Pr.inflM l0 a1 with
        | error er =>
          have her := Pr.infl_bad l0 a1 er hi
          rw [dec_err hb0 (by omega) hi]
          simp [her, hT]
        | ok r =>
          obtain ⟨n, ys⟩ := r
          obtain ⟨h0, h1, h2, _⟩ := Pr.infl_ok hi
          have d1 := dec_ok hb0 (by omega) ((Pr.infl_room hi 65536 (by omega) (by omega)).1 (by omega))
          have d2 := dec_ok hb0 (by omega) ((Pr.infl_room hi (ys.length : Int) (by omega) (by omega)).1 (by omega))
          rw [dec_ok hb0 (by omega) hi]
          simp only [Option.bind_some, if_true]
          rw [d1]
          simp only [Option.bind_some]
          rw [d2]
          simp only [Option.bind_some, if_true]
          rw [decide_eq_false (by omega), valiselaw09_InflateMost.j1, if_neg (by decide)]
          by_cases c4 : (ys.length : Int) = 0
          · rw [if_pos c4, hT]
            rfl
          · rw [if_neg c4, show wrap64 ((ys.length : Int) - 1) = (ys.length : Int) - 1 from Pr.wrap64_id (by omega) (by omega)]
            have d3 := dec_err hb0 (by omega) ((Pr.infl_room hi ((ys.length : Int) - 1) (by omega) (by omega)).2 (by omega))
            rw [d3]
            simp [hT]
end Go.Proofs.YtgflkkjhckcipaaDoor.PureInflateMost

