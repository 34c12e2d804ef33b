-- Texts by hand and by programs of this session, joined (wip/tool/merge.py).
import Derived.Test.YtgflkkjhckcipaaDoorMIA18
-- YtgflkkjhckcipaaDoorPg5
namespace Go.Proofs.YtgflkkjhckcipaaDoor.Pg
open Go.RowKit Go.Proofs.YtgflkkjhckcipaaDoorW.PrintWords Go.Proofs.YtgflkkjhckcipaaDoorW.PrintLast Go.Proofs.YtgflkkjhckcipaaDoorW.PrintMore
attribute [local go_sem] max2_int min2_int max_two min_two max_three min_three max_four min_four   -- for this text's walks alone
set_option linter.unusedVariables false
set_option linter.unusedSimpArgs false

mutual
def valiselaw09_InflateUsed.j0 : Nat → List Int → Int → List Int → Bool → Option (Bool)
  | 0, _, _, _, _ => none
  | k + 1, x0, x1, x2, x23 => if x23 = true then ((valiselaw09_lives.f).bind fun t111 => (some t111)) else ((inflate_Decode.f x0 x1).bind fun bt112 => (if bt112.2.2 = 0 then (if bt112.2.1 < 1 then (valiselaw09_InflateUsed.j1 k x0 x1 x2 bt112.1 bt112.2.1 true) else (valiselaw09_InflateUsed.j1 k x0 x1 x2 bt112.1 bt112.2.1 (decide (bt112.2.1 > (x0.length : Int))))) else (if (bt112.1.length : Int) = 0 then (if bt112.2.1 = 0 then ((valiselaw09_lives.f).bind fun t117 => (some t117)) else (some false)) else (some false))))
def valiselaw09_InflateUsed.j1 : Nat → List Int → Int → List Int → List Int → Int → Bool → Option (Bool)
  | 0, _, _, _, _, _, _ => none
  | k + 1, x0, x1, x2, x7, x8, x51 => if x51 = true then (some false) else ((some (([] : List Int) : List Int)).bind fun y118 => (if 0 ≤ x8 then (if x8 ≤ (x0.length : Int) then (if y118.length + (x0.take (x8 : Int).toNat).length < 140737488355328 then ((some (y118 ++ (x0.take (x8 : Int).toNat) : List Int)).bind fun y122 => (if y122.length + x2.length < 140737488355328 then ((inflate_Decode.f (y122 ++ x2) x1).bind fun bt128 => ((some (([] : List Int) : List Int)).bind fun y133 => (if 0 ≤ (wrap64 (x8 - 1)) then (if (wrap64 (x8 - 1)) ≤ (x0.length : Int) then (if y133.length + (x0.take ((wrap64 (x8 - 1)) : Int).toNat).length < 140737488355328 then ((inflate_Decode.f (y133 ++ (x0.take ((wrap64 (x8 - 1)) : Int).toNat)) x1).bind fun bt140 => (if (strOfNums x7).toList = (strOfNums bt128.1).toList then (if bt128.2.1 = x8 then (if bt128.2.2 = 0 then (if (bt140.1.length : Int) = 0 then (if bt140.2.1 = 0 then (if bt140.2.2 = 4 then ((valiselaw09_lives.f).bind fun t145 => (some t145)) else (some false)) else (some false)) else (some false)) else (some false)) else (some false)) else (some false))) else (none)) else (none)) else (none)))) else (none))) else (none)) else (none)) else (none)))
end
def valiselaw09_InflateUsed.f (k : Nat) (l0 : List Int) (a1 : Int) (l2 : List Int) : Option (Bool) := if (l0.length : Int) > 3000 then (valiselaw09_InflateUsed.j0 k l0 a1 l2 true) else (valiselaw09_InflateUsed.j0 k l0 a1 l2 (decide ((l2.length : Int) > 3000)))
theorem valiselaw09_InflateUsed.mono_l : ∀ k, (∀ y0 y1 y2 y3, LeO (valiselaw09_InflateUsed.j0 k y0 y1 y2 y3) (valiselaw09_InflateUsed.j0 (k + 1) y0 y1 y2 y3)) ∧ (∀ y0 y1 y2 y3 y4 y5, LeO (valiselaw09_InflateUsed.j1 k y0 y1 y2 y3 y4 y5) (valiselaw09_InflateUsed.j1 (k + 1) y0 y1 y2 y3 y4 y5))
  | 0 => ⟨fun _ _ _ _ r h => by simp [valiselaw09_InflateUsed.j0] at h, fun _ _ _ _ _ _ r h => by simp [valiselaw09_InflateUsed.j1] at h⟩
  | k + 1 => by
    obtain ⟨ih0, ih1⟩ := valiselaw09_InflateUsed.mono_l k
    refine ⟨?_, ?_⟩
    · intro y0 y1 y2 y3
      unfold valiselaw09_InflateUsed.j0
      repeat' first
      | (with_reducible exact ih0 _ _ _ _)
      | (with_reducible exact ih1 _ _ _ _ _ _)
      | (with_reducible exact LeO.refl _)
      | (with_reducible exact LeO.none _)
      | (with_reducible refine LeO.ite ?_ ?_)
      | (with_reducible refine LeO.bind ?_ (fun _ => ?_))
      | exact ih0 _ _ _ _
      | exact ih1 _ _ _ _ _ _
      | exact LeO.none _
      | refine LeO.ite ?_ ?_
      | refine LeO.bind ?_ (fun _ => ?_)
    · intro y0 y1 y2 y3 y4 y5
      unfold valiselaw09_InflateUsed.j1
      repeat' first
      | (with_reducible exact ih0 _ _ _ _)
      | (with_reducible exact ih1 _ _ _ _ _ _)
      | (with_reducible exact LeO.refl _)
      | (with_reducible exact LeO.none _)
      | (with_reducible refine LeO.ite ?_ ?_)
      | (with_reducible refine LeO.bind ?_ (fun _ => ?_))
      | exact ih0 _ _ _ _
      | exact ih1 _ _ _ _ _ _
      | exact LeO.none _
      | refine LeO.ite ?_ ?_
      | refine LeO.bind ?_ (fun _ => ?_)
theorem valiselaw09_InflateUsed.mono : ∀ a0 a1 a2 k, LeO (valiselaw09_InflateUsed.f k a0 a1 a2) (valiselaw09_InflateUsed.f (k + 1) a0 a1 a2) := by
  intro a0 a1 a2 k
  obtain ⟨ih0, ih1⟩ := valiselaw09_InflateUsed.mono_l k
  unfold valiselaw09_InflateUsed.f
  repeat' first
      | (with_reducible exact ih0 _ _ _ _)
      | (with_reducible exact ih1 _ _ _ _ _ _)
      | (with_reducible exact LeO.refl _)
      | (with_reducible exact LeO.none _)
      | (with_reducible refine LeO.ite ?_ ?_)
      | (with_reducible refine LeO.bind ?_ (fun _ => ?_))
      | exact ih0 _ _ _ _
      | exact ih1 _ _ _ _ _ _
      | exact LeO.none _
      | refine LeO.ite ?_ ?_
      | refine LeO.bind ?_ (fun _ => ?_)
set_option maxHeartbeats 8000000 in
set_option maxRecDepth 100000 in
theorem valiselaw09_InflateUsed.calls (k : Nat) (A0 : Option Addr) (c0 : Nat) (l0 : List Int) (a1 : Int) (A2 : Option Addr) (c2 : Nat) (l2 : List Int) (r : Bool) (w : World) (hr0 : Kd.C (Kd.int .u8) w A0 l0.length l0) (hc0 : l0.length ≤ c0) (hr2 : Kd.C (Kd.int .u8) w A2 l2.length l2) (hc2 : l2.length ≤ c2) (HGL : Pr.Handle w) (h : valiselaw09_InflateUsed.f k l0 a1 l2 = some r) (hrt : r = true) :
    Calls Tryd.prog 3 #[.slice A0 l0.length c0, .int .i64 a1, .slice A2 l2.length c2] w fun e w' => e = .returned (.bool r) ∧ Below w.heap.size w w' := by
  have HR0 := Aside0.mk hr0
  have HC0 := Aside0.mk hc0
  clear hr0 hc0
  have HR2 := Aside0.mk hr2
  have HC2 := Aside0.mk hc2
  clear hr2 hc2
  have HB := Aside0.mk (Below.refl w.heap.size w)
  have HGH := Aside0.mk HGL
  clear HGL
  have H : (if (l0.length : Int) > 3000 then (valiselaw09_InflateUsed.j0 k l0 a1 l2 true) else (valiselaw09_InflateUsed.j0 k l0 a1 l2 (decide ((l2.length : Int) > 3000)))) = some r := h
  clear h
  have HC4 := Aside0.mk H
  clear H
  go_enter Tryd.func3, Tryd.ntmps3
  go_upto_region 1 with (fail)
  go_cut [23] (fun v23 wc => ∃ (kq : Nat) (x23_3 : Bool), v23 = .bool x23_3 ∧ Aside0 (valiselaw09_InflateUsed.j0 kq l0 a1 l2 x23_3 = some r) ∧ Aside0 (kq ≤ k) ∧ Aside0 (Below w.heap.size w wc))
  case first =>
    have H := HC4.out
    clear HC4
    by_cases c5 : (l0.length : Int) > 3000
    · rw [if_pos c5] at H
      have c5b0 : decide (3000 < (l0.length : Int)) = true := decide_eq_true c5
      have c5b1 : decide (3000 < l0.length) = true := decide_eq_true (by omega)
      clear c5
      (first | rw [c5b0] | (simp only [i64_w, i32_w, u8_w]; rw [c5b0]) | skip)
      have H' := Aside0.mk H
      clear H
      go_wp2
      go_meet
      case rel => exact ⟨_, (true), (by first | rfl | (simp; done) | (simp [*]; done)), H', ⟨by first | omega | exact Nat.le_refl _⟩, ⟨by repeat (first | (with_reducible first | exact HB.out | apply below_alloc | apply pw_below_drewN | apply below_drew1) | exact HB.out)⟩⟩
    · rw [if_neg c5] at H
      have c5b0 : decide (3000 < (l0.length : Int)) = false := decide_eq_false c5
      have c5b1 : decide (3000 < l0.length) = false := decide_eq_false (by omega)
      clear c5
      (first | rw [c5b0] | (simp only [i64_w, i32_w, u8_w]; rw [c5b0]) | skip)
      have H' := Aside0.mk H
      clear H
      go_wp2
      go_meet
      case rel => exact ⟨_, (decide ((l2.length : Int) > 3000)), (by first | rfl | (simp; done) | (simp [*]; done)), H', ⟨by first | omega | exact Nat.le_refl _⟩, ⟨by repeat (first | (with_reducible first | exact HB.out | apply below_alloc | apply pw_below_drewN | apply below_drew1) | exact HB.out)⟩⟩
  case rest =>
    clear HC4
    try clear c2
    try clear p2
    try clear c3
    try clear c5
    try clear c5b0
    try clear c5b1
    obtain ⟨kq, x23_3, rfl, HA, HJ3, HB⟩ := hcut
    cases kq with
    | zero => exact absurd HA.out (by simp [valiselaw09_InflateUsed.j0])
    | succ kj3 =>
      have H := HA.out
      clear HA
      simp only [valiselaw09_InflateUsed.j0] at H
      by_cases c6 : x23_3 = true
      · subst c6
        have H1 : ((valiselaw09_lives.f).bind fun t111 => (some t111)) = some r := by rw [if_pos rfl] at H; exact H
        clear H
        have H := H1
        clear H1
        replace H := Option.bind_eq_some_iff.mp H
        obtain ⟨t111, A70, H⟩ := H
        replace H : (some t111) = some r := H
        have A7 := Aside0.mk A70
        clear A70
        obtain rfl := Option.some.inj H
        go_wp2_with (first | ((with_reducible refine gate_callee (f := 7) rfl ?_); refine goesL_ (some 24) rfl rfl Tryd.func7 (by kernel_rfl) rfl #[] rfl (by (try simp only [List.map_toArray, List.map_cons, List.map_nil]); first | done | rfl | (simp only [List.length_drop, List.length_take]; rfl)) ?_; (with_reducible refine (valiselaw09_lives.calls  t111 _ (Pr.Handle.on HGH.out (by repeat (first | (with_reducible first | exact HB.out | apply below_alloc | apply pw_below_drewN | apply below_drew1) | exact HB.out)) (Pr.Handle.pos HGH.out)) A7.out).mono ?_); rintro e w8 ⟨rfl, hb⟩; refine ⟨_, rfl, ?_⟩; have n0_ := Aside0.mk (below_step (by repeat (first | (with_reducible first | exact HB.out | apply below_alloc | apply pw_below_drewN | apply below_drew1) | exact HB.out)) hb); clear HB; have HB := n0_; clear n0_; (try clear hb); (try clear hb2); (try clear hk); (try clear hi)))
        go_ret
        exact ⟨by first | rfl | (simp [errW_none, errW_some] <;> rfl) | (simp [*, errW_none, errW_some] <;> rfl), by repeat (first | (with_reducible first | exact HB.out | apply below_alloc | apply pw_below_drewN | apply below_drew1) | exact HB.out)⟩
      · replace c6 := Bool.eq_false_iff.mpr c6
        subst c6
        have H1 : ((inflate_Decode.f l0 a1).bind fun bt112 => (if bt112.2.2 = 0 then (if bt112.2.1 < 1 then (valiselaw09_InflateUsed.j1 kj3 l0 a1 l2 bt112.1 bt112.2.1 true) else (valiselaw09_InflateUsed.j1 kj3 l0 a1 l2 bt112.1 bt112.2.1 (decide (bt112.2.1 > (l0.length : Int))))) else (if (bt112.1.length : Int) = 0 then (if bt112.2.1 = 0 then ((valiselaw09_lives.f).bind fun t117 => (some t117)) else (some false)) else (some false)))) = some r := by rw [if_neg (show ¬ (false = true) by decide)] at H; exact H
        clear H
        have H := H1
        clear H1
        replace H := Option.bind_eq_some_iff.mp H
        obtain ⟨⟨t112, t113, t114⟩, A90, H⟩ := H
        replace H : (if t114 = 0 then (if t113 < 1 then (valiselaw09_InflateUsed.j1 kj3 l0 a1 l2 t112 t113 true) else (valiselaw09_InflateUsed.j1 kj3 l0 a1 l2 t112 t113 (decide (t113 > (l0.length : Int))))) else (if (t112.length : Int) = 0 then (if t113 = 0 then ((valiselaw09_lives.f).bind fun t117 => (some t117)) else (some false)) else (some false))) = some r := H
        have A9 := Aside0.mk A90
        clear A90
        by_cases c10 : t114 = 0
        · rw [if_pos c10] at H
          have c10b0 : (t114 == 0) = true := beq_iff_eq.mpr c10
          have c10b1 : (t114 != 0) = false := bne_eq_false_iff_eq.mpr c10
          clear c10
          have HC11 := Aside0.mk H
          clear H
          go_upto_region 6 with (first | ((with_reducible refine gate_callee (f := 8) rfl ?_); refine goesL_ (some 28) rfl rfl Tryd.func8 (by kernel_rfl) rfl #[.slice A0 l0.length c0, .int .i64 a1] rfl (by (try simp only [List.map_toArray, List.map_cons, List.map_nil]); first | done | rfl | (simp only [List.length_drop, List.length_take]; rfl)) ?_; (with_reducible refine (inflate_Decode.calls _ _ l0 a1 t112 t113 t114 _ ?side1 ?side2 A9.out (Pr.Handle.on HGH.out (by repeat (first | (with_reducible first | exact HB.out | apply below_alloc | apply pw_below_drewN | apply below_drew1) | exact HB.out)) (Pr.Handle.pos HGH.out))).mono ?_); (case side1 => repeat (first | exact (Kd.C_below HR0.out HB.out) | (with_reducible refine Kd.C_alloc ?_ _) | (with_reducible refine Kd.C_drewN ?_ _) | (with_reducible refine Kd.C_drew ?_))); (case side2 => exact HC0.out); rintro e w12 ⟨v115, rfl, ho0, hb⟩; refine ⟨_, rfl, ?_⟩; have n0_ := Aside0.mk (Kd.R_lower ho0 (below_size (by repeat (first | (with_reducible first | exact HB.out | apply below_alloc | apply pw_below_drewN | apply below_drew1) | exact HB.out)))); have n1_ := Aside0.mk (below_step (by repeat (first | (with_reducible first | exact HB.out | apply below_alloc | apply pw_below_drewN | apply below_drew1) | exact HB.out)) hb); clear HB; have HO116 := n0_; have HB := n1_; clear n0_ n1_; (try clear hb); (try clear hb2); (try clear hk); (try clear hi); (try clear ho0)))
          (try simp only [Act.put, List.setIfInBounds_toArray, List.set_cons_zero, List.set_cons_succ])
          go_cut [51] (fun v51 wc => ∃ (kq : Nat) (x51_10 : Bool), v51 = .bool x51_10 ∧ Aside0 (valiselaw09_InflateUsed.j1 kq l0 a1 l2 t112 t113 x51_10 = some r) ∧ Aside0 (kq ≤ kj3) ∧ Aside0 (Kd.R (Kd.int .u8) 5 wc w.heap.size (fun _ => True) v115 t112) ∧ Aside0 (Below w.heap.size w wc))
          case first =>
            have H := HC11.out
            clear HC11
            by_cases c13 : t113 < 1
            · rw [if_pos c13] at H
              have c13b0 : decide (t113 < 1) = true := decide_eq_true c13
              clear c13
              (first | rw [c13b0] | (simp only [i64_w, i32_w, u8_w]; rw [c13b0]) | skip)
              have H' := Aside0.mk H
              clear H
              go_wp2
              go_meet
              case rel => exact ⟨_, (true), (by first | rfl | (simp; done) | (simp [*]; done)), H', ⟨by have := HJ3.out; first | omega | exact Nat.le_refl _⟩, ⟨by (with_reducible repeat (first | apply Kd.R_alloc | apply Kd.R_drewN | apply Kd.R_drew)); exact HO116.out⟩, ⟨by repeat (first | (with_reducible first | exact HB.out | apply below_alloc | apply pw_below_drewN | apply below_drew1) | exact HB.out)⟩⟩
            · rw [if_neg c13] at H
              have c13b0 : decide (t113 < 1) = false := decide_eq_false c13
              clear c13
              (first | rw [c13b0] | (simp only [i64_w, i32_w, u8_w]; rw [c13b0]) | skip)
              have H' := Aside0.mk H
              clear H
              go_wp2
              go_meet
              case rel => exact ⟨_, (decide (t113 > (l0.length : Int))), (by first | rfl | (simp; done) | (simp [*]; done)), H', ⟨by have := HJ3.out; first | omega | exact Nat.le_refl _⟩, ⟨by (with_reducible repeat (first | apply Kd.R_alloc | apply Kd.R_drewN | apply Kd.R_drew)); exact HO116.out⟩, ⟨by repeat (first | (with_reducible first | exact HB.out | apply below_alloc | apply pw_below_drewN | apply below_drew1) | exact HB.out)⟩⟩
          case rest =>
            clear HC11
            try clear c1
            try clear c2
            try clear p2
            try clear c3
            try clear c5
            try clear c5b0
            try clear c5b1
            try clear c6
            try clear c7
            try clear c8
            try clear c10
            try clear c10b0
            try clear c10b1
            try clear c13
            try clear c13b0
            try clear p2
            obtain ⟨kq, x51_10, rfl, HA, HJ10, HO_7, HB⟩ := hcut
            cases kq with
            | zero => exact absurd HA.out (by simp [valiselaw09_InflateUsed.j1])
            | succ kj10 =>
              have H := HA.out
              clear HA
              simp only [valiselaw09_InflateUsed.j1] at H
              by_cases c14 : x51_10 = true
              · subst c14
                have H1 : (some false) = some r := by rw [if_pos rfl] at H; exact H
                clear H
                have H := H1
                clear H1
                obtain rfl := Option.some.inj H
                cases hrt
              · replace c14 := Bool.eq_false_iff.mpr c14
                subst c14
                have H1 : ((some (([] : List Int) : List Int)).bind fun y118 => (if 0 ≤ t113 then (if t113 ≤ (l0.length : Int) then (if y118.length + (l0.take (t113 : Int).toNat).length < 140737488355328 then ((some (y118 ++ (l0.take (t113 : Int).toNat) : List Int)).bind fun y122 => (if y122.length + l2.length < 140737488355328 then ((inflate_Decode.f (y122 ++ l2) a1).bind fun bt128 => ((some (([] : List Int) : List Int)).bind fun y133 => (if 0 ≤ (wrap64 (t113 - 1)) then (if (wrap64 (t113 - 1)) ≤ (l0.length : Int) then (if y133.length + (l0.take ((wrap64 (t113 - 1)) : Int).toNat).length < 140737488355328 then ((inflate_Decode.f (y133 ++ (l0.take ((wrap64 (t113 - 1)) : Int).toNat)) a1).bind fun bt140 => (if (strOfNums t112).toList = (strOfNums bt128.1).toList then (if bt128.2.1 = t113 then (if bt128.2.2 = 0 then (if (bt140.1.length : Int) = 0 then (if bt140.2.1 = 0 then (if bt140.2.2 = 4 then ((valiselaw09_lives.f).bind fun t145 => (some t145)) else (some false)) else (some false)) else (some false)) else (some false)) else (some false)) else (some false))) else (none)) else (none)) else (none)))) else (none))) else (none)) else (none)) else (none))) = some r := by rw [if_neg (show ¬ (false = true) by decide)] at H; exact H
                clear H
                have H := H1
                clear H1
                obtain ⟨y118, hy118⟩ : ∃ y_ : List Int, y_ = (([] : List Int)) := ⟨_, rfl⟩
                replace H : (if 0 ≤ t113 then (if t113 ≤ (l0.length : Int) then (if y118.length + (l0.take (t113 : Int).toNat).length < 140737488355328 then ((some (y118 ++ (l0.take (t113 : Int).toNat) : List Int)).bind fun y122 => (if y122.length + l2.length < 140737488355328 then ((inflate_Decode.f (y122 ++ l2) a1).bind fun bt128 => ((some (([] : List Int) : List Int)).bind fun y133 => (if 0 ≤ (wrap64 (t113 - 1)) then (if (wrap64 (t113 - 1)) ≤ (l0.length : Int) then (if y133.length + (l0.take ((wrap64 (t113 - 1)) : Int).toNat).length < 140737488355328 then ((inflate_Decode.f (y133 ++ (l0.take ((wrap64 (t113 - 1)) : Int).toNat)) a1).bind fun bt140 => (if (strOfNums t112).toList = (strOfNums bt128.1).toList then (if bt128.2.1 = t113 then (if bt128.2.2 = 0 then (if (bt140.1.length : Int) = 0 then (if bt140.2.1 = 0 then (if bt140.2.2 = 4 then ((valiselaw09_lives.f).bind fun t145 => (some t145)) else (some false)) else (some false)) else (some false)) else (some false)) else (some false)) else (some false))) else (none)) else (none)) else (none)))) else (none))) else (none)) else (none)) else (none)) = some r := by first | (rw [hy118]; with_reducible exact H) | (have H2_ := (Option.bind_some _ _).symm.trans H; rw [hy118]; with_reducible exact H2_) | (have H2_ := (Option.bind_some _ _).symm.trans H; with_reducible exact H2_) | with_reducible exact H | (rw [hy118]; exact H) | exact H
                have Ny118 := Aside0.mk hy118
                clear hy118
                by_cases c15 : 0 ≤ t113
                · rw [if_pos c15] at H
                  have c15b0 := eq_true c15
                  have c15b1 : decide (0 ≤ t113) = true := decide_eq_true c15
                  clear c15
                  by_cases c16 : t113 ≤ (l0.length : Int)
                  · rw [if_pos c16] at H
                    have c16b0 := eq_true c16
                    have c16b1 : decide (t113 ≤ (l0.length : Int)) = true := decide_eq_true c16
                    clear c16
                    by_cases c17 : y118.length + (l0.take (t113 : Int).toNat).length < 140737488355328
                    · rw [if_pos c17] at H
                      have LMc17 := Aside0.mk c17
                      clear c17
                      obtain ⟨y122, hy122⟩ : ∃ y_ : List Int, y_ = (y118 ++ (l0.take (t113 : Int).toNat)) := ⟨_, rfl⟩
                      replace H : (if y122.length + l2.length < 140737488355328 then ((inflate_Decode.f (y122 ++ l2) a1).bind fun bt128 => ((some (([] : List Int) : List Int)).bind fun y133 => (if 0 ≤ (wrap64 (t113 - 1)) then (if (wrap64 (t113 - 1)) ≤ (l0.length : Int) then (if y133.length + (l0.take ((wrap64 (t113 - 1)) : Int).toNat).length < 140737488355328 then ((inflate_Decode.f (y133 ++ (l0.take ((wrap64 (t113 - 1)) : Int).toNat)) a1).bind fun bt140 => (if (strOfNums t112).toList = (strOfNums bt128.1).toList then (if bt128.2.1 = t113 then (if bt128.2.2 = 0 then (if (bt140.1.length : Int) = 0 then (if bt140.2.1 = 0 then (if bt140.2.2 = 4 then ((valiselaw09_lives.f).bind fun t145 => (some t145)) else (some false)) else (some false)) else (some false)) else (some false)) else (some false)) else (some false))) else (none)) else (none)) else (none)))) else (none)) = some r := by first | (rw [hy122]; with_reducible exact H) | (have H2_ := (Option.bind_some _ _).symm.trans H; rw [hy122]; with_reducible exact H2_) | (have H2_ := (Option.bind_some _ _).symm.trans H; with_reducible exact H2_) | with_reducible exact H | (rw [hy122]; exact H) | exact H
                      have Ny122 := Aside0.mk hy122
                      clear hy122
                      by_cases c18 : y122.length + l2.length < 140737488355328
                      · rw [if_pos c18] at H
                        have LMc18 := Aside0.mk c18
                        clear c18
                        obtain ⟨y125, hy125⟩ : ∃ y_ : List Int, y_ = (y122 ++ l2) := ⟨_, rfl⟩
                        replace H : ((inflate_Decode.f y125 a1).bind fun bt128 => ((some (([] : List Int) : List Int)).bind fun y133 => (if 0 ≤ (wrap64 (t113 - 1)) then (if (wrap64 (t113 - 1)) ≤ (l0.length : Int) then (if y133.length + (l0.take ((wrap64 (t113 - 1)) : Int).toNat).length < 140737488355328 then ((inflate_Decode.f (y133 ++ (l0.take ((wrap64 (t113 - 1)) : Int).toNat)) a1).bind fun bt140 => (if (strOfNums t112).toList = (strOfNums bt128.1).toList then (if bt128.2.1 = t113 then (if bt128.2.2 = 0 then (if (bt140.1.length : Int) = 0 then (if bt140.2.1 = 0 then (if bt140.2.2 = 4 then ((valiselaw09_lives.f).bind fun t145 => (some t145)) else (some false)) else (some false)) else (some false)) else (some false)) else (some false)) else (some false))) else (none)) else (none)) else (none)))) = some r := by first | (rw [hy125]; with_reducible exact H) | (have H2_ := (Option.bind_some _ _).symm.trans H; rw [hy125]; with_reducible exact H2_) | (have H2_ := (Option.bind_some _ _).symm.trans H; with_reducible exact H2_) | with_reducible exact H | (rw [hy125]; exact H) | exact H
                        have Ny125 := Aside0.mk hy125
                        clear hy125
                        replace H := Option.bind_eq_some_iff.mp H
                        obtain ⟨⟨t128, t129, t130⟩, A190, H⟩ := H
                        replace H : ((some (([] : List Int) : List Int)).bind fun y133 => (if 0 ≤ (wrap64 (t113 - 1)) then (if (wrap64 (t113 - 1)) ≤ (l0.length : Int) then (if y133.length + (l0.take ((wrap64 (t113 - 1)) : Int).toNat).length < 140737488355328 then ((inflate_Decode.f (y133 ++ (l0.take ((wrap64 (t113 - 1)) : Int).toNat)) a1).bind fun bt140 => (if (strOfNums t112).toList = (strOfNums t128).toList then (if t129 = t113 then (if t130 = 0 then (if (bt140.1.length : Int) = 0 then (if bt140.2.1 = 0 then (if bt140.2.2 = 4 then ((valiselaw09_lives.f).bind fun t145 => (some t145)) else (some false)) else (some false)) else (some false)) else (some false)) else (some false)) else (some false))) else (none)) else (none)) else (none))) = some r := H
                        have A19 := Aside0.mk A190
                        clear A190
                        obtain ⟨y133, hy133⟩ : ∃ y_ : List Int, y_ = (([] : List Int)) := ⟨_, rfl⟩
                        replace H : (if 0 ≤ (wrap64 (t113 - 1)) then (if (wrap64 (t113 - 1)) ≤ (l0.length : Int) then (if y133.length + (l0.take ((wrap64 (t113 - 1)) : Int).toNat).length < 140737488355328 then ((inflate_Decode.f (y133 ++ (l0.take ((wrap64 (t113 - 1)) : Int).toNat)) a1).bind fun bt140 => (if (strOfNums t112).toList = (strOfNums t128).toList then (if t129 = t113 then (if t130 = 0 then (if (bt140.1.length : Int) = 0 then (if bt140.2.1 = 0 then (if bt140.2.2 = 4 then ((valiselaw09_lives.f).bind fun t145 => (some t145)) else (some false)) else (some false)) else (some false)) else (some false)) else (some false)) else (some false))) else (none)) else (none)) else (none)) = some r := by first | (rw [hy133]; with_reducible exact H) | (have H2_ := (Option.bind_some _ _).symm.trans H; rw [hy133]; with_reducible exact H2_) | (have H2_ := (Option.bind_some _ _).symm.trans H; with_reducible exact H2_) | with_reducible exact H | (rw [hy133]; exact H) | exact H
                        have Ny133 := Aside0.mk hy133
                        clear hy133
                        obtain ⟨ji20, hji20⟩ : ∃ j_ : Int, (wrap64 (t113 - 1)) = j_ := ⟨_, rfl⟩
                        replace H : (if 0 ≤ (ji20) then (if (ji20) ≤ (l0.length : Int) then (if y133.length + (l0.take ((ji20) : Int).toNat).length < 140737488355328 then ((inflate_Decode.f (y133 ++ (l0.take ((ji20) : Int).toNat)) a1).bind fun bt140 => (if (strOfNums t112).toList = (strOfNums t128).toList then (if t129 = t113 then (if t130 = 0 then (if (bt140.1.length : Int) = 0 then (if bt140.2.1 = 0 then (if bt140.2.2 = 4 then ((valiselaw09_lives.f).bind fun t145 => (some t145)) else (some false)) else (some false)) else (some false)) else (some false)) else (some false)) else (some false))) else (none)) else (none)) else (none)) = some r := by first | (rw [hji20] at H; exact H) | (simp only [hji20] at H ⊢; exact H)
                        (try rw [hji20] at A19)
                        have hji20w : (IntKind.i64.wrap (t113 - 1)) = ji20 := (i64_w _).trans hji20
                        by_cases c21 : 0 ≤ (ji20)
                        · rw [if_pos c21] at H
                          have c21b0 := eq_true c21
                          have c21b1 : decide (0 ≤ (ji20)) = true := decide_eq_true c21
                          clear c21
                          by_cases c22 : (ji20) ≤ (l0.length : Int)
                          · rw [if_pos c22] at H
                            have c22b0 := eq_true c22
                            have c22b1 : decide ((ji20) ≤ (l0.length : Int)) = true := decide_eq_true c22
                            clear c22
                            by_cases c23 : y133.length + (l0.take ((ji20) : Int).toNat).length < 140737488355328
                            · rw [if_pos c23] at H
                              have LMc23 := Aside0.mk c23
                              clear c23
                              obtain ⟨y137, hy137⟩ : ∃ y_ : List Int, y_ = (y133 ++ (l0.take ((ji20) : Int).toNat)) := ⟨_, rfl⟩
                              replace H : ((inflate_Decode.f y137 a1).bind fun bt140 => (if (strOfNums t112).toList = (strOfNums t128).toList then (if t129 = t113 then (if t130 = 0 then (if (bt140.1.length : Int) = 0 then (if bt140.2.1 = 0 then (if bt140.2.2 = 4 then ((valiselaw09_lives.f).bind fun t145 => (some t145)) else (some false)) else (some false)) else (some false)) else (some false)) else (some false)) else (some false))) = some r := by first | (rw [hy137]; with_reducible exact H) | (have H2_ := (Option.bind_some _ _).symm.trans H; rw [hy137]; with_reducible exact H2_) | (have H2_ := (Option.bind_some _ _).symm.trans H; with_reducible exact H2_) | with_reducible exact H | (rw [hy137]; exact H) | exact H
                              have Ny137 := Aside0.mk hy137
                              clear hy137
                              replace H := Option.bind_eq_some_iff.mp H
                              obtain ⟨⟨t140, t141, t142⟩, A240, H⟩ := H
                              replace H : (if (strOfNums t112).toList = (strOfNums t128).toList then (if t129 = t113 then (if t130 = 0 then (if (t140.length : Int) = 0 then (if t141 = 0 then (if t142 = 4 then ((valiselaw09_lives.f).bind fun t145 => (some t145)) else (some false)) else (some false)) else (some false)) else (some false)) else (some false)) else (some false)) = some r := H
                              have A24 := Aside0.mk A240
                              clear A240
                              by_cases c25 : (strOfNums t112).toList = (strOfNums t128).toList
                              · rw [if_pos c25] at H
                                have c25b0 : ((strOfNums t112).toList == (strOfNums t128).toList) = true := beq_iff_eq.mpr c25
                                have c25b1 : ((strOfNums t112).toList != (strOfNums t128).toList) = false := bne_eq_false_iff_eq.mpr c25
                                clear c25
                                by_cases c26 : t129 = t113
                                · rw [if_pos c26] at H
                                  have c26b0 : (t129 == t113) = true := beq_iff_eq.mpr c26
                                  have c26b1 : (t129 != t113) = false := bne_eq_false_iff_eq.mpr c26
                                  clear c26
                                  by_cases c27 : t130 = 0
                                  · rw [if_pos c27] at H
                                    have c27b0 : (t130 == 0) = true := beq_iff_eq.mpr c27
                                    have c27b1 : (t130 != 0) = false := bne_eq_false_iff_eq.mpr c27
                                    clear c27
                                    by_cases c28 : (t140.length : Int) = 0
                                    · rw [if_pos c28] at H
                                      have c28b0 : ((t140.length : Int) == 0) = true := beq_iff_eq.mpr c28
                                      have c28b1 : ((t140.length : Int) != 0) = false := bne_eq_false_iff_eq.mpr c28
                                      clear c28
                                      by_cases c29 : t141 = 0
                                      · rw [if_pos c29] at H
                                        have c29b0 : (t141 == 0) = true := beq_iff_eq.mpr c29
                                        have c29b1 : (t141 != 0) = false := bne_eq_false_iff_eq.mpr c29
                                        clear c29
                                        by_cases c30 : t142 = 4
                                        · rw [if_pos c30] at H
                                          have c30b0 : (t142 == 4) = true := beq_iff_eq.mpr c30
                                          have c30b1 : (t142 != 4) = false := bne_eq_false_iff_eq.mpr c30
                                          clear c30
                                          replace H := Option.bind_eq_some_iff.mp H
                                          obtain ⟨t145, A310, H⟩ := H
                                          replace H : (some t145) = some r := H
                                          have A31 := Aside0.mk A310
                                          clear A310
                                          obtain rfl := Option.some.inj H
                                          go_wp2_with (first | ((with_reducible refine gate_dst (N := 53) rfl ?_); (try (refine gate_guard (by rfl) ?_; dsimp only)); refine Kd.R_lit (Kd.int .u8) _ 5 ?hg (N := 53) ?hd (xs := ([] : List Int)) (inner := []) (ok := fun _ => True) (okp := fun _ => True) ?hr ?hp (fun _ hk => hk) trivial (Below.refl _ _) (Nat.le_refl _) (by simp) ?_; (case hd => rfl); (case hg => rfl); (case hr => first | (go_simp; done) | (go_simp; rfl)); (case hp => exact (Reps.none _ _)); intro v119 w32 ho33 hb hg_ hnew_; clear hg_ hnew_; (first | rw [← Ny118.out] at ho33 | (simp only [Int.reduceToNat] at ho33; rw [← Ny118.out] at ho33)); have n0_ := Aside0.mk (Kd.R_elder' (by (with_reducible repeat (first | apply Kd.R_alloc | apply Kd.R_drewN | apply Kd.R_drew)); exact HO_7.out) (Kd.R_base ho33) hb); have n1_ := Aside0.mk (Kd.R_lower (Kd.R_new' ho33 (Kd.R_lt (by (with_reducible repeat (first | apply Kd.R_alloc | apply Kd.R_drewN | apply Kd.R_drew)); exact HO_7.out))) (below_size (by repeat (first | (with_reducible first | exact HB.out | apply below_alloc | apply pw_below_drewN | apply below_drew1) | exact HB.out)))); have n2_ := Aside0.mk (below_step (by repeat (first | (with_reducible first | exact HB.out | apply below_alloc | apply pw_below_drewN | apply below_drew1) | exact HB.out)) hb); clear HO_7; clear HB; have HO_7 := n0_; have HO120 := n1_; have HB := n2_; clear n0_ n1_ n2_; clear hb ho33; obtain ⟨i034, hi034, _, hsz34, _⟩ := info_parts info5; obtain ⟨hcut34, hA34, hC34⟩ := print_take_of (P := Tryd.prog) (Value.int .u8) 0 22 5 .i64 Tryd.underlying22 hi034 hsz34 A0 c0 l0 t113 (of_decide_eq_true (by first | (with_reducible assumption) | assumption)) (of_decide_eq_true (by first | (with_reducible assumption) | assumption)) HC0.out; have HR121 := Aside0.mk (Kd.C_of_reads (h1 := fun _ => rfl) (hA34 _ (Kd.reads_of_C HR0.out))); have HC121 := Aside0.mk hC34; clear hA34 hC34 hi034 hsz34) | ((with_reducible refine gate_builtin (b := .append) (xs := #[.tmp 53, .tmp 56]) rfl ?_); (try (refine gate_guard (by rfl) ?_; dsimp only)); at_builtin; refine Kd.R_append_rows (Kd.int .u8) (w0 := w) w.heap.size rfl (.tmp 53) (.tmp 56) 22 5 (.int .u8 0) 1 rfl Tryd.underlying22 info5 rfl (by decide) (by omega) v119 y118 (l0.take (t113 : Int).toNat) _ _ _ (fun k_ => some k_ ≠ (v115 : Value).ownBlock) (fun _ => False) rfl rfl ?aO ?aR (fun _ _ h => h) (fun _ h => h.elim) ?aF ?aB ?aS ?aL ?_; (case aR => first | (have hC_ := HR121.out; rw [show (l0.take (t113 : Int).toNat).length = t113.toNat from (by rw [List.length_take]; have h_ : (t113 : Int) ≤ (l0.length : Int) := of_decide_eq_true (by first | (with_reducible assumption) | assumption); omega)] at hC_; repeat (first | exact (Kd.C_below hC_ HB.out) | (with_reducible refine Kd.C_alloc ?_ _) | (with_reducible refine Kd.C_drewN ?_ _) | (with_reducible refine Kd.C_drew ?_)); done) | (rw [← show (l0.take (t113 : Int).toNat).length = t113.toNat from (by rw [List.length_take]; have h_ : (t113 : Int) ≤ (l0.length : Int) := of_decide_eq_true (by first | (with_reducible assumption) | assumption); omega)]; repeat (first | exact (Kd.C_below HR121.out HB.out) | (with_reducible refine Kd.C_alloc ?_ _) | (with_reducible refine Kd.C_drewN ?_ _) | (with_reducible refine Kd.C_drew ?_))) | (repeat (first | exact (Kd.C_below HR121.out HB.out) | (with_reducible refine Kd.C_alloc ?_ _) | (with_reducible refine Kd.C_drewN ?_ _) | (with_reducible refine Kd.C_drew ?_)))); (case aB => exact (by repeat (first | (with_reducible first | exact HB.out | apply below_alloc | apply pw_below_drewN | apply below_drew1) | exact HB.out))); (case aF => exact (fun k_ hk => Kd.fresh' (Kd.R_lt (by (with_reducible repeat (first | apply Kd.R_alloc | apply Kd.R_drewN | apply Kd.R_drew)); exact HO_7.out)) k_ hk)); (case aO => exact (by (with_reducible repeat (first | apply Kd.R_alloc | apply Kd.R_drewN | apply Kd.R_drew)); exact Kd.R_mono HO120.out (fun _ hk => hk.2))); (case aS => exact (below_size (by repeat (first | (with_reducible first | exact HB.out | apply below_alloc | apply pw_below_drewN | apply below_drew1) | exact HB.out)))); (case aL => have := LMc17.out; have hlx_ := (show (l0.take (t113 : Int).toNat).length = t113.toNat from (by rw [List.length_take]; have h_ : (t113 : Int) ≤ (l0.length : Int) := of_decide_eq_true (by first | (with_reducible assumption) | assumption); omega)); omega); intro v123 w35 ho hb hg hat; rw [← Ny122.out] at ho; have n0_ := Aside0.mk (Kd.R_after (ok := (fun _ => True)) (by (with_reducible repeat (first | apply Kd.R_alloc | apply Kd.R_drewN | apply Kd.R_drew)); exact HO_7.out) hg hat); have n1_ := Aside0.mk (hb); have n2_ := Aside0.mk (ho); clear HO_7; clear HB; clear HO120; have HO_7 := n0_; have HB := n1_; have HO124 := n2_; clear n0_ n1_ n2_; clear ho hb hg hat) | ((with_reducible refine gate_builtin (b := .append) (xs := #[.tmp 57, .tmp 58]) rfl ?_); (try (refine gate_guard (by rfl) ?_; dsimp only)); at_builtin; refine Kd.R_append_rows (Kd.int .u8) (w0 := w) w.heap.size rfl (.tmp 57) (.tmp 58) 22 5 (.int .u8 0) 1 rfl Tryd.underlying22 info5 rfl (by decide) (by omega) v123 y122 l2 _ _ _ (fun k_ => some k_ ≠ (v115 : Value).ownBlock) (fun _ => False) rfl rfl ?aO ?aR (fun _ _ h => h) (fun _ h => h.elim) ?aF ?aB ?aS ?aL ?_; (case aR => repeat (first | exact (Kd.C_below HR2.out HB.out) | (with_reducible refine Kd.C_alloc ?_ _) | (with_reducible refine Kd.C_drewN ?_ _) | (with_reducible refine Kd.C_drew ?_))); (case aB => exact (by repeat (first | (with_reducible first | exact HB.out | apply below_alloc | apply pw_below_drewN | apply below_drew1) | exact HB.out))); (case aF => exact (fun k_ hk => Kd.fresh' (Kd.R_lt (by (with_reducible repeat (first | apply Kd.R_alloc | apply Kd.R_drewN | apply Kd.R_drew)); exact HO_7.out)) k_ hk)); (case aO => exact (by (with_reducible repeat (first | apply Kd.R_alloc | apply Kd.R_drewN | apply Kd.R_drew)); exact HO124.out)); (case aS => exact (below_size (by repeat (first | (with_reducible first | exact HB.out | apply below_alloc | apply pw_below_drewN | apply below_drew1) | exact HB.out)))); (case aL => have := LMc18.out; omega); intro v126 w36 ho hb hg hat; rw [← Ny125.out] at ho; have n0_ := Aside0.mk (Kd.R_after (ok := (fun _ => True)) (by (with_reducible repeat (first | apply Kd.R_alloc | apply Kd.R_drewN | apply Kd.R_drew)); exact HO_7.out) hg hat); have n1_ := Aside0.mk (hb); have n2_ := Aside0.mk (ho); clear HO_7; clear HB; clear HO124; have HO_7 := n0_; have HB := n1_; have HO127 := n2_; clear n0_ n1_ n2_; clear ho hb hg hat; obtain ⟨Ao37, co37, eo37⟩ := Kd.R_slice HO127.out; subst eo37) | ((with_reducible refine gate_callee (f := 8) rfl ?_); refine goesL_ (some 61) rfl rfl Tryd.func8 (by kernel_rfl) rfl #[.slice Ao37 y125.length co37, .int .i64 a1] rfl (by (try simp only [List.map_toArray, List.map_cons, List.map_nil]); first | done | rfl | (simp only [List.length_drop, List.length_take]; rfl)) ?_; (with_reducible refine (inflate_Decode.calls _ _ y125 a1 t128 t129 t130 _ ?side1 ?side2 A19.out (Pr.Handle.on HGH.out (by repeat (first | (with_reducible first | exact HB.out | apply below_alloc | apply pw_below_drewN | apply below_drew1) | exact HB.out)) (Pr.Handle.pos HGH.out))).mono ?_); (case side1 => repeat (first | exact (Kd.R_reads' HO127.out).2.2 | (with_reducible refine Kd.C_alloc ?_ _) | (with_reducible refine Kd.C_drewN ?_ _) | (with_reducible refine Kd.C_drew ?_))); (case side2 => exact (Kd.R_reads' HO127.out).2.1); rintro e w38 ⟨v131, rfl, ho0, hb⟩; refine ⟨_, rfl, ?_⟩; have n0_ := Aside0.mk (Kd.R_elder' (by (with_reducible repeat (first | apply Kd.R_alloc | apply Kd.R_drewN | apply Kd.R_drew)); exact HO_7.out) (Kd.R_base ho0) hb); have n1_ := Aside0.mk (Kd.R_elder' (by (with_reducible repeat (first | apply Kd.R_alloc | apply Kd.R_drewN | apply Kd.R_drew)); exact HO127.out) (Kd.R_base ho0) hb); have n2_ := Aside0.mk (Kd.R_lower (Kd.R_new' (Kd.R_new' ho0 (Kd.R_lt (by (with_reducible repeat (first | apply Kd.R_alloc | apply Kd.R_drewN | apply Kd.R_drew)); exact HO_7.out))) (Kd.R_lt (by (with_reducible repeat (first | apply Kd.R_alloc | apply Kd.R_drewN | apply Kd.R_drew)); exact HO127.out))) (below_size (by repeat (first | (with_reducible first | exact HB.out | apply below_alloc | apply pw_below_drewN | apply below_drew1) | exact HB.out)))); have n3_ := Aside0.mk (below_step (by repeat (first | (with_reducible first | exact HB.out | apply below_alloc | apply pw_below_drewN | apply below_drew1) | exact HB.out)) hb); clear HO_7; clear HO127; clear HB; have HO_7 := n0_; have HO127 := n1_; have HO132 := n2_; have HB := n3_; clear n0_ n1_ n2_ n3_; (try clear hb); (try clear hb2); (try clear hk); (try clear hi); (try clear ho0)) | ((with_reducible refine gate_dst (N := 66) rfl ?_); (try (refine gate_guard (by rfl) ?_; dsimp only)); refine Kd.R_lit (Kd.int .u8) _ 5 ?hg (N := 66) ?hd (xs := ([] : List Int)) (inner := []) (ok := fun _ => True) (okp := fun _ => True) ?hr ?hp (fun _ hk => hk) trivial (Below.refl _ _) (Nat.le_refl _) (by simp) ?_; (case hd => rfl); (case hg => rfl); (case hr => first | (go_simp; done) | (go_simp; rfl)); (case hp => exact (Reps.none _ _)); intro v134 w39 ho40 hb hg_ hnew_; clear hg_ hnew_; (first | rw [← Ny133.out] at ho40 | (simp only [Int.reduceToNat] at ho40; rw [← Ny133.out] at ho40)); have n0_ := Aside0.mk (Kd.R_elder' (by (with_reducible repeat (first | apply Kd.R_alloc | apply Kd.R_drewN | apply Kd.R_drew)); exact HO_7.out) (Kd.R_base ho40) hb); have n1_ := Aside0.mk (Kd.R_elder' (by (with_reducible repeat (first | apply Kd.R_alloc | apply Kd.R_drewN | apply Kd.R_drew)); exact HO127.out) (Kd.R_base ho40) hb); have n2_ := Aside0.mk (Kd.R_elder' (by (with_reducible repeat (first | apply Kd.R_alloc | apply Kd.R_drewN | apply Kd.R_drew)); exact HO132.out) (Kd.R_base ho40) hb); have n3_ := Aside0.mk (Kd.R_lower (Kd.R_new' (Kd.R_new' (Kd.R_new' ho40 (Kd.R_lt (by (with_reducible repeat (first | apply Kd.R_alloc | apply Kd.R_drewN | apply Kd.R_drew)); exact HO_7.out))) (Kd.R_lt (by (with_reducible repeat (first | apply Kd.R_alloc | apply Kd.R_drewN | apply Kd.R_drew)); exact HO127.out))) (Kd.R_lt (by (with_reducible repeat (first | apply Kd.R_alloc | apply Kd.R_drewN | apply Kd.R_drew)); exact HO132.out))) (below_size (by repeat (first | (with_reducible first | exact HB.out | apply below_alloc | apply pw_below_drewN | apply below_drew1) | exact HB.out)))); have n4_ := Aside0.mk (below_step (by repeat (first | (with_reducible first | exact HB.out | apply below_alloc | apply pw_below_drewN | apply below_drew1) | exact HB.out)) hb); clear HO_7; clear HO127; clear HO132; clear HB; have HO_7 := n0_; have HO127 := n1_; have HO132 := n2_; have HO135 := n3_; have HB := n4_; clear n0_ n1_ n2_ n3_ n4_; clear hb ho40; obtain ⟨i041, hi041, _, hsz41, _⟩ := info_parts info5; obtain ⟨hcut41, hA41, hC41⟩ := print_take_of (P := Tryd.prog) (Value.int .u8) 0 22 5 .i64 Tryd.underlying22 hi041 hsz41 A0 c0 l0 (ji20) (of_decide_eq_true (by first | (with_reducible assumption) | assumption)) (of_decide_eq_true (by first | (with_reducible assumption) | assumption)) HC0.out; have HR136 := Aside0.mk (Kd.C_of_reads (h1 := fun _ => rfl) (hA41 _ (Kd.reads_of_C HR0.out))); have HC136 := Aside0.mk hC41; clear hA41 hC41 hi041 hsz41) | ((with_reducible refine gate_builtin (b := .append) (xs := #[.tmp 66, .tmp 70]) rfl ?_); (try (refine gate_guard (by rfl) ?_; dsimp only)); at_builtin; refine Kd.R_append_rows (Kd.int .u8) (w0 := w) w.heap.size rfl (.tmp 66) (.tmp 70) 22 5 (.int .u8 0) 1 rfl Tryd.underlying22 info5 rfl (by decide) (by omega) v134 y133 (l0.take ((ji20) : Int).toNat) _ _ _ (fun k_ => some k_ ≠ (v115 : Value).ownBlock ∧ some k_ ≠ (.slice Ao37 y125.length co37 : Value).ownBlock ∧ some k_ ≠ (v131 : Value).ownBlock) (fun _ => False) rfl rfl ?aO ?aR (fun _ _ h => h) (fun _ h => h.elim) ?aF ?aB ?aS ?aL ?_; (case aR => first | (have hC_ := HR136.out; rw [show (l0.take ((ji20) : Int).toNat).length = (ji20).toNat from (by rw [List.length_take]; have h_ : ((ji20) : Int) ≤ (l0.length : Int) := of_decide_eq_true (by first | (with_reducible assumption) | assumption); omega)] at hC_; repeat (first | exact (Kd.C_below hC_ HB.out) | (with_reducible refine Kd.C_alloc ?_ _) | (with_reducible refine Kd.C_drewN ?_ _) | (with_reducible refine Kd.C_drew ?_)); done) | (rw [← show (l0.take ((ji20) : Int).toNat).length = (ji20).toNat from (by rw [List.length_take]; have h_ : ((ji20) : Int) ≤ (l0.length : Int) := of_decide_eq_true (by first | (with_reducible assumption) | assumption); omega)]; repeat (first | exact (Kd.C_below HR136.out HB.out) | (with_reducible refine Kd.C_alloc ?_ _) | (with_reducible refine Kd.C_drewN ?_ _) | (with_reducible refine Kd.C_drew ?_))) | (repeat (first | exact (Kd.C_below HR136.out HB.out) | (with_reducible refine Kd.C_alloc ?_ _) | (with_reducible refine Kd.C_drewN ?_ _) | (with_reducible refine Kd.C_drew ?_)))); (case aB => exact (by repeat (first | (with_reducible first | exact HB.out | apply below_alloc | apply pw_below_drewN | apply below_drew1) | exact HB.out))); (case aF => exact (fun k_ hk => ⟨Kd.fresh' (Kd.R_lt (by (with_reducible repeat (first | apply Kd.R_alloc | apply Kd.R_drewN | apply Kd.R_drew)); exact HO_7.out)) k_ hk, Kd.fresh' (Kd.R_lt (by (with_reducible repeat (first | apply Kd.R_alloc | apply Kd.R_drewN | apply Kd.R_drew)); exact HO127.out)) k_ hk, Kd.fresh' (Kd.R_lt (by (with_reducible repeat (first | apply Kd.R_alloc | apply Kd.R_drewN | apply Kd.R_drew)); exact HO132.out)) k_ hk⟩)); (case aO => exact (by (with_reducible repeat (first | apply Kd.R_alloc | apply Kd.R_drewN | apply Kd.R_drew)); exact Kd.R_mono HO135.out (fun _ hk => ⟨hk.1.1.2, ⟨hk.1.2, hk.2⟩⟩))); (case aS => exact (below_size (by repeat (first | (with_reducible first | exact HB.out | apply below_alloc | apply pw_below_drewN | apply below_drew1) | exact HB.out)))); (case aL => have := LMc23.out; have hlx_ := (show (l0.take ((ji20) : Int).toNat).length = (ji20).toNat from (by rw [List.length_take]; have h_ : ((ji20) : Int) ≤ (l0.length : Int) := of_decide_eq_true (by first | (with_reducible assumption) | assumption); omega)); omega); intro v138 w42 ho hb hg hat; rw [← Ny137.out] at ho; have n0_ := Aside0.mk (Kd.R_after (ok := (fun k_ => some k_ ≠ (.slice Ao37 y125.length co37 : Value).ownBlock ∧ some k_ ≠ (v131 : Value).ownBlock)) (by (with_reducible repeat (first | apply Kd.R_alloc | apply Kd.R_drewN | apply Kd.R_drew)); exact Kd.R_mono HO_7.out (fun _ hk => ⟨⟨hk.1.1.2, hk.1.2⟩, hk.2⟩)) hg hat); have n1_ := Aside0.mk (Kd.R_after (ok := (fun k_ => some k_ ≠ (v115 : Value).ownBlock ∧ some k_ ≠ (v131 : Value).ownBlock)) (by (with_reducible repeat (first | apply Kd.R_alloc | apply Kd.R_drewN | apply Kd.R_drew)); exact HO127.out) hg hat); have n2_ := Aside0.mk (Kd.R_after (ok := (fun k_ => some k_ ≠ (v115 : Value).ownBlock ∧ some k_ ≠ (.slice Ao37 y125.length co37 : Value).ownBlock)) (by (with_reducible repeat (first | apply Kd.R_alloc | apply Kd.R_drewN | apply Kd.R_drew)); exact Kd.R_mono HO132.out (fun _ hk => ⟨⟨hk.1.1.2, hk.1.2⟩, hk.2⟩)) hg hat); have n3_ := Aside0.mk (hb); have n4_ := Aside0.mk (ho); clear HO_7; clear HO127; clear HO132; clear HB; clear HO135; have HO_7 := n0_; have HO127 := n1_; have HO132 := n2_; have HB := n3_; have HO139 := n4_; clear n0_ n1_ n2_ n3_ n4_; clear ho hb hg hat; obtain ⟨Ao43, co43, eo43⟩ := Kd.R_slice HO139.out; subst eo43) | ((with_reducible refine gate_callee (f := 8) rfl ?_); refine goesL_ (some 73) rfl rfl Tryd.func8 (by kernel_rfl) rfl #[.slice Ao43 y137.length co43, .int .i64 a1] rfl (by (try simp only [List.map_toArray, List.map_cons, List.map_nil]); first | done | rfl | (simp only [List.length_drop, List.length_take]; rfl)) ?_; (with_reducible refine (inflate_Decode.calls _ _ y137 a1 t140 t141 t142 _ ?side1 ?side2 A24.out (Pr.Handle.on HGH.out (by repeat (first | (with_reducible first | exact HB.out | apply below_alloc | apply pw_below_drewN | apply below_drew1) | exact HB.out)) (Pr.Handle.pos HGH.out))).mono ?_); (case side1 => repeat (first | exact (Kd.R_reads' HO139.out).2.2 | (with_reducible refine Kd.C_alloc ?_ _) | (with_reducible refine Kd.C_drewN ?_ _) | (with_reducible refine Kd.C_drew ?_))); (case side2 => exact (Kd.R_reads' HO139.out).2.1); rintro e w44 ⟨v143, rfl, ho0, hb⟩; refine ⟨_, rfl, ?_⟩; have n0_ := Aside0.mk (Kd.R_elder' (by (with_reducible repeat (first | apply Kd.R_alloc | apply Kd.R_drewN | apply Kd.R_drew)); exact HO_7.out) (Kd.R_base ho0) hb); have n1_ := Aside0.mk (Kd.R_elder' (by (with_reducible repeat (first | apply Kd.R_alloc | apply Kd.R_drewN | apply Kd.R_drew)); exact HO127.out) (Kd.R_base ho0) hb); have n2_ := Aside0.mk (Kd.R_elder' (by (with_reducible repeat (first | apply Kd.R_alloc | apply Kd.R_drewN | apply Kd.R_drew)); exact HO132.out) (Kd.R_base ho0) hb); have n3_ := Aside0.mk (Kd.R_elder' (by (with_reducible repeat (first | apply Kd.R_alloc | apply Kd.R_drewN | apply Kd.R_drew)); exact HO139.out) (Kd.R_base ho0) hb); have n4_ := Aside0.mk (Kd.R_lower (Kd.R_new' (Kd.R_new' (Kd.R_new' (Kd.R_new' ho0 (Kd.R_lt (by (with_reducible repeat (first | apply Kd.R_alloc | apply Kd.R_drewN | apply Kd.R_drew)); exact HO_7.out))) (Kd.R_lt (by (with_reducible repeat (first | apply Kd.R_alloc | apply Kd.R_drewN | apply Kd.R_drew)); exact HO127.out))) (Kd.R_lt (by (with_reducible repeat (first | apply Kd.R_alloc | apply Kd.R_drewN | apply Kd.R_drew)); exact HO132.out))) (Kd.R_lt (by (with_reducible repeat (first | apply Kd.R_alloc | apply Kd.R_drewN | apply Kd.R_drew)); exact HO139.out))) (below_size (by repeat (first | (with_reducible first | exact HB.out | apply below_alloc | apply pw_below_drewN | apply below_drew1) | exact HB.out)))); have n5_ := Aside0.mk (below_step (by repeat (first | (with_reducible first | exact HB.out | apply below_alloc | apply pw_below_drewN | apply below_drew1) | exact HB.out)) hb); clear HO_7; clear HO127; clear HO132; clear HO139; clear HB; have HO_7 := n0_; have HO127 := n1_; have HO132 := n2_; have HO139 := n3_; have HO144 := n4_; have HB := n5_; clear n0_ n1_ n2_ n3_ n4_ n5_; (try clear hb); (try clear hb2); (try clear hk); (try clear hi); (try clear ho0); have hcv45 := own_string (P := Tryd.prog) Tryd.underlying22 Tryd.underlying5 Tryd.underlying9 (Kd.own_of_R HO_7.out); have hcv46 := own_string (P := Tryd.prog) Tryd.underlying22 Tryd.underlying5 Tryd.underlying9 (Kd.own_of_R HO132.out); obtain ⟨Ao47, co47, eo47⟩ := Kd.R_slice HO144.out; subst eo47) | (go_at_call 7; (with_reducible refine (valiselaw09_lives.calls  t145 _ (Pr.Handle.on HGH.out (by repeat (first | (with_reducible first | exact HB.out | apply below_alloc | apply pw_below_drewN | apply below_drew1) | exact HB.out)) (Pr.Handle.pos HGH.out)) A31.out).mono ?_); rintro e w48 ⟨rfl, hb⟩; have n0_ := Aside0.mk (Kd.R_below (by (with_reducible repeat (first | apply Kd.R_alloc | apply Kd.R_drewN | apply Kd.R_drew)); exact HO_7.out) hb); have n1_ := Aside0.mk (Kd.R_below (by (with_reducible repeat (first | apply Kd.R_alloc | apply Kd.R_drewN | apply Kd.R_drew)); exact HO127.out) hb); have n2_ := Aside0.mk (Kd.R_below (by (with_reducible repeat (first | apply Kd.R_alloc | apply Kd.R_drewN | apply Kd.R_drew)); exact HO132.out) hb); have n3_ := Aside0.mk (Kd.R_below (by (with_reducible repeat (first | apply Kd.R_alloc | apply Kd.R_drewN | apply Kd.R_drew)); exact HO139.out) hb); have n4_ := Aside0.mk (Kd.R_below (by (with_reducible repeat (first | apply Kd.R_alloc | apply Kd.R_drewN | apply Kd.R_drew)); exact HO144.out) hb); have n5_ := Aside0.mk (below_step (by repeat (first | (with_reducible first | exact HB.out | apply below_alloc | apply pw_below_drewN | apply below_drew1) | exact HB.out)) hb); clear HO_7; clear HO127; clear HO132; clear HO139; clear HO144; clear HB; have HO_7 := n0_; have HO127 := n1_; have HO132 := n2_; have HO139 := n3_; have HO144 := n4_; have HB := n5_; clear n0_ n1_ n2_ n3_ n4_ n5_; (try clear hb); (try clear hb2); (try clear hk); (try clear hi)))
                                          go_ret
                                          exact ⟨by first | rfl | (simp [errW_none, errW_some] <;> rfl) | (simp only [← hji20]; first | rfl | (simp [errW_none, errW_some] <;> rfl)) | (simp [*, errW_none, errW_some] <;> rfl), by repeat (first | (with_reducible first | exact HB.out | apply below_alloc | apply pw_below_drewN | apply below_drew1) | exact HB.out)⟩
                                        · rw [if_neg c30] at H
                                          have c30b0 : (t142 == 4) = false := beq_eq_false_iff_ne.mpr c30
                                          have c30b1 : (t142 != 4) = true := bne_iff_ne.mpr c30
                                          obtain rfl := Option.some.inj H
                                          cases hrt
                                      · rw [if_neg c29] at H
                                        have c29b0 : (t141 == 0) = false := beq_eq_false_iff_ne.mpr c29
                                        have c29b1 : (t141 != 0) = true := bne_iff_ne.mpr c29
                                        obtain rfl := Option.some.inj H
                                        cases hrt
                                    · rw [if_neg c28] at H
                                      have c28b0 : ((t140.length : Int) == 0) = false := beq_eq_false_iff_ne.mpr c28
                                      have c28b1 : ((t140.length : Int) != 0) = true := bne_iff_ne.mpr c28
                                      have c28b2 : ¬ (t140 = []) := fun h_ => c28 (by rw [h_]; rfl)
                                      obtain rfl := Option.some.inj H
                                      cases hrt
                                  · rw [if_neg c27] at H
                                    have c27b0 : (t130 == 0) = false := beq_eq_false_iff_ne.mpr c27
                                    have c27b1 : (t130 != 0) = true := bne_iff_ne.mpr c27
                                    obtain rfl := Option.some.inj H
                                    cases hrt
                                · rw [if_neg c26] at H
                                  have c26b0 : (t129 == t113) = false := beq_eq_false_iff_ne.mpr c26
                                  have c26b1 : (t129 != t113) = true := bne_iff_ne.mpr c26
                                  obtain rfl := Option.some.inj H
                                  cases hrt
                              · rw [if_neg c25] at H
                                have c25b0 : ((strOfNums t112).toList == (strOfNums t128).toList) = false := beq_eq_false_iff_ne.mpr c25
                                have c25b1 : ((strOfNums t112).toList != (strOfNums t128).toList) = true := bne_iff_ne.mpr c25
                                obtain rfl := Option.some.inj H
                                cases hrt
                            · rw [if_neg c23] at H
                              exact absurd H (by simp)
                          · rw [if_neg c22] at H
                            exact absurd H (by simp)
                        · rw [if_neg c21] at H
                          exact absurd H (by simp)
                      · rw [if_neg c18] at H
                        exact absurd H (by simp)
                    · rw [if_neg c17] at H
                      exact absurd H (by simp)
                  · rw [if_neg c16] at H
                    exact absurd H (by simp)
                · rw [if_neg c15] at H
                  exact absurd H (by simp)
        · rw [if_neg c10] at H
          have c10b0 : (t114 == 0) = false := beq_eq_false_iff_ne.mpr c10
          have c10b1 : (t114 != 0) = true := bne_iff_ne.mpr c10
          by_cases c142 : (t112.length : Int) = 0
          · rw [if_pos c142] at H
            have c142b0 : ((t112.length : Int) == 0) = true := beq_iff_eq.mpr c142
            have c142b1 : ((t112.length : Int) != 0) = false := bne_eq_false_iff_eq.mpr c142
            clear c142
            by_cases c143 : t113 = 0
            · rw [if_pos c143] at H
              have c143b0 : (t113 == 0) = true := beq_iff_eq.mpr c143
              have c143b1 : (t113 != 0) = false := bne_eq_false_iff_eq.mpr c143
              clear c143
              replace H := Option.bind_eq_some_iff.mp H
              obtain ⟨t117, A1440, H⟩ := H
              replace H : (some t117) = some r := H
              have A144 := Aside0.mk A1440
              clear A1440
              obtain rfl := Option.some.inj H
              go_wp2_with (first | ((with_reducible refine gate_callee (f := 8) rfl ?_); refine goesL_ (some 28) rfl rfl Tryd.func8 (by kernel_rfl) rfl #[.slice A0 l0.length c0, .int .i64 a1] rfl (by (try simp only [List.map_toArray, List.map_cons, List.map_nil]); first | done | rfl | (simp only [List.length_drop, List.length_take]; rfl)) ?_; (with_reducible refine (inflate_Decode.calls _ _ l0 a1 t112 t113 t114 _ ?side1 ?side2 A9.out (Pr.Handle.on HGH.out (by repeat (first | (with_reducible first | exact HB.out | apply below_alloc | apply pw_below_drewN | apply below_drew1) | exact HB.out)) (Pr.Handle.pos HGH.out))).mono ?_); (case side1 => repeat (first | exact (Kd.C_below HR0.out HB.out) | (with_reducible refine Kd.C_alloc ?_ _) | (with_reducible refine Kd.C_drewN ?_ _) | (with_reducible refine Kd.C_drew ?_))); (case side2 => exact HC0.out); rintro e w145 ⟨v115, rfl, ho0, hb⟩; refine ⟨_, rfl, ?_⟩; have n0_ := Aside0.mk (Kd.R_lower ho0 (below_size (by repeat (first | (with_reducible first | exact HB.out | apply below_alloc | apply pw_below_drewN | apply below_drew1) | exact HB.out)))); have n1_ := Aside0.mk (below_step (by repeat (first | (with_reducible first | exact HB.out | apply below_alloc | apply pw_below_drewN | apply below_drew1) | exact HB.out)) hb); clear HB; have HO116 := n0_; have HB := n1_; clear n0_ n1_; (try clear hb); (try clear hb2); (try clear hk); (try clear hi); (try clear ho0); obtain ⟨Ao146, co146, eo146⟩ := Kd.R_slice HO116.out; subst eo146) | (go_at_call 7; (with_reducible refine (valiselaw09_lives.calls  t117 _ (Pr.Handle.on HGH.out (by repeat (first | (with_reducible first | exact HB.out | apply below_alloc | apply pw_below_drewN | apply below_drew1) | exact HB.out)) (Pr.Handle.pos HGH.out)) A144.out).mono ?_); rintro e w147 ⟨rfl, hb⟩; have n0_ := Aside0.mk (Kd.R_below (by (with_reducible repeat (first | apply Kd.R_alloc | apply Kd.R_drewN | apply Kd.R_drew)); exact HO116.out) hb); have n1_ := Aside0.mk (below_step (by repeat (first | (with_reducible first | exact HB.out | apply below_alloc | apply pw_below_drewN | apply below_drew1) | exact HB.out)) hb); clear HO116; clear HB; have HO116 := n0_; have HB := n1_; clear n0_ n1_; (try clear hb); (try clear hb2); (try clear hk); (try clear hi)))
              go_ret
              exact ⟨by first | rfl | (simp [errW_none, errW_some] <;> rfl) | (simp [*, errW_none, errW_some] <;> rfl), by repeat (first | (with_reducible first | exact HB.out | apply below_alloc | apply pw_below_drewN | apply below_drew1) | exact HB.out)⟩
            · rw [if_neg c143] at H
              have c143b0 : (t113 == 0) = false := beq_eq_false_iff_ne.mpr c143
              have c143b1 : (t113 != 0) = true := bne_iff_ne.mpr c143
              obtain rfl := Option.some.inj H
              cases hrt
          · rw [if_neg c142] at H
            have c142b0 : ((t112.length : Int) == 0) = false := beq_eq_false_iff_ne.mpr c142
            have c142b1 : ((t112.length : Int) != 0) = true := bne_iff_ne.mpr c142
            have c142b2 : ¬ (t112 = []) := fun h_ => c142 (by rw [h_]; rfl)
            obtain rfl := Option.some.inj H
            cases hrt

def valiselaw09_InflateUsed.Pure : Prop := ∀ (l0 : List Int) (a1 : Int) (l2 : List Int), l0.length ≤ maxLen → l0.length * 1 ≤ 140737488351232 → (∀ x ∈ l0, (Lit.int .u8 x).wf = true) → (Lit.int .i64 a1).wf = true → l2.length ≤ maxLen → l2.length * 1 ≤ 140737488351232 → (∀ x ∈ l2, (Lit.int .u8 x).wf = true) → ∃ k, valiselaw09_InflateUsed.f k l0 a1 l2 = some true
theorem valiselaw09_InflateUsed.walk (P : valiselaw09_InflateUsed.Pure) (a0 : Option Addr) (len0 cap0 : Nat) (z0 : List Int) (a1 : Int) (a2 : Option Addr) (len2 cap2 : Nat) (z2 : List Int) (w : World) (HGL : Pr.Handle w) (w0 : (a0 = none ∧ len0 = 0 ∧ cap0 = 0 ∧ z0 = []) ∨ ∃ x, a0 = some x ∧ len0 ≤ cap0 ∧ cap0 ≤ maxLen ∧ z0.length = cap0 ∧ (∀ i, i < z0.length → w.cell? (x.add i) = some (.int .u8 (z0.getD i 0))) ∧ ∀ n ∈ z0, (Lit.int .u8 n).wf = true) (y0 : len0 * 1 ≤ 140737488351232) (w1 : (Lit.int .i64 a1).wf = true) (w2 : (a2 = none ∧ len2 = 0 ∧ cap2 = 0 ∧ z2 = []) ∨ ∃ x, a2 = some x ∧ len2 ≤ cap2 ∧ cap2 ≤ maxLen ∧ z2.length = cap2 ∧ (∀ i, i < z2.length → w.cell? (x.add i) = some (.int .u8 (z2.getD i 0))) ∧ ∀ n ∈ z2, (Lit.int .u8 n).wf = true) (y2 : len2 * 1 ≤ 140737488351232) :
    Calls Tryd.prog 3 #[.slice a0 len0 cap0, .int .i64 a1, .slice a2 len2 cap2] w fun e w' => e = .returned (.bool true) ∧ Below w.heap.size w w' := by
  obtain ⟨l0, rfl, hr0, hm0, hw0, hc0⟩ := ReadsInt.ofRowC w0
  obtain ⟨l2, rfl, hr2, hm2, hw2, hc2⟩ := ReadsInt.ofRowC w2
  obtain ⟨k, h⟩ := P l0 a1 l2 hm0 y0 hw0 w1 hm2 y2 hw2
  refine (valiselaw09_InflateUsed.calls k _ _ l0 a1 _ _ l2 true w (Kd.C_of_reads (d := (0 : Int)) (h1 := fun _ => rfl) hr0) hc0 (Kd.C_of_reads (d := (0 : Int)) (h1 := fun _ => rfl) hr2) hc2 HGL h rfl).mono ?_
  rintro e w' ⟨rfl, hd⟩
  exact ⟨rfl, hd⟩

end Go.Proofs.YtgflkkjhckcipaaDoor.Pg

-- YtgflkkjhckcipaaDoorPureInflateUsed
namespace Go.Proofs.YtgflkkjhckcipaaDoor.PureInflateUsed
open Go.RowKit Go.Proofs.YtgflkkjhckcipaaDoor.Pg Go.Proofs.YtgflkkjhckcipaaDoorW.PrintWords Go.Proofs.YtgflkkjhckcipaaDoorW.PrintLast
set_option linter.unusedVariables false
set_option linter.unusedSimpArgs false
theorem dec_ok {l : List Int} (hb : Pr.Byt l) (hl : l.length ≤ 1000000) {most : Int} {n : Nat} {ys : List Int} (h : Pr.inflM l most = .ok (n, ys)) : inflate_Decode.f l most = some (ys, (n : Int), 0) := by
  unfold inflate_Decode.f
  rw [if_pos (Pr.bytB_iff.2 ⟨hb, hl⟩)]
  unfold Pr.decS
  rw [h]
theorem dec_err {l : List Int} (hb : Pr.Byt l) (hl : l.length ≤ 1000000) {most : Int} {er : Int} (h : Pr.inflM l most = .error er) : inflate_Decode.f l most = some ([], 0, er) := by
  unfold inflate_Decode.f
  rw [if_pos (Pr.bytB_iff.2 ⟨hb, hl⟩)]
  unfold Pr.decS
  rw [h]
theorem byt_of {l : List Int} (h : ∀ x ∈ l, (Lit.int .u8 x).wf = true) : Pr.Byt l := Pr.byt_wf h
theorem InflateUsed : valiselaw09_InflateUsed.Pure := by
  intro l0 a1 l2 _ _ hw0 _ _ _ hw2
  have hb0 := byt_of hw0
  have hb2 := byt_of hw2
  refine ⟨2, ?_⟩
  have hT := valiselaw09_lives.true_
  unfold valiselaw09_InflateUsed.f
  by_cases c1 : (l0.length : Int) > 3000
  · rw [if_pos c1]
    simp [valiselaw09_InflateUsed.j0, hT]
  · rw [if_neg c1]
    by_cases c2 : (l2.length : Int) > 3000
    · rw [decide_eq_true c2]
      simp [valiselaw09_InflateUsed.j0, hT]
    · rw [decide_eq_false c2, valiselaw09_InflateUsed.j0, if_neg (by decide)]
      cases hi : Pr.inflM l0 a1 with
      | error er =>
        have her := Pr.infl_bad l0 a1 er hi
        rw [dec_err hb0 (by omega) hi]
        simp [her, hT]
      | ok r =>
        obtain ⟨n, ys⟩ := r
        have hn := Pr.infl_used hi
        have h1 := Pr.infl_behind hi l2
        have h2 := Pr.infl_less hi
        have hbt : ∀ m, Pr.Byt (l0.take m) := fun m x hx => hb0 x (List.mem_of_mem_take hx)
        have hw : wrap64 ((n : Int) - 1) = ((n - 1 : Nat) : Int) := by rw [Pr.wrap64_id (by omega) (by omega)]; omega
        have hd1 := dec_ok (l := l0.take n ++ l2) (fun x hx => (List.mem_append.1 hx).elim (hbt n x) (hb2 x)) (by rw [List.length_append, List.length_take]; omega) h1
        have hd2 := dec_err (hbt (n - 1)) (by rw [List.length_take]; omega) h2
        rw [dec_ok hb0 (by omega) hi]
        simp only [Option.bind_some, if_true]
        rw [if_neg (by omega), decide_eq_false (by omega), valiselaw09_InflateUsed.j1, if_neg (by decide)]
        simp only [Option.bind_some, Int.toNat_natCast, List.nil_append, List.length_nil, Nat.zero_add, hw]
        rw [if_pos (by omega), if_pos (by omega), if_pos (by rw [List.length_take]; omega), if_pos (by rw [List.length_take]; omega), hd1]
        simp only [Option.bind_some]
        rw [if_pos (by omega), if_pos (by omega), if_pos (by rw [List.length_take]; omega), hd2]
        simp [hT]
end Go.Proofs.YtgflkkjhckcipaaDoor.PureInflateUsed

