-- Texts by hand and by programs of this session, joined (wip/tool/merge.py).
import Derived.Test.YtdgpcjhincgijaaMLQ13
import Derived.Test.YtdgpcjhincgijaaMLQ16
import Derived.Test.YtdgpcjhincgijaaMLQ21
-- YtdgpcjhincgijaaPg18
namespace Go.Proofs.Ytdgpcjhincgijaa.Pg
open Go.RowKit Go.Proofs.YtdgpcjhincgijaaW.PrintWords Go.Proofs.YtdgpcjhincgijaaW.PrintLast Go.Proofs.YtdgpcjhincgijaaW.PrintMore
attribute [local go_sem] max2_int min2_int max_two min_two max_three min_three max_four min_four   -- for this text's walks alone
set_option linter.unusedVariables false
set_option linter.unusedSimpArgs false

-- NOT PRINTED: function 39 (slices_IndexFunc_int_int)

-- NOT PRINTED: function 31 (slices_ContainsFunc_int_int)

-- NOT PRINTED: function 19 (limit_often)

-- NOT PRINTED: function 42 (limit_pack_int_42)

-- NOT PRINTED: function 46 (limit_pack_int_46)

-- NOT PRINTED: function 45 (limit_pack_int_45)

-- NOT PRINTED: function 43 (limit_pack_int_43)

-- NOT PRINTED: function 40 (limit_pack_int_40)

-- NOT PRINTED: function 33 (limit_pack_int_33)

-- NOT PRINTED: function 20 (limit_sorted_int)

-- NOT PRINTED: function 21 (limit_pack_int_21)

-- NOT PRINTED: function 22 (limit_pairs_int)

-- NOT PRINTED: function 36 (slices_Grow_int_int)

-- NOT PRINTED: function 23 (slices_Concat_int_int)

/-! ### valiselaw05_LimitRoom: function 6 -/
mutual
def valiselaw05_LimitRoom.l0 : Nat → List Int → Int → Int → List Int → Int → Option (Bool)
  | 0, _, _, _, _, _ => none
  | k + 1, x0, x1, x5, x7, x8 => if x8 < (x0.length : Int) then (if 0 ≤ x8 then (if (rd x0 x8) > 2147483647 then ((valiselaw05_lives.f k).bind fun t316 => (some t316)) else (if x7.length < 17592186044416 then (valiselaw05_LimitRoom.l0 k x0 x1 x5 (x7 ++ [wrap64 (2 * (rd x0 x8))]) (wrap64 (x8 + 1))) else (none))) else (none)) else ((valiselaw05_cost.f x7 x1).bind fun bt321 => (if bt321.2 = true then (valiselaw05_LimitRoom.j1 k x0 x1 x5 (bt321.1 != (wrap64 (2 * x5)))) else (valiselaw05_LimitRoom.j1 k x0 x1 x5 true)))
def valiselaw05_LimitRoom.j1 : Nat → List Int → Int → Int → Bool → Option (Bool)
  | 0, _, _, _, _ => none
  | k + 1, x0, x1, x5, x55 => if x55 = true then (some false) else (if x1 = 15 then ((valiselaw05_lives.f k).bind fun t323 => (some t323)) else ((valiselaw05_cost.f x0 (wrap64 (x1 + 1))).bind fun bt324 => (if bt324.2 = true then (if bt324.1 ≤ x5 then ((valiselaw05_lives.f k).bind fun t326 => (some t326)) else (some false)) else (some false))))
end
def valiselaw05_LimitRoom.f (k : Nat) (l0 : List Int) (a1 : Int) : Option (Bool) := (valiselaw05_cost.f l0 a1).bind fun bt312 => (if bt312.2 = true then (valiselaw05_LimitRoom.l0 k l0 a1 bt312.1 ([] : List Int) 0) else ((valiselaw05_lives.f k).bind fun t314 => (some t314)))
theorem valiselaw05_LimitRoom.mono_l : ∀ k, (∀ y0 y1 y2 y3 y4, LeO (valiselaw05_LimitRoom.l0 k y0 y1 y2 y3 y4) (valiselaw05_LimitRoom.l0 (k + 1) y0 y1 y2 y3 y4)) ∧ (∀ y0 y1 y2 y3, LeO (valiselaw05_LimitRoom.j1 k y0 y1 y2 y3) (valiselaw05_LimitRoom.j1 (k + 1) y0 y1 y2 y3))
  | 0 => ⟨fun _ _ _ _ _ r h => by simp [valiselaw05_LimitRoom.l0] at h, fun _ _ _ _ r h => by simp [valiselaw05_LimitRoom.j1] at h⟩
  | k + 1 => by
    obtain ⟨ih0, ih1⟩ := valiselaw05_LimitRoom.mono_l k
    refine ⟨?_, ?_⟩
    · intro y0 y1 y2 y3 y4
      unfold valiselaw05_LimitRoom.l0
      repeat' first
      | (with_reducible exact ih0 _ _ _ _ _)
      | (with_reducible exact ih1 _ _ _ _)
      | (with_reducible exact valiselaw05_lives.mono _)
      | (with_reducible exact LeO.refl _)
      | (with_reducible exact LeO.none _)
      | (with_reducible refine LeO.ite ?_ ?_)
      | (with_reducible refine LeO.bind ?_ (fun _ => ?_))
      | exact ih0 _ _ _ _ _
      | exact ih1 _ _ _ _
      | exact valiselaw05_lives.mono _
      | exact LeO.none _
      | refine LeO.ite ?_ ?_
      | refine LeO.bind ?_ (fun _ => ?_)
    · intro y0 y1 y2 y3
      unfold valiselaw05_LimitRoom.j1
      repeat' first
      | (with_reducible exact ih0 _ _ _ _ _)
      | (with_reducible exact ih1 _ _ _ _)
      | (with_reducible exact valiselaw05_lives.mono _)
      | (with_reducible exact LeO.refl _)
      | (with_reducible exact LeO.none _)
      | (with_reducible refine LeO.ite ?_ ?_)
      | (with_reducible refine LeO.bind ?_ (fun _ => ?_))
      | exact ih0 _ _ _ _ _
      | exact ih1 _ _ _ _
      | exact valiselaw05_lives.mono _
      | exact LeO.none _
      | refine LeO.ite ?_ ?_
      | refine LeO.bind ?_ (fun _ => ?_)
theorem valiselaw05_LimitRoom.mono : ∀ a0 a1 k, LeO (valiselaw05_LimitRoom.f k a0 a1) (valiselaw05_LimitRoom.f (k + 1) a0 a1) := by
  intro a0 a1 k
  obtain ⟨ih0, ih1⟩ := valiselaw05_LimitRoom.mono_l k
  unfold valiselaw05_LimitRoom.f
  repeat' first
      | (with_reducible exact ih0 _ _ _ _ _)
      | (with_reducible exact ih1 _ _ _ _)
      | (with_reducible exact valiselaw05_lives.mono _)
      | (with_reducible exact LeO.refl _)
      | (with_reducible exact LeO.none _)
      | (with_reducible refine LeO.ite ?_ ?_)
      | (with_reducible refine LeO.bind ?_ (fun _ => ?_))
      | exact ih0 _ _ _ _ _
      | exact ih1 _ _ _ _
      | exact valiselaw05_lives.mono _
      | exact LeO.none _
      | refine LeO.ite ?_ ?_
      | refine LeO.bind ?_ (fun _ => ?_)
set_option maxHeartbeats 8000000 in
set_option maxRecDepth 100000 in
theorem valiselaw05_LimitRoom.calls (k : Nat) (A0 : Option Addr) (c0 : Nat) (l0 : List Int) (a1 : Int) (r : Bool) (w : World) (hr0 : Kd.C (Kd.int .i64) w A0 l0.length l0) (hc0 : l0.length ≤ c0) (h : valiselaw05_LimitRoom.f k l0 a1 = some r) (hrt : r = true) :
    Calls Try.prog 6 #[.slice A0 l0.length c0, .int .i64 a1] w fun e w' => e = .returned (.bool r) ∧ Below w.heap.size w w' := by
  have HR0 := Aside0.mk hr0
  have HC0 := Aside0.mk hc0
  clear hr0 hc0
  have HB := Aside0.mk (Below.refl w.heap.size w)
  have H : ((valiselaw05_cost.f l0 a1).bind fun bt312 => (if bt312.2 = true then (valiselaw05_LimitRoom.l0 k l0 a1 bt312.1 ([] : List Int) 0) else ((valiselaw05_lives.f k).bind fun t314 => (some t314)))) = some r := h
  clear h
  replace H := Option.bind_eq_some_iff.mp H
  obtain ⟨⟨t312, t313⟩, A30, H⟩ := H
  replace H : (if t313 = true then (valiselaw05_LimitRoom.l0 k l0 a1 t312 ([] : List Int) 0) else ((valiselaw05_lives.f k).bind fun t314 => (some t314))) = some r := H
  have A3 := Aside0.mk A30
  clear A30
  by_cases c4 : t313 = true
  · subst c4
    have H1 : (valiselaw05_LimitRoom.l0 k l0 a1 t312 ([] : List Int) 0) = some r := by rw [if_pos rfl] at H; exact H
    clear H
    have H := H1
    clear H1
    have H' := Aside0.mk H
    clear H
    go_enter Try.func6, Try.ntmps6
    go_wp2_with (first | ((with_reducible refine gate_callee (f := 17) rfl ?_); refine goesL_ (some 16) rfl rfl Try.func17 (by kernel_rfl) rfl #[.slice A0 l0.length c0, .int .i64 a1] rfl (by (try simp only [List.map_toArray, List.map_cons, List.map_nil]); first | done | rfl | (simp only [List.length_drop, List.length_take]; rfl)) ?_; (with_reducible refine (valiselaw05_cost.calls _ _ l0 a1 t312 true _ ?side1 ?side2 A3.out).mono ?_); (case side1 => repeat (first | exact HR0.out | (with_reducible refine Kd.C_alloc ?_ _) | (with_reducible refine Kd.C_drewN ?_ _) | (with_reducible refine Kd.C_drew ?_))); (case side2 => exact HC0.out); rintro e w5 ⟨rfl, hb⟩; refine ⟨_, rfl, ?_⟩; have n0_ := Aside0.mk (below_step (by repeat (first | (with_reducible first | exact HB.out | apply below_alloc | apply pw_below_drewN | apply below_drew1) | exact HB.out)) hb); clear HB; have HB := n0_; clear n0_; (try clear hb); (try clear hb2); (try clear hk); (try clear hi)))
    go_loopg [7, 8] k (fun kq v7 v8 w' => ∃ (x7_1 : List Int) (x8_1 : Int), v8 = .int .i64 x8_1 ∧ Aside0 (valiselaw05_LimitRoom.l0 kq l0 a1 t312 x7_1 x8_1 = some r) ∧ Aside0 (kq ≤ k) ∧ Aside0 (Kd.R (Kd.int .i64) 3 w' w.heap.size (fun _ => True) v7 x7_1) ∧ Aside0 (Below w.heap.size w w'))
    case atStart => exact ⟨(([] : List Int)), (0), (by first | rfl | (simp; done) | (simp [*]; done)), H', ⟨Nat.le_refl _⟩, ⟨by first | exact Kd.R_nil _ _ _ _ _ | exact Kd.N_nil _ _ _ _ _ | exact Kd.V_nil _ _ _ _ _ | exact Kd.Q_nil _ _ _ _ _ | exact Kd.S_nil _ _ _ _ _⟩, ⟨by repeat (first | (with_reducible first | exact HB.out | apply below_alloc | apply pw_below_drewN | apply below_drew1) | exact HB.out)⟩⟩
    case round =>
      clear H'
      try clear c1
      try clear p2
      try clear c4
      obtain ⟨x7_1, x8_1, rfl, HA, HK1, HO_7, HB⟩ := hrel
      cases gk with
      | zero => exact absurd HA.out (by simp [valiselaw05_LimitRoom.l0])
      | succ k1 =>
        have H := HA.out
        clear HA
        simp only [valiselaw05_LimitRoom.l0] at H
        by_cases c6 : x8_1 < (l0.length : Int)
        · rw [if_pos c6] at H
          have c6b0 : decide (x8_1 < (l0.length : Int)) = true := decide_eq_true c6
          clear c6
          by_cases c7 : 0 ≤ x8_1
          · rw [if_pos c7] at H
            have c7b0 : decide (0 ≤ x8_1) = true := decide_eq_true c7
            clear c7
            by_cases c8 : (rd l0 x8_1) > 2147483647
            · rw [if_pos c8] at H
              have c8b0 : decide (2147483647 < (rd l0 x8_1)) = true := decide_eq_true c8
              clear c8
              replace H := Option.bind_eq_some_iff.mp H
              obtain ⟨t316, A90, H⟩ := H
              replace H : (some t316) = some r := H
              have A9 := Aside0.mk A90
              clear A90
              obtain rfl := Option.some.inj H
              have p315 : 0 ≤ (x8_1 : Int) := of_decide_eq_true (by first | (with_reducible assumption) | assumption)
              have q315 : x8_1 < (l0.length : Int) := of_decide_eq_true (by first | (with_reducible assumption) | assumption)
              obtain ⟨ad315, e315, hx315_0⟩ := Kd.at_int HR0.out x8_1 p315 q315
              cases e315
              replace hx315_0 := (HB.out.cell (World.block_lt_of_cell? w _ hx315_0)).trans hx315_0
              replace p315 := eq_true p315
              replace q315 := eq_true q315
              go_wp2_with (first | ((with_reducible refine gate_callee (f := 11) rfl ?_); refine goesL_ (some 33) rfl rfl Try.func11 (by kernel_rfl) rfl #[] rfl (by (try simp only [List.map_toArray, List.map_cons, List.map_nil]); first | done | rfl | (simp only [List.length_drop, List.length_take]; rfl)) ?_; (with_reducible refine (valiselaw05_lives.calls k1  t316 _ A9.out).mono ?_); rintro e w10 ⟨rfl, hb⟩; refine ⟨_, rfl, ?_⟩; have n0_ := Aside0.mk (Kd.R_below (by (with_reducible repeat (first | apply Kd.R_alloc | apply Kd.R_drewN | apply Kd.R_drew)); exact HO_7.out) hb); have n1_ := Aside0.mk (below_step (by repeat (first | (with_reducible first | exact HB.out | apply below_alloc | apply pw_below_drewN | apply below_drew1) | exact HB.out)) hb); clear HO_7; clear HB; have HO_7 := n0_; have HB := n1_; clear n0_ n1_; (try clear hb); (try clear hb2); (try clear hk); (try clear hi)))
              go_ret
              exact ⟨by first | rfl | (simp [errW_none, errW_some] <;> rfl) | (simp [*, errW_none, errW_some] <;> rfl), by repeat (first | (with_reducible first | exact HB.out | apply below_alloc | apply pw_below_drewN | apply below_drew1) | exact HB.out)⟩
            · rw [if_neg c8] at H
              have c8b0 : decide (2147483647 < (rd l0 x8_1)) = false := decide_eq_false c8
              clear c8
              by_cases c11 : x7_1.length < 17592186044416
              · rw [if_pos c11] at H
                have LMc11 := Aside0.mk c11
                clear c11
                obtain ⟨y318, hy318⟩ : ∃ y_ : List Int, y_ = (x7_1 ++ [wrap64 (2 * (rd l0 x8_1))]) := ⟨_, rfl⟩
                replace H : (valiselaw05_LimitRoom.l0 k1 l0 a1 t312 y318 (wrap64 (x8_1 + 1))) = some r := by first | (rw [hy318]; with_reducible exact H) | (have H2_ := (Option.bind_some _ _).symm.trans H; rw [hy318]; with_reducible exact H2_) | (have H2_ := (Option.bind_some _ _).symm.trans H; with_reducible exact H2_) | with_reducible exact H | (rw [hy318]; exact H) | exact H
                have Ny318 := Aside0.mk hy318
                clear hy318
                have H' := Aside0.mk H
                clear H
                have p315 : 0 ≤ (x8_1 : Int) := of_decide_eq_true (by first | (with_reducible assumption) | assumption)
                have q315 : x8_1 < (l0.length : Int) := of_decide_eq_true (by first | (with_reducible assumption) | assumption)
                obtain ⟨ad315, e315, hx315_0⟩ := Kd.at_int HR0.out x8_1 p315 q315
                cases e315
                replace hx315_0 := (HB.out.cell (World.block_lt_of_cell? w _ hx315_0)).trans hx315_0
                replace p315 := eq_true p315
                replace q315 := eq_true q315
                have p317 : 0 ≤ (x8_1 : Int) := of_decide_eq_true (by first | (with_reducible assumption) | assumption)
                have q317 : x8_1 < (l0.length : Int) := of_decide_eq_true (by first | (with_reducible assumption) | assumption)
                obtain ⟨ad317, e317, hx317_0⟩ := Kd.at_int HR0.out x8_1 p317 q317
                obtain rfl : ad315 = ad317 := (by injection e317)
                replace hx317_0 := (HB.out.cell (World.block_lt_of_cell? w _ hx317_0)).trans hx317_0
                replace p317 := eq_true p317
                replace q317 := eq_true q317
                go_wp2_with (first | ((with_reducible refine gate_builtin (b := .append) (xs := #[.tmp 34, .tmp 40]) rfl ?_); at_builtin; refine Kd.R_append (Kd.int .i64) (w0 := w) w.heap.size rfl (.tmp 34) (.tmp 40) 22 3 (.int .i64 0) 8 rfl Try.underlying22 info3 rfl (by decide) (by omega) u7 x7_1 (wrap64 (2 * (rd l0 x8_1))) [.int .i64 (wrap64 (2 * (rd l0 x8_1)))] (fun _ => True) (fun _ => False) rfl rfl ?aP (fun _ hk => hk.elim) ?aF ?aO ?aB ?aS ?aL ?_; (case aP => exact rfl); (case aB => exact (by repeat (first | (with_reducible first | exact HB.out | apply below_alloc | apply pw_below_drewN | apply below_drew1) | exact HB.out))); (case aF => exact (fun _ _ => trivial)); (case aO => exact (by (with_reducible repeat (first | apply Kd.R_alloc | apply Kd.R_drewN | apply Kd.R_drew)); exact HO_7.out)); (case aS => exact (below_size (by repeat (first | (with_reducible first | exact HB.out | apply below_alloc | apply pw_below_drewN | apply below_drew1) | exact HB.out)))); (case aL => have := LMc11.out; omega); intro v319 w12 ho hb hg hat; rw [← Ny318.out] at ho; have n0_ := Aside0.mk (hb); have n1_ := Aside0.mk (ho); clear HB; clear HO_7; have HB := n0_; have HO320 := n1_; clear n0_ n1_; clear ho hb hg hat))
                go_roundg k1
                case measure => have := HK1.out; omega
                case rel => exact ⟨(y318), (wrap64 (x8_1 + 1)), (by first | rfl | (simp; done) | (simp [*]; done)), H', ⟨by have := HK1.out; omega⟩, ⟨by (with_reducible repeat (first | apply Kd.R_alloc | apply Kd.R_drewN | apply Kd.R_drew)); exact HO320.out⟩, ⟨by repeat (first | (with_reducible first | exact HB.out | apply below_alloc | apply pw_below_drewN | apply below_drew1) | exact HB.out)⟩⟩
              · rw [if_neg c11] at H
                exact absurd H (by simp)
          · rw [if_neg c7] at H
            exact absurd H (by simp)
        · rw [if_neg c6] at H
          have c6b0 : decide (x8_1 < (l0.length : Int)) = false := decide_eq_false c6
          clear c6
          replace H := Option.bind_eq_some_iff.mp H
          obtain ⟨⟨t321, t322⟩, A130, H⟩ := H
          replace H : (if t322 = true then (valiselaw05_LimitRoom.j1 k1 l0 a1 t312 (t321 != (wrap64 (2 * t312)))) else (valiselaw05_LimitRoom.j1 k1 l0 a1 t312 true)) = some r := H
          have A13 := Aside0.mk A130
          clear A130
          have HC14 := Aside0.mk H
          clear H
          obtain ⟨Ao15, co15, eo15⟩ := Kd.R_slice HO_7.out
          subst eo15
          go_upto_region 12 with (first | ((with_reducible refine gate_callee (f := 17) rfl ?_); refine goesL_ (some 45) rfl rfl Try.func17 (by kernel_rfl) rfl #[.slice Ao15 x7_1.length co15, .int .i64 a1] rfl (by (try simp only [List.map_toArray, List.map_cons, List.map_nil]); first | done | rfl | (simp only [List.length_drop, List.length_take]; rfl)) ?_; (with_reducible refine (valiselaw05_cost.calls _ _ x7_1 a1 t321 t322 _ ?side1 ?side2 A13.out).mono ?_); (case side1 => repeat (first | exact (Kd.R_reads' HO_7.out).2.2 | (with_reducible refine Kd.C_alloc ?_ _) | (with_reducible refine Kd.C_drewN ?_ _) | (with_reducible refine Kd.C_drew ?_))); (case side2 => exact (Kd.R_reads' HO_7.out).2.1); rintro e w16 ⟨rfl, hb⟩; refine ⟨_, rfl, ?_⟩; have n0_ := Aside0.mk (Kd.R_below (by (with_reducible repeat (first | apply Kd.R_alloc | apply Kd.R_drewN | apply Kd.R_drew)); exact HO_7.out) hb); have n1_ := Aside0.mk (below_step (by repeat (first | (with_reducible first | exact HB.out | apply below_alloc | apply pw_below_drewN | apply below_drew1) | exact HB.out)) hb); clear HO_7; clear HB; have HO_7 := n0_; have HB := n1_; clear n0_ n1_; (try clear hb); (try clear hb2); (try clear hk); (try clear hi)))
          (try simp only [Act.put, List.setIfInBounds_toArray, List.set_cons_zero, List.set_cons_succ])
          go_cut [55] (fun v55 wc => ∃ (kq : Nat) (x55_13 : Bool), v55 = .bool x55_13 ∧ Aside0 (valiselaw05_LimitRoom.j1 kq l0 a1 t312 x55_13 = some r) ∧ Aside0 (kq ≤ k1) ∧ Aside0 (Below w.heap.size w wc))
          case first =>
            have H := HC14.out
            clear HC14
            by_cases c17 : t322 = true
            · subst c17
              have H1 : (valiselaw05_LimitRoom.j1 k1 l0 a1 t312 (t321 != (wrap64 (2 * t312)))) = some r := by rw [if_pos rfl] at H; exact H
              clear H
              have H := H1
              clear H1
              have H' := Aside0.mk H
              clear H
              go_wp2
              go_meet
              case rel => exact ⟨_, ((t321 != (wrap64 (2 * t312)))), (by first | rfl | (simp; done) | (simp [*]; done)), H', ⟨by have := HK1.out; first | omega | exact Nat.le_refl _⟩, ⟨by repeat (first | (with_reducible first | exact HB.out | apply below_alloc | apply pw_below_drewN | apply below_drew1) | exact HB.out)⟩⟩
            · replace c17 := Bool.eq_false_iff.mpr c17
              subst c17
              have H1 : (valiselaw05_LimitRoom.j1 k1 l0 a1 t312 true) = some r := by rw [if_neg (show ¬ (false = true) by decide)] at H; exact H
              clear H
              have H := H1
              clear H1
              have H' := Aside0.mk H
              clear H
              go_wp2
              go_meet
              case rel => exact ⟨_, (true), (by first | rfl | (simp; done) | (simp [*]; done)), H', ⟨by have := HK1.out; first | omega | exact Nat.le_refl _⟩, ⟨by repeat (first | (with_reducible first | exact HB.out | apply below_alloc | apply pw_below_drewN | apply below_drew1) | exact HB.out)⟩⟩
          case rest =>
            clear HC14
            try clear c1
            try clear p2
            try clear p3
            try clear q3
            try clear hx3
            try clear c4
            try clear c6
            try clear c6b0
            try clear p6
            try clear c7
            try clear c7b0
            try clear c8
            try clear c8b0
            try clear c11
            try clear c17
            try clear hx315_0
            try clear hx317_0
            try clear p2
            try clear p315
            try clear p317
            try clear q315
            try clear q317
            obtain ⟨kq, x55_13, rfl, HA, HJ13, HB⟩ := hcut
            cases kq with
            | zero => exact absurd HA.out (by simp [valiselaw05_LimitRoom.j1])
            | succ kj13 =>
              have H := HA.out
              clear HA
              simp only [valiselaw05_LimitRoom.j1] at H
              by_cases c18 : x55_13 = true
              · subst c18
                have H1 : (some false) = some r := by rw [if_pos rfl] at H; exact H
                clear H
                have H := H1
                clear H1
                obtain rfl := Option.some.inj H
                cases hrt
              · replace c18 := Bool.eq_false_iff.mpr c18
                subst c18
                have H1 : (if a1 = 15 then ((valiselaw05_lives.f kj13).bind fun t323 => (some t323)) else ((valiselaw05_cost.f l0 (wrap64 (a1 + 1))).bind fun bt324 => (if bt324.2 = true then (if bt324.1 ≤ t312 then ((valiselaw05_lives.f kj13).bind fun t326 => (some t326)) else (some false)) else (some false)))) = some r := by rw [if_neg (show ¬ (false = true) by decide)] at H; exact H
                clear H
                have H := H1
                clear H1
                by_cases c19 : a1 = 15
                · rw [if_pos c19] at H
                  have c19b0 : (a1 == 15) = true := beq_iff_eq.mpr c19
                  have c19b1 : (a1 != 15) = false := bne_eq_false_iff_eq.mpr c19
                  clear c19
                  replace H := Option.bind_eq_some_iff.mp H
                  obtain ⟨t323, A200, H⟩ := H
                  replace H : (some t323) = some r := H
                  have A20 := Aside0.mk A200
                  clear A200
                  obtain rfl := Option.some.inj H
                  go_wp2_with (first | ((with_reducible refine gate_callee (f := 11) rfl ?_); refine goesL_ (some 58) rfl rfl Try.func11 (by kernel_rfl) rfl #[] rfl (by (try simp only [List.map_toArray, List.map_cons, List.map_nil]); first | done | rfl | (simp only [List.length_drop, List.length_take]; rfl)) ?_; (with_reducible refine (valiselaw05_lives.calls kj13  t323 _ A20.out).mono ?_); rintro e w21 ⟨rfl, hb⟩; refine ⟨_, rfl, ?_⟩; have n0_ := Aside0.mk (below_step (by repeat (first | (with_reducible first | exact HB.out | apply below_alloc | apply pw_below_drewN | apply below_drew1) | exact HB.out)) hb); clear HB; have HB := n0_; clear n0_; (try clear hb); (try clear hb2); (try clear hk); (try clear hi)))
                  go_ret
                  exact ⟨by first | rfl | (simp [errW_none, errW_some] <;> rfl) | (simp [*, errW_none, errW_some] <;> rfl), by repeat (first | (with_reducible first | exact HB.out | apply below_alloc | apply pw_below_drewN | apply below_drew1) | exact HB.out)⟩
                · rw [if_neg c19] at H
                  have c19b0 : (a1 == 15) = false := beq_eq_false_iff_ne.mpr c19
                  have c19b1 : (a1 != 15) = true := bne_iff_ne.mpr c19
                  replace H := Option.bind_eq_some_iff.mp H
                  obtain ⟨⟨t324, t325⟩, A220, H⟩ := H
                  replace H : (if t325 = true then (if t324 ≤ t312 then ((valiselaw05_lives.f kj13).bind fun t326 => (some t326)) else (some false)) else (some false)) = some r := H
                  have A22 := Aside0.mk A220
                  clear A220
                  by_cases c23 : t325 = true
                  · subst c23
                    have H1 : (if t324 ≤ t312 then ((valiselaw05_lives.f kj13).bind fun t326 => (some t326)) else (some false)) = some r := by rw [if_pos rfl] at H; exact H
                    clear H
                    have H := H1
                    clear H1
                    by_cases c24 : t324 ≤ t312
                    · rw [if_pos c24] at H
                      have c24b0 : decide (t324 ≤ t312) = true := decide_eq_true c24
                      clear c24
                      replace H := Option.bind_eq_some_iff.mp H
                      obtain ⟨t326, A250, H⟩ := H
                      replace H : (some t326) = some r := H
                      have A25 := Aside0.mk A250
                      clear A250
                      obtain rfl := Option.some.inj H
                      go_wp2_with (first | ((with_reducible refine gate_callee (f := 17) rfl ?_); refine goesL_ (some 63) rfl rfl Try.func17 (by kernel_rfl) rfl #[.slice A0 l0.length c0, .int .i64 (wrap64 (a1 + 1))] rfl (by (try simp only [List.map_toArray, List.map_cons, List.map_nil]); first | done | rfl | (simp only [List.length_drop, List.length_take]; rfl)) ?_; (with_reducible refine (valiselaw05_cost.calls _ _ l0 (wrap64 (a1 + 1)) t324 true _ ?side1 ?side2 A22.out).mono ?_); (case side1 => repeat (first | exact (Kd.C_below HR0.out HB.out) | (with_reducible refine Kd.C_alloc ?_ _) | (with_reducible refine Kd.C_drewN ?_ _) | (with_reducible refine Kd.C_drew ?_))); (case side2 => exact HC0.out); rintro e w26 ⟨rfl, hb⟩; refine ⟨_, rfl, ?_⟩; have n0_ := Aside0.mk (below_step (by repeat (first | (with_reducible first | exact HB.out | apply below_alloc | apply pw_below_drewN | apply below_drew1) | exact HB.out)) hb); clear HB; have HB := n0_; clear n0_; (try clear hb); (try clear hb2); (try clear hk); (try clear hi)) | (go_at_call 11; (with_reducible refine (valiselaw05_lives.calls kj13  t326 _ A25.out).mono ?_); rintro e w27 ⟨rfl, hb⟩; have n0_ := Aside0.mk (below_step (by repeat (first | (with_reducible first | exact HB.out | apply below_alloc | apply pw_below_drewN | apply below_drew1) | exact HB.out)) hb); clear HB; have HB := n0_; clear n0_; (try clear hb); (try clear hb2); (try clear hk); (try clear hi)))
                      go_ret
                      exact ⟨by first | rfl | (simp [errW_none, errW_some] <;> rfl) | (simp [*, errW_none, errW_some] <;> rfl), by repeat (first | (with_reducible first | exact HB.out | apply below_alloc | apply pw_below_drewN | apply below_drew1) | exact HB.out)⟩
                    · rw [if_neg c24] at H
                      have c24b0 : decide (t324 ≤ t312) = false := decide_eq_false c24
                      clear c24
                      obtain rfl := Option.some.inj H
                      cases hrt
                  · replace c23 := Bool.eq_false_iff.mpr c23
                    subst c23
                    have H1 : (some false) = some r := by rw [if_neg (show ¬ (false = true) by decide)] at H; exact H
                    clear H
                    have H := H1
                    clear H1
                    obtain rfl := Option.some.inj H
                    cases hrt
  · replace c4 := Bool.eq_false_iff.mpr c4
    subst c4
    have H1 : ((valiselaw05_lives.f k).bind fun t314 => (some t314)) = some r := by rw [if_neg (show ¬ (false = true) by decide)] at H; exact H
    clear H
    have H := H1
    clear H1
    replace H := Option.bind_eq_some_iff.mp H
    obtain ⟨t314, A300, H⟩ := H
    replace H : (some t314) = some r := H
    have A30 := Aside0.mk A300
    clear A300
    obtain rfl := Option.some.inj H
    go_enter Try.func6, Try.ntmps6
    go_wp2_with (first | ((with_reducible refine gate_callee (f := 17) rfl ?_); refine goesL_ (some 16) rfl rfl Try.func17 (by kernel_rfl) rfl #[.slice A0 l0.length c0, .int .i64 a1] rfl (by (try simp only [List.map_toArray, List.map_cons, List.map_nil]); first | done | rfl | (simp only [List.length_drop, List.length_take]; rfl)) ?_; (with_reducible refine (valiselaw05_cost.calls _ _ l0 a1 t312 false _ ?side1 ?side2 A3.out).mono ?_); (case side1 => repeat (first | exact HR0.out | (with_reducible refine Kd.C_alloc ?_ _) | (with_reducible refine Kd.C_drewN ?_ _) | (with_reducible refine Kd.C_drew ?_))); (case side2 => exact HC0.out); rintro e w31 ⟨rfl, hb⟩; refine ⟨_, rfl, ?_⟩; have n0_ := Aside0.mk (below_step (by repeat (first | (with_reducible first | exact HB.out | apply below_alloc | apply pw_below_drewN | apply below_drew1) | exact HB.out)) hb); clear HB; have HB := n0_; clear n0_; (try clear hb); (try clear hb2); (try clear hk); (try clear hi)) | ((with_reducible refine gate_callee (f := 11) rfl ?_); refine goesL_ (some 21) rfl rfl Try.func11 (by kernel_rfl) rfl #[] rfl (by (try simp only [List.map_toArray, List.map_cons, List.map_nil]); first | done | rfl | (simp only [List.length_drop, List.length_take]; rfl)) ?_; (with_reducible refine (valiselaw05_lives.calls k  t314 _ A30.out).mono ?_); rintro e w32 ⟨rfl, hb⟩; refine ⟨_, rfl, ?_⟩; have n0_ := Aside0.mk (below_step (by repeat (first | (with_reducible first | exact HB.out | apply below_alloc | apply pw_below_drewN | apply below_drew1) | exact HB.out)) hb); clear HB; have HB := n0_; clear n0_; (try clear hb); (try clear hb2); (try clear hk); (try clear hi)))
    go_ret
    exact ⟨by first | rfl | (simp [errW_none, errW_some] <;> rfl) | (simp [*, errW_none, errW_some] <;> rfl), by repeat (first | (with_reducible first | exact HB.out | apply below_alloc | apply pw_below_drewN | apply below_drew1) | exact HB.out)⟩

/-- THE ONE PURE STATEMENT of valiselaw05_LimitRoom: yours. -/
def valiselaw05_LimitRoom.Pure : Prop := ∀ (l0 : List Int) (a1 : Int), l0.length ≤ maxLen → l0.length * 8 ≤ 140737488351232 → (∀ x ∈ l0, (Lit.int .i64 x).wf = true) → (Lit.int .i64 a1).wf = true → ∃ k, valiselaw05_LimitRoom.f k l0 a1 = some true
theorem valiselaw05_LimitRoom.walk (P : valiselaw05_LimitRoom.Pure) (a0 : Option Addr) (len0 cap0 : Nat) (z0 : List Int) (a1 : Int) (w : World) (w0 : (a0 = none ∧ len0 = 0 ∧ cap0 = 0 ∧ z0 = []) ∨ ∃ x, a0 = some x ∧ len0 ≤ cap0 ∧ cap0 ≤ maxLen ∧ z0.length = cap0 ∧ (∀ i, i < z0.length → w.cell? (x.add i) = some (.int .i64 (z0.getD i 0))) ∧ ∀ n ∈ z0, (Lit.int .i64 n).wf = true) (y0 : len0 * 8 ≤ 140737488351232) (w1 : (Lit.int .i64 a1).wf = true) :
    Calls Try.prog 6 #[.slice a0 len0 cap0, .int .i64 a1] w fun e w' => e = .returned (.bool true) ∧ Below w.heap.size w w' := by
  obtain ⟨l0, rfl, hr0, hm0, hw0, hc0⟩ := ReadsInt.ofRowC w0
  obtain ⟨k, h⟩ := P l0 a1 hm0 y0 hw0 w1
  refine (valiselaw05_LimitRoom.calls k _ _ l0 a1 true w (Kd.C_of_reads (d := (0 : Int)) (h1 := fun _ => rfl) hr0) hc0 h rfl).mono ?_
  rintro e w' ⟨rfl, hd⟩
  exact ⟨rfl, hd⟩

end Go.Proofs.Ytdgpcjhincgijaa.Pg

-- YtdgpcjhincgijaaLp9
namespace Go.Proofs.Ytdgpcjhincgijaa.Pg
open Go.RowKit Go.Proofs.YtdgpcjhincgijaaW.PrintWords Go.Proofs.YtdgpcjhincgijaaW.PrintLast Go.Proofs.YtdgpcjhincgijaaW.PrintMore
set_option linter.unusedVariables false
set_option linter.unusedSimpArgs false
open Pr (Srt Stb wP pairP isortF haveF insF sorted_isF isortF_spec srt_unique singL singL_mem bump bumps zerosL lenF oftenS)
/-! ### Plain: LimitRoom -/
def dbl (p : PK) : PK := (2 * p.1, p.2)
def twiceL (l : List Int) : List Int := l.map (fun x => 2 * x)
theorem insF_dbl (x : PK) : ∀ Z, insF (dbl x) (Z.map dbl) = (insF x Z).map dbl
  | [] => rfl
  | y :: t => by
    rw [List.map_cons]
    show (if 2 * x.1 ≤ 2 * y.1 then dbl x :: dbl y :: t.map dbl else dbl y :: insF (dbl x) (t.map dbl)) = (if x.1 ≤ y.1 then x :: y :: t else y :: insF x t).map dbl
    rw [insF_dbl x t]
    by_cases h : x.1 ≤ y.1
    · rw [if_pos h, if_pos (show 2 * x.1 ≤ 2 * y.1 by omega)]
      rfl
    · rw [if_neg h, if_neg (show ¬ 2 * x.1 ≤ 2 * y.1 by omega)]
      rfl
theorem isortF_dbl : ∀ L, isortF (L.map dbl) = (isortF L).map dbl
  | [] => rfl
  | x :: L => by
    show insF (dbl x) (isortF (L.map dbl)) = (insF x (isortF L)).map dbl
    rw [isortF_dbl L, insF_dbl]
theorem pairP_dbl : ∀ Y, pairP (Y.map dbl) = (pairP Y).map dbl
  | [] => rfl
  | [_] => rfl
  | a :: b :: t => by
    show (2 * a.1 + 2 * b.1, a.2 ++ b.2) :: pairP (t.map dbl) = (2 * (a.1 + b.1), a.2 ++ b.2) :: (pairP t).map dbl
    rw [pairP_dbl t, Int.mul_add]
theorem haveF_dbl (S : List PK) : ∀ j, haveF (S.map dbl) j = (haveF S j).map dbl
  | 0 => rfl
  | j + 1 => by
    show isortF (S.map dbl ++ pairP (haveF (S.map dbl) j)) = (isortF (S ++ pairP (haveF S j))).map dbl
    rw [haveF_dbl S j, pairP_dbl, ← List.map_append, isortF_dbl]
theorem twice_getD (l : List Int) (k : Nat) : (twiceL l).getD k 0 = 2 * l.getD k 0 := by
  unfold twiceL
  rw [List.getD_eq_getElem?_getD, List.getD_eq_getElem?_getD, List.getElem?_map]
  cases l[k]? <;> rfl
theorem twice_len (l : List Int) : (twiceL l).length = l.length := List.length_map ..
theorem sing_dbl (l : List Int) : ∀ k, singL (twiceL l) k = (singL l k).map dbl
  | 0 => rfl
  | k + 1 => by
    rw [Pr.singL_succ, Pr.singL_succ, sing_dbl l k, twice_getD]
    by_cases h : l.getD k 0 > 0
    · rw [if_pos h, if_pos (by omega), List.map_append]
      rfl
    · rw [if_neg h, if_neg (by omega)]
theorem lenF_dbl {l : List Int} {most : Int} (h1 : oftenS l = true) (h2 : oftenS (twiceL l) = true) : lenF (twiceL l) most = lenF l most := by
  have hz : zerosL (twiceL l) = zerosL l := by
    unfold zerosL
    rw [twice_len]
  unfold lenF
  rw [h1, h2, twice_len, sing_dbl, List.length_map, hz]
  generalize singL l l.length = s
  match s with
  | [] => rfl
  | [p] => rfl
  | a :: b :: t =>
    have hb := haveF_dbl (isortF (a :: b :: t)) most.toNat
    rw [← isortF_dbl] at hb
    have e : ((haveF (isortF ((a :: b :: t).map dbl)) most.toNat).take (2 * ((a :: b :: t).map dbl).length - 2)).foldl (fun out (p : PK) => bumps out p.2) (zerosL l) = ((haveF (isortF (a :: b :: t)) most.toNat).take (2 * (a :: b :: t).length - 2)).foldl (fun out (p : PK) => bumps out p.2) (zerosL l) := by
      rw [hb, List.length_map, ← List.map_take, List.foldl_map]
      rfl
    show (if _ then _ else if _ then _ else ((0 : Int), ((haveF (isortF ((a :: b :: t).map dbl)) most.toNat).take (2 * ((a :: b :: t).map dbl).length - 2)).foldl (fun out (p : PK) => bumps out p.2) (zerosL l))) = _
    rw [e]
theorem room_twice {l r : List Int} {most : Int} (h : lenF l most = (0, r)) (hb : ∀ i, i < l.length → l.getD i 0 ≤ 2147483647) : valiselaw05_cost.f (twiceL l) most = some (2 * sm l.length (fun i => l.getD i 0 * r.getD i 0), true) := by
  have h1 := (lenF_ok h).1
  obtain ⟨h2, h3, h4⟩ := often_of h1
  have h5 : oftenS (twiceL l) = true := often_mk (by rw [twice_len]; exact h2) (by rw [twice_len]; exact h3) (fun i hi => by
    rw [twice_len] at hi
    rw [twice_getD]
    have := h4 i hi
    have := hb i hi
    omega)
  have h6 : lenF (twiceL l) most = (0, r) := by rw [lenF_dbl h1 h5, h]
  rw [cost_ok h6, twice_len, ← sm_mul]
  congr 2
  refine sm_congr fun i _ => ?_
  rw [twice_getD, Int.mul_assoc]
theorem room_more {l r : List Int} {m : Nat} (h : lenF l (m : Int) = (0, r)) (hm : m < 15) : ∃ r', lenF l ((m + 1 : Nat) : Int) = (0, r') ∧ sm l.length (fun i => l.getD i 0 * r'.getD i 0) ≤ sm l.length (fun i => l.getD i 0 * r.getD i 0) := by
  obtain ⟨h1, m', e, h2, h3, h4, _⟩ := lenF_ok h
  obtain rfl : m = m' := by omega
  have hp : 2 ^ m ≤ 2 ^ (m + 1) := Nat.pow_le_pow_right (by omega) (by omega)
  obtain ⟨r', h5⟩ := lenF_mk h1 (show 1 ≤ m + 1 by omega) (by omega) (Nat.le_trans h4 hp)
  refine ⟨r', h5, ?_⟩
  by_cases hn : (singL l l.length).length < 2
  · have : r' = r := by
      rcases few_cases h hn with ⟨e1, rfl⟩ | ⟨j, _, _, e1, rfl⟩
      · rcases few_cases h5 hn with ⟨_, rfl⟩ | ⟨j, _, _, e2, _⟩
        · rfl
        · rw [e1] at e2
          cases e2
      · rcases few_cases h5 hn with ⟨e2, _⟩ | ⟨j', _, _, e2, rfl⟩
        · rw [e1] at e2
          cases e2
        · rw [e1] at e2
          injection e2 with e2 _
          injection e2 with _ e2
          rw [e2]
    rw [this]
    exact Int.le_refl _
  · obtain ⟨m1, ss, e1, _, _, _, t1⟩ := lenF_told h (by omega)
    obtain ⟨m2, ss', e2, _, _, _, t2⟩ := lenF_told h5 (by omega)
    obtain rfl : m = m1 := by omega
    obtain rfl : m + 1 = m2 := by omega
    have hl := fun i hi => ((often_of h1).2.2 i hi).1
    rw [t1.cost hl, t2.cost hl]
    refine deeper (isortF_spec _).1 m _ ?_
    have hln := (isortF_perm (singL l l.length)).length_eq
    have := have_enough (S := isortF (singL l l.length)) (m := m) (by omega)
    omega
theorem room_j1 {l r : List Int} {m : Nat} (h : lenF l (m : Int) = (0, r)) (hm : m ≤ 15) (k : Nat) (hk : 100 < k) : valiselaw05_LimitRoom.j1 k l (m : Int) (sm l.length (fun i => l.getD i 0 * r.getD i 0)) false = some true := by
  obtain ⟨k, rfl⟩ : ∃ k', k = k' + 1 := ⟨k - 1, by omega⟩
  rw [valiselaw05_LimitRoom.j1, if_neg (by decide)]
  by_cases e : m = 15
  · rw [if_pos (by omega), lives_at (by omega)]
    rfl
  · obtain ⟨r', h1, h2⟩ := room_more h (by omega)
    rw [if_neg (by omega), w_next (by omega), cost_ok h1]
    simp only [Option.bind_some]
    rw [if_pos h2, lives_at (by omega)]
    rfl
theorem room_l0 {l r : List Int} {m : Nat} (h : lenF l (m : Int) = (0, r)) (hm : m ≤ 15) : ∀ (n i k : Nat), i + n = l.length → n + 300 < k → (∀ j, j < i → l.getD j 0 ≤ 2147483647) → valiselaw05_LimitRoom.l0 k l (m : Int) (sm l.length (fun i => l.getD i 0 * r.getD i 0)) (twiceL (l.take i)) (i : Int) = some true
  | n, i, 0, _, hk, _ => by omega
  | 0, i, k + 1, hi, hk, hb => by
    obtain rfl : i = l.length := by omega
    obtain ⟨_, h3, h4⟩ := often_of (lenF_ok h).1
    rw [valiselaw05_LimitRoom.l0, if_neg (by omega), List.take_length, room_twice h hb]
    simp only [Option.bind_some]
    have hbd := sm_bound (F := fun i => l.getD i 0 * r.getD i 0) (B := 64424509425) (n := l.length) (fun t ht => by
      have h5 := h4 t ht
      have h6 := told_bound h ht
      refine ⟨Int.mul_nonneg h5.1 h6.1, ?_⟩
      exact Int.le_trans (Int.mul_le_mul h5.2 (show _ ≤ (15 : Int) by omega) h6.1 (by omega)) (by decide))
    have hB : l.length * 64424509425 ≤ 288 * 64424509425 := Nat.mul_le_mul_right _ h3
    have hj := room_j1 h hm k (by omega)
    generalize sm l.length (fun i => l.getD i 0 * r.getD i 0) = c at *
    rw [if_pos trivial, Pr.wrap64_id (by omega) (by omega), bne_self_eq_false]
    exact hj
  | n + 1, i, k + 1, hi, hk, hb => by
    obtain ⟨_, h3, h4⟩ := often_of (lenF_ok h).1
    have h5 := h4 i (by omega)
    have e1 : rd l (i : Int) = l.getD i 0 := by unfold rd; rw [Int.toNat_natCast]
    rw [valiselaw05_LimitRoom.l0, if_pos (by omega), if_pos (by omega), e1]
    by_cases hb1 : l.getD i 0 > 2147483647
    · rw [if_pos hb1, lives_at (by omega)]
      rfl
    · have ih := room_l0 h hm n (i + 1) k (by omega) (by omega) (fun j hj => by
        by_cases e : j = i
        · subst e
          omega
        · exact hb j (by omega))
      have e2 : twiceL (l.take (i + 1)) = twiceL (l.take i) ++ [wrap64 (2 * l.getD i 0)] := by
        rw [Pr.wrap64_id (by omega) (by omega), List.take_succ_eq_append_getElem (by omega)]
        unfold twiceL
        rw [List.map_append, List.getD_eq_getElem?_getD, List.getElem?_eq_getElem (by omega)]
        rfl
      rw [e2] at ih
      rw [if_neg hb1, if_pos (by rw [twice_len, List.length_take]; omega), w_next (by omega)]
      exact ih
theorem limitRoom_pure : valiselaw05_LimitRoom.Pure := by
  intro l0 a1 _ _ _ _
  refine ⟨2000, ?_⟩
  unfold valiselaw05_LimitRoom.f
  by_cases h : (lenF l0 a1).1 = 0
  · have e : lenF l0 a1 = (0, (lenF l0 a1).2) := by rw [← h]
    obtain ⟨ho, m, rfl, _, hm, _⟩ := lenF_ok e
    rw [cost_ok e]
    simp only [Option.bind_some]
    rw [if_pos trivial]
    have := (often_of ho).2.1
    exact room_l0 e hm l0.length 0 2000 (by omega) (by omega) (fun j hj => by omega)
  · rw [cost_bad h]
    simp only [Option.bind_some]
    rw [if_neg (by decide), lives_at (by omega)]
    rfl
end Go.Proofs.Ytdgpcjhincgijaa.Pg

-- YtdgpcjhincgijaaPureLimitRoom
namespace Go.Proofs.Ytdgpcjhincgijaa.Pure
theorem LimitRoom : Go.Proofs.Ytdgpcjhincgijaa.Pg.valiselaw05_LimitRoom.Pure := Go.Proofs.Ytdgpcjhincgijaa.Pg.limitRoom_pure
end Go.Proofs.Ytdgpcjhincgijaa.Pure

