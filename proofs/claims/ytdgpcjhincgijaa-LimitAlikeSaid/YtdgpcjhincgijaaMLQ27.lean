-- Texts by hand and by programs of this session, joined (wip/tool/merge.py).
import Derived.Test.YtdgpcjhincgijaaMLQ13
import Derived.Test.YtdgpcjhincgijaaMLQ16
import Derived.Test.YtdgpcjhincgijaaMLQ21
-- YtdgpcjhincgijaaPg20
namespace Go.Proofs.Ytdgpcjhincgijaa.Pg
open Go.RowKit Go.Proofs.YtdgpcjhincgijaaW.PrintWords Go.Proofs.YtdgpcjhincgijaaW.PrintLast Go.Proofs.YtdgpcjhincgijaaW.PrintMore
attribute [local go_sem] max2_int min2_int max_two min_two max_three min_three max_four min_four   -- for this text's walks alone
set_option linter.unusedVariables false
set_option linter.unusedSimpArgs false

-- NOT PRINTED: function 39 (slices_IndexFunc_int_int)

-- NOT PRINTED: function 31 (slices_ContainsFunc_int_int)

-- NOT PRINTED: function 19 (limit_often)

-- NOT PRINTED: function 42 (limit_pack_int_42)

-- NOT PRINTED: function 46 (limit_pack_int_46)

-- NOT PRINTED: function 45 (limit_pack_int_45)

-- NOT PRINTED: function 43 (limit_pack_int_43)

-- NOT PRINTED: function 40 (limit_pack_int_40)

-- NOT PRINTED: function 33 (limit_pack_int_33)

-- NOT PRINTED: function 20 (limit_sorted_int)

-- NOT PRINTED: function 21 (limit_pack_int_21)

-- NOT PRINTED: function 22 (limit_pairs_int)

-- NOT PRINTED: function 36 (slices_Grow_int_int)

-- NOT PRINTED: function 23 (slices_Concat_int_int)

/-! ### valiselaw05_LimitAlike: function 8 -/
mutual
def valiselaw05_LimitAlike.j0 : Nat → Int → Int → Int → Bool → Option (Bool)
  | 0, _, _, _, _ => none
  | k + 1, x0, x1, x2, x34 => if x34 = true then ((valiselaw05_lives.f k).bind fun t331 => (some t331)) else (valiselaw05_LimitAlike.l0 k x0 x1 x2 ([] : List Int) 0)
def valiselaw05_LimitAlike.l0 : Nat → Int → Int → Int → List Int → Int → Option (Bool)
  | 0, _, _, _, _, _ => none
  | k + 1, x0, x1, x2, x7, x8 => if 0 ≤ x1 then (if x8 < (shl .i64 1 x1) then (if x7.length < 17592186044416 then (valiselaw05_LimitAlike.l0 k x0 x1 x2 (x7 ++ [x0]) (wrap64 (x8 + 1))) else (none)) else ((limit_Lengths.f x7 x2).bind fun bt335 => (if bt335.2 = 0 then (valiselaw05_LimitAlike.j2 k x1 bt335.1 ((bt335.1.length : Int) != (x7.length : Int))) else (valiselaw05_LimitAlike.j2 k x1 bt335.1 true)))) else (none)
def valiselaw05_LimitAlike.j2 : Nat → Int → List Int → Bool → Option (Bool)
  | 0, _, _, _ => none
  | k + 1, x1, x9, x60 => if x60 = true then (some false) else (valiselaw05_LimitAlike.l1 k x1 x9 0)
def valiselaw05_LimitAlike.l1 : Nat → Int → List Int → Int → Option (Bool)
  | 0, _, _, _ => none
  | k + 1, x1, x9, x11 => if x11 < (x9.length : Int) then (if 0 ≤ x11 then (if (rd x9 x11) = x1 then (valiselaw05_LimitAlike.l1 k x1 x9 (wrap64 (x11 + 1))) else (some false)) else (none)) else ((valiselaw05_lives.f k).bind fun t340 => (some t340))
end
def valiselaw05_LimitAlike.f (k : Nat) (a0 : Int) (a1 : Int) (a2 : Int) : Option (Bool) := if a0 < 1 then (valiselaw05_LimitAlike.j0 k a0 a1 a2 true) else (if a0 > 4294967295 then (valiselaw05_LimitAlike.j0 k a0 a1 a2 true) else (if a1 < 1 then (valiselaw05_LimitAlike.j0 k a0 a1 a2 true) else (if a1 > 8 then (valiselaw05_LimitAlike.j0 k a0 a1 a2 true) else (if a2 < a1 then (valiselaw05_LimitAlike.j0 k a0 a1 a2 true) else (valiselaw05_LimitAlike.j0 k a0 a1 a2 (decide (a2 > 15)))))))
theorem valiselaw05_LimitAlike.mono_l : ∀ k, (∀ y0 y1 y2 y3, LeO (valiselaw05_LimitAlike.j0 k y0 y1 y2 y3) (valiselaw05_LimitAlike.j0 (k + 1) y0 y1 y2 y3)) ∧ (∀ y0 y1 y2 y3 y4, LeO (valiselaw05_LimitAlike.l0 k y0 y1 y2 y3 y4) (valiselaw05_LimitAlike.l0 (k + 1) y0 y1 y2 y3 y4)) ∧ (∀ y0 y1 y2, LeO (valiselaw05_LimitAlike.j2 k y0 y1 y2) (valiselaw05_LimitAlike.j2 (k + 1) y0 y1 y2)) ∧ (∀ y0 y1 y2, LeO (valiselaw05_LimitAlike.l1 k y0 y1 y2) (valiselaw05_LimitAlike.l1 (k + 1) y0 y1 y2))
  | 0 => ⟨fun _ _ _ _ r h => by simp [valiselaw05_LimitAlike.j0] at h, fun _ _ _ _ _ r h => by simp [valiselaw05_LimitAlike.l0] at h, fun _ _ _ r h => by simp [valiselaw05_LimitAlike.j2] at h, fun _ _ _ r h => by simp [valiselaw05_LimitAlike.l1] at h⟩
  | k + 1 => by
    obtain ⟨ih0, ih1, ih2, ih3⟩ := valiselaw05_LimitAlike.mono_l k
    refine ⟨?_, ?_, ?_, ?_⟩
    · intro y0 y1 y2 y3
      unfold valiselaw05_LimitAlike.j0
      repeat' first
      | (with_reducible exact ih0 _ _ _ _)
      | (with_reducible exact ih1 _ _ _ _ _)
      | (with_reducible exact ih2 _ _ _)
      | (with_reducible exact ih3 _ _ _)
      | (with_reducible exact valiselaw05_lives.mono _)
      | (with_reducible exact LeO.refl _)
      | (with_reducible exact LeO.none _)
      | (with_reducible refine LeO.ite ?_ ?_)
      | (with_reducible refine LeO.bind ?_ (fun _ => ?_))
      | exact ih0 _ _ _ _
      | exact ih1 _ _ _ _ _
      | exact ih2 _ _ _
      | exact ih3 _ _ _
      | exact valiselaw05_lives.mono _
      | exact LeO.none _
      | refine LeO.ite ?_ ?_
      | refine LeO.bind ?_ (fun _ => ?_)
    · intro y0 y1 y2 y3 y4
      unfold valiselaw05_LimitAlike.l0
      repeat' first
      | (with_reducible exact ih0 _ _ _ _)
      | (with_reducible exact ih1 _ _ _ _ _)
      | (with_reducible exact ih2 _ _ _)
      | (with_reducible exact ih3 _ _ _)
      | (with_reducible exact valiselaw05_lives.mono _)
      | (with_reducible exact LeO.refl _)
      | (with_reducible exact LeO.none _)
      | (with_reducible refine LeO.ite ?_ ?_)
      | (with_reducible refine LeO.bind ?_ (fun _ => ?_))
      | exact ih0 _ _ _ _
      | exact ih1 _ _ _ _ _
      | exact ih2 _ _ _
      | exact ih3 _ _ _
      | exact valiselaw05_lives.mono _
      | exact LeO.none _
      | refine LeO.ite ?_ ?_
      | refine LeO.bind ?_ (fun _ => ?_)
    · intro y0 y1 y2
      unfold valiselaw05_LimitAlike.j2
      repeat' first
      | (with_reducible exact ih0 _ _ _ _)
      | (with_reducible exact ih1 _ _ _ _ _)
      | (with_reducible exact ih2 _ _ _)
      | (with_reducible exact ih3 _ _ _)
      | (with_reducible exact valiselaw05_lives.mono _)
      | (with_reducible exact LeO.refl _)
      | (with_reducible exact LeO.none _)
      | (with_reducible refine LeO.ite ?_ ?_)
      | (with_reducible refine LeO.bind ?_ (fun _ => ?_))
      | exact ih0 _ _ _ _
      | exact ih1 _ _ _ _ _
      | exact ih2 _ _ _
      | exact ih3 _ _ _
      | exact valiselaw05_lives.mono _
      | exact LeO.none _
      | refine LeO.ite ?_ ?_
      | refine LeO.bind ?_ (fun _ => ?_)
    · intro y0 y1 y2
      unfold valiselaw05_LimitAlike.l1
      repeat' first
      | (with_reducible exact ih0 _ _ _ _)
      | (with_reducible exact ih1 _ _ _ _ _)
      | (with_reducible exact ih2 _ _ _)
      | (with_reducible exact ih3 _ _ _)
      | (with_reducible exact valiselaw05_lives.mono _)
      | (with_reducible exact LeO.refl _)
      | (with_reducible exact LeO.none _)
      | (with_reducible refine LeO.ite ?_ ?_)
      | (with_reducible refine LeO.bind ?_ (fun _ => ?_))
      | exact ih0 _ _ _ _
      | exact ih1 _ _ _ _ _
      | exact ih2 _ _ _
      | exact ih3 _ _ _
      | exact valiselaw05_lives.mono _
      | exact LeO.none _
      | refine LeO.ite ?_ ?_
      | refine LeO.bind ?_ (fun _ => ?_)
theorem valiselaw05_LimitAlike.mono : ∀ a0 a1 a2 k, LeO (valiselaw05_LimitAlike.f k a0 a1 a2) (valiselaw05_LimitAlike.f (k + 1) a0 a1 a2) := by
  intro a0 a1 a2 k
  obtain ⟨ih0, ih1, ih2, ih3⟩ := valiselaw05_LimitAlike.mono_l k
  unfold valiselaw05_LimitAlike.f
  repeat' first
      | (with_reducible exact ih0 _ _ _ _)
      | (with_reducible exact ih1 _ _ _ _ _)
      | (with_reducible exact ih2 _ _ _)
      | (with_reducible exact ih3 _ _ _)
      | (with_reducible exact valiselaw05_lives.mono _)
      | (with_reducible exact LeO.refl _)
      | (with_reducible exact LeO.none _)
      | (with_reducible refine LeO.ite ?_ ?_)
      | (with_reducible refine LeO.bind ?_ (fun _ => ?_))
      | exact ih0 _ _ _ _
      | exact ih1 _ _ _ _ _
      | exact ih2 _ _ _
      | exact ih3 _ _ _
      | exact valiselaw05_lives.mono _
      | exact LeO.none _
      | refine LeO.ite ?_ ?_
      | refine LeO.bind ?_ (fun _ => ?_)
set_option maxHeartbeats 8000000 in
set_option maxRecDepth 100000 in
theorem valiselaw05_LimitAlike.calls (k : Nat) (a0 : Int) (a1 : Int) (a2 : Int) (r : Bool) (w : World) (h : valiselaw05_LimitAlike.f k a0 a1 a2 = some r) :
    Calls Try.prog 8 #[.int .i64 a0, .int .i64 a1, .int .i64 a2] w fun e w' => e = .returned (.bool r) ∧ Below w.heap.size w w' := by
  have HB := Aside0.mk (Below.refl w.heap.size w)
  have H : (if a0 < 1 then (valiselaw05_LimitAlike.j0 k a0 a1 a2 true) else (if a0 > 4294967295 then (valiselaw05_LimitAlike.j0 k a0 a1 a2 true) else (if a1 < 1 then (valiselaw05_LimitAlike.j0 k a0 a1 a2 true) else (if a1 > 8 then (valiselaw05_LimitAlike.j0 k a0 a1 a2 true) else (if a2 < a1 then (valiselaw05_LimitAlike.j0 k a0 a1 a2 true) else (valiselaw05_LimitAlike.j0 k a0 a1 a2 (decide (a2 > 15)))))))) = some r := h
  clear h
  have HC4 := Aside0.mk H
  clear H
  go_enter Try.func8, Try.ntmps8
  go_upto_region 1 with (fail)
  go_cut [34] (fun v34 wc => ∃ (kq : Nat) (x34_3 : Bool), v34 = .bool x34_3 ∧ Aside0 (valiselaw05_LimitAlike.j0 kq a0 a1 a2 x34_3 = some r) ∧ Aside0 (kq ≤ k) ∧ Aside0 (Below w.heap.size w wc))
  case first =>
    have H := HC4.out
    clear HC4
    by_cases c5 : a0 < 1
    · rw [if_pos c5] at H
      have c5b0 : decide (a0 < 1) = true := decide_eq_true c5
      clear c5
      (first | rw [c5b0] | (simp only [i64_w, i32_w, u8_w]; rw [c5b0]) | skip)
      have H' := Aside0.mk H
      clear H
      go_wp2
      go_meet
      case rel => exact ⟨_, (true), (by first | rfl | (simp; done) | (simp [*]; done)), H', ⟨by first | omega | exact Nat.le_refl _⟩, ⟨by repeat (first | (with_reducible first | exact HB.out | apply below_alloc | apply pw_below_drewN | apply below_drew1) | exact HB.out)⟩⟩
    · rw [if_neg c5] at H
      have c5b0 : decide (a0 < 1) = false := decide_eq_false c5
      clear c5
      (first | rw [c5b0] | (simp only [i64_w, i32_w, u8_w]; rw [c5b0]) | skip)
      by_cases c6 : a0 > 4294967295
      · rw [if_pos c6] at H
        have c6b0 : decide (4294967295 < a0) = true := decide_eq_true c6
        clear c6
        have H' := Aside0.mk H
        clear H
        go_wp2
        go_meet
        case rel => exact ⟨_, (true), (by first | rfl | (simp; done) | (simp [*]; done)), H', ⟨by first | omega | exact Nat.le_refl _⟩, ⟨by repeat (first | (with_reducible first | exact HB.out | apply below_alloc | apply pw_below_drewN | apply below_drew1) | exact HB.out)⟩⟩
      · rw [if_neg c6] at H
        have c6b0 : decide (4294967295 < a0) = false := decide_eq_false c6
        clear c6
        by_cases c7 : a1 < 1
        · rw [if_pos c7] at H
          have c7b0 : decide (a1 < 1) = true := decide_eq_true c7
          clear c7
          have H' := Aside0.mk H
          clear H
          go_wp2
          go_meet
          case rel => exact ⟨_, (true), (by first | rfl | (simp; done) | (simp [*]; done)), H', ⟨by first | omega | exact Nat.le_refl _⟩, ⟨by repeat (first | (with_reducible first | exact HB.out | apply below_alloc | apply pw_below_drewN | apply below_drew1) | exact HB.out)⟩⟩
        · rw [if_neg c7] at H
          have c7b0 : decide (a1 < 1) = false := decide_eq_false c7
          clear c7
          by_cases c8 : a1 > 8
          · rw [if_pos c8] at H
            have c8b0 : decide (8 < a1) = true := decide_eq_true c8
            clear c8
            have H' := Aside0.mk H
            clear H
            go_wp2
            go_meet
            case rel => exact ⟨_, (true), (by first | rfl | (simp; done) | (simp [*]; done)), H', ⟨by first | omega | exact Nat.le_refl _⟩, ⟨by repeat (first | (with_reducible first | exact HB.out | apply below_alloc | apply pw_below_drewN | apply below_drew1) | exact HB.out)⟩⟩
          · rw [if_neg c8] at H
            have c8b0 : decide (8 < a1) = false := decide_eq_false c8
            clear c8
            by_cases c9 : a2 < a1
            · rw [if_pos c9] at H
              have c9b0 : decide (a2 < a1) = true := decide_eq_true c9
              clear c9
              have H' := Aside0.mk H
              clear H
              go_wp2
              go_meet
              case rel => exact ⟨_, (true), (by first | rfl | (simp; done) | (simp [*]; done)), H', ⟨by first | omega | exact Nat.le_refl _⟩, ⟨by repeat (first | (with_reducible first | exact HB.out | apply below_alloc | apply pw_below_drewN | apply below_drew1) | exact HB.out)⟩⟩
            · rw [if_neg c9] at H
              have c9b0 : decide (a2 < a1) = false := decide_eq_false c9
              clear c9
              have H' := Aside0.mk H
              clear H
              go_wp2
              go_meet
              case rel => exact ⟨_, (decide (a2 > 15)), (by first | rfl | (simp; done) | (simp [*]; done)), H', ⟨by first | omega | exact Nat.le_refl _⟩, ⟨by repeat (first | (with_reducible first | exact HB.out | apply below_alloc | apply pw_below_drewN | apply below_drew1) | exact HB.out)⟩⟩
  case rest =>
    clear HC4
    try clear p2
    try clear c5
    try clear c5b0
    try clear c6
    try clear c6b0
    try clear c7
    try clear c7b0
    try clear c8
    try clear c8b0
    try clear c9
    try clear c9b0
    obtain ⟨kq, x34_3, rfl, HA, HJ3, HB⟩ := hcut
    cases kq with
    | zero => exact absurd HA.out (by simp [valiselaw05_LimitAlike.j0])
    | succ kj3 =>
      have H := HA.out
      clear HA
      simp only [valiselaw05_LimitAlike.j0] at H
      by_cases c10 : x34_3 = true
      · subst c10
        have H1 : ((valiselaw05_lives.f kj3).bind fun t331 => (some t331)) = some r := by rw [if_pos rfl] at H; exact H
        clear H
        have H := H1
        clear H1
        replace H := Option.bind_eq_some_iff.mp H
        obtain ⟨t331, A110, H⟩ := H
        replace H : (some t331) = some r := H
        have A11 := Aside0.mk A110
        clear A110
        obtain rfl := Option.some.inj H
        go_wp2_with (first | ((with_reducible refine gate_callee (f := 11) rfl ?_); refine goesL_ (some 35) rfl rfl Try.func11 (by kernel_rfl) rfl #[] rfl (by (try simp only [List.map_toArray, List.map_cons, List.map_nil]); first | done | rfl | (simp only [List.length_drop, List.length_take]; rfl)) ?_; (with_reducible refine (valiselaw05_lives.calls kj3  t331 _ A11.out).mono ?_); rintro e w12 ⟨rfl, hb⟩; refine ⟨_, rfl, ?_⟩; have n0_ := Aside0.mk (below_step (by repeat (first | (with_reducible first | exact HB.out | apply below_alloc | apply pw_below_drewN | apply below_drew1) | exact HB.out)) hb); clear HB; have HB := n0_; clear n0_; (try clear hb); (try clear hb2); (try clear hk); (try clear hi)))
        go_ret
        exact ⟨by first | rfl | (simp [errW_none, errW_some] <;> rfl) | (simp [*, errW_none, errW_some] <;> rfl), by repeat (first | (with_reducible first | exact HB.out | apply below_alloc | apply pw_below_drewN | apply below_drew1) | exact HB.out)⟩
      · replace c10 := Bool.eq_false_iff.mpr c10
        subst c10
        have H1 : (valiselaw05_LimitAlike.l0 kj3 a0 a1 a2 ([] : List Int) 0) = some r := by rw [if_neg (show ¬ (false = true) by decide)] at H; exact H
        clear H
        have H := H1
        clear H1
        have H' := Aside0.mk H
        clear H
        go_wp2
        go_loopg [7, 8] kj3 (fun kq v7 v8 w' => ∃ (x7_2 : List Int) (x8_2 : Int), v8 = .int .i64 x8_2 ∧ Aside0 (valiselaw05_LimitAlike.l0 kq a0 a1 a2 x7_2 x8_2 = some r) ∧ Aside0 (kq ≤ kj3) ∧ Aside0 (Kd.R (Kd.int .i64) 3 w' w.heap.size (fun _ => True) v7 x7_2) ∧ Aside0 (Below w.heap.size w w'))
        case atStart => exact ⟨(([] : List Int)), (0), (by first | rfl | (simp; done) | (simp [*]; done)), H', ⟨Nat.le_refl _⟩, ⟨by first | exact Kd.R_nil _ _ _ _ _ | exact Kd.N_nil _ _ _ _ _ | exact Kd.V_nil _ _ _ _ _ | exact Kd.Q_nil _ _ _ _ _ | exact Kd.S_nil _ _ _ _ _⟩, ⟨by repeat (first | (with_reducible first | exact HB.out | apply below_alloc | apply pw_below_drewN | apply below_drew1) | exact HB.out)⟩⟩
        case round =>
          clear H'
          try clear c1
          try clear p2
          try clear c5
          try clear c5b0
          try clear c6
          try clear c6b0
          try clear c7
          try clear c7b0
          try clear c8
          try clear c8b0
          try clear c9
          try clear c9b0
          try clear c10
          try clear c11
          try clear p2
          obtain ⟨x7_2, x8_2, rfl, HA, HK2, HO_7, HB⟩ := hrel
          cases gk with
          | zero => exact absurd HA.out (by simp [valiselaw05_LimitAlike.l0])
          | succ k2 =>
            have H := HA.out
            clear HA
            simp only [valiselaw05_LimitAlike.l0] at H
            by_cases c13 : 0 ≤ a1
            · rw [if_pos c13] at H
              have c13b0 := eq_true c13
              have c13b1 : decide (0 ≤ a1) = true := decide_eq_true c13
              clear c13
              obtain ⟨ji14, hji14⟩ : ∃ j_ : Int, (shl .i64 1 a1) = j_ := ⟨_, rfl⟩
              replace H : (if x8_2 < (ji14) then (if x7_2.length < 17592186044416 then (valiselaw05_LimitAlike.l0 k2 a0 a1 a2 (x7_2 ++ [a0]) (wrap64 (x8_2 + 1))) else (none)) else ((limit_Lengths.f x7_2 a2).bind fun bt335 => (if bt335.2 = 0 then (valiselaw05_LimitAlike.j2 k2 a1 bt335.1 ((bt335.1.length : Int) != (x7_2.length : Int))) else (valiselaw05_LimitAlike.j2 k2 a1 bt335.1 true)))) = some r := by first | (rw [hji14] at H; exact H) | (simp only [hji14] at H ⊢; exact H)
              have hji14_ : (IntKind.i64.wrap (1 * 2 ^ min a1.toNat 64)) = ji14 := hji14
              have hji14z : a1 ≤ 64 → (IntKind.i64.wrap (1 * 2 ^ a1.toNat)) = ji14 := shl_small hji14
              have hji14u : (IntKind.i64.wrap (2 ^ min a1.toNat 64)) = ji14 := by have h_ := hji14_; rw [Int.one_mul] at h_; exact h_
              have hji14v : a1 ≤ 64 → (IntKind.i64.wrap (2 ^ a1.toNat)) = ji14 := fun hle_ => by have h_ := hji14z hle_; rw [Int.one_mul] at h_; exact h_
              have hji14y : (wrap64 (1 * 2 ^ min a1.toNat 64)) = ji14 := (i64_w _).symm.trans hji14_
              have hji14x : a1 ≤ 64 → (wrap64 (1 * 2 ^ a1.toNat)) = ji14 := fun h_ => (i64_w _).symm.trans (hji14z h_)
              by_cases c15 : x8_2 < (ji14)
              · rw [if_pos c15] at H
                have c15b0 : decide (x8_2 < (ji14)) = true := decide_eq_true c15
                clear c15
                by_cases c16 : x7_2.length < 17592186044416
                · rw [if_pos c16] at H
                  have LMc16 := Aside0.mk c16
                  clear c16
                  obtain ⟨y332, hy332⟩ : ∃ y_ : List Int, y_ = (x7_2 ++ [a0]) := ⟨_, rfl⟩
                  replace H : (valiselaw05_LimitAlike.l0 k2 a0 a1 a2 y332 (wrap64 (x8_2 + 1))) = some r := by first | (rw [hy332]; with_reducible exact H) | (have H2_ := (Option.bind_some _ _).symm.trans H; rw [hy332]; with_reducible exact H2_) | (have H2_ := (Option.bind_some _ _).symm.trans H; with_reducible exact H2_) | with_reducible exact H | (rw [hy332]; exact H) | exact H
                  have Ny332 := Aside0.mk hy332
                  clear hy332
                  have H' := Aside0.mk H
                  clear H
                  go_wp2_with (first | ((with_reducible refine gate_builtin (b := .append) (xs := #[.tmp 42, .tmp 44]) rfl ?_); (try (refine gate_guard (by rfl) ?_; dsimp only)); at_builtin; refine Kd.R_append (Kd.int .i64) (w0 := w) w.heap.size rfl (.tmp 42) (.tmp 44) 22 3 (.int .i64 0) 8 rfl Try.underlying22 info3 rfl (by decide) (by omega) u7 x7_2 a0 [.int .i64 a0] (fun _ => True) (fun _ => False) rfl rfl ?aP (fun _ hk => hk.elim) ?aF ?aO ?aB ?aS ?aL ?_; (case aP => exact rfl); (case aB => exact (by repeat (first | (with_reducible first | exact HB.out | apply below_alloc | apply pw_below_drewN | apply below_drew1) | exact HB.out))); (case aF => exact (fun _ _ => trivial)); (case aO => exact (by (with_reducible repeat (first | apply Kd.R_alloc | apply Kd.R_drewN | apply Kd.R_drew)); exact HO_7.out)); (case aS => exact (below_size (by repeat (first | (with_reducible first | exact HB.out | apply below_alloc | apply pw_below_drewN | apply below_drew1) | exact HB.out)))); (case aL => have := LMc16.out; omega); intro v333 w17 ho hb hg hat; rw [← Ny332.out] at ho; have n0_ := Aside0.mk (hb); have n1_ := Aside0.mk (ho); clear HB; clear HO_7; have HB := n0_; have HO334 := n1_; clear n0_ n1_; clear ho hb hg hat))
                  go_roundg k2
                  case measure => have := HJ3.out; have := HK2.out; omega
                  case rel => exact ⟨(y332), (wrap64 (x8_2 + 1)), (by first | rfl | (simp; done) | (simp [*]; done)), H', ⟨by have := HJ3.out; have := HK2.out; omega⟩, ⟨by (with_reducible repeat (first | apply Kd.R_alloc | apply Kd.R_drewN | apply Kd.R_drew)); exact HO334.out⟩, ⟨by repeat (first | (with_reducible first | exact HB.out | apply below_alloc | apply pw_below_drewN | apply below_drew1) | exact HB.out)⟩⟩
                · rw [if_neg c16] at H
                  exact absurd H (by simp)
              · rw [if_neg c15] at H
                have c15b0 : decide (x8_2 < (ji14)) = false := decide_eq_false c15
                clear c15
                replace H := Option.bind_eq_some_iff.mp H
                obtain ⟨⟨t335, t336⟩, A180, H⟩ := H
                replace H : (if t336 = 0 then (valiselaw05_LimitAlike.j2 k2 a1 t335 ((t335.length : Int) != (x7_2.length : Int))) else (valiselaw05_LimitAlike.j2 k2 a1 t335 true)) = some r := H
                have A18 := Aside0.mk A180
                clear A180
                have HC19 := Aside0.mk H
                clear H
                obtain ⟨Ao20, co20, eo20⟩ := Kd.R_slice HO_7.out
                subst eo20
                go_upto_region 9 with (first | ((with_reducible refine gate_callee (f := 9) rfl ?_); refine goesL_ (some 49) rfl rfl Try.func9 (by kernel_rfl) rfl #[.slice Ao20 x7_2.length co20, .int .i64 a2] rfl (by (try simp only [List.map_toArray, List.map_cons, List.map_nil]); first | done | rfl | (simp only [List.length_drop, List.length_take]; rfl)) ?_; (with_reducible refine (limit_Lengths.calls _ _ x7_2 a2 t335 t336 _ ?side1 ?side2 A18.out).mono ?_); (case side1 => repeat (first | exact (Kd.R_reads' HO_7.out).2.2 | (with_reducible refine Kd.C_alloc ?_ _) | (with_reducible refine Kd.C_drewN ?_ _) | (with_reducible refine Kd.C_drew ?_))); (case side2 => exact (Kd.R_reads' HO_7.out).2.1); rintro e w21 ⟨v337, rfl, ho0, hb⟩; refine ⟨_, rfl, ?_⟩; have n0_ := Aside0.mk (Kd.R_elder' (by (with_reducible repeat (first | apply Kd.R_alloc | apply Kd.R_drewN | apply Kd.R_drew)); exact HO_7.out) (Kd.R_base ho0) hb); have n1_ := Aside0.mk (Kd.R_lower (Kd.R_new' ho0 (Kd.R_lt (by (with_reducible repeat (first | apply Kd.R_alloc | apply Kd.R_drewN | apply Kd.R_drew)); exact HO_7.out))) (below_size (by repeat (first | (with_reducible first | exact HB.out | apply below_alloc | apply pw_below_drewN | apply below_drew1) | exact HB.out)))); have n2_ := Aside0.mk (below_step (by repeat (first | (with_reducible first | exact HB.out | apply below_alloc | apply pw_below_drewN | apply below_drew1) | exact HB.out)) hb); clear HO_7; clear HB; have HO_7 := n0_; have HO338 := n1_; have HB := n2_; clear n0_ n1_ n2_; (try clear hb); (try clear hb2); (try clear hk); (try clear hi); (try clear ho0)))
                (try simp only [Act.put, List.setIfInBounds_toArray, List.set_cons_zero, List.set_cons_succ])
                go_cut [60] (fun v60 wc => ∃ (kq : Nat) (x60_18 : Bool), v60 = .bool x60_18 ∧ Aside0 (valiselaw05_LimitAlike.j2 kq a1 t335 x60_18 = some r) ∧ Aside0 (kq ≤ k2) ∧ Aside0 (Kd.R (Kd.int .i64) 3 wc w.heap.size (fun _ => True) v337 t335) ∧ Aside0 (Below w.heap.size w wc))
                case first =>
                  have H := HC19.out
                  clear HC19
                  by_cases c22 : t336 = 0
                  · rw [if_pos c22] at H
                    have c22b0 : (t336 == 0) = true := beq_iff_eq.mpr c22
                    have c22b1 : (t336 != 0) = false := bne_eq_false_iff_eq.mpr c22
                    clear c22
                    (first | rw [c22b0] | (simp only [i64_w, i32_w, u8_w]; rw [c22b0]) | skip)
                    have H' := Aside0.mk H
                    clear H
                    obtain ⟨Ao23, co23, eo23⟩ := Kd.R_slice HO338.out
                    subst eo23
                    go_wp2
                    go_meet
                    case rel => exact ⟨_, (((t335.length : Int) != (x7_2.length : Int))), (by first | rfl | (simp; done) | (simp [*]; done)), H', ⟨by have := HJ3.out; have := HK2.out; first | omega | exact Nat.le_refl _⟩, ⟨by (with_reducible repeat (first | apply Kd.R_alloc | apply Kd.R_drewN | apply Kd.R_drew)); exact Kd.R_mono HO338.out (fun _ hk => trivial)⟩, ⟨by repeat (first | (with_reducible first | exact HB.out | apply below_alloc | apply pw_below_drewN | apply below_drew1) | exact HB.out)⟩⟩
                  · rw [if_neg c22] at H
                    have c22b0 : (t336 == 0) = false := beq_eq_false_iff_ne.mpr c22
                    have c22b1 : (t336 != 0) = true := bne_iff_ne.mpr c22
                    (first | rw [c22b0] | (simp only [i64_w, i32_w, u8_w]; rw [c22b0]) | skip)
                    have H' := Aside0.mk H
                    clear H
                    go_wp2
                    go_meet
                    case rel => exact ⟨_, (true), (by first | rfl | (simp; done) | (simp [*]; done)), H', ⟨by have := HJ3.out; have := HK2.out; first | omega | exact Nat.le_refl _⟩, ⟨by (with_reducible repeat (first | apply Kd.R_alloc | apply Kd.R_drewN | apply Kd.R_drew)); exact Kd.R_mono HO338.out (fun _ hk => trivial)⟩, ⟨by repeat (first | (with_reducible first | exact HB.out | apply below_alloc | apply pw_below_drewN | apply below_drew1) | exact HB.out)⟩⟩
                case rest =>
                  clear HC19
                  try clear c1
                  try clear c2
                  try clear p2
                  try clear c5
                  try clear c5b0
                  try clear c6
                  try clear c6b0
                  try clear p6
                  try clear c7
                  try clear c7b0
                  try clear c8
                  try clear c8b0
                  try clear c9
                  try clear c9b0
                  try clear c10
                  try clear c11
                  try clear c13
                  try clear c13b0
                  try clear c13b1
                  try clear c15
                  try clear c15b0
                  try clear c16
                  try clear c22
                  try clear c22b0
                  try clear c22b1
                  try clear p2
                  obtain ⟨kq, x60_18, rfl, HA, HJ18, HO_9, HB⟩ := hcut
                  cases kq with
                  | zero => exact absurd HA.out (by simp [valiselaw05_LimitAlike.j2])
                  | succ kj18 =>
                    have H := HA.out
                    clear HA
                    simp only [valiselaw05_LimitAlike.j2] at H
                    by_cases c24 : x60_18 = true
                    · subst c24
                      have H1 : (some false) = some r := by rw [if_pos rfl] at H; exact H
                      clear H
                      have H := H1
                      clear H1
                      obtain rfl := Option.some.inj H
                      go_wp2
                      go_ret
                      exact ⟨by first | rfl | (simp [errW_none, errW_some] <;> rfl) | (simp only [← hji14]; first | rfl | (simp [errW_none, errW_some] <;> rfl)) | (simp [*, errW_none, errW_some] <;> rfl), by repeat (first | (with_reducible first | exact HB.out | apply below_alloc | apply pw_below_drewN | apply below_drew1) | exact HB.out)⟩
                    · replace c24 := Bool.eq_false_iff.mpr c24
                      subst c24
                      have H1 : (valiselaw05_LimitAlike.l1 kj18 a1 t335 0) = some r := by rw [if_neg (show ¬ (false = true) by decide)] at H; exact H
                      clear H
                      have H := H1
                      clear H1
                      have H' := Aside0.mk H
                      clear H
                      go_wp2
                      go_loopg [11] kj18 (fun kq v11 w' => ∃ (x11_4 : Int), v11 = .int .i64 x11_4 ∧ Aside0 (valiselaw05_LimitAlike.l1 kq a1 t335 x11_4 = some r) ∧ Aside0 (kq ≤ kj18) ∧ Aside0 (Kd.R (Kd.int .i64) 3 w' w.heap.size (fun _ => True) v337 t335) ∧ Aside0 (Below w.heap.size w w'))
                      case atStart => exact ⟨(0), (by first | rfl | (simp; done) | (simp [*]; done)), H', ⟨Nat.le_refl _⟩, ⟨by (with_reducible repeat (first | apply Kd.R_alloc | apply Kd.R_drewN | apply Kd.R_drew)); exact HO_9.out⟩, ⟨by repeat (first | (with_reducible first | exact HB.out | apply below_alloc | apply pw_below_drewN | apply below_drew1) | exact HB.out)⟩⟩
                      case round =>
                        clear H'
                        try clear c1
                        try clear c2
                        try clear p2
                        try clear c5
                        try clear c5b0
                        try clear c6
                        try clear c6b0
                        try clear p6
                        try clear c7
                        try clear c7b0
                        try clear c8
                        try clear c8b0
                        try clear c9
                        try clear c9b0
                        try clear c10
                        try clear c11
                        try clear c13
                        try clear c13b0
                        try clear c13b1
                        try clear c15
                        try clear c15b0
                        try clear c16
                        try clear c22
                        try clear c22b0
                        try clear c22b1
                        try clear c24
                        try clear p2
                        try clear p6
                        obtain ⟨x11_4, rfl, HA, HK4, HO_9, HB⟩ := hrel
                        cases gk with
                        | zero => exact absurd HA.out (by simp [valiselaw05_LimitAlike.l1])
                        | succ k4 =>
                          have H := HA.out
                          clear HA
                          simp only [valiselaw05_LimitAlike.l1] at H
                          by_cases c25 : x11_4 < (t335.length : Int)
                          · rw [if_pos c25] at H
                            have c25b0 : decide (x11_4 < (t335.length : Int)) = true := decide_eq_true c25
                            clear c25
                            by_cases c26 : 0 ≤ x11_4
                            · rw [if_pos c26] at H
                              have c26b0 : decide (0 ≤ x11_4) = true := decide_eq_true c26
                              clear c26
                              by_cases c27 : (rd t335 x11_4) = a1
                              · rw [if_pos c27] at H
                                have c27b0 : ((rd t335 x11_4) == a1) = true := beq_iff_eq.mpr c27
                                have c27b1 : ((rd t335 x11_4) != a1) = false := bne_eq_false_iff_eq.mpr c27
                                clear c27
                                have H' := Aside0.mk H
                                clear H
                                obtain ⟨Ao28, co28, eo28⟩ := Kd.R_slice HO_9.out
                                subst eo28
                                have p339 : 0 ≤ (x11_4 : Int) := of_decide_eq_true (by first | (with_reducible assumption) | assumption)
                                have q339 : x11_4 < (t335.length : Int) := of_decide_eq_true (by first | (with_reducible assumption) | assumption)
                                obtain ⟨ad339, e339, hx339_0⟩ := Kd.at_int (Kd.R_reads' HO_9.out).2.2 x11_4 p339 q339
                                cases e339
                                replace p339 := eq_true p339
                                replace q339 := eq_true q339
                                go_wp2
                                go_roundg k4
                                case measure => have := HJ3.out; have := HK2.out; have := HJ18.out; have := HK4.out; omega
                                case rel => exact ⟨(wrap64 (x11_4 + 1)), (by first | rfl | (simp; done) | (simp [*]; done)), H', ⟨by have := HJ3.out; have := HK2.out; have := HJ18.out; have := HK4.out; omega⟩, ⟨by (with_reducible repeat (first | apply Kd.R_alloc | apply Kd.R_drewN | apply Kd.R_drew)); exact HO_9.out⟩, ⟨by repeat (first | (with_reducible first | exact HB.out | apply below_alloc | apply pw_below_drewN | apply below_drew1) | exact HB.out)⟩⟩
                              · rw [if_neg c27] at H
                                have c27b0 : ((rd t335 x11_4) == a1) = false := beq_eq_false_iff_ne.mpr c27
                                have c27b1 : ((rd t335 x11_4) != a1) = true := bne_iff_ne.mpr c27
                                obtain rfl := Option.some.inj H
                                obtain ⟨Ao29, co29, eo29⟩ := Kd.R_slice HO_9.out
                                subst eo29
                                have p339 : 0 ≤ (x11_4 : Int) := of_decide_eq_true (by first | (with_reducible assumption) | assumption)
                                have q339 : x11_4 < (t335.length : Int) := of_decide_eq_true (by first | (with_reducible assumption) | assumption)
                                obtain ⟨ad339, e339, hx339_0⟩ := Kd.at_int (Kd.R_reads' HO_9.out).2.2 x11_4 p339 q339
                                cases e339
                                replace p339 := eq_true p339
                                replace q339 := eq_true q339
                                go_wp2
                                go_ret
                                exact ⟨by first | rfl | (simp [errW_none, errW_some] <;> rfl) | (simp only [← hji14]; first | rfl | (simp [errW_none, errW_some] <;> rfl)) | (simp [*, errW_none, errW_some] <;> rfl), by repeat (first | (with_reducible first | exact HB.out | apply below_alloc | apply pw_below_drewN | apply below_drew1) | exact HB.out)⟩
                            · rw [if_neg c26] at H
                              exact absurd H (by simp)
                          · rw [if_neg c25] at H
                            have c25b0 : decide (x11_4 < (t335.length : Int)) = false := decide_eq_false c25
                            clear c25
                            replace H := Option.bind_eq_some_iff.mp H
                            obtain ⟨t340, A300, H⟩ := H
                            replace H : (some t340) = some r := H
                            have A30 := Aside0.mk A300
                            clear A300
                            obtain rfl := Option.some.inj H
                            obtain ⟨Ao31, co31, eo31⟩ := Kd.R_slice HO_9.out
                            subst eo31
                            go_wp2_with (first | ((with_reducible refine gate_callee (f := 11) rfl ?_); refine goesL_ (some 73) rfl rfl Try.func11 (by kernel_rfl) rfl #[] rfl (by (try simp only [List.map_toArray, List.map_cons, List.map_nil]); first | done | rfl | (simp only [List.length_drop, List.length_take]; rfl)) ?_; (with_reducible refine (valiselaw05_lives.calls k4  t340 _ A30.out).mono ?_); rintro e w32 ⟨rfl, hb⟩; refine ⟨_, rfl, ?_⟩; have n0_ := Aside0.mk (Kd.R_below (by (with_reducible repeat (first | apply Kd.R_alloc | apply Kd.R_drewN | apply Kd.R_drew)); exact HO_9.out) hb); have n1_ := Aside0.mk (below_step (by repeat (first | (with_reducible first | exact HB.out | apply below_alloc | apply pw_below_drewN | apply below_drew1) | exact HB.out)) hb); clear HO_9; clear HB; have HO_9 := n0_; have HB := n1_; clear n0_ n1_; (try clear hb); (try clear hb2); (try clear hk); (try clear hi)))
                            go_ret
                            exact ⟨by first | rfl | (simp [errW_none, errW_some] <;> rfl) | (simp only [← hji14]; first | rfl | (simp [errW_none, errW_some] <;> rfl)) | (simp [*, errW_none, errW_some] <;> rfl), by repeat (first | (with_reducible first | exact HB.out | apply below_alloc | apply pw_below_drewN | apply below_drew1) | exact HB.out)⟩
            · rw [if_neg c13] at H
              exact absurd H (by simp)

/-- THE ONE PURE STATEMENT of valiselaw05_LimitAlike: yours. -/
def valiselaw05_LimitAlike.Pure : Prop := ∀ (a0 : Int) (a1 : Int) (a2 : Int), (Lit.int .i64 a0).wf = true → (Lit.int .i64 a1).wf = true → (Lit.int .i64 a2).wf = true → ∃ k, valiselaw05_LimitAlike.f k a0 a1 a2 = some true
theorem valiselaw05_LimitAlike.walk (P : valiselaw05_LimitAlike.Pure) (a0 : Int) (a1 : Int) (a2 : Int) (w : World) (w0 : (Lit.int .i64 a0).wf = true) (w1 : (Lit.int .i64 a1).wf = true) (w2 : (Lit.int .i64 a2).wf = true) :
    Calls Try.prog 8 #[.int .i64 a0, .int .i64 a1, .int .i64 a2] w fun e w' => e = .returned (.bool true) ∧ Below w.heap.size w w' := by
  obtain ⟨k, h⟩ := P a0 a1 a2 w0 w1 w2
  refine (valiselaw05_LimitAlike.calls k a0 a1 a2 true w h).mono ?_
  rintro e w' ⟨rfl, hd⟩
  exact ⟨rfl, hd⟩

end Go.Proofs.Ytdgpcjhincgijaa.Pg

-- YtdgpcjhincgijaaLp7
namespace Go.Proofs.Ytdgpcjhincgijaa.Pg
open Go.RowKit Go.Proofs.YtdgpcjhincgijaaW.PrintWords Go.Proofs.YtdgpcjhincgijaaW.PrintLast Go.Proofs.YtdgpcjhincgijaaW.PrintMore
set_option linter.unusedVariables false
set_option linter.unusedSimpArgs false
open Pr (Srt Stb wP pairP isortF haveF insF sorted_isF isortF_spec srt_unique singL singL_mem bump bumps zerosL lenF oftenS)
/-! ### Plain: LimitAlike -/
def alikeS (n : Nat) : Nat → Nat → List Nat
  | 0, _ => []
  | j + 1, m => min n m :: alikeS n j (2 * (m - min n m))
theorem have_ge {S : List PK} {w : Int} (hw : 0 < w) (hS : ∀ p ∈ S, w ≤ p.1) : ∀ j, ∀ p ∈ haveF S j, w ≤ p.1
  | 0, p, hp => by cases hp
  | j + 1, p, hp => by
    rcases List.mem_append.1 ((isortF_perm _).mem_iff.1 hp) with h | h
    · exact hS p h
    · obtain ⟨x, hx, y, hy, rfl⟩ := pairP_mem h
      have h1 := have_ge hw hS j x hx
      have h2 := have_ge hw hS j y hy
      show w ≤ x.1 + y.1
      omega
theorem levels3 {S : List PK} (hS : Srt wP S) {w : Int} (hw : 0 < w) (hu : ∀ p ∈ S, p.1 = w) : ∀ (j m : Nat), m ≤ (haveF S j).length → ∀ φ, Adds φ → sumF φ ((haveF S j).take m) = ((alikeS S.length j m).map (fun s => sumF φ (S.take s))).sum
  | 0, m, _, φ, _ => by simp [haveF, sumF, alikeS]
  | j + 1, m, hm, φ, hφ => by
    have hl : (mergeF S (pairP (haveF S j))).length = S.length + (pairP (haveF S j)).length := by rw [(mergeF_perm _ _).length_eq, List.length_append]
    rw [haveF_succ hS] at hm ⊢
    obtain ⟨s, p, e1, e2, e3, e4, _, e6⟩ := mergeF_take S (pairP (haveF S j)) m (by rw [← hl]; exact hm) hS (pairP_srt (haveF_srt S j))
    have hs : s = min S.length m := by
      by_cases h : s < S.length
      · have hp : p = 0 := by
          refine Nat.eq_zero_of_not_pos fun hp => ?_
          obtain ⟨y, hy⟩ : ∃ y, y ∈ (pairP (haveF S j)).take p := List.exists_mem_of_length_pos (by rw [List.length_take]; omega)
          obtain ⟨x, hx⟩ : ∃ x, x ∈ S.drop s := List.exists_mem_of_length_pos (by rw [List.length_drop]; omega)
          have h1 := e6 y hy x hx
          have h2 := hu x (List.mem_of_mem_drop hx)
          obtain ⟨a, ha, b, hb, rfl⟩ := pairP_mem (List.mem_of_mem_take hy)
          have h3 := have_ge hw (fun p hp => Int.le_of_eq (hu p hp).symm) j a ha
          have h4 := have_ge hw (fun p hp => Int.le_of_eq (hu p hp).symm) j b hb
          have h1 : a.1 + b.1 < x.1 := h1
          omega
        omega
      · omega
    have hp : p = m - min S.length m := by omega
    rw [Pr.pairP_len] at e2
    have ih := levels3 hS hw hu j (2 * p) (by omega) φ hφ
    rw [sumF_perm e4, sumF_append, pair_take hφ p _ e2, ih, alikeS, List.map_cons, List.sum_cons, ← hs, hp, hs]
theorem alike_cs (b : Nat) : ∀ (j k t : Nat), k ≤ b → t < 2 ^ b → cs (alikeS (2 ^ b) j (2 * 2 ^ b - 2 * 2 ^ k)) t = min (b - k) j
  | 0, k, t, _, _ => by rw [alikeS, Nat.min_zero]; rfl
  | j + 1, k, t, hk, ht => by
    rw [alikeS, cs_cons]
    by_cases e : k = b
    · subst e
      have ih := alike_cs k j k t (Nat.le_refl _) ht
      rw [Nat.sub_self] at ih ⊢
      rw [Nat.min_zero, Nat.sub_self, Nat.mul_zero, ih, if_neg (by omega)]
      omega
    · have h1 : 2 * 2 ^ k ≤ 2 ^ b := by
        rw [Nat.mul_comm, ← Nat.pow_succ]
        exact Nat.pow_le_pow_right (by omega) (by omega)
      have ih := alike_cs b j (k + 1) t (by omega) ht
      rw [Nat.pow_succ, Nat.mul_comm (2 ^ k) 2] at ih
      rw [Nat.min_eq_left (by omega), show 2 * (2 * 2 ^ b - 2 * 2 ^ k - 2 ^ b) = 2 * 2 ^ b - 2 * (2 * 2 ^ k) by omega, ih, if_pos ht]
      omega
theorem rep_getD (w : Int) (N i : Nat) (h : i < N) : (List.replicate N w).getD i 0 = w := by
  rw [List.getD_eq_getElem?_getD, List.getElem?_replicate, if_pos h]
  rfl
theorem alike_told {w : Int} (h1 : 1 ≤ w) (h2 : w ≤ 4294967295) {b m : Nat} (hb : 1 ≤ b) (hb8 : b ≤ 8) (hm : b ≤ m) (hm15 : m ≤ 15) : ∃ r, lenF (List.replicate (2 ^ b) w) (m : Int) = (0, r) ∧ r.length = 2 ^ b ∧ ∀ i, i < 2 ^ b → r.getD i 0 = (b : Int) := by
  have hN2 : 2 ≤ 2 ^ b := Nat.pow_le_pow_right (n := 2) (by omega) hb
  have hN : 2 ^ b ≤ 256 := Nat.pow_le_pow_right (n := 2) (by omega) hb8
  have hlen : (List.replicate (2 ^ b) w).length = 2 ^ b := List.length_replicate
  have hv : ∀ i, i < (List.replicate (2 ^ b) w).length → (List.replicate (2 ^ b) w).getD i 0 = w := fun i hi => rep_getD w _ i (by rwa [hlen] at hi)
  have hof : oftenS (List.replicate (2 ^ b) w) = true := often_mk (by omega) (by omega) (fun i hi => by rw [hv i hi]; omega)
  have hs : (singL (List.replicate (2 ^ b) w) (List.replicate (2 ^ b) w).length).length = 2 ^ b := by
    rw [sing_all (fun i hi => by rw [hv i hi]; omega) _ (Nat.le_refl _), hlen]
  obtain ⟨r, hr⟩ := lenF_mk hof (show 1 ≤ m by omega) hm15 (by rw [hs]; exact Nat.pow_le_pow_right (by omega) hm)
  refine ⟨r, hr, by rw [lenF_len hr, hlen], fun i hi => ?_⟩
  obtain ⟨m', e, _, _, hle, he⟩ := lenF_many hr (by omega)
  obtain rfl : m = m' := by omega
  have hi' : i < (List.replicate (2 ^ b) w).length := by omega
  obtain ⟨t, ht, et⟩ := rank_at hi' (by rw [hv i hi']; omega)
  have hln := (isortF_perm (singL (List.replicate (2 ^ b) w) (List.replicate (2 ^ b) w).length)).length_eq
  have hen : 2 * 2 ^ b - 2 ≤ (haveF (isortF (singL (List.replicate (2 ^ b) w) (List.replicate (2 ^ b) w).length)) m).length := by
    have := have_enough (S := isortF (singL (List.replicate (2 ^ b) w) (List.replicate (2 ^ b) w).length)) (m := m) (by omega)
    omega
  have hl3 := levels3 (isortF_spec _).1 (w := w) (by omega) (fun p hp => by
    obtain ⟨j, hj, rfl, _⟩ := sing_of hp
    exact hv j hj) m _ hen _ (cnt_adds (i : Int))
  rw [he, told_getD hi', hs, hl3, cnt_rank ht et, hln, hs]
  have := alike_cs b m 0 t (Nat.zero_le _) (by omega)
  rw [Nat.pow_zero, Nat.mul_one] at this
  rw [this]
  omega
theorem alike_l1 (b : Nat) (r : List Int) (hr : r.length ≤ 256) (hv : ∀ i, i < r.length → r.getD i 0 = (b : Int)) : ∀ (n i k : Nat), i + n = r.length → n + 100 < k → valiselaw05_LimitAlike.l1 k (b : Int) r (i : Int) = some true
  | n, i, 0, _, hk => by omega
  | 0, i, k + 1, hi, hk => by
    rw [valiselaw05_LimitAlike.l1, if_neg (by omega), lives_at (by omega)]
    rfl
  | n + 1, i, k + 1, hi, hk => by
    have ih := alike_l1 b r hr hv n (i + 1) k (by omega) (by omega)
    rw [valiselaw05_LimitAlike.l1, if_pos (by omega), if_pos (by omega), if_pos (by unfold rd; rw [Int.toNat_natCast]; exact hv i (by omega)), w_next (by omega)]
    exact ih
theorem alike_l0 (w : Int) (b m N : Nat) (hN : shl .i64 1 (b : Int) = (N : Int)) (hs : N ≤ 256) (hF : ∀ k, 400 < k → valiselaw05_LimitAlike.l0 k w (b : Int) (m : Int) (List.replicate N w) (N : Int) = some true) : ∀ (n i k : Nat), i + n = N → n + 400 < k → valiselaw05_LimitAlike.l0 k w (b : Int) (m : Int) (List.replicate i w) (i : Int) = some true
  | n, i, 0, _, hk => by omega
  | 0, i, k + 1, hi, hk => by
    obtain rfl : i = N := by omega
    exact hF _ (by omega)
  | n + 1, i, k + 1, hi, hk => by
    have ih := alike_l0 w b m N hN hs hF n (i + 1) k (by omega) (by omega)
    rw [List.replicate_succ'] at ih
    rw [valiselaw05_LimitAlike.l0, if_pos (by omega), hN, if_pos (by omega), if_pos (by rw [List.length_replicate]; omega), w_next (by omega)]
    exact ih
theorem shl_1 (b : Nat) (h1 : 1 ≤ b) (h8 : b ≤ 8) : shl .i64 1 (b : Int) = ((2 ^ b : Nat) : Int) := by
  obtain rfl | rfl | rfl | rfl | rfl | rfl | rfl | rfl : b = 1 ∨ b = 2 ∨ b = 3 ∨ b = 4 ∨ b = 5 ∨ b = 6 ∨ b = 7 ∨ b = 8 := by omega
  all_goals decide
theorem alike_j0 (w b m : Int) (k : Nat) (hk : 1000 ≤ k) : valiselaw05_LimitAlike.j0 k w b m true = some true := by
  obtain ⟨k, rfl⟩ : ∃ k', k = k' + 1 := ⟨k - 1, by omega⟩
  rw [valiselaw05_LimitAlike.j0, if_pos rfl, lives_at (by omega)]
  rfl
theorem limitAlike_pure : valiselaw05_LimitAlike.Pure := by
  intro a0 a1 a2 _ _ _
  refine ⟨2000, ?_⟩
  unfold valiselaw05_LimitAlike.f
  have hj := alike_j0 a0 a1 a2 2000 (by omega)
  by_cases h1 : a0 < 1
  · rw [if_pos h1, hj]
  rw [if_neg h1]
  by_cases h2 : a0 > 4294967295
  · rw [if_pos h2, hj]
  rw [if_neg h2]
  by_cases h3 : a1 < 1
  · rw [if_pos h3, hj]
  rw [if_neg h3]
  by_cases h4 : a1 > 8
  · rw [if_pos h4, hj]
  rw [if_neg h4]
  by_cases h5 : a2 < a1
  · rw [if_pos h5, hj]
  rw [if_neg h5]
  by_cases h6 : a2 > 15
  · rw [decide_eq_true h6, hj]
  rw [decide_eq_false h6, show (2000 : Nat) = 1999 + 1 from rfl, valiselaw05_LimitAlike.j0, if_neg (by decide)]
  obtain ⟨b, rfl⟩ : ∃ b : Nat, a1 = (b : Int) := ⟨a1.toNat, by omega⟩
  obtain ⟨m, rfl⟩ : ∃ m : Nat, a2 = (m : Int) := ⟨a2.toNat, by omega⟩
  have hN : 2 ^ b ≤ 256 := show 2 ^ b ≤ 2 ^ 8 from Nat.pow_le_pow_right (by omega) (by omega)
  obtain ⟨r, hr, hl, hv⟩ := alike_told (w := a0) (by omega) (by omega) (b := b) (m := m) (by omega) (by omega) (by omega) (by omega)
  refine alike_l0 a0 b m (2 ^ b) (shl_1 b (by omega) (by omega)) hN (fun k hk => ?_) (2 ^ b) 0 1999 (by omega) (by omega)
  obtain ⟨k, rfl⟩ : ∃ k', k = k' + 1 := ⟨k - 1, by omega⟩
  rw [valiselaw05_LimitAlike.l0, if_pos (by omega), shl_1 b (by omega) (by omega), if_neg (by omega)]
  unfold limit_Lengths.f
  simp only [Option.bind_some]
  rw [hr]
  dsimp only
  rw [if_pos rfl, List.length_replicate, hl]
  obtain ⟨k, rfl⟩ : ∃ k', k = k' + 1 := ⟨k - 1, by omega⟩
  rw [valiselaw05_LimitAlike.j2, if_neg (by simp)]
  exact alike_l1 b r (by omega) (fun i hi => hv i (by omega)) r.length 0 k (by omega) (by omega)
end Go.Proofs.Ytdgpcjhincgijaa.Pg

-- YtdgpcjhincgijaaPureLimitAlike
namespace Go.Proofs.Ytdgpcjhincgijaa.Pure
theorem LimitAlike : Go.Proofs.Ytdgpcjhincgijaa.Pg.valiselaw05_LimitAlike.Pure := Go.Proofs.Ytdgpcjhincgijaa.Pg.limitAlike_pure
end Go.Proofs.Ytdgpcjhincgijaa.Pure

