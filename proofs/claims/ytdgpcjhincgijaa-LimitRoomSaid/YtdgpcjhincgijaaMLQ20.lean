-- Texts by hand and by programs of this session, joined (wip/tool/merge.py).
import Derived.Test.YtdgpcjhincgijaaMLQ13
import Derived.Test.YtdgpcjhincgijaaMLQ15
import Derived.Test.YtdgpcjhincgijaaMLQ16
import Derived.Test.YtdgpcjhincgijaaMLQ17
import Derived.Test.YtdgpcjhincgijaaMLQ19
-- YtdgpcjhincgijaaPg14
namespace Go.Proofs.Ytdgpcjhincgijaa.Pg
open Go.RowKit Go.Proofs.YtdgpcjhincgijaaW.PrintWords Go.Proofs.YtdgpcjhincgijaaW.PrintLast Go.Proofs.YtdgpcjhincgijaaW.PrintMore
attribute [local go_sem] max2_int min2_int max_two min_two max_three min_three max_four min_four   -- for this text's walks alone
set_option linter.unusedVariables false
set_option linter.unusedSimpArgs false

-- NOT PRINTED: function 39 (slices_IndexFunc_int_int)

-- NOT PRINTED: function 31 (slices_ContainsFunc_int_int)

-- NOT PRINTED: function 19 (limit_often)

-- NOT PRINTED: function 42 (limit_pack_int_42)

-- NOT PRINTED: function 46 (limit_pack_int_46)

-- NOT PRINTED: function 45 (limit_pack_int_45)

-- NOT PRINTED: function 43 (limit_pack_int_43)

-- NOT PRINTED: function 40 (limit_pack_int_40)

-- NOT PRINTED: function 33 (limit_pack_int_33)

-- NOT PRINTED: function 20 (limit_sorted_int)

-- NOT PRINTED: function 21 (limit_pack_int_21)

-- NOT PRINTED: function 22 (limit_pairs_int)

-- NOT PRINTED: function 36 (slices_Grow_int_int)

-- NOT PRINTED: function 23 (slices_Concat_int_int)

/-! ### valiselaw05_LimitLengths: function 3 -/
def valiselaw05_LimitLengths.j0 : Nat → List Int → Int → List Int → Bool → Option (Bool)
  | 0, _, _, _, _ => none
  | k + 1, x0, x1, x6, x50 => if x50 = true then (some false) else ((valiseref05_Cost.f k x0 x6).bind fun bt274 => (if bt274.2 = 0 then ((valiseref05_Least.f k x0 x1).bind fun t276 => (if bt274.1 = t276 then ((valiselaw05_lives.f k).bind fun t277 => (some t277)) else (some false))) else (some false)))
def valiselaw05_LimitLengths.f (k : Nat) (l0 : List Int) (a1 : Int) : Option (Bool) := (some (([] : List Int) : List Int)).bind fun y260 => (if y260.length + l0.length < 17592186044416 then ((some (y260 ++ l0 : List Int)).bind fun y263 => ((limit_Lengths.f y263 a1).bind fun bt266 => ((valiseref05_Check.f k l0 a1).bind fun t270 => (if t270 = 0 then (if bt266.2 = 0 then ((valiselaw05_right.f k l0 bt266.1 a1).bind fun t272 => (if t272 = true then ((valiseref04_Same.f k y263 l0).bind fun t273 => (valiselaw05_LimitLengths.j0 k l0 a1 bt266.1 (!t273))) else (valiselaw05_LimitLengths.j0 k l0 a1 bt266.1 true))) else (valiselaw05_LimitLengths.j0 k l0 a1 bt266.1 true)) else (if bt266.2 = t270 then (if (bt266.1.length : Int) = 0 then ((valiselaw05_lives.f k).bind fun t271 => (some t271)) else (some false)) else (some false)))))) else (none))
theorem valiselaw05_LimitLengths.mono_l : ∀ k, (∀ y0 y1 y2 y3, LeO (valiselaw05_LimitLengths.j0 k y0 y1 y2 y3) (valiselaw05_LimitLengths.j0 (k + 1) y0 y1 y2 y3))
  | 0 => fun _ _ _ _ r h => by simp [valiselaw05_LimitLengths.j0] at h
  | k + 1 => by
    have ih0 := valiselaw05_LimitLengths.mono_l k
    · intro y0 y1 y2 y3
      unfold valiselaw05_LimitLengths.j0
      repeat' first
      | (with_reducible exact ih0 _ _ _ _)
      | (with_reducible exact valiselaw05_lives.mono _)
      | (with_reducible exact valiselaw05_right.mono _ _ _ _)
      | (with_reducible exact valiseref04_Same.mono _ _ _)
      | (with_reducible exact valiseref05_Check.mono _ _ _)
      | (with_reducible exact valiseref05_Cost.mono _ _ _)
      | (with_reducible exact valiseref05_Least.mono _ _ _)
      | (with_reducible exact LeO.refl _)
      | (with_reducible exact LeO.none _)
      | (with_reducible refine LeO.ite ?_ ?_)
      | (with_reducible refine LeO.bind ?_ (fun _ => ?_))
      | exact ih0 _ _ _ _
      | exact valiselaw05_lives.mono _
      | exact valiselaw05_right.mono _ _ _ _
      | exact valiseref04_Same.mono _ _ _
      | exact valiseref05_Check.mono _ _ _
      | exact valiseref05_Cost.mono _ _ _
      | exact valiseref05_Least.mono _ _ _
      | exact LeO.none _
      | refine LeO.ite ?_ ?_
      | refine LeO.bind ?_ (fun _ => ?_)
theorem valiselaw05_LimitLengths.mono : ∀ a0 a1 k, LeO (valiselaw05_LimitLengths.f k a0 a1) (valiselaw05_LimitLengths.f (k + 1) a0 a1) := by
  intro a0 a1 k
  have ih0 := valiselaw05_LimitLengths.mono_l k
  unfold valiselaw05_LimitLengths.f
  repeat' first
      | (with_reducible exact ih0 _ _ _ _)
      | (with_reducible exact valiselaw05_lives.mono _)
      | (with_reducible exact valiselaw05_right.mono _ _ _ _)
      | (with_reducible exact valiseref04_Same.mono _ _ _)
      | (with_reducible exact valiseref05_Check.mono _ _ _)
      | (with_reducible exact valiseref05_Cost.mono _ _ _)
      | (with_reducible exact valiseref05_Least.mono _ _ _)
      | (with_reducible exact LeO.refl _)
      | (with_reducible exact LeO.none _)
      | (with_reducible refine LeO.ite ?_ ?_)
      | (with_reducible refine LeO.bind ?_ (fun _ => ?_))
      | exact ih0 _ _ _ _
      | exact valiselaw05_lives.mono _
      | exact valiselaw05_right.mono _ _ _ _
      | exact valiseref04_Same.mono _ _ _
      | exact valiseref05_Check.mono _ _ _
      | exact valiseref05_Cost.mono _ _ _
      | exact valiseref05_Least.mono _ _ _
      | exact LeO.none _
      | refine LeO.ite ?_ ?_
      | refine LeO.bind ?_ (fun _ => ?_)
set_option maxHeartbeats 8000000 in
set_option maxRecDepth 100000 in
theorem valiselaw05_LimitLengths.calls (k : Nat) (A0 : Option Addr) (c0 : Nat) (l0 : List Int) (a1 : Int) (r : Bool) (w : World) (hr0 : Kd.C (Kd.int .i64) w A0 l0.length l0) (hc0 : l0.length ≤ c0) (h : valiselaw05_LimitLengths.f k l0 a1 = some r) (hrt : r = true) :
    Calls Try.prog 3 #[.slice A0 l0.length c0, .int .i64 a1] w fun e w' => e = .returned (.bool r) ∧ Below w.heap.size w w' := by
  have HR0 := Aside0.mk hr0
  have HC0 := Aside0.mk hc0
  clear hr0 hc0
  have HB := Aside0.mk (Below.refl w.heap.size w)
  have H : ((some (([] : List Int) : List Int)).bind fun y260 => (if y260.length + l0.length < 17592186044416 then ((some (y260 ++ l0 : List Int)).bind fun y263 => ((limit_Lengths.f y263 a1).bind fun bt266 => ((valiseref05_Check.f k l0 a1).bind fun t270 => (if t270 = 0 then (if bt266.2 = 0 then ((valiselaw05_right.f k l0 bt266.1 a1).bind fun t272 => (if t272 = true then ((valiseref04_Same.f k y263 l0).bind fun t273 => (valiselaw05_LimitLengths.j0 k l0 a1 bt266.1 (!t273))) else (valiselaw05_LimitLengths.j0 k l0 a1 bt266.1 true))) else (valiselaw05_LimitLengths.j0 k l0 a1 bt266.1 true)) else (if bt266.2 = t270 then (if (bt266.1.length : Int) = 0 then ((valiselaw05_lives.f k).bind fun t271 => (some t271)) else (some false)) else (some false)))))) else (none))) = some r := h
  clear h
  obtain ⟨y260, hy260⟩ : ∃ y_ : List Int, y_ = (([] : List Int)) := ⟨_, rfl⟩
  replace H : (if y260.length + l0.length < 17592186044416 then ((some (y260 ++ l0 : List Int)).bind fun y263 => ((limit_Lengths.f y263 a1).bind fun bt266 => ((valiseref05_Check.f k l0 a1).bind fun t270 => (if t270 = 0 then (if bt266.2 = 0 then ((valiselaw05_right.f k l0 bt266.1 a1).bind fun t272 => (if t272 = true then ((valiseref04_Same.f k y263 l0).bind fun t273 => (valiselaw05_LimitLengths.j0 k l0 a1 bt266.1 (!t273))) else (valiselaw05_LimitLengths.j0 k l0 a1 bt266.1 true))) else (valiselaw05_LimitLengths.j0 k l0 a1 bt266.1 true)) else (if bt266.2 = t270 then (if (bt266.1.length : Int) = 0 then ((valiselaw05_lives.f k).bind fun t271 => (some t271)) else (some false)) else (some false)))))) else (none)) = some r := by first | (rw [hy260]; with_reducible exact H) | (have H2_ := (Option.bind_some _ _).symm.trans H; rw [hy260]; with_reducible exact H2_) | (have H2_ := (Option.bind_some _ _).symm.trans H; with_reducible exact H2_) | with_reducible exact H | (rw [hy260]; exact H) | exact H
  have Ny260 := Aside0.mk hy260
  clear hy260
  by_cases c3 : y260.length + l0.length < 17592186044416
  · rw [if_pos c3] at H
    have LMc3 := Aside0.mk c3
    clear c3
    obtain ⟨y263, hy263⟩ : ∃ y_ : List Int, y_ = (y260 ++ l0) := ⟨_, rfl⟩
    replace H : ((limit_Lengths.f y263 a1).bind fun bt266 => ((valiseref05_Check.f k l0 a1).bind fun t270 => (if t270 = 0 then (if bt266.2 = 0 then ((valiselaw05_right.f k l0 bt266.1 a1).bind fun t272 => (if t272 = true then ((valiseref04_Same.f k y263 l0).bind fun t273 => (valiselaw05_LimitLengths.j0 k l0 a1 bt266.1 (!t273))) else (valiselaw05_LimitLengths.j0 k l0 a1 bt266.1 true))) else (valiselaw05_LimitLengths.j0 k l0 a1 bt266.1 true)) else (if bt266.2 = t270 then (if (bt266.1.length : Int) = 0 then ((valiselaw05_lives.f k).bind fun t271 => (some t271)) else (some false)) else (some false))))) = some r := by first | (rw [hy263]; with_reducible exact H) | (have H2_ := (Option.bind_some _ _).symm.trans H; rw [hy263]; with_reducible exact H2_) | (have H2_ := (Option.bind_some _ _).symm.trans H; with_reducible exact H2_) | with_reducible exact H | (rw [hy263]; exact H) | exact H
    have Ny263 := Aside0.mk hy263
    clear hy263
    replace H := Option.bind_eq_some_iff.mp H
    obtain ⟨⟨t266, t267⟩, A40, H⟩ := H
    replace H : ((valiseref05_Check.f k l0 a1).bind fun t270 => (if t270 = 0 then (if t267 = 0 then ((valiselaw05_right.f k l0 t266 a1).bind fun t272 => (if t272 = true then ((valiseref04_Same.f k y263 l0).bind fun t273 => (valiselaw05_LimitLengths.j0 k l0 a1 t266 (!t273))) else (valiselaw05_LimitLengths.j0 k l0 a1 t266 true))) else (valiselaw05_LimitLengths.j0 k l0 a1 t266 true)) else (if t267 = t270 then (if (t266.length : Int) = 0 then ((valiselaw05_lives.f k).bind fun t271 => (some t271)) else (some false)) else (some false)))) = some r := H
    have A4 := Aside0.mk A40
    clear A40
    replace H := Option.bind_eq_some_iff.mp H
    obtain ⟨t270, A50, H⟩ := H
    replace H : (if t270 = 0 then (if t267 = 0 then ((valiselaw05_right.f k l0 t266 a1).bind fun t272 => (if t272 = true then ((valiseref04_Same.f k y263 l0).bind fun t273 => (valiselaw05_LimitLengths.j0 k l0 a1 t266 (!t273))) else (valiselaw05_LimitLengths.j0 k l0 a1 t266 true))) else (valiselaw05_LimitLengths.j0 k l0 a1 t266 true)) else (if t267 = t270 then (if (t266.length : Int) = 0 then ((valiselaw05_lives.f k).bind fun t271 => (some t271)) else (some false)) else (some false))) = some r := H
    have A5 := Aside0.mk A50
    clear A50
    by_cases c6 : t270 = 0
    · rw [if_pos c6] at H
      have c6b0 : (t270 == 0) = true := beq_iff_eq.mpr c6
      have c6b1 : (t270 != 0) = false := bne_eq_false_iff_eq.mpr c6
      clear c6
      have HC7 := Aside0.mk H
      clear H
      go_enter Try.func3, Try.ntmps3
      go_upto_region 6 with (first | ((with_reducible refine gate_dst (N := 11) rfl ?_); (try (refine gate_guard (by rfl) ?_; dsimp only)); refine Kd.R_lit (Kd.int .i64) _ 3 ?hg (N := 11) ?hd (xs := ([] : List Int)) (inner := []) (ok := fun _ => True) (okp := fun _ => True) ?hr ?hp (fun _ hk => hk) trivial (Below.refl _ _) (Nat.le_refl _) (by simp) ?_; (case hd => rfl); (case hg => rfl); (case hr => first | (go_simp; done) | (go_simp; rfl)); (case hp => exact (Reps.none _ _)); intro v261 w8 ho9 hb hg_ hnew_; clear hg_ hnew_; (first | rw [← Ny260.out] at ho9 | (simp only [Int.reduceToNat] at ho9; rw [← Ny260.out] at ho9)); have n0_ := Aside0.mk (Kd.R_lower ho9 (below_size (by repeat (first | (with_reducible first | exact HB.out | apply below_alloc | apply pw_below_drewN | apply below_drew1) | exact HB.out)))); have n1_ := Aside0.mk (below_step (by repeat (first | (with_reducible first | exact HB.out | apply below_alloc | apply pw_below_drewN | apply below_drew1) | exact HB.out)) hb); clear HB; have HO262 := n0_; have HB := n1_; clear n0_ n1_; clear hb ho9) | ((with_reducible refine gate_builtin (b := .append) (xs := #[.tmp 11, .tmp 12]) rfl ?_); (try (refine gate_guard (by rfl) ?_; dsimp only)); at_builtin; refine Kd.R_append_rows (Kd.int .i64) (w0 := w) w.heap.size rfl (.tmp 11) (.tmp 12) 22 3 (.int .i64 0) 8 rfl Try.underlying22 info3 rfl (by decide) (by omega) v261 y260 l0 _ _ _ (fun _ => True) (fun _ => False) rfl rfl ?aO ?aR (fun _ _ h => h) (fun _ h => h.elim) ?aF ?aB ?aS ?aL ?_; (case aR => repeat (first | exact (Kd.C_below HR0.out HB.out) | (with_reducible refine Kd.C_alloc ?_ _) | (with_reducible refine Kd.C_drewN ?_ _) | (with_reducible refine Kd.C_drew ?_))); (case aB => exact (by repeat (first | (with_reducible first | exact HB.out | apply below_alloc | apply pw_below_drewN | apply below_drew1) | exact HB.out))); (case aF => exact (fun _ _ => trivial)); (case aO => exact (by (with_reducible repeat (first | apply Kd.R_alloc | apply Kd.R_drewN | apply Kd.R_drew)); exact HO262.out)); (case aS => exact (below_size (by repeat (first | (with_reducible first | exact HB.out | apply below_alloc | apply pw_below_drewN | apply below_drew1) | exact HB.out)))); (case aL => have := LMc3.out; omega); intro v264 w10 ho hb hg hat; rw [← Ny263.out] at ho; have n0_ := Aside0.mk (hb); have n1_ := Aside0.mk (ho); clear HB; clear HO262; have HB := n0_; have HO265 := n1_; clear n0_ n1_; clear ho hb hg hat; obtain ⟨Ao11, co11, eo11⟩ := Kd.R_slice HO265.out; subst eo11) | ((with_reducible refine gate_callee (f := 9) rfl ?_); refine goesL_ (some 17) rfl rfl Try.func9 (by kernel_rfl) rfl #[.slice Ao11 y263.length co11, .int .i64 a1] rfl (by (try simp only [List.map_toArray, List.map_cons, List.map_nil]); first | done | rfl | (simp only [List.length_drop, List.length_take]; rfl)) ?_; (with_reducible refine (limit_Lengths.calls _ _ y263 a1 t266 t267 _ ?side1 ?side2 A4.out).mono ?_); (case side1 => repeat (first | exact (Kd.R_reads' HO265.out).2.2 | (with_reducible refine Kd.C_alloc ?_ _) | (with_reducible refine Kd.C_drewN ?_ _) | (with_reducible refine Kd.C_drew ?_))); (case side2 => exact (Kd.R_reads' HO265.out).2.1); rintro e w12 ⟨v268, rfl, ho0, hb⟩; refine ⟨_, rfl, ?_⟩; have n0_ := Aside0.mk (Kd.R_elder' (by (with_reducible repeat (first | apply Kd.R_alloc | apply Kd.R_drewN | apply Kd.R_drew)); exact HO265.out) (Kd.R_base ho0) hb); have n1_ := Aside0.mk (Kd.R_lower (Kd.R_new' ho0 (Kd.R_lt (by (with_reducible repeat (first | apply Kd.R_alloc | apply Kd.R_drewN | apply Kd.R_drew)); exact HO265.out))) (below_size (by repeat (first | (with_reducible first | exact HB.out | apply below_alloc | apply pw_below_drewN | apply below_drew1) | exact HB.out)))); have n2_ := Aside0.mk (below_step (by repeat (first | (with_reducible first | exact HB.out | apply below_alloc | apply pw_below_drewN | apply below_drew1) | exact HB.out)) hb); clear HO265; clear HB; have HO265 := n0_; have HO269 := n1_; have HB := n2_; clear n0_ n1_ n2_; (try clear hb); (try clear hb2); (try clear hk); (try clear hi); (try clear ho0)) | ((with_reducible refine gate_callee (f := 10) rfl ?_); refine goesL_ (some 22) rfl rfl Try.func10 (by kernel_rfl) rfl #[.slice A0 l0.length c0, .int .i64 a1] rfl (by (try simp only [List.map_toArray, List.map_cons, List.map_nil]); first | done | rfl | (simp only [List.length_drop, List.length_take]; rfl)) ?_; (with_reducible refine (valiseref05_Check.calls k _ _ l0 a1 t270 _ ?side1 ?side2 A5.out).mono ?_); (case side1 => repeat (first | exact (Kd.C_below HR0.out HB.out) | (with_reducible refine Kd.C_alloc ?_ _) | (with_reducible refine Kd.C_drewN ?_ _) | (with_reducible refine Kd.C_drew ?_))); (case side2 => exact HC0.out); rintro e w13 ⟨rfl, hb⟩; refine ⟨_, rfl, ?_⟩; have n0_ := Aside0.mk (Kd.R_below (by (with_reducible repeat (first | apply Kd.R_alloc | apply Kd.R_drewN | apply Kd.R_drew)); exact HO265.out) hb); have n1_ := Aside0.mk (Kd.R_below (by (with_reducible repeat (first | apply Kd.R_alloc | apply Kd.R_drewN | apply Kd.R_drew)); exact HO269.out) hb); have n2_ := Aside0.mk (below_step (by repeat (first | (with_reducible first | exact HB.out | apply below_alloc | apply pw_below_drewN | apply below_drew1) | exact HB.out)) hb); clear HO265; clear HO269; clear HB; have HO265 := n0_; have HO269 := n1_; have HB := n2_; clear n0_ n1_ n2_; (try clear hb); (try clear hb2); (try clear hk); (try clear hi)))
      (try simp only [Act.put, List.setIfInBounds_toArray, List.set_cons_zero, List.set_cons_succ])
      go_cut [50] (fun v50 wc => ∃ (kq : Nat) (x50_6 : Bool), v50 = .bool x50_6 ∧ Aside0 (valiselaw05_LimitLengths.j0 kq l0 a1 t266 x50_6 = some r) ∧ Aside0 (kq ≤ k) ∧ Aside0 (Kd.R (Kd.int .i64) 3 wc w.heap.size (fun _ => True) v268 t266) ∧ Aside0 (Below w.heap.size w wc))
      case first =>
        have H := HC7.out
        clear HC7
        by_cases c14 : t267 = 0
        · rw [if_pos c14] at H
          have c14b0 : (t267 == 0) = true := beq_iff_eq.mpr c14
          have c14b1 : (t267 != 0) = false := bne_eq_false_iff_eq.mpr c14
          clear c14
          (first | rw [c14b0] | (simp only [i64_w, i32_w, u8_w]; rw [c14b0]) | skip)
          replace H := Option.bind_eq_some_iff.mp H
          obtain ⟨t272, A150, H⟩ := H
          replace H : (if t272 = true then ((valiseref04_Same.f k y263 l0).bind fun t273 => (valiselaw05_LimitLengths.j0 k l0 a1 t266 (!t273))) else (valiselaw05_LimitLengths.j0 k l0 a1 t266 true)) = some r := H
          have A15 := Aside0.mk A150
          clear A150
          by_cases c16 : t272 = true
          · subst c16
            have H1 : ((valiseref04_Same.f k y263 l0).bind fun t273 => (valiselaw05_LimitLengths.j0 k l0 a1 t266 (!t273))) = some r := by rw [if_pos rfl] at H; exact H
            clear H
            have H := H1
            clear H1
            replace H := Option.bind_eq_some_iff.mp H
            obtain ⟨t273, A170, H⟩ := H
            replace H : (valiselaw05_LimitLengths.j0 k l0 a1 t266 (!t273)) = some r := H
            have A17 := Aside0.mk A170
            clear A170
            have H' := Aside0.mk H
            clear H
            obtain ⟨Ao18, co18, eo18⟩ := Kd.R_slice HO269.out
            subst eo18
            go_wp2_with (first | (go_at_call 12; (with_reducible refine (valiselaw05_right.calls k _ _ l0 _ _ t266 a1 true _ ?side1 ?side2 ?side3 ?side4 A15.out).mono ?_); (case side1 => repeat (first | exact (Kd.C_below HR0.out HB.out) | (with_reducible refine Kd.C_alloc ?_ _) | (with_reducible refine Kd.C_drewN ?_ _) | (with_reducible refine Kd.C_drew ?_))); (case side2 => exact HC0.out); (case side3 => repeat (first | exact (Kd.R_reads' HO269.out).2.2 | (with_reducible refine Kd.C_alloc ?_ _) | (with_reducible refine Kd.C_drewN ?_ _) | (with_reducible refine Kd.C_drew ?_))); (case side4 => exact (Kd.R_reads' HO269.out).2.1); rintro e w' ⟨rfl, ⟨nd, rfl⟩⟩) | (go_at_call 13; (with_reducible refine (valiseref04_Same.calls k _ _ y263 _ _ l0 t273 _ ?side1 ?side2 ?side3 ?side4 A17.out).mono ?_); (case side1 => repeat (first | exact (Kd.R_reads' HO265.out).2.2 | (with_reducible refine Kd.C_alloc ?_ _) | (with_reducible refine Kd.C_drewN ?_ _) | (with_reducible refine Kd.C_drew ?_))); (case side2 => exact (Kd.R_reads' HO265.out).2.1); (case side3 => repeat (first | exact (Kd.C_below HR0.out (by repeat (first | (with_reducible first | exact HB.out | apply below_alloc | apply pw_below_drewN | apply below_drew1) | exact HB.out))) | (with_reducible refine Kd.C_alloc ?_ _) | (with_reducible refine Kd.C_drewN ?_ _) | (with_reducible refine Kd.C_drew ?_))); (case side4 => exact HC0.out); rintro e w' ⟨rfl, ⟨nd, rfl⟩⟩))
            go_meet
            case rel => exact ⟨_, (!t273), (by first | rfl | (simp; done) | (simp [*]; done)), H', ⟨by first | omega | exact Nat.le_refl _⟩, ⟨by (with_reducible repeat (first | apply Kd.R_alloc | apply Kd.R_drewN | apply Kd.R_drew)); exact Kd.R_mono HO269.out (fun _ hk => trivial)⟩, ⟨by repeat (first | (with_reducible first | exact HB.out | apply below_alloc | apply pw_below_drewN | apply below_drew1) | exact HB.out)⟩⟩
          · replace c16 := Bool.eq_false_iff.mpr c16
            subst c16
            have H1 : (valiselaw05_LimitLengths.j0 k l0 a1 t266 true) = some r := by rw [if_neg (show ¬ (false = true) by decide)] at H; exact H
            clear H
            have H := H1
            clear H1
            have H' := Aside0.mk H
            clear H
            obtain ⟨Ao19, co19, eo19⟩ := Kd.R_slice HO269.out
            subst eo19
            go_wp2_with (first | (go_at_call 12; (with_reducible refine (valiselaw05_right.calls k _ _ l0 _ _ t266 a1 false _ ?side1 ?side2 ?side3 ?side4 A15.out).mono ?_); (case side1 => repeat (first | exact (Kd.C_below HR0.out HB.out) | (with_reducible refine Kd.C_alloc ?_ _) | (with_reducible refine Kd.C_drewN ?_ _) | (with_reducible refine Kd.C_drew ?_))); (case side2 => exact HC0.out); (case side3 => repeat (first | exact (Kd.R_reads' HO269.out).2.2 | (with_reducible refine Kd.C_alloc ?_ _) | (with_reducible refine Kd.C_drewN ?_ _) | (with_reducible refine Kd.C_drew ?_))); (case side4 => exact (Kd.R_reads' HO269.out).2.1); rintro e w' ⟨rfl, ⟨nd, rfl⟩⟩))
            go_meet
            case rel => exact ⟨_, (true), (by first | rfl | (simp; done) | (simp [*]; done)), H', ⟨by first | omega | exact Nat.le_refl _⟩, ⟨by (with_reducible repeat (first | apply Kd.R_alloc | apply Kd.R_drewN | apply Kd.R_drew)); exact Kd.R_mono HO269.out (fun _ hk => trivial)⟩, ⟨by repeat (first | (with_reducible first | exact HB.out | apply below_alloc | apply pw_below_drewN | apply below_drew1) | exact HB.out)⟩⟩
        · rw [if_neg c14] at H
          have c14b0 : (t267 == 0) = false := beq_eq_false_iff_ne.mpr c14
          have c14b1 : (t267 != 0) = true := bne_iff_ne.mpr c14
          (first | rw [c14b0] | (simp only [i64_w, i32_w, u8_w]; rw [c14b0]) | skip)
          have H' := Aside0.mk H
          clear H
          go_wp2
          go_meet
          case rel => exact ⟨_, (true), (by first | rfl | (simp; done) | (simp [*]; done)), H', ⟨by first | omega | exact Nat.le_refl _⟩, ⟨by (with_reducible repeat (first | apply Kd.R_alloc | apply Kd.R_drewN | apply Kd.R_drew)); exact Kd.R_mono HO269.out (fun _ hk => trivial)⟩, ⟨by repeat (first | (with_reducible first | exact HB.out | apply below_alloc | apply pw_below_drewN | apply below_drew1) | exact HB.out)⟩⟩
      case rest =>
        clear HC7
        try clear c1
        try clear p2
        try clear c3
        try clear c6
        try clear c6b0
        try clear c6b1
        try clear c9
        try clear c10
        try clear c14
        try clear c14b0
        try clear c14b1
        try clear c16
        obtain ⟨kq, x50_6, rfl, HA, HJ6, HO_6, HB⟩ := hcut
        cases kq with
        | zero => exact absurd HA.out (by simp [valiselaw05_LimitLengths.j0])
        | succ kj6 =>
          have H := HA.out
          clear HA
          simp only [valiselaw05_LimitLengths.j0] at H
          by_cases c20 : x50_6 = true
          · subst c20
            have H1 : (some false) = some r := by rw [if_pos rfl] at H; exact H
            clear H
            have H := H1
            clear H1
            obtain rfl := Option.some.inj H
            cases hrt
          · replace c20 := Bool.eq_false_iff.mpr c20
            subst c20
            have H1 : ((valiseref05_Cost.f kj6 l0 t266).bind fun bt274 => (if bt274.2 = 0 then ((valiseref05_Least.f kj6 l0 a1).bind fun t276 => (if bt274.1 = t276 then ((valiselaw05_lives.f kj6).bind fun t277 => (some t277)) else (some false))) else (some false))) = some r := by rw [if_neg (show ¬ (false = true) by decide)] at H; exact H
            clear H
            have H := H1
            clear H1
            replace H := Option.bind_eq_some_iff.mp H
            obtain ⟨⟨t274, t275⟩, A210, H⟩ := H
            replace H : (if t275 = 0 then ((valiseref05_Least.f kj6 l0 a1).bind fun t276 => (if t274 = t276 then ((valiselaw05_lives.f kj6).bind fun t277 => (some t277)) else (some false))) else (some false)) = some r := H
            have A21 := Aside0.mk A210
            clear A210
            by_cases c22 : t275 = 0
            · rw [if_pos c22] at H
              have c22b0 : (t275 == 0) = true := beq_iff_eq.mpr c22
              have c22b1 : (t275 != 0) = false := bne_eq_false_iff_eq.mpr c22
              clear c22
              replace H := Option.bind_eq_some_iff.mp H
              obtain ⟨t276, A230, H⟩ := H
              replace H : (if t274 = t276 then ((valiselaw05_lives.f kj6).bind fun t277 => (some t277)) else (some false)) = some r := H
              have A23 := Aside0.mk A230
              clear A230
              by_cases c24 : t274 = t276
              · rw [if_pos c24] at H
                have c24b0 : (t274 == t276) = true := beq_iff_eq.mpr c24
                have c24b1 : (t274 != t276) = false := bne_eq_false_iff_eq.mpr c24
                clear c24
                replace H := Option.bind_eq_some_iff.mp H
                obtain ⟨t277, A250, H⟩ := H
                replace H : (some t277) = some r := H
                have A25 := Aside0.mk A250
                clear A250
                obtain rfl := Option.some.inj H
                obtain ⟨Ao26, co26, eo26⟩ := Kd.R_slice HO_6.out
                subst eo26
                go_wp2_with (first | ((with_reducible refine gate_callee (f := 14) rfl ?_); refine goesL_ (some 54) rfl rfl Try.func14 (by kernel_rfl) rfl #[.slice A0 l0.length c0, .slice Ao26 t266.length co26] rfl (by (try simp only [List.map_toArray, List.map_cons, List.map_nil]); first | done | rfl | (simp only [List.length_drop, List.length_take]; rfl)) ?_; (with_reducible refine (valiseref05_Cost.calls kj6 _ _ l0 _ _ t266 t274 t275 _ ?side1 ?side2 ?side3 ?side4 A21.out).mono ?_); (case side1 => repeat (first | exact (Kd.C_below HR0.out HB.out) | (with_reducible refine Kd.C_alloc ?_ _) | (with_reducible refine Kd.C_drewN ?_ _) | (with_reducible refine Kd.C_drew ?_))); (case side2 => exact HC0.out); (case side3 => repeat (first | exact (Kd.R_reads' HO_6.out).2.2 | (with_reducible refine Kd.C_alloc ?_ _) | (with_reducible refine Kd.C_drewN ?_ _) | (with_reducible refine Kd.C_drew ?_))); (case side4 => exact (Kd.R_reads' HO_6.out).2.1); rintro e w' ⟨rfl, ⟨nd, rfl⟩⟩; refine ⟨_, rfl, ?_⟩) | (go_at_call 15; (with_reducible refine (valiseref05_Least.calls kj6 _ _ l0 a1 t276 _ ?side1 ?side2 A23.out).mono ?_); (case side1 => repeat (first | exact (Kd.C_below HR0.out (by repeat (first | (with_reducible first | exact HB.out | apply below_alloc | apply pw_below_drewN | apply below_drew1) | exact HB.out))) | (with_reducible refine Kd.C_alloc ?_ _) | (with_reducible refine Kd.C_drewN ?_ _) | (with_reducible refine Kd.C_drew ?_))); (case side2 => exact HC0.out); rintro e w27 ⟨rfl, hb⟩; have n0_ := Aside0.mk (Kd.R_below (by (with_reducible repeat (first | apply Kd.R_alloc | apply Kd.R_drewN | apply Kd.R_drew)); exact HO_6.out) hb); have n1_ := Aside0.mk (below_step (by repeat (first | (with_reducible first | exact HB.out | apply below_alloc | apply pw_below_drewN | apply below_drew1) | exact HB.out)) hb); clear HO_6; clear HB; have HO_6 := n0_; have HB := n1_; clear n0_ n1_; (try clear hb); (try clear hb2); (try clear hk); (try clear hi)) | (go_at_call 11; (with_reducible refine (valiselaw05_lives.calls kj6  t277 _ A25.out).mono ?_); rintro e w28 ⟨rfl, hb⟩; have n0_ := Aside0.mk (Kd.R_below (by (with_reducible repeat (first | apply Kd.R_alloc | apply Kd.R_drewN | apply Kd.R_drew)); exact HO_6.out) hb); have n1_ := Aside0.mk (below_step (by repeat (first | (with_reducible first | exact HB.out | apply below_alloc | apply pw_below_drewN | apply below_drew1) | exact HB.out)) hb); clear HO_6; clear HB; have HO_6 := n0_; have HB := n1_; clear n0_ n1_; (try clear hb); (try clear hb2); (try clear hk); (try clear hi)))
                go_ret
                exact ⟨by first | rfl | (simp [errW_none, errW_some] <;> rfl) | (simp [*, errW_none, errW_some] <;> rfl), by repeat (first | (with_reducible first | exact HB.out | apply below_alloc | apply pw_below_drewN | apply below_drew1) | exact HB.out)⟩
              · rw [if_neg c24] at H
                have c24b0 : (t274 == t276) = false := beq_eq_false_iff_ne.mpr c24
                have c24b1 : (t274 != t276) = true := bne_iff_ne.mpr c24
                obtain rfl := Option.some.inj H
                cases hrt
            · rw [if_neg c22] at H
              have c22b0 : (t275 == 0) = false := beq_eq_false_iff_ne.mpr c22
              have c22b1 : (t275 != 0) = true := bne_iff_ne.mpr c22
              obtain rfl := Option.some.inj H
              cases hrt
    · rw [if_neg c6] at H
      have c6b0 : (t270 == 0) = false := beq_eq_false_iff_ne.mpr c6
      have c6b1 : (t270 != 0) = true := bne_iff_ne.mpr c6
      by_cases c32 : t267 = t270
      · rw [if_pos c32] at H
        have c32b0 : (t267 == t270) = true := beq_iff_eq.mpr c32
        have c32b1 : (t267 != t270) = false := bne_eq_false_iff_eq.mpr c32
        clear c32
        by_cases c33 : (t266.length : Int) = 0
        · rw [if_pos c33] at H
          have c33b0 : ((t266.length : Int) == 0) = true := beq_iff_eq.mpr c33
          have c33b1 : ((t266.length : Int) != 0) = false := bne_eq_false_iff_eq.mpr c33
          clear c33
          replace H := Option.bind_eq_some_iff.mp H
          obtain ⟨t271, A340, H⟩ := H
          replace H : (some t271) = some r := H
          have A34 := Aside0.mk A340
          clear A340
          obtain rfl := Option.some.inj H
          go_enter Try.func3, Try.ntmps3
          go_wp2_with (first | ((with_reducible refine gate_dst (N := 11) rfl ?_); (try (refine gate_guard (by rfl) ?_; dsimp only)); refine Kd.R_lit (Kd.int .i64) _ 3 ?hg (N := 11) ?hd (xs := ([] : List Int)) (inner := []) (ok := fun _ => True) (okp := fun _ => True) ?hr ?hp (fun _ hk => hk) trivial (Below.refl _ _) (Nat.le_refl _) (by simp) ?_; (case hd => rfl); (case hg => rfl); (case hr => first | (go_simp; done) | (go_simp; rfl)); (case hp => exact (Reps.none _ _)); intro v261 w35 ho36 hb hg_ hnew_; clear hg_ hnew_; (first | rw [← Ny260.out] at ho36 | (simp only [Int.reduceToNat] at ho36; rw [← Ny260.out] at ho36)); have n0_ := Aside0.mk (Kd.R_lower ho36 (below_size (by repeat (first | (with_reducible first | exact HB.out | apply below_alloc | apply pw_below_drewN | apply below_drew1) | exact HB.out)))); have n1_ := Aside0.mk (below_step (by repeat (first | (with_reducible first | exact HB.out | apply below_alloc | apply pw_below_drewN | apply below_drew1) | exact HB.out)) hb); clear HB; have HO262 := n0_; have HB := n1_; clear n0_ n1_; clear hb ho36) | ((with_reducible refine gate_builtin (b := .append) (xs := #[.tmp 11, .tmp 12]) rfl ?_); (try (refine gate_guard (by rfl) ?_; dsimp only)); at_builtin; refine Kd.R_append_rows (Kd.int .i64) (w0 := w) w.heap.size rfl (.tmp 11) (.tmp 12) 22 3 (.int .i64 0) 8 rfl Try.underlying22 info3 rfl (by decide) (by omega) v261 y260 l0 _ _ _ (fun _ => True) (fun _ => False) rfl rfl ?aO ?aR (fun _ _ h => h) (fun _ h => h.elim) ?aF ?aB ?aS ?aL ?_; (case aR => repeat (first | exact (Kd.C_below HR0.out HB.out) | (with_reducible refine Kd.C_alloc ?_ _) | (with_reducible refine Kd.C_drewN ?_ _) | (with_reducible refine Kd.C_drew ?_))); (case aB => exact (by repeat (first | (with_reducible first | exact HB.out | apply below_alloc | apply pw_below_drewN | apply below_drew1) | exact HB.out))); (case aF => exact (fun _ _ => trivial)); (case aO => exact (by (with_reducible repeat (first | apply Kd.R_alloc | apply Kd.R_drewN | apply Kd.R_drew)); exact HO262.out)); (case aS => exact (below_size (by repeat (first | (with_reducible first | exact HB.out | apply below_alloc | apply pw_below_drewN | apply below_drew1) | exact HB.out)))); (case aL => have := LMc3.out; omega); intro v264 w37 ho hb hg hat; rw [← Ny263.out] at ho; have n0_ := Aside0.mk (hb); have n1_ := Aside0.mk (ho); clear HB; clear HO262; have HB := n0_; have HO265 := n1_; clear n0_ n1_; clear ho hb hg hat; obtain ⟨Ao38, co38, eo38⟩ := Kd.R_slice HO265.out; subst eo38) | ((with_reducible refine gate_callee (f := 9) rfl ?_); refine goesL_ (some 17) rfl rfl Try.func9 (by kernel_rfl) rfl #[.slice Ao38 y263.length co38, .int .i64 a1] rfl (by (try simp only [List.map_toArray, List.map_cons, List.map_nil]); first | done | rfl | (simp only [List.length_drop, List.length_take]; rfl)) ?_; (with_reducible refine (limit_Lengths.calls _ _ y263 a1 t266 t267 _ ?side1 ?side2 A4.out).mono ?_); (case side1 => repeat (first | exact (Kd.R_reads' HO265.out).2.2 | (with_reducible refine Kd.C_alloc ?_ _) | (with_reducible refine Kd.C_drewN ?_ _) | (with_reducible refine Kd.C_drew ?_))); (case side2 => exact (Kd.R_reads' HO265.out).2.1); rintro e w39 ⟨v268, rfl, ho0, hb⟩; refine ⟨_, rfl, ?_⟩; have n0_ := Aside0.mk (Kd.R_elder' (by (with_reducible repeat (first | apply Kd.R_alloc | apply Kd.R_drewN | apply Kd.R_drew)); exact HO265.out) (Kd.R_base ho0) hb); have n1_ := Aside0.mk (Kd.R_lower (Kd.R_new' ho0 (Kd.R_lt (by (with_reducible repeat (first | apply Kd.R_alloc | apply Kd.R_drewN | apply Kd.R_drew)); exact HO265.out))) (below_size (by repeat (first | (with_reducible first | exact HB.out | apply below_alloc | apply pw_below_drewN | apply below_drew1) | exact HB.out)))); have n2_ := Aside0.mk (below_step (by repeat (first | (with_reducible first | exact HB.out | apply below_alloc | apply pw_below_drewN | apply below_drew1) | exact HB.out)) hb); clear HO265; clear HB; have HO265 := n0_; have HO269 := n1_; have HB := n2_; clear n0_ n1_ n2_; (try clear hb); (try clear hb2); (try clear hk); (try clear hi); (try clear ho0)) | ((with_reducible refine gate_callee (f := 10) rfl ?_); refine goesL_ (some 22) rfl rfl Try.func10 (by kernel_rfl) rfl #[.slice A0 l0.length c0, .int .i64 a1] rfl (by (try simp only [List.map_toArray, List.map_cons, List.map_nil]); first | done | rfl | (simp only [List.length_drop, List.length_take]; rfl)) ?_; (with_reducible refine (valiseref05_Check.calls k _ _ l0 a1 t270 _ ?side1 ?side2 A5.out).mono ?_); (case side1 => repeat (first | exact (Kd.C_below HR0.out HB.out) | (with_reducible refine Kd.C_alloc ?_ _) | (with_reducible refine Kd.C_drewN ?_ _) | (with_reducible refine Kd.C_drew ?_))); (case side2 => exact HC0.out); rintro e w40 ⟨rfl, hb⟩; refine ⟨_, rfl, ?_⟩; have n0_ := Aside0.mk (Kd.R_below (by (with_reducible repeat (first | apply Kd.R_alloc | apply Kd.R_drewN | apply Kd.R_drew)); exact HO265.out) hb); have n1_ := Aside0.mk (Kd.R_below (by (with_reducible repeat (first | apply Kd.R_alloc | apply Kd.R_drewN | apply Kd.R_drew)); exact HO269.out) hb); have n2_ := Aside0.mk (below_step (by repeat (first | (with_reducible first | exact HB.out | apply below_alloc | apply pw_below_drewN | apply below_drew1) | exact HB.out)) hb); clear HO265; clear HO269; clear HB; have HO265 := n0_; have HO269 := n1_; have HB := n2_; clear n0_ n1_ n2_; (try clear hb); (try clear hb2); (try clear hk); (try clear hi); obtain ⟨Ao41, co41, eo41⟩ := Kd.R_slice HO269.out; subst eo41) | (go_at_call 11; (with_reducible refine (valiselaw05_lives.calls k  t271 _ A34.out).mono ?_); rintro e w42 ⟨rfl, hb⟩; have n0_ := Aside0.mk (Kd.R_below (by (with_reducible repeat (first | apply Kd.R_alloc | apply Kd.R_drewN | apply Kd.R_drew)); exact HO265.out) hb); have n1_ := Aside0.mk (Kd.R_below (by (with_reducible repeat (first | apply Kd.R_alloc | apply Kd.R_drewN | apply Kd.R_drew)); exact HO269.out) hb); have n2_ := Aside0.mk (below_step (by repeat (first | (with_reducible first | exact HB.out | apply below_alloc | apply pw_below_drewN | apply below_drew1) | exact HB.out)) hb); clear HO265; clear HO269; clear HB; have HO265 := n0_; have HO269 := n1_; have HB := n2_; clear n0_ n1_ n2_; (try clear hb); (try clear hb2); (try clear hk); (try clear hi)))
          go_ret
          exact ⟨by first | rfl | (simp [errW_none, errW_some] <;> rfl) | (simp [*, errW_none, errW_some] <;> rfl), by repeat (first | (with_reducible first | exact HB.out | apply below_alloc | apply pw_below_drewN | apply below_drew1) | exact HB.out)⟩
        · rw [if_neg c33] at H
          have c33b0 : ((t266.length : Int) == 0) = false := beq_eq_false_iff_ne.mpr c33
          have c33b1 : ((t266.length : Int) != 0) = true := bne_iff_ne.mpr c33
          have c33b2 : ¬ (t266 = []) := fun h_ => c33 (by rw [h_]; rfl)
          obtain rfl := Option.some.inj H
          cases hrt
      · rw [if_neg c32] at H
        have c32b0 : (t267 == t270) = false := beq_eq_false_iff_ne.mpr c32
        have c32b1 : (t267 != t270) = true := bne_iff_ne.mpr c32
        obtain rfl := Option.some.inj H
        cases hrt
  · rw [if_neg c3] at H
    exact absurd H (by simp)

/-- THE ONE PURE STATEMENT of valiselaw05_LimitLengths: yours. -/
def valiselaw05_LimitLengths.Pure : Prop := ∀ (l0 : List Int) (a1 : Int), l0.length ≤ maxLen → l0.length * 8 ≤ 140737488351232 → (∀ x ∈ l0, (Lit.int .i64 x).wf = true) → (Lit.int .i64 a1).wf = true → ∃ k, valiselaw05_LimitLengths.f k l0 a1 = some true
theorem valiselaw05_LimitLengths.walk (P : valiselaw05_LimitLengths.Pure) (a0 : Option Addr) (len0 cap0 : Nat) (z0 : List Int) (a1 : Int) (w : World) (w0 : (a0 = none ∧ len0 = 0 ∧ cap0 = 0 ∧ z0 = []) ∨ ∃ x, a0 = some x ∧ len0 ≤ cap0 ∧ cap0 ≤ maxLen ∧ z0.length = cap0 ∧ (∀ i, i < z0.length → w.cell? (x.add i) = some (.int .i64 (z0.getD i 0))) ∧ ∀ n ∈ z0, (Lit.int .i64 n).wf = true) (y0 : len0 * 8 ≤ 140737488351232) (w1 : (Lit.int .i64 a1).wf = true) :
    Calls Try.prog 3 #[.slice a0 len0 cap0, .int .i64 a1] w fun e w' => e = .returned (.bool true) ∧ Below w.heap.size w w' := by
  obtain ⟨l0, rfl, hr0, hm0, hw0, hc0⟩ := ReadsInt.ofRowC w0
  obtain ⟨k, h⟩ := P l0 a1 hm0 y0 hw0 w1
  refine (valiselaw05_LimitLengths.calls k _ _ l0 a1 true w (Kd.C_of_reads (d := (0 : Int)) (h1 := fun _ => rfl) hr0) hc0 h rfl).mono ?_
  rintro e w' ⟨rfl, hd⟩
  exact ⟨rfl, hd⟩

end Go.Proofs.Ytdgpcjhincgijaa.Pg

-- YtdgpcjhincgijaaLp3
namespace Go.Proofs.Ytdgpcjhincgijaa.Pg
open Go.RowKit Go.Proofs.YtdgpcjhincgijaaW.PrintWords Go.Proofs.YtdgpcjhincgijaaW.PrintLast Go.Proofs.YtdgpcjhincgijaaW.PrintMore
set_option linter.unusedVariables false
set_option linter.unusedSimpArgs false
/-! ### Plain: levels ta merges -/
abbrev PK := Int × List Int
open Pr (Srt Stb wP pairP isortF haveF insF sorted_isF isortF_spec srt_unique)
def mergeF : List PK → List PK → List PK
  | [], b => b
  | a :: ta, [] => a :: ta
  | a :: ta, b :: tb => if a.1 ≤ b.1 then a :: mergeF ta (b :: tb) else b :: mergeF (a :: ta) tb
termination_by a b => a.length + b.length
theorem mergeF_nil (a : List PK) : mergeF a [] = a := by cases a <;> simp [mergeF]
theorem mergeF_perm : ∀ a b : List PK, (mergeF a b).Perm (a ++ b)
  | [], b => by simp [mergeF]
  | a :: ta, [] => by simp [mergeF]
  | a :: ta, b :: tb => by
    rw [mergeF]
    split
    · exact (mergeF_perm ta (b :: tb)).cons a
    · exact ((mergeF_perm (a :: ta) tb).cons b).trans (List.perm_middle.symm)
termination_by a b => a.length + b.length
theorem mergeF_srt : ∀ a b : List PK, Srt wP a → Srt wP b → Srt wP (mergeF a b)
  | [], b, _, h => by simpa [mergeF] using h
  | a :: ta, [], h, _ => by simpa [mergeF] using h
  | a :: ta, b :: tb, h1, h2 => by
    obtain ⟨c1, d1⟩ := List.pairwise_cons.1 h1
    obtain ⟨c2, d2⟩ := List.pairwise_cons.1 h2
    rw [mergeF]
    split
    next hab =>
      refine List.pairwise_cons.2 ⟨fun x hx => ?_, mergeF_srt ta (b :: tb) d1 h2⟩
      rcases List.mem_append.1 ((mergeF_perm _ _).mem_iff.1 hx) with hx | hx
      · exact c1 x hx
      · rcases List.mem_cons.1 hx with rfl | hx
        · exact hab
        · exact Int.le_trans (show wP a ≤ wP b from hab) (c2 x hx)
    next hab =>
      refine List.pairwise_cons.2 ⟨fun x hx => ?_, mergeF_srt (a :: ta) tb h1 d2⟩
      have hba : wP b ≤ wP a := by unfold wP; omega
      rcases List.mem_append.1 ((mergeF_perm _ _).mem_iff.1 hx) with hx | hx
      · rcases List.mem_cons.1 hx with rfl | hx
        · exact hba
        · exact Int.le_trans hba (c1 x hx)
      · exact c2 x hx
termination_by a b => a.length + b.length
theorem mergeF_stb : ∀ a b : List PK, Srt wP a → Srt wP b → Stb wP (a ++ b) (mergeF a b)
  | [], b, _, _ => by simpa [mergeF] using Stb.refl b
  | a :: ta, [], _, _ => by simpa [mergeF] using Stb.refl (a :: ta)
  | a :: ta, b :: tb, h1, h2 => by
    obtain ⟨c1, d1⟩ := List.pairwise_cons.1 h1
    obtain ⟨c2, d2⟩ := List.pairwise_cons.1 h2
    intro k
    rw [mergeF]
    split
    next hab =>
      have ih := mergeF_stb ta (b :: tb) d1 h2 k
      rw [List.cons_append, List.filter_cons, List.filter_cons, ih]
    next hab =>
      have ih := mergeF_stb (a :: ta) tb h1 d2 k
      rw [List.filter_cons, ih, List.filter_append, List.filter_append, List.filter_cons (x := b)]
      by_cases hb : (wP b == k) = true
      · have hn : (a :: ta).filter (fun x => wP x == k) = [] := List.filter_eq_nil_iff.2 (fun x hx => by
          rw [beq_iff_eq] at hb ⊢
          have : wP a ≤ wP x := by
            rcases List.mem_cons.1 hx with rfl | hx
            · exact Int.le_refl _
            · exact c1 x hx
          unfold wP at this hb ⊢
          omega)
        rw [hn, if_pos hb, if_pos hb]
        rfl
      · rw [if_neg hb]
        simp [hb]
termination_by a b => a.length + b.length
theorem isort_merge {a b : List PK} (h1 : Srt wP a) (h2 : Srt wP b) : isortF (a ++ b) = mergeF a b :=
  (sorted_isF (mergeF_srt a b h1 h2) (mergeF_stb a b h1 h2)).symm
/-- What comes first in a merge: first ones of each. -/
theorem mergeF_take : ∀ (a b : List PK) (m : Nat), m ≤ a.length + b.length → Srt wP a → Srt wP b → ∃ s p, s ≤ a.length ∧ p ≤ b.length ∧ s + p = m ∧ ((mergeF a b).take m).Perm (a.take s ++ b.take p) ∧ (∀ x ∈ a.take s, ∀ y ∈ b.drop p, x.1 ≤ y.1) ∧ (∀ y ∈ b.take p, ∀ x ∈ a.drop s, y.1 < x.1)
  | _, _, 0, _, _, _ => ⟨0, 0, by omega, by omega, rfl, by simp, by simp, by simp⟩
  | [], b, m + 1, h, _, _ => ⟨0, m + 1, by simp, by simpa using h, by omega, by simp [mergeF], by simp, by simp⟩
  | a :: ta, [], m + 1, h, _, _ => ⟨m + 1, 0, by simpa using h, by simp, by omega, by simp [mergeF], by simp, by simp⟩
  | a :: ta, b :: tb, m + 1, h, h1, h2 => by
    obtain ⟨c1, d1⟩ := List.pairwise_cons.1 h1
    obtain ⟨c2, d2⟩ := List.pairwise_cons.1 h2
    rw [mergeF]
    split
    next hab =>
      obtain ⟨s, p, e1, e2, e3, e4, e5, e6⟩ := mergeF_take ta (b :: tb) m (by simp at h ⊢; omega) d1 h2
      refine ⟨s + 1, p, by simp; omega, e2, by omega, ?_, ?_, ?_⟩
      · rw [List.take_succ_cons, List.take_succ_cons, List.cons_append]
        exact e4.cons a
      · intro x hx y hy
        rw [List.take_succ_cons] at hx
        rcases List.mem_cons.1 hx with rfl | hx
        · rcases List.mem_cons.1 (List.mem_of_mem_drop hy) with rfl | hy
          · exact hab
          · exact Int.le_trans hab (c2 y hy)
        · exact e5 x hx y hy
      · intro y hy x hx
        rw [List.drop_succ_cons] at hx
        exact e6 y hy x hx
    next hab =>
      obtain ⟨s, p, e1, e2, e3, e4, e5, e6⟩ := mergeF_take (a :: ta) tb m (by simp at h ⊢; omega) h1 d2
      refine ⟨s, p + 1, e1, by simp; omega, by omega, ?_, ?_, ?_⟩
      · rw [List.take_succ_cons, List.take_succ_cons]
        exact (e4.cons b).trans List.perm_middle.symm
      · intro x hx y hy
        rw [List.drop_succ_cons] at hy
        exact e5 x hx y hy
      · intro y hy x hx
        rw [List.take_succ_cons] at hy
        rcases List.mem_cons.1 hy with rfl | hy
        · rcases List.mem_cons.1 (List.mem_of_mem_drop hx) with rfl | hx
          · omega
          · have : a.1 ≤ x.1 := c1 x hx
            omega
        · exact e6 y hy x hx
termination_by a b => a.length + b.length
/-! ### Plain: pairs, levels -/
theorem pairP_mem : ∀ {Y : List PK} {q : PK}, q ∈ pairP Y → ∃ x ∈ Y, ∃ y ∈ Y, q = (x.1 + y.1, x.2 ++ y.2)
  | [], q, h => by simp [pairP] at h
  | [_], q, h => by simp [pairP] at h
  | a :: b :: t, q, h => by
    rw [pairP] at h
    rcases List.mem_cons.1 h with rfl | h
    · exact ⟨a, by simp, b, by simp, rfl⟩
    · obtain ⟨x, hx, y, hy, e⟩ := pairP_mem h
      exact ⟨x, by simp [hx], y, by simp [hy], e⟩
theorem pairP_srt : ∀ {Y : List PK}, Srt wP Y → Srt wP (pairP Y)
  | [], _ => List.Pairwise.nil
  | [_], _ => by simp [pairP]; exact List.Pairwise.nil
  | a :: b :: t, h => by
    obtain ⟨c1, d1⟩ := List.pairwise_cons.1 h
    obtain ⟨c2, d2⟩ := List.pairwise_cons.1 d1
    rw [pairP]
    refine List.pairwise_cons.2 ⟨fun q hq => ?_, pairP_srt d2⟩
    obtain ⟨x, hx, y, hy, rfl⟩ := pairP_mem hq
    have h1 : a.1 ≤ x.1 := c1 x (by simp [hx])
    have h2 : b.1 ≤ y.1 := c2 y hy
    show a.1 + b.1 ≤ x.1 + y.1
    omega
theorem haveF_srt (S : List PK) : ∀ j, Srt wP (haveF S j)
  | 0 => List.Pairwise.nil
  | j + 1 => (isortF_spec _).1
theorem haveF_succ {S : List PK} (hS : Srt wP S) (j : Nat) : haveF S (j + 1) = mergeF S (pairP (haveF S j)) := isort_merge hS (pairP_srt (haveF_srt S j))
def sumF (φ : PK → Int) (L : List PK) : Int := (L.map φ).sum
def Adds (φ : PK → Int) : Prop := ∀ a b : PK, φ (a.1 + b.1, a.2 ++ b.2) = φ a + φ b
theorem sumF_perm {φ : PK → Int} {a b : List PK} (h : a.Perm b) : sumF φ a = sumF φ b := by
  induction h with
  | nil => rfl
  | cons x _ ih => simp only [sumF, List.map_cons, List.sum_cons] at ih ⊢; omega
  | swap x y l => simp only [sumF, List.map_cons, List.sum_cons]; omega
  | trans _ _ i1 i2 => exact i1.trans i2
theorem sumF_append (φ : PK → Int) (a b : List PK) : sumF φ (a ++ b) = sumF φ a + sumF φ b := by
  unfold sumF
  rw [List.map_append, List.sum_append]
theorem pair_take {φ : PK → Int} (hφ : Adds φ) : ∀ (p : Nat) (Y : List PK), p ≤ Y.length / 2 → sumF φ ((pairP Y).take p) = sumF φ (Y.take (2 * p))
  | 0, _, _ => by simp [sumF]
  | p + 1, [], h => by simp at h
  | p + 1, [_], h => by simp at h
  | p + 1, a :: b :: t, h => by
    have ih := pair_take hφ p t (by simp at h; omega)
    rw [pairP, List.take_succ_cons, show 2 * (p + 1) = 2 * p + 1 + 1 by omega, List.take_succ_cons, List.take_succ_cons]
    have e := hφ a b
    simp only [sumF, List.map_cons, List.sum_cons] at ih ⊢
    omega
/-! ### Plain: the row told counts symbols -/
open Pr (bump bumps zerosL)
def cnt (x : Int) (p : PK) : Int := (p.2.count x : Int)
theorem cnt_adds (x : Int) : Adds (cnt x) := fun a b => by
  unfold cnt
  show ((a.2 ++ b.2).count x : Int) = _
  rw [List.count_append]
  omega
theorem wP_adds : Adds wP := fun _ _ => rfl
theorem bump_getD {out : List Int} {s : Int} {i : Nat} (hs : 0 ≤ s) (hi : i < out.length) : (bump out s).getD i 0 = out.getD i 0 + (if s = (i : Int) then 1 else 0) := by
  unfold bump
  rw [List.getD_eq_getElem?_getD, List.getElem?_set]
  by_cases h : s.toNat = i
  · rw [if_pos h, if_pos (by omega), if_pos (by omega)]
    subst h
    rfl
  · rw [if_neg h, if_neg (by omega), List.getD_eq_getElem?_getD]
    omega
theorem bumps_getD : ∀ {r out : List Int} {i : Nat}, (∀ s ∈ r, 0 ≤ s) → i < out.length → (bumps out r).getD i 0 = out.getD i 0 + (r.count (i : Int) : Int)
  | [], out, i, _, _ => by simp [bumps]
  | s :: r, out, i, h, hi => by
    have h1 := bumps_getD (r := r) (out := bump out s) (i := i) (fun x hx => h x (by simp [hx])) (by rw [Pr.bump_len]; exact hi)
    show (bumps (bump out s) r).getD i 0 = _
    rw [h1, bump_getD (h s (by simp)) hi, List.count_cons]
    by_cases e : s = (i : Int)
    · rw [if_pos e, if_pos (by simpa using e)]
      omega
    · rw [if_neg e, if_neg (by simpa using e)]
      omega
theorem out_getD : ∀ {hs : List PK} {out : List Int} {i : Nat}, (∀ p ∈ hs, ∀ s ∈ p.2, 0 ≤ s) → i < out.length → (hs.foldl (fun out p => bumps out p.2) out).getD i 0 = out.getD i 0 + sumF (cnt (i : Int)) hs
  | [], out, i, _, _ => by simp [sumF]
  | p :: hs, out, i, h, hi => by
    have h1 := out_getD (hs := hs) (out := bumps out p.2) (i := i) (fun q hq => h q (by simp [hq])) (by rw [Pr.bumps_len]; exact hi)
    rw [List.foldl_cons, h1, bumps_getD (h p (by simp)) hi]
    simp only [sumF, List.map_cons, List.sum_cons, cnt]
    omega
theorem out_len : ∀ (hs : List PK) (out : List Int), (hs.foldl (fun out p => bumps out p.2) out).length = out.length
  | [], _ => rfl
  | p :: hs, out => by rw [List.foldl_cons, out_len hs, Pr.bumps_len]
/-! ### Plain: the singles -/
open Pr (singL singL_mem)
theorem insF_perm (x : PK) : ∀ Z, (insF x Z).Perm (x :: Z)
  | [] => .refl _
  | y :: t => by
    unfold insF
    split
    · exact .refl _
    · exact ((insF_perm x t).cons y).trans (.swap x y t)
theorem isortF_perm : ∀ L : List PK, (isortF L).Perm L
  | [] => .refl _
  | x :: L => (insF_perm x _).trans ((isortF_perm L).cons x)
theorem sumF_cnt (x : Int) : ∀ L : List PK, sumF (cnt x) L = ((L.flatMap Prod.snd).count x : Int)
  | [] => rfl
  | p :: L => by
    have ih := sumF_cnt x L
    rw [List.flatMap_cons, List.count_append]
    simp only [sumF, List.map_cons, List.sum_cons, cnt] at ih ⊢
    omega
theorem sing_syms (l : List Int) (k : Nat) : (singL l k).flatMap Prod.snd = ((List.range k).filter (fun j => decide (l.getD j 0 > 0))).map (fun (j : Nat) => (j : Int)) := by
  induction k with
  | zero => rfl
  | succ k ih =>
    rw [Pr.singL_succ, List.range_succ, List.filter_append, List.map_append, ← ih]
    by_cases h : l.getD k 0 > 0
    · rw [if_pos h, List.flatMap_append, List.filter_cons_of_pos (by simpa using h)]
      rfl
    · rw [if_neg h, List.filter_cons_of_neg (by simpa using h)]
      simp
theorem sing_nodup (l : List Int) (k : Nat) : ((singL l k).flatMap Prod.snd).Nodup := by
  rw [sing_syms]
  refine List.Pairwise.map (R := fun a b => a ≠ b) _ (fun a b h e => h (by omega)) ?_
  exact (List.nodup_range).filter _
theorem srt_sing_nodup (l : List Int) (k : Nat) : ((isortF (singL l k)).flatMap Prod.snd).Nodup :=
  (((isortF_perm (singL l k)).flatMap_right Prod.snd).nodup_iff).2 (sing_nodup l k)
theorem take_cnt_le (l : List Int) (k s : Nat) (x : Int) : sumF (cnt x) ((isortF (singL l k)).take s) ≤ 1 := by
  rw [sumF_cnt]
  have h := srt_sing_nodup l k
  have h2 : (((isortF (singL l k)).take s).flatMap Prod.snd).Nodup := by
    rw [← List.take_append_drop s (isortF (singL l k)), List.flatMap_append] at h
    exact (List.nodup_append.1 h).1
  have := List.nodup_iff_count.1 h2 x
  omega
theorem sing_at {l : List Int} {i : Nat} (hi : i < l.length) (h : 0 < l.getD i 0) : (l.getD i 0, [(i : Int)]) ∈ isortF (singL l l.length) := by
  rw [(isortF_perm _).mem_iff]
  unfold singL
  rw [List.mem_filter]
  exact ⟨List.mem_map.2 ⟨i, List.mem_range.2 hi, rfl⟩, by simpa using h⟩
theorem sing_of {l : List Int} {p : PK} (h : p ∈ isortF (singL l l.length)) : ∃ j : Nat, j < l.length ∧ p = (l.getD j 0, [(j : Int)]) ∧ l.getD j 0 > 0 := singL_mem ((isortF_perm _).mem_iff.1 h)
/-! ### Plain: LimitOrder -/
open Pr (lenF oftenS haveF isortF isortF_spec singL zerosL bumps)
theorem lenF_ok {l : List Int} {most : Int} {r : List Int} (h : lenF l most = (0, r)) : oftenS l = true ∧ ∃ m : Nat, most = (m : Int) ∧ 1 ≤ m ∧ m ≤ 15 ∧ (singL l l.length).length ≤ 2 ^ m ∧
    ((singL l l.length = [] ∧ r = zerosL l) ∨ (∃ p, singL l l.length = [p] ∧ r = bumps (zerosL l) p.2) ∨
     (2 ≤ (singL l l.length).length ∧ r = ((haveF (isortF (singL l l.length)) m).take (2 * (singL l l.length).length - 2)).foldl (fun out p => bumps out p.2) (zerosL l))) := by
  unfold lenF at h
  by_cases h0 : ¬ (oftenS l = true ∧ 1 ≤ most ∧ most ≤ 15)
  · rw [if_pos h0] at h
    injection h with h _
    omega
  · rw [if_neg h0] at h
    rw [Decidable.not_not] at h0
    obtain ⟨h1, h2, h3⟩ := h0
    obtain ⟨m, rfl⟩ : ∃ m : Nat, most = (m : Int) := ⟨most.toNat, by omega⟩
    rw [Int.toNat_natCast] at h
    by_cases h4 : 2 ^ m < (singL l l.length).length
    · rw [if_pos h4] at h
      injection h with h _
      omega
    · rw [if_neg h4] at h
      refine ⟨h1, m, rfl, by omega, by omega, by omega, ?_⟩
      generalize singL l l.length = s at *
      match s, h with
      | [], h => exact .inl ⟨rfl, by injection h with _ h; exact h.symm⟩
      | [p], h => exact .inr (.inl ⟨p, rfl, by injection h with _ h; exact h.symm⟩)
      | a :: b :: t, h => exact .inr (.inr ⟨by simp, by injection h with _ h; exact h.symm⟩)
theorem lenF_bad {l : List Int} {most : Int} (h : (lenF l most).1 ≠ 0) : (lenF l most).2 = [] := by
  unfold lenF at h ⊢
  split
  · rfl
  · next h0 =>
    rw [if_neg h0] at h
    split
    · rfl
    · next h1 =>
      rw [if_neg h1] at h
      exfalso
      apply h
      split <;> rfl
theorem zeros_len (l : List Int) : (zerosL l).length = l.length := by unfold zerosL; rw [List.length_replicate]
theorem zeros_get (l : List Int) (i : Nat) : (zerosL l).getD i 0 = 0 := by
  unfold zerosL
  rw [List.getD_eq_getElem?_getD, List.getElem?_replicate]
  split <;> rfl
theorem lenF_len {l : List Int} {most : Int} {r : List Int} (h : lenF l most = (0, r)) : r.length = l.length := by
  obtain ⟨_, m, _, _, _, _, h | ⟨p, _, h⟩ | ⟨_, h⟩⟩ := lenF_ok h
  · rw [h.2, zeros_len]
  · rw [h, Pr.bumps_len, zeros_len]
  · rw [h, out_len, zeros_len]
theorem have_syms (l : List Int) (j : Nat) : ∀ p ∈ haveF (isortF (singL l l.length)) j, ∀ s ∈ p.2, 0 ≤ s := by
  induction j with
  | zero => intro p hp; cases hp
  | succ j ih =>
    intro p hp s hs
    have hp2 := (isortF_perm _).mem_iff.1 hp
    rcases List.mem_append.1 hp2 with hp2 | hp2
    · obtain ⟨k, _, rfl, _⟩ := sing_of hp2
      have := List.mem_singleton.1 hs
      omega
    · obtain ⟨x, hx, y, hy, rfl⟩ := pairP_mem hp2
      rcases List.mem_append.1 hs with hs | hs
      · exact ih x hx s hs
      · exact ih y hy s hs
end Go.Proofs.Ytdgpcjhincgijaa.Pg

