-- Written by a program of this session (wip/tool/graft.py), which runs the kit's printer over texts by hand.
import Derived.Test.YtggmffmajgnhkaaPr0
import Derived.Test.YtggmffmajgnhkaaPr2
import Derived.Test.YtggmffmajgnhkaaPr12
import Derived.Test.YtggmffmajgnhkaaPr14
import Derived.Test.YtggmffmajgnhkaaPr15
import Derived.Test.YtggmffmajgnhkaaPr19
import Derived.Test.YtggmffmajgnhkaaPr29
import Derived.Test.YtggmffmajgnhkaaPr31
import Derived.Test.YtggmffmajgnhkaaPr33
import Derived.Test.YtggmffmajgnhkaaPr34
namespace Go.Proofs.Ytggmffmajgnhkaa.Pr
open Go.RowKit Go.Proofs.YtggmffmajgnhkaaW.PrintWords Go.Proofs.YtggmffmajgnhkaaW.PrintLast Go.Proofs.YtggmffmajgnhkaaW.PrintMore
attribute [local go_sem] max2_int min2_int max_two min_two max_three min_three max_four min_four   -- for this text's walks alone
set_option linter.unusedVariables false
set_option linter.unusedSimpArgs false

/-! ### valiselaw01_BitsJoins: function 10 -/
def valiselaw01_BitsJoins.j0 : Nat → Bool → List Int → Int → List Int → Int → List Int → Int → List Int → Int → List Int → Int → List Int → Int → Option (Bool)
 | 0, _, _, _, _, _, _, _, _, _, _, _, _, _ => none
 | k + 1, x15, x329000, x329001, x330000, x330001, x339000, x339001, x340000, x340001, x346000, x346001, x358000, x358001 => (valiselaw01_spoil.f k x346000 x346001).bind fun t366 => ((valiselaw01_spoil.f k x358000 x358001).bind fun t367 => (if x15 = true then ((valiselaw01_kept.f x339000 x339001 x329000 x329001).bind fun t368 => (if t368 = true then ((valiselaw01_kept.f x340000 x340001 x330000 x330001).bind fun t369 => (if t369 = true then ((valiselaw01_lives.f k).bind fun t370 => (some t370)) else (some false))) else (some false))) else (some false)))
def valiselaw01_BitsJoins.f (k : Nat) (l0_0 : List Int) (a0_1 : Int) (l1_0 : List Int) (a1_1 : Int) : Option (Bool) := (valiselaw01_own.f l0_0 a0_1).bind fun bt330 => ((valiselaw01_own.f l1_0 a1_1).bind fun bt334 => ((bits_Join.f k bt330.1 bt330.2 bt334.1 bt334.2).bind fun bt340 => ((valiseref01_Join.f k l0_0 a0_1 l1_0 a1_1).bind fun bt346 => ((bits_Align.f k bt330.1 bt330.2).bind fun bt352 => ((valiseref01_Align.f k l0_0 a0_1).bind fun bt358 => ((valiseref01_Same.f bt340.1 bt340.2.1 bt346.1 bt346.2.1).bind fun t364 => (if t364 = true then (if bt340.2.2 = bt346.2.2 then ((valiseref01_Same.f bt352.1 bt352.2.1 bt358.1 bt358.2.1).bind fun t365 => (if t365 = true then (valiselaw01_BitsJoins.j0 k (bt352.2.2 == bt358.2.2) l0_0 a0_1 l1_0 a1_1 bt330.1 bt330.2 bt334.1 bt334.2 bt340.1 bt340.2.1 bt352.1 bt352.2.1) else (valiselaw01_BitsJoins.j0 k false l0_0 a0_1 l1_0 a1_1 bt330.1 bt330.2 bt334.1 bt334.2 bt340.1 bt340.2.1 bt352.1 bt352.2.1))) else (valiselaw01_BitsJoins.j0 k false l0_0 a0_1 l1_0 a1_1 bt330.1 bt330.2 bt334.1 bt334.2 bt340.1 bt340.2.1 bt352.1 bt352.2.1)) else (valiselaw01_BitsJoins.j0 k false l0_0 a0_1 l1_0 a1_1 bt330.1 bt330.2 bt334.1 bt334.2 bt340.1 bt340.2.1 bt352.1 bt352.2.1))))))))
theorem valiselaw01_BitsJoins.mono_l : ∀ k, (∀ y0 y1 y2 y3 y4 y5 y6 y7 y8 y9 y10 y11 y12, LeO (valiselaw01_BitsJoins.j0 k y0 y1 y2 y3 y4 y5 y6 y7 y8 y9 y10 y11 y12) (valiselaw01_BitsJoins.j0 (k + 1) y0 y1 y2 y3 y4 y5 y6 y7 y8 y9 y10 y11 y12))
 | 0 => fun _ _ _ _ _ _ _ _ _ _ _ _ _ r h => by simp [valiselaw01_BitsJoins.j0] at h
 | k + 1 => by
  have ih0 := valiselaw01_BitsJoins.mono_l k
  ·intro y0 y1 y2 y3 y4 y5 y6 y7 y8 y9 y10 y11 y12
   unfold valiselaw01_BitsJoins.j0
   repeat' first
   | (with_reducible exact ih0 _ _ _ _ _ _ _ _ _ _ _ _ _)
   | (with_reducible exact bits_Align.mono _ _ _)
   | (with_reducible exact bits_Join.mono _ _ _ _ _)
   | (with_reducible exact valiselaw01_lives.mono _)
   | (with_reducible exact valiselaw01_spoil.mono _ _ _)
   | (with_reducible exact valiseref01_Align.mono _ _ _)
   | (with_reducible exact valiseref01_Join.mono _ _ _ _ _)
   | (with_reducible exact LeO.refl _)
   | (with_reducible exact LeO.none _)
   | (with_reducible refine LeO.ite ?_ ?_)
   | (with_reducible refine LeO.bind ?_ (fun _ => ?_))
   | exact ih0 _ _ _ _ _ _ _ _ _ _ _ _ _
   | exact bits_Align.mono _ _ _
   | exact bits_Join.mono _ _ _ _ _
   | exact valiselaw01_lives.mono _
   | exact valiselaw01_spoil.mono _ _ _
   | exact valiseref01_Align.mono _ _ _
   | exact valiseref01_Join.mono _ _ _ _ _
   | exact LeO.none _
   | refine LeO.ite ?_ ?_
   | refine LeO.bind ?_ (fun _ => ?_)
theorem valiselaw01_BitsJoins.mono : ∀ a0 a1 a2 a3 k, LeO (valiselaw01_BitsJoins.f k a0 a1 a2 a3) (valiselaw01_BitsJoins.f (k + 1) a0 a1 a2 a3) := by
 intro a0 a1 a2 a3 k
 have ih0 := valiselaw01_BitsJoins.mono_l k
 unfold valiselaw01_BitsJoins.f
 repeat' first
   | (with_reducible exact ih0 _ _ _ _ _ _ _ _ _ _ _ _ _)
   | (with_reducible exact bits_Align.mono _ _ _)
   | (with_reducible exact bits_Join.mono _ _ _ _ _)
   | (with_reducible exact valiselaw01_lives.mono _)
   | (with_reducible exact valiselaw01_spoil.mono _ _ _)
   | (with_reducible exact valiseref01_Align.mono _ _ _)
   | (with_reducible exact valiseref01_Join.mono _ _ _ _ _)
   | (with_reducible exact LeO.refl _)
   | (with_reducible exact LeO.none _)
   | (with_reducible refine LeO.ite ?_ ?_)
   | (with_reducible refine LeO.bind ?_ (fun _ => ?_))
   | exact ih0 _ _ _ _ _ _ _ _ _ _ _ _ _
   | exact bits_Align.mono _ _ _
   | exact bits_Join.mono _ _ _ _ _
   | exact valiselaw01_lives.mono _
   | exact valiselaw01_spoil.mono _ _ _
   | exact valiseref01_Align.mono _ _ _
   | exact valiseref01_Join.mono _ _ _ _ _
   | exact LeO.none _
   | refine LeO.ite ?_ ?_
   | refine LeO.bind ?_ (fun _ => ?_)
def valiselaw01_BitsJoins.T1 : Bool × List (List Nat × List Nat) := (true, [([], []), ([0], [0]), ([], []), ([2, 1], [2]), ([], []), ([], []), ([4, 1, 3, 0, 1, 4, 5], [1, 4]), ([5, 3, 6, 0, 1, 2, 3, 4, 5, 6], [3, 5])])
def valiselaw01_BitsJoins.B1 : List Nat := [0, 1, 0, 7, 0, 0, 63, 127]
theorem valiselaw01_BitsJoins.tab1 : rtab .any (opsOf Try.f10 1) = valiselaw01_BitsJoins.T1 := by kernel_rfl
theorem valiselaw01_BitsJoins.bits1 : waitsOk valiselaw01_BitsJoins.T1.2 valiselaw01_BitsJoins.B1 = true := by kernel_rfl
set_option maxHeartbeats 8000000 in
set_option maxRecDepth 100000 in
theorem valiselaw01_BitsJoins.calls (k : Nat) (A0_0 : Option Addr) (c0_0 : Nat) (l0_0 : List Int) (a0_1 : Int) (A1_0 : Option Addr) (c1_0 : Nat) (l1_0 : List Int) (a1_1 : Int) (r : Bool) (w : World) (hr0_0 : Kd.C (Kd.int .u8) w A0_0 l0_0.length l0_0) (hc0_0 : l0_0.length ≤ c0_0) (hr1_0 : Kd.C (Kd.int .u8) w A1_0 l1_0.length l1_0) (hc1_0 : l1_0.length ≤ c1_0) (h : valiselaw01_BitsJoins.f k l0_0 a0_1 l1_0 a1_1 = some r) (hrt : r = true) :
  Calls Try.prog 10 #[.agg #[.slice A0_0 l0_0.length c0_0, .int .i64 a0_1], .agg #[.slice A1_0 l1_0.length c1_0, .int .i64 a1_1]] w fun e w' => e = .returned (.bool r) ∧ Below w.heap.size w w' := by
 have hu24 := Try.underlying24
 have HR0_0 := Aside0.mk hr0_0
 have HC0_0 := Aside0.mk hc0_0
 clear hr0_0 hc0_0
 have HR1_0 := Aside0.mk hr1_0
 have HC1_0 := Aside0.mk hc1_0
 clear hr1_0 hc1_0
 have HB := Aside0.mk (Below.refl w.heap.size w)
 have H : ((valiselaw01_own.f l0_0 a0_1).bind fun bt330 => ((valiselaw01_own.f l1_0 a1_1).bind fun bt334 => ((bits_Join.f k bt330.1 bt330.2 bt334.1 bt334.2).bind fun bt340 => ((valiseref01_Join.f k l0_0 a0_1 l1_0 a1_1).bind fun bt346 => ((bits_Align.f k bt330.1 bt330.2).bind fun bt352 => ((valiseref01_Align.f k l0_0 a0_1).bind fun bt358 => ((valiseref01_Same.f bt340.1 bt340.2.1 bt346.1 bt346.2.1).bind fun t364 => (if t364 = true then (if bt340.2.2 = bt346.2.2 then ((valiseref01_Same.f bt352.1 bt352.2.1 bt358.1 bt358.2.1).bind fun t365 => (if t365 = true then (valiselaw01_BitsJoins.j0 k (bt352.2.2 == bt358.2.2) l0_0 a0_1 l1_0 a1_1 bt330.1 bt330.2 bt334.1 bt334.2 bt340.1 bt340.2.1 bt352.1 bt352.2.1) else (valiselaw01_BitsJoins.j0 k false l0_0 a0_1 l1_0 a1_1 bt330.1 bt330.2 bt334.1 bt334.2 bt340.1 bt340.2.1 bt352.1 bt352.2.1))) else (valiselaw01_BitsJoins.j0 k false l0_0 a0_1 l1_0 a1_1 bt330.1 bt330.2 bt334.1 bt334.2 bt340.1 bt340.2.1 bt352.1 bt352.2.1)) else (valiselaw01_BitsJoins.j0 k false l0_0 a0_1 l1_0 a1_1 bt330.1 bt330.2 bt334.1 bt334.2 bt340.1 bt340.2.1 bt352.1 bt352.2.1))))))))) = some r := h
 clear h
 replace H := Option.bind_eq_some_iff.mp H
 obtain ⟨⟨t330, t333⟩, A30, H⟩ := H
 replace H : ((valiselaw01_own.f l1_0 a1_1).bind fun bt334 => ((bits_Join.f k t330 t333 bt334.1 bt334.2).bind fun bt340 => ((valiseref01_Join.f k l0_0 a0_1 l1_0 a1_1).bind fun bt346 => ((bits_Align.f k t330 t333).bind fun bt352 => ((valiseref01_Align.f k l0_0 a0_1).bind fun bt358 => ((valiseref01_Same.f bt340.1 bt340.2.1 bt346.1 bt346.2.1).bind fun t364 => (if t364 = true then (if bt340.2.2 = bt346.2.2 then ((valiseref01_Same.f bt352.1 bt352.2.1 bt358.1 bt358.2.1).bind fun t365 => (if t365 = true then (valiselaw01_BitsJoins.j0 k (bt352.2.2 == bt358.2.2) l0_0 a0_1 l1_0 a1_1 t330 t333 bt334.1 bt334.2 bt340.1 bt340.2.1 bt352.1 bt352.2.1) else (valiselaw01_BitsJoins.j0 k false l0_0 a0_1 l1_0 a1_1 t330 t333 bt334.1 bt334.2 bt340.1 bt340.2.1 bt352.1 bt352.2.1))) else (valiselaw01_BitsJoins.j0 k false l0_0 a0_1 l1_0 a1_1 t330 t333 bt334.1 bt334.2 bt340.1 bt340.2.1 bt352.1 bt352.2.1)) else (valiselaw01_BitsJoins.j0 k false l0_0 a0_1 l1_0 a1_1 t330 t333 bt334.1 bt334.2 bt340.1 bt340.2.1 bt352.1 bt352.2.1)))))))) = some r := H
 have A3 := Aside0.mk A30
 clear A30
 replace H := Option.bind_eq_some_iff.mp H
 obtain ⟨⟨t334, t337⟩, A40, H⟩ := H
 replace H : ((bits_Join.f k t330 t333 t334 t337).bind fun bt340 => ((valiseref01_Join.f k l0_0 a0_1 l1_0 a1_1).bind fun bt346 => ((bits_Align.f k t330 t333).bind fun bt352 => ((valiseref01_Align.f k l0_0 a0_1).bind fun bt358 => ((valiseref01_Same.f bt340.1 bt340.2.1 bt346.1 bt346.2.1).bind fun t364 => (if t364 = true then (if bt340.2.2 = bt346.2.2 then ((valiseref01_Same.f bt352.1 bt352.2.1 bt358.1 bt358.2.1).bind fun t365 => (if t365 = true then (valiselaw01_BitsJoins.j0 k (bt352.2.2 == bt358.2.2) l0_0 a0_1 l1_0 a1_1 t330 t333 t334 t337 bt340.1 bt340.2.1 bt352.1 bt352.2.1) else (valiselaw01_BitsJoins.j0 k false l0_0 a0_1 l1_0 a1_1 t330 t333 t334 t337 bt340.1 bt340.2.1 bt352.1 bt352.2.1))) else (valiselaw01_BitsJoins.j0 k false l0_0 a0_1 l1_0 a1_1 t330 t333 t334 t337 bt340.1 bt340.2.1 bt352.1 bt352.2.1)) else (valiselaw01_BitsJoins.j0 k false l0_0 a0_1 l1_0 a1_1 t330 t333 t334 t337 bt340.1 bt340.2.1 bt352.1 bt352.2.1))))))) = some r := H
 have A4 := Aside0.mk A40
 clear A40
 replace H := Option.bind_eq_some_iff.mp H
 obtain ⟨⟨t340, t343, t344⟩, A50, H⟩ := H
 replace H : ((valiseref01_Join.f k l0_0 a0_1 l1_0 a1_1).bind fun bt346 => ((bits_Align.f k t330 t333).bind fun bt352 => ((valiseref01_Align.f k l0_0 a0_1).bind fun bt358 => ((valiseref01_Same.f t340 t343 bt346.1 bt346.2.1).bind fun t364 => (if t364 = true then (if t344 = bt346.2.2 then ((valiseref01_Same.f bt352.1 bt352.2.1 bt358.1 bt358.2.1).bind fun t365 => (if t365 = true then (valiselaw01_BitsJoins.j0 k (bt352.2.2 == bt358.2.2) l0_0 a0_1 l1_0 a1_1 t330 t333 t334 t337 t340 t343 bt352.1 bt352.2.1) else (valiselaw01_BitsJoins.j0 k false l0_0 a0_1 l1_0 a1_1 t330 t333 t334 t337 t340 t343 bt352.1 bt352.2.1))) else (valiselaw01_BitsJoins.j0 k false l0_0 a0_1 l1_0 a1_1 t330 t333 t334 t337 t340 t343 bt352.1 bt352.2.1)) else (valiselaw01_BitsJoins.j0 k false l0_0 a0_1 l1_0 a1_1 t330 t333 t334 t337 t340 t343 bt352.1 bt352.2.1)))))) = some r := H
 have A5 := Aside0.mk A50
 clear A50
 replace H := Option.bind_eq_some_iff.mp H
 obtain ⟨⟨t346, t349, t350⟩, A60, H⟩ := H
 replace H : ((bits_Align.f k t330 t333).bind fun bt352 => ((valiseref01_Align.f k l0_0 a0_1).bind fun bt358 => ((valiseref01_Same.f t340 t343 t346 t349).bind fun t364 => (if t364 = true then (if t344 = t350 then ((valiseref01_Same.f bt352.1 bt352.2.1 bt358.1 bt358.2.1).bind fun t365 => (if t365 = true then (valiselaw01_BitsJoins.j0 k (bt352.2.2 == bt358.2.2) l0_0 a0_1 l1_0 a1_1 t330 t333 t334 t337 t340 t343 bt352.1 bt352.2.1) else (valiselaw01_BitsJoins.j0 k false l0_0 a0_1 l1_0 a1_1 t330 t333 t334 t337 t340 t343 bt352.1 bt352.2.1))) else (valiselaw01_BitsJoins.j0 k false l0_0 a0_1 l1_0 a1_1 t330 t333 t334 t337 t340 t343 bt352.1 bt352.2.1)) else (valiselaw01_BitsJoins.j0 k false l0_0 a0_1 l1_0 a1_1 t330 t333 t334 t337 t340 t343 bt352.1 bt352.2.1))))) = some r := H
 have A6 := Aside0.mk A60
 clear A60
 replace H := Option.bind_eq_some_iff.mp H
 obtain ⟨⟨t352, t355, t356⟩, A70, H⟩ := H
 replace H : ((valiseref01_Align.f k l0_0 a0_1).bind fun bt358 => ((valiseref01_Same.f t340 t343 t346 t349).bind fun t364 => (if t364 = true then (if t344 = t350 then ((valiseref01_Same.f t352 t355 bt358.1 bt358.2.1).bind fun t365 => (if t365 = true then (valiselaw01_BitsJoins.j0 k (t356 == bt358.2.2) l0_0 a0_1 l1_0 a1_1 t330 t333 t334 t337 t340 t343 t352 t355) else (valiselaw01_BitsJoins.j0 k false l0_0 a0_1 l1_0 a1_1 t330 t333 t334 t337 t340 t343 t352 t355))) else (valiselaw01_BitsJoins.j0 k false l0_0 a0_1 l1_0 a1_1 t330 t333 t334 t337 t340 t343 t352 t355)) else (valiselaw01_BitsJoins.j0 k false l0_0 a0_1 l1_0 a1_1 t330 t333 t334 t337 t340 t343 t352 t355)))) = some r := H
 have A7 := Aside0.mk A70
 clear A70
 replace H := Option.bind_eq_some_iff.mp H
 obtain ⟨⟨t358, t361, t362⟩, A80, H⟩ := H
 replace H : ((valiseref01_Same.f t340 t343 t346 t349).bind fun t364 => (if t364 = true then (if t344 = t350 then ((valiseref01_Same.f t352 t355 t358 t361).bind fun t365 => (if t365 = true then (valiselaw01_BitsJoins.j0 k (t356 == t362) l0_0 a0_1 l1_0 a1_1 t330 t333 t334 t337 t340 t343 t352 t355) else (valiselaw01_BitsJoins.j0 k false l0_0 a0_1 l1_0 a1_1 t330 t333 t334 t337 t340 t343 t352 t355))) else (valiselaw01_BitsJoins.j0 k false l0_0 a0_1 l1_0 a1_1 t330 t333 t334 t337 t340 t343 t352 t355)) else (valiselaw01_BitsJoins.j0 k false l0_0 a0_1 l1_0 a1_1 t330 t333 t334 t337 t340 t343 t352 t355))) = some r := H
 have A8 := Aside0.mk A80
 clear A80
 have HC9 := Aside0.mk H
 clear H
 go_enter Try.func10, Try.ntmps10
 try go_wp2_with (first | ((with_reducible refine gate_dst (N := 2) rfl ?_);refine box_event ?hg (N := 2) ?hd (cs := #[.slice A0_0 l0_0.length c0_0, .int .i64 a0_1]) (t := 24) ?hr ?_;(case hd => rfl);(case hg => rfl);(case hr => first | (go_simp;done) | (go_simp;rfl));intro g328 hg w10 hbox hb;have n0_ := Aside0.mk (below_step (by repeat (first | (with_reducible first | exact HB.out | apply below_alloc | apply pw_below_drewN | apply below_drew1) | exact HB.out)) hb);have n1_ := Aside0.mk (hbox);have n2_ := Aside0.mk ((by rw [hg];exact (below_size (by repeat (first | (with_reducible first | exact HB.out | apply below_alloc | apply pw_below_drewN | apply below_drew1) | exact HB.out))) : w.heap.size ≤ g328));have n3_ := Aside0.mk ((by rw [hg];exact (below_size (by repeat (first | (with_reducible first | exact HB.out | apply below_alloc | apply pw_below_drewN | apply below_drew1) | exact HB.out))) : w.heap.size ≤ g328));clear HB;have HB := n0_;have B328 := n1_;have GW328 := n2_;have GE328 := n3_;clear n0_ n1_ n2_ n3_;clear hb hbox hg) | ((with_reducible refine gate_dst (N := 3) rfl ?_);refine box_event ?hg (N := 3) ?hd (cs := #[.slice A1_0 l1_0.length c1_0, .int .i64 a1_1]) (t := 24) ?hr ?_;(case hd => rfl);(case hg => rfl);(case hr => first | (go_simp;done) | (go_simp;rfl));intro g329 hg w11 hbox hb;have n0_ := Aside0.mk (blk_below (g := g328) (o := .cells #[.slice A0_0 l0_0.length c0_0, .int .i64 a0_1] 24 (0, 0)) (by (with_reducible repeat (first | refine blk_drewN ?_ _ | refine blk_drew ?_ | refine blk_alloc ?_ _));exact B328.out) hb);have n1_ := Aside0.mk (below_step (by repeat (first | (with_reducible first | exact HB.out | apply below_alloc | apply pw_below_drewN | apply below_drew1 | refine below_set ?_ GE328.out) | exact HB.out)) hb);have n2_ := Aside0.mk (hbox);have n3_ := Aside0.mk ((by rw [hg];exact (below_size (by repeat (first | (with_reducible first | exact HB.out | apply below_alloc | apply pw_below_drewN | apply below_drew1 | refine below_set ?_ GE328.out) | exact HB.out))) : w.heap.size ≤ g329));have n4_ := Aside0.mk ((by rw [hg];exact (below_size (by repeat (first | (with_reducible first | exact HB.out | apply below_alloc | apply pw_below_drewN | apply below_drew1 | refine below_set ?_ GE328.out) | exact HB.out))) : w.heap.size ≤ g329));have n5_ := Aside0.mk ((by rw [hg];exact Nat.ne_of_lt (blk_lt (g := g328) (o := .cells #[.slice A0_0 l0_0.length c0_0, .int .i64 a0_1] 24 (0, 0)) (by (with_reducible repeat (first | refine blk_drewN ?_ _ | refine blk_drew ?_ | refine blk_alloc ?_ _));exact B328.out)) : g328 ≠ g329));have n6_ := Aside0.mk ((by rw [hg];exact Nat.ne_of_gt (blk_lt (g := g328) (o := .cells #[.slice A0_0 l0_0.length c0_0, .int .i64 a0_1] 24 (0, 0)) (by (with_reducible repeat (first | refine blk_drewN ?_ _ | refine blk_drew ?_ | refine blk_alloc ?_ _));exact B328.out)) : g329 ≠ g328));clear B328;clear HB;have B328 := n0_;have HB := n1_;have B329 := n2_;have GW329 := n3_;have GE329 := n4_;have NB328_329 := n5_;have NB329_328 := n6_;clear n0_ n1_ n2_ n3_ n4_ n5_ n6_;clear hb hbox hg))
 have n0_ := Aside0.mk (blk_drew B328.out)
 have n1_ := Aside0.mk (blk_drew B329.out)
 have n2_ := Aside0.mk (below_drew1 HB.out)
 clear B328
 clear B329
 clear HB
 have B328 := n0_
 have B329 := n1_
 have HB := n2_
 clear n0_ n1_ n2_
 refine start_ (n := 8) (S := fun w' => w'.cell? ⟨g328, 0, none⟩ = some (.slice A0_0 l0_0.length c0_0) ∧ w'.cell? ⟨g328, 1, none⟩ = some (.int .i64 a0_1) ∧ w'.cell? ⟨g329, 0, none⟩ = some (.slice A1_0 l1_0.length c1_0) ∧ w'.cell? ⟨g329, 1, none⟩ = some (.int .i64 a1_1)) (ds := []) #[false, false, false, false, false, false, false, false] (by kernel_rfl) rfl rfl ⟨(blk_cell B328.out 0).trans rfl, (blk_cell B328.out 1).trans rfl, (blk_cell B329.out 0).trans rfl, (blk_cell B329.out 1).trans rfl⟩ (fun hHeld => ?_);refine with_tabW valiselaw01_BitsJoins.tab1 valiselaw01_BitsJoins.bits1 (fun HT_ HW_ => ?_)
 generalize w11.drew = w12 at B328 B329 HB hHeld ⊢
 refine take_ (i := 0) (N := some 16) (v := ?_) (a' := ?_) #[true, false, false, false, false, false, false, false] rfl rfl (take_ofW HT_.out HW_.out (by kernel_rfl)) (fun _ _ _ h => h) (Or.inl ⟨by rfl, ?_⟩) hHeld ?_ ?_
 rotate_left
 ·rintro w' ⟨s0, s1, s2, s3⟩
  go_simp
  with_reducible rfl
 rotate_left
 ·simp only [Act.put, List.setIfInBounds_toArray, List.set_cons_zero, List.set_cons_succ, i64_w, i32_w, u8_w]
  rfl
 refine take_ (i := 2) (N := some 18) (v := ?_) (a' := ?_) #[true, false, true, false, false, false, false, false] rfl rfl (take_ofW HT_.out HW_.out (by kernel_rfl)) (fun _ _ _ h => h) (Or.inl ⟨by rfl, ?_⟩) hHeld ?_ ?_
 rotate_left
 ·rintro w' ⟨s0, s1, s2, s3⟩
  go_simp
  with_reducible rfl
 rotate_left
 ·simp only [Act.put, List.setIfInBounds_toArray, List.set_cons_zero, List.set_cons_succ, i64_w, i32_w, u8_w]
  rfl
 refine join_ (σ := Value × Value × Nat × Nat) 2 #[true, true, true, true, true, true, false, false] (fun s_ => [(17, .agg #[s_.1, .int .i64 t333]), (19, .agg #[s_.2.1, .int .i64 t337]), (5, .pointer (some ⟨s_.2.2.1, 0, none⟩)), (6, .pointer (some ⟨s_.2.2.2, 0, none⟩))]) (fun s_ w' => (w'.cell? ⟨g328, 0, none⟩ = some (.slice A0_0 l0_0.length c0_0) ∧ w'.cell? ⟨g328, 1, none⟩ = some (.int .i64 a0_1) ∧ w'.cell? ⟨g329, 0, none⟩ = some (.slice A1_0 l1_0.length c1_0) ∧ w'.cell? ⟨g329, 1, none⟩ = some (.int .i64 a1_1)) ∧ (Kd.R (Kd.int .u8) 5 w' w.heap.size (fun k_ => some k_ ≠ (wideV s_.2.1).ownBlock) (wideV s_.1) (t330 ++ [119])) ∧ (Kd.R (Kd.int .u8) 5 w' w.heap.size (fun k_ => some k_ ≠ (wideV s_.1).ownBlock) (wideV s_.2.1) (t334 ++ [119])) ∧ (w'.heap[g328]? = some (.cells #[.slice A0_0 l0_0.length c0_0, .int .i64 a0_1] 24 (0, 0))) ∧ (w'.heap[g329]? = some (.cells #[.slice A1_0 l1_0.length c1_0, .int .i64 a1_1] 24 (0, 0))) ∧ (w'.heap[s_.2.2.1]? = some (.cells #[.slice none 0 0, .int .i64 0] 24 (0, 0))) ∧ (w'.heap[s_.2.2.2]? = some (.cells #[.slice none 0 0, .int .i64 0] 24 (0, 0))) ∧ (w.heap.size ≤ s_.2.2.1) ∧ (w.heap.size ≤ s_.2.2.1) ∧ (g328 ≠ s_.2.2.1) ∧ (s_.2.2.1 ≠ g328) ∧ (g329 ≠ s_.2.2.1) ∧ (s_.2.2.1 ≠ g329) ∧ (s_.2.2.2 ≠ s_.2.2.1) ∧ (s_.2.2.1 ≠ s_.2.2.2) ∧ (w.heap.size ≤ s_.2.2.2) ∧ (w.heap.size ≤ s_.2.2.2) ∧ (g328 ≠ s_.2.2.2) ∧ (s_.2.2.2 ≠ g328) ∧ (g329 ≠ s_.2.2.2) ∧ (s_.2.2.2 ≠ g329) ∧ (Below w.heap.size w w')) ?_ ?_
 rotate_left
 ·intro hJ1_3_4_5
  refine join_ (σ := Value × Value × Nat) 3 #[true, true, true, true, true, false, false, false] (fun s_ => [(17, .agg #[s_.1, .int .i64 t333]), (19, .agg #[s_.2.1, .int .i64 t337]), (5, .pointer (some ⟨s_.2.2, 0, none⟩))]) (fun s_ w' => (w'.cell? ⟨g328, 0, none⟩ = some (.slice A0_0 l0_0.length c0_0) ∧ w'.cell? ⟨g328, 1, none⟩ = some (.int .i64 a0_1) ∧ w'.cell? ⟨g329, 0, none⟩ = some (.slice A1_0 l1_0.length c1_0) ∧ w'.cell? ⟨g329, 1, none⟩ = some (.int .i64 a1_1)) ∧ (Kd.R (Kd.int .u8) 5 w' w.heap.size (fun k_ => some k_ ≠ (wideV s_.2.1).ownBlock) (wideV s_.1) (t330 ++ [119])) ∧ (Kd.R (Kd.int .u8) 5 w' w.heap.size (fun k_ => some k_ ≠ (wideV s_.1).ownBlock) (wideV s_.2.1) (t334 ++ [119])) ∧ (w'.heap[g328]? = some (.cells #[.slice A0_0 l0_0.length c0_0, .int .i64 a0_1] 24 (0, 0))) ∧ (w'.heap[g329]? = some (.cells #[.slice A1_0 l1_0.length c1_0, .int .i64 a1_1] 24 (0, 0))) ∧ (w'.heap[s_.2.2]? = some (.cells #[.slice none 0 0, .int .i64 0] 24 (0, 0))) ∧ (w.heap.size ≤ s_.2.2) ∧ (w.heap.size ≤ s_.2.2) ∧ (g328 ≠ s_.2.2) ∧ (s_.2.2 ≠ g328) ∧ (g329 ≠ s_.2.2) ∧ (s_.2.2 ≠ g329) ∧ (Below w.heap.size w w')) ?_ ?_
  rotate_left
  ·intro hJ1_3_4
   refine join_ (σ := Value × Value × Nat) 3 #[true, true, true, true, false, true, false, false] (fun s_ => [(17, .agg #[s_.1, .int .i64 t333]), (19, .agg #[s_.2.1, .int .i64 t337]), (6, .pointer (some ⟨s_.2.2, 0, none⟩))]) (fun s_ w' => (w'.cell? ⟨g328, 0, none⟩ = some (.slice A0_0 l0_0.length c0_0) ∧ w'.cell? ⟨g328, 1, none⟩ = some (.int .i64 a0_1) ∧ w'.cell? ⟨g329, 0, none⟩ = some (.slice A1_0 l1_0.length c1_0) ∧ w'.cell? ⟨g329, 1, none⟩ = some (.int .i64 a1_1)) ∧ (Kd.R (Kd.int .u8) 5 w' w.heap.size (fun k_ => some k_ ≠ (wideV s_.2.1).ownBlock) (wideV s_.1) (t330 ++ [119])) ∧ (Kd.R (Kd.int .u8) 5 w' w.heap.size (fun k_ => some k_ ≠ (wideV s_.1).ownBlock) (wideV s_.2.1) (t334 ++ [119])) ∧ (w'.heap[g328]? = some (.cells #[.slice A0_0 l0_0.length c0_0, .int .i64 a0_1] 24 (0, 0))) ∧ (w'.heap[g329]? = some (.cells #[.slice A1_0 l1_0.length c1_0, .int .i64 a1_1] 24 (0, 0))) ∧ (w'.heap[s_.2.2]? = some (.cells #[.slice none 0 0, .int .i64 0] 24 (0, 0))) ∧ (w.heap.size ≤ s_.2.2) ∧ (w.heap.size ≤ s_.2.2) ∧ (g328 ≠ s_.2.2) ∧ (s_.2.2 ≠ g328) ∧ (g329 ≠ s_.2.2) ∧ (s_.2.2 ≠ g329) ∧ (Below w.heap.size w w')) ?_ ?_
   rotate_left
   ·intro hJ1_3_5
    refine join_ (σ := Value × Nat × Nat) 3 #[true, true, true, false, true, true, false, false] (fun s_ => [(17, .agg #[s_.1, .int .i64 t333]), (5, .pointer (some ⟨s_.2.1, 0, none⟩)), (6, .pointer (some ⟨s_.2.2, 0, none⟩))]) (fun s_ w' => (w'.cell? ⟨g328, 0, none⟩ = some (.slice A0_0 l0_0.length c0_0) ∧ w'.cell? ⟨g328, 1, none⟩ = some (.int .i64 a0_1) ∧ w'.cell? ⟨g329, 0, none⟩ = some (.slice A1_0 l1_0.length c1_0) ∧ w'.cell? ⟨g329, 1, none⟩ = some (.int .i64 a1_1)) ∧ (Kd.R (Kd.int .u8) 5 w' w.heap.size (fun _ => True) (wideV s_.1) (t330 ++ [119])) ∧ (w'.heap[g328]? = some (.cells #[.slice A0_0 l0_0.length c0_0, .int .i64 a0_1] 24 (0, 0))) ∧ (w'.heap[g329]? = some (.cells #[.slice A1_0 l1_0.length c1_0, .int .i64 a1_1] 24 (0, 0))) ∧ (w'.heap[s_.2.1]? = some (.cells #[.slice none 0 0, .int .i64 0] 24 (0, 0))) ∧ (w'.heap[s_.2.2]? = some (.cells #[.slice none 0 0, .int .i64 0] 24 (0, 0))) ∧ (w.heap.size ≤ s_.2.1) ∧ (w.heap.size ≤ s_.2.1) ∧ (g328 ≠ s_.2.1) ∧ (s_.2.1 ≠ g328) ∧ (g329 ≠ s_.2.1) ∧ (s_.2.1 ≠ g329) ∧ (s_.2.2 ≠ s_.2.1) ∧ (s_.2.1 ≠ s_.2.2) ∧ (w.heap.size ≤ s_.2.2) ∧ (w.heap.size ≤ s_.2.2) ∧ (g328 ≠ s_.2.2) ∧ (s_.2.2 ≠ g328) ∧ (g329 ≠ s_.2.2) ∧ (s_.2.2 ≠ g329) ∧ (Below w.heap.size w w')) ?_ ?_
    rotate_left
    ·intro hJ1_4_5
     refine join_ (σ := Value × Value) 4 #[true, true, true, true, false, false, false, false] (fun s_ => [(17, .agg #[s_.1, .int .i64 t333]), (19, .agg #[s_.2, .int .i64 t337])]) (fun s_ w' => (w'.cell? ⟨g328, 0, none⟩ = some (.slice A0_0 l0_0.length c0_0) ∧ w'.cell? ⟨g328, 1, none⟩ = some (.int .i64 a0_1) ∧ w'.cell? ⟨g329, 0, none⟩ = some (.slice A1_0 l1_0.length c1_0) ∧ w'.cell? ⟨g329, 1, none⟩ = some (.int .i64 a1_1)) ∧ (Kd.R (Kd.int .u8) 5 w' w.heap.size (fun k_ => some k_ ≠ (wideV s_.2).ownBlock) (wideV s_.1) (t330 ++ [119])) ∧ (Kd.R (Kd.int .u8) 5 w' w.heap.size (fun k_ => some k_ ≠ (wideV s_.1).ownBlock) (wideV s_.2) (t334 ++ [119])) ∧ (w'.heap[g328]? = some (.cells #[.slice A0_0 l0_0.length c0_0, .int .i64 a0_1] 24 (0, 0))) ∧ (w'.heap[g329]? = some (.cells #[.slice A1_0 l1_0.length c1_0, .int .i64 a1_1] 24 (0, 0))) ∧ (Below w.heap.size w w')) ?_ ?_
     rotate_left
     ·intro hJ1_3
      refine join_ (σ := Value × Nat) 4 #[true, true, true, false, true, false, false, false] (fun s_ => [(17, .agg #[s_.1, .int .i64 t333]), (5, .pointer (some ⟨s_.2, 0, none⟩))]) (fun s_ w' => (w'.cell? ⟨g328, 0, none⟩ = some (.slice A0_0 l0_0.length c0_0) ∧ w'.cell? ⟨g328, 1, none⟩ = some (.int .i64 a0_1) ∧ w'.cell? ⟨g329, 0, none⟩ = some (.slice A1_0 l1_0.length c1_0) ∧ w'.cell? ⟨g329, 1, none⟩ = some (.int .i64 a1_1)) ∧ (Kd.R (Kd.int .u8) 5 w' w.heap.size (fun _ => True) (wideV s_.1) (t330 ++ [119])) ∧ (w'.heap[g328]? = some (.cells #[.slice A0_0 l0_0.length c0_0, .int .i64 a0_1] 24 (0, 0))) ∧ (w'.heap[g329]? = some (.cells #[.slice A1_0 l1_0.length c1_0, .int .i64 a1_1] 24 (0, 0))) ∧ (w'.heap[s_.2]? = some (.cells #[.slice none 0 0, .int .i64 0] 24 (0, 0))) ∧ (w.heap.size ≤ s_.2) ∧ (w.heap.size ≤ s_.2) ∧ (g328 ≠ s_.2) ∧ (s_.2 ≠ g328) ∧ (g329 ≠ s_.2) ∧ (s_.2 ≠ g329) ∧ (Below w.heap.size w w')) ?_ ?_
      rotate_left
      ·intro hJ1_4
       refine join_ (σ := Value × Nat) 4 #[true, true, true, false, false, true, false, false] (fun s_ => [(17, .agg #[s_.1, .int .i64 t333]), (6, .pointer (some ⟨s_.2, 0, none⟩))]) (fun s_ w' => (w'.cell? ⟨g328, 0, none⟩ = some (.slice A0_0 l0_0.length c0_0) ∧ w'.cell? ⟨g328, 1, none⟩ = some (.int .i64 a0_1) ∧ w'.cell? ⟨g329, 0, none⟩ = some (.slice A1_0 l1_0.length c1_0) ∧ w'.cell? ⟨g329, 1, none⟩ = some (.int .i64 a1_1)) ∧ (Kd.R (Kd.int .u8) 5 w' w.heap.size (fun _ => True) (wideV s_.1) (t330 ++ [119])) ∧ (w'.heap[g328]? = some (.cells #[.slice A0_0 l0_0.length c0_0, .int .i64 a0_1] 24 (0, 0))) ∧ (w'.heap[g329]? = some (.cells #[.slice A1_0 l1_0.length c1_0, .int .i64 a1_1] 24 (0, 0))) ∧ (w'.heap[s_.2]? = some (.cells #[.slice none 0 0, .int .i64 0] 24 (0, 0))) ∧ (w.heap.size ≤ s_.2) ∧ (w.heap.size ≤ s_.2) ∧ (g328 ≠ s_.2) ∧ (s_.2 ≠ g328) ∧ (g329 ≠ s_.2) ∧ (s_.2 ≠ g329) ∧ (Below w.heap.size w w')) ?_ ?_
       rotate_left
       ·intro hJ1_5
        refine join_ (σ := Nat × Nat) 4 #[true, false, true, false, true, true, false, false] (fun s_ => [(5, .pointer (some ⟨s_.1, 0, none⟩)), (6, .pointer (some ⟨s_.2, 0, none⟩))]) (fun s_ w' => (w'.cell? ⟨g328, 0, none⟩ = some (.slice A0_0 l0_0.length c0_0) ∧ w'.cell? ⟨g328, 1, none⟩ = some (.int .i64 a0_1) ∧ w'.cell? ⟨g329, 0, none⟩ = some (.slice A1_0 l1_0.length c1_0) ∧ w'.cell? ⟨g329, 1, none⟩ = some (.int .i64 a1_1)) ∧ (w'.heap[g328]? = some (.cells #[.slice A0_0 l0_0.length c0_0, .int .i64 a0_1] 24 (0, 0))) ∧ (w'.heap[g329]? = some (.cells #[.slice A1_0 l1_0.length c1_0, .int .i64 a1_1] 24 (0, 0))) ∧ (w'.heap[s_.1]? = some (.cells #[.slice none 0 0, .int .i64 0] 24 (0, 0))) ∧ (w'.heap[s_.2]? = some (.cells #[.slice none 0 0, .int .i64 0] 24 (0, 0))) ∧ (w.heap.size ≤ s_.1) ∧ (w.heap.size ≤ s_.1) ∧ (g328 ≠ s_.1) ∧ (s_.1 ≠ g328) ∧ (g329 ≠ s_.1) ∧ (s_.1 ≠ g329) ∧ (s_.2 ≠ s_.1) ∧ (s_.1 ≠ s_.2) ∧ (w.heap.size ≤ s_.2) ∧ (w.heap.size ≤ s_.2) ∧ (g328 ≠ s_.2) ∧ (s_.2 ≠ g328) ∧ (g329 ≠ s_.2) ∧ (s_.2 ≠ g329) ∧ (Below w.heap.size w w')) ?_ ?_
        rotate_left
        ·intro hJ4_5
         refine join_ (σ := Value) 5 #[true, true, true, false, false, false, false, false] (fun s_ => [(17, .agg #[s_, .int .i64 t333])]) (fun s_ w' => (w'.cell? ⟨g328, 0, none⟩ = some (.slice A0_0 l0_0.length c0_0) ∧ w'.cell? ⟨g328, 1, none⟩ = some (.int .i64 a0_1) ∧ w'.cell? ⟨g329, 0, none⟩ = some (.slice A1_0 l1_0.length c1_0) ∧ w'.cell? ⟨g329, 1, none⟩ = some (.int .i64 a1_1)) ∧ (Kd.R (Kd.int .u8) 5 w' w.heap.size (fun _ => True) (wideV s_) (t330 ++ [119])) ∧ (w'.heap[g328]? = some (.cells #[.slice A0_0 l0_0.length c0_0, .int .i64 a0_1] 24 (0, 0))) ∧ (w'.heap[g329]? = some (.cells #[.slice A1_0 l1_0.length c1_0, .int .i64 a1_1] 24 (0, 0))) ∧ (Below w.heap.size w w')) ?_ ?_
         rotate_left
         ·intro hJ1
          refine join_ (σ := Nat) 5 #[true, false, true, false, true, false, false, false] (fun s_ => [(5, .pointer (some ⟨s_, 0, none⟩))]) (fun s_ w' => (w'.cell? ⟨g328, 0, none⟩ = some (.slice A0_0 l0_0.length c0_0) ∧ w'.cell? ⟨g328, 1, none⟩ = some (.int .i64 a0_1) ∧ w'.cell? ⟨g329, 0, none⟩ = some (.slice A1_0 l1_0.length c1_0) ∧ w'.cell? ⟨g329, 1, none⟩ = some (.int .i64 a1_1)) ∧ (w'.heap[g328]? = some (.cells #[.slice A0_0 l0_0.length c0_0, .int .i64 a0_1] 24 (0, 0))) ∧ (w'.heap[g329]? = some (.cells #[.slice A1_0 l1_0.length c1_0, .int .i64 a1_1] 24 (0, 0))) ∧ (w'.heap[s_]? = some (.cells #[.slice none 0 0, .int .i64 0] 24 (0, 0))) ∧ (w.heap.size ≤ s_) ∧ (w.heap.size ≤ s_) ∧ (g328 ≠ s_) ∧ (s_ ≠ g328) ∧ (g329 ≠ s_) ∧ (s_ ≠ g329) ∧ (Below w.heap.size w w')) ?_ ?_
          rotate_left
          ·intro hJ4
           refine join_ (σ := Nat) 5 #[true, false, true, false, false, true, false, false] (fun s_ => [(6, .pointer (some ⟨s_, 0, none⟩))]) (fun s_ w' => (w'.cell? ⟨g328, 0, none⟩ = some (.slice A0_0 l0_0.length c0_0) ∧ w'.cell? ⟨g328, 1, none⟩ = some (.int .i64 a0_1) ∧ w'.cell? ⟨g329, 0, none⟩ = some (.slice A1_0 l1_0.length c1_0) ∧ w'.cell? ⟨g329, 1, none⟩ = some (.int .i64 a1_1)) ∧ (w'.heap[g328]? = some (.cells #[.slice A0_0 l0_0.length c0_0, .int .i64 a0_1] 24 (0, 0))) ∧ (w'.heap[g329]? = some (.cells #[.slice A1_0 l1_0.length c1_0, .int .i64 a1_1] 24 (0, 0))) ∧ (w'.heap[s_]? = some (.cells #[.slice none 0 0, .int .i64 0] 24 (0, 0))) ∧ (w.heap.size ≤ s_) ∧ (w.heap.size ≤ s_) ∧ (g328 ≠ s_) ∧ (s_ ≠ g328) ∧ (g329 ≠ s_) ∧ (s_ ≠ g329) ∧ (Below w.heap.size w w')) ?_ ?_
           rotate_left
           ·intro hJ5
            refine three_ (i := 1) (j := 4) (k := 5) (Ni := some 17) (Nj := some 5) (Nk := some 6) #[true, true, true, false, false, false, false, false] #[true, false, true, false, true, false, false, false] #[true, false, true, false, false, true, false, false] rfl rfl rfl rfl rfl rfl (three_of HT_.out (by kernel_rfl)) (by decide) (by decide) (by decide) (fun K hK => ?_) (fun K hK => ?_) (fun K hK => ?_)
            ·skip
             refine goes_ Try.func11 (by kernel_rfl) rfl #[.agg #[.slice A0_0 l0_0.length c0_0, .int .i64 a0_1]] (by rfl) rfl rfl (by (try simp only [List.map_toArray, List.map_cons, List.map_nil]);first | done | rfl) ?_
             with_reducible refine (own_wideV _ _ l0_0 a0_1 t330 t333 _ ?side1 ?side2 A3.out).mono ?_
             (case side1 => repeat (first | exact (Kd.C_below HR0_0.out HB.out) | (with_reducible refine Kd.C_alloc ?_ _) | (with_reducible refine Kd.C_drewN ?_ _) | (with_reducible refine Kd.C_drew ?_)))
             (case side2 => exact HC0_0.out)
             rintro e w13 ⟨v331, rfl, ho0, hb⟩
             refine ⟨_, rfl, ?_⟩
             have n0_ := Aside0.mk (Kd.R_lower ho0 (below_size HB.out))
             have n1_ := Aside0.mk (blk_below (g := g328) (o := .cells #[.slice A0_0 l0_0.length c0_0, .int .i64 a0_1] 24 (0, 0)) B328.out hb)
             have n2_ := Aside0.mk (blk_below (g := g329) (o := .cells #[.slice A1_0 l1_0.length c1_0, .int .i64 a1_1] 24 (0, 0)) B329.out hb)
             have n3_ := Aside0.mk (below_step HB.out hb)
             clear B328
             clear B329
             clear HB
             have HO332 := n0_
             have B328 := n1_
             have B329 := n2_
             have HB := n3_
             clear n0_ n1_ n2_ n3_
             (try clear hb)
             (try clear ho0)
             refine hK.out _ _ ⟨(blk_cell B328.out 0).trans rfl, (blk_cell B328.out 1).trans rfl, (blk_cell B329.out 0).trans rfl, (blk_cell B329.out 1).trans rfl⟩ (fun hHeld => ?_)
             clear hK K
             refine norm_ (a' := ?_) ?_ ?_
             rotate_left
             ·show Act.put _ (some 17) _ = _
              simp only [Act.put, List.setIfInBounds_toArray, List.set_cons_zero, List.set_cons_succ]
              rfl
             exact norm_ (by first | (simp only [putAll, Act.put, List.setIfInBounds_toArray, List.set_cons_zero, List.set_cons_succ];done) | (simp only [putAll, Act.put, List.setIfInBounds_toArray, List.set_cons_zero, List.set_cons_succ];rfl)) (hJ1 (v331) _ ⟨hHeld, HO332.out, B328.out, B329.out, HB.out⟩)
            ·skip
             refine box_step ?hg (N := 5) ?hd (cs := #[.slice none 0 0, .int .i64 0]) (t := 24) ?hr ?_;(case hd => rfl);(case hg => rfl);(case hr => first | (go_simp;done) | (go_simp;rfl))
             intro g338 hg w13 hbox hb
             have n0_ := Aside0.mk (blk_below (g := g328) (o := .cells #[.slice A0_0 l0_0.length c0_0, .int .i64 a0_1] 24 (0, 0)) B328.out hb)
             have n1_ := Aside0.mk (blk_below (g := g329) (o := .cells #[.slice A1_0 l1_0.length c1_0, .int .i64 a1_1] 24 (0, 0)) B329.out hb)
             have n2_ := Aside0.mk (below_step HB.out hb)
             have n3_ := Aside0.mk (hbox)
             have n4_ := Aside0.mk ((by rw [hg];exact (below_size HB.out) : w.heap.size ≤ g338))
             have n5_ := Aside0.mk ((by rw [hg];exact (below_size HB.out) : w.heap.size ≤ g338))
             have n6_ := Aside0.mk ((by rw [hg];exact Nat.ne_of_lt (blk_lt (g := g328) (o := .cells #[.slice A0_0 l0_0.length c0_0, .int .i64 a0_1] 24 (0, 0)) B328.out) : g328 ≠ g338))
             have n7_ := Aside0.mk ((by rw [hg];exact Nat.ne_of_gt (blk_lt (g := g328) (o := .cells #[.slice A0_0 l0_0.length c0_0, .int .i64 a0_1] 24 (0, 0)) B328.out) : g338 ≠ g328))
             have n8_ := Aside0.mk ((by rw [hg];exact Nat.ne_of_lt (blk_lt (g := g329) (o := .cells #[.slice A1_0 l1_0.length c1_0, .int .i64 a1_1] 24 (0, 0)) B329.out) : g329 ≠ g338))
             have n9_ := Aside0.mk ((by rw [hg];exact Nat.ne_of_gt (blk_lt (g := g329) (o := .cells #[.slice A1_0 l1_0.length c1_0, .int .i64 a1_1] 24 (0, 0)) B329.out) : g338 ≠ g329))
             clear B328
             clear B329
             clear HB
             have B328 := n0_
             have B329 := n1_
             have HB := n2_
             have B338 := n3_
             have GW338 := n4_
             have GE338 := n5_
             have NB328_338 := n6_
             have NB338_328 := n7_
             have NB329_338 := n8_
             have NB338_329 := n9_
             clear n0_ n1_ n2_ n3_ n4_ n5_ n6_ n7_ n8_ n9_
             clear hb hbox hg
             refine hK.out _ _ ⟨(blk_cell B328.out 0).trans rfl, (blk_cell B328.out 1).trans rfl, (blk_cell B329.out 0).trans rfl, (blk_cell B329.out 1).trans rfl⟩ (fun hHeld => ?_)
             clear hK K
             refine norm_ (a' := ?_) ?_ ?_
             rotate_left
             ·show Act.put _ (some 5) _ = _
              simp only [Act.put, List.setIfInBounds_toArray, List.set_cons_zero, List.set_cons_succ]
              rfl
             exact norm_ (by first | (simp only [putAll, Act.put, List.setIfInBounds_toArray, List.set_cons_zero, List.set_cons_succ];done) | (simp only [putAll, Act.put, List.setIfInBounds_toArray, List.set_cons_zero, List.set_cons_succ];rfl)) (hJ4 (g338) _ ⟨hHeld, B328.out, B329.out, B338.out, GW338.out, GE338.out, NB328_338.out, NB338_328.out, NB329_338.out, NB338_329.out, HB.out⟩)
            ·skip
             refine box_step ?hg (N := 6) ?hd (cs := #[.slice none 0 0, .int .i64 0]) (t := 24) ?hr ?_;(case hd => rfl);(case hg => rfl);(case hr => first | (go_simp;done) | (go_simp;rfl))
             intro g339 hg w13 hbox hb
             have n0_ := Aside0.mk (blk_below (g := g328) (o := .cells #[.slice A0_0 l0_0.length c0_0, .int .i64 a0_1] 24 (0, 0)) B328.out hb)
             have n1_ := Aside0.mk (blk_below (g := g329) (o := .cells #[.slice A1_0 l1_0.length c1_0, .int .i64 a1_1] 24 (0, 0)) B329.out hb)
             have n2_ := Aside0.mk (below_step HB.out hb)
             have n3_ := Aside0.mk (hbox)
             have n4_ := Aside0.mk ((by rw [hg];exact (below_size HB.out) : w.heap.size ≤ g339))
             have n5_ := Aside0.mk ((by rw [hg];exact (below_size HB.out) : w.heap.size ≤ g339))
             have n6_ := Aside0.mk ((by rw [hg];exact Nat.ne_of_lt (blk_lt (g := g328) (o := .cells #[.slice A0_0 l0_0.length c0_0, .int .i64 a0_1] 24 (0, 0)) B328.out) : g328 ≠ g339))
             have n7_ := Aside0.mk ((by rw [hg];exact Nat.ne_of_gt (blk_lt (g := g328) (o := .cells #[.slice A0_0 l0_0.length c0_0, .int .i64 a0_1] 24 (0, 0)) B328.out) : g339 ≠ g328))
             have n8_ := Aside0.mk ((by rw [hg];exact Nat.ne_of_lt (blk_lt (g := g329) (o := .cells #[.slice A1_0 l1_0.length c1_0, .int .i64 a1_1] 24 (0, 0)) B329.out) : g329 ≠ g339))
             have n9_ := Aside0.mk ((by rw [hg];exact Nat.ne_of_gt (blk_lt (g := g329) (o := .cells #[.slice A1_0 l1_0.length c1_0, .int .i64 a1_1] 24 (0, 0)) B329.out) : g339 ≠ g329))
             clear B328
             clear B329
             clear HB
             have B328 := n0_
             have B329 := n1_
             have HB := n2_
             have B339 := n3_
             have GW339 := n4_
             have GE339 := n5_
             have NB328_339 := n6_
             have NB339_328 := n7_
             have NB329_339 := n8_
             have NB339_329 := n9_
             clear n0_ n1_ n2_ n3_ n4_ n5_ n6_ n7_ n8_ n9_
             clear hb hbox hg
             refine hK.out _ _ ⟨(blk_cell B328.out 0).trans rfl, (blk_cell B328.out 1).trans rfl, (blk_cell B329.out 0).trans rfl, (blk_cell B329.out 1).trans rfl⟩ (fun hHeld => ?_)
             clear hK K
             refine norm_ (a' := ?_) ?_ ?_
             rotate_left
             ·show Act.put _ (some 6) _ = _
              simp only [Act.put, List.setIfInBounds_toArray, List.set_cons_zero, List.set_cons_succ]
              rfl
             exact norm_ (by first | (simp only [putAll, Act.put, List.setIfInBounds_toArray, List.set_cons_zero, List.set_cons_succ];done) | (simp only [putAll, Act.put, List.setIfInBounds_toArray, List.set_cons_zero, List.set_cons_succ];rfl)) (hJ5 (g339) _ ⟨hHeld, B328.out, B329.out, B339.out, GW339.out, GE339.out, NB328_339.out, NB339_328.out, NB329_339.out, NB339_329.out, HB.out⟩)
           ·skip
            rintro g339 w14 ⟨hS_, h0_, h1_, h2_, h3_, h4_, h5_, h6_, h7_, h8_, h9_⟩
            have n0_ : Aside0 (w14.heap[g328]? = some (.cells #[.slice A0_0 l0_0.length c0_0, .int .i64 a0_1] 24 (0, 0))) := ⟨h0_⟩
            have n1_ : Aside0 (w14.heap[g329]? = some (.cells #[.slice A1_0 l1_0.length c1_0, .int .i64 a1_1] 24 (0, 0))) := ⟨h1_⟩
            have n2_ : Aside0 (w14.heap[g339]? = some (.cells #[.slice none 0 0, .int .i64 0] 24 (0, 0))) := ⟨h2_⟩
            have n3_ : Aside0 (w.heap.size ≤ g339) := ⟨h3_⟩
            have n4_ : Aside0 (w.heap.size ≤ g339) := ⟨h4_⟩
            have n5_ : Aside0 (g328 ≠ g339) := ⟨h5_⟩
            have n6_ : Aside0 (g339 ≠ g328) := ⟨h6_⟩
            have n7_ : Aside0 (g329 ≠ g339) := ⟨h7_⟩
            have n8_ : Aside0 (g339 ≠ g329) := ⟨h8_⟩
            have n9_ : Aside0 (Below w.heap.size w w14) := ⟨h9_⟩
            clear B328
            clear B329
            clear HB
            clear h0_ h1_ h2_ h3_ h4_ h5_ h6_ h7_ h8_ h9_
            have B328 := n0_
            have B329 := n1_
            have B339 := n2_
            have GW339 := n3_
            have GE339 := n4_
            have NB328_339 := n5_
            have NB339_328 := n6_
            have NB329_339 := n7_
            have NB339_329 := n8_
            have HB := n9_
            clear n0_ n1_ n2_ n3_ n4_ n5_ n6_ n7_ n8_ n9_
            have hHeld : w14.cell? ⟨g328, 0, none⟩ = some (.slice A0_0 l0_0.length c0_0) ∧ w14.cell? ⟨g328, 1, none⟩ = some (.int .i64 a0_1) ∧ w14.cell? ⟨g329, 0, none⟩ = some (.slice A1_0 l1_0.length c1_0) ∧ w14.cell? ⟨g329, 1, none⟩ = some (.int .i64 a1_1) := hS_
            refine norm_ (a' := ?_) ?_ ?_
            rotate_left
            ·simp only [putAll, Act.put, List.setIfInBounds_toArray, List.set_cons_zero, List.set_cons_succ]
             rfl
            refine two_ (i := 1) (j := 4) (Ni := some 17) (Nj := some 5) #[true, true, true, false, false, true, false, false] #[true, false, true, false, true, true, false, false] rfl rfl rfl rfl (two_of HT_.out (by kernel_rfl)) (by decide) (by decide) (fun K hK => ?_) (fun K hK => ?_)
            ·skip
             refine goes_ Try.func11 (by kernel_rfl) rfl #[.agg #[.slice A0_0 l0_0.length c0_0, .int .i64 a0_1]] (by rfl) rfl rfl (by (try simp only [List.map_toArray, List.map_cons, List.map_nil]);first | done | rfl) ?_
             with_reducible refine (own_wideV _ _ l0_0 a0_1 t330 t333 _ ?side1 ?side2 A3.out).mono ?_
             (case side1 => repeat (first | exact (Kd.C_below HR0_0.out HB.out) | (with_reducible refine Kd.C_alloc ?_ _) | (with_reducible refine Kd.C_drewN ?_ _) | (with_reducible refine Kd.C_drew ?_)))
             (case side2 => exact HC0_0.out)
             rintro e w15 ⟨v331, rfl, ho0, hb⟩
             refine ⟨_, rfl, ?_⟩
             have n0_ := Aside0.mk (Kd.R_lower ho0 (below_size HB.out))
             have n1_ := Aside0.mk (blk_below (g := g328) (o := .cells #[.slice A0_0 l0_0.length c0_0, .int .i64 a0_1] 24 (0, 0)) B328.out hb)
             have n2_ := Aside0.mk (blk_below (g := g329) (o := .cells #[.slice A1_0 l1_0.length c1_0, .int .i64 a1_1] 24 (0, 0)) B329.out hb)
             have n3_ := Aside0.mk (blk_below (g := g339) (o := .cells #[.slice none 0 0, .int .i64 0] 24 (0, 0)) B339.out hb)
             have n4_ := Aside0.mk (below_step HB.out hb)
             clear B328
             clear B329
             clear B339
             clear HB
             have HO332 := n0_
             have B328 := n1_
             have B329 := n2_
             have B339 := n3_
             have HB := n4_
             clear n0_ n1_ n2_ n3_ n4_
             (try clear hb)
             (try clear ho0)
             refine hK.out _ _ ⟨(blk_cell B328.out 0).trans rfl, (blk_cell B328.out 1).trans rfl, (blk_cell B329.out 0).trans rfl, (blk_cell B329.out 1).trans rfl⟩ (fun hHeld => ?_)
             clear hK K
             refine norm_ (a' := ?_) ?_ ?_
             rotate_left
             ·show Act.put _ (some 17) _ = _
              simp only [Act.put, List.setIfInBounds_toArray, List.set_cons_zero, List.set_cons_succ]
              rfl
             exact norm_ (by first | (simp only [putAll, Act.put, List.setIfInBounds_toArray, List.set_cons_zero, List.set_cons_succ];done) | (simp only [putAll, Act.put, List.setIfInBounds_toArray, List.set_cons_zero, List.set_cons_succ];rfl)) (hJ1_5 (v331, g339) _ ⟨hHeld, HO332.out, B328.out, B329.out, B339.out, GW339.out, GE339.out, NB328_339.out, NB339_328.out, NB329_339.out, NB339_329.out, HB.out⟩)
            ·skip
             refine box_step ?hg (N := 5) ?hd (cs := #[.slice none 0 0, .int .i64 0]) (t := 24) ?hr ?_;(case hd => rfl);(case hg => rfl);(case hr => first | (go_simp;done) | (go_simp;rfl))
             intro g338 hg w15 hbox hb
             have n0_ := Aside0.mk (blk_below (g := g328) (o := .cells #[.slice A0_0 l0_0.length c0_0, .int .i64 a0_1] 24 (0, 0)) B328.out hb)
             have n1_ := Aside0.mk (blk_below (g := g329) (o := .cells #[.slice A1_0 l1_0.length c1_0, .int .i64 a1_1] 24 (0, 0)) B329.out hb)
             have n2_ := Aside0.mk (blk_below (g := g339) (o := .cells #[.slice none 0 0, .int .i64 0] 24 (0, 0)) B339.out hb)
             have n3_ := Aside0.mk (below_step HB.out hb)
             have n4_ := Aside0.mk (hbox)
             have n5_ := Aside0.mk ((by rw [hg];exact (below_size HB.out) : w.heap.size ≤ g338))
             have n6_ := Aside0.mk ((by rw [hg];exact (below_size HB.out) : w.heap.size ≤ g338))
             have n7_ := Aside0.mk ((by rw [hg];exact Nat.ne_of_lt (blk_lt (g := g328) (o := .cells #[.slice A0_0 l0_0.length c0_0, .int .i64 a0_1] 24 (0, 0)) B328.out) : g328 ≠ g338))
             have n8_ := Aside0.mk ((by rw [hg];exact Nat.ne_of_gt (blk_lt (g := g328) (o := .cells #[.slice A0_0 l0_0.length c0_0, .int .i64 a0_1] 24 (0, 0)) B328.out) : g338 ≠ g328))
             have n9_ := Aside0.mk ((by rw [hg];exact Nat.ne_of_lt (blk_lt (g := g329) (o := .cells #[.slice A1_0 l1_0.length c1_0, .int .i64 a1_1] 24 (0, 0)) B329.out) : g329 ≠ g338))
             have n10_ := Aside0.mk ((by rw [hg];exact Nat.ne_of_gt (blk_lt (g := g329) (o := .cells #[.slice A1_0 l1_0.length c1_0, .int .i64 a1_1] 24 (0, 0)) B329.out) : g338 ≠ g329))
             have n11_ := Aside0.mk ((by rw [hg];exact Nat.ne_of_lt (blk_lt (g := g339) (o := .cells #[.slice none 0 0, .int .i64 0] 24 (0, 0)) B339.out) : g339 ≠ g338))
             have n12_ := Aside0.mk ((by rw [hg];exact Nat.ne_of_gt (blk_lt (g := g339) (o := .cells #[.slice none 0 0, .int .i64 0] 24 (0, 0)) B339.out) : g338 ≠ g339))
             clear B328
             clear B329
             clear B339
             clear HB
             have B328 := n0_
             have B329 := n1_
             have B339 := n2_
             have HB := n3_
             have B338 := n4_
             have GW338 := n5_
             have GE338 := n6_
             have NB328_338 := n7_
             have NB338_328 := n8_
             have NB329_338 := n9_
             have NB338_329 := n10_
             have NB339_338 := n11_
             have NB338_339 := n12_
             clear n0_ n1_ n2_ n3_ n4_ n5_ n6_ n7_ n8_ n9_ n10_ n11_ n12_
             clear hb hbox hg
             refine hK.out _ _ ⟨(blk_cell B328.out 0).trans rfl, (blk_cell B328.out 1).trans rfl, (blk_cell B329.out 0).trans rfl, (blk_cell B329.out 1).trans rfl⟩ (fun hHeld => ?_)
             clear hK K
             refine norm_ (a' := ?_) ?_ ?_
             rotate_left
             ·show Act.put _ (some 5) _ = _
              simp only [Act.put, List.setIfInBounds_toArray, List.set_cons_zero, List.set_cons_succ]
              rfl
             exact norm_ (by first | (simp only [putAll, Act.put, List.setIfInBounds_toArray, List.set_cons_zero, List.set_cons_succ];done) | (simp only [putAll, Act.put, List.setIfInBounds_toArray, List.set_cons_zero, List.set_cons_succ];rfl)) (hJ4_5 (g338, g339) _ ⟨hHeld, B328.out, B329.out, B338.out, B339.out, GW338.out, GE338.out, NB328_338.out, NB338_328.out, NB329_338.out, NB338_329.out, NB339_338.out, NB338_339.out, GW339.out, GE339.out, NB328_339.out, NB339_328.out, NB329_339.out, NB339_329.out, HB.out⟩)
          ·skip
           rintro g338 w14 ⟨hS_, h0_, h1_, h2_, h3_, h4_, h5_, h6_, h7_, h8_, h9_⟩
           have n0_ : Aside0 (w14.heap[g328]? = some (.cells #[.slice A0_0 l0_0.length c0_0, .int .i64 a0_1] 24 (0, 0))) := ⟨h0_⟩
           have n1_ : Aside0 (w14.heap[g329]? = some (.cells #[.slice A1_0 l1_0.length c1_0, .int .i64 a1_1] 24 (0, 0))) := ⟨h1_⟩
           have n2_ : Aside0 (w14.heap[g338]? = some (.cells #[.slice none 0 0, .int .i64 0] 24 (0, 0))) := ⟨h2_⟩
           have n3_ : Aside0 (w.heap.size ≤ g338) := ⟨h3_⟩
           have n4_ : Aside0 (w.heap.size ≤ g338) := ⟨h4_⟩
           have n5_ : Aside0 (g328 ≠ g338) := ⟨h5_⟩
           have n6_ : Aside0 (g338 ≠ g328) := ⟨h6_⟩
           have n7_ : Aside0 (g329 ≠ g338) := ⟨h7_⟩
           have n8_ : Aside0 (g338 ≠ g329) := ⟨h8_⟩
           have n9_ : Aside0 (Below w.heap.size w w14) := ⟨h9_⟩
           clear B328
           clear B329
           clear HB
           clear h0_ h1_ h2_ h3_ h4_ h5_ h6_ h7_ h8_ h9_
           have B328 := n0_
           have B329 := n1_
           have B338 := n2_
           have GW338 := n3_
           have GE338 := n4_
           have NB328_338 := n5_
           have NB338_328 := n6_
           have NB329_338 := n7_
           have NB338_329 := n8_
           have HB := n9_
           clear n0_ n1_ n2_ n3_ n4_ n5_ n6_ n7_ n8_ n9_
           have hHeld : w14.cell? ⟨g328, 0, none⟩ = some (.slice A0_0 l0_0.length c0_0) ∧ w14.cell? ⟨g328, 1, none⟩ = some (.int .i64 a0_1) ∧ w14.cell? ⟨g329, 0, none⟩ = some (.slice A1_0 l1_0.length c1_0) ∧ w14.cell? ⟨g329, 1, none⟩ = some (.int .i64 a1_1) := hS_
           refine norm_ (a' := ?_) ?_ ?_
           rotate_left
           ·simp only [putAll, Act.put, List.setIfInBounds_toArray, List.set_cons_zero, List.set_cons_succ]
            rfl
           refine two_ (i := 1) (j := 5) (Ni := some 17) (Nj := some 6) #[true, true, true, false, true, false, false, false] #[true, false, true, false, true, true, false, false] rfl rfl rfl rfl (two_of HT_.out (by kernel_rfl)) (by decide) (by decide) (fun K hK => ?_) (fun K hK => ?_)
           ·skip
            refine goes_ Try.func11 (by kernel_rfl) rfl #[.agg #[.slice A0_0 l0_0.length c0_0, .int .i64 a0_1]] (by rfl) rfl rfl (by (try simp only [List.map_toArray, List.map_cons, List.map_nil]);first | done | rfl) ?_
            with_reducible refine (own_wideV _ _ l0_0 a0_1 t330 t333 _ ?side1 ?side2 A3.out).mono ?_
            (case side1 => repeat (first | exact (Kd.C_below HR0_0.out HB.out) | (with_reducible refine Kd.C_alloc ?_ _) | (with_reducible refine Kd.C_drewN ?_ _) | (with_reducible refine Kd.C_drew ?_)))
            (case side2 => exact HC0_0.out)
            rintro e w15 ⟨v331, rfl, ho0, hb⟩
            refine ⟨_, rfl, ?_⟩
            have n0_ := Aside0.mk (Kd.R_lower ho0 (below_size HB.out))
            have n1_ := Aside0.mk (blk_below (g := g328) (o := .cells #[.slice A0_0 l0_0.length c0_0, .int .i64 a0_1] 24 (0, 0)) B328.out hb)
            have n2_ := Aside0.mk (blk_below (g := g329) (o := .cells #[.slice A1_0 l1_0.length c1_0, .int .i64 a1_1] 24 (0, 0)) B329.out hb)
            have n3_ := Aside0.mk (blk_below (g := g338) (o := .cells #[.slice none 0 0, .int .i64 0] 24 (0, 0)) B338.out hb)
            have n4_ := Aside0.mk (below_step HB.out hb)
            clear B328
            clear B329
            clear B338
            clear HB
            have HO332 := n0_
            have B328 := n1_
            have B329 := n2_
            have B338 := n3_
            have HB := n4_
            clear n0_ n1_ n2_ n3_ n4_
            (try clear hb)
            (try clear ho0)
            refine hK.out _ _ ⟨(blk_cell B328.out 0).trans rfl, (blk_cell B328.out 1).trans rfl, (blk_cell B329.out 0).trans rfl, (blk_cell B329.out 1).trans rfl⟩ (fun hHeld => ?_)
            clear hK K
            refine norm_ (a' := ?_) ?_ ?_
            rotate_left
            ·show Act.put _ (some 17) _ = _
             simp only [Act.put, List.setIfInBounds_toArray, List.set_cons_zero, List.set_cons_succ]
             rfl
            exact norm_ (by first | (simp only [putAll, Act.put, List.setIfInBounds_toArray, List.set_cons_zero, List.set_cons_succ];done) | (simp only [putAll, Act.put, List.setIfInBounds_toArray, List.set_cons_zero, List.set_cons_succ];rfl)) (hJ1_4 (v331, g338) _ ⟨hHeld, HO332.out, B328.out, B329.out, B338.out, GW338.out, GE338.out, NB328_338.out, NB338_328.out, NB329_338.out, NB338_329.out, HB.out⟩)
           ·skip
            refine box_step ?hg (N := 6) ?hd (cs := #[.slice none 0 0, .int .i64 0]) (t := 24) ?hr ?_;(case hd => rfl);(case hg => rfl);(case hr => first | (go_simp;done) | (go_simp;rfl))
            intro g339 hg w15 hbox hb
            have n0_ := Aside0.mk (blk_below (g := g328) (o := .cells #[.slice A0_0 l0_0.length c0_0, .int .i64 a0_1] 24 (0, 0)) B328.out hb)
            have n1_ := Aside0.mk (blk_below (g := g329) (o := .cells #[.slice A1_0 l1_0.length c1_0, .int .i64 a1_1] 24 (0, 0)) B329.out hb)
            have n2_ := Aside0.mk (blk_below (g := g338) (o := .cells #[.slice none 0 0, .int .i64 0] 24 (0, 0)) B338.out hb)
            have n3_ := Aside0.mk (below_step HB.out hb)
            have n4_ := Aside0.mk (hbox)
            have n5_ := Aside0.mk ((by rw [hg];exact (below_size HB.out) : w.heap.size ≤ g339))
            have n6_ := Aside0.mk ((by rw [hg];exact (below_size HB.out) : w.heap.size ≤ g339))
            have n7_ := Aside0.mk ((by rw [hg];exact Nat.ne_of_lt (blk_lt (g := g328) (o := .cells #[.slice A0_0 l0_0.length c0_0, .int .i64 a0_1] 24 (0, 0)) B328.out) : g328 ≠ g339))
            have n8_ := Aside0.mk ((by rw [hg];exact Nat.ne_of_gt (blk_lt (g := g328) (o := .cells #[.slice A0_0 l0_0.length c0_0, .int .i64 a0_1] 24 (0, 0)) B328.out) : g339 ≠ g328))
            have n9_ := Aside0.mk ((by rw [hg];exact Nat.ne_of_lt (blk_lt (g := g329) (o := .cells #[.slice A1_0 l1_0.length c1_0, .int .i64 a1_1] 24 (0, 0)) B329.out) : g329 ≠ g339))
            have n10_ := Aside0.mk ((by rw [hg];exact Nat.ne_of_gt (blk_lt (g := g329) (o := .cells #[.slice A1_0 l1_0.length c1_0, .int .i64 a1_1] 24 (0, 0)) B329.out) : g339 ≠ g329))
            have n11_ := Aside0.mk ((by rw [hg];exact Nat.ne_of_lt (blk_lt (g := g338) (o := .cells #[.slice none 0 0, .int .i64 0] 24 (0, 0)) B338.out) : g338 ≠ g339))
            have n12_ := Aside0.mk ((by rw [hg];exact Nat.ne_of_gt (blk_lt (g := g338) (o := .cells #[.slice none 0 0, .int .i64 0] 24 (0, 0)) B338.out) : g339 ≠ g338))
            clear B328
            clear B329
            clear B338
            clear HB
            have B328 := n0_
            have B329 := n1_
            have B338 := n2_
            have HB := n3_
            have B339 := n4_
            have GW339 := n5_
            have GE339 := n6_
            have NB328_339 := n7_
            have NB339_328 := n8_
            have NB329_339 := n9_
            have NB339_329 := n10_
            have NB338_339 := n11_
            have NB339_338 := n12_
            clear n0_ n1_ n2_ n3_ n4_ n5_ n6_ n7_ n8_ n9_ n10_ n11_ n12_
            clear hb hbox hg
            refine hK.out _ _ ⟨(blk_cell B328.out 0).trans rfl, (blk_cell B328.out 1).trans rfl, (blk_cell B329.out 0).trans rfl, (blk_cell B329.out 1).trans rfl⟩ (fun hHeld => ?_)
            clear hK K
            refine norm_ (a' := ?_) ?_ ?_
            rotate_left
            ·show Act.put _ (some 6) _ = _
             simp only [Act.put, List.setIfInBounds_toArray, List.set_cons_zero, List.set_cons_succ]
             rfl
            exact norm_ (by first | (simp only [putAll, Act.put, List.setIfInBounds_toArray, List.set_cons_zero, List.set_cons_succ];done) | (simp only [putAll, Act.put, List.setIfInBounds_toArray, List.set_cons_zero, List.set_cons_succ];rfl)) (hJ4_5 (g338, g339) _ ⟨hHeld, B328.out, B329.out, B338.out, B339.out, GW338.out, GE338.out, NB328_338.out, NB338_328.out, NB329_338.out, NB338_329.out, NB339_338.out, NB338_339.out, GW339.out, GE339.out, NB328_339.out, NB339_328.out, NB329_339.out, NB339_329.out, HB.out⟩)
         ·skip
          rintro v331 w14 ⟨hS_, h0_, h1_, h2_, h3_⟩
          have n0_ : Aside0 (Kd.R (Kd.int .u8) 5 w14 w.heap.size (fun _ => True) (wideV v331) (t330 ++ [119])) := ⟨h0_⟩
          have n1_ : Aside0 (w14.heap[g328]? = some (.cells #[.slice A0_0 l0_0.length c0_0, .int .i64 a0_1] 24 (0, 0))) := ⟨h1_⟩
          have n2_ : Aside0 (w14.heap[g329]? = some (.cells #[.slice A1_0 l1_0.length c1_0, .int .i64 a1_1] 24 (0, 0))) := ⟨h2_⟩
          have n3_ : Aside0 (Below w.heap.size w w14) := ⟨h3_⟩
          clear B328
          clear B329
          clear HB
          clear h0_ h1_ h2_ h3_
          have HO332 := n0_
          have B328 := n1_
          have B329 := n2_
          have HB := n3_
          clear n0_ n1_ n2_ n3_
          have hHeld : w14.cell? ⟨g328, 0, none⟩ = some (.slice A0_0 l0_0.length c0_0) ∧ w14.cell? ⟨g328, 1, none⟩ = some (.int .i64 a0_1) ∧ w14.cell? ⟨g329, 0, none⟩ = some (.slice A1_0 l1_0.length c1_0) ∧ w14.cell? ⟨g329, 1, none⟩ = some (.int .i64 a1_1) := hS_
          refine norm_ (a' := ?_) ?_ ?_
          rotate_left
          ·simp only [putAll, Act.put, List.setIfInBounds_toArray, List.set_cons_zero, List.set_cons_succ]
           rfl
          refine three_ (i := 3) (j := 4) (k := 5) (Ni := some 19) (Nj := some 5) (Nk := some 6) #[true, true, true, true, false, false, false, false] #[true, true, true, false, true, false, false, false] #[true, true, true, false, false, true, false, false] rfl rfl rfl rfl rfl rfl (three_of HT_.out (by kernel_rfl)) (by decide) (by decide) (by decide) (fun K hK => ?_) (fun K hK => ?_) (fun K hK => ?_)
          ·skip
           refine goes_ Try.func11 (by kernel_rfl) rfl #[.agg #[.slice A1_0 l1_0.length c1_0, .int .i64 a1_1]] (by rfl) rfl rfl (by (try simp only [List.map_toArray, List.map_cons, List.map_nil]);first | done | rfl) ?_
           with_reducible refine (own_wideV _ _ l1_0 a1_1 t334 t337 _ ?side1 ?side2 A4.out).mono ?_
           (case side1 => repeat (first | exact (Kd.C_below HR1_0.out HB.out) | (with_reducible refine Kd.C_alloc ?_ _) | (with_reducible refine Kd.C_drewN ?_ _) | (with_reducible refine Kd.C_drew ?_)))
           (case side2 => exact HC1_0.out)
           rintro e w15 ⟨v335, rfl, ho0, hb⟩
           refine ⟨_, rfl, ?_⟩
           have n0_ := Aside0.mk (Kd.R_elder' HO332.out (Kd.R_base ho0) hb)
           have n1_ := Aside0.mk (Kd.R_lower (Kd.R_new' ho0 (Kd.R_lt HO332.out)) (below_size HB.out))
           have n2_ := Aside0.mk (blk_below (g := g328) (o := .cells #[.slice A0_0 l0_0.length c0_0, .int .i64 a0_1] 24 (0, 0)) B328.out hb)
           have n3_ := Aside0.mk (blk_below (g := g329) (o := .cells #[.slice A1_0 l1_0.length c1_0, .int .i64 a1_1] 24 (0, 0)) B329.out hb)
           have n4_ := Aside0.mk (below_step HB.out hb)
           clear HO332
           clear B328
           clear B329
           clear HB
           have HO332 := n0_
           have HO336 := n1_
           have B328 := n2_
           have B329 := n3_
           have HB := n4_
           clear n0_ n1_ n2_ n3_ n4_
           (try clear hb)
           (try clear ho0)
           refine hK.out _ _ ⟨(blk_cell B328.out 0).trans rfl, (blk_cell B328.out 1).trans rfl, (blk_cell B329.out 0).trans rfl, (blk_cell B329.out 1).trans rfl⟩ (fun hHeld => ?_)
           clear hK K
           refine norm_ (a' := ?_) ?_ ?_
           rotate_left
           ·show Act.put _ (some 19) _ = _
            simp only [Act.put, List.setIfInBounds_toArray, List.set_cons_zero, List.set_cons_succ]
            rfl
           exact norm_ (by first | (simp only [putAll, Act.put, List.setIfInBounds_toArray, List.set_cons_zero, List.set_cons_succ];done) | (simp only [putAll, Act.put, List.setIfInBounds_toArray, List.set_cons_zero, List.set_cons_succ];rfl)) (hJ1_3 (v331, v335) _ ⟨hHeld, (by (with_reducible repeat (first | apply Kd.R_alloc | apply Kd.R_drewN | apply Kd.R_drew));exact Kd.R_mono HO332.out (fun _ hk => hk.2)), (by (with_reducible repeat (first | apply Kd.R_alloc | apply Kd.R_drewN | apply Kd.R_drew));exact Kd.R_mono HO336.out (fun _ hk => hk.2)), B328.out, B329.out, HB.out⟩)
          ·skip
           refine box_step ?hg (N := 5) ?hd (cs := #[.slice none 0 0, .int .i64 0]) (t := 24) ?hr ?_;(case hd => rfl);(case hg => rfl);(case hr => first | (go_simp;done) | (go_simp;rfl))
           intro g338 hg w15 hbox hb
           have n0_ := Aside0.mk (Kd.R_below HO332.out hb)
           have n1_ := Aside0.mk (blk_below (g := g328) (o := .cells #[.slice A0_0 l0_0.length c0_0, .int .i64 a0_1] 24 (0, 0)) B328.out hb)
           have n2_ := Aside0.mk (blk_below (g := g329) (o := .cells #[.slice A1_0 l1_0.length c1_0, .int .i64 a1_1] 24 (0, 0)) B329.out hb)
           have n3_ := Aside0.mk (below_step HB.out hb)
           have n4_ := Aside0.mk (hbox)
           have n5_ := Aside0.mk ((by rw [hg];exact (below_size HB.out) : w.heap.size ≤ g338))
           have n6_ := Aside0.mk ((by rw [hg];exact (below_size HB.out) : w.heap.size ≤ g338))
           have n7_ := Aside0.mk ((by rw [hg];exact Nat.ne_of_lt (blk_lt (g := g328) (o := .cells #[.slice A0_0 l0_0.length c0_0, .int .i64 a0_1] 24 (0, 0)) B328.out) : g328 ≠ g338))
           have n8_ := Aside0.mk ((by rw [hg];exact Nat.ne_of_gt (blk_lt (g := g328) (o := .cells #[.slice A0_0 l0_0.length c0_0, .int .i64 a0_1] 24 (0, 0)) B328.out) : g338 ≠ g328))
           have n9_ := Aside0.mk ((by rw [hg];exact Nat.ne_of_lt (blk_lt (g := g329) (o := .cells #[.slice A1_0 l1_0.length c1_0, .int .i64 a1_1] 24 (0, 0)) B329.out) : g329 ≠ g338))
           have n10_ := Aside0.mk ((by rw [hg];exact Nat.ne_of_gt (blk_lt (g := g329) (o := .cells #[.slice A1_0 l1_0.length c1_0, .int .i64 a1_1] 24 (0, 0)) B329.out) : g338 ≠ g329))
           clear HO332
           clear B328
           clear B329
           clear HB
           have HO332 := n0_
           have B328 := n1_
           have B329 := n2_
           have HB := n3_
           have B338 := n4_
           have GW338 := n5_
           have GE338 := n6_
           have NB328_338 := n7_
           have NB338_328 := n8_
           have NB329_338 := n9_
           have NB338_329 := n10_
           clear n0_ n1_ n2_ n3_ n4_ n5_ n6_ n7_ n8_ n9_ n10_
           clear hb hbox hg
           refine hK.out _ _ ⟨(blk_cell B328.out 0).trans rfl, (blk_cell B328.out 1).trans rfl, (blk_cell B329.out 0).trans rfl, (blk_cell B329.out 1).trans rfl⟩ (fun hHeld => ?_)
           clear hK K
           refine norm_ (a' := ?_) ?_ ?_
           rotate_left
           ·show Act.put _ (some 5) _ = _
            simp only [Act.put, List.setIfInBounds_toArray, List.set_cons_zero, List.set_cons_succ]
            rfl
           exact norm_ (by first | (simp only [putAll, Act.put, List.setIfInBounds_toArray, List.set_cons_zero, List.set_cons_succ];done) | (simp only [putAll, Act.put, List.setIfInBounds_toArray, List.set_cons_zero, List.set_cons_succ];rfl)) (hJ1_4 (v331, g338) _ ⟨hHeld, HO332.out, B328.out, B329.out, B338.out, GW338.out, GE338.out, NB328_338.out, NB338_328.out, NB329_338.out, NB338_329.out, HB.out⟩)
          ·skip
           refine box_step ?hg (N := 6) ?hd (cs := #[.slice none 0 0, .int .i64 0]) (t := 24) ?hr ?_;(case hd => rfl);(case hg => rfl);(case hr => first | (go_simp;done) | (go_simp;rfl))
           intro g339 hg w15 hbox hb
           have n0_ := Aside0.mk (Kd.R_below HO332.out hb)
           have n1_ := Aside0.mk (blk_below (g := g328) (o := .cells #[.slice A0_0 l0_0.length c0_0, .int .i64 a0_1] 24 (0, 0)) B328.out hb)
           have n2_ := Aside0.mk (blk_below (g := g329) (o := .cells #[.slice A1_0 l1_0.length c1_0, .int .i64 a1_1] 24 (0, 0)) B329.out hb)
           have n3_ := Aside0.mk (below_step HB.out hb)
           have n4_ := Aside0.mk (hbox)
           have n5_ := Aside0.mk ((by rw [hg];exact (below_size HB.out) : w.heap.size ≤ g339))
           have n6_ := Aside0.mk ((by rw [hg];exact (below_size HB.out) : w.heap.size ≤ g339))
           have n7_ := Aside0.mk ((by rw [hg];exact Nat.ne_of_lt (blk_lt (g := g328) (o := .cells #[.slice A0_0 l0_0.length c0_0, .int .i64 a0_1] 24 (0, 0)) B328.out) : g328 ≠ g339))
           have n8_ := Aside0.mk ((by rw [hg];exact Nat.ne_of_gt (blk_lt (g := g328) (o := .cells #[.slice A0_0 l0_0.length c0_0, .int .i64 a0_1] 24 (0, 0)) B328.out) : g339 ≠ g328))
           have n9_ := Aside0.mk ((by rw [hg];exact Nat.ne_of_lt (blk_lt (g := g329) (o := .cells #[.slice A1_0 l1_0.length c1_0, .int .i64 a1_1] 24 (0, 0)) B329.out) : g329 ≠ g339))
           have n10_ := Aside0.mk ((by rw [hg];exact Nat.ne_of_gt (blk_lt (g := g329) (o := .cells #[.slice A1_0 l1_0.length c1_0, .int .i64 a1_1] 24 (0, 0)) B329.out) : g339 ≠ g329))
           clear HO332
           clear B328
           clear B329
           clear HB
           have HO332 := n0_
           have B328 := n1_
           have B329 := n2_
           have HB := n3_
           have B339 := n4_
           have GW339 := n5_
           have GE339 := n6_
           have NB328_339 := n7_
           have NB339_328 := n8_
           have NB329_339 := n9_
           have NB339_329 := n10_
           clear n0_ n1_ n2_ n3_ n4_ n5_ n6_ n7_ n8_ n9_ n10_
           clear hb hbox hg
           refine hK.out _ _ ⟨(blk_cell B328.out 0).trans rfl, (blk_cell B328.out 1).trans rfl, (blk_cell B329.out 0).trans rfl, (blk_cell B329.out 1).trans rfl⟩ (fun hHeld => ?_)
           clear hK K
           refine norm_ (a' := ?_) ?_ ?_
           rotate_left
           ·show Act.put _ (some 6) _ = _
            simp only [Act.put, List.setIfInBounds_toArray, List.set_cons_zero, List.set_cons_succ]
            rfl
           exact norm_ (by first | (simp only [putAll, Act.put, List.setIfInBounds_toArray, List.set_cons_zero, List.set_cons_succ];done) | (simp only [putAll, Act.put, List.setIfInBounds_toArray, List.set_cons_zero, List.set_cons_succ];rfl)) (hJ1_5 (v331, g339) _ ⟨hHeld, HO332.out, B328.out, B329.out, B339.out, GW339.out, GE339.out, NB328_339.out, NB339_328.out, NB329_339.out, NB339_329.out, HB.out⟩)
        ·skip
         rintro ⟨g338, g339⟩ w15 ⟨hS_, h0_, h1_, h2_, h3_, h4_, h5_, h6_, h7_, h8_, h9_, h10_, h11_, h12_, h13_, h14_, h15_, h16_, h17_, h18_⟩
         have n0_ : Aside0 (w15.heap[g328]? = some (.cells #[.slice A0_0 l0_0.length c0_0, .int .i64 a0_1] 24 (0, 0))) := ⟨h0_⟩
         have n1_ : Aside0 (w15.heap[g329]? = some (.cells #[.slice A1_0 l1_0.length c1_0, .int .i64 a1_1] 24 (0, 0))) := ⟨h1_⟩
         have n2_ : Aside0 (w15.heap[g338]? = some (.cells #[.slice none 0 0, .int .i64 0] 24 (0, 0))) := ⟨h2_⟩
         have n3_ : Aside0 (w15.heap[g339]? = some (.cells #[.slice none 0 0, .int .i64 0] 24 (0, 0))) := ⟨h3_⟩
         have n4_ : Aside0 (w.heap.size ≤ g338) := ⟨h4_⟩
         have n5_ : Aside0 (w.heap.size ≤ g338) := ⟨h5_⟩
         have n6_ : Aside0 (g328 ≠ g338) := ⟨h6_⟩
         have n7_ : Aside0 (g338 ≠ g328) := ⟨h7_⟩
         have n8_ : Aside0 (g329 ≠ g338) := ⟨h8_⟩
         have n9_ : Aside0 (g338 ≠ g329) := ⟨h9_⟩
         have n10_ : Aside0 (g339 ≠ g338) := ⟨h10_⟩
         have n11_ : Aside0 (g338 ≠ g339) := ⟨h11_⟩
         have n12_ : Aside0 (w.heap.size ≤ g339) := ⟨h12_⟩
         have n13_ : Aside0 (w.heap.size ≤ g339) := ⟨h13_⟩
         have n14_ : Aside0 (g328 ≠ g339) := ⟨h14_⟩
         have n15_ : Aside0 (g339 ≠ g328) := ⟨h15_⟩
         have n16_ : Aside0 (g329 ≠ g339) := ⟨h16_⟩
         have n17_ : Aside0 (g339 ≠ g329) := ⟨h17_⟩
         have n18_ : Aside0 (Below w.heap.size w w15) := ⟨h18_⟩
         clear B328
         clear B329
         clear HB
         clear h0_ h1_ h2_ h3_ h4_ h5_ h6_ h7_ h8_ h9_ h10_ h11_ h12_ h13_ h14_ h15_ h16_ h17_ h18_
         have B328 := n0_
         have B329 := n1_
         have B338 := n2_
         have B339 := n3_
         have GW338 := n4_
         have GE338 := n5_
         have NB328_338 := n6_
         have NB338_328 := n7_
         have NB329_338 := n8_
         have NB338_329 := n9_
         have NB339_338 := n10_
         have NB338_339 := n11_
         have GW339 := n12_
         have GE339 := n13_
         have NB328_339 := n14_
         have NB339_328 := n15_
         have NB329_339 := n16_
         have NB339_329 := n17_
         have HB := n18_
         clear n0_ n1_ n2_ n3_ n4_ n5_ n6_ n7_ n8_ n9_ n10_ n11_ n12_ n13_ n14_ n15_ n16_ n17_ n18_
         have hHeld : w15.cell? ⟨g328, 0, none⟩ = some (.slice A0_0 l0_0.length c0_0) ∧ w15.cell? ⟨g328, 1, none⟩ = some (.int .i64 a0_1) ∧ w15.cell? ⟨g329, 0, none⟩ = some (.slice A1_0 l1_0.length c1_0) ∧ w15.cell? ⟨g329, 1, none⟩ = some (.int .i64 a1_1) := hS_
         refine norm_ (a' := ?_) ?_ ?_
         rotate_left
         ·simp only [putAll, Act.put, List.setIfInBounds_toArray, List.set_cons_zero, List.set_cons_succ]
          rfl
         refine one_ (i := 1) (N := some 17) #[true, true, true, false, true, true, false, false] rfl rfl (one_of HT_.out (by kernel_rfl)) (by decide) (fun K hK => ?_)
         refine goes_ Try.func11 (by kernel_rfl) rfl #[.agg #[.slice A0_0 l0_0.length c0_0, .int .i64 a0_1]] (by rfl) rfl rfl (by (try simp only [List.map_toArray, List.map_cons, List.map_nil]);first | done | rfl) ?_
         with_reducible refine (own_wideV _ _ l0_0 a0_1 t330 t333 _ ?side1 ?side2 A3.out).mono ?_
         (case side1 => repeat (first | exact (Kd.C_below HR0_0.out HB.out) | (with_reducible refine Kd.C_alloc ?_ _) | (with_reducible refine Kd.C_drewN ?_ _) | (with_reducible refine Kd.C_drew ?_)))
         (case side2 => exact HC0_0.out)
         rintro e w16 ⟨v331, rfl, ho0, hb⟩
         refine ⟨_, rfl, ?_⟩
         have n0_ := Aside0.mk (Kd.R_lower ho0 (below_size HB.out))
         have n1_ := Aside0.mk (blk_below (g := g328) (o := .cells #[.slice A0_0 l0_0.length c0_0, .int .i64 a0_1] 24 (0, 0)) B328.out hb)
         have n2_ := Aside0.mk (blk_below (g := g329) (o := .cells #[.slice A1_0 l1_0.length c1_0, .int .i64 a1_1] 24 (0, 0)) B329.out hb)
         have n3_ := Aside0.mk (blk_below (g := g338) (o := .cells #[.slice none 0 0, .int .i64 0] 24 (0, 0)) B338.out hb)
         have n4_ := Aside0.mk (blk_below (g := g339) (o := .cells #[.slice none 0 0, .int .i64 0] 24 (0, 0)) B339.out hb)
         have n5_ := Aside0.mk (below_step HB.out hb)
         clear B328
         clear B329
         clear B338
         clear B339
         clear HB
         have HO332 := n0_
         have B328 := n1_
         have B329 := n2_
         have B338 := n3_
         have B339 := n4_
         have HB := n5_
         clear n0_ n1_ n2_ n3_ n4_ n5_
         (try clear hb)
         (try clear ho0)
         refine hK.out _ _ ⟨(blk_cell B328.out 0).trans rfl, (blk_cell B328.out 1).trans rfl, (blk_cell B329.out 0).trans rfl, (blk_cell B329.out 1).trans rfl⟩ (fun hHeld => ?_)
         clear hK K
         refine norm_ (a' := ?_) ?_ ?_
         rotate_left
         ·show Act.put _ (some 17) _ = _
          simp only [Act.put, List.setIfInBounds_toArray, List.set_cons_zero, List.set_cons_succ]
          rfl
         exact norm_ (by first | (simp only [putAll, Act.put, List.setIfInBounds_toArray, List.set_cons_zero, List.set_cons_succ];done) | (simp only [putAll, Act.put, List.setIfInBounds_toArray, List.set_cons_zero, List.set_cons_succ];rfl)) (hJ1_4_5 (v331, g338, g339) _ ⟨hHeld, HO332.out, B328.out, B329.out, B338.out, B339.out, GW338.out, GE338.out, NB328_338.out, NB338_328.out, NB329_338.out, NB338_329.out, NB339_338.out, NB338_339.out, GW339.out, GE339.out, NB328_339.out, NB339_328.out, NB329_339.out, NB339_329.out, HB.out⟩)
       ·skip
        rintro ⟨v331, g339⟩ w15 ⟨hS_, h0_, h1_, h2_, h3_, h4_, h5_, h6_, h7_, h8_, h9_, h10_⟩
        have n0_ : Aside0 (Kd.R (Kd.int .u8) 5 w15 w.heap.size (fun _ => True) (wideV v331) (t330 ++ [119])) := ⟨h0_⟩
        have n1_ : Aside0 (w15.heap[g328]? = some (.cells #[.slice A0_0 l0_0.length c0_0, .int .i64 a0_1] 24 (0, 0))) := ⟨h1_⟩
        have n2_ : Aside0 (w15.heap[g329]? = some (.cells #[.slice A1_0 l1_0.length c1_0, .int .i64 a1_1] 24 (0, 0))) := ⟨h2_⟩
        have n3_ : Aside0 (w15.heap[g339]? = some (.cells #[.slice none 0 0, .int .i64 0] 24 (0, 0))) := ⟨h3_⟩
        have n4_ : Aside0 (w.heap.size ≤ g339) := ⟨h4_⟩
        have n5_ : Aside0 (w.heap.size ≤ g339) := ⟨h5_⟩
        have n6_ : Aside0 (g328 ≠ g339) := ⟨h6_⟩
        have n7_ : Aside0 (g339 ≠ g328) := ⟨h7_⟩
        have n8_ : Aside0 (g329 ≠ g339) := ⟨h8_⟩
        have n9_ : Aside0 (g339 ≠ g329) := ⟨h9_⟩
        have n10_ : Aside0 (Below w.heap.size w w15) := ⟨h10_⟩
        clear B328
        clear B329
        clear HB
        clear h0_ h1_ h2_ h3_ h4_ h5_ h6_ h7_ h8_ h9_ h10_
        have HO332 := n0_
        have B328 := n1_
        have B329 := n2_
        have B339 := n3_
        have GW339 := n4_
        have GE339 := n5_
        have NB328_339 := n6_
        have NB339_328 := n7_
        have NB329_339 := n8_
        have NB339_329 := n9_
        have HB := n10_
        clear n0_ n1_ n2_ n3_ n4_ n5_ n6_ n7_ n8_ n9_ n10_
        have hHeld : w15.cell? ⟨g328, 0, none⟩ = some (.slice A0_0 l0_0.length c0_0) ∧ w15.cell? ⟨g328, 1, none⟩ = some (.int .i64 a0_1) ∧ w15.cell? ⟨g329, 0, none⟩ = some (.slice A1_0 l1_0.length c1_0) ∧ w15.cell? ⟨g329, 1, none⟩ = some (.int .i64 a1_1) := hS_
        refine norm_ (a' := ?_) ?_ ?_
        rotate_left
        ·simp only [putAll, Act.put, List.setIfInBounds_toArray, List.set_cons_zero, List.set_cons_succ]
         rfl
        refine two_ (i := 3) (j := 4) (Ni := some 19) (Nj := some 5) #[true, true, true, true, false, true, false, false] #[true, true, true, false, true, true, false, false] rfl rfl rfl rfl (two_of HT_.out (by kernel_rfl)) (by decide) (by decide) (fun K hK => ?_) (fun K hK => ?_)
        ·skip
         refine goes_ Try.func11 (by kernel_rfl) rfl #[.agg #[.slice A1_0 l1_0.length c1_0, .int .i64 a1_1]] (by rfl) rfl rfl (by (try simp only [List.map_toArray, List.map_cons, List.map_nil]);first | done | rfl) ?_
         with_reducible refine (own_wideV _ _ l1_0 a1_1 t334 t337 _ ?side1 ?side2 A4.out).mono ?_
         (case side1 => repeat (first | exact (Kd.C_below HR1_0.out HB.out) | (with_reducible refine Kd.C_alloc ?_ _) | (with_reducible refine Kd.C_drewN ?_ _) | (with_reducible refine Kd.C_drew ?_)))
         (case side2 => exact HC1_0.out)
         rintro e w16 ⟨v335, rfl, ho0, hb⟩
         refine ⟨_, rfl, ?_⟩
         have n0_ := Aside0.mk (Kd.R_elder' HO332.out (Kd.R_base ho0) hb)
         have n1_ := Aside0.mk (Kd.R_lower (Kd.R_new' ho0 (Kd.R_lt HO332.out)) (below_size HB.out))
         have n2_ := Aside0.mk (blk_below (g := g328) (o := .cells #[.slice A0_0 l0_0.length c0_0, .int .i64 a0_1] 24 (0, 0)) B328.out hb)
         have n3_ := Aside0.mk (blk_below (g := g329) (o := .cells #[.slice A1_0 l1_0.length c1_0, .int .i64 a1_1] 24 (0, 0)) B329.out hb)
         have n4_ := Aside0.mk (blk_below (g := g339) (o := .cells #[.slice none 0 0, .int .i64 0] 24 (0, 0)) B339.out hb)
         have n5_ := Aside0.mk (below_step HB.out hb)
         clear HO332
         clear B328
         clear B329
         clear B339
         clear HB
         have HO332 := n0_
         have HO336 := n1_
         have B328 := n2_
         have B329 := n3_
         have B339 := n4_
         have HB := n5_
         clear n0_ n1_ n2_ n3_ n4_ n5_
         (try clear hb)
         (try clear ho0)
         refine hK.out _ _ ⟨(blk_cell B328.out 0).trans rfl, (blk_cell B328.out 1).trans rfl, (blk_cell B329.out 0).trans rfl, (blk_cell B329.out 1).trans rfl⟩ (fun hHeld => ?_)
         clear hK K
         refine norm_ (a' := ?_) ?_ ?_
         rotate_left
         ·show Act.put _ (some 19) _ = _
          simp only [Act.put, List.setIfInBounds_toArray, List.set_cons_zero, List.set_cons_succ]
          rfl
         exact norm_ (by first | (simp only [putAll, Act.put, List.setIfInBounds_toArray, List.set_cons_zero, List.set_cons_succ];done) | (simp only [putAll, Act.put, List.setIfInBounds_toArray, List.set_cons_zero, List.set_cons_succ];rfl)) (hJ1_3_5 (v331, v335, g339) _ ⟨hHeld, (by (with_reducible repeat (first | apply Kd.R_alloc | apply Kd.R_drewN | apply Kd.R_drew));exact Kd.R_mono HO332.out (fun _ hk => hk.2)), (by (with_reducible repeat (first | apply Kd.R_alloc | apply Kd.R_drewN | apply Kd.R_drew));exact Kd.R_mono HO336.out (fun _ hk => hk.2)), B328.out, B329.out, B339.out, GW339.out, GE339.out, NB328_339.out, NB339_328.out, NB329_339.out, NB339_329.out, HB.out⟩)
        ·skip
         refine box_step ?hg (N := 5) ?hd (cs := #[.slice none 0 0, .int .i64 0]) (t := 24) ?hr ?_;(case hd => rfl);(case hg => rfl);(case hr => first | (go_simp;done) | (go_simp;rfl))
         intro g338 hg w16 hbox hb
         have n0_ := Aside0.mk (Kd.R_below HO332.out hb)
         have n1_ := Aside0.mk (blk_below (g := g328) (o := .cells #[.slice A0_0 l0_0.length c0_0, .int .i64 a0_1] 24 (0, 0)) B328.out hb)
         have n2_ := Aside0.mk (blk_below (g := g329) (o := .cells #[.slice A1_0 l1_0.length c1_0, .int .i64 a1_1] 24 (0, 0)) B329.out hb)
         have n3_ := Aside0.mk (blk_below (g := g339) (o := .cells #[.slice none 0 0, .int .i64 0] 24 (0, 0)) B339.out hb)
         have n4_ := Aside0.mk (below_step HB.out hb)
         have n5_ := Aside0.mk (hbox)
         have n6_ := Aside0.mk ((by rw [hg];exact (below_size HB.out) : w.heap.size ≤ g338))
         have n7_ := Aside0.mk ((by rw [hg];exact (below_size HB.out) : w.heap.size ≤ g338))
         have n8_ := Aside0.mk ((by rw [hg];exact Nat.ne_of_lt (blk_lt (g := g328) (o := .cells #[.slice A0_0 l0_0.length c0_0, .int .i64 a0_1] 24 (0, 0)) B328.out) : g328 ≠ g338))
         have n9_ := Aside0.mk ((by rw [hg];exact Nat.ne_of_gt (blk_lt (g := g328) (o := .cells #[.slice A0_0 l0_0.length c0_0, .int .i64 a0_1] 24 (0, 0)) B328.out) : g338 ≠ g328))
         have n10_ := Aside0.mk ((by rw [hg];exact Nat.ne_of_lt (blk_lt (g := g329) (o := .cells #[.slice A1_0 l1_0.length c1_0, .int .i64 a1_1] 24 (0, 0)) B329.out) : g329 ≠ g338))
         have n11_ := Aside0.mk ((by rw [hg];exact Nat.ne_of_gt (blk_lt (g := g329) (o := .cells #[.slice A1_0 l1_0.length c1_0, .int .i64 a1_1] 24 (0, 0)) B329.out) : g338 ≠ g329))
         have n12_ := Aside0.mk ((by rw [hg];exact Nat.ne_of_lt (blk_lt (g := g339) (o := .cells #[.slice none 0 0, .int .i64 0] 24 (0, 0)) B339.out) : g339 ≠ g338))
         have n13_ := Aside0.mk ((by rw [hg];exact Nat.ne_of_gt (blk_lt (g := g339) (o := .cells #[.slice none 0 0, .int .i64 0] 24 (0, 0)) B339.out) : g338 ≠ g339))
         clear HO332
         clear B328
         clear B329
         clear B339
         clear HB
         have HO332 := n0_
         have B328 := n1_
         have B329 := n2_
         have B339 := n3_
         have HB := n4_
         have B338 := n5_
         have GW338 := n6_
         have GE338 := n7_
         have NB328_338 := n8_
         have NB338_328 := n9_
         have NB329_338 := n10_
         have NB338_329 := n11_
         have NB339_338 := n12_
         have NB338_339 := n13_
         clear n0_ n1_ n2_ n3_ n4_ n5_ n6_ n7_ n8_ n9_ n10_ n11_ n12_ n13_
         clear hb hbox hg
         refine hK.out _ _ ⟨(blk_cell B328.out 0).trans rfl, (blk_cell B328.out 1).trans rfl, (blk_cell B329.out 0).trans rfl, (blk_cell B329.out 1).trans rfl⟩ (fun hHeld => ?_)
         clear hK K
         refine norm_ (a' := ?_) ?_ ?_
         rotate_left
         ·show Act.put _ (some 5) _ = _
          simp only [Act.put, List.setIfInBounds_toArray, List.set_cons_zero, List.set_cons_succ]
          rfl
         exact norm_ (by first | (simp only [putAll, Act.put, List.setIfInBounds_toArray, List.set_cons_zero, List.set_cons_succ];done) | (simp only [putAll, Act.put, List.setIfInBounds_toArray, List.set_cons_zero, List.set_cons_succ];rfl)) (hJ1_4_5 (v331, g338, g339) _ ⟨hHeld, HO332.out, B328.out, B329.out, B338.out, B339.out, GW338.out, GE338.out, NB328_338.out, NB338_328.out, NB329_338.out, NB338_329.out, NB339_338.out, NB338_339.out, GW339.out, GE339.out, NB328_339.out, NB339_328.out, NB329_339.out, NB339_329.out, HB.out⟩)
      ·skip
       rintro ⟨v331, g338⟩ w15 ⟨hS_, h0_, h1_, h2_, h3_, h4_, h5_, h6_, h7_, h8_, h9_, h10_⟩
       have n0_ : Aside0 (Kd.R (Kd.int .u8) 5 w15 w.heap.size (fun _ => True) (wideV v331) (t330 ++ [119])) := ⟨h0_⟩
       have n1_ : Aside0 (w15.heap[g328]? = some (.cells #[.slice A0_0 l0_0.length c0_0, .int .i64 a0_1] 24 (0, 0))) := ⟨h1_⟩
       have n2_ : Aside0 (w15.heap[g329]? = some (.cells #[.slice A1_0 l1_0.length c1_0, .int .i64 a1_1] 24 (0, 0))) := ⟨h2_⟩
       have n3_ : Aside0 (w15.heap[g338]? = some (.cells #[.slice none 0 0, .int .i64 0] 24 (0, 0))) := ⟨h3_⟩
       have n4_ : Aside0 (w.heap.size ≤ g338) := ⟨h4_⟩
       have n5_ : Aside0 (w.heap.size ≤ g338) := ⟨h5_⟩
       have n6_ : Aside0 (g328 ≠ g338) := ⟨h6_⟩
       have n7_ : Aside0 (g338 ≠ g328) := ⟨h7_⟩
       have n8_ : Aside0 (g329 ≠ g338) := ⟨h8_⟩
       have n9_ : Aside0 (g338 ≠ g329) := ⟨h9_⟩
       have n10_ : Aside0 (Below w.heap.size w w15) := ⟨h10_⟩
       clear B328
       clear B329
       clear HB
       clear h0_ h1_ h2_ h3_ h4_ h5_ h6_ h7_ h8_ h9_ h10_
       have HO332 := n0_
       have B328 := n1_
       have B329 := n2_
       have B338 := n3_
       have GW338 := n4_
       have GE338 := n5_
       have NB328_338 := n6_
       have NB338_328 := n7_
       have NB329_338 := n8_
       have NB338_329 := n9_
       have HB := n10_
       clear n0_ n1_ n2_ n3_ n4_ n5_ n6_ n7_ n8_ n9_ n10_
       have hHeld : w15.cell? ⟨g328, 0, none⟩ = some (.slice A0_0 l0_0.length c0_0) ∧ w15.cell? ⟨g328, 1, none⟩ = some (.int .i64 a0_1) ∧ w15.cell? ⟨g329, 0, none⟩ = some (.slice A1_0 l1_0.length c1_0) ∧ w15.cell? ⟨g329, 1, none⟩ = some (.int .i64 a1_1) := hS_
       refine norm_ (a' := ?_) ?_ ?_
       rotate_left
       ·simp only [putAll, Act.put, List.setIfInBounds_toArray, List.set_cons_zero, List.set_cons_succ]
        rfl
       refine two_ (i := 3) (j := 5) (Ni := some 19) (Nj := some 6) #[true, true, true, true, true, false, false, false] #[true, true, true, false, true, true, false, false] rfl rfl rfl rfl (two_of HT_.out (by kernel_rfl)) (by decide) (by decide) (fun K hK => ?_) (fun K hK => ?_)
       ·skip
        refine goes_ Try.func11 (by kernel_rfl) rfl #[.agg #[.slice A1_0 l1_0.length c1_0, .int .i64 a1_1]] (by rfl) rfl rfl (by (try simp only [List.map_toArray, List.map_cons, List.map_nil]);first | done | rfl) ?_
        with_reducible refine (own_wideV _ _ l1_0 a1_1 t334 t337 _ ?side1 ?side2 A4.out).mono ?_
        (case side1 => repeat (first | exact (Kd.C_below HR1_0.out HB.out) | (with_reducible refine Kd.C_alloc ?_ _) | (with_reducible refine Kd.C_drewN ?_ _) | (with_reducible refine Kd.C_drew ?_)))
        (case side2 => exact HC1_0.out)
        rintro e w16 ⟨v335, rfl, ho0, hb⟩
        refine ⟨_, rfl, ?_⟩
        have n0_ := Aside0.mk (Kd.R_elder' HO332.out (Kd.R_base ho0) hb)
        have n1_ := Aside0.mk (Kd.R_lower (Kd.R_new' ho0 (Kd.R_lt HO332.out)) (below_size HB.out))
        have n2_ := Aside0.mk (blk_below (g := g328) (o := .cells #[.slice A0_0 l0_0.length c0_0, .int .i64 a0_1] 24 (0, 0)) B328.out hb)
        have n3_ := Aside0.mk (blk_below (g := g329) (o := .cells #[.slice A1_0 l1_0.length c1_0, .int .i64 a1_1] 24 (0, 0)) B329.out hb)
        have n4_ := Aside0.mk (blk_below (g := g338) (o := .cells #[.slice none 0 0, .int .i64 0] 24 (0, 0)) B338.out hb)
        have n5_ := Aside0.mk (below_step HB.out hb)
        clear HO332
        clear B328
        clear B329
        clear B338
        clear HB
        have HO332 := n0_
        have HO336 := n1_
        have B328 := n2_
        have B329 := n3_
        have B338 := n4_
        have HB := n5_
        clear n0_ n1_ n2_ n3_ n4_ n5_
        (try clear hb)
        (try clear ho0)
        refine hK.out _ _ ⟨(blk_cell B328.out 0).trans rfl, (blk_cell B328.out 1).trans rfl, (blk_cell B329.out 0).trans rfl, (blk_cell B329.out 1).trans rfl⟩ (fun hHeld => ?_)
        clear hK K
        refine norm_ (a' := ?_) ?_ ?_
        rotate_left
        ·show Act.put _ (some 19) _ = _
         simp only [Act.put, List.setIfInBounds_toArray, List.set_cons_zero, List.set_cons_succ]
         rfl
        exact norm_ (by first | (simp only [putAll, Act.put, List.setIfInBounds_toArray, List.set_cons_zero, List.set_cons_succ];done) | (simp only [putAll, Act.put, List.setIfInBounds_toArray, List.set_cons_zero, List.set_cons_succ];rfl)) (hJ1_3_4 (v331, v335, g338) _ ⟨hHeld, (by (with_reducible repeat (first | apply Kd.R_alloc | apply Kd.R_drewN | apply Kd.R_drew));exact Kd.R_mono HO332.out (fun _ hk => hk.2)), (by (with_reducible repeat (first | apply Kd.R_alloc | apply Kd.R_drewN | apply Kd.R_drew));exact Kd.R_mono HO336.out (fun _ hk => hk.2)), B328.out, B329.out, B338.out, GW338.out, GE338.out, NB328_338.out, NB338_328.out, NB329_338.out, NB338_329.out, HB.out⟩)
       ·skip
        refine box_step ?hg (N := 6) ?hd (cs := #[.slice none 0 0, .int .i64 0]) (t := 24) ?hr ?_;(case hd => rfl);(case hg => rfl);(case hr => first | (go_simp;done) | (go_simp;rfl))
        intro g339 hg w16 hbox hb
        have n0_ := Aside0.mk (Kd.R_below HO332.out hb)
        have n1_ := Aside0.mk (blk_below (g := g328) (o := .cells #[.slice A0_0 l0_0.length c0_0, .int .i64 a0_1] 24 (0, 0)) B328.out hb)
        have n2_ := Aside0.mk (blk_below (g := g329) (o := .cells #[.slice A1_0 l1_0.length c1_0, .int .i64 a1_1] 24 (0, 0)) B329.out hb)
        have n3_ := Aside0.mk (blk_below (g := g338) (o := .cells #[.slice none 0 0, .int .i64 0] 24 (0, 0)) B338.out hb)
        have n4_ := Aside0.mk (below_step HB.out hb)
        have n5_ := Aside0.mk (hbox)
        have n6_ := Aside0.mk ((by rw [hg];exact (below_size HB.out) : w.heap.size ≤ g339))
        have n7_ := Aside0.mk ((by rw [hg];exact (below_size HB.out) : w.heap.size ≤ g339))
        have n8_ := Aside0.mk ((by rw [hg];exact Nat.ne_of_lt (blk_lt (g := g328) (o := .cells #[.slice A0_0 l0_0.length c0_0, .int .i64 a0_1] 24 (0, 0)) B328.out) : g328 ≠ g339))
        have n9_ := Aside0.mk ((by rw [hg];exact Nat.ne_of_gt (blk_lt (g := g328) (o := .cells #[.slice A0_0 l0_0.length c0_0, .int .i64 a0_1] 24 (0, 0)) B328.out) : g339 ≠ g328))
        have n10_ := Aside0.mk ((by rw [hg];exact Nat.ne_of_lt (blk_lt (g := g329) (o := .cells #[.slice A1_0 l1_0.length c1_0, .int .i64 a1_1] 24 (0, 0)) B329.out) : g329 ≠ g339))
        have n11_ := Aside0.mk ((by rw [hg];exact Nat.ne_of_gt (blk_lt (g := g329) (o := .cells #[.slice A1_0 l1_0.length c1_0, .int .i64 a1_1] 24 (0, 0)) B329.out) : g339 ≠ g329))
        have n12_ := Aside0.mk ((by rw [hg];exact Nat.ne_of_lt (blk_lt (g := g338) (o := .cells #[.slice none 0 0, .int .i64 0] 24 (0, 0)) B338.out) : g338 ≠ g339))
        have n13_ := Aside0.mk ((by rw [hg];exact Nat.ne_of_gt (blk_lt (g := g338) (o := .cells #[.slice none 0 0, .int .i64 0] 24 (0, 0)) B338.out) : g339 ≠ g338))
        clear HO332
        clear B328
        clear B329
        clear B338
        clear HB
        have HO332 := n0_
        have B328 := n1_
        have B329 := n2_
        have B338 := n3_
        have HB := n4_
        have B339 := n5_
        have GW339 := n6_
        have GE339 := n7_
        have NB328_339 := n8_
        have NB339_328 := n9_
        have NB329_339 := n10_
        have NB339_329 := n11_
        have NB338_339 := n12_
        have NB339_338 := n13_
        clear n0_ n1_ n2_ n3_ n4_ n5_ n6_ n7_ n8_ n9_ n10_ n11_ n12_ n13_
        clear hb hbox hg
        refine hK.out _ _ ⟨(blk_cell B328.out 0).trans rfl, (blk_cell B328.out 1).trans rfl, (blk_cell B329.out 0).trans rfl, (blk_cell B329.out 1).trans rfl⟩ (fun hHeld => ?_)
        clear hK K
        refine norm_ (a' := ?_) ?_ ?_
        rotate_left
        ·show Act.put _ (some 6) _ = _
         simp only [Act.put, List.setIfInBounds_toArray, List.set_cons_zero, List.set_cons_succ]
         rfl
        exact norm_ (by first | (simp only [putAll, Act.put, List.setIfInBounds_toArray, List.set_cons_zero, List.set_cons_succ];done) | (simp only [putAll, Act.put, List.setIfInBounds_toArray, List.set_cons_zero, List.set_cons_succ];rfl)) (hJ1_4_5 (v331, g338, g339) _ ⟨hHeld, HO332.out, B328.out, B329.out, B338.out, B339.out, GW338.out, GE338.out, NB328_338.out, NB338_328.out, NB329_338.out, NB338_329.out, NB339_338.out, NB338_339.out, GW339.out, GE339.out, NB328_339.out, NB339_328.out, NB329_339.out, NB339_329.out, HB.out⟩)
     ·skip
      rintro ⟨v331, v335⟩ w15 ⟨hS_, h0_, h1_, h2_, h3_, h4_⟩
      have n0_ : Aside0 (Kd.R (Kd.int .u8) 5 w15 w.heap.size (fun k_ => some k_ ≠ (wideV v335).ownBlock) (wideV v331) (t330 ++ [119])) := ⟨h0_⟩
      have n1_ : Aside0 (Kd.R (Kd.int .u8) 5 w15 w.heap.size (fun k_ => some k_ ≠ (wideV v331).ownBlock) (wideV v335) (t334 ++ [119])) := ⟨h1_⟩
      have n2_ : Aside0 (w15.heap[g328]? = some (.cells #[.slice A0_0 l0_0.length c0_0, .int .i64 a0_1] 24 (0, 0))) := ⟨h2_⟩
      have n3_ : Aside0 (w15.heap[g329]? = some (.cells #[.slice A1_0 l1_0.length c1_0, .int .i64 a1_1] 24 (0, 0))) := ⟨h3_⟩
      have n4_ : Aside0 (Below w.heap.size w w15) := ⟨h4_⟩
      clear B328
      clear B329
      clear HB
      clear h0_ h1_ h2_ h3_ h4_
      have HO332 := n0_
      have HO336 := n1_
      have B328 := n2_
      have B329 := n3_
      have HB := n4_
      clear n0_ n1_ n2_ n3_ n4_
      have hHeld : w15.cell? ⟨g328, 0, none⟩ = some (.slice A0_0 l0_0.length c0_0) ∧ w15.cell? ⟨g328, 1, none⟩ = some (.int .i64 a0_1) ∧ w15.cell? ⟨g329, 0, none⟩ = some (.slice A1_0 l1_0.length c1_0) ∧ w15.cell? ⟨g329, 1, none⟩ = some (.int .i64 a1_1) := hS_
      refine norm_ (a' := ?_) ?_ ?_
      rotate_left
      ·simp only [putAll, Act.put, List.setIfInBounds_toArray, List.set_cons_zero, List.set_cons_succ]
       rfl
      refine two_ (i := 4) (j := 5) (Ni := some 5) (Nj := some 6) #[true, true, true, true, true, false, false, false] #[true, true, true, true, false, true, false, false] rfl rfl rfl rfl (two_of HT_.out (by kernel_rfl)) (by decide) (by decide) (fun K hK => ?_) (fun K hK => ?_)
      ·skip
       refine box_step ?hg (N := 5) ?hd (cs := #[.slice none 0 0, .int .i64 0]) (t := 24) ?hr ?_;(case hd => rfl);(case hg => rfl);(case hr => first | (go_simp;done) | (go_simp;rfl))
       intro g338 hg w16 hbox hb
       have n0_ := Aside0.mk (Kd.R_below HO332.out hb)
       have n1_ := Aside0.mk (Kd.R_below HO336.out hb)
       have n2_ := Aside0.mk (blk_below (g := g328) (o := .cells #[.slice A0_0 l0_0.length c0_0, .int .i64 a0_1] 24 (0, 0)) B328.out hb)
       have n3_ := Aside0.mk (blk_below (g := g329) (o := .cells #[.slice A1_0 l1_0.length c1_0, .int .i64 a1_1] 24 (0, 0)) B329.out hb)
       have n4_ := Aside0.mk (below_step HB.out hb)
       have n5_ := Aside0.mk (hbox)
       have n6_ := Aside0.mk ((by rw [hg];exact (below_size HB.out) : w.heap.size ≤ g338))
       have n7_ := Aside0.mk ((by rw [hg];exact (below_size HB.out) : w.heap.size ≤ g338))
       have n8_ := Aside0.mk ((by rw [hg];exact Nat.ne_of_lt (blk_lt (g := g328) (o := .cells #[.slice A0_0 l0_0.length c0_0, .int .i64 a0_1] 24 (0, 0)) B328.out) : g328 ≠ g338))
       have n9_ := Aside0.mk ((by rw [hg];exact Nat.ne_of_gt (blk_lt (g := g328) (o := .cells #[.slice A0_0 l0_0.length c0_0, .int .i64 a0_1] 24 (0, 0)) B328.out) : g338 ≠ g328))
       have n10_ := Aside0.mk ((by rw [hg];exact Nat.ne_of_lt (blk_lt (g := g329) (o := .cells #[.slice A1_0 l1_0.length c1_0, .int .i64 a1_1] 24 (0, 0)) B329.out) : g329 ≠ g338))
       have n11_ := Aside0.mk ((by rw [hg];exact Nat.ne_of_gt (blk_lt (g := g329) (o := .cells #[.slice A1_0 l1_0.length c1_0, .int .i64 a1_1] 24 (0, 0)) B329.out) : g338 ≠ g329))
       clear HO332
       clear HO336
       clear B328
       clear B329
       clear HB
       have HO332 := n0_
       have HO336 := n1_
       have B328 := n2_
       have B329 := n3_
       have HB := n4_
       have B338 := n5_
       have GW338 := n6_
       have GE338 := n7_
       have NB328_338 := n8_
       have NB338_328 := n9_
       have NB329_338 := n10_
       have NB338_329 := n11_
       clear n0_ n1_ n2_ n3_ n4_ n5_ n6_ n7_ n8_ n9_ n10_ n11_
       clear hb hbox hg
       refine hK.out _ _ ⟨(blk_cell B328.out 0).trans rfl, (blk_cell B328.out 1).trans rfl, (blk_cell B329.out 0).trans rfl, (blk_cell B329.out 1).trans rfl⟩ (fun hHeld => ?_)
       clear hK K
       refine norm_ (a' := ?_) ?_ ?_
       rotate_left
       ·show Act.put _ (some 5) _ = _
        simp only [Act.put, List.setIfInBounds_toArray, List.set_cons_zero, List.set_cons_succ]
        rfl
       exact norm_ (by first | (simp only [putAll, Act.put, List.setIfInBounds_toArray, List.set_cons_zero, List.set_cons_succ];done) | (simp only [putAll, Act.put, List.setIfInBounds_toArray, List.set_cons_zero, List.set_cons_succ];rfl)) (hJ1_3_4 (v331, v335, g338) _ ⟨hHeld, HO332.out, HO336.out, B328.out, B329.out, B338.out, GW338.out, GE338.out, NB328_338.out, NB338_328.out, NB329_338.out, NB338_329.out, HB.out⟩)
      ·skip
       refine box_step ?hg (N := 6) ?hd (cs := #[.slice none 0 0, .int .i64 0]) (t := 24) ?hr ?_;(case hd => rfl);(case hg => rfl);(case hr => first | (go_simp;done) | (go_simp;rfl))
       intro g339 hg w16 hbox hb
       have n0_ := Aside0.mk (Kd.R_below HO332.out hb)
       have n1_ := Aside0.mk (Kd.R_below HO336.out hb)
       have n2_ := Aside0.mk (blk_below (g := g328) (o := .cells #[.slice A0_0 l0_0.length c0_0, .int .i64 a0_1] 24 (0, 0)) B328.out hb)
       have n3_ := Aside0.mk (blk_below (g := g329) (o := .cells #[.slice A1_0 l1_0.length c1_0, .int .i64 a1_1] 24 (0, 0)) B329.out hb)
       have n4_ := Aside0.mk (below_step HB.out hb)
       have n5_ := Aside0.mk (hbox)
       have n6_ := Aside0.mk ((by rw [hg];exact (below_size HB.out) : w.heap.size ≤ g339))
       have n7_ := Aside0.mk ((by rw [hg];exact (below_size HB.out) : w.heap.size ≤ g339))
       have n8_ := Aside0.mk ((by rw [hg];exact Nat.ne_of_lt (blk_lt (g := g328) (o := .cells #[.slice A0_0 l0_0.length c0_0, .int .i64 a0_1] 24 (0, 0)) B328.out) : g328 ≠ g339))
       have n9_ := Aside0.mk ((by rw [hg];exact Nat.ne_of_gt (blk_lt (g := g328) (o := .cells #[.slice A0_0 l0_0.length c0_0, .int .i64 a0_1] 24 (0, 0)) B328.out) : g339 ≠ g328))
       have n10_ := Aside0.mk ((by rw [hg];exact Nat.ne_of_lt (blk_lt (g := g329) (o := .cells #[.slice A1_0 l1_0.length c1_0, .int .i64 a1_1] 24 (0, 0)) B329.out) : g329 ≠ g339))
       have n11_ := Aside0.mk ((by rw [hg];exact Nat.ne_of_gt (blk_lt (g := g329) (o := .cells #[.slice A1_0 l1_0.length c1_0, .int .i64 a1_1] 24 (0, 0)) B329.out) : g339 ≠ g329))
       clear HO332
       clear HO336
       clear B328
       clear B329
       clear HB
       have HO332 := n0_
       have HO336 := n1_
       have B328 := n2_
       have B329 := n3_
       have HB := n4_
       have B339 := n5_
       have GW339 := n6_
       have GE339 := n7_
       have NB328_339 := n8_
       have NB339_328 := n9_
       have NB329_339 := n10_
       have NB339_329 := n11_
       clear n0_ n1_ n2_ n3_ n4_ n5_ n6_ n7_ n8_ n9_ n10_ n11_
       clear hb hbox hg
       refine hK.out _ _ ⟨(blk_cell B328.out 0).trans rfl, (blk_cell B328.out 1).trans rfl, (blk_cell B329.out 0).trans rfl, (blk_cell B329.out 1).trans rfl⟩ (fun hHeld => ?_)
       clear hK K
       refine norm_ (a' := ?_) ?_ ?_
       rotate_left
       ·show Act.put _ (some 6) _ = _
        simp only [Act.put, List.setIfInBounds_toArray, List.set_cons_zero, List.set_cons_succ]
        rfl
       exact norm_ (by first | (simp only [putAll, Act.put, List.setIfInBounds_toArray, List.set_cons_zero, List.set_cons_succ];done) | (simp only [putAll, Act.put, List.setIfInBounds_toArray, List.set_cons_zero, List.set_cons_succ];rfl)) (hJ1_3_5 (v331, v335, g339) _ ⟨hHeld, HO332.out, HO336.out, B328.out, B329.out, B339.out, GW339.out, GE339.out, NB328_339.out, NB339_328.out, NB329_339.out, NB339_329.out, HB.out⟩)
    ·skip
     rintro ⟨v331, g338, g339⟩ w16 ⟨hS_, h0_, h1_, h2_, h3_, h4_, h5_, h6_, h7_, h8_, h9_, h10_, h11_, h12_, h13_, h14_, h15_, h16_, h17_, h18_, h19_⟩
     have n0_ : Aside0 (Kd.R (Kd.int .u8) 5 w16 w.heap.size (fun _ => True) (wideV v331) (t330 ++ [119])) := ⟨h0_⟩
     have n1_ : Aside0 (w16.heap[g328]? = some (.cells #[.slice A0_0 l0_0.length c0_0, .int .i64 a0_1] 24 (0, 0))) := ⟨h1_⟩
     have n2_ : Aside0 (w16.heap[g329]? = some (.cells #[.slice A1_0 l1_0.length c1_0, .int .i64 a1_1] 24 (0, 0))) := ⟨h2_⟩
     have n3_ : Aside0 (w16.heap[g338]? = some (.cells #[.slice none 0 0, .int .i64 0] 24 (0, 0))) := ⟨h3_⟩
     have n4_ : Aside0 (w16.heap[g339]? = some (.cells #[.slice none 0 0, .int .i64 0] 24 (0, 0))) := ⟨h4_⟩
     have n5_ : Aside0 (w.heap.size ≤ g338) := ⟨h5_⟩
     have n6_ : Aside0 (w.heap.size ≤ g338) := ⟨h6_⟩
     have n7_ : Aside0 (g328 ≠ g338) := ⟨h7_⟩
     have n8_ : Aside0 (g338 ≠ g328) := ⟨h8_⟩
     have n9_ : Aside0 (g329 ≠ g338) := ⟨h9_⟩
     have n10_ : Aside0 (g338 ≠ g329) := ⟨h10_⟩
     have n11_ : Aside0 (g339 ≠ g338) := ⟨h11_⟩
     have n12_ : Aside0 (g338 ≠ g339) := ⟨h12_⟩
     have n13_ : Aside0 (w.heap.size ≤ g339) := ⟨h13_⟩
     have n14_ : Aside0 (w.heap.size ≤ g339) := ⟨h14_⟩
     have n15_ : Aside0 (g328 ≠ g339) := ⟨h15_⟩
     have n16_ : Aside0 (g339 ≠ g328) := ⟨h16_⟩
     have n17_ : Aside0 (g329 ≠ g339) := ⟨h17_⟩
     have n18_ : Aside0 (g339 ≠ g329) := ⟨h18_⟩
     have n19_ : Aside0 (Below w.heap.size w w16) := ⟨h19_⟩
     clear B328
     clear B329
     clear HB
     clear h0_ h1_ h2_ h3_ h4_ h5_ h6_ h7_ h8_ h9_ h10_ h11_ h12_ h13_ h14_ h15_ h16_ h17_ h18_ h19_
     have HO332 := n0_
     have B328 := n1_
     have B329 := n2_
     have B338 := n3_
     have B339 := n4_
     have GW338 := n5_
     have GE338 := n6_
     have NB328_338 := n7_
     have NB338_328 := n8_
     have NB329_338 := n9_
     have NB338_329 := n10_
     have NB339_338 := n11_
     have NB338_339 := n12_
     have GW339 := n13_
     have GE339 := n14_
     have NB328_339 := n15_
     have NB339_328 := n16_
     have NB329_339 := n17_
     have NB339_329 := n18_
     have HB := n19_
     clear n0_ n1_ n2_ n3_ n4_ n5_ n6_ n7_ n8_ n9_ n10_ n11_ n12_ n13_ n14_ n15_ n16_ n17_ n18_ n19_
     have hHeld : w16.cell? ⟨g328, 0, none⟩ = some (.slice A0_0 l0_0.length c0_0) ∧ w16.cell? ⟨g328, 1, none⟩ = some (.int .i64 a0_1) ∧ w16.cell? ⟨g329, 0, none⟩ = some (.slice A1_0 l1_0.length c1_0) ∧ w16.cell? ⟨g329, 1, none⟩ = some (.int .i64 a1_1) := hS_
     refine norm_ (a' := ?_) ?_ ?_
     rotate_left
     ·simp only [putAll, Act.put, List.setIfInBounds_toArray, List.set_cons_zero, List.set_cons_succ]
      rfl
     refine one_ (i := 3) (N := some 19) #[true, true, true, true, true, true, false, false] rfl rfl (one_of HT_.out (by kernel_rfl)) (by decide) (fun K hK => ?_)
     refine goes_ Try.func11 (by kernel_rfl) rfl #[.agg #[.slice A1_0 l1_0.length c1_0, .int .i64 a1_1]] (by rfl) rfl rfl (by (try simp only [List.map_toArray, List.map_cons, List.map_nil]);first | done | rfl) ?_
     with_reducible refine (own_wideV _ _ l1_0 a1_1 t334 t337 _ ?side1 ?side2 A4.out).mono ?_
     (case side1 => repeat (first | exact (Kd.C_below HR1_0.out HB.out) | (with_reducible refine Kd.C_alloc ?_ _) | (with_reducible refine Kd.C_drewN ?_ _) | (with_reducible refine Kd.C_drew ?_)))
     (case side2 => exact HC1_0.out)
     rintro e w17 ⟨v335, rfl, ho0, hb⟩
     refine ⟨_, rfl, ?_⟩
     have n0_ := Aside0.mk (Kd.R_elder' HO332.out (Kd.R_base ho0) hb)
     have n1_ := Aside0.mk (Kd.R_lower (Kd.R_new' ho0 (Kd.R_lt HO332.out)) (below_size HB.out))
     have n2_ := Aside0.mk (blk_below (g := g328) (o := .cells #[.slice A0_0 l0_0.length c0_0, .int .i64 a0_1] 24 (0, 0)) B328.out hb)
     have n3_ := Aside0.mk (blk_below (g := g329) (o := .cells #[.slice A1_0 l1_0.length c1_0, .int .i64 a1_1] 24 (0, 0)) B329.out hb)
     have n4_ := Aside0.mk (blk_below (g := g338) (o := .cells #[.slice none 0 0, .int .i64 0] 24 (0, 0)) B338.out hb)
     have n5_ := Aside0.mk (blk_below (g := g339) (o := .cells #[.slice none 0 0, .int .i64 0] 24 (0, 0)) B339.out hb)
     have n6_ := Aside0.mk (below_step HB.out hb)
     clear HO332
     clear B328
     clear B329
     clear B338
     clear B339
     clear HB
     have HO332 := n0_
     have HO336 := n1_
     have B328 := n2_
     have B329 := n3_
     have B338 := n4_
     have B339 := n5_
     have HB := n6_
     clear n0_ n1_ n2_ n3_ n4_ n5_ n6_
     (try clear hb)
     (try clear ho0)
     refine hK.out _ _ ⟨(blk_cell B328.out 0).trans rfl, (blk_cell B328.out 1).trans rfl, (blk_cell B329.out 0).trans rfl, (blk_cell B329.out 1).trans rfl⟩ (fun hHeld => ?_)
     clear hK K
     refine norm_ (a' := ?_) ?_ ?_
     rotate_left
     ·show Act.put _ (some 19) _ = _
      simp only [Act.put, List.setIfInBounds_toArray, List.set_cons_zero, List.set_cons_succ]
      rfl
     exact norm_ (by first | (simp only [putAll, Act.put, List.setIfInBounds_toArray, List.set_cons_zero, List.set_cons_succ];done) | (simp only [putAll, Act.put, List.setIfInBounds_toArray, List.set_cons_zero, List.set_cons_succ];rfl)) (hJ1_3_4_5 (v331, v335, g338, g339) _ ⟨hHeld, (by (with_reducible repeat (first | apply Kd.R_alloc | apply Kd.R_drewN | apply Kd.R_drew));exact Kd.R_mono HO332.out (fun _ hk => hk.2)), (by (with_reducible repeat (first | apply Kd.R_alloc | apply Kd.R_drewN | apply Kd.R_drew));exact Kd.R_mono HO336.out (fun _ hk => hk.2)), B328.out, B329.out, B338.out, B339.out, GW338.out, GE338.out, NB328_338.out, NB338_328.out, NB329_338.out, NB338_329.out, NB339_338.out, NB338_339.out, GW339.out, GE339.out, NB328_339.out, NB339_328.out, NB329_339.out, NB339_329.out, HB.out⟩)
   ·skip
    rintro ⟨v331, v335, g339⟩ w16 ⟨hS_, h0_, h1_, h2_, h3_, h4_, h5_, h6_, h7_, h8_, h9_, h10_, h11_⟩
    have n0_ : Aside0 (Kd.R (Kd.int .u8) 5 w16 w.heap.size (fun k_ => some k_ ≠ (wideV v335).ownBlock) (wideV v331) (t330 ++ [119])) := ⟨h0_⟩
    have n1_ : Aside0 (Kd.R (Kd.int .u8) 5 w16 w.heap.size (fun k_ => some k_ ≠ (wideV v331).ownBlock) (wideV v335) (t334 ++ [119])) := ⟨h1_⟩
    have n2_ : Aside0 (w16.heap[g328]? = some (.cells #[.slice A0_0 l0_0.length c0_0, .int .i64 a0_1] 24 (0, 0))) := ⟨h2_⟩
    have n3_ : Aside0 (w16.heap[g329]? = some (.cells #[.slice A1_0 l1_0.length c1_0, .int .i64 a1_1] 24 (0, 0))) := ⟨h3_⟩
    have n4_ : Aside0 (w16.heap[g339]? = some (.cells #[.slice none 0 0, .int .i64 0] 24 (0, 0))) := ⟨h4_⟩
    have n5_ : Aside0 (w.heap.size ≤ g339) := ⟨h5_⟩
    have n6_ : Aside0 (w.heap.size ≤ g339) := ⟨h6_⟩
    have n7_ : Aside0 (g328 ≠ g339) := ⟨h7_⟩
    have n8_ : Aside0 (g339 ≠ g328) := ⟨h8_⟩
    have n9_ : Aside0 (g329 ≠ g339) := ⟨h9_⟩
    have n10_ : Aside0 (g339 ≠ g329) := ⟨h10_⟩
    have n11_ : Aside0 (Below w.heap.size w w16) := ⟨h11_⟩
    clear B328
    clear B329
    clear HB
    clear h0_ h1_ h2_ h3_ h4_ h5_ h6_ h7_ h8_ h9_ h10_ h11_
    have HO332 := n0_
    have HO336 := n1_
    have B328 := n2_
    have B329 := n3_
    have B339 := n4_
    have GW339 := n5_
    have GE339 := n6_
    have NB328_339 := n7_
    have NB339_328 := n8_
    have NB329_339 := n9_
    have NB339_329 := n10_
    have HB := n11_
    clear n0_ n1_ n2_ n3_ n4_ n5_ n6_ n7_ n8_ n9_ n10_ n11_
    have hHeld : w16.cell? ⟨g328, 0, none⟩ = some (.slice A0_0 l0_0.length c0_0) ∧ w16.cell? ⟨g328, 1, none⟩ = some (.int .i64 a0_1) ∧ w16.cell? ⟨g329, 0, none⟩ = some (.slice A1_0 l1_0.length c1_0) ∧ w16.cell? ⟨g329, 1, none⟩ = some (.int .i64 a1_1) := hS_
    refine norm_ (a' := ?_) ?_ ?_
    rotate_left
    ·simp only [putAll, Act.put, List.setIfInBounds_toArray, List.set_cons_zero, List.set_cons_succ]
     rfl
    refine one_ (i := 4) (N := some 5) #[true, true, true, true, true, true, false, false] rfl rfl (one_of HT_.out (by kernel_rfl)) (by decide) (fun K hK => ?_)
    refine box_step ?hg (N := 5) ?hd (cs := #[.slice none 0 0, .int .i64 0]) (t := 24) ?hr ?_;(case hd => rfl);(case hg => rfl);(case hr => first | (go_simp;done) | (go_simp;rfl))
    intro g338 hg w17 hbox hb
    have n0_ := Aside0.mk (Kd.R_below HO332.out hb)
    have n1_ := Aside0.mk (Kd.R_below HO336.out hb)
    have n2_ := Aside0.mk (blk_below (g := g328) (o := .cells #[.slice A0_0 l0_0.length c0_0, .int .i64 a0_1] 24 (0, 0)) B328.out hb)
    have n3_ := Aside0.mk (blk_below (g := g329) (o := .cells #[.slice A1_0 l1_0.length c1_0, .int .i64 a1_1] 24 (0, 0)) B329.out hb)
    have n4_ := Aside0.mk (blk_below (g := g339) (o := .cells #[.slice none 0 0, .int .i64 0] 24 (0, 0)) B339.out hb)
    have n5_ := Aside0.mk (below_step HB.out hb)
    have n6_ := Aside0.mk (hbox)
    have n7_ := Aside0.mk ((by rw [hg];exact (below_size HB.out) : w.heap.size ≤ g338))
    have n8_ := Aside0.mk ((by rw [hg];exact (below_size HB.out) : w.heap.size ≤ g338))
    have n9_ := Aside0.mk ((by rw [hg];exact Nat.ne_of_lt (blk_lt (g := g328) (o := .cells #[.slice A0_0 l0_0.length c0_0, .int .i64 a0_1] 24 (0, 0)) B328.out) : g328 ≠ g338))
    have n10_ := Aside0.mk ((by rw [hg];exact Nat.ne_of_gt (blk_lt (g := g328) (o := .cells #[.slice A0_0 l0_0.length c0_0, .int .i64 a0_1] 24 (0, 0)) B328.out) : g338 ≠ g328))
    have n11_ := Aside0.mk ((by rw [hg];exact Nat.ne_of_lt (blk_lt (g := g329) (o := .cells #[.slice A1_0 l1_0.length c1_0, .int .i64 a1_1] 24 (0, 0)) B329.out) : g329 ≠ g338))
    have n12_ := Aside0.mk ((by rw [hg];exact Nat.ne_of_gt (blk_lt (g := g329) (o := .cells #[.slice A1_0 l1_0.length c1_0, .int .i64 a1_1] 24 (0, 0)) B329.out) : g338 ≠ g329))
    have n13_ := Aside0.mk ((by rw [hg];exact Nat.ne_of_lt (blk_lt (g := g339) (o := .cells #[.slice none 0 0, .int .i64 0] 24 (0, 0)) B339.out) : g339 ≠ g338))
    have n14_ := Aside0.mk ((by rw [hg];exact Nat.ne_of_gt (blk_lt (g := g339) (o := .cells #[.slice none 0 0, .int .i64 0] 24 (0, 0)) B339.out) : g338 ≠ g339))
    clear HO332
    clear HO336
    clear B328
    clear B329
    clear B339
    clear HB
    have HO332 := n0_
    have HO336 := n1_
    have B328 := n2_
    have B329 := n3_
    have B339 := n4_
    have HB := n5_
    have B338 := n6_
    have GW338 := n7_
    have GE338 := n8_
    have NB328_338 := n9_
    have NB338_328 := n10_
    have NB329_338 := n11_
    have NB338_329 := n12_
    have NB339_338 := n13_
    have NB338_339 := n14_
    clear n0_ n1_ n2_ n3_ n4_ n5_ n6_ n7_ n8_ n9_ n10_ n11_ n12_ n13_ n14_
    clear hb hbox hg
    refine hK.out _ _ ⟨(blk_cell B328.out 0).trans rfl, (blk_cell B328.out 1).trans rfl, (blk_cell B329.out 0).trans rfl, (blk_cell B329.out 1).trans rfl⟩ (fun hHeld => ?_)
    clear hK K
    refine norm_ (a' := ?_) ?_ ?_
    rotate_left
    ·show Act.put _ (some 5) _ = _
     simp only [Act.put, List.setIfInBounds_toArray, List.set_cons_zero, List.set_cons_succ]
     rfl
    exact norm_ (by first | (simp only [putAll, Act.put, List.setIfInBounds_toArray, List.set_cons_zero, List.set_cons_succ];done) | (simp only [putAll, Act.put, List.setIfInBounds_toArray, List.set_cons_zero, List.set_cons_succ];rfl)) (hJ1_3_4_5 (v331, v335, g338, g339) _ ⟨hHeld, HO332.out, HO336.out, B328.out, B329.out, B338.out, B339.out, GW338.out, GE338.out, NB328_338.out, NB338_328.out, NB329_338.out, NB338_329.out, NB339_338.out, NB338_339.out, GW339.out, GE339.out, NB328_339.out, NB339_328.out, NB329_339.out, NB339_329.out, HB.out⟩)
  ·skip
   rintro ⟨v331, v335, g338⟩ w16 ⟨hS_, h0_, h1_, h2_, h3_, h4_, h5_, h6_, h7_, h8_, h9_, h10_, h11_⟩
   have n0_ : Aside0 (Kd.R (Kd.int .u8) 5 w16 w.heap.size (fun k_ => some k_ ≠ (wideV v335).ownBlock) (wideV v331) (t330 ++ [119])) := ⟨h0_⟩
   have n1_ : Aside0 (Kd.R (Kd.int .u8) 5 w16 w.heap.size (fun k_ => some k_ ≠ (wideV v331).ownBlock) (wideV v335) (t334 ++ [119])) := ⟨h1_⟩
   have n2_ : Aside0 (w16.heap[g328]? = some (.cells #[.slice A0_0 l0_0.length c0_0, .int .i64 a0_1] 24 (0, 0))) := ⟨h2_⟩
   have n3_ : Aside0 (w16.heap[g329]? = some (.cells #[.slice A1_0 l1_0.length c1_0, .int .i64 a1_1] 24 (0, 0))) := ⟨h3_⟩
   have n4_ : Aside0 (w16.heap[g338]? = some (.cells #[.slice none 0 0, .int .i64 0] 24 (0, 0))) := ⟨h4_⟩
   have n5_ : Aside0 (w.heap.size ≤ g338) := ⟨h5_⟩
   have n6_ : Aside0 (w.heap.size ≤ g338) := ⟨h6_⟩
   have n7_ : Aside0 (g328 ≠ g338) := ⟨h7_⟩
   have n8_ : Aside0 (g338 ≠ g328) := ⟨h8_⟩
   have n9_ : Aside0 (g329 ≠ g338) := ⟨h9_⟩
   have n10_ : Aside0 (g338 ≠ g329) := ⟨h10_⟩
   have n11_ : Aside0 (Below w.heap.size w w16) := ⟨h11_⟩
   clear B328
   clear B329
   clear HB
   clear h0_ h1_ h2_ h3_ h4_ h5_ h6_ h7_ h8_ h9_ h10_ h11_
   have HO332 := n0_
   have HO336 := n1_
   have B328 := n2_
   have B329 := n3_
   have B338 := n4_
   have GW338 := n5_
   have GE338 := n6_
   have NB328_338 := n7_
   have NB338_328 := n8_
   have NB329_338 := n9_
   have NB338_329 := n10_
   have HB := n11_
   clear n0_ n1_ n2_ n3_ n4_ n5_ n6_ n7_ n8_ n9_ n10_ n11_
   have hHeld : w16.cell? ⟨g328, 0, none⟩ = some (.slice A0_0 l0_0.length c0_0) ∧ w16.cell? ⟨g328, 1, none⟩ = some (.int .i64 a0_1) ∧ w16.cell? ⟨g329, 0, none⟩ = some (.slice A1_0 l1_0.length c1_0) ∧ w16.cell? ⟨g329, 1, none⟩ = some (.int .i64 a1_1) := hS_
   refine norm_ (a' := ?_) ?_ ?_
   rotate_left
   ·simp only [putAll, Act.put, List.setIfInBounds_toArray, List.set_cons_zero, List.set_cons_succ]
    rfl
   refine one_ (i := 5) (N := some 6) #[true, true, true, true, true, true, false, false] rfl rfl (one_of HT_.out (by kernel_rfl)) (by decide) (fun K hK => ?_)
   refine box_step ?hg (N := 6) ?hd (cs := #[.slice none 0 0, .int .i64 0]) (t := 24) ?hr ?_;(case hd => rfl);(case hg => rfl);(case hr => first | (go_simp;done) | (go_simp;rfl))
   intro g339 hg w17 hbox hb
   have n0_ := Aside0.mk (Kd.R_below HO332.out hb)
   have n1_ := Aside0.mk (Kd.R_below HO336.out hb)
   have n2_ := Aside0.mk (blk_below (g := g328) (o := .cells #[.slice A0_0 l0_0.length c0_0, .int .i64 a0_1] 24 (0, 0)) B328.out hb)
   have n3_ := Aside0.mk (blk_below (g := g329) (o := .cells #[.slice A1_0 l1_0.length c1_0, .int .i64 a1_1] 24 (0, 0)) B329.out hb)
   have n4_ := Aside0.mk (blk_below (g := g338) (o := .cells #[.slice none 0 0, .int .i64 0] 24 (0, 0)) B338.out hb)
   have n5_ := Aside0.mk (below_step HB.out hb)
   have n6_ := Aside0.mk (hbox)
   have n7_ := Aside0.mk ((by rw [hg];exact (below_size HB.out) : w.heap.size ≤ g339))
   have n8_ := Aside0.mk ((by rw [hg];exact (below_size HB.out) : w.heap.size ≤ g339))
   have n9_ := Aside0.mk ((by rw [hg];exact Nat.ne_of_lt (blk_lt (g := g328) (o := .cells #[.slice A0_0 l0_0.length c0_0, .int .i64 a0_1] 24 (0, 0)) B328.out) : g328 ≠ g339))
   have n10_ := Aside0.mk ((by rw [hg];exact Nat.ne_of_gt (blk_lt (g := g328) (o := .cells #[.slice A0_0 l0_0.length c0_0, .int .i64 a0_1] 24 (0, 0)) B328.out) : g339 ≠ g328))
   have n11_ := Aside0.mk ((by rw [hg];exact Nat.ne_of_lt (blk_lt (g := g329) (o := .cells #[.slice A1_0 l1_0.length c1_0, .int .i64 a1_1] 24 (0, 0)) B329.out) : g329 ≠ g339))
   have n12_ := Aside0.mk ((by rw [hg];exact Nat.ne_of_gt (blk_lt (g := g329) (o := .cells #[.slice A1_0 l1_0.length c1_0, .int .i64 a1_1] 24 (0, 0)) B329.out) : g339 ≠ g329))
   have n13_ := Aside0.mk ((by rw [hg];exact Nat.ne_of_lt (blk_lt (g := g338) (o := .cells #[.slice none 0 0, .int .i64 0] 24 (0, 0)) B338.out) : g338 ≠ g339))
   have n14_ := Aside0.mk ((by rw [hg];exact Nat.ne_of_gt (blk_lt (g := g338) (o := .cells #[.slice none 0 0, .int .i64 0] 24 (0, 0)) B338.out) : g339 ≠ g338))
   clear HO332
   clear HO336
   clear B328
   clear B329
   clear B338
   clear HB
   have HO332 := n0_
   have HO336 := n1_
   have B328 := n2_
   have B329 := n3_
   have B338 := n4_
   have HB := n5_
   have B339 := n6_
   have GW339 := n7_
   have GE339 := n8_
   have NB328_339 := n9_
   have NB339_328 := n10_
   have NB329_339 := n11_
   have NB339_329 := n12_
   have NB338_339 := n13_
   have NB339_338 := n14_
   clear n0_ n1_ n2_ n3_ n4_ n5_ n6_ n7_ n8_ n9_ n10_ n11_ n12_ n13_ n14_
   clear hb hbox hg
   refine hK.out _ _ ⟨(blk_cell B328.out 0).trans rfl, (blk_cell B328.out 1).trans rfl, (blk_cell B329.out 0).trans rfl, (blk_cell B329.out 1).trans rfl⟩ (fun hHeld => ?_)
   clear hK K
   refine norm_ (a' := ?_) ?_ ?_
   rotate_left
   ·show Act.put _ (some 6) _ = _
    simp only [Act.put, List.setIfInBounds_toArray, List.set_cons_zero, List.set_cons_succ]
    rfl
   exact norm_ (by first | (simp only [putAll, Act.put, List.setIfInBounds_toArray, List.set_cons_zero, List.set_cons_succ];done) | (simp only [putAll, Act.put, List.setIfInBounds_toArray, List.set_cons_zero, List.set_cons_succ];rfl)) (hJ1_3_4_5 (v331, v335, g338, g339) _ ⟨hHeld, HO332.out, HO336.out, B328.out, B329.out, B338.out, B339.out, GW338.out, GE338.out, NB328_338.out, NB338_328.out, NB329_338.out, NB338_329.out, NB339_338.out, NB338_339.out, GW339.out, GE339.out, NB328_339.out, NB339_328.out, NB329_339.out, NB339_329.out, HB.out⟩)
 rintro ⟨v331, v335, g338, g339⟩ w17 ⟨hS_, h0_, h1_, h2_, h3_, h4_, h5_, h6_, h7_, h8_, h9_, h10_, h11_, h12_, h13_, h14_, h15_, h16_, h17_, h18_, h19_, h20_⟩
 have n0_ : Aside0 (Kd.R (Kd.int .u8) 5 w17 w.heap.size (fun k_ => some k_ ≠ (wideV v335).ownBlock) (wideV v331) (t330 ++ [119])) := ⟨h0_⟩
 have n1_ : Aside0 (Kd.R (Kd.int .u8) 5 w17 w.heap.size (fun k_ => some k_ ≠ (wideV v331).ownBlock) (wideV v335) (t334 ++ [119])) := ⟨h1_⟩
 have n2_ : Aside0 (w17.heap[g328]? = some (.cells #[.slice A0_0 l0_0.length c0_0, .int .i64 a0_1] 24 (0, 0))) := ⟨h2_⟩
 have n3_ : Aside0 (w17.heap[g329]? = some (.cells #[.slice A1_0 l1_0.length c1_0, .int .i64 a1_1] 24 (0, 0))) := ⟨h3_⟩
 have n4_ : Aside0 (w17.heap[g338]? = some (.cells #[.slice none 0 0, .int .i64 0] 24 (0, 0))) := ⟨h4_⟩
 have n5_ : Aside0 (w17.heap[g339]? = some (.cells #[.slice none 0 0, .int .i64 0] 24 (0, 0))) := ⟨h5_⟩
 have n6_ : Aside0 (w.heap.size ≤ g338) := ⟨h6_⟩
 have n7_ : Aside0 (w.heap.size ≤ g338) := ⟨h7_⟩
 have n8_ : Aside0 (g328 ≠ g338) := ⟨h8_⟩
 have n9_ : Aside0 (g338 ≠ g328) := ⟨h9_⟩
 have n10_ : Aside0 (g329 ≠ g338) := ⟨h10_⟩
 have n11_ : Aside0 (g338 ≠ g329) := ⟨h11_⟩
 have n12_ : Aside0 (g339 ≠ g338) := ⟨h12_⟩
 have n13_ : Aside0 (g338 ≠ g339) := ⟨h13_⟩
 have n14_ : Aside0 (w.heap.size ≤ g339) := ⟨h14_⟩
 have n15_ : Aside0 (w.heap.size ≤ g339) := ⟨h15_⟩
 have n16_ : Aside0 (g328 ≠ g339) := ⟨h16_⟩
 have n17_ : Aside0 (g339 ≠ g328) := ⟨h17_⟩
 have n18_ : Aside0 (g329 ≠ g339) := ⟨h18_⟩
 have n19_ : Aside0 (g339 ≠ g329) := ⟨h19_⟩
 have n20_ : Aside0 (Below w.heap.size w w17) := ⟨h20_⟩
 clear B328
 clear B329
 clear HB
 clear h0_ h1_ h2_ h3_ h4_ h5_ h6_ h7_ h8_ h9_ h10_ h11_ h12_ h13_ h14_ h15_ h16_ h17_ h18_ h19_ h20_
 have HO332 := n0_
 have HO336 := n1_
 have B328 := n2_
 have B329 := n3_
 have B338 := n4_
 have B339 := n5_
 have GW338 := n6_
 have GE338 := n7_
 have NB328_338 := n8_
 have NB338_328 := n9_
 have NB329_338 := n10_
 have NB338_329 := n11_
 have NB339_338 := n12_
 have NB338_339 := n13_
 have GW339 := n14_
 have GE339 := n15_
 have NB328_339 := n16_
 have NB339_328 := n17_
 have NB329_339 := n18_
 have NB339_329 := n19_
 have HB := n20_
 clear n0_ n1_ n2_ n3_ n4_ n5_ n6_ n7_ n8_ n9_ n10_ n11_ n12_ n13_ n14_ n15_ n16_ n17_ n18_ n19_ n20_
 have hHeld : w17.cell? ⟨g328, 0, none⟩ = some (.slice A0_0 l0_0.length c0_0) ∧ w17.cell? ⟨g328, 1, none⟩ = some (.int .i64 a0_1) ∧ w17.cell? ⟨g329, 0, none⟩ = some (.slice A1_0 l1_0.length c1_0) ∧ w17.cell? ⟨g329, 1, none⟩ = some (.int .i64 a1_1) := hS_
 obtain ⟨Ao18, co18, eo18⟩ := wide_slice HO332.out
 (first | subst eo18 | (injection eo18 with f1_ f2_ f3_;have f4_ := f1_.symm;have f5_ := f3_.symm;clear f1_ f2_ f3_;subst f4_;subst f5_))
 have HO332 := wide_fact HO332
 obtain ⟨Ao21, co21, eo21⟩ := wide_slice HO336.out
 (first | subst eo21 | (injection eo21 with f1_ f2_ f3_;have f4_ := f1_.symm;have f5_ := f3_.symm;clear f1_ f2_ f3_;subst f4_;subst f5_))
 have HO336 := wide_fact HO336
 refine norm_ (a' := ?_) ?_ ?_
 rotate_left
 ·simp only [putAll, Act.put, List.setIfInBounds_toArray, List.set_cons_zero, List.set_cons_succ]
  rfl
 refine one_ (i := 6) (N := none) #[true, true, true, true, true, true, true, false] rfl rfl (one_of HT_.out (by kernel_rfl)) (by decide) (fun K hK => ?_)
 have hs19 : w17.cell? ⟨g338, 0, none⟩ = some (.slice none 0 0) := (blk_cell B338.out 0).trans rfl
 have hfs19 := blk_frozen B338.out 0
 have hns19_0 := NB328_338.out
 have hns19_1 := NB329_338.out
 have hns19_3 := NB339_338.out
 have hms19_0 := NB338_328.out
 have hms19_1 := NB338_329.out
 have hms19_3 := NB338_339.out
 have hs20 : w17.cell? ⟨g338, 1, none⟩ = some (.int .i64 0) := (blk_cell B338.out 1).trans rfl
 have hfs20 := blk_frozen B338.out 1
 have hns20_0 := NB328_338.out
 have hns20_1 := NB329_338.out
 have hns20_3 := NB339_338.out
 have hms20_0 := NB338_328.out
 have hms20_1 := NB338_329.out
 have hms20_3 := NB338_339.out
 refine skip_ (w1 := ?_) (by rfl) rfl ?_ ?_
 rotate_left
 ·go_simp
  rfl
 refine hK.out _ _ ⟨((cell_far (p := ⟨g338, _, none⟩) NB328_338.out _).trans (((cell_far (p := ⟨g338, _, none⟩) NB328_338.out _).trans (hHeld.1)))), ((cell_far (p := ⟨g338, _, none⟩) NB328_338.out _).trans (((cell_far (p := ⟨g338, _, none⟩) NB328_338.out _).trans (hHeld.2.1)))), ((cell_far (p := ⟨g338, _, none⟩) NB329_338.out _).trans (((cell_far (p := ⟨g338, _, none⟩) NB329_338.out _).trans (hHeld.2.2.1)))), ((cell_far (p := ⟨g338, _, none⟩) NB329_338.out _).trans (((cell_far (p := ⟨g338, _, none⟩) NB329_338.out _).trans (hHeld.2.2.2))))⟩ (fun hHeld => ?_)
 clear hK K
 refine one_ (i := 7) (N := none) #[true, true, true, true, true, true, true, true] rfl rfl (one_of HT_.out (by kernel_rfl)) (by decide) (fun K hK => ?_)
 have hs22 : w17.cell? ⟨g339, 0, none⟩ = some (.slice none 0 0) := (blk_cell B339.out 0).trans rfl
 have hfs22 := blk_frozen B339.out 0
 have hns22_0 := NB328_339.out
 have hns22_1 := NB329_339.out
 have hns22_2 := NB338_339.out
 have hms22_0 := NB339_328.out
 have hms22_1 := NB339_329.out
 have hms22_2 := NB339_338.out
 have hs23 : w17.cell? ⟨g339, 1, none⟩ = some (.int .i64 0) := (blk_cell B339.out 1).trans rfl
 have hfs23 := blk_frozen B339.out 1
 have hns23_0 := NB328_339.out
 have hns23_1 := NB329_339.out
 have hns23_2 := NB338_339.out
 have hms23_0 := NB339_328.out
 have hms23_1 := NB339_329.out
 have hms23_2 := NB339_338.out
 refine skip_ (w1 := ?_) (by rfl) rfl ?_ ?_
 rotate_left
 ·go_simp
  rfl
 refine hK.out _ _ ⟨((cell_far (p := ⟨g339, _, none⟩) NB328_339.out _).trans (((cell_far (p := ⟨g339, _, none⟩) NB328_339.out _).trans (hHeld.1)))), ((cell_far (p := ⟨g339, _, none⟩) NB328_339.out _).trans (((cell_far (p := ⟨g339, _, none⟩) NB328_339.out _).trans (hHeld.2.1)))), ((cell_far (p := ⟨g339, _, none⟩) NB329_339.out _).trans (((cell_far (p := ⟨g339, _, none⟩) NB329_339.out _).trans (hHeld.2.2.1)))), ((cell_far (p := ⟨g339, _, none⟩) NB329_339.out _).trans (((cell_far (p := ⟨g339, _, none⟩) NB329_339.out _).trans (hHeld.2.2.2))))⟩ (fun hHeld => ?_)
 clear hK K
 refine done_ (done_of HT_.out (by kernel_rfl)) ?_
 have hnb24 := NB338_328.out
 have hnc24 := NB328_338.out
 have hnb25 := NB338_329.out
 have hnc25 := NB329_338.out
 have hnb26 := NB338_339.out
 have hnc26 := NB339_338.out
 have hcz27_0 : w17.cell? ⟨g338, 0, none⟩ = some (.slice none 0 0) := (blk_cell B338.out 0).trans rfl
 have hcz27_1 : w17.cell? ⟨g338, 1, none⟩ = some (.int .i64 0) := (blk_cell B338.out 1).trans rfl
 have hfz27_0 := blk_frozen B338.out 0
 have hfz27_1 := blk_frozen B338.out 1
 have hnb28 := NB339_328.out
 have hnc28 := NB328_339.out
 have hnb29 := NB339_329.out
 have hnc29 := NB329_339.out
 have hcz30_0 : w17.cell? ⟨g339, 0, none⟩ = some (.slice none 0 0) := (blk_cell B339.out 0).trans rfl
 have hcz30_1 : w17.cell? ⟨g339, 1, none⟩ = some (.int .i64 0) := (blk_cell B339.out 1).trans rfl
 have hfz30_0 := blk_frozen B339.out 0
 have hfz30_1 := blk_frozen B339.out 1
 go_upto_region 6 with (first | ((with_reducible refine gate_callee (f := 26) rfl ?_);refine goesL_ (some 23) rfl rfl Try.func26 (by kernel_rfl) rfl #[.agg #[.slice Ao18 t330.length co18, .int .i64 t333], .agg #[.slice Ao21 t334.length co21, .int .i64 t337]] rfl (by (try simp only [List.map_toArray, List.map_cons, List.map_nil]);first | done | rfl | (simp only [List.length_drop, List.length_take];rfl)) ?_;(with_reducible refine (bits_Join.calls k _ _ t330 t333 _ _ t334 t337 t340 t343 t344 _ ?side1 ?side2 ?side3 ?side4 A5.out).mono ?_);(case side1 => refine own_narrow (Kd.R_reads' (e := 5) (base := w.heap.size) (ok := fun k_ => some k_ ≠ (.slice Ao21 (t334.length + 1) co21 : Value).ownBlock) (n := t330.length + 1) (c := co18) ?_).2.2;exact (by (with_reducible repeat (first | apply Kd.R_alloc | apply Kd.R_drewN | apply Kd.R_drew));exact (Kd.R_mono (Kd.R_mono (Kd.R_far (p := ⟨g339, 1, none⟩) (Kd.R_far (p := ⟨g339, 0, none⟩) (Kd.R_far (p := ⟨g338, 1, none⟩) (Kd.R_far (p := ⟨g338, 0, none⟩) (Kd.R_types (Kd.R_types HO332.out B338.out (by decide)) B339.out (by decide)) (fun _ hk => hk.1.2) (.slice Ao18 t330.length co18)) (fun _ hk => hk.1.2) (.int .i64 t333)) (fun _ hk => hk.2) (.slice Ao21 t334.length co21)) (fun _ hk => hk.2) (.int .i64 t337)) (fun _ h_ => h_.1)) (fun _ h_ => h_.1))));(case side2 => exact Nat.le_trans (Nat.le_succ _) (Kd.R_reads' HO332.out).2.1);(case side3 => refine own_narrow (Kd.R_reads' (e := 5) (base := w.heap.size) (ok := fun k_ => some k_ ≠ (.slice Ao18 (t330.length + 1) co18 : Value).ownBlock) (n := t334.length + 1) (c := co21) ?_).2.2;exact (by (with_reducible repeat (first | apply Kd.R_alloc | apply Kd.R_drewN | apply Kd.R_drew));exact (Kd.R_mono (Kd.R_mono (Kd.R_far (p := ⟨g339, 1, none⟩) (Kd.R_far (p := ⟨g339, 0, none⟩) (Kd.R_far (p := ⟨g338, 1, none⟩) (Kd.R_far (p := ⟨g338, 0, none⟩) (Kd.R_types (Kd.R_types HO336.out B338.out (by decide)) B339.out (by decide)) (fun _ hk => hk.1.2) (.slice Ao18 t330.length co18)) (fun _ hk => hk.1.2) (.int .i64 t333)) (fun _ hk => hk.2) (.slice Ao21 t334.length co21)) (fun _ hk => hk.2) (.int .i64 t337)) (fun _ h_ => h_.1)) (fun _ h_ => h_.1))));(case side4 => exact Nat.le_trans (Nat.le_succ _) (Kd.R_reads' HO336.out).2.1);rintro e w31 ⟨v341, rfl, ho0, hb⟩;refine ⟨_, rfl, ?_⟩;have n0_ := Aside0.mk (Kd.R_elder' (by (with_reducible repeat (first | apply Kd.R_alloc | apply Kd.R_drewN | apply Kd.R_drew));exact (Kd.R_mono (Kd.R_mono (Kd.R_far (p := ⟨g339, 1, none⟩) (Kd.R_far (p := ⟨g339, 0, none⟩) (Kd.R_far (p := ⟨g338, 1, none⟩) (Kd.R_far (p := ⟨g338, 0, none⟩) (Kd.R_types (Kd.R_types HO332.out B338.out (by decide)) B339.out (by decide)) (fun _ hk => hk.1.2) (.slice Ao18 t330.length co18)) (fun _ hk => hk.1.2) (.int .i64 t333)) (fun _ hk => hk.2) (.slice Ao21 t334.length co21)) (fun _ hk => hk.2) (.int .i64 t337)) (fun _ h_ => h_.1)) (fun _ h_ => h_.1))) (Kd.R_base ho0) hb);have n1_ := Aside0.mk (Kd.R_elder' (by (with_reducible repeat (first | apply Kd.R_alloc | apply Kd.R_drewN | apply Kd.R_drew));exact (Kd.R_mono (Kd.R_mono (Kd.R_far (p := ⟨g339, 1, none⟩) (Kd.R_far (p := ⟨g339, 0, none⟩) (Kd.R_far (p := ⟨g338, 1, none⟩) (Kd.R_far (p := ⟨g338, 0, none⟩) (Kd.R_types (Kd.R_types HO336.out B338.out (by decide)) B339.out (by decide)) (fun _ hk => hk.1.2) (.slice Ao18 t330.length co18)) (fun _ hk => hk.1.2) (.int .i64 t333)) (fun _ hk => hk.2) (.slice Ao21 t334.length co21)) (fun _ hk => hk.2) (.int .i64 t337)) (fun _ h_ => h_.1)) (fun _ h_ => h_.1))) (Kd.R_base ho0) hb);have n2_ := Aside0.mk (Kd.R_lower (Kd.R_new' (Kd.R_new' ho0 (Kd.R_lt (by (with_reducible repeat (first | apply Kd.R_alloc | apply Kd.R_drewN | apply Kd.R_drew));exact (Kd.R_mono (Kd.R_mono (Kd.R_far (p := ⟨g339, 1, none⟩) (Kd.R_far (p := ⟨g339, 0, none⟩) (Kd.R_far (p := ⟨g338, 1, none⟩) (Kd.R_far (p := ⟨g338, 0, none⟩) (Kd.R_types (Kd.R_types HO332.out B338.out (by decide)) B339.out (by decide)) (fun _ hk => hk.1.2) (.slice Ao18 t330.length co18)) (fun _ hk => hk.1.2) (.int .i64 t333)) (fun _ hk => hk.2) (.slice Ao21 t334.length co21)) (fun _ hk => hk.2) (.int .i64 t337)) (fun _ h_ => h_.1)) (fun _ h_ => h_.1))))) (Kd.R_lt (by (with_reducible repeat (first | apply Kd.R_alloc | apply Kd.R_drewN | apply Kd.R_drew));exact (Kd.R_mono (Kd.R_mono (Kd.R_far (p := ⟨g339, 1, none⟩) (Kd.R_far (p := ⟨g339, 0, none⟩) (Kd.R_far (p := ⟨g338, 1, none⟩) (Kd.R_far (p := ⟨g338, 0, none⟩) (Kd.R_types (Kd.R_types HO336.out B338.out (by decide)) B339.out (by decide)) (fun _ hk => hk.1.2) (.slice Ao18 t330.length co18)) (fun _ hk => hk.1.2) (.int .i64 t333)) (fun _ hk => hk.2) (.slice Ao21 t334.length co21)) (fun _ hk => hk.2) (.int .i64 t337)) (fun _ h_ => h_.1)) (fun _ h_ => h_.1))))) (below_size (by repeat (first | (with_reducible first | exact HB.out | apply below_alloc | apply pw_below_drewN | apply below_drew1 | refine below_set ?_ GE328.out | refine below_set ?_ GE329.out | refine below_set ?_ GE338.out | refine below_set ?_ GE339.out) | exact HB.out))));have n3_ := Aside0.mk (blk_below (g := g328) (o := .cells #[.slice A0_0 l0_0.length c0_0, .int .i64 a0_1] 24 (0, 0)) (by (with_reducible repeat (first | refine blk_drewN ?_ _ | refine blk_drew ?_ | refine blk_alloc ?_ _));refine blk_far ?_ NB328_339.out _;(with_reducible repeat (first | refine blk_drewN ?_ _ | refine blk_drew ?_ | refine blk_alloc ?_ _));refine blk_far ?_ NB328_339.out _;(with_reducible repeat (first | refine blk_drewN ?_ _ | refine blk_drew ?_ | refine blk_alloc ?_ _));refine blk_far ?_ NB328_338.out _;(with_reducible repeat (first | refine blk_drewN ?_ _ | refine blk_drew ?_ | refine blk_alloc ?_ _));refine blk_far ?_ NB328_338.out _;(with_reducible repeat (first | refine blk_drewN ?_ _ | refine blk_drew ?_ | refine blk_alloc ?_ _));exact B328.out) hb);have n4_ := Aside0.mk (blk_below (g := g329) (o := .cells #[.slice A1_0 l1_0.length c1_0, .int .i64 a1_1] 24 (0, 0)) (by (with_reducible repeat (first | refine blk_drewN ?_ _ | refine blk_drew ?_ | refine blk_alloc ?_ _));refine blk_far ?_ NB329_339.out _;(with_reducible repeat (first | refine blk_drewN ?_ _ | refine blk_drew ?_ | refine blk_alloc ?_ _));refine blk_far ?_ NB329_339.out _;(with_reducible repeat (first | refine blk_drewN ?_ _ | refine blk_drew ?_ | refine blk_alloc ?_ _));refine blk_far ?_ NB329_338.out _;(with_reducible repeat (first | refine blk_drewN ?_ _ | refine blk_drew ?_ | refine blk_alloc ?_ _));refine blk_far ?_ NB329_338.out _;(with_reducible repeat (first | refine blk_drewN ?_ _ | refine blk_drew ?_ | refine blk_alloc ?_ _));exact B329.out) hb);have n5_ := Aside0.mk (blk_below (g := g338) (o := .cells #[.slice Ao18 t330.length co18, .int .i64 t333] 24 (0, 0)) (by (with_reducible repeat (first | refine blk_drewN ?_ _ | refine blk_drew ?_ | refine blk_alloc ?_ _));refine blk_far ?_ NB338_339.out _;(with_reducible repeat (first | refine blk_drewN ?_ _ | refine blk_drew ?_ | refine blk_alloc ?_ _));refine blk_far ?_ NB338_339.out _;(with_reducible repeat (first | refine blk_drewN ?_ _ | refine blk_drew ?_ | refine blk_alloc ?_ _));refine blk_put (cs := #[.slice Ao18 t330.length co18, .int .i64 0]) ?_ 1 _ rfl;(with_reducible repeat (first | refine blk_drewN ?_ _ | refine blk_drew ?_ | refine blk_alloc ?_ _));refine blk_put (cs := #[.slice none 0 0, .int .i64 0]) ?_ 0 _ rfl;(with_reducible repeat (first | refine blk_drewN ?_ _ | refine blk_drew ?_ | refine blk_alloc ?_ _));exact B338.out) hb);have n6_ := Aside0.mk (blk_below (g := g339) (o := .cells #[.slice Ao21 t334.length co21, .int .i64 t337] 24 (0, 0)) (by (with_reducible repeat (first | refine blk_drewN ?_ _ | refine blk_drew ?_ | refine blk_alloc ?_ _));refine blk_put (cs := #[.slice Ao21 t334.length co21, .int .i64 0]) ?_ 1 _ rfl;(with_reducible repeat (first | refine blk_drewN ?_ _ | refine blk_drew ?_ | refine blk_alloc ?_ _));refine blk_put (cs := #[.slice none 0 0, .int .i64 0]) ?_ 0 _ rfl;(with_reducible repeat (first | refine blk_drewN ?_ _ | refine blk_drew ?_ | refine blk_alloc ?_ _));refine blk_far ?_ NB339_338.out _;(with_reducible repeat (first | refine blk_drewN ?_ _ | refine blk_drew ?_ | refine blk_alloc ?_ _));refine blk_far ?_ NB339_338.out _;(with_reducible repeat (first | refine blk_drewN ?_ _ | refine blk_drew ?_ | refine blk_alloc ?_ _));exact B339.out) hb);have n7_ := Aside0.mk (below_step (by repeat (first | (with_reducible first | exact HB.out | apply below_alloc | apply pw_below_drewN | apply below_drew1 | refine below_set ?_ GE328.out | refine below_set ?_ GE329.out | refine below_set ?_ GE338.out | refine below_set ?_ GE339.out) | exact HB.out)) hb);clear HO332;clear HO336;clear B328;clear B329;clear B338;clear B339;clear HB;have HO332 := n0_;have HO336 := n1_;have HO342 := n2_;have B328 := n3_;have B329 := n4_;have B338 := n5_;have B339 := n6_;have HB := n7_;clear n0_ n1_ n2_ n3_ n4_ n5_ n6_ n7_;(try clear hb);(try clear hb2);(try clear hk);(try clear hi);(try clear ho0)) | ((with_reducible refine gate_dst (N := 7) rfl ?_);refine box_event ?hg (N := 7) ?hd (cs := #[.slice none 0 0, .int .i64 0]) (t := 24) ?hr ?_;(case hd => rfl);(case hg => rfl);(case hr => first | (go_simp;done) | (go_simp;rfl));intro g345 hg w32 hbox hb;have n0_ := Aside0.mk (Kd.R_below (by (with_reducible repeat (first | apply Kd.R_alloc | apply Kd.R_drewN | apply Kd.R_drew));exact HO332.out) hb);have n1_ := Aside0.mk (Kd.R_below (by (with_reducible repeat (first | apply Kd.R_alloc | apply Kd.R_drewN | apply Kd.R_drew));exact HO336.out) hb);have n2_ := Aside0.mk (Kd.R_below (by (with_reducible repeat (first | apply Kd.R_alloc | apply Kd.R_drewN | apply Kd.R_drew));exact HO342.out) hb);have n3_ := Aside0.mk (blk_below (g := g328) (o := .cells #[.slice A0_0 l0_0.length c0_0, .int .i64 a0_1] 24 (0, 0)) (by (with_reducible repeat (first | refine blk_drewN ?_ _ | refine blk_drew ?_ | refine blk_alloc ?_ _));exact B328.out) hb);have n4_ := Aside0.mk (blk_below (g := g329) (o := .cells #[.slice A1_0 l1_0.length c1_0, .int .i64 a1_1] 24 (0, 0)) (by (with_reducible repeat (first | refine blk_drewN ?_ _ | refine blk_drew ?_ | refine blk_alloc ?_ _));exact B329.out) hb);have n5_ := Aside0.mk (blk_below (g := g338) (o := .cells #[.slice Ao18 t330.length co18, .int .i64 t333] 24 (0, 0)) (by (with_reducible repeat (first | refine blk_drewN ?_ _ | refine blk_drew ?_ | refine blk_alloc ?_ _));exact B338.out) hb);have n6_ := Aside0.mk (blk_below (g := g339) (o := .cells #[.slice Ao21 t334.length co21, .int .i64 t337] 24 (0, 0)) (by (with_reducible repeat (first | refine blk_drewN ?_ _ | refine blk_drew ?_ | refine blk_alloc ?_ _));exact B339.out) hb);have n7_ := Aside0.mk (below_step (by repeat (first | (with_reducible first | exact HB.out | apply below_alloc | apply pw_below_drewN | apply below_drew1 | refine below_set ?_ GE328.out | refine below_set ?_ GE329.out | refine below_set ?_ GE338.out | refine below_set ?_ GE339.out) | exact HB.out)) hb);have n8_ := Aside0.mk (hbox);have n9_ := Aside0.mk ((by rw [hg];exact (below_size (by repeat (first | (with_reducible first | exact HB.out | apply below_alloc | apply pw_below_drewN | apply below_drew1 | refine below_set ?_ GE328.out | refine below_set ?_ GE329.out | refine below_set ?_ GE338.out | refine below_set ?_ GE339.out) | exact HB.out))) : w.heap.size ≤ g345));have n10_ := Aside0.mk ((by rw [hg];exact (below_size (by repeat (first | (with_reducible first | exact HB.out | apply below_alloc | apply pw_below_drewN | apply below_drew1 | refine below_set ?_ GE328.out | refine below_set ?_ GE329.out | refine below_set ?_ GE338.out | refine below_set ?_ GE339.out) | exact HB.out))) : w.heap.size ≤ g345));have n11_ := Aside0.mk ((by rw [hg];exact Nat.ne_of_lt (blk_lt (g := g328) (o := .cells #[.slice A0_0 l0_0.length c0_0, .int .i64 a0_1] 24 (0, 0)) (by (with_reducible repeat (first | refine blk_drewN ?_ _ | refine blk_drew ?_ | refine blk_alloc ?_ _));exact B328.out)) : g328 ≠ g345));have n12_ := Aside0.mk ((by rw [hg];exact Nat.ne_of_gt (blk_lt (g := g328) (o := .cells #[.slice A0_0 l0_0.length c0_0, .int .i64 a0_1] 24 (0, 0)) (by (with_reducible repeat (first | refine blk_drewN ?_ _ | refine blk_drew ?_ | refine blk_alloc ?_ _));exact B328.out)) : g345 ≠ g328));have n13_ := Aside0.mk ((by rw [hg];exact Nat.ne_of_lt (blk_lt (g := g329) (o := .cells #[.slice A1_0 l1_0.length c1_0, .int .i64 a1_1] 24 (0, 0)) (by (with_reducible repeat (first | refine blk_drewN ?_ _ | refine blk_drew ?_ | refine blk_alloc ?_ _));exact B329.out)) : g329 ≠ g345));have n14_ := Aside0.mk ((by rw [hg];exact Nat.ne_of_gt (blk_lt (g := g329) (o := .cells #[.slice A1_0 l1_0.length c1_0, .int .i64 a1_1] 24 (0, 0)) (by (with_reducible repeat (first | refine blk_drewN ?_ _ | refine blk_drew ?_ | refine blk_alloc ?_ _));exact B329.out)) : g345 ≠ g329));have n15_ := Aside0.mk ((by rw [hg];exact Nat.ne_of_lt (blk_lt (g := g338) (o := .cells #[.slice Ao18 t330.length co18, .int .i64 t333] 24 (0, 0)) (by (with_reducible repeat (first | refine blk_drewN ?_ _ | refine blk_drew ?_ | refine blk_alloc ?_ _));exact B338.out)) : g338 ≠ g345));have n16_ := Aside0.mk ((by rw [hg];exact Nat.ne_of_gt (blk_lt (g := g338) (o := .cells #[.slice Ao18 t330.length co18, .int .i64 t333] 24 (0, 0)) (by (with_reducible repeat (first | refine blk_drewN ?_ _ | refine blk_drew ?_ | refine blk_alloc ?_ _));exact B338.out)) : g345 ≠ g338));have n17_ := Aside0.mk ((by rw [hg];exact Nat.ne_of_lt (blk_lt (g := g339) (o := .cells #[.slice Ao21 t334.length co21, .int .i64 t337] 24 (0, 0)) (by (with_reducible repeat (first | refine blk_drewN ?_ _ | refine blk_drew ?_ | refine blk_alloc ?_ _));exact B339.out)) : g339 ≠ g345));have n18_ := Aside0.mk ((by rw [hg];exact Nat.ne_of_gt (blk_lt (g := g339) (o := .cells #[.slice Ao21 t334.length co21, .int .i64 t337] 24 (0, 0)) (by (with_reducible repeat (first | refine blk_drewN ?_ _ | refine blk_drew ?_ | refine blk_alloc ?_ _));exact B339.out)) : g345 ≠ g339));clear HO332;clear HO336;clear HO342;clear B328;clear B329;clear B338;clear B339;clear HB;have HO332 := n0_;have HO336 := n1_;have HO342 := n2_;have B328 := n3_;have B329 := n4_;have B338 := n5_;have B339 := n6_;have HB := n7_;have B345 := n8_;have GW345 := n9_;have GE345 := n10_;have NB328_345 := n11_;have NB345_328 := n12_;have NB329_345 := n13_;have NB345_329 := n14_;have NB338_345 := n15_;have NB345_338 := n16_;have NB339_345 := n17_;have NB345_339 := n18_;clear n0_ n1_ n2_ n3_ n4_ n5_ n6_ n7_ n8_ n9_ n10_ n11_ n12_ n13_ n14_ n15_ n16_ n17_ n18_;clear hb hbox hg;obtain ⟨Ao33, co33, eo33⟩ := Kd.R_slice HO342.out;subst eo33;have hnb34 := NB345_328.out;have hnc34 := NB328_345.out;have hnb35 := NB345_329.out;have hnc35 := NB329_345.out;have hnb36 := NB345_338.out;have hnc36 := NB338_345.out;have hnb37 := NB345_339.out;have hnc37 := NB339_345.out;have hcz38_0 : w32.cell? ⟨g345, 0, none⟩ = some (.slice none 0 0) := (blk_cell B345.out 0).trans rfl;have hcz38_1 : w32.cell? ⟨g345, 1, none⟩ = some (.int .i64 0) := (blk_cell B345.out 1).trans rfl;have hfz38_0 := blk_frozen B345.out 0;have hfz38_1 := blk_frozen B345.out 1;have hnb39 := NB328_329.out;have hnc39 := NB329_328.out;have hcz40_0 : w32.cell? ⟨g328, 0, none⟩ = some (.slice A0_0 l0_0.length c0_0) := (blk_cell B328.out 0).trans rfl;have hcz40_1 : w32.cell? ⟨g328, 1, none⟩ = some (.int .i64 a0_1) := (blk_cell B328.out 1).trans rfl;have hfz40_0 := blk_frozen B328.out 0;have hfz40_1 := blk_frozen B328.out 1;have hcz41_0 : w32.cell? ⟨g329, 0, none⟩ = some (.slice A1_0 l1_0.length c1_0) := (blk_cell B329.out 0).trans rfl;have hcz41_1 : w32.cell? ⟨g329, 1, none⟩ = some (.int .i64 a1_1) := (blk_cell B329.out 1).trans rfl;have hfz41_0 := blk_frozen B329.out 0;have hfz41_1 := blk_frozen B329.out 1) | ((with_reducible refine gate_callee (f := 27) rfl ?_);refine goesL_ (some 29) rfl rfl Try.func27 (by kernel_rfl) rfl #[.agg #[.slice A0_0 l0_0.length c0_0, .int .i64 a0_1], .agg #[.slice A1_0 l1_0.length c1_0, .int .i64 a1_1]] rfl (by (try simp only [List.map_toArray, List.map_cons, List.map_nil]);first | done | rfl | (simp only [List.length_drop, List.length_take];rfl)) ?_;(with_reducible refine (valiseref01_Join.calls k _ _ l0_0 a0_1 _ _ l1_0 a1_1 t346 t349 t350 _ ?side1 ?side2 ?side3 ?side4 A6.out).mono ?_);(case side1 => exact Kd.C_below HR0_0.out (by repeat (first | (with_reducible first | exact HB.out | apply below_alloc | apply pw_below_drewN | apply below_drew1 | refine below_set ?_ GE328.out | refine below_set ?_ GE329.out | refine below_set ?_ GE338.out | refine below_set ?_ GE339.out | refine below_set ?_ GE345.out) | exact HB.out)));(case side2 => exact HC0_0.out);(case side3 => exact Kd.C_below HR1_0.out (by repeat (first | (with_reducible first | exact HB.out | apply below_alloc | apply pw_below_drewN | apply below_drew1 | refine below_set ?_ GE328.out | refine below_set ?_ GE329.out | refine below_set ?_ GE338.out | refine below_set ?_ GE339.out | refine below_set ?_ GE345.out) | exact HB.out)));(case side4 => exact HC1_0.out);rintro e w42 ⟨v347, rfl, ho0, hb⟩;refine ⟨_, rfl, ?_⟩;have n0_ := Aside0.mk (Kd.R_elder' (by (with_reducible repeat (first | apply Kd.R_alloc | apply Kd.R_drewN | apply Kd.R_drew));exact (Kd.R_mono (Kd.R_far (p := ⟨g345, 1, none⟩) (Kd.R_far (p := ⟨g345, 0, none⟩) (Kd.R_types HO332.out B345.out (by decide)) (fun _ hk => hk.2) (.slice Ao33 t340.length co33)) (fun _ hk => hk.2) (.int .i64 t343)) (fun _ h_ => h_.1))) (Kd.R_base ho0) hb);have n1_ := Aside0.mk (Kd.R_elder' (by (with_reducible repeat (first | apply Kd.R_alloc | apply Kd.R_drewN | apply Kd.R_drew));exact (Kd.R_mono (Kd.R_far (p := ⟨g345, 1, none⟩) (Kd.R_far (p := ⟨g345, 0, none⟩) (Kd.R_types HO336.out B345.out (by decide)) (fun _ hk => hk.2) (.slice Ao33 t340.length co33)) (fun _ hk => hk.2) (.int .i64 t343)) (fun _ h_ => h_.1))) (Kd.R_base ho0) hb);have n2_ := Aside0.mk (Kd.R_elder' (by (with_reducible repeat (first | apply Kd.R_alloc | apply Kd.R_drewN | apply Kd.R_drew));exact (Kd.R_mono (Kd.R_far (p := ⟨g345, 1, none⟩) (Kd.R_far (p := ⟨g345, 0, none⟩) (Kd.R_types HO342.out B345.out (by decide)) (fun _ hk => hk.2) (.slice Ao33 t340.length co33)) (fun _ hk => hk.2) (.int .i64 t343)) (fun _ h_ => h_.1))) (Kd.R_base ho0) hb);have n3_ := Aside0.mk (Kd.R_lower (Kd.R_new' (Kd.R_new' (Kd.R_new' ho0 (Kd.R_lt (by (with_reducible repeat (first | apply Kd.R_alloc | apply Kd.R_drewN | apply Kd.R_drew));exact (Kd.R_mono (Kd.R_far (p := ⟨g345, 1, none⟩) (Kd.R_far (p := ⟨g345, 0, none⟩) (Kd.R_types HO332.out B345.out (by decide)) (fun _ hk => hk.2) (.slice Ao33 t340.length co33)) (fun _ hk => hk.2) (.int .i64 t343)) (fun _ h_ => h_.1))))) (Kd.R_lt (by (with_reducible repeat (first | apply Kd.R_alloc | apply Kd.R_drewN | apply Kd.R_drew));exact (Kd.R_mono (Kd.R_far (p := ⟨g345, 1, none⟩) (Kd.R_far (p := ⟨g345, 0, none⟩) (Kd.R_types HO336.out B345.out (by decide)) (fun _ hk => hk.2) (.slice Ao33 t340.length co33)) (fun _ hk => hk.2) (.int .i64 t343)) (fun _ h_ => h_.1))))) (Kd.R_lt (by (with_reducible repeat (first | apply Kd.R_alloc | apply Kd.R_drewN | apply Kd.R_drew));exact (Kd.R_mono (Kd.R_far (p := ⟨g345, 1, none⟩) (Kd.R_far (p := ⟨g345, 0, none⟩) (Kd.R_types HO342.out B345.out (by decide)) (fun _ hk => hk.2) (.slice Ao33 t340.length co33)) (fun _ hk => hk.2) (.int .i64 t343)) (fun _ h_ => h_.1))))) (below_size (by repeat (first | (with_reducible first | exact HB.out | apply below_alloc | apply pw_below_drewN | apply below_drew1 | refine below_set ?_ GE328.out | refine below_set ?_ GE329.out | refine below_set ?_ GE338.out | refine below_set ?_ GE339.out | refine below_set ?_ GE345.out) | exact HB.out))));have n4_ := Aside0.mk (blk_below (g := g328) (o := .cells #[.slice A0_0 l0_0.length c0_0, .int .i64 a0_1] 24 (0, 0)) (by (with_reducible repeat (first | refine blk_drewN ?_ _ | refine blk_drew ?_ | refine blk_alloc ?_ _));refine blk_far ?_ NB328_345.out _;(with_reducible repeat (first | refine blk_drewN ?_ _ | refine blk_drew ?_ | refine blk_alloc ?_ _));refine blk_far ?_ NB328_345.out _;(with_reducible repeat (first | refine blk_drewN ?_ _ | refine blk_drew ?_ | refine blk_alloc ?_ _));exact B328.out) hb);have n5_ := Aside0.mk (blk_below (g := g329) (o := .cells #[.slice A1_0 l1_0.length c1_0, .int .i64 a1_1] 24 (0, 0)) (by (with_reducible repeat (first | refine blk_drewN ?_ _ | refine blk_drew ?_ | refine blk_alloc ?_ _));refine blk_far ?_ NB329_345.out _;(with_reducible repeat (first | refine blk_drewN ?_ _ | refine blk_drew ?_ | refine blk_alloc ?_ _));refine blk_far ?_ NB329_345.out _;(with_reducible repeat (first | refine blk_drewN ?_ _ | refine blk_drew ?_ | refine blk_alloc ?_ _));exact B329.out) hb);have n6_ := Aside0.mk (blk_below (g := g338) (o := .cells #[.slice Ao18 t330.length co18, .int .i64 t333] 24 (0, 0)) (by (with_reducible repeat (first | refine blk_drewN ?_ _ | refine blk_drew ?_ | refine blk_alloc ?_ _));refine blk_far ?_ NB338_345.out _;(with_reducible repeat (first | refine blk_drewN ?_ _ | refine blk_drew ?_ | refine blk_alloc ?_ _));refine blk_far ?_ NB338_345.out _;(with_reducible repeat (first | refine blk_drewN ?_ _ | refine blk_drew ?_ | refine blk_alloc ?_ _));exact B338.out) hb);have n7_ := Aside0.mk (blk_below (g := g339) (o := .cells #[.slice Ao21 t334.length co21, .int .i64 t337] 24 (0, 0)) (by (with_reducible repeat (first | refine blk_drewN ?_ _ | refine blk_drew ?_ | refine blk_alloc ?_ _));refine blk_far ?_ NB339_345.out _;(with_reducible repeat (first | refine blk_drewN ?_ _ | refine blk_drew ?_ | refine blk_alloc ?_ _));refine blk_far ?_ NB339_345.out _;(with_reducible repeat (first | refine blk_drewN ?_ _ | refine blk_drew ?_ | refine blk_alloc ?_ _));exact B339.out) hb);have n8_ := Aside0.mk (blk_below (g := g345) (o := .cells #[.slice Ao33 t340.length co33, .int .i64 t343] 24 (0, 0)) (by (with_reducible repeat (first | refine blk_drewN ?_ _ | refine blk_drew ?_ | refine blk_alloc ?_ _));refine blk_put (cs := #[.slice Ao33 t340.length co33, .int .i64 0]) ?_ 1 _ rfl;(with_reducible repeat (first | refine blk_drewN ?_ _ | refine blk_drew ?_ | refine blk_alloc ?_ _));refine blk_put (cs := #[.slice none 0 0, .int .i64 0]) ?_ 0 _ rfl;(with_reducible repeat (first | refine blk_drewN ?_ _ | refine blk_drew ?_ | refine blk_alloc ?_ _));exact B345.out) hb);have n9_ := Aside0.mk (below_step (by repeat (first | (with_reducible first | exact HB.out | apply below_alloc | apply pw_below_drewN | apply below_drew1 | refine below_set ?_ GE328.out | refine below_set ?_ GE329.out | refine below_set ?_ GE338.out | refine below_set ?_ GE339.out | refine below_set ?_ GE345.out) | exact HB.out)) hb);clear HO332;clear HO336;clear HO342;clear B328;clear B329;clear B338;clear B339;clear B345;clear HB;have HO332 := n0_;have HO336 := n1_;have HO342 := n2_;have HO348 := n3_;have B328 := n4_;have B329 := n5_;have B338 := n6_;have B339 := n7_;have B345 := n8_;have HB := n9_;clear n0_ n1_ n2_ n3_ n4_ n5_ n6_ n7_ n8_ n9_;(try clear hb);(try clear hb2);(try clear hk);(try clear hi);(try clear ho0)) | ((with_reducible refine gate_dst (N := 9) rfl ?_);refine box_event ?hg (N := 9) ?hd (cs := #[.slice none 0 0, .int .i64 0]) (t := 24) ?hr ?_;(case hd => rfl);(case hg => rfl);(case hr => first | (go_simp;done) | (go_simp;rfl));intro g351 hg w43 hbox hb;have n0_ := Aside0.mk (Kd.R_below (by (with_reducible repeat (first | apply Kd.R_alloc | apply Kd.R_drewN | apply Kd.R_drew));exact HO332.out) hb);have n1_ := Aside0.mk (Kd.R_below (by (with_reducible repeat (first | apply Kd.R_alloc | apply Kd.R_drewN | apply Kd.R_drew));exact HO336.out) hb);have n2_ := Aside0.mk (Kd.R_below (by (with_reducible repeat (first | apply Kd.R_alloc | apply Kd.R_drewN | apply Kd.R_drew));exact HO342.out) hb);have n3_ := Aside0.mk (Kd.R_below (by (with_reducible repeat (first | apply Kd.R_alloc | apply Kd.R_drewN | apply Kd.R_drew));exact HO348.out) hb);have n4_ := Aside0.mk (blk_below (g := g328) (o := .cells #[.slice A0_0 l0_0.length c0_0, .int .i64 a0_1] 24 (0, 0)) (by (with_reducible repeat (first | refine blk_drewN ?_ _ | refine blk_drew ?_ | refine blk_alloc ?_ _));exact B328.out) hb);have n5_ := Aside0.mk (blk_below (g := g329) (o := .cells #[.slice A1_0 l1_0.length c1_0, .int .i64 a1_1] 24 (0, 0)) (by (with_reducible repeat (first | refine blk_drewN ?_ _ | refine blk_drew ?_ | refine blk_alloc ?_ _));exact B329.out) hb);have n6_ := Aside0.mk (blk_below (g := g338) (o := .cells #[.slice Ao18 t330.length co18, .int .i64 t333] 24 (0, 0)) (by (with_reducible repeat (first | refine blk_drewN ?_ _ | refine blk_drew ?_ | refine blk_alloc ?_ _));exact B338.out) hb);have n7_ := Aside0.mk (blk_below (g := g339) (o := .cells #[.slice Ao21 t334.length co21, .int .i64 t337] 24 (0, 0)) (by (with_reducible repeat (first | refine blk_drewN ?_ _ | refine blk_drew ?_ | refine blk_alloc ?_ _));exact B339.out) hb);have n8_ := Aside0.mk (blk_below (g := g345) (o := .cells #[.slice Ao33 t340.length co33, .int .i64 t343] 24 (0, 0)) (by (with_reducible repeat (first | refine blk_drewN ?_ _ | refine blk_drew ?_ | refine blk_alloc ?_ _));exact B345.out) hb);have n9_ := Aside0.mk (below_step (by repeat (first | (with_reducible first | exact HB.out | apply below_alloc | apply pw_below_drewN | apply below_drew1 | refine below_set ?_ GE328.out | refine below_set ?_ GE329.out | refine below_set ?_ GE338.out | refine below_set ?_ GE339.out | refine below_set ?_ GE345.out) | exact HB.out)) hb);have n10_ := Aside0.mk (hbox);have n11_ := Aside0.mk ((by rw [hg];exact (below_size (by repeat (first | (with_reducible first | exact HB.out | apply below_alloc | apply pw_below_drewN | apply below_drew1 | refine below_set ?_ GE328.out | refine below_set ?_ GE329.out | refine below_set ?_ GE338.out | refine below_set ?_ GE339.out | refine below_set ?_ GE345.out) | exact HB.out))) : w.heap.size ≤ g351));have n12_ := Aside0.mk ((by rw [hg];exact (below_size (by repeat (first | (with_reducible first | exact HB.out | apply below_alloc | apply pw_below_drewN | apply below_drew1 | refine below_set ?_ GE328.out | refine below_set ?_ GE329.out | refine below_set ?_ GE338.out | refine below_set ?_ GE339.out | refine below_set ?_ GE345.out) | exact HB.out))) : w.heap.size ≤ g351));have n13_ := Aside0.mk ((by rw [hg];exact Nat.ne_of_lt (blk_lt (g := g328) (o := .cells #[.slice A0_0 l0_0.length c0_0, .int .i64 a0_1] 24 (0, 0)) (by (with_reducible repeat (first | refine blk_drewN ?_ _ | refine blk_drew ?_ | refine blk_alloc ?_ _));exact B328.out)) : g328 ≠ g351));have n14_ := Aside0.mk ((by rw [hg];exact Nat.ne_of_gt (blk_lt (g := g328) (o := .cells #[.slice A0_0 l0_0.length c0_0, .int .i64 a0_1] 24 (0, 0)) (by (with_reducible repeat (first | refine blk_drewN ?_ _ | refine blk_drew ?_ | refine blk_alloc ?_ _));exact B328.out)) : g351 ≠ g328));have n15_ := Aside0.mk ((by rw [hg];exact Nat.ne_of_lt (blk_lt (g := g329) (o := .cells #[.slice A1_0 l1_0.length c1_0, .int .i64 a1_1] 24 (0, 0)) (by (with_reducible repeat (first | refine blk_drewN ?_ _ | refine blk_drew ?_ | refine blk_alloc ?_ _));exact B329.out)) : g329 ≠ g351));have n16_ := Aside0.mk ((by rw [hg];exact Nat.ne_of_gt (blk_lt (g := g329) (o := .cells #[.slice A1_0 l1_0.length c1_0, .int .i64 a1_1] 24 (0, 0)) (by (with_reducible repeat (first | refine blk_drewN ?_ _ | refine blk_drew ?_ | refine blk_alloc ?_ _));exact B329.out)) : g351 ≠ g329));have n17_ := Aside0.mk ((by rw [hg];exact Nat.ne_of_lt (blk_lt (g := g338) (o := .cells #[.slice Ao18 t330.length co18, .int .i64 t333] 24 (0, 0)) (by (with_reducible repeat (first | refine blk_drewN ?_ _ | refine blk_drew ?_ | refine blk_alloc ?_ _));exact B338.out)) : g338 ≠ g351));have n18_ := Aside0.mk ((by rw [hg];exact Nat.ne_of_gt (blk_lt (g := g338) (o := .cells #[.slice Ao18 t330.length co18, .int .i64 t333] 24 (0, 0)) (by (with_reducible repeat (first | refine blk_drewN ?_ _ | refine blk_drew ?_ | refine blk_alloc ?_ _));exact B338.out)) : g351 ≠ g338));have n19_ := Aside0.mk ((by rw [hg];exact Nat.ne_of_lt (blk_lt (g := g339) (o := .cells #[.slice Ao21 t334.length co21, .int .i64 t337] 24 (0, 0)) (by (with_reducible repeat (first | refine blk_drewN ?_ _ | refine blk_drew ?_ | refine blk_alloc ?_ _));exact B339.out)) : g339 ≠ g351));have n20_ := Aside0.mk ((by rw [hg];exact Nat.ne_of_gt (blk_lt (g := g339) (o := .cells #[.slice Ao21 t334.length co21, .int .i64 t337] 24 (0, 0)) (by (with_reducible repeat (first | refine blk_drewN ?_ _ | refine blk_drew ?_ | refine blk_alloc ?_ _));exact B339.out)) : g351 ≠ g339));have n21_ := Aside0.mk ((by rw [hg];exact Nat.ne_of_lt (blk_lt (g := g345) (o := .cells #[.slice Ao33 t340.length co33, .int .i64 t343] 24 (0, 0)) (by (with_reducible repeat (first | refine blk_drewN ?_ _ | refine blk_drew ?_ | refine blk_alloc ?_ _));exact B345.out)) : g345 ≠ g351));have n22_ := Aside0.mk ((by rw [hg];exact Nat.ne_of_gt (blk_lt (g := g345) (o := .cells #[.slice Ao33 t340.length co33, .int .i64 t343] 24 (0, 0)) (by (with_reducible repeat (first | refine blk_drewN ?_ _ | refine blk_drew ?_ | refine blk_alloc ?_ _));exact B345.out)) : g351 ≠ g345));clear HO332;clear HO336;clear HO342;clear HO348;clear B328;clear B329;clear B338;clear B339;clear B345;clear HB;have HO332 := n0_;have HO336 := n1_;have HO342 := n2_;have HO348 := n3_;have B328 := n4_;have B329 := n5_;have B338 := n6_;have B339 := n7_;have B345 := n8_;have HB := n9_;have B351 := n10_;have GW351 := n11_;have GE351 := n12_;have NB328_351 := n13_;have NB351_328 := n14_;have NB329_351 := n15_;have NB351_329 := n16_;have NB338_351 := n17_;have NB351_338 := n18_;have NB339_351 := n19_;have NB351_339 := n20_;have NB345_351 := n21_;have NB351_345 := n22_;clear n0_ n1_ n2_ n3_ n4_ n5_ n6_ n7_ n8_ n9_ n10_ n11_ n12_ n13_ n14_ n15_ n16_ n17_ n18_ n19_ n20_ n21_ n22_;clear hb hbox hg;obtain ⟨Ao44, co44, eo44⟩ := Kd.R_slice HO348.out;subst eo44;have hnb45 := NB351_328.out;have hnc45 := NB328_351.out;have hnb46 := NB351_329.out;have hnc46 := NB329_351.out;have hnb47 := NB351_338.out;have hnc47 := NB338_351.out;have hnb48 := NB351_339.out;have hnc48 := NB339_351.out;have hnb49 := NB351_345.out;have hnc49 := NB345_351.out;have hcz50_0 : w43.cell? ⟨g351, 0, none⟩ = some (.slice none 0 0) := (blk_cell B351.out 0).trans rfl;have hcz50_1 : w43.cell? ⟨g351, 1, none⟩ = some (.int .i64 0) := (blk_cell B351.out 1).trans rfl;have hfz50_0 := blk_frozen B351.out 0;have hfz50_1 := blk_frozen B351.out 1;have hcz51_0 : w43.cell? ⟨g338, 0, none⟩ = some (.slice Ao18 t330.length co18) := (blk_cell B338.out 0).trans rfl;have hcz51_1 : w43.cell? ⟨g338, 1, none⟩ = some (.int .i64 t333) := (blk_cell B338.out 1).trans rfl;have hfz51_0 := blk_frozen B338.out 0;have hfz51_1 := blk_frozen B338.out 1) | ((with_reducible refine gate_callee (f := 24) rfl ?_);refine goesL_ (some 34) rfl rfl Try.func24 (by kernel_rfl) rfl #[.agg #[.slice Ao18 t330.length co18, .int .i64 t333]] rfl (by (try simp only [List.map_toArray, List.map_cons, List.map_nil]);first | done | rfl | (simp only [List.length_drop, List.length_take];rfl)) ?_;(with_reducible refine (bits_Align.calls k _ _ t330 t333 t352 t355 t356 _ ?side1 ?side2 A7.out).mono ?_);(case side1 => refine own_narrow (Kd.R_reads' (e := 5) (base := w.heap.size) (ok := fun k_ => ((some k_ ≠ (.slice Ao21 (t334.length + 1) co21 : Value).ownBlock ∧ some k_ ≠ (.slice Ao33 t340.length co33 : Value).ownBlock) ∧ some k_ ≠ (.slice Ao44 t346.length co44 : Value).ownBlock)) (n := t330.length + 1) (c := co18) ?_).2.2;exact (by (with_reducible repeat (first | apply Kd.R_alloc | apply Kd.R_drewN | apply Kd.R_drew));exact (Kd.R_mono (Kd.R_far (p := ⟨g351, 1, none⟩) (Kd.R_far (p := ⟨g351, 0, none⟩) (Kd.R_types HO332.out B351.out (by decide)) (fun _ hk => hk.2) (.slice Ao44 t346.length co44)) (fun _ hk => hk.2) (.int .i64 t349)) (fun _ h_ => h_.1))));(case side2 => exact Nat.le_trans (Nat.le_succ _) (Kd.R_reads' HO332.out).2.1);rintro e w52 ⟨v353, rfl, ho0, hb⟩;refine ⟨_, rfl, ?_⟩;have n0_ := Aside0.mk (Kd.R_elder' (by (with_reducible repeat (first | apply Kd.R_alloc | apply Kd.R_drewN | apply Kd.R_drew));exact (Kd.R_mono (Kd.R_far (p := ⟨g351, 1, none⟩) (Kd.R_far (p := ⟨g351, 0, none⟩) (Kd.R_types HO332.out B351.out (by decide)) (fun _ hk => hk.2) (.slice Ao44 t346.length co44)) (fun _ hk => hk.2) (.int .i64 t349)) (fun _ h_ => h_.1))) (Kd.R_base ho0) hb);have n1_ := Aside0.mk (Kd.R_elder' (by (with_reducible repeat (first | apply Kd.R_alloc | apply Kd.R_drewN | apply Kd.R_drew));exact (Kd.R_mono (Kd.R_far (p := ⟨g351, 1, none⟩) (Kd.R_far (p := ⟨g351, 0, none⟩) (Kd.R_types HO336.out B351.out (by decide)) (fun _ hk => hk.2) (.slice Ao44 t346.length co44)) (fun _ hk => hk.2) (.int .i64 t349)) (fun _ h_ => h_.1))) (Kd.R_base ho0) hb);have n2_ := Aside0.mk (Kd.R_elder' (by (with_reducible repeat (first | apply Kd.R_alloc | apply Kd.R_drewN | apply Kd.R_drew));exact (Kd.R_mono (Kd.R_far (p := ⟨g351, 1, none⟩) (Kd.R_far (p := ⟨g351, 0, none⟩) (Kd.R_types HO342.out B351.out (by decide)) (fun _ hk => hk.2) (.slice Ao44 t346.length co44)) (fun _ hk => hk.2) (.int .i64 t349)) (fun _ h_ => h_.1))) (Kd.R_base ho0) hb);have n3_ := Aside0.mk (Kd.R_elder' (by (with_reducible repeat (first | apply Kd.R_alloc | apply Kd.R_drewN | apply Kd.R_drew));exact (Kd.R_mono (Kd.R_far (p := ⟨g351, 1, none⟩) (Kd.R_far (p := ⟨g351, 0, none⟩) (Kd.R_types HO348.out B351.out (by decide)) (fun _ hk => hk.2) (.slice Ao44 t346.length co44)) (fun _ hk => hk.2) (.int .i64 t349)) (fun _ h_ => h_.1))) (Kd.R_base ho0) hb);have n4_ := Aside0.mk (Kd.R_lower (Kd.R_new' (Kd.R_new' (Kd.R_new' (Kd.R_new' ho0 (Kd.R_lt (by (with_reducible repeat (first | apply Kd.R_alloc | apply Kd.R_drewN | apply Kd.R_drew));exact (Kd.R_mono (Kd.R_far (p := ⟨g351, 1, none⟩) (Kd.R_far (p := ⟨g351, 0, none⟩) (Kd.R_types HO332.out B351.out (by decide)) (fun _ hk => hk.2) (.slice Ao44 t346.length co44)) (fun _ hk => hk.2) (.int .i64 t349)) (fun _ h_ => h_.1))))) (Kd.R_lt (by (with_reducible repeat (first | apply Kd.R_alloc | apply Kd.R_drewN | apply Kd.R_drew));exact (Kd.R_mono (Kd.R_far (p := ⟨g351, 1, none⟩) (Kd.R_far (p := ⟨g351, 0, none⟩) (Kd.R_types HO336.out B351.out (by decide)) (fun _ hk => hk.2) (.slice Ao44 t346.length co44)) (fun _ hk => hk.2) (.int .i64 t349)) (fun _ h_ => h_.1))))) (Kd.R_lt (by (with_reducible repeat (first | apply Kd.R_alloc | apply Kd.R_drewN | apply Kd.R_drew));exact (Kd.R_mono (Kd.R_far (p := ⟨g351, 1, none⟩) (Kd.R_far (p := ⟨g351, 0, none⟩) (Kd.R_types HO342.out B351.out (by decide)) (fun _ hk => hk.2) (.slice Ao44 t346.length co44)) (fun _ hk => hk.2) (.int .i64 t349)) (fun _ h_ => h_.1))))) (Kd.R_lt (by (with_reducible repeat (first | apply Kd.R_alloc | apply Kd.R_drewN | apply Kd.R_drew));exact (Kd.R_mono (Kd.R_far (p := ⟨g351, 1, none⟩) (Kd.R_far (p := ⟨g351, 0, none⟩) (Kd.R_types HO348.out B351.out (by decide)) (fun _ hk => hk.2) (.slice Ao44 t346.length co44)) (fun _ hk => hk.2) (.int .i64 t349)) (fun _ h_ => h_.1))))) (below_size (by repeat (first | (with_reducible first | exact HB.out | apply below_alloc | apply pw_below_drewN | apply below_drew1 | refine below_set ?_ GE328.out | refine below_set ?_ GE329.out | refine below_set ?_ GE338.out | refine below_set ?_ GE339.out | refine below_set ?_ GE345.out | refine below_set ?_ GE351.out) | exact HB.out))));have n5_ := Aside0.mk (blk_below (g := g328) (o := .cells #[.slice A0_0 l0_0.length c0_0, .int .i64 a0_1] 24 (0, 0)) (by (with_reducible repeat (first | refine blk_drewN ?_ _ | refine blk_drew ?_ | refine blk_alloc ?_ _));refine blk_far ?_ NB328_351.out _;(with_reducible repeat (first | refine blk_drewN ?_ _ | refine blk_drew ?_ | refine blk_alloc ?_ _));refine blk_far ?_ NB328_351.out _;(with_reducible repeat (first | refine blk_drewN ?_ _ | refine blk_drew ?_ | refine blk_alloc ?_ _));exact B328.out) hb);have n6_ := Aside0.mk (blk_below (g := g329) (o := .cells #[.slice A1_0 l1_0.length c1_0, .int .i64 a1_1] 24 (0, 0)) (by (with_reducible repeat (first | refine blk_drewN ?_ _ | refine blk_drew ?_ | refine blk_alloc ?_ _));refine blk_far ?_ NB329_351.out _;(with_reducible repeat (first | refine blk_drewN ?_ _ | refine blk_drew ?_ | refine blk_alloc ?_ _));refine blk_far ?_ NB329_351.out _;(with_reducible repeat (first | refine blk_drewN ?_ _ | refine blk_drew ?_ | refine blk_alloc ?_ _));exact B329.out) hb);have n7_ := Aside0.mk (blk_below (g := g338) (o := .cells #[.slice Ao18 t330.length co18, .int .i64 t333] 24 (0, 0)) (by (with_reducible repeat (first | refine blk_drewN ?_ _ | refine blk_drew ?_ | refine blk_alloc ?_ _));refine blk_far ?_ NB338_351.out _;(with_reducible repeat (first | refine blk_drewN ?_ _ | refine blk_drew ?_ | refine blk_alloc ?_ _));refine blk_far ?_ NB338_351.out _;(with_reducible repeat (first | refine blk_drewN ?_ _ | refine blk_drew ?_ | refine blk_alloc ?_ _));exact B338.out) hb);have n8_ := Aside0.mk (blk_below (g := g339) (o := .cells #[.slice Ao21 t334.length co21, .int .i64 t337] 24 (0, 0)) (by (with_reducible repeat (first | refine blk_drewN ?_ _ | refine blk_drew ?_ | refine blk_alloc ?_ _));refine blk_far ?_ NB339_351.out _;(with_reducible repeat (first | refine blk_drewN ?_ _ | refine blk_drew ?_ | refine blk_alloc ?_ _));refine blk_far ?_ NB339_351.out _;(with_reducible repeat (first | refine blk_drewN ?_ _ | refine blk_drew ?_ | refine blk_alloc ?_ _));exact B339.out) hb);have n9_ := Aside0.mk (blk_below (g := g345) (o := .cells #[.slice Ao33 t340.length co33, .int .i64 t343] 24 (0, 0)) (by (with_reducible repeat (first | refine blk_drewN ?_ _ | refine blk_drew ?_ | refine blk_alloc ?_ _));refine blk_far ?_ NB345_351.out _;(with_reducible repeat (first | refine blk_drewN ?_ _ | refine blk_drew ?_ | refine blk_alloc ?_ _));refine blk_far ?_ NB345_351.out _;(with_reducible repeat (first | refine blk_drewN ?_ _ | refine blk_drew ?_ | refine blk_alloc ?_ _));exact B345.out) hb);have n10_ := Aside0.mk (blk_below (g := g351) (o := .cells #[.slice Ao44 t346.length co44, .int .i64 t349] 24 (0, 0)) (by (with_reducible repeat (first | refine blk_drewN ?_ _ | refine blk_drew ?_ | refine blk_alloc ?_ _));refine blk_put (cs := #[.slice Ao44 t346.length co44, .int .i64 0]) ?_ 1 _ rfl;(with_reducible repeat (first | refine blk_drewN ?_ _ | refine blk_drew ?_ | refine blk_alloc ?_ _));refine blk_put (cs := #[.slice none 0 0, .int .i64 0]) ?_ 0 _ rfl;(with_reducible repeat (first | refine blk_drewN ?_ _ | refine blk_drew ?_ | refine blk_alloc ?_ _));exact B351.out) hb);have n11_ := Aside0.mk (below_step (by repeat (first | (with_reducible first | exact HB.out | apply below_alloc | apply pw_below_drewN | apply below_drew1 | refine below_set ?_ GE328.out | refine below_set ?_ GE329.out | refine below_set ?_ GE338.out | refine below_set ?_ GE339.out | refine below_set ?_ GE345.out | refine below_set ?_ GE351.out) | exact HB.out)) hb);clear HO332;clear HO336;clear HO342;clear HO348;clear B328;clear B329;clear B338;clear B339;clear B345;clear B351;clear HB;have HO332 := n0_;have HO336 := n1_;have HO342 := n2_;have HO348 := n3_;have HO354 := n4_;have B328 := n5_;have B329 := n6_;have B338 := n7_;have B339 := n8_;have B345 := n9_;have B351 := n10_;have HB := n11_;clear n0_ n1_ n2_ n3_ n4_ n5_ n6_ n7_ n8_ n9_ n10_ n11_;(try clear hb);(try clear hb2);(try clear hk);(try clear hi);(try clear ho0)) | ((with_reducible refine gate_dst (N := 11) rfl ?_);refine box_event ?hg (N := 11) ?hd (cs := #[.slice none 0 0, .int .i64 0]) (t := 24) ?hr ?_;(case hd => rfl);(case hg => rfl);(case hr => first | (go_simp;done) | (go_simp;rfl));intro g357 hg w53 hbox hb;have n0_ := Aside0.mk (Kd.R_below (by (with_reducible repeat (first | apply Kd.R_alloc | apply Kd.R_drewN | apply Kd.R_drew));exact HO332.out) hb);have n1_ := Aside0.mk (Kd.R_below (by (with_reducible repeat (first | apply Kd.R_alloc | apply Kd.R_drewN | apply Kd.R_drew));exact HO336.out) hb);have n2_ := Aside0.mk (Kd.R_below (by (with_reducible repeat (first | apply Kd.R_alloc | apply Kd.R_drewN | apply Kd.R_drew));exact HO342.out) hb);have n3_ := Aside0.mk (Kd.R_below (by (with_reducible repeat (first | apply Kd.R_alloc | apply Kd.R_drewN | apply Kd.R_drew));exact HO348.out) hb);have n4_ := Aside0.mk (Kd.R_below (by (with_reducible repeat (first | apply Kd.R_alloc | apply Kd.R_drewN | apply Kd.R_drew));exact HO354.out) hb);have n5_ := Aside0.mk (blk_below (g := g328) (o := .cells #[.slice A0_0 l0_0.length c0_0, .int .i64 a0_1] 24 (0, 0)) (by (with_reducible repeat (first | refine blk_drewN ?_ _ | refine blk_drew ?_ | refine blk_alloc ?_ _));exact B328.out) hb);have n6_ := Aside0.mk (blk_below (g := g329) (o := .cells #[.slice A1_0 l1_0.length c1_0, .int .i64 a1_1] 24 (0, 0)) (by (with_reducible repeat (first | refine blk_drewN ?_ _ | refine blk_drew ?_ | refine blk_alloc ?_ _));exact B329.out) hb);have n7_ := Aside0.mk (blk_below (g := g338) (o := .cells #[.slice Ao18 t330.length co18, .int .i64 t333] 24 (0, 0)) (by (with_reducible repeat (first | refine blk_drewN ?_ _ | refine blk_drew ?_ | refine blk_alloc ?_ _));exact B338.out) hb);have n8_ := Aside0.mk (blk_below (g := g339) (o := .cells #[.slice Ao21 t334.length co21, .int .i64 t337] 24 (0, 0)) (by (with_reducible repeat (first | refine blk_drewN ?_ _ | refine blk_drew ?_ | refine blk_alloc ?_ _));exact B339.out) hb);have n9_ := Aside0.mk (blk_below (g := g345) (o := .cells #[.slice Ao33 t340.length co33, .int .i64 t343] 24 (0, 0)) (by (with_reducible repeat (first | refine blk_drewN ?_ _ | refine blk_drew ?_ | refine blk_alloc ?_ _));exact B345.out) hb);have n10_ := Aside0.mk (blk_below (g := g351) (o := .cells #[.slice Ao44 t346.length co44, .int .i64 t349] 24 (0, 0)) (by (with_reducible repeat (first | refine blk_drewN ?_ _ | refine blk_drew ?_ | refine blk_alloc ?_ _));exact B351.out) hb);have n11_ := Aside0.mk (below_step (by repeat (first | (with_reducible first | exact HB.out | apply below_alloc | apply pw_below_drewN | apply below_drew1 | refine below_set ?_ GE328.out | refine below_set ?_ GE329.out | refine below_set ?_ GE338.out | refine below_set ?_ GE339.out | refine below_set ?_ GE345.out | refine below_set ?_ GE351.out) | exact HB.out)) hb);have n12_ := Aside0.mk (hbox);have n13_ := Aside0.mk ((by rw [hg];exact (below_size (by repeat (first | (with_reducible first | exact HB.out | apply below_alloc | apply pw_below_drewN | apply below_drew1 | refine below_set ?_ GE328.out | refine below_set ?_ GE329.out | refine below_set ?_ GE338.out | refine below_set ?_ GE339.out | refine below_set ?_ GE345.out | refine below_set ?_ GE351.out) | exact HB.out))) : w.heap.size ≤ g357));have n14_ := Aside0.mk ((by rw [hg];exact (below_size (by repeat (first | (with_reducible first | exact HB.out | apply below_alloc | apply pw_below_drewN | apply below_drew1 | refine below_set ?_ GE328.out | refine below_set ?_ GE329.out | refine below_set ?_ GE338.out | refine below_set ?_ GE339.out | refine below_set ?_ GE345.out | refine below_set ?_ GE351.out) | exact HB.out))) : w.heap.size ≤ g357));have n15_ := Aside0.mk ((by rw [hg];exact Nat.ne_of_lt (blk_lt (g := g328) (o := .cells #[.slice A0_0 l0_0.length c0_0, .int .i64 a0_1] 24 (0, 0)) (by (with_reducible repeat (first | refine blk_drewN ?_ _ | refine blk_drew ?_ | refine blk_alloc ?_ _));exact B328.out)) : g328 ≠ g357));have n16_ := Aside0.mk ((by rw [hg];exact Nat.ne_of_gt (blk_lt (g := g328) (o := .cells #[.slice A0_0 l0_0.length c0_0, .int .i64 a0_1] 24 (0, 0)) (by (with_reducible repeat (first | refine blk_drewN ?_ _ | refine blk_drew ?_ | refine blk_alloc ?_ _));exact B328.out)) : g357 ≠ g328));have n17_ := Aside0.mk ((by rw [hg];exact Nat.ne_of_lt (blk_lt (g := g329) (o := .cells #[.slice A1_0 l1_0.length c1_0, .int .i64 a1_1] 24 (0, 0)) (by (with_reducible repeat (first | refine blk_drewN ?_ _ | refine blk_drew ?_ | refine blk_alloc ?_ _));exact B329.out)) : g329 ≠ g357));have n18_ := Aside0.mk ((by rw [hg];exact Nat.ne_of_gt (blk_lt (g := g329) (o := .cells #[.slice A1_0 l1_0.length c1_0, .int .i64 a1_1] 24 (0, 0)) (by (with_reducible repeat (first | refine blk_drewN ?_ _ | refine blk_drew ?_ | refine blk_alloc ?_ _));exact B329.out)) : g357 ≠ g329));have n19_ := Aside0.mk ((by rw [hg];exact Nat.ne_of_lt (blk_lt (g := g338) (o := .cells #[.slice Ao18 t330.length co18, .int .i64 t333] 24 (0, 0)) (by (with_reducible repeat (first | refine blk_drewN ?_ _ | refine blk_drew ?_ | refine blk_alloc ?_ _));exact B338.out)) : g338 ≠ g357));have n20_ := Aside0.mk ((by rw [hg];exact Nat.ne_of_gt (blk_lt (g := g338) (o := .cells #[.slice Ao18 t330.length co18, .int .i64 t333] 24 (0, 0)) (by (with_reducible repeat (first | refine blk_drewN ?_ _ | refine blk_drew ?_ | refine blk_alloc ?_ _));exact B338.out)) : g357 ≠ g338));have n21_ := Aside0.mk ((by rw [hg];exact Nat.ne_of_lt (blk_lt (g := g339) (o := .cells #[.slice Ao21 t334.length co21, .int .i64 t337] 24 (0, 0)) (by (with_reducible repeat (first | refine blk_drewN ?_ _ | refine blk_drew ?_ | refine blk_alloc ?_ _));exact B339.out)) : g339 ≠ g357));have n22_ := Aside0.mk ((by rw [hg];exact Nat.ne_of_gt (blk_lt (g := g339) (o := .cells #[.slice Ao21 t334.length co21, .int .i64 t337] 24 (0, 0)) (by (with_reducible repeat (first | refine blk_drewN ?_ _ | refine blk_drew ?_ | refine blk_alloc ?_ _));exact B339.out)) : g357 ≠ g339));have n23_ := Aside0.mk ((by rw [hg];exact Nat.ne_of_lt (blk_lt (g := g345) (o := .cells #[.slice Ao33 t340.length co33, .int .i64 t343] 24 (0, 0)) (by (with_reducible repeat (first | refine blk_drewN ?_ _ | refine blk_drew ?_ | refine blk_alloc ?_ _));exact B345.out)) : g345 ≠ g357));have n24_ := Aside0.mk ((by rw [hg];exact Nat.ne_of_gt (blk_lt (g := g345) (o := .cells #[.slice Ao33 t340.length co33, .int .i64 t343] 24 (0, 0)) (by (with_reducible repeat (first | refine blk_drewN ?_ _ | refine blk_drew ?_ | refine blk_alloc ?_ _));exact B345.out)) : g357 ≠ g345));have n25_ := Aside0.mk ((by rw [hg];exact Nat.ne_of_lt (blk_lt (g := g351) (o := .cells #[.slice Ao44 t346.length co44, .int .i64 t349] 24 (0, 0)) (by (with_reducible repeat (first | refine blk_drewN ?_ _ | refine blk_drew ?_ | refine blk_alloc ?_ _));exact B351.out)) : g351 ≠ g357));have n26_ := Aside0.mk ((by rw [hg];exact Nat.ne_of_gt (blk_lt (g := g351) (o := .cells #[.slice Ao44 t346.length co44, .int .i64 t349] 24 (0, 0)) (by (with_reducible repeat (first | refine blk_drewN ?_ _ | refine blk_drew ?_ | refine blk_alloc ?_ _));exact B351.out)) : g357 ≠ g351));clear HO332;clear HO336;clear HO342;clear HO348;clear HO354;clear B328;clear B329;clear B338;clear B339;clear B345;clear B351;clear HB;have HO332 := n0_;have HO336 := n1_;have HO342 := n2_;have HO348 := n3_;have HO354 := n4_;have B328 := n5_;have B329 := n6_;have B338 := n7_;have B339 := n8_;have B345 := n9_;have B351 := n10_;have HB := n11_;have B357 := n12_;have GW357 := n13_;have GE357 := n14_;have NB328_357 := n15_;have NB357_328 := n16_;have NB329_357 := n17_;have NB357_329 := n18_;have NB338_357 := n19_;have NB357_338 := n20_;have NB339_357 := n21_;have NB357_339 := n22_;have NB345_357 := n23_;have NB357_345 := n24_;have NB351_357 := n25_;have NB357_351 := n26_;clear n0_ n1_ n2_ n3_ n4_ n5_ n6_ n7_ n8_ n9_ n10_ n11_ n12_ n13_ n14_ n15_ n16_ n17_ n18_ n19_ n20_ n21_ n22_ n23_ n24_ n25_ n26_;clear hb hbox hg;obtain ⟨Ao54, co54, eo54⟩ := Kd.R_slice HO354.out;subst eo54;have hnb55 := NB357_328.out;have hnc55 := NB328_357.out;have hnb56 := NB357_329.out;have hnc56 := NB329_357.out;have hnb57 := NB357_338.out;have hnc57 := NB338_357.out;have hnb58 := NB357_339.out;have hnc58 := NB339_357.out;have hnb59 := NB357_345.out;have hnc59 := NB345_357.out;have hnb60 := NB357_351.out;have hnc60 := NB351_357.out;have hcz61_0 : w53.cell? ⟨g357, 0, none⟩ = some (.slice none 0 0) := (blk_cell B357.out 0).trans rfl;have hcz61_1 : w53.cell? ⟨g357, 1, none⟩ = some (.int .i64 0) := (blk_cell B357.out 1).trans rfl;have hfz61_0 := blk_frozen B357.out 0;have hfz61_1 := blk_frozen B357.out 1;have hcz62_0 : w53.cell? ⟨g328, 0, none⟩ = some (.slice A0_0 l0_0.length c0_0) := (blk_cell B328.out 0).trans rfl;have hcz62_1 : w53.cell? ⟨g328, 1, none⟩ = some (.int .i64 a0_1) := (blk_cell B328.out 1).trans rfl;have hfz62_0 := blk_frozen B328.out 0;have hfz62_1 := blk_frozen B328.out 1) | ((with_reducible refine gate_callee (f := 28) rfl ?_);refine goesL_ (some 39) rfl rfl Try.func28 (by kernel_rfl) rfl #[.agg #[.slice A0_0 l0_0.length c0_0, .int .i64 a0_1]] rfl (by (try simp only [List.map_toArray, List.map_cons, List.map_nil]);first | done | rfl | (simp only [List.length_drop, List.length_take];rfl)) ?_;(with_reducible refine (valiseref01_Align.calls k _ _ l0_0 a0_1 t358 t361 t362 _ ?side1 ?side2 A8.out).mono ?_);(case side1 => exact Kd.C_below HR0_0.out (by repeat (first | (with_reducible first | exact HB.out | apply below_alloc | apply pw_below_drewN | apply below_drew1 | refine below_set ?_ GE328.out | refine below_set ?_ GE329.out | refine below_set ?_ GE338.out | refine below_set ?_ GE339.out | refine below_set ?_ GE345.out | refine below_set ?_ GE351.out | refine below_set ?_ GE357.out) | exact HB.out)));(case side2 => exact HC0_0.out);rintro e w63 ⟨v359, rfl, ho0, hb⟩;refine ⟨_, rfl, ?_⟩;have n0_ := Aside0.mk (Kd.R_elder' (by (with_reducible repeat (first | apply Kd.R_alloc | apply Kd.R_drewN | apply Kd.R_drew));exact (Kd.R_mono (Kd.R_far (p := ⟨g357, 1, none⟩) (Kd.R_far (p := ⟨g357, 0, none⟩) (Kd.R_types HO332.out B357.out (by decide)) (fun _ hk => hk.2) (.slice Ao54 t352.length co54)) (fun _ hk => hk.2) (.int .i64 t355)) (fun _ h_ => h_.1))) (Kd.R_base ho0) hb);have n1_ := Aside0.mk (Kd.R_elder' (by (with_reducible repeat (first | apply Kd.R_alloc | apply Kd.R_drewN | apply Kd.R_drew));exact (Kd.R_mono (Kd.R_far (p := ⟨g357, 1, none⟩) (Kd.R_far (p := ⟨g357, 0, none⟩) (Kd.R_types HO336.out B357.out (by decide)) (fun _ hk => hk.2) (.slice Ao54 t352.length co54)) (fun _ hk => hk.2) (.int .i64 t355)) (fun _ h_ => h_.1))) (Kd.R_base ho0) hb);have n2_ := Aside0.mk (Kd.R_elder' (by (with_reducible repeat (first | apply Kd.R_alloc | apply Kd.R_drewN | apply Kd.R_drew));exact (Kd.R_mono (Kd.R_far (p := ⟨g357, 1, none⟩) (Kd.R_far (p := ⟨g357, 0, none⟩) (Kd.R_types HO342.out B357.out (by decide)) (fun _ hk => hk.2) (.slice Ao54 t352.length co54)) (fun _ hk => hk.2) (.int .i64 t355)) (fun _ h_ => h_.1))) (Kd.R_base ho0) hb);have n3_ := Aside0.mk (Kd.R_elder' (by (with_reducible repeat (first | apply Kd.R_alloc | apply Kd.R_drewN | apply Kd.R_drew));exact (Kd.R_mono (Kd.R_far (p := ⟨g357, 1, none⟩) (Kd.R_far (p := ⟨g357, 0, none⟩) (Kd.R_types HO348.out B357.out (by decide)) (fun _ hk => hk.2) (.slice Ao54 t352.length co54)) (fun _ hk => hk.2) (.int .i64 t355)) (fun _ h_ => h_.1))) (Kd.R_base ho0) hb);have n4_ := Aside0.mk (Kd.R_elder' (by (with_reducible repeat (first | apply Kd.R_alloc | apply Kd.R_drewN | apply Kd.R_drew));exact (Kd.R_mono (Kd.R_far (p := ⟨g357, 1, none⟩) (Kd.R_far (p := ⟨g357, 0, none⟩) (Kd.R_types HO354.out B357.out (by decide)) (fun _ hk => hk.2) (.slice Ao54 t352.length co54)) (fun _ hk => hk.2) (.int .i64 t355)) (fun _ h_ => h_.1))) (Kd.R_base ho0) hb);have n5_ := Aside0.mk (Kd.R_lower (Kd.R_new' (Kd.R_new' (Kd.R_new' (Kd.R_new' (Kd.R_new' ho0 (Kd.R_lt (by (with_reducible repeat (first | apply Kd.R_alloc | apply Kd.R_drewN | apply Kd.R_drew));exact (Kd.R_mono (Kd.R_far (p := ⟨g357, 1, none⟩) (Kd.R_far (p := ⟨g357, 0, none⟩) (Kd.R_types HO332.out B357.out (by decide)) (fun _ hk => hk.2) (.slice Ao54 t352.length co54)) (fun _ hk => hk.2) (.int .i64 t355)) (fun _ h_ => h_.1))))) (Kd.R_lt (by (with_reducible repeat (first | apply Kd.R_alloc | apply Kd.R_drewN | apply Kd.R_drew));exact (Kd.R_mono (Kd.R_far (p := ⟨g357, 1, none⟩) (Kd.R_far (p := ⟨g357, 0, none⟩) (Kd.R_types HO336.out B357.out (by decide)) (fun _ hk => hk.2) (.slice Ao54 t352.length co54)) (fun _ hk => hk.2) (.int .i64 t355)) (fun _ h_ => h_.1))))) (Kd.R_lt (by (with_reducible repeat (first | apply Kd.R_alloc | apply Kd.R_drewN | apply Kd.R_drew));exact (Kd.R_mono (Kd.R_far (p := ⟨g357, 1, none⟩) (Kd.R_far (p := ⟨g357, 0, none⟩) (Kd.R_types HO342.out B357.out (by decide)) (fun _ hk => hk.2) (.slice Ao54 t352.length co54)) (fun _ hk => hk.2) (.int .i64 t355)) (fun _ h_ => h_.1))))) (Kd.R_lt (by (with_reducible repeat (first | apply Kd.R_alloc | apply Kd.R_drewN | apply Kd.R_drew));exact (Kd.R_mono (Kd.R_far (p := ⟨g357, 1, none⟩) (Kd.R_far (p := ⟨g357, 0, none⟩) (Kd.R_types HO348.out B357.out (by decide)) (fun _ hk => hk.2) (.slice Ao54 t352.length co54)) (fun _ hk => hk.2) (.int .i64 t355)) (fun _ h_ => h_.1))))) (Kd.R_lt (by (with_reducible repeat (first | apply Kd.R_alloc | apply Kd.R_drewN | apply Kd.R_drew));exact (Kd.R_mono (Kd.R_far (p := ⟨g357, 1, none⟩) (Kd.R_far (p := ⟨g357, 0, none⟩) (Kd.R_types HO354.out B357.out (by decide)) (fun _ hk => hk.2) (.slice Ao54 t352.length co54)) (fun _ hk => hk.2) (.int .i64 t355)) (fun _ h_ => h_.1))))) (below_size (by repeat (first | (with_reducible first | exact HB.out | apply below_alloc | apply pw_below_drewN | apply below_drew1 | refine below_set ?_ GE328.out | refine below_set ?_ GE329.out | refine below_set ?_ GE338.out | refine below_set ?_ GE339.out | refine below_set ?_ GE345.out | refine below_set ?_ GE351.out | refine below_set ?_ GE357.out) | exact HB.out))));have n6_ := Aside0.mk (blk_below (g := g328) (o := .cells #[.slice A0_0 l0_0.length c0_0, .int .i64 a0_1] 24 (0, 0)) (by (with_reducible repeat (first | refine blk_drewN ?_ _ | refine blk_drew ?_ | refine blk_alloc ?_ _));refine blk_far ?_ NB328_357.out _;(with_reducible repeat (first | refine blk_drewN ?_ _ | refine blk_drew ?_ | refine blk_alloc ?_ _));refine blk_far ?_ NB328_357.out _;(with_reducible repeat (first | refine blk_drewN ?_ _ | refine blk_drew ?_ | refine blk_alloc ?_ _));exact B328.out) hb);have n7_ := Aside0.mk (blk_below (g := g329) (o := .cells #[.slice A1_0 l1_0.length c1_0, .int .i64 a1_1] 24 (0, 0)) (by (with_reducible repeat (first | refine blk_drewN ?_ _ | refine blk_drew ?_ | refine blk_alloc ?_ _));refine blk_far ?_ NB329_357.out _;(with_reducible repeat (first | refine blk_drewN ?_ _ | refine blk_drew ?_ | refine blk_alloc ?_ _));refine blk_far ?_ NB329_357.out _;(with_reducible repeat (first | refine blk_drewN ?_ _ | refine blk_drew ?_ | refine blk_alloc ?_ _));exact B329.out) hb);have n8_ := Aside0.mk (blk_below (g := g338) (o := .cells #[.slice Ao18 t330.length co18, .int .i64 t333] 24 (0, 0)) (by (with_reducible repeat (first | refine blk_drewN ?_ _ | refine blk_drew ?_ | refine blk_alloc ?_ _));refine blk_far ?_ NB338_357.out _;(with_reducible repeat (first | refine blk_drewN ?_ _ | refine blk_drew ?_ | refine blk_alloc ?_ _));refine blk_far ?_ NB338_357.out _;(with_reducible repeat (first | refine blk_drewN ?_ _ | refine blk_drew ?_ | refine blk_alloc ?_ _));exact B338.out) hb);have n9_ := Aside0.mk (blk_below (g := g339) (o := .cells #[.slice Ao21 t334.length co21, .int .i64 t337] 24 (0, 0)) (by (with_reducible repeat (first | refine blk_drewN ?_ _ | refine blk_drew ?_ | refine blk_alloc ?_ _));refine blk_far ?_ NB339_357.out _;(with_reducible repeat (first | refine blk_drewN ?_ _ | refine blk_drew ?_ | refine blk_alloc ?_ _));refine blk_far ?_ NB339_357.out _;(with_reducible repeat (first | refine blk_drewN ?_ _ | refine blk_drew ?_ | refine blk_alloc ?_ _));exact B339.out) hb);have n10_ := Aside0.mk (blk_below (g := g345) (o := .cells #[.slice Ao33 t340.length co33, .int .i64 t343] 24 (0, 0)) (by (with_reducible repeat (first | refine blk_drewN ?_ _ | refine blk_drew ?_ | refine blk_alloc ?_ _));refine blk_far ?_ NB345_357.out _;(with_reducible repeat (first | refine blk_drewN ?_ _ | refine blk_drew ?_ | refine blk_alloc ?_ _));refine blk_far ?_ NB345_357.out _;(with_reducible repeat (first | refine blk_drewN ?_ _ | refine blk_drew ?_ | refine blk_alloc ?_ _));exact B345.out) hb);have n11_ := Aside0.mk (blk_below (g := g351) (o := .cells #[.slice Ao44 t346.length co44, .int .i64 t349] 24 (0, 0)) (by (with_reducible repeat (first | refine blk_drewN ?_ _ | refine blk_drew ?_ | refine blk_alloc ?_ _));refine blk_far ?_ NB351_357.out _;(with_reducible repeat (first | refine blk_drewN ?_ _ | refine blk_drew ?_ | refine blk_alloc ?_ _));refine blk_far ?_ NB351_357.out _;(with_reducible repeat (first | refine blk_drewN ?_ _ | refine blk_drew ?_ | refine blk_alloc ?_ _));exact B351.out) hb);have n12_ := Aside0.mk (blk_below (g := g357) (o := .cells #[.slice Ao54 t352.length co54, .int .i64 t355] 24 (0, 0)) (by (with_reducible repeat (first | refine blk_drewN ?_ _ | refine blk_drew ?_ | refine blk_alloc ?_ _));refine blk_put (cs := #[.slice Ao54 t352.length co54, .int .i64 0]) ?_ 1 _ rfl;(with_reducible repeat (first | refine blk_drewN ?_ _ | refine blk_drew ?_ | refine blk_alloc ?_ _));refine blk_put (cs := #[.slice none 0 0, .int .i64 0]) ?_ 0 _ rfl;(with_reducible repeat (first | refine blk_drewN ?_ _ | refine blk_drew ?_ | refine blk_alloc ?_ _));exact B357.out) hb);have n13_ := Aside0.mk (below_step (by repeat (first | (with_reducible first | exact HB.out | apply below_alloc | apply pw_below_drewN | apply below_drew1 | refine below_set ?_ GE328.out | refine below_set ?_ GE329.out | refine below_set ?_ GE338.out | refine below_set ?_ GE339.out | refine below_set ?_ GE345.out | refine below_set ?_ GE351.out | refine below_set ?_ GE357.out) | exact HB.out)) hb);clear HO332;clear HO336;clear HO342;clear HO348;clear HO354;clear B328;clear B329;clear B338;clear B339;clear B345;clear B351;clear B357;clear HB;have HO332 := n0_;have HO336 := n1_;have HO342 := n2_;have HO348 := n3_;have HO354 := n4_;have HO360 := n5_;have B328 := n6_;have B329 := n7_;have B338 := n8_;have B339 := n9_;have B345 := n10_;have B351 := n11_;have B357 := n12_;have HB := n13_;clear n0_ n1_ n2_ n3_ n4_ n5_ n6_ n7_ n8_ n9_ n10_ n11_ n12_ n13_;(try clear hb);(try clear hb2);(try clear hk);(try clear hi);(try clear ho0)) | ((with_reducible refine gate_dst (N := 13) rfl ?_);refine box_event ?hg (N := 13) ?hd (cs := #[.slice none 0 0, .int .i64 0]) (t := 24) ?hr ?_;(case hd => rfl);(case hg => rfl);(case hr => first | (go_simp;done) | (go_simp;rfl));intro g363 hg w64 hbox hb;have n0_ := Aside0.mk (Kd.R_below (by (with_reducible repeat (first | apply Kd.R_alloc | apply Kd.R_drewN | apply Kd.R_drew));exact HO332.out) hb);have n1_ := Aside0.mk (Kd.R_below (by (with_reducible repeat (first | apply Kd.R_alloc | apply Kd.R_drewN | apply Kd.R_drew));exact HO336.out) hb);have n2_ := Aside0.mk (Kd.R_below (by (with_reducible repeat (first | apply Kd.R_alloc | apply Kd.R_drewN | apply Kd.R_drew));exact HO342.out) hb);have n3_ := Aside0.mk (Kd.R_below (by (with_reducible repeat (first | apply Kd.R_alloc | apply Kd.R_drewN | apply Kd.R_drew));exact HO348.out) hb);have n4_ := Aside0.mk (Kd.R_below (by (with_reducible repeat (first | apply Kd.R_alloc | apply Kd.R_drewN | apply Kd.R_drew));exact HO354.out) hb);have n5_ := Aside0.mk (Kd.R_below (by (with_reducible repeat (first | apply Kd.R_alloc | apply Kd.R_drewN | apply Kd.R_drew));exact HO360.out) hb);have n6_ := Aside0.mk (blk_below (g := g328) (o := .cells #[.slice A0_0 l0_0.length c0_0, .int .i64 a0_1] 24 (0, 0)) (by (with_reducible repeat (first | refine blk_drewN ?_ _ | refine blk_drew ?_ | refine blk_alloc ?_ _));exact B328.out) hb);have n7_ := Aside0.mk (blk_below (g := g329) (o := .cells #[.slice A1_0 l1_0.length c1_0, .int .i64 a1_1] 24 (0, 0)) (by (with_reducible repeat (first | refine blk_drewN ?_ _ | refine blk_drew ?_ | refine blk_alloc ?_ _));exact B329.out) hb);have n8_ := Aside0.mk (blk_below (g := g338) (o := .cells #[.slice Ao18 t330.length co18, .int .i64 t333] 24 (0, 0)) (by (with_reducible repeat (first | refine blk_drewN ?_ _ | refine blk_drew ?_ | refine blk_alloc ?_ _));exact B338.out) hb);have n9_ := Aside0.mk (blk_below (g := g339) (o := .cells #[.slice Ao21 t334.length co21, .int .i64 t337] 24 (0, 0)) (by (with_reducible repeat (first | refine blk_drewN ?_ _ | refine blk_drew ?_ | refine blk_alloc ?_ _));exact B339.out) hb);have n10_ := Aside0.mk (blk_below (g := g345) (o := .cells #[.slice Ao33 t340.length co33, .int .i64 t343] 24 (0, 0)) (by (with_reducible repeat (first | refine blk_drewN ?_ _ | refine blk_drew ?_ | refine blk_alloc ?_ _));exact B345.out) hb);have n11_ := Aside0.mk (blk_below (g := g351) (o := .cells #[.slice Ao44 t346.length co44, .int .i64 t349] 24 (0, 0)) (by (with_reducible repeat (first | refine blk_drewN ?_ _ | refine blk_drew ?_ | refine blk_alloc ?_ _));exact B351.out) hb);have n12_ := Aside0.mk (blk_below (g := g357) (o := .cells #[.slice Ao54 t352.length co54, .int .i64 t355] 24 (0, 0)) (by (with_reducible repeat (first | refine blk_drewN ?_ _ | refine blk_drew ?_ | refine blk_alloc ?_ _));exact B357.out) hb);have n13_ := Aside0.mk (below_step (by repeat (first | (with_reducible first | exact HB.out | apply below_alloc | apply pw_below_drewN | apply below_drew1 | refine below_set ?_ GE328.out | refine below_set ?_ GE329.out | refine below_set ?_ GE338.out | refine below_set ?_ GE339.out | refine below_set ?_ GE345.out | refine below_set ?_ GE351.out | refine below_set ?_ GE357.out) | exact HB.out)) hb);have n14_ := Aside0.mk (hbox);have n15_ := Aside0.mk ((by rw [hg];exact (below_size (by repeat (first | (with_reducible first | exact HB.out | apply below_alloc | apply pw_below_drewN | apply below_drew1 | refine below_set ?_ GE328.out | refine below_set ?_ GE329.out | refine below_set ?_ GE338.out | refine below_set ?_ GE339.out | refine below_set ?_ GE345.out | refine below_set ?_ GE351.out | refine below_set ?_ GE357.out) | exact HB.out))) : w.heap.size ≤ g363));have n16_ := Aside0.mk ((by rw [hg];exact (below_size (by repeat (first | (with_reducible first | exact HB.out | apply below_alloc | apply pw_below_drewN | apply below_drew1 | refine below_set ?_ GE328.out | refine below_set ?_ GE329.out | refine below_set ?_ GE338.out | refine below_set ?_ GE339.out | refine below_set ?_ GE345.out | refine below_set ?_ GE351.out | refine below_set ?_ GE357.out) | exact HB.out))) : w.heap.size ≤ g363));have n17_ := Aside0.mk ((by rw [hg];exact Nat.ne_of_lt (blk_lt (g := g328) (o := .cells #[.slice A0_0 l0_0.length c0_0, .int .i64 a0_1] 24 (0, 0)) (by (with_reducible repeat (first | refine blk_drewN ?_ _ | refine blk_drew ?_ | refine blk_alloc ?_ _));exact B328.out)) : g328 ≠ g363));have n18_ := Aside0.mk ((by rw [hg];exact Nat.ne_of_gt (blk_lt (g := g328) (o := .cells #[.slice A0_0 l0_0.length c0_0, .int .i64 a0_1] 24 (0, 0)) (by (with_reducible repeat (first | refine blk_drewN ?_ _ | refine blk_drew ?_ | refine blk_alloc ?_ _));exact B328.out)) : g363 ≠ g328));have n19_ := Aside0.mk ((by rw [hg];exact Nat.ne_of_lt (blk_lt (g := g329) (o := .cells #[.slice A1_0 l1_0.length c1_0, .int .i64 a1_1] 24 (0, 0)) (by (with_reducible repeat (first | refine blk_drewN ?_ _ | refine blk_drew ?_ | refine blk_alloc ?_ _));exact B329.out)) : g329 ≠ g363));have n20_ := Aside0.mk ((by rw [hg];exact Nat.ne_of_gt (blk_lt (g := g329) (o := .cells #[.slice A1_0 l1_0.length c1_0, .int .i64 a1_1] 24 (0, 0)) (by (with_reducible repeat (first | refine blk_drewN ?_ _ | refine blk_drew ?_ | refine blk_alloc ?_ _));exact B329.out)) : g363 ≠ g329));have n21_ := Aside0.mk ((by rw [hg];exact Nat.ne_of_lt (blk_lt (g := g338) (o := .cells #[.slice Ao18 t330.length co18, .int .i64 t333] 24 (0, 0)) (by (with_reducible repeat (first | refine blk_drewN ?_ _ | refine blk_drew ?_ | refine blk_alloc ?_ _));exact B338.out)) : g338 ≠ g363));have n22_ := Aside0.mk ((by rw [hg];exact Nat.ne_of_gt (blk_lt (g := g338) (o := .cells #[.slice Ao18 t330.length co18, .int .i64 t333] 24 (0, 0)) (by (with_reducible repeat (first | refine blk_drewN ?_ _ | refine blk_drew ?_ | refine blk_alloc ?_ _));exact B338.out)) : g363 ≠ g338));have n23_ := Aside0.mk ((by rw [hg];exact Nat.ne_of_lt (blk_lt (g := g339) (o := .cells #[.slice Ao21 t334.length co21, .int .i64 t337] 24 (0, 0)) (by (with_reducible repeat (first | refine blk_drewN ?_ _ | refine blk_drew ?_ | refine blk_alloc ?_ _));exact B339.out)) : g339 ≠ g363));have n24_ := Aside0.mk ((by rw [hg];exact Nat.ne_of_gt (blk_lt (g := g339) (o := .cells #[.slice Ao21 t334.length co21, .int .i64 t337] 24 (0, 0)) (by (with_reducible repeat (first | refine blk_drewN ?_ _ | refine blk_drew ?_ | refine blk_alloc ?_ _));exact B339.out)) : g363 ≠ g339));have n25_ := Aside0.mk ((by rw [hg];exact Nat.ne_of_lt (blk_lt (g := g345) (o := .cells #[.slice Ao33 t340.length co33, .int .i64 t343] 24 (0, 0)) (by (with_reducible repeat (first | refine blk_drewN ?_ _ | refine blk_drew ?_ | refine blk_alloc ?_ _));exact B345.out)) : g345 ≠ g363));have n26_ := Aside0.mk ((by rw [hg];exact Nat.ne_of_gt (blk_lt (g := g345) (o := .cells #[.slice Ao33 t340.length co33, .int .i64 t343] 24 (0, 0)) (by (with_reducible repeat (first | refine blk_drewN ?_ _ | refine blk_drew ?_ | refine blk_alloc ?_ _));exact B345.out)) : g363 ≠ g345));have n27_ := Aside0.mk ((by rw [hg];exact Nat.ne_of_lt (blk_lt (g := g351) (o := .cells #[.slice Ao44 t346.length co44, .int .i64 t349] 24 (0, 0)) (by (with_reducible repeat (first | refine blk_drewN ?_ _ | refine blk_drew ?_ | refine blk_alloc ?_ _));exact B351.out)) : g351 ≠ g363));have n28_ := Aside0.mk ((by rw [hg];exact Nat.ne_of_gt (blk_lt (g := g351) (o := .cells #[.slice Ao44 t346.length co44, .int .i64 t349] 24 (0, 0)) (by (with_reducible repeat (first | refine blk_drewN ?_ _ | refine blk_drew ?_ | refine blk_alloc ?_ _));exact B351.out)) : g363 ≠ g351));have n29_ := Aside0.mk ((by rw [hg];exact Nat.ne_of_lt (blk_lt (g := g357) (o := .cells #[.slice Ao54 t352.length co54, .int .i64 t355] 24 (0, 0)) (by (with_reducible repeat (first | refine blk_drewN ?_ _ | refine blk_drew ?_ | refine blk_alloc ?_ _));exact B357.out)) : g357 ≠ g363));have n30_ := Aside0.mk ((by rw [hg];exact Nat.ne_of_gt (blk_lt (g := g357) (o := .cells #[.slice Ao54 t352.length co54, .int .i64 t355] 24 (0, 0)) (by (with_reducible repeat (first | refine blk_drewN ?_ _ | refine blk_drew ?_ | refine blk_alloc ?_ _));exact B357.out)) : g363 ≠ g357));clear HO332;clear HO336;clear HO342;clear HO348;clear HO354;clear HO360;clear B328;clear B329;clear B338;clear B339;clear B345;clear B351;clear B357;clear HB;have HO332 := n0_;have HO336 := n1_;have HO342 := n2_;have HO348 := n3_;have HO354 := n4_;have HO360 := n5_;have B328 := n6_;have B329 := n7_;have B338 := n8_;have B339 := n9_;have B345 := n10_;have B351 := n11_;have B357 := n12_;have HB := n13_;have B363 := n14_;have GW363 := n15_;have GE363 := n16_;have NB328_363 := n17_;have NB363_328 := n18_;have NB329_363 := n19_;have NB363_329 := n20_;have NB338_363 := n21_;have NB363_338 := n22_;have NB339_363 := n23_;have NB363_339 := n24_;have NB345_363 := n25_;have NB363_345 := n26_;have NB351_363 := n27_;have NB363_351 := n28_;have NB357_363 := n29_;have NB363_357 := n30_;clear n0_ n1_ n2_ n3_ n4_ n5_ n6_ n7_ n8_ n9_ n10_ n11_ n12_ n13_ n14_ n15_ n16_ n17_ n18_ n19_ n20_ n21_ n22_ n23_ n24_ n25_ n26_ n27_ n28_ n29_ n30_;clear hb hbox hg;obtain ⟨Ao65, co65, eo65⟩ := Kd.R_slice HO360.out;subst eo65;have hnb66 := NB363_328.out;have hnc66 := NB328_363.out;have hnb67 := NB363_329.out;have hnc67 := NB329_363.out;have hnb68 := NB363_338.out;have hnc68 := NB338_363.out;have hnb69 := NB363_339.out;have hnc69 := NB339_363.out;have hnb70 := NB363_345.out;have hnc70 := NB345_363.out;have hnb71 := NB363_351.out;have hnc71 := NB351_363.out;have hnb72 := NB363_357.out;have hnc72 := NB357_363.out;have hcz73_0 : w64.cell? ⟨g363, 0, none⟩ = some (.slice none 0 0) := (blk_cell B363.out 0).trans rfl;have hcz73_1 : w64.cell? ⟨g363, 1, none⟩ = some (.int .i64 0) := (blk_cell B363.out 1).trans rfl;have hfz73_0 := blk_frozen B363.out 0;have hfz73_1 := blk_frozen B363.out 1))
 (try simp only [Act.put, List.setIfInBounds_toArray, List.set_cons_zero, List.set_cons_succ])
 go_cut [15] (fun v15 wc => ∃ (kq : Nat) (x15_8 : Bool), v15 = .bool x15_8 ∧ Aside0 (valiselaw01_BitsJoins.j0 kq x15_8 l0_0 a0_1 l1_0 a1_1 t330 t333 t334 t337 t340 t343 t352 t355 = some r) ∧ Aside0 (kq ≤ k) ∧ Aside0 (Kd.R (Kd.int .u8) 5 wc w.heap.size (fun k_ => some k_ ≠ ((.slice Ao21 (t334.length + 1) co21) : Value).ownBlock ∧ some k_ ≠ ((.slice Ao33 t340.length co33) : Value).ownBlock ∧ some k_ ≠ ((.slice Ao44 t346.length co44) : Value).ownBlock ∧ some k_ ≠ ((.slice Ao54 t352.length co54) : Value).ownBlock ∧ some k_ ≠ ((.slice Ao65 t358.length co65) : Value).ownBlock) (.slice Ao18 (t330.length + 1) co18) (t330 ++ [119])) ∧ Aside0 (Kd.R (Kd.int .u8) 5 wc w.heap.size (fun k_ => some k_ ≠ ((.slice Ao18 (t330.length + 1) co18) : Value).ownBlock ∧ some k_ ≠ ((.slice Ao33 t340.length co33) : Value).ownBlock ∧ some k_ ≠ ((.slice Ao44 t346.length co44) : Value).ownBlock ∧ some k_ ≠ ((.slice Ao54 t352.length co54) : Value).ownBlock ∧ some k_ ≠ ((.slice Ao65 t358.length co65) : Value).ownBlock) (.slice Ao21 (t334.length + 1) co21) (t334 ++ [119])) ∧ Aside0 (Kd.R (Kd.int .u8) 5 wc w.heap.size (fun k_ => some k_ ≠ ((.slice Ao18 (t330.length + 1) co18) : Value).ownBlock ∧ some k_ ≠ ((.slice Ao21 (t334.length + 1) co21) : Value).ownBlock ∧ some k_ ≠ ((.slice Ao44 t346.length co44) : Value).ownBlock ∧ some k_ ≠ ((.slice Ao54 t352.length co54) : Value).ownBlock ∧ some k_ ≠ ((.slice Ao65 t358.length co65) : Value).ownBlock) (.slice Ao33 t340.length co33) t340) ∧ Aside0 (Kd.R (Kd.int .u8) 5 wc w.heap.size (fun k_ => some k_ ≠ ((.slice Ao18 (t330.length + 1) co18) : Value).ownBlock ∧ some k_ ≠ ((.slice Ao21 (t334.length + 1) co21) : Value).ownBlock ∧ some k_ ≠ ((.slice Ao33 t340.length co33) : Value).ownBlock ∧ some k_ ≠ ((.slice Ao54 t352.length co54) : Value).ownBlock ∧ some k_ ≠ ((.slice Ao65 t358.length co65) : Value).ownBlock) (.slice Ao44 t346.length co44) t346) ∧ Aside0 (Kd.R (Kd.int .u8) 5 wc w.heap.size (fun k_ => some k_ ≠ ((.slice Ao18 (t330.length + 1) co18) : Value).ownBlock ∧ some k_ ≠ ((.slice Ao21 (t334.length + 1) co21) : Value).ownBlock ∧ some k_ ≠ ((.slice Ao33 t340.length co33) : Value).ownBlock ∧ some k_ ≠ ((.slice Ao44 t346.length co44) : Value).ownBlock ∧ some k_ ≠ ((.slice Ao65 t358.length co65) : Value).ownBlock) (.slice Ao54 t352.length co54) t352) ∧ Aside0 (Kd.R (Kd.int .u8) 5 wc w.heap.size (fun k_ => some k_ ≠ ((.slice Ao18 (t330.length + 1) co18) : Value).ownBlock ∧ some k_ ≠ ((.slice Ao21 (t334.length + 1) co21) : Value).ownBlock ∧ some k_ ≠ ((.slice Ao33 t340.length co33) : Value).ownBlock ∧ some k_ ≠ ((.slice Ao44 t346.length co44) : Value).ownBlock ∧ some k_ ≠ ((.slice Ao54 t352.length co54) : Value).ownBlock) (.slice Ao65 t358.length co65) t358) ∧ Aside0 (wc.heap[g328]? = some (.cells #[(.slice A0_0 l0_0.length c0_0), .int .i64 a0_1] 24 (0, 0))) ∧ Aside0 (wc.heap[g329]? = some (.cells #[(.slice A1_0 l1_0.length c1_0), .int .i64 a1_1] 24 (0, 0))) ∧ Aside0 (wc.heap[g338]? = some (.cells #[(.slice Ao18 t330.length co18), .int .i64 t333] 24 (0, 0))) ∧ Aside0 (wc.heap[g339]? = some (.cells #[(.slice Ao21 t334.length co21), .int .i64 t337] 24 (0, 0))) ∧ Aside0 (wc.heap[g345]? = some (.cells #[(.slice Ao33 t340.length co33), .int .i64 t343] 24 (0, 0))) ∧ Aside0 (wc.heap[g351]? = some (.cells #[(.slice Ao44 t346.length co44), .int .i64 t349] 24 (0, 0))) ∧ Aside0 (wc.heap[g357]? = some (.cells #[(.slice Ao54 t352.length co54), .int .i64 t355] 24 (0, 0))) ∧ Aside0 (wc.heap[g363]? = some (.cells #[(.slice Ao65 t358.length co65), .int .i64 t361] 24 (0, 0))) ∧ Aside0 (Below w.heap.size w wc))
 case first =>
  have H := HC9.out
  clear HC9
  replace H := Option.bind_eq_some_iff.mp H
  obtain ⟨t364, A740, H⟩ := H
  replace H : (if t364 = true then (if t344 = t350 then ((valiseref01_Same.f t352 t355 t358 t361).bind fun t365 => (if t365 = true then (valiselaw01_BitsJoins.j0 k (t356 == t362) l0_0 a0_1 l1_0 a1_1 t330 t333 t334 t337 t340 t343 t352 t355) else (valiselaw01_BitsJoins.j0 k false l0_0 a0_1 l1_0 a1_1 t330 t333 t334 t337 t340 t343 t352 t355))) else (valiselaw01_BitsJoins.j0 k false l0_0 a0_1 l1_0 a1_1 t330 t333 t334 t337 t340 t343 t352 t355)) else (valiselaw01_BitsJoins.j0 k false l0_0 a0_1 l1_0 a1_1 t330 t333 t334 t337 t340 t343 t352 t355)) = some r := H
  have A74 := Aside0.mk A740
  clear A740
  by_cases c75 : t364 = true
  ·subst c75
   have H1 : (if t344 = t350 then ((valiseref01_Same.f t352 t355 t358 t361).bind fun t365 => (if t365 = true then (valiselaw01_BitsJoins.j0 k (t356 == t362) l0_0 a0_1 l1_0 a1_1 t330 t333 t334 t337 t340 t343 t352 t355) else (valiselaw01_BitsJoins.j0 k false l0_0 a0_1 l1_0 a1_1 t330 t333 t334 t337 t340 t343 t352 t355))) else (valiselaw01_BitsJoins.j0 k false l0_0 a0_1 l1_0 a1_1 t330 t333 t334 t337 t340 t343 t352 t355)) = some r := by rw [if_pos rfl] at H;exact H
   clear H
   have H := H1
   clear H1
   by_cases c76 : t344 = t350
   ·rw [if_pos c76] at H
    have c76b0 : (t344 == t350) = true := beq_iff_eq.mpr c76
    have c76b1 : (t344 != t350) = false := bne_eq_false_iff_eq.mpr c76
    clear c76
    (first | rw [c76b0] | (simp only [i64_w, i32_w, u8_w];rw [c76b0]) | skip)
    replace H := Option.bind_eq_some_iff.mp H
    obtain ⟨t365, A770, H⟩ := H
    replace H : (if t365 = true then (valiselaw01_BitsJoins.j0 k (t356 == t362) l0_0 a0_1 l1_0 a1_1 t330 t333 t334 t337 t340 t343 t352 t355) else (valiselaw01_BitsJoins.j0 k false l0_0 a0_1 l1_0 a1_1 t330 t333 t334 t337 t340 t343 t352 t355)) = some r := H
    have A77 := Aside0.mk A770
    clear A770
    by_cases c78 : t365 = true
    ·subst c78
     have H1 : (valiselaw01_BitsJoins.j0 k (t356 == t362) l0_0 a0_1 l1_0 a1_1 t330 t333 t334 t337 t340 t343 t352 t355) = some r := by rw [if_pos rfl] at H;exact H
     clear H
     have H := H1
     clear H1
     have H' := Aside0.mk H
     clear H
     have hnb79 := NB345_328.out
     have hnc79 := NB328_345.out
     have hnb80 := NB345_329.out
     have hnc80 := NB329_345.out
     have hnb81 := NB345_338.out
     have hnc81 := NB338_345.out
     have hnb82 := NB345_339.out
     have hnc82 := NB339_345.out
     have hnb83 := NB345_351.out
     have hnc83 := NB351_345.out
     have hnb84 := NB345_357.out
     have hnc84 := NB357_345.out
     have hnb85 := NB345_363.out
     have hnc85 := NB363_345.out
     have hcz86_0 : w64.cell? ⟨g345, 0, none⟩ = some (.slice Ao33 t340.length co33) := (blk_cell B345.out 0).trans rfl
     have hcz86_1 : w64.cell? ⟨g345, 1, none⟩ = some (.int .i64 t343) := (blk_cell B345.out 1).trans rfl
     have hfz86_0 := blk_frozen B345.out 0
     have hfz86_1 := blk_frozen B345.out 1
     have hnb87 := NB351_328.out
     have hnc87 := NB328_351.out
     have hnb88 := NB351_329.out
     have hnc88 := NB329_351.out
     have hnb89 := NB351_338.out
     have hnc89 := NB338_351.out
     have hnb90 := NB351_339.out
     have hnc90 := NB339_351.out
     have hnb91 := NB351_357.out
     have hnc91 := NB357_351.out
     have hnb92 := NB351_363.out
     have hnc92 := NB363_351.out
     have hcz93_0 : w64.cell? ⟨g351, 0, none⟩ = some (.slice Ao44 t346.length co44) := (blk_cell B351.out 0).trans rfl
     have hcz93_1 : w64.cell? ⟨g351, 1, none⟩ = some (.int .i64 t349) := (blk_cell B351.out 1).trans rfl
     have hfz93_0 := blk_frozen B351.out 0
     have hfz93_1 := blk_frozen B351.out 1
     go_wp2_with (first | ((with_reducible refine gate_callee (f := 14) rfl ?_);refine goesL_ (some 44) rfl rfl Try.func14 (by kernel_rfl) rfl #[.agg #[.slice Ao33 t340.length co33, .int .i64 t343], .agg #[.slice Ao44 t346.length co44, .int .i64 t349]] rfl (by (try simp only [List.map_toArray, List.map_cons, List.map_nil]);first | done | rfl | (simp only [List.length_drop, List.length_take];rfl)) ?_;(with_reducible refine (valiseref01_Same.calls _ _ t340 t343 _ _ t346 t349 true _ ?side1 ?side2 ?side3 ?side4 A74.out).mono ?_);(case side1 => refine (Kd.R_reads' (e := 5) (base := w.heap.size) (ok := fun k_ => (((((True ∧ some k_ ≠ (.slice Ao18 (t330.length + 1) co18 : Value).ownBlock) ∧ some k_ ≠ (.slice Ao21 (t334.length + 1) co21 : Value).ownBlock) ∧ some k_ ≠ (.slice Ao44 t346.length co44 : Value).ownBlock) ∧ some k_ ≠ (.slice Ao54 t352.length co54 : Value).ownBlock) ∧ some k_ ≠ (.slice Ao65 t358.length co65 : Value).ownBlock)) (n := t340.length) (c := co33) ?_).2.2;exact (by (with_reducible repeat (first | apply Kd.R_alloc | apply Kd.R_drewN | apply Kd.R_drew));exact (Kd.R_mono (Kd.R_far (p := ⟨g363, 1, none⟩) (Kd.R_far (p := ⟨g363, 0, none⟩) (Kd.R_types HO342.out B363.out (by decide)) (fun _ hk => hk.2) (.slice Ao65 t358.length co65)) (fun _ hk => hk.2) (.int .i64 t361)) (fun _ h_ => h_.1))));(case side2 => exact (Kd.R_reads' HO342.out).2.1);(case side3 => refine (Kd.R_reads' (e := 5) (base := w.heap.size) (ok := fun k_ => (((((True ∧ some k_ ≠ (.slice Ao18 (t330.length + 1) co18 : Value).ownBlock) ∧ some k_ ≠ (.slice Ao21 (t334.length + 1) co21 : Value).ownBlock) ∧ some k_ ≠ (.slice Ao33 t340.length co33 : Value).ownBlock) ∧ some k_ ≠ (.slice Ao54 t352.length co54 : Value).ownBlock) ∧ some k_ ≠ (.slice Ao65 t358.length co65 : Value).ownBlock)) (n := t346.length) (c := co44) ?_).2.2;exact (by (with_reducible repeat (first | apply Kd.R_alloc | apply Kd.R_drewN | apply Kd.R_drew));exact (Kd.R_mono (Kd.R_far (p := ⟨g363, 1, none⟩) (Kd.R_far (p := ⟨g363, 0, none⟩) (Kd.R_types HO348.out B363.out (by decide)) (fun _ hk => hk.2) (.slice Ao65 t358.length co65)) (fun _ hk => hk.2) (.int .i64 t361)) (fun _ h_ => h_.1))));(case side4 => exact (Kd.R_reads' HO348.out).2.1);rintro e w94 ⟨rfl, hb⟩;refine ⟨_, rfl, ?_⟩;have n0_ := Aside0.mk (Kd.R_below (by (with_reducible repeat (first | apply Kd.R_alloc | apply Kd.R_drewN | apply Kd.R_drew));exact (Kd.R_mono (Kd.R_far (p := ⟨g363, 1, none⟩) (Kd.R_far (p := ⟨g363, 0, none⟩) (Kd.R_types HO332.out B363.out (by decide)) (fun _ hk => hk.2) (.slice Ao65 t358.length co65)) (fun _ hk => hk.2) (.int .i64 t361)) (fun _ h_ => h_.1))) hb);have n1_ := Aside0.mk (Kd.R_below (by (with_reducible repeat (first | apply Kd.R_alloc | apply Kd.R_drewN | apply Kd.R_drew));exact (Kd.R_mono (Kd.R_far (p := ⟨g363, 1, none⟩) (Kd.R_far (p := ⟨g363, 0, none⟩) (Kd.R_types HO336.out B363.out (by decide)) (fun _ hk => hk.2) (.slice Ao65 t358.length co65)) (fun _ hk => hk.2) (.int .i64 t361)) (fun _ h_ => h_.1))) hb);have n2_ := Aside0.mk (Kd.R_below (by (with_reducible repeat (first | apply Kd.R_alloc | apply Kd.R_drewN | apply Kd.R_drew));exact (Kd.R_mono (Kd.R_far (p := ⟨g363, 1, none⟩) (Kd.R_far (p := ⟨g363, 0, none⟩) (Kd.R_types HO342.out B363.out (by decide)) (fun _ hk => hk.2) (.slice Ao65 t358.length co65)) (fun _ hk => hk.2) (.int .i64 t361)) (fun _ h_ => h_.1))) hb);have n3_ := Aside0.mk (Kd.R_below (by (with_reducible repeat (first | apply Kd.R_alloc | apply Kd.R_drewN | apply Kd.R_drew));exact (Kd.R_mono (Kd.R_far (p := ⟨g363, 1, none⟩) (Kd.R_far (p := ⟨g363, 0, none⟩) (Kd.R_types HO348.out B363.out (by decide)) (fun _ hk => hk.2) (.slice Ao65 t358.length co65)) (fun _ hk => hk.2) (.int .i64 t361)) (fun _ h_ => h_.1))) hb);have n4_ := Aside0.mk (Kd.R_below (by (with_reducible repeat (first | apply Kd.R_alloc | apply Kd.R_drewN | apply Kd.R_drew));exact (Kd.R_mono (Kd.R_far (p := ⟨g363, 1, none⟩) (Kd.R_far (p := ⟨g363, 0, none⟩) (Kd.R_types HO354.out B363.out (by decide)) (fun _ hk => hk.2) (.slice Ao65 t358.length co65)) (fun _ hk => hk.2) (.int .i64 t361)) (fun _ h_ => h_.1))) hb);have n5_ := Aside0.mk (Kd.R_below (by (with_reducible repeat (first | apply Kd.R_alloc | apply Kd.R_drewN | apply Kd.R_drew));exact (Kd.R_mono (Kd.R_far (p := ⟨g363, 1, none⟩) (Kd.R_far (p := ⟨g363, 0, none⟩) (Kd.R_types HO360.out B363.out (by decide)) (fun _ hk => hk.2) (.slice Ao65 t358.length co65)) (fun _ hk => hk.2) (.int .i64 t361)) (fun _ h_ => h_.1))) hb);have n6_ := Aside0.mk (blk_below (g := g328) (o := .cells #[.slice A0_0 l0_0.length c0_0, .int .i64 a0_1] 24 (0, 0)) (by (with_reducible repeat (first | refine blk_drewN ?_ _ | refine blk_drew ?_ | refine blk_alloc ?_ _));refine blk_far ?_ NB328_363.out _;(with_reducible repeat (first | refine blk_drewN ?_ _ | refine blk_drew ?_ | refine blk_alloc ?_ _));refine blk_far ?_ NB328_363.out _;(with_reducible repeat (first | refine blk_drewN ?_ _ | refine blk_drew ?_ | refine blk_alloc ?_ _));exact B328.out) hb);have n7_ := Aside0.mk (blk_below (g := g329) (o := .cells #[.slice A1_0 l1_0.length c1_0, .int .i64 a1_1] 24 (0, 0)) (by (with_reducible repeat (first | refine blk_drewN ?_ _ | refine blk_drew ?_ | refine blk_alloc ?_ _));refine blk_far ?_ NB329_363.out _;(with_reducible repeat (first | refine blk_drewN ?_ _ | refine blk_drew ?_ | refine blk_alloc ?_ _));refine blk_far ?_ NB329_363.out _;(with_reducible repeat (first | refine blk_drewN ?_ _ | refine blk_drew ?_ | refine blk_alloc ?_ _));exact B329.out) hb);have n8_ := Aside0.mk (blk_below (g := g338) (o := .cells #[.slice Ao18 t330.length co18, .int .i64 t333] 24 (0, 0)) (by (with_reducible repeat (first | refine blk_drewN ?_ _ | refine blk_drew ?_ | refine blk_alloc ?_ _));refine blk_far ?_ NB338_363.out _;(with_reducible repeat (first | refine blk_drewN ?_ _ | refine blk_drew ?_ | refine blk_alloc ?_ _));refine blk_far ?_ NB338_363.out _;(with_reducible repeat (first | refine blk_drewN ?_ _ | refine blk_drew ?_ | refine blk_alloc ?_ _));exact B338.out) hb);have n9_ := Aside0.mk (blk_below (g := g339) (o := .cells #[.slice Ao21 t334.length co21, .int .i64 t337] 24 (0, 0)) (by (with_reducible repeat (first | refine blk_drewN ?_ _ | refine blk_drew ?_ | refine blk_alloc ?_ _));refine blk_far ?_ NB339_363.out _;(with_reducible repeat (first | refine blk_drewN ?_ _ | refine blk_drew ?_ | refine blk_alloc ?_ _));refine blk_far ?_ NB339_363.out _;(with_reducible repeat (first | refine blk_drewN ?_ _ | refine blk_drew ?_ | refine blk_alloc ?_ _));exact B339.out) hb);have n10_ := Aside0.mk (blk_below (g := g345) (o := .cells #[.slice Ao33 t340.length co33, .int .i64 t343] 24 (0, 0)) (by (with_reducible repeat (first | refine blk_drewN ?_ _ | refine blk_drew ?_ | refine blk_alloc ?_ _));refine blk_far ?_ NB345_363.out _;(with_reducible repeat (first | refine blk_drewN ?_ _ | refine blk_drew ?_ | refine blk_alloc ?_ _));refine blk_far ?_ NB345_363.out _;(with_reducible repeat (first | refine blk_drewN ?_ _ | refine blk_drew ?_ | refine blk_alloc ?_ _));exact B345.out) hb);have n11_ := Aside0.mk (blk_below (g := g351) (o := .cells #[.slice Ao44 t346.length co44, .int .i64 t349] 24 (0, 0)) (by (with_reducible repeat (first | refine blk_drewN ?_ _ | refine blk_drew ?_ | refine blk_alloc ?_ _));refine blk_far ?_ NB351_363.out _;(with_reducible repeat (first | refine blk_drewN ?_ _ | refine blk_drew ?_ | refine blk_alloc ?_ _));refine blk_far ?_ NB351_363.out _;(with_reducible repeat (first | refine blk_drewN ?_ _ | refine blk_drew ?_ | refine blk_alloc ?_ _));exact B351.out) hb);have n12_ := Aside0.mk (blk_below (g := g357) (o := .cells #[.slice Ao54 t352.length co54, .int .i64 t355] 24 (0, 0)) (by (with_reducible repeat (first | refine blk_drewN ?_ _ | refine blk_drew ?_ | refine blk_alloc ?_ _));refine blk_far ?_ NB357_363.out _;(with_reducible repeat (first | refine blk_drewN ?_ _ | refine blk_drew ?_ | refine blk_alloc ?_ _));refine blk_far ?_ NB357_363.out _;(with_reducible repeat (first | refine blk_drewN ?_ _ | refine blk_drew ?_ | refine blk_alloc ?_ _));exact B357.out) hb);have n13_ := Aside0.mk (blk_below (g := g363) (o := .cells #[.slice Ao65 t358.length co65, .int .i64 t361] 24 (0, 0)) (by (with_reducible repeat (first | refine blk_drewN ?_ _ | refine blk_drew ?_ | refine blk_alloc ?_ _));refine blk_put (cs := #[.slice Ao65 t358.length co65, .int .i64 0]) ?_ 1 _ rfl;(with_reducible repeat (first | refine blk_drewN ?_ _ | refine blk_drew ?_ | refine blk_alloc ?_ _));refine blk_put (cs := #[.slice none 0 0, .int .i64 0]) ?_ 0 _ rfl;(with_reducible repeat (first | refine blk_drewN ?_ _ | refine blk_drew ?_ | refine blk_alloc ?_ _));exact B363.out) hb);have n14_ := Aside0.mk (below_step (by repeat (first | (with_reducible first | exact HB.out | apply below_alloc | apply pw_below_drewN | apply below_drew1 | refine below_set ?_ GE328.out | refine below_set ?_ GE329.out | refine below_set ?_ GE338.out | refine below_set ?_ GE339.out | refine below_set ?_ GE345.out | refine below_set ?_ GE351.out | refine below_set ?_ GE357.out | refine below_set ?_ GE363.out) | exact HB.out)) hb);clear HO332;clear HO336;clear HO342;clear HO348;clear HO354;clear HO360;clear B328;clear B329;clear B338;clear B339;clear B345;clear B351;clear B357;clear B363;clear HB;have HO332 := n0_;have HO336 := n1_;have HO342 := n2_;have HO348 := n3_;have HO354 := n4_;have HO360 := n5_;have B328 := n6_;have B329 := n7_;have B338 := n8_;have B339 := n9_;have B345 := n10_;have B351 := n11_;have B357 := n12_;have B363 := n13_;have HB := n14_;clear n0_ n1_ n2_ n3_ n4_ n5_ n6_ n7_ n8_ n9_ n10_ n11_ n12_ n13_ n14_;(try clear hb);(try clear hb2);(try clear hk);(try clear hi);have hnb95 := NB357_328.out;have hnc95 := NB328_357.out;have hnb96 := NB357_329.out;have hnc96 := NB329_357.out;have hnb97 := NB357_338.out;have hnc97 := NB338_357.out;have hnb98 := NB357_339.out;have hnc98 := NB339_357.out;have hnb99 := NB357_363.out;have hnc99 := NB363_357.out;have hcz100_0 : w94.cell? ⟨g357, 0, none⟩ = some (.slice Ao54 t352.length co54) := (blk_cell B357.out 0).trans rfl;have hcz100_1 : w94.cell? ⟨g357, 1, none⟩ = some (.int .i64 t355) := (blk_cell B357.out 1).trans rfl;have hfz100_0 := blk_frozen B357.out 0;have hfz100_1 := blk_frozen B357.out 1;have hnb101 := NB363_328.out;have hnc101 := NB328_363.out;have hnb102 := NB363_329.out;have hnc102 := NB329_363.out;have hnb103 := NB363_338.out;have hnc103 := NB338_363.out;have hnb104 := NB363_339.out;have hnc104 := NB339_363.out;have hcz105_0 : w94.cell? ⟨g363, 0, none⟩ = some (.slice Ao65 t358.length co65) := (blk_cell B363.out 0).trans rfl;have hcz105_1 : w94.cell? ⟨g363, 1, none⟩ = some (.int .i64 t361) := (blk_cell B363.out 1).trans rfl;have hfz105_0 := blk_frozen B363.out 0;have hfz105_1 := blk_frozen B363.out 1) | (go_at_call 14;(with_reducible refine (valiseref01_Same.calls _ _ t352 t355 _ _ t358 t361 true _ ?side1 ?side2 ?side3 ?side4 A77.out).mono ?_);(case side1 => repeat (first | exact (Kd.R_reads' HO354.out).2.2 | (with_reducible refine Kd.C_alloc ?_ _) | (with_reducible refine Kd.C_drewN ?_ _) | (with_reducible refine Kd.C_drew ?_)));(case side2 => exact (Kd.R_reads' HO354.out).2.1);(case side3 => repeat (first | exact (Kd.R_reads' HO360.out).2.2 | (with_reducible refine Kd.C_alloc ?_ _) | (with_reducible refine Kd.C_drewN ?_ _) | (with_reducible refine Kd.C_drew ?_)));(case side4 => exact (Kd.R_reads' HO360.out).2.1);rintro e w106 ⟨rfl, hb⟩;have n0_ := Aside0.mk (Kd.R_below (by (with_reducible repeat (first | apply Kd.R_alloc | apply Kd.R_drewN | apply Kd.R_drew));exact HO332.out) hb);have n1_ := Aside0.mk (Kd.R_below (by (with_reducible repeat (first | apply Kd.R_alloc | apply Kd.R_drewN | apply Kd.R_drew));exact HO336.out) hb);have n2_ := Aside0.mk (Kd.R_below (by (with_reducible repeat (first | apply Kd.R_alloc | apply Kd.R_drewN | apply Kd.R_drew));exact HO342.out) hb);have n3_ := Aside0.mk (Kd.R_below (by (with_reducible repeat (first | apply Kd.R_alloc | apply Kd.R_drewN | apply Kd.R_drew));exact HO348.out) hb);have n4_ := Aside0.mk (Kd.R_below (by (with_reducible repeat (first | apply Kd.R_alloc | apply Kd.R_drewN | apply Kd.R_drew));exact HO354.out) hb);have n5_ := Aside0.mk (Kd.R_below (by (with_reducible repeat (first | apply Kd.R_alloc | apply Kd.R_drewN | apply Kd.R_drew));exact HO360.out) hb);have n6_ := Aside0.mk (blk_below (g := g328) (o := .cells #[.slice A0_0 l0_0.length c0_0, .int .i64 a0_1] 24 (0, 0)) (by (with_reducible repeat (first | refine blk_drewN ?_ _ | refine blk_drew ?_ | refine blk_alloc ?_ _));exact B328.out) hb);have n7_ := Aside0.mk (blk_below (g := g329) (o := .cells #[.slice A1_0 l1_0.length c1_0, .int .i64 a1_1] 24 (0, 0)) (by (with_reducible repeat (first | refine blk_drewN ?_ _ | refine blk_drew ?_ | refine blk_alloc ?_ _));exact B329.out) hb);have n8_ := Aside0.mk (blk_below (g := g338) (o := .cells #[.slice Ao18 t330.length co18, .int .i64 t333] 24 (0, 0)) (by (with_reducible repeat (first | refine blk_drewN ?_ _ | refine blk_drew ?_ | refine blk_alloc ?_ _));exact B338.out) hb);have n9_ := Aside0.mk (blk_below (g := g339) (o := .cells #[.slice Ao21 t334.length co21, .int .i64 t337] 24 (0, 0)) (by (with_reducible repeat (first | refine blk_drewN ?_ _ | refine blk_drew ?_ | refine blk_alloc ?_ _));exact B339.out) hb);have n10_ := Aside0.mk (blk_below (g := g345) (o := .cells #[.slice Ao33 t340.length co33, .int .i64 t343] 24 (0, 0)) (by (with_reducible repeat (first | refine blk_drewN ?_ _ | refine blk_drew ?_ | refine blk_alloc ?_ _));exact B345.out) hb);have n11_ := Aside0.mk (blk_below (g := g351) (o := .cells #[.slice Ao44 t346.length co44, .int .i64 t349] 24 (0, 0)) (by (with_reducible repeat (first | refine blk_drewN ?_ _ | refine blk_drew ?_ | refine blk_alloc ?_ _));exact B351.out) hb);have n12_ := Aside0.mk (blk_below (g := g357) (o := .cells #[.slice Ao54 t352.length co54, .int .i64 t355] 24 (0, 0)) (by (with_reducible repeat (first | refine blk_drewN ?_ _ | refine blk_drew ?_ | refine blk_alloc ?_ _));exact B357.out) hb);have n13_ := Aside0.mk (blk_below (g := g363) (o := .cells #[.slice Ao65 t358.length co65, .int .i64 t361] 24 (0, 0)) (by (with_reducible repeat (first | refine blk_drewN ?_ _ | refine blk_drew ?_ | refine blk_alloc ?_ _));exact B363.out) hb);have n14_ := Aside0.mk (below_step (by repeat (first | (with_reducible first | exact HB.out | apply below_alloc | apply pw_below_drewN | apply below_drew1 | refine below_set ?_ GE328.out | refine below_set ?_ GE329.out | refine below_set ?_ GE338.out | refine below_set ?_ GE339.out | refine below_set ?_ GE345.out | refine below_set ?_ GE351.out | refine below_set ?_ GE357.out | refine below_set ?_ GE363.out) | exact HB.out)) hb);clear HO332;clear HO336;clear HO342;clear HO348;clear HO354;clear HO360;clear B328;clear B329;clear B338;clear B339;clear B345;clear B351;clear B357;clear B363;clear HB;have HO332 := n0_;have HO336 := n1_;have HO342 := n2_;have HO348 := n3_;have HO354 := n4_;have HO360 := n5_;have B328 := n6_;have B329 := n7_;have B338 := n8_;have B339 := n9_;have B345 := n10_;have B351 := n11_;have B357 := n12_;have B363 := n13_;have HB := n14_;clear n0_ n1_ n2_ n3_ n4_ n5_ n6_ n7_ n8_ n9_ n10_ n11_ n12_ n13_ n14_;(try clear hb);(try clear hb2);(try clear hk);(try clear hi)))
     go_meet
     case rel => exact ⟨_, ((t356 == t362)), (by first | rfl | (simp;done) | (simp [*];done)), H', ⟨by first | omega | exact Nat.le_refl _⟩, ⟨by (with_reducible repeat (first | apply Kd.R_alloc | apply Kd.R_drewN | apply Kd.R_drew));exact Kd.R_mono HO332.out (fun _ hk => ⟨hk.1.1.1.1, ⟨hk.1.1.1.2, ⟨hk.1.1.2, ⟨hk.1.2, hk.2⟩⟩⟩⟩)⟩, ⟨by (with_reducible repeat (first | apply Kd.R_alloc | apply Kd.R_drewN | apply Kd.R_drew));exact Kd.R_mono HO336.out (fun _ hk => ⟨hk.1.1.1.1, ⟨hk.1.1.1.2, ⟨hk.1.1.2, ⟨hk.1.2, hk.2⟩⟩⟩⟩)⟩, ⟨by (with_reducible repeat (first | apply Kd.R_alloc | apply Kd.R_drewN | apply Kd.R_drew));exact Kd.R_mono HO342.out (fun _ hk => ⟨hk.1.1.1.1.2, ⟨hk.1.1.1.2, ⟨hk.1.1.2, ⟨hk.1.2, hk.2⟩⟩⟩⟩)⟩, ⟨by (with_reducible repeat (first | apply Kd.R_alloc | apply Kd.R_drewN | apply Kd.R_drew));exact Kd.R_mono HO348.out (fun _ hk => ⟨hk.1.1.1.1.2, ⟨hk.1.1.1.2, ⟨hk.1.1.2, ⟨hk.1.2, hk.2⟩⟩⟩⟩)⟩, ⟨by (with_reducible repeat (first | apply Kd.R_alloc | apply Kd.R_drewN | apply Kd.R_drew));exact Kd.R_mono HO354.out (fun _ hk => ⟨hk.1.1.1.1.2, ⟨hk.1.1.1.2, ⟨hk.1.1.2, ⟨hk.1.2, hk.2⟩⟩⟩⟩)⟩, ⟨by (with_reducible repeat (first | apply Kd.R_alloc | apply Kd.R_drewN | apply Kd.R_drew));exact Kd.R_mono HO360.out (fun _ hk => ⟨hk.1.1.1.1.2, ⟨hk.1.1.1.2, ⟨hk.1.1.2, ⟨hk.1.2, hk.2⟩⟩⟩⟩)⟩, ⟨by (with_reducible repeat (first | refine blk_drewN ?_ _ | refine blk_drew ?_ | refine blk_alloc ?_ _));exact B328.out⟩, ⟨by (with_reducible repeat (first | refine blk_drewN ?_ _ | refine blk_drew ?_ | refine blk_alloc ?_ _));exact B329.out⟩, ⟨by (with_reducible repeat (first | refine blk_drewN ?_ _ | refine blk_drew ?_ | refine blk_alloc ?_ _));exact B338.out⟩, ⟨by (with_reducible repeat (first | refine blk_drewN ?_ _ | refine blk_drew ?_ | refine blk_alloc ?_ _));exact B339.out⟩, ⟨by (with_reducible repeat (first | refine blk_drewN ?_ _ | refine blk_drew ?_ | refine blk_alloc ?_ _));exact B345.out⟩, ⟨by (with_reducible repeat (first | refine blk_drewN ?_ _ | refine blk_drew ?_ | refine blk_alloc ?_ _));exact B351.out⟩, ⟨by (with_reducible repeat (first | refine blk_drewN ?_ _ | refine blk_drew ?_ | refine blk_alloc ?_ _));exact B357.out⟩, ⟨by (with_reducible repeat (first | refine blk_drewN ?_ _ | refine blk_drew ?_ | refine blk_alloc ?_ _));exact B363.out⟩, ⟨by repeat (first | (with_reducible first | exact HB.out | apply below_alloc | apply pw_below_drewN | apply below_drew1 | refine below_set ?_ GE328.out | refine below_set ?_ GE329.out | refine below_set ?_ GE338.out | refine below_set ?_ GE339.out | refine below_set ?_ GE345.out | refine below_set ?_ GE351.out | refine below_set ?_ GE357.out | refine below_set ?_ GE363.out) | exact HB.out)⟩⟩
    ·replace c78 := Bool.eq_false_iff.mpr c78
     subst c78
     have H1 : (valiselaw01_BitsJoins.j0 k false l0_0 a0_1 l1_0 a1_1 t330 t333 t334 t337 t340 t343 t352 t355) = some r := by rw [if_neg (show ¬ (false = true) by decide)] at H;exact H
     clear H
     have H := H1
     clear H1
     have H' := Aside0.mk H
     clear H
     have hnb107 := NB345_328.out
     have hnc107 := NB328_345.out
     have hnb108 := NB345_329.out
     have hnc108 := NB329_345.out
     have hnb109 := NB345_338.out
     have hnc109 := NB338_345.out
     have hnb110 := NB345_339.out
     have hnc110 := NB339_345.out
     have hnb111 := NB345_351.out
     have hnc111 := NB351_345.out
     have hnb112 := NB345_357.out
     have hnc112 := NB357_345.out
     have hnb113 := NB345_363.out
     have hnc113 := NB363_345.out
     have hcz114_0 : w64.cell? ⟨g345, 0, none⟩ = some (.slice Ao33 t340.length co33) := (blk_cell B345.out 0).trans rfl
     have hcz114_1 : w64.cell? ⟨g345, 1, none⟩ = some (.int .i64 t343) := (blk_cell B345.out 1).trans rfl
     have hfz114_0 := blk_frozen B345.out 0
     have hfz114_1 := blk_frozen B345.out 1
     have hnb115 := NB351_328.out
     have hnc115 := NB328_351.out
     have hnb116 := NB351_329.out
     have hnc116 := NB329_351.out
     have hnb117 := NB351_338.out
     have hnc117 := NB338_351.out
     have hnb118 := NB351_339.out
     have hnc118 := NB339_351.out
     have hnb119 := NB351_357.out
     have hnc119 := NB357_351.out
     have hnb120 := NB351_363.out
     have hnc120 := NB363_351.out
     have hcz121_0 : w64.cell? ⟨g351, 0, none⟩ = some (.slice Ao44 t346.length co44) := (blk_cell B351.out 0).trans rfl
     have hcz121_1 : w64.cell? ⟨g351, 1, none⟩ = some (.int .i64 t349) := (blk_cell B351.out 1).trans rfl
     have hfz121_0 := blk_frozen B351.out 0
     have hfz121_1 := blk_frozen B351.out 1
     go_wp2_with (first | ((with_reducible refine gate_callee (f := 14) rfl ?_);refine goesL_ (some 44) rfl rfl Try.func14 (by kernel_rfl) rfl #[.agg #[.slice Ao33 t340.length co33, .int .i64 t343], .agg #[.slice Ao44 t346.length co44, .int .i64 t349]] rfl (by (try simp only [List.map_toArray, List.map_cons, List.map_nil]);first | done | rfl | (simp only [List.length_drop, List.length_take];rfl)) ?_;(with_reducible refine (valiseref01_Same.calls _ _ t340 t343 _ _ t346 t349 true _ ?side1 ?side2 ?side3 ?side4 A74.out).mono ?_);(case side1 => refine (Kd.R_reads' (e := 5) (base := w.heap.size) (ok := fun k_ => (((((True ∧ some k_ ≠ (.slice Ao18 (t330.length + 1) co18 : Value).ownBlock) ∧ some k_ ≠ (.slice Ao21 (t334.length + 1) co21 : Value).ownBlock) ∧ some k_ ≠ (.slice Ao44 t346.length co44 : Value).ownBlock) ∧ some k_ ≠ (.slice Ao54 t352.length co54 : Value).ownBlock) ∧ some k_ ≠ (.slice Ao65 t358.length co65 : Value).ownBlock)) (n := t340.length) (c := co33) ?_).2.2;exact (by (with_reducible repeat (first | apply Kd.R_alloc | apply Kd.R_drewN | apply Kd.R_drew));exact (Kd.R_mono (Kd.R_far (p := ⟨g363, 1, none⟩) (Kd.R_far (p := ⟨g363, 0, none⟩) (Kd.R_types HO342.out B363.out (by decide)) (fun _ hk => hk.2) (.slice Ao65 t358.length co65)) (fun _ hk => hk.2) (.int .i64 t361)) (fun _ h_ => h_.1))));(case side2 => exact (Kd.R_reads' HO342.out).2.1);(case side3 => refine (Kd.R_reads' (e := 5) (base := w.heap.size) (ok := fun k_ => (((((True ∧ some k_ ≠ (.slice Ao18 (t330.length + 1) co18 : Value).ownBlock) ∧ some k_ ≠ (.slice Ao21 (t334.length + 1) co21 : Value).ownBlock) ∧ some k_ ≠ (.slice Ao33 t340.length co33 : Value).ownBlock) ∧ some k_ ≠ (.slice Ao54 t352.length co54 : Value).ownBlock) ∧ some k_ ≠ (.slice Ao65 t358.length co65 : Value).ownBlock)) (n := t346.length) (c := co44) ?_).2.2;exact (by (with_reducible repeat (first | apply Kd.R_alloc | apply Kd.R_drewN | apply Kd.R_drew));exact (Kd.R_mono (Kd.R_far (p := ⟨g363, 1, none⟩) (Kd.R_far (p := ⟨g363, 0, none⟩) (Kd.R_types HO348.out B363.out (by decide)) (fun _ hk => hk.2) (.slice Ao65 t358.length co65)) (fun _ hk => hk.2) (.int .i64 t361)) (fun _ h_ => h_.1))));(case side4 => exact (Kd.R_reads' HO348.out).2.1);rintro e w122 ⟨rfl, hb⟩;refine ⟨_, rfl, ?_⟩;have n0_ := Aside0.mk (Kd.R_below (by (with_reducible repeat (first | apply Kd.R_alloc | apply Kd.R_drewN | apply Kd.R_drew));exact (Kd.R_mono (Kd.R_far (p := ⟨g363, 1, none⟩) (Kd.R_far (p := ⟨g363, 0, none⟩) (Kd.R_types HO332.out B363.out (by decide)) (fun _ hk => hk.2) (.slice Ao65 t358.length co65)) (fun _ hk => hk.2) (.int .i64 t361)) (fun _ h_ => h_.1))) hb);have n1_ := Aside0.mk (Kd.R_below (by (with_reducible repeat (first | apply Kd.R_alloc | apply Kd.R_drewN | apply Kd.R_drew));exact (Kd.R_mono (Kd.R_far (p := ⟨g363, 1, none⟩) (Kd.R_far (p := ⟨g363, 0, none⟩) (Kd.R_types HO336.out B363.out (by decide)) (fun _ hk => hk.2) (.slice Ao65 t358.length co65)) (fun _ hk => hk.2) (.int .i64 t361)) (fun _ h_ => h_.1))) hb);have n2_ := Aside0.mk (Kd.R_below (by (with_reducible repeat (first | apply Kd.R_alloc | apply Kd.R_drewN | apply Kd.R_drew));exact (Kd.R_mono (Kd.R_far (p := ⟨g363, 1, none⟩) (Kd.R_far (p := ⟨g363, 0, none⟩) (Kd.R_types HO342.out B363.out (by decide)) (fun _ hk => hk.2) (.slice Ao65 t358.length co65)) (fun _ hk => hk.2) (.int .i64 t361)) (fun _ h_ => h_.1))) hb);have n3_ := Aside0.mk (Kd.R_below (by (with_reducible repeat (first | apply Kd.R_alloc | apply Kd.R_drewN | apply Kd.R_drew));exact (Kd.R_mono (Kd.R_far (p := ⟨g363, 1, none⟩) (Kd.R_far (p := ⟨g363, 0, none⟩) (Kd.R_types HO348.out B363.out (by decide)) (fun _ hk => hk.2) (.slice Ao65 t358.length co65)) (fun _ hk => hk.2) (.int .i64 t361)) (fun _ h_ => h_.1))) hb);have n4_ := Aside0.mk (Kd.R_below (by (with_reducible repeat (first | apply Kd.R_alloc | apply Kd.R_drewN | apply Kd.R_drew));exact (Kd.R_mono (Kd.R_far (p := ⟨g363, 1, none⟩) (Kd.R_far (p := ⟨g363, 0, none⟩) (Kd.R_types HO354.out B363.out (by decide)) (fun _ hk => hk.2) (.slice Ao65 t358.length co65)) (fun _ hk => hk.2) (.int .i64 t361)) (fun _ h_ => h_.1))) hb);have n5_ := Aside0.mk (Kd.R_below (by (with_reducible repeat (first | apply Kd.R_alloc | apply Kd.R_drewN | apply Kd.R_drew));exact (Kd.R_mono (Kd.R_far (p := ⟨g363, 1, none⟩) (Kd.R_far (p := ⟨g363, 0, none⟩) (Kd.R_types HO360.out B363.out (by decide)) (fun _ hk => hk.2) (.slice Ao65 t358.length co65)) (fun _ hk => hk.2) (.int .i64 t361)) (fun _ h_ => h_.1))) hb);have n6_ := Aside0.mk (blk_below (g := g328) (o := .cells #[.slice A0_0 l0_0.length c0_0, .int .i64 a0_1] 24 (0, 0)) (by (with_reducible repeat (first | refine blk_drewN ?_ _ | refine blk_drew ?_ | refine blk_alloc ?_ _));refine blk_far ?_ NB328_363.out _;(with_reducible repeat (first | refine blk_drewN ?_ _ | refine blk_drew ?_ | refine blk_alloc ?_ _));refine blk_far ?_ NB328_363.out _;(with_reducible repeat (first | refine blk_drewN ?_ _ | refine blk_drew ?_ | refine blk_alloc ?_ _));exact B328.out) hb);have n7_ := Aside0.mk (blk_below (g := g329) (o := .cells #[.slice A1_0 l1_0.length c1_0, .int .i64 a1_1] 24 (0, 0)) (by (with_reducible repeat (first | refine blk_drewN ?_ _ | refine blk_drew ?_ | refine blk_alloc ?_ _));refine blk_far ?_ NB329_363.out _;(with_reducible repeat (first | refine blk_drewN ?_ _ | refine blk_drew ?_ | refine blk_alloc ?_ _));refine blk_far ?_ NB329_363.out _;(with_reducible repeat (first | refine blk_drewN ?_ _ | refine blk_drew ?_ | refine blk_alloc ?_ _));exact B329.out) hb);have n8_ := Aside0.mk (blk_below (g := g338) (o := .cells #[.slice Ao18 t330.length co18, .int .i64 t333] 24 (0, 0)) (by (with_reducible repeat (first | refine blk_drewN ?_ _ | refine blk_drew ?_ | refine blk_alloc ?_ _));refine blk_far ?_ NB338_363.out _;(with_reducible repeat (first | refine blk_drewN ?_ _ | refine blk_drew ?_ | refine blk_alloc ?_ _));refine blk_far ?_ NB338_363.out _;(with_reducible repeat (first | refine blk_drewN ?_ _ | refine blk_drew ?_ | refine blk_alloc ?_ _));exact B338.out) hb);have n9_ := Aside0.mk (blk_below (g := g339) (o := .cells #[.slice Ao21 t334.length co21, .int .i64 t337] 24 (0, 0)) (by (with_reducible repeat (first | refine blk_drewN ?_ _ | refine blk_drew ?_ | refine blk_alloc ?_ _));refine blk_far ?_ NB339_363.out _;(with_reducible repeat (first | refine blk_drewN ?_ _ | refine blk_drew ?_ | refine blk_alloc ?_ _));refine blk_far ?_ NB339_363.out _;(with_reducible repeat (first | refine blk_drewN ?_ _ | refine blk_drew ?_ | refine blk_alloc ?_ _));exact B339.out) hb);have n10_ := Aside0.mk (blk_below (g := g345) (o := .cells #[.slice Ao33 t340.length co33, .int .i64 t343] 24 (0, 0)) (by (with_reducible repeat (first | refine blk_drewN ?_ _ | refine blk_drew ?_ | refine blk_alloc ?_ _));refine blk_far ?_ NB345_363.out _;(with_reducible repeat (first | refine blk_drewN ?_ _ | refine blk_drew ?_ | refine blk_alloc ?_ _));refine blk_far ?_ NB345_363.out _;(with_reducible repeat (first | refine blk_drewN ?_ _ | refine blk_drew ?_ | refine blk_alloc ?_ _));exact B345.out) hb);have n11_ := Aside0.mk (blk_below (g := g351) (o := .cells #[.slice Ao44 t346.length co44, .int .i64 t349] 24 (0, 0)) (by (with_reducible repeat (first | refine blk_drewN ?_ _ | refine blk_drew ?_ | refine blk_alloc ?_ _));refine blk_far ?_ NB351_363.out _;(with_reducible repeat (first | refine blk_drewN ?_ _ | refine blk_drew ?_ | refine blk_alloc ?_ _));refine blk_far ?_ NB351_363.out _;(with_reducible repeat (first | refine blk_drewN ?_ _ | refine blk_drew ?_ | refine blk_alloc ?_ _));exact B351.out) hb);have n12_ := Aside0.mk (blk_below (g := g357) (o := .cells #[.slice Ao54 t352.length co54, .int .i64 t355] 24 (0, 0)) (by (with_reducible repeat (first | refine blk_drewN ?_ _ | refine blk_drew ?_ | refine blk_alloc ?_ _));refine blk_far ?_ NB357_363.out _;(with_reducible repeat (first | refine blk_drewN ?_ _ | refine blk_drew ?_ | refine blk_alloc ?_ _));refine blk_far ?_ NB357_363.out _;(with_reducible repeat (first | refine blk_drewN ?_ _ | refine blk_drew ?_ | refine blk_alloc ?_ _));exact B357.out) hb);have n13_ := Aside0.mk (blk_below (g := g363) (o := .cells #[.slice Ao65 t358.length co65, .int .i64 t361] 24 (0, 0)) (by (with_reducible repeat (first | refine blk_drewN ?_ _ | refine blk_drew ?_ | refine blk_alloc ?_ _));refine blk_put (cs := #[.slice Ao65 t358.length co65, .int .i64 0]) ?_ 1 _ rfl;(with_reducible repeat (first | refine blk_drewN ?_ _ | refine blk_drew ?_ | refine blk_alloc ?_ _));refine blk_put (cs := #[.slice none 0 0, .int .i64 0]) ?_ 0 _ rfl;(with_reducible repeat (first | refine blk_drewN ?_ _ | refine blk_drew ?_ | refine blk_alloc ?_ _));exact B363.out) hb);have n14_ := Aside0.mk (below_step (by repeat (first | (with_reducible first | exact HB.out | apply below_alloc | apply pw_below_drewN | apply below_drew1 | refine below_set ?_ GE328.out | refine below_set ?_ GE329.out | refine below_set ?_ GE338.out | refine below_set ?_ GE339.out | refine below_set ?_ GE345.out | refine below_set ?_ GE351.out | refine below_set ?_ GE357.out | refine below_set ?_ GE363.out) | exact HB.out)) hb);clear HO332;clear HO336;clear HO342;clear HO348;clear HO354;clear HO360;clear B328;clear B329;clear B338;clear B339;clear B345;clear B351;clear B357;clear B363;clear HB;have HO332 := n0_;have HO336 := n1_;have HO342 := n2_;have HO348 := n3_;have HO354 := n4_;have HO360 := n5_;have B328 := n6_;have B329 := n7_;have B338 := n8_;have B339 := n9_;have B345 := n10_;have B351 := n11_;have B357 := n12_;have B363 := n13_;have HB := n14_;clear n0_ n1_ n2_ n3_ n4_ n5_ n6_ n7_ n8_ n9_ n10_ n11_ n12_ n13_ n14_;(try clear hb);(try clear hb2);(try clear hk);(try clear hi);have hnb123 := NB357_328.out;have hnc123 := NB328_357.out;have hnb124 := NB357_329.out;have hnc124 := NB329_357.out;have hnb125 := NB357_338.out;have hnc125 := NB338_357.out;have hnb126 := NB357_339.out;have hnc126 := NB339_357.out;have hnb127 := NB357_363.out;have hnc127 := NB363_357.out;have hcz128_0 : w122.cell? ⟨g357, 0, none⟩ = some (.slice Ao54 t352.length co54) := (blk_cell B357.out 0).trans rfl;have hcz128_1 : w122.cell? ⟨g357, 1, none⟩ = some (.int .i64 t355) := (blk_cell B357.out 1).trans rfl;have hfz128_0 := blk_frozen B357.out 0;have hfz128_1 := blk_frozen B357.out 1;have hnb129 := NB363_328.out;have hnc129 := NB328_363.out;have hnb130 := NB363_329.out;have hnc130 := NB329_363.out;have hnb131 := NB363_338.out;have hnc131 := NB338_363.out;have hnb132 := NB363_339.out;have hnc132 := NB339_363.out;have hcz133_0 : w122.cell? ⟨g363, 0, none⟩ = some (.slice Ao65 t358.length co65) := (blk_cell B363.out 0).trans rfl;have hcz133_1 : w122.cell? ⟨g363, 1, none⟩ = some (.int .i64 t361) := (blk_cell B363.out 1).trans rfl;have hfz133_0 := blk_frozen B363.out 0;have hfz133_1 := blk_frozen B363.out 1) | (go_at_call 14;(with_reducible refine (valiseref01_Same.calls _ _ t352 t355 _ _ t358 t361 false _ ?side1 ?side2 ?side3 ?side4 A77.out).mono ?_);(case side1 => repeat (first | exact (Kd.R_reads' HO354.out).2.2 | (with_reducible refine Kd.C_alloc ?_ _) | (with_reducible refine Kd.C_drewN ?_ _) | (with_reducible refine Kd.C_drew ?_)));(case side2 => exact (Kd.R_reads' HO354.out).2.1);(case side3 => repeat (first | exact (Kd.R_reads' HO360.out).2.2 | (with_reducible refine Kd.C_alloc ?_ _) | (with_reducible refine Kd.C_drewN ?_ _) | (with_reducible refine Kd.C_drew ?_)));(case side4 => exact (Kd.R_reads' HO360.out).2.1);rintro e w134 ⟨rfl, hb⟩;have n0_ := Aside0.mk (Kd.R_below (by (with_reducible repeat (first | apply Kd.R_alloc | apply Kd.R_drewN | apply Kd.R_drew));exact HO332.out) hb);have n1_ := Aside0.mk (Kd.R_below (by (with_reducible repeat (first | apply Kd.R_alloc | apply Kd.R_drewN | apply Kd.R_drew));exact HO336.out) hb);have n2_ := Aside0.mk (Kd.R_below (by (with_reducible repeat (first | apply Kd.R_alloc | apply Kd.R_drewN | apply Kd.R_drew));exact HO342.out) hb);have n3_ := Aside0.mk (Kd.R_below (by (with_reducible repeat (first | apply Kd.R_alloc | apply Kd.R_drewN | apply Kd.R_drew));exact HO348.out) hb);have n4_ := Aside0.mk (Kd.R_below (by (with_reducible repeat (first | apply Kd.R_alloc | apply Kd.R_drewN | apply Kd.R_drew));exact HO354.out) hb);have n5_ := Aside0.mk (Kd.R_below (by (with_reducible repeat (first | apply Kd.R_alloc | apply Kd.R_drewN | apply Kd.R_drew));exact HO360.out) hb);have n6_ := Aside0.mk (blk_below (g := g328) (o := .cells #[.slice A0_0 l0_0.length c0_0, .int .i64 a0_1] 24 (0, 0)) (by (with_reducible repeat (first | refine blk_drewN ?_ _ | refine blk_drew ?_ | refine blk_alloc ?_ _));exact B328.out) hb);have n7_ := Aside0.mk (blk_below (g := g329) (o := .cells #[.slice A1_0 l1_0.length c1_0, .int .i64 a1_1] 24 (0, 0)) (by (with_reducible repeat (first | refine blk_drewN ?_ _ | refine blk_drew ?_ | refine blk_alloc ?_ _));exact B329.out) hb);have n8_ := Aside0.mk (blk_below (g := g338) (o := .cells #[.slice Ao18 t330.length co18, .int .i64 t333] 24 (0, 0)) (by (with_reducible repeat (first | refine blk_drewN ?_ _ | refine blk_drew ?_ | refine blk_alloc ?_ _));exact B338.out) hb);have n9_ := Aside0.mk (blk_below (g := g339) (o := .cells #[.slice Ao21 t334.length co21, .int .i64 t337] 24 (0, 0)) (by (with_reducible repeat (first | refine blk_drewN ?_ _ | refine blk_drew ?_ | refine blk_alloc ?_ _));exact B339.out) hb);have n10_ := Aside0.mk (blk_below (g := g345) (o := .cells #[.slice Ao33 t340.length co33, .int .i64 t343] 24 (0, 0)) (by (with_reducible repeat (first | refine blk_drewN ?_ _ | refine blk_drew ?_ | refine blk_alloc ?_ _));exact B345.out) hb);have n11_ := Aside0.mk (blk_below (g := g351) (o := .cells #[.slice Ao44 t346.length co44, .int .i64 t349] 24 (0, 0)) (by (with_reducible repeat (first | refine blk_drewN ?_ _ | refine blk_drew ?_ | refine blk_alloc ?_ _));exact B351.out) hb);have n12_ := Aside0.mk (blk_below (g := g357) (o := .cells #[.slice Ao54 t352.length co54, .int .i64 t355] 24 (0, 0)) (by (with_reducible repeat (first | refine blk_drewN ?_ _ | refine blk_drew ?_ | refine blk_alloc ?_ _));exact B357.out) hb);have n13_ := Aside0.mk (blk_below (g := g363) (o := .cells #[.slice Ao65 t358.length co65, .int .i64 t361] 24 (0, 0)) (by (with_reducible repeat (first | refine blk_drewN ?_ _ | refine blk_drew ?_ | refine blk_alloc ?_ _));exact B363.out) hb);have n14_ := Aside0.mk (below_step (by repeat (first | (with_reducible first | exact HB.out | apply below_alloc | apply pw_below_drewN | apply below_drew1 | refine below_set ?_ GE328.out | refine below_set ?_ GE329.out | refine below_set ?_ GE338.out | refine below_set ?_ GE339.out | refine below_set ?_ GE345.out | refine below_set ?_ GE351.out | refine below_set ?_ GE357.out | refine below_set ?_ GE363.out) | exact HB.out)) hb);clear HO332;clear HO336;clear HO342;clear HO348;clear HO354;clear HO360;clear B328;clear B329;clear B338;clear B339;clear B345;clear B351;clear B357;clear B363;clear HB;have HO332 := n0_;have HO336 := n1_;have HO342 := n2_;have HO348 := n3_;have HO354 := n4_;have HO360 := n5_;have B328 := n6_;have B329 := n7_;have B338 := n8_;have B339 := n9_;have B345 := n10_;have B351 := n11_;have B357 := n12_;have B363 := n13_;have HB := n14_;clear n0_ n1_ n2_ n3_ n4_ n5_ n6_ n7_ n8_ n9_ n10_ n11_ n12_ n13_ n14_;(try clear hb);(try clear hb2);(try clear hk);(try clear hi)))
     go_meet
     case rel => exact ⟨_, (false), (by first | rfl | (simp;done) | (simp [*];done)), H', ⟨by first | omega | exact Nat.le_refl _⟩, ⟨by (with_reducible repeat (first | apply Kd.R_alloc | apply Kd.R_drewN | apply Kd.R_drew));exact Kd.R_mono HO332.out (fun _ hk => ⟨hk.1.1.1.1, ⟨hk.1.1.1.2, ⟨hk.1.1.2, ⟨hk.1.2, hk.2⟩⟩⟩⟩)⟩, ⟨by (with_reducible repeat (first | apply Kd.R_alloc | apply Kd.R_drewN | apply Kd.R_drew));exact Kd.R_mono HO336.out (fun _ hk => ⟨hk.1.1.1.1, ⟨hk.1.1.1.2, ⟨hk.1.1.2, ⟨hk.1.2, hk.2⟩⟩⟩⟩)⟩, ⟨by (with_reducible repeat (first | apply Kd.R_alloc | apply Kd.R_drewN | apply Kd.R_drew));exact Kd.R_mono HO342.out (fun _ hk => ⟨hk.1.1.1.1.2, ⟨hk.1.1.1.2, ⟨hk.1.1.2, ⟨hk.1.2, hk.2⟩⟩⟩⟩)⟩, ⟨by (with_reducible repeat (first | apply Kd.R_alloc | apply Kd.R_drewN | apply Kd.R_drew));exact Kd.R_mono HO348.out (fun _ hk => ⟨hk.1.1.1.1.2, ⟨hk.1.1.1.2, ⟨hk.1.1.2, ⟨hk.1.2, hk.2⟩⟩⟩⟩)⟩, ⟨by (with_reducible repeat (first | apply Kd.R_alloc | apply Kd.R_drewN | apply Kd.R_drew));exact Kd.R_mono HO354.out (fun _ hk => ⟨hk.1.1.1.1.2, ⟨hk.1.1.1.2, ⟨hk.1.1.2, ⟨hk.1.2, hk.2⟩⟩⟩⟩)⟩, ⟨by (with_reducible repeat (first | apply Kd.R_alloc | apply Kd.R_drewN | apply Kd.R_drew));exact Kd.R_mono HO360.out (fun _ hk => ⟨hk.1.1.1.1.2, ⟨hk.1.1.1.2, ⟨hk.1.1.2, ⟨hk.1.2, hk.2⟩⟩⟩⟩)⟩, ⟨by (with_reducible repeat (first | refine blk_drewN ?_ _ | refine blk_drew ?_ | refine blk_alloc ?_ _));exact B328.out⟩, ⟨by (with_reducible repeat (first | refine blk_drewN ?_ _ | refine blk_drew ?_ | refine blk_alloc ?_ _));exact B329.out⟩, ⟨by (with_reducible repeat (first | refine blk_drewN ?_ _ | refine blk_drew ?_ | refine blk_alloc ?_ _));exact B338.out⟩, ⟨by (with_reducible repeat (first | refine blk_drewN ?_ _ | refine blk_drew ?_ | refine blk_alloc ?_ _));exact B339.out⟩, ⟨by (with_reducible repeat (first | refine blk_drewN ?_ _ | refine blk_drew ?_ | refine blk_alloc ?_ _));exact B345.out⟩, ⟨by (with_reducible repeat (first | refine blk_drewN ?_ _ | refine blk_drew ?_ | refine blk_alloc ?_ _));exact B351.out⟩, ⟨by (with_reducible repeat (first | refine blk_drewN ?_ _ | refine blk_drew ?_ | refine blk_alloc ?_ _));exact B357.out⟩, ⟨by (with_reducible repeat (first | refine blk_drewN ?_ _ | refine blk_drew ?_ | refine blk_alloc ?_ _));exact B363.out⟩, ⟨by repeat (first | (with_reducible first | exact HB.out | apply below_alloc | apply pw_below_drewN | apply below_drew1 | refine below_set ?_ GE328.out | refine below_set ?_ GE329.out | refine below_set ?_ GE338.out | refine below_set ?_ GE339.out | refine below_set ?_ GE345.out | refine below_set ?_ GE351.out | refine below_set ?_ GE357.out | refine below_set ?_ GE363.out) | exact HB.out)⟩⟩
   ·rw [if_neg c76] at H
    have c76b0 : (t344 == t350) = false := beq_eq_false_iff_ne.mpr c76
    have c76b1 : (t344 != t350) = true := bne_iff_ne.mpr c76
    (first | rw [c76b0] | (simp only [i64_w, i32_w, u8_w];rw [c76b0]) | skip)
    have H' := Aside0.mk H
    clear H
    have hnb135 := NB345_328.out
    have hnc135 := NB328_345.out
    have hnb136 := NB345_329.out
    have hnc136 := NB329_345.out
    have hnb137 := NB345_338.out
    have hnc137 := NB338_345.out
    have hnb138 := NB345_339.out
    have hnc138 := NB339_345.out
    have hnb139 := NB345_351.out
    have hnc139 := NB351_345.out
    have hnb140 := NB345_357.out
    have hnc140 := NB357_345.out
    have hnb141 := NB345_363.out
    have hnc141 := NB363_345.out
    have hcz142_0 : w64.cell? ⟨g345, 0, none⟩ = some (.slice Ao33 t340.length co33) := (blk_cell B345.out 0).trans rfl
    have hcz142_1 : w64.cell? ⟨g345, 1, none⟩ = some (.int .i64 t343) := (blk_cell B345.out 1).trans rfl
    have hfz142_0 := blk_frozen B345.out 0
    have hfz142_1 := blk_frozen B345.out 1
    have hnb143 := NB351_328.out
    have hnc143 := NB328_351.out
    have hnb144 := NB351_329.out
    have hnc144 := NB329_351.out
    have hnb145 := NB351_338.out
    have hnc145 := NB338_351.out
    have hnb146 := NB351_339.out
    have hnc146 := NB339_351.out
    have hnb147 := NB351_357.out
    have hnc147 := NB357_351.out
    have hnb148 := NB351_363.out
    have hnc148 := NB363_351.out
    have hcz149_0 : w64.cell? ⟨g351, 0, none⟩ = some (.slice Ao44 t346.length co44) := (blk_cell B351.out 0).trans rfl
    have hcz149_1 : w64.cell? ⟨g351, 1, none⟩ = some (.int .i64 t349) := (blk_cell B351.out 1).trans rfl
    have hfz149_0 := blk_frozen B351.out 0
    have hfz149_1 := blk_frozen B351.out 1
    go_wp2_with (first | ((with_reducible refine gate_callee (f := 14) rfl ?_);refine goesL_ (some 44) rfl rfl Try.func14 (by kernel_rfl) rfl #[.agg #[.slice Ao33 t340.length co33, .int .i64 t343], .agg #[.slice Ao44 t346.length co44, .int .i64 t349]] rfl (by (try simp only [List.map_toArray, List.map_cons, List.map_nil]);first | done | rfl | (simp only [List.length_drop, List.length_take];rfl)) ?_;(with_reducible refine (valiseref01_Same.calls _ _ t340 t343 _ _ t346 t349 true _ ?side1 ?side2 ?side3 ?side4 A74.out).mono ?_);(case side1 => refine (Kd.R_reads' (e := 5) (base := w.heap.size) (ok := fun k_ => (((((True ∧ some k_ ≠ (.slice Ao18 (t330.length + 1) co18 : Value).ownBlock) ∧ some k_ ≠ (.slice Ao21 (t334.length + 1) co21 : Value).ownBlock) ∧ some k_ ≠ (.slice Ao44 t346.length co44 : Value).ownBlock) ∧ some k_ ≠ (.slice Ao54 t352.length co54 : Value).ownBlock) ∧ some k_ ≠ (.slice Ao65 t358.length co65 : Value).ownBlock)) (n := t340.length) (c := co33) ?_).2.2;exact (by (with_reducible repeat (first | apply Kd.R_alloc | apply Kd.R_drewN | apply Kd.R_drew));exact (Kd.R_mono (Kd.R_far (p := ⟨g363, 1, none⟩) (Kd.R_far (p := ⟨g363, 0, none⟩) (Kd.R_types HO342.out B363.out (by decide)) (fun _ hk => hk.2) (.slice Ao65 t358.length co65)) (fun _ hk => hk.2) (.int .i64 t361)) (fun _ h_ => h_.1))));(case side2 => exact (Kd.R_reads' HO342.out).2.1);(case side3 => refine (Kd.R_reads' (e := 5) (base := w.heap.size) (ok := fun k_ => (((((True ∧ some k_ ≠ (.slice Ao18 (t330.length + 1) co18 : Value).ownBlock) ∧ some k_ ≠ (.slice Ao21 (t334.length + 1) co21 : Value).ownBlock) ∧ some k_ ≠ (.slice Ao33 t340.length co33 : Value).ownBlock) ∧ some k_ ≠ (.slice Ao54 t352.length co54 : Value).ownBlock) ∧ some k_ ≠ (.slice Ao65 t358.length co65 : Value).ownBlock)) (n := t346.length) (c := co44) ?_).2.2;exact (by (with_reducible repeat (first | apply Kd.R_alloc | apply Kd.R_drewN | apply Kd.R_drew));exact (Kd.R_mono (Kd.R_far (p := ⟨g363, 1, none⟩) (Kd.R_far (p := ⟨g363, 0, none⟩) (Kd.R_types HO348.out B363.out (by decide)) (fun _ hk => hk.2) (.slice Ao65 t358.length co65)) (fun _ hk => hk.2) (.int .i64 t361)) (fun _ h_ => h_.1))));(case side4 => exact (Kd.R_reads' HO348.out).2.1);rintro e w150 ⟨rfl, hb⟩;refine ⟨_, rfl, ?_⟩;have n0_ := Aside0.mk (Kd.R_below (by (with_reducible repeat (first | apply Kd.R_alloc | apply Kd.R_drewN | apply Kd.R_drew));exact (Kd.R_mono (Kd.R_far (p := ⟨g363, 1, none⟩) (Kd.R_far (p := ⟨g363, 0, none⟩) (Kd.R_types HO332.out B363.out (by decide)) (fun _ hk => hk.2) (.slice Ao65 t358.length co65)) (fun _ hk => hk.2) (.int .i64 t361)) (fun _ h_ => h_.1))) hb);have n1_ := Aside0.mk (Kd.R_below (by (with_reducible repeat (first | apply Kd.R_alloc | apply Kd.R_drewN | apply Kd.R_drew));exact (Kd.R_mono (Kd.R_far (p := ⟨g363, 1, none⟩) (Kd.R_far (p := ⟨g363, 0, none⟩) (Kd.R_types HO336.out B363.out (by decide)) (fun _ hk => hk.2) (.slice Ao65 t358.length co65)) (fun _ hk => hk.2) (.int .i64 t361)) (fun _ h_ => h_.1))) hb);have n2_ := Aside0.mk (Kd.R_below (by (with_reducible repeat (first | apply Kd.R_alloc | apply Kd.R_drewN | apply Kd.R_drew));exact (Kd.R_mono (Kd.R_far (p := ⟨g363, 1, none⟩) (Kd.R_far (p := ⟨g363, 0, none⟩) (Kd.R_types HO342.out B363.out (by decide)) (fun _ hk => hk.2) (.slice Ao65 t358.length co65)) (fun _ hk => hk.2) (.int .i64 t361)) (fun _ h_ => h_.1))) hb);have n3_ := Aside0.mk (Kd.R_below (by (with_reducible repeat (first | apply Kd.R_alloc | apply Kd.R_drewN | apply Kd.R_drew));exact (Kd.R_mono (Kd.R_far (p := ⟨g363, 1, none⟩) (Kd.R_far (p := ⟨g363, 0, none⟩) (Kd.R_types HO348.out B363.out (by decide)) (fun _ hk => hk.2) (.slice Ao65 t358.length co65)) (fun _ hk => hk.2) (.int .i64 t361)) (fun _ h_ => h_.1))) hb);have n4_ := Aside0.mk (Kd.R_below (by (with_reducible repeat (first | apply Kd.R_alloc | apply Kd.R_drewN | apply Kd.R_drew));exact (Kd.R_mono (Kd.R_far (p := ⟨g363, 1, none⟩) (Kd.R_far (p := ⟨g363, 0, none⟩) (Kd.R_types HO354.out B363.out (by decide)) (fun _ hk => hk.2) (.slice Ao65 t358.length co65)) (fun _ hk => hk.2) (.int .i64 t361)) (fun _ h_ => h_.1))) hb);have n5_ := Aside0.mk (Kd.R_below (by (with_reducible repeat (first | apply Kd.R_alloc | apply Kd.R_drewN | apply Kd.R_drew));exact (Kd.R_mono (Kd.R_far (p := ⟨g363, 1, none⟩) (Kd.R_far (p := ⟨g363, 0, none⟩) (Kd.R_types HO360.out B363.out (by decide)) (fun _ hk => hk.2) (.slice Ao65 t358.length co65)) (fun _ hk => hk.2) (.int .i64 t361)) (fun _ h_ => h_.1))) hb);have n6_ := Aside0.mk (blk_below (g := g328) (o := .cells #[.slice A0_0 l0_0.length c0_0, .int .i64 a0_1] 24 (0, 0)) (by (with_reducible repeat (first | refine blk_drewN ?_ _ | refine blk_drew ?_ | refine blk_alloc ?_ _));refine blk_far ?_ NB328_363.out _;(with_reducible repeat (first | refine blk_drewN ?_ _ | refine blk_drew ?_ | refine blk_alloc ?_ _));refine blk_far ?_ NB328_363.out _;(with_reducible repeat (first | refine blk_drewN ?_ _ | refine blk_drew ?_ | refine blk_alloc ?_ _));exact B328.out) hb);have n7_ := Aside0.mk (blk_below (g := g329) (o := .cells #[.slice A1_0 l1_0.length c1_0, .int .i64 a1_1] 24 (0, 0)) (by (with_reducible repeat (first | refine blk_drewN ?_ _ | refine blk_drew ?_ | refine blk_alloc ?_ _));refine blk_far ?_ NB329_363.out _;(with_reducible repeat (first | refine blk_drewN ?_ _ | refine blk_drew ?_ | refine blk_alloc ?_ _));refine blk_far ?_ NB329_363.out _;(with_reducible repeat (first | refine blk_drewN ?_ _ | refine blk_drew ?_ | refine blk_alloc ?_ _));exact B329.out) hb);have n8_ := Aside0.mk (blk_below (g := g338) (o := .cells #[.slice Ao18 t330.length co18, .int .i64 t333] 24 (0, 0)) (by (with_reducible repeat (first | refine blk_drewN ?_ _ | refine blk_drew ?_ | refine blk_alloc ?_ _));refine blk_far ?_ NB338_363.out _;(with_reducible repeat (first | refine blk_drewN ?_ _ | refine blk_drew ?_ | refine blk_alloc ?_ _));refine blk_far ?_ NB338_363.out _;(with_reducible repeat (first | refine blk_drewN ?_ _ | refine blk_drew ?_ | refine blk_alloc ?_ _));exact B338.out) hb);have n9_ := Aside0.mk (blk_below (g := g339) (o := .cells #[.slice Ao21 t334.length co21, .int .i64 t337] 24 (0, 0)) (by (with_reducible repeat (first | refine blk_drewN ?_ _ | refine blk_drew ?_ | refine blk_alloc ?_ _));refine blk_far ?_ NB339_363.out _;(with_reducible repeat (first | refine blk_drewN ?_ _ | refine blk_drew ?_ | refine blk_alloc ?_ _));refine blk_far ?_ NB339_363.out _;(with_reducible repeat (first | refine blk_drewN ?_ _ | refine blk_drew ?_ | refine blk_alloc ?_ _));exact B339.out) hb);have n10_ := Aside0.mk (blk_below (g := g345) (o := .cells #[.slice Ao33 t340.length co33, .int .i64 t343] 24 (0, 0)) (by (with_reducible repeat (first | refine blk_drewN ?_ _ | refine blk_drew ?_ | refine blk_alloc ?_ _));refine blk_far ?_ NB345_363.out _;(with_reducible repeat (first | refine blk_drewN ?_ _ | refine blk_drew ?_ | refine blk_alloc ?_ _));refine blk_far ?_ NB345_363.out _;(with_reducible repeat (first | refine blk_drewN ?_ _ | refine blk_drew ?_ | refine blk_alloc ?_ _));exact B345.out) hb);have n11_ := Aside0.mk (blk_below (g := g351) (o := .cells #[.slice Ao44 t346.length co44, .int .i64 t349] 24 (0, 0)) (by (with_reducible repeat (first | refine blk_drewN ?_ _ | refine blk_drew ?_ | refine blk_alloc ?_ _));refine blk_far ?_ NB351_363.out _;(with_reducible repeat (first | refine blk_drewN ?_ _ | refine blk_drew ?_ | refine blk_alloc ?_ _));refine blk_far ?_ NB351_363.out _;(with_reducible repeat (first | refine blk_drewN ?_ _ | refine blk_drew ?_ | refine blk_alloc ?_ _));exact B351.out) hb);have n12_ := Aside0.mk (blk_below (g := g357) (o := .cells #[.slice Ao54 t352.length co54, .int .i64 t355] 24 (0, 0)) (by (with_reducible repeat (first | refine blk_drewN ?_ _ | refine blk_drew ?_ | refine blk_alloc ?_ _));refine blk_far ?_ NB357_363.out _;(with_reducible repeat (first | refine blk_drewN ?_ _ | refine blk_drew ?_ | refine blk_alloc ?_ _));refine blk_far ?_ NB357_363.out _;(with_reducible repeat (first | refine blk_drewN ?_ _ | refine blk_drew ?_ | refine blk_alloc ?_ _));exact B357.out) hb);have n13_ := Aside0.mk (blk_below (g := g363) (o := .cells #[.slice Ao65 t358.length co65, .int .i64 t361] 24 (0, 0)) (by (with_reducible repeat (first | refine blk_drewN ?_ _ | refine blk_drew ?_ | refine blk_alloc ?_ _));refine blk_put (cs := #[.slice Ao65 t358.length co65, .int .i64 0]) ?_ 1 _ rfl;(with_reducible repeat (first | refine blk_drewN ?_ _ | refine blk_drew ?_ | refine blk_alloc ?_ _));refine blk_put (cs := #[.slice none 0 0, .int .i64 0]) ?_ 0 _ rfl;(with_reducible repeat (first | refine blk_drewN ?_ _ | refine blk_drew ?_ | refine blk_alloc ?_ _));exact B363.out) hb);have n14_ := Aside0.mk (below_step (by repeat (first | (with_reducible first | exact HB.out | apply below_alloc | apply pw_below_drewN | apply below_drew1 | refine below_set ?_ GE328.out | refine below_set ?_ GE329.out | refine below_set ?_ GE338.out | refine below_set ?_ GE339.out | refine below_set ?_ GE345.out | refine below_set ?_ GE351.out | refine below_set ?_ GE357.out | refine below_set ?_ GE363.out) | exact HB.out)) hb);clear HO332;clear HO336;clear HO342;clear HO348;clear HO354;clear HO360;clear B328;clear B329;clear B338;clear B339;clear B345;clear B351;clear B357;clear B363;clear HB;have HO332 := n0_;have HO336 := n1_;have HO342 := n2_;have HO348 := n3_;have HO354 := n4_;have HO360 := n5_;have B328 := n6_;have B329 := n7_;have B338 := n8_;have B339 := n9_;have B345 := n10_;have B351 := n11_;have B357 := n12_;have B363 := n13_;have HB := n14_;clear n0_ n1_ n2_ n3_ n4_ n5_ n6_ n7_ n8_ n9_ n10_ n11_ n12_ n13_ n14_;(try clear hb);(try clear hb2);(try clear hk);(try clear hi)))
    go_meet
    case rel => exact ⟨_, (false), (by first | rfl | (simp;done) | (simp [*];done)), H', ⟨by first | omega | exact Nat.le_refl _⟩, ⟨by (with_reducible repeat (first | apply Kd.R_alloc | apply Kd.R_drewN | apply Kd.R_drew));exact Kd.R_mono HO332.out (fun _ hk => ⟨hk.1.1.1.1, ⟨hk.1.1.1.2, ⟨hk.1.1.2, ⟨hk.1.2, hk.2⟩⟩⟩⟩)⟩, ⟨by (with_reducible repeat (first | apply Kd.R_alloc | apply Kd.R_drewN | apply Kd.R_drew));exact Kd.R_mono HO336.out (fun _ hk => ⟨hk.1.1.1.1, ⟨hk.1.1.1.2, ⟨hk.1.1.2, ⟨hk.1.2, hk.2⟩⟩⟩⟩)⟩, ⟨by (with_reducible repeat (first | apply Kd.R_alloc | apply Kd.R_drewN | apply Kd.R_drew));exact Kd.R_mono HO342.out (fun _ hk => ⟨hk.1.1.1.1.2, ⟨hk.1.1.1.2, ⟨hk.1.1.2, ⟨hk.1.2, hk.2⟩⟩⟩⟩)⟩, ⟨by (with_reducible repeat (first | apply Kd.R_alloc | apply Kd.R_drewN | apply Kd.R_drew));exact Kd.R_mono HO348.out (fun _ hk => ⟨hk.1.1.1.1.2, ⟨hk.1.1.1.2, ⟨hk.1.1.2, ⟨hk.1.2, hk.2⟩⟩⟩⟩)⟩, ⟨by (with_reducible repeat (first | apply Kd.R_alloc | apply Kd.R_drewN | apply Kd.R_drew));exact Kd.R_mono HO354.out (fun _ hk => ⟨hk.1.1.1.1.2, ⟨hk.1.1.1.2, ⟨hk.1.1.2, ⟨hk.1.2, hk.2⟩⟩⟩⟩)⟩, ⟨by (with_reducible repeat (first | apply Kd.R_alloc | apply Kd.R_drewN | apply Kd.R_drew));exact Kd.R_mono HO360.out (fun _ hk => ⟨hk.1.1.1.1.2, ⟨hk.1.1.1.2, ⟨hk.1.1.2, ⟨hk.1.2, hk.2⟩⟩⟩⟩)⟩, ⟨by (with_reducible repeat (first | refine blk_drewN ?_ _ | refine blk_drew ?_ | refine blk_alloc ?_ _));exact B328.out⟩, ⟨by (with_reducible repeat (first | refine blk_drewN ?_ _ | refine blk_drew ?_ | refine blk_alloc ?_ _));exact B329.out⟩, ⟨by (with_reducible repeat (first | refine blk_drewN ?_ _ | refine blk_drew ?_ | refine blk_alloc ?_ _));exact B338.out⟩, ⟨by (with_reducible repeat (first | refine blk_drewN ?_ _ | refine blk_drew ?_ | refine blk_alloc ?_ _));exact B339.out⟩, ⟨by (with_reducible repeat (first | refine blk_drewN ?_ _ | refine blk_drew ?_ | refine blk_alloc ?_ _));exact B345.out⟩, ⟨by (with_reducible repeat (first | refine blk_drewN ?_ _ | refine blk_drew ?_ | refine blk_alloc ?_ _));exact B351.out⟩, ⟨by (with_reducible repeat (first | refine blk_drewN ?_ _ | refine blk_drew ?_ | refine blk_alloc ?_ _));exact B357.out⟩, ⟨by (with_reducible repeat (first | refine blk_drewN ?_ _ | refine blk_drew ?_ | refine blk_alloc ?_ _));exact B363.out⟩, ⟨by repeat (first | (with_reducible first | exact HB.out | apply below_alloc | apply pw_below_drewN | apply below_drew1 | refine below_set ?_ GE328.out | refine below_set ?_ GE329.out | refine below_set ?_ GE338.out | refine below_set ?_ GE339.out | refine below_set ?_ GE345.out | refine below_set ?_ GE351.out | refine below_set ?_ GE357.out | refine below_set ?_ GE363.out) | exact HB.out)⟩⟩
  ·replace c75 := Bool.eq_false_iff.mpr c75
   subst c75
   have H1 : (valiselaw01_BitsJoins.j0 k false l0_0 a0_1 l1_0 a1_1 t330 t333 t334 t337 t340 t343 t352 t355) = some r := by rw [if_neg (show ¬ (false = true) by decide)] at H;exact H
   clear H
   have H := H1
   clear H1
   have H' := Aside0.mk H
   clear H
   have hnb151 := NB345_328.out
   have hnc151 := NB328_345.out
   have hnb152 := NB345_329.out
   have hnc152 := NB329_345.out
   have hnb153 := NB345_338.out
   have hnc153 := NB338_345.out
   have hnb154 := NB345_339.out
   have hnc154 := NB339_345.out
   have hnb155 := NB345_351.out
   have hnc155 := NB351_345.out
   have hnb156 := NB345_357.out
   have hnc156 := NB357_345.out
   have hnb157 := NB345_363.out
   have hnc157 := NB363_345.out
   have hcz158_0 : w64.cell? ⟨g345, 0, none⟩ = some (.slice Ao33 t340.length co33) := (blk_cell B345.out 0).trans rfl
   have hcz158_1 : w64.cell? ⟨g345, 1, none⟩ = some (.int .i64 t343) := (blk_cell B345.out 1).trans rfl
   have hfz158_0 := blk_frozen B345.out 0
   have hfz158_1 := blk_frozen B345.out 1
   have hnb159 := NB351_328.out
   have hnc159 := NB328_351.out
   have hnb160 := NB351_329.out
   have hnc160 := NB329_351.out
   have hnb161 := NB351_338.out
   have hnc161 := NB338_351.out
   have hnb162 := NB351_339.out
   have hnc162 := NB339_351.out
   have hnb163 := NB351_357.out
   have hnc163 := NB357_351.out
   have hnb164 := NB351_363.out
   have hnc164 := NB363_351.out
   have hcz165_0 : w64.cell? ⟨g351, 0, none⟩ = some (.slice Ao44 t346.length co44) := (blk_cell B351.out 0).trans rfl
   have hcz165_1 : w64.cell? ⟨g351, 1, none⟩ = some (.int .i64 t349) := (blk_cell B351.out 1).trans rfl
   have hfz165_0 := blk_frozen B351.out 0
   have hfz165_1 := blk_frozen B351.out 1
   go_wp2_with (first | ((with_reducible refine gate_callee (f := 14) rfl ?_);refine goesL_ (some 44) rfl rfl Try.func14 (by kernel_rfl) rfl #[.agg #[.slice Ao33 t340.length co33, .int .i64 t343], .agg #[.slice Ao44 t346.length co44, .int .i64 t349]] rfl (by (try simp only [List.map_toArray, List.map_cons, List.map_nil]);first | done | rfl | (simp only [List.length_drop, List.length_take];rfl)) ?_;(with_reducible refine (valiseref01_Same.calls _ _ t340 t343 _ _ t346 t349 false _ ?side1 ?side2 ?side3 ?side4 A74.out).mono ?_);(case side1 => refine (Kd.R_reads' (e := 5) (base := w.heap.size) (ok := fun k_ => (((((True ∧ some k_ ≠ (.slice Ao18 (t330.length + 1) co18 : Value).ownBlock) ∧ some k_ ≠ (.slice Ao21 (t334.length + 1) co21 : Value).ownBlock) ∧ some k_ ≠ (.slice Ao44 t346.length co44 : Value).ownBlock) ∧ some k_ ≠ (.slice Ao54 t352.length co54 : Value).ownBlock) ∧ some k_ ≠ (.slice Ao65 t358.length co65 : Value).ownBlock)) (n := t340.length) (c := co33) ?_).2.2;exact (by (with_reducible repeat (first | apply Kd.R_alloc | apply Kd.R_drewN | apply Kd.R_drew));exact (Kd.R_mono (Kd.R_far (p := ⟨g363, 1, none⟩) (Kd.R_far (p := ⟨g363, 0, none⟩) (Kd.R_types HO342.out B363.out (by decide)) (fun _ hk => hk.2) (.slice Ao65 t358.length co65)) (fun _ hk => hk.2) (.int .i64 t361)) (fun _ h_ => h_.1))));(case side2 => exact (Kd.R_reads' HO342.out).2.1);(case side3 => refine (Kd.R_reads' (e := 5) (base := w.heap.size) (ok := fun k_ => (((((True ∧ some k_ ≠ (.slice Ao18 (t330.length + 1) co18 : Value).ownBlock) ∧ some k_ ≠ (.slice Ao21 (t334.length + 1) co21 : Value).ownBlock) ∧ some k_ ≠ (.slice Ao33 t340.length co33 : Value).ownBlock) ∧ some k_ ≠ (.slice Ao54 t352.length co54 : Value).ownBlock) ∧ some k_ ≠ (.slice Ao65 t358.length co65 : Value).ownBlock)) (n := t346.length) (c := co44) ?_).2.2;exact (by (with_reducible repeat (first | apply Kd.R_alloc | apply Kd.R_drewN | apply Kd.R_drew));exact (Kd.R_mono (Kd.R_far (p := ⟨g363, 1, none⟩) (Kd.R_far (p := ⟨g363, 0, none⟩) (Kd.R_types HO348.out B363.out (by decide)) (fun _ hk => hk.2) (.slice Ao65 t358.length co65)) (fun _ hk => hk.2) (.int .i64 t361)) (fun _ h_ => h_.1))));(case side4 => exact (Kd.R_reads' HO348.out).2.1);rintro e w166 ⟨rfl, hb⟩;refine ⟨_, rfl, ?_⟩;have n0_ := Aside0.mk (Kd.R_below (by (with_reducible repeat (first | apply Kd.R_alloc | apply Kd.R_drewN | apply Kd.R_drew));exact (Kd.R_mono (Kd.R_far (p := ⟨g363, 1, none⟩) (Kd.R_far (p := ⟨g363, 0, none⟩) (Kd.R_types HO332.out B363.out (by decide)) (fun _ hk => hk.2) (.slice Ao65 t358.length co65)) (fun _ hk => hk.2) (.int .i64 t361)) (fun _ h_ => h_.1))) hb);have n1_ := Aside0.mk (Kd.R_below (by (with_reducible repeat (first | apply Kd.R_alloc | apply Kd.R_drewN | apply Kd.R_drew));exact (Kd.R_mono (Kd.R_far (p := ⟨g363, 1, none⟩) (Kd.R_far (p := ⟨g363, 0, none⟩) (Kd.R_types HO336.out B363.out (by decide)) (fun _ hk => hk.2) (.slice Ao65 t358.length co65)) (fun _ hk => hk.2) (.int .i64 t361)) (fun _ h_ => h_.1))) hb);have n2_ := Aside0.mk (Kd.R_below (by (with_reducible repeat (first | apply Kd.R_alloc | apply Kd.R_drewN | apply Kd.R_drew));exact (Kd.R_mono (Kd.R_far (p := ⟨g363, 1, none⟩) (Kd.R_far (p := ⟨g363, 0, none⟩) (Kd.R_types HO342.out B363.out (by decide)) (fun _ hk => hk.2) (.slice Ao65 t358.length co65)) (fun _ hk => hk.2) (.int .i64 t361)) (fun _ h_ => h_.1))) hb);have n3_ := Aside0.mk (Kd.R_below (by (with_reducible repeat (first | apply Kd.R_alloc | apply Kd.R_drewN | apply Kd.R_drew));exact (Kd.R_mono (Kd.R_far (p := ⟨g363, 1, none⟩) (Kd.R_far (p := ⟨g363, 0, none⟩) (Kd.R_types HO348.out B363.out (by decide)) (fun _ hk => hk.2) (.slice Ao65 t358.length co65)) (fun _ hk => hk.2) (.int .i64 t361)) (fun _ h_ => h_.1))) hb);have n4_ := Aside0.mk (Kd.R_below (by (with_reducible repeat (first | apply Kd.R_alloc | apply Kd.R_drewN | apply Kd.R_drew));exact (Kd.R_mono (Kd.R_far (p := ⟨g363, 1, none⟩) (Kd.R_far (p := ⟨g363, 0, none⟩) (Kd.R_types HO354.out B363.out (by decide)) (fun _ hk => hk.2) (.slice Ao65 t358.length co65)) (fun _ hk => hk.2) (.int .i64 t361)) (fun _ h_ => h_.1))) hb);have n5_ := Aside0.mk (Kd.R_below (by (with_reducible repeat (first | apply Kd.R_alloc | apply Kd.R_drewN | apply Kd.R_drew));exact (Kd.R_mono (Kd.R_far (p := ⟨g363, 1, none⟩) (Kd.R_far (p := ⟨g363, 0, none⟩) (Kd.R_types HO360.out B363.out (by decide)) (fun _ hk => hk.2) (.slice Ao65 t358.length co65)) (fun _ hk => hk.2) (.int .i64 t361)) (fun _ h_ => h_.1))) hb);have n6_ := Aside0.mk (blk_below (g := g328) (o := .cells #[.slice A0_0 l0_0.length c0_0, .int .i64 a0_1] 24 (0, 0)) (by (with_reducible repeat (first | refine blk_drewN ?_ _ | refine blk_drew ?_ | refine blk_alloc ?_ _));refine blk_far ?_ NB328_363.out _;(with_reducible repeat (first | refine blk_drewN ?_ _ | refine blk_drew ?_ | refine blk_alloc ?_ _));refine blk_far ?_ NB328_363.out _;(with_reducible repeat (first | refine blk_drewN ?_ _ | refine blk_drew ?_ | refine blk_alloc ?_ _));exact B328.out) hb);have n7_ := Aside0.mk (blk_below (g := g329) (o := .cells #[.slice A1_0 l1_0.length c1_0, .int .i64 a1_1] 24 (0, 0)) (by (with_reducible repeat (first | refine blk_drewN ?_ _ | refine blk_drew ?_ | refine blk_alloc ?_ _));refine blk_far ?_ NB329_363.out _;(with_reducible repeat (first | refine blk_drewN ?_ _ | refine blk_drew ?_ | refine blk_alloc ?_ _));refine blk_far ?_ NB329_363.out _;(with_reducible repeat (first | refine blk_drewN ?_ _ | refine blk_drew ?_ | refine blk_alloc ?_ _));exact B329.out) hb);have n8_ := Aside0.mk (blk_below (g := g338) (o := .cells #[.slice Ao18 t330.length co18, .int .i64 t333] 24 (0, 0)) (by (with_reducible repeat (first | refine blk_drewN ?_ _ | refine blk_drew ?_ | refine blk_alloc ?_ _));refine blk_far ?_ NB338_363.out _;(with_reducible repeat (first | refine blk_drewN ?_ _ | refine blk_drew ?_ | refine blk_alloc ?_ _));refine blk_far ?_ NB338_363.out _;(with_reducible repeat (first | refine blk_drewN ?_ _ | refine blk_drew ?_ | refine blk_alloc ?_ _));exact B338.out) hb);have n9_ := Aside0.mk (blk_below (g := g339) (o := .cells #[.slice Ao21 t334.length co21, .int .i64 t337] 24 (0, 0)) (by (with_reducible repeat (first | refine blk_drewN ?_ _ | refine blk_drew ?_ | refine blk_alloc ?_ _));refine blk_far ?_ NB339_363.out _;(with_reducible repeat (first | refine blk_drewN ?_ _ | refine blk_drew ?_ | refine blk_alloc ?_ _));refine blk_far ?_ NB339_363.out _;(with_reducible repeat (first | refine blk_drewN ?_ _ | refine blk_drew ?_ | refine blk_alloc ?_ _));exact B339.out) hb);have n10_ := Aside0.mk (blk_below (g := g345) (o := .cells #[.slice Ao33 t340.length co33, .int .i64 t343] 24 (0, 0)) (by (with_reducible repeat (first | refine blk_drewN ?_ _ | refine blk_drew ?_ | refine blk_alloc ?_ _));refine blk_far ?_ NB345_363.out _;(with_reducible repeat (first | refine blk_drewN ?_ _ | refine blk_drew ?_ | refine blk_alloc ?_ _));refine blk_far ?_ NB345_363.out _;(with_reducible repeat (first | refine blk_drewN ?_ _ | refine blk_drew ?_ | refine blk_alloc ?_ _));exact B345.out) hb);have n11_ := Aside0.mk (blk_below (g := g351) (o := .cells #[.slice Ao44 t346.length co44, .int .i64 t349] 24 (0, 0)) (by (with_reducible repeat (first | refine blk_drewN ?_ _ | refine blk_drew ?_ | refine blk_alloc ?_ _));refine blk_far ?_ NB351_363.out _;(with_reducible repeat (first | refine blk_drewN ?_ _ | refine blk_drew ?_ | refine blk_alloc ?_ _));refine blk_far ?_ NB351_363.out _;(with_reducible repeat (first | refine blk_drewN ?_ _ | refine blk_drew ?_ | refine blk_alloc ?_ _));exact B351.out) hb);have n12_ := Aside0.mk (blk_below (g := g357) (o := .cells #[.slice Ao54 t352.length co54, .int .i64 t355] 24 (0, 0)) (by (with_reducible repeat (first | refine blk_drewN ?_ _ | refine blk_drew ?_ | refine blk_alloc ?_ _));refine blk_far ?_ NB357_363.out _;(with_reducible repeat (first | refine blk_drewN ?_ _ | refine blk_drew ?_ | refine blk_alloc ?_ _));refine blk_far ?_ NB357_363.out _;(with_reducible repeat (first | refine blk_drewN ?_ _ | refine blk_drew ?_ | refine blk_alloc ?_ _));exact B357.out) hb);have n13_ := Aside0.mk (blk_below (g := g363) (o := .cells #[.slice Ao65 t358.length co65, .int .i64 t361] 24 (0, 0)) (by (with_reducible repeat (first | refine blk_drewN ?_ _ | refine blk_drew ?_ | refine blk_alloc ?_ _));refine blk_put (cs := #[.slice Ao65 t358.length co65, .int .i64 0]) ?_ 1 _ rfl;(with_reducible repeat (first | refine blk_drewN ?_ _ | refine blk_drew ?_ | refine blk_alloc ?_ _));refine blk_put (cs := #[.slice none 0 0, .int .i64 0]) ?_ 0 _ rfl;(with_reducible repeat (first | refine blk_drewN ?_ _ | refine blk_drew ?_ | refine blk_alloc ?_ _));exact B363.out) hb);have n14_ := Aside0.mk (below_step (by repeat (first | (with_reducible first | exact HB.out | apply below_alloc | apply pw_below_drewN | apply below_drew1 | refine below_set ?_ GE328.out | refine below_set ?_ GE329.out | refine below_set ?_ GE338.out | refine below_set ?_ GE339.out | refine below_set ?_ GE345.out | refine below_set ?_ GE351.out | refine below_set ?_ GE357.out | refine below_set ?_ GE363.out) | exact HB.out)) hb);clear HO332;clear HO336;clear HO342;clear HO348;clear HO354;clear HO360;clear B328;clear B329;clear B338;clear B339;clear B345;clear B351;clear B357;clear B363;clear HB;have HO332 := n0_;have HO336 := n1_;have HO342 := n2_;have HO348 := n3_;have HO354 := n4_;have HO360 := n5_;have B328 := n6_;have B329 := n7_;have B338 := n8_;have B339 := n9_;have B345 := n10_;have B351 := n11_;have B357 := n12_;have B363 := n13_;have HB := n14_;clear n0_ n1_ n2_ n3_ n4_ n5_ n6_ n7_ n8_ n9_ n10_ n11_ n12_ n13_ n14_;(try clear hb);(try clear hb2);(try clear hk);(try clear hi)))
   go_meet
   case rel => exact ⟨_, (false), (by first | rfl | (simp;done) | (simp [*];done)), H', ⟨by first | omega | exact Nat.le_refl _⟩, ⟨by (with_reducible repeat (first | apply Kd.R_alloc | apply Kd.R_drewN | apply Kd.R_drew));exact Kd.R_mono HO332.out (fun _ hk => ⟨hk.1.1.1.1, ⟨hk.1.1.1.2, ⟨hk.1.1.2, ⟨hk.1.2, hk.2⟩⟩⟩⟩)⟩, ⟨by (with_reducible repeat (first | apply Kd.R_alloc | apply Kd.R_drewN | apply Kd.R_drew));exact Kd.R_mono HO336.out (fun _ hk => ⟨hk.1.1.1.1, ⟨hk.1.1.1.2, ⟨hk.1.1.2, ⟨hk.1.2, hk.2⟩⟩⟩⟩)⟩, ⟨by (with_reducible repeat (first | apply Kd.R_alloc | apply Kd.R_drewN | apply Kd.R_drew));exact Kd.R_mono HO342.out (fun _ hk => ⟨hk.1.1.1.1.2, ⟨hk.1.1.1.2, ⟨hk.1.1.2, ⟨hk.1.2, hk.2⟩⟩⟩⟩)⟩, ⟨by (with_reducible repeat (first | apply Kd.R_alloc | apply Kd.R_drewN | apply Kd.R_drew));exact Kd.R_mono HO348.out (fun _ hk => ⟨hk.1.1.1.1.2, ⟨hk.1.1.1.2, ⟨hk.1.1.2, ⟨hk.1.2, hk.2⟩⟩⟩⟩)⟩, ⟨by (with_reducible repeat (first | apply Kd.R_alloc | apply Kd.R_drewN | apply Kd.R_drew));exact Kd.R_mono HO354.out (fun _ hk => ⟨hk.1.1.1.1.2, ⟨hk.1.1.1.2, ⟨hk.1.1.2, ⟨hk.1.2, hk.2⟩⟩⟩⟩)⟩, ⟨by (with_reducible repeat (first | apply Kd.R_alloc | apply Kd.R_drewN | apply Kd.R_drew));exact Kd.R_mono HO360.out (fun _ hk => ⟨hk.1.1.1.1.2, ⟨hk.1.1.1.2, ⟨hk.1.1.2, ⟨hk.1.2, hk.2⟩⟩⟩⟩)⟩, ⟨by (with_reducible repeat (first | refine blk_drewN ?_ _ | refine blk_drew ?_ | refine blk_alloc ?_ _));exact B328.out⟩, ⟨by (with_reducible repeat (first | refine blk_drewN ?_ _ | refine blk_drew ?_ | refine blk_alloc ?_ _));exact B329.out⟩, ⟨by (with_reducible repeat (first | refine blk_drewN ?_ _ | refine blk_drew ?_ | refine blk_alloc ?_ _));exact B338.out⟩, ⟨by (with_reducible repeat (first | refine blk_drewN ?_ _ | refine blk_drew ?_ | refine blk_alloc ?_ _));exact B339.out⟩, ⟨by (with_reducible repeat (first | refine blk_drewN ?_ _ | refine blk_drew ?_ | refine blk_alloc ?_ _));exact B345.out⟩, ⟨by (with_reducible repeat (first | refine blk_drewN ?_ _ | refine blk_drew ?_ | refine blk_alloc ?_ _));exact B351.out⟩, ⟨by (with_reducible repeat (first | refine blk_drewN ?_ _ | refine blk_drew ?_ | refine blk_alloc ?_ _));exact B357.out⟩, ⟨by (with_reducible repeat (first | refine blk_drewN ?_ _ | refine blk_drew ?_ | refine blk_alloc ?_ _));exact B363.out⟩, ⟨by repeat (first | (with_reducible first | exact HB.out | apply below_alloc | apply pw_below_drewN | apply below_drew1 | refine below_set ?_ GE328.out | refine below_set ?_ GE329.out | refine below_set ?_ GE338.out | refine below_set ?_ GE339.out | refine below_set ?_ GE345.out | refine below_set ?_ GE351.out | refine below_set ?_ GE357.out | refine below_set ?_ GE363.out) | exact HB.out)⟩⟩
 case rest =>
  clear HC9
  try clear c1
  try clear c2
  try clear p2
  try clear c3
  try clear c4
  try clear c5
  try clear c6
  try clear c7
  try clear c8
  try clear c9
  try clear c10
  try clear c11
  try clear c12
  try clear c13
  try clear c14
  try clear c15
  try clear c16
  try clear c24
  try clear c25
  try clear c26
  try clear c27
  try clear c28
  try clear c29
  try clear c34
  try clear c35
  try clear c36
  try clear c37
  try clear c39
  try clear c45
  try clear c46
  try clear c47
  try clear c48
  try clear c49
  try clear c55
  try clear c56
  try clear c57
  try clear c58
  try clear c59
  try clear c60
  try clear c66
  try clear c67
  try clear c68
  try clear c69
  try clear c70
  try clear c71
  try clear c72
  try clear c75
  try clear c76
  try clear c76b0
  try clear c76b1
  try clear c78
  try clear c79
  try clear c80
  try clear c81
  try clear c82
  try clear c83
  try clear c84
  try clear c85
  try clear c87
  try clear c88
  try clear c89
  try clear c90
  try clear c91
  try clear c92
  try clear c95
  try clear c96
  try clear c97
  try clear c98
  try clear c99
  try clear c101
  try clear c102
  try clear c103
  try clear c104
  try clear c107
  try clear c108
  try clear c109
  try clear c110
  try clear c111
  try clear c112
  try clear c113
  try clear c115
  try clear c116
  try clear c117
  try clear c118
  try clear c119
  try clear c120
  try clear c123
  try clear c124
  try clear c125
  try clear c126
  try clear c127
  try clear c129
  try clear c130
  try clear c131
  try clear c132
  try clear c135
  try clear c136
  try clear c137
  try clear c138
  try clear c139
  try clear c140
  try clear c141
  try clear c143
  try clear c144
  try clear c145
  try clear c146
  try clear c147
  try clear c148
  try clear c151
  try clear c152
  try clear c153
  try clear c154
  try clear c155
  try clear c156
  try clear c157
  try clear c159
  try clear c160
  try clear c161
  try clear c162
  try clear c163
  try clear c164
  try clear hcz100_0
  try clear hcz100_1
  try clear hcz105_0
  try clear hcz105_1
  try clear hcz114_0
  try clear hcz114_1
  try clear hcz121_0
  try clear hcz121_1
  try clear hcz128_0
  try clear hcz128_1
  try clear hcz133_0
  try clear hcz133_1
  try clear hcz142_0
  try clear hcz142_1
  try clear hcz149_0
  try clear hcz149_1
  try clear hcz158_0
  try clear hcz158_1
  try clear hcz165_0
  try clear hcz165_1
  try clear hcz27_0
  try clear hcz27_1
  try clear hcz30_0
  try clear hcz30_1
  try clear hcz38_0
  try clear hcz38_1
  try clear hcz40_0
  try clear hcz40_1
  try clear hcz41_0
  try clear hcz41_1
  try clear hcz50_0
  try clear hcz50_1
  try clear hcz51_0
  try clear hcz51_1
  try clear hcz61_0
  try clear hcz61_1
  try clear hcz62_0
  try clear hcz62_1
  try clear hcz73_0
  try clear hcz73_1
  try clear hcz86_0
  try clear hcz86_1
  try clear hcz93_0
  try clear hcz93_1
  try clear hfz100_0
  try clear hfz100_1
  try clear hfz105_0
  try clear hfz105_1
  try clear hfz114_0
  try clear hfz114_1
  try clear hfz121_0
  try clear hfz121_1
  try clear hfz128_0
  try clear hfz128_1
  try clear hfz133_0
  try clear hfz133_1
  try clear hfz142_0
  try clear hfz142_1
  try clear hfz149_0
  try clear hfz149_1
  try clear hfz158_0
  try clear hfz158_1
  try clear hfz165_0
  try clear hfz165_1
  try clear hfz27_0
  try clear hfz27_1
  try clear hfz30_0
  try clear hfz30_1
  try clear hfz38_0
  try clear hfz38_1
  try clear hfz40_0
  try clear hfz40_1
  try clear hfz41_0
  try clear hfz41_1
  try clear hfz50_0
  try clear hfz50_1
  try clear hfz51_0
  try clear hfz51_1
  try clear hfz61_0
  try clear hfz61_1
  try clear hfz62_0
  try clear hfz62_1
  try clear hfz73_0
  try clear hfz73_1
  try clear hfz86_0
  try clear hfz86_1
  try clear hfz93_0
  try clear hfz93_1
  obtain ⟨kq, x15_8, rfl, HA, HJ8, HO_339000, HO_340000, HO_346000, HO_352000, HO_358000, HO_364000, B328, B329, B338, B339, B345, B351, B357, B363, HB⟩ := hcut
  cases kq with
  | zero => exact absurd HA.out (by simp [valiselaw01_BitsJoins.j0])
  | succ kj8 =>
   have H := HA.out
   clear HA
   simp only [valiselaw01_BitsJoins.j0] at H
   replace H := Option.bind_eq_some_iff.mp H
   obtain ⟨t366, A1670, H⟩ := H
   replace H : ((valiselaw01_spoil.f kj8 t352 t355).bind fun t367 => (if x15_8 = true then ((valiselaw01_kept.f t330 t333 l0_0 a0_1).bind fun t368 => (if t368 = true then ((valiselaw01_kept.f t334 t337 l1_0 a1_1).bind fun t369 => (if t369 = true then ((valiselaw01_lives.f kj8).bind fun t370 => (some t370)) else (some false))) else (some false))) else (some false))) = some r := H
   have A167 := Aside0.mk A1670
   clear A1670
   replace H := Option.bind_eq_some_iff.mp H
   obtain ⟨t367, A1680, H⟩ := H
   replace H : (if x15_8 = true then ((valiselaw01_kept.f t330 t333 l0_0 a0_1).bind fun t368 => (if t368 = true then ((valiselaw01_kept.f t334 t337 l1_0 a1_1).bind fun t369 => (if t369 = true then ((valiselaw01_lives.f kj8).bind fun t370 => (some t370)) else (some false))) else (some false))) else (some false)) = some r := H
   have A168 := Aside0.mk A1680
   clear A1680
   by_cases c169 : x15_8 = true
   ·subst c169
    have H1 : ((valiselaw01_kept.f t330 t333 l0_0 a0_1).bind fun t368 => (if t368 = true then ((valiselaw01_kept.f t334 t337 l1_0 a1_1).bind fun t369 => (if t369 = true then ((valiselaw01_lives.f kj8).bind fun t370 => (some t370)) else (some false))) else (some false))) = some r := by rw [if_pos rfl] at H;exact H
    clear H
    have H := H1
    clear H1
    replace H := Option.bind_eq_some_iff.mp H
    obtain ⟨t368, A1700, H⟩ := H
    replace H : (if t368 = true then ((valiselaw01_kept.f t334 t337 l1_0 a1_1).bind fun t369 => (if t369 = true then ((valiselaw01_lives.f kj8).bind fun t370 => (some t370)) else (some false))) else (some false)) = some r := H
    have A170 := Aside0.mk A1700
    clear A1700
    by_cases c171 : t368 = true
    ·subst c171
     have H1 : ((valiselaw01_kept.f t334 t337 l1_0 a1_1).bind fun t369 => (if t369 = true then ((valiselaw01_lives.f kj8).bind fun t370 => (some t370)) else (some false))) = some r := by rw [if_pos rfl] at H;exact H
     clear H
     have H := H1
     clear H1
     replace H := Option.bind_eq_some_iff.mp H
     obtain ⟨t369, A1720, H⟩ := H
     replace H : (if t369 = true then ((valiselaw01_lives.f kj8).bind fun t370 => (some t370)) else (some false)) = some r := H
     have A172 := Aside0.mk A1720
     clear A1720
     by_cases c173 : t369 = true
     ·subst c173
      have H1 : ((valiselaw01_lives.f kj8).bind fun t370 => (some t370)) = some r := by rw [if_pos rfl] at H;exact H
      clear H
      have H := H1
      clear H1
      replace H := Option.bind_eq_some_iff.mp H
      obtain ⟨t370, A1740, H⟩ := H
      replace H : (some t370) = some r := H
      have A174 := Aside0.mk A1740
      clear A1740
      obtain rfl := Option.some.inj H
      have hnb175 := NB345_328.out
      have hnc175 := NB328_345.out
      have hnb176 := NB345_329.out
      have hnc176 := NB329_345.out
      have hnb177 := NB345_338.out
      have hnc177 := NB338_345.out
      have hnb178 := NB345_339.out
      have hnc178 := NB339_345.out
      have hnb179 := NB345_351.out
      have hnc179 := NB351_345.out
      have hnb180 := NB345_357.out
      have hnc180 := NB357_345.out
      have hnb181 := NB345_363.out
      have hnc181 := NB363_345.out
      have hcz182_0 : wc.cell? ⟨g345, 0, none⟩ = some (.slice Ao33 t340.length co33) := (blk_cell B345.out 0).trans rfl
      have hcz182_1 : wc.cell? ⟨g345, 1, none⟩ = some (.int .i64 t343) := (blk_cell B345.out 1).trans rfl
      have hfz182_0 := blk_frozen B345.out 0
      have hfz182_1 := blk_frozen B345.out 1
      go_wp2_with (first | ((with_reducible refine gate_callee (f := 17) rfl ?_);refine goesL_ (some 61) rfl rfl Try.func17 (by kernel_rfl) rfl #[.agg #[.slice Ao33 t340.length co33, .int .i64 t343]] rfl (by (try simp only [List.map_toArray, List.map_cons, List.map_nil]);first | done | rfl | (simp only [List.length_drop, List.length_take];rfl)) ?_;(with_reducible refine (valiselaw01_spoil.calls kj8 (fun k_ => some k_ = (.slice Ao33 t340.length co33 : Value).ownBlock) (.slice Ao33 t340.length co33) t340 t343 t366 w _ ?side1 ?side2 A167.out).mono ?_);(case side1 => repeat (first | (with_reducible first | exact HB.out | apply below_alloc | apply pw_below_drewN | apply below_drew1 | refine below_set ?_ GE328.out | refine below_set ?_ GE329.out | refine below_set ?_ GE338.out | refine below_set ?_ GE339.out | refine below_set ?_ GE345.out | refine below_set ?_ GE351.out | refine below_set ?_ GE357.out | refine below_set ?_ GE363.out) | exact HB.out));(case side2 => exact Kd.R_tight rfl HO_346000.out);rintro e w183 ⟨rfl, hy0, hb, hkp⟩;refine ⟨_, rfl, ?_⟩;have n0_ := Aside0.mk (Kd.R_mono (ok' := fun k_ => some k_ ≠ (.slice Ao21 (t334.length + 1) co21 : Value).ownBlock ∧ some k_ ≠ (.slice Ao33 t340.length co33 : Value).ownBlock ∧ some k_ ≠ (.slice Ao44 t346.length co44 : Value).ownBlock ∧ some k_ ≠ (.slice Ao54 t352.length co54 : Value).ownBlock ∧ some k_ ≠ (.slice Ao65 t358.length co65 : Value).ownBlock) (Kd.R_keptB (HO_339000.out) hkp (fun k_ hk_ hs_ => (hk_.2.1) hs_)) (fun k_ hk_ => ⟨hk_.1.1, hk_.1.2.1, hk_.1.2.2.1, hk_.1.2.2.2.1, hk_.1.2.2.2.2⟩));have n1_ := Aside0.mk (Kd.R_mono (ok' := fun k_ => some k_ ≠ (.slice Ao18 (t330.length + 1) co18 : Value).ownBlock ∧ some k_ ≠ (.slice Ao33 t340.length co33 : Value).ownBlock ∧ some k_ ≠ (.slice Ao44 t346.length co44 : Value).ownBlock ∧ some k_ ≠ (.slice Ao54 t352.length co54 : Value).ownBlock ∧ some k_ ≠ (.slice Ao65 t358.length co65 : Value).ownBlock) (Kd.R_keptB (HO_340000.out) hkp (fun k_ hk_ hs_ => (hk_.2.1) hs_)) (fun k_ hk_ => ⟨hk_.1.1, hk_.1.2.1, hk_.1.2.2.1, hk_.1.2.2.2.1, hk_.1.2.2.2.2⟩));have n2_ := Aside0.mk (Kd.R_reok rfl hy0 (fun k_ e_ => HO_346000.out.1 k_ e_));have n3_ := Aside0.mk (Kd.R_mono (ok' := fun k_ => some k_ ≠ (.slice Ao18 (t330.length + 1) co18 : Value).ownBlock ∧ some k_ ≠ (.slice Ao21 (t334.length + 1) co21 : Value).ownBlock ∧ some k_ ≠ (.slice Ao33 t340.length co33 : Value).ownBlock ∧ some k_ ≠ (.slice Ao54 t352.length co54 : Value).ownBlock ∧ some k_ ≠ (.slice Ao65 t358.length co65 : Value).ownBlock) (Kd.R_keptB (HO_352000.out) hkp (fun k_ hk_ hs_ => (hk_.2.2.1) hs_)) (fun k_ hk_ => ⟨hk_.1.1, hk_.1.2.1, hk_.1.2.2.1, hk_.1.2.2.2.1, hk_.1.2.2.2.2⟩));have n4_ := Aside0.mk (Kd.R_mono (ok' := fun k_ => some k_ ≠ (.slice Ao18 (t330.length + 1) co18 : Value).ownBlock ∧ some k_ ≠ (.slice Ao21 (t334.length + 1) co21 : Value).ownBlock ∧ some k_ ≠ (.slice Ao33 t340.length co33 : Value).ownBlock ∧ some k_ ≠ (.slice Ao44 t346.length co44 : Value).ownBlock ∧ some k_ ≠ (.slice Ao65 t358.length co65 : Value).ownBlock) (Kd.R_keptB (HO_358000.out) hkp (fun k_ hk_ hs_ => (hk_.2.2.1) hs_)) (fun k_ hk_ => ⟨hk_.1.1, hk_.1.2.1, hk_.1.2.2.1, hk_.1.2.2.2.1, hk_.1.2.2.2.2⟩));have n5_ := Aside0.mk (Kd.R_mono (ok' := fun k_ => some k_ ≠ (.slice Ao18 (t330.length + 1) co18 : Value).ownBlock ∧ some k_ ≠ (.slice Ao21 (t334.length + 1) co21 : Value).ownBlock ∧ some k_ ≠ (.slice Ao33 t340.length co33 : Value).ownBlock ∧ some k_ ≠ (.slice Ao44 t346.length co44 : Value).ownBlock ∧ some k_ ≠ (.slice Ao54 t352.length co54 : Value).ownBlock) (Kd.R_keptB (HO_364000.out) hkp (fun k_ hk_ hs_ => (hk_.2.2.1) hs_)) (fun k_ hk_ => ⟨hk_.1.1, hk_.1.2.1, hk_.1.2.2.1, hk_.1.2.2.2.1, hk_.1.2.2.2.2⟩));have n6_ := Aside0.mk (blk_kept (by (with_reducible repeat (first | refine blk_drewN ?_ _ | refine blk_drew ?_ | refine blk_alloc ?_ _));exact B328.out) hkp (fun hs_ => (fun e_ => (Kd.R_ne HO_346000.out B328.out (by decide)) e_) hs_));have n7_ := Aside0.mk (blk_kept (by (with_reducible repeat (first | refine blk_drewN ?_ _ | refine blk_drew ?_ | refine blk_alloc ?_ _));exact B329.out) hkp (fun hs_ => (fun e_ => (Kd.R_ne HO_346000.out B329.out (by decide)) e_) hs_));have n8_ := Aside0.mk (blk_kept (by (with_reducible repeat (first | refine blk_drewN ?_ _ | refine blk_drew ?_ | refine blk_alloc ?_ _));exact B338.out) hkp (fun hs_ => (fun e_ => (Kd.R_ne HO_346000.out B338.out (by decide)) e_) hs_));have n9_ := Aside0.mk (blk_kept (by (with_reducible repeat (first | refine blk_drewN ?_ _ | refine blk_drew ?_ | refine blk_alloc ?_ _));exact B339.out) hkp (fun hs_ => (fun e_ => (Kd.R_ne HO_346000.out B339.out (by decide)) e_) hs_));have n10_ := Aside0.mk (blk_kept (by (with_reducible repeat (first | refine blk_drewN ?_ _ | refine blk_drew ?_ | refine blk_alloc ?_ _));exact B345.out) hkp (fun hs_ => (fun e_ => (Kd.R_ne HO_346000.out B345.out (by decide)) e_) hs_));have n11_ := Aside0.mk (blk_kept (by (with_reducible repeat (first | refine blk_drewN ?_ _ | refine blk_drew ?_ | refine blk_alloc ?_ _));exact B351.out) hkp (fun hs_ => (fun e_ => (Kd.R_ne HO_346000.out B351.out (by decide)) e_) hs_));have n12_ := Aside0.mk (blk_kept (by (with_reducible repeat (first | refine blk_drewN ?_ _ | refine blk_drew ?_ | refine blk_alloc ?_ _));exact B357.out) hkp (fun hs_ => (fun e_ => (Kd.R_ne HO_346000.out B357.out (by decide)) e_) hs_));have n13_ := Aside0.mk (blk_kept (by (with_reducible repeat (first | refine blk_drewN ?_ _ | refine blk_drew ?_ | refine blk_alloc ?_ _));exact B363.out) hkp (fun hs_ => (fun e_ => (Kd.R_ne HO_346000.out B363.out (by decide)) e_) hs_));have n14_ := Aside0.mk (hb);clear HO_339000;clear HO_340000;clear HO_346000;clear HO_352000;clear HO_358000;clear HO_364000;clear B328;clear B329;clear B338;clear B339;clear B345;clear B351;clear B357;clear B363;clear HB;have HO_339000 := n0_;have HO_340000 := n1_;have HO_346000 := n2_;have HO_352000 := n3_;have HO_358000 := n4_;have HO_364000 := n5_;have B328 := n6_;have B329 := n7_;have B338 := n8_;have B339 := n9_;have B345 := n10_;have B351 := n11_;have B357 := n12_;have B363 := n13_;have HB := n14_;clear n0_ n1_ n2_ n3_ n4_ n5_ n6_ n7_ n8_ n9_ n10_ n11_ n12_ n13_ n14_;(try clear hb);(try clear hkp);(try clear hy0);have hnb184 := NB357_328.out;have hnc184 := NB328_357.out;have hnb185 := NB357_329.out;have hnc185 := NB329_357.out;have hnb186 := NB357_338.out;have hnc186 := NB338_357.out;have hnb187 := NB357_339.out;have hnc187 := NB339_357.out;have hnb188 := NB357_351.out;have hnc188 := NB351_357.out;have hnb189 := NB357_363.out;have hnc189 := NB363_357.out;have hcz190_0 : w183.cell? ⟨g357, 0, none⟩ = some (.slice Ao54 t352.length co54) := (blk_cell B357.out 0).trans rfl;have hcz190_1 : w183.cell? ⟨g357, 1, none⟩ = some (.int .i64 t355) := (blk_cell B357.out 1).trans rfl;have hfz190_0 := blk_frozen B357.out 0;have hfz190_1 := blk_frozen B357.out 1) | ((with_reducible refine gate_callee (f := 17) rfl ?_);refine goesL_ (some 63) rfl rfl Try.func17 (by kernel_rfl) rfl #[.agg #[.slice Ao54 t352.length co54, .int .i64 t355]] rfl (by (try simp only [List.map_toArray, List.map_cons, List.map_nil]);first | done | rfl | (simp only [List.length_drop, List.length_take];rfl)) ?_;(with_reducible refine (valiselaw01_spoil.calls kj8 (fun k_ => some k_ = (.slice Ao54 t352.length co54 : Value).ownBlock) (.slice Ao54 t352.length co54) t352 t355 t367 w _ ?side1 ?side2 A168.out).mono ?_);(case side1 => repeat (first | (with_reducible first | exact HB.out | apply below_alloc | apply pw_below_drewN | apply below_drew1 | refine below_set ?_ GE328.out | refine below_set ?_ GE329.out | refine below_set ?_ GE338.out | refine below_set ?_ GE339.out | refine below_set ?_ GE345.out | refine below_set ?_ GE351.out | refine below_set ?_ GE357.out | refine below_set ?_ GE363.out) | exact HB.out));(case side2 => exact Kd.R_tight rfl HO_358000.out);rintro e w191 ⟨rfl, hy0, hb, hkp⟩;refine ⟨_, rfl, ?_⟩;have n0_ := Aside0.mk (Kd.R_mono (ok' := fun k_ => some k_ ≠ (.slice Ao21 (t334.length + 1) co21 : Value).ownBlock ∧ some k_ ≠ (.slice Ao33 t340.length co33 : Value).ownBlock ∧ some k_ ≠ (.slice Ao44 t346.length co44 : Value).ownBlock ∧ some k_ ≠ (.slice Ao54 t352.length co54 : Value).ownBlock ∧ some k_ ≠ (.slice Ao65 t358.length co65 : Value).ownBlock) (Kd.R_keptB (HO_339000.out) hkp (fun k_ hk_ hs_ => (hk_.2.2.2.1) hs_)) (fun k_ hk_ => ⟨hk_.1.1, hk_.1.2.1, hk_.1.2.2.1, hk_.1.2.2.2.1, hk_.1.2.2.2.2⟩));have n1_ := Aside0.mk (Kd.R_mono (ok' := fun k_ => some k_ ≠ (.slice Ao18 (t330.length + 1) co18 : Value).ownBlock ∧ some k_ ≠ (.slice Ao33 t340.length co33 : Value).ownBlock ∧ some k_ ≠ (.slice Ao44 t346.length co44 : Value).ownBlock ∧ some k_ ≠ (.slice Ao54 t352.length co54 : Value).ownBlock ∧ some k_ ≠ (.slice Ao65 t358.length co65 : Value).ownBlock) (Kd.R_keptB (HO_340000.out) hkp (fun k_ hk_ hs_ => (hk_.2.2.2.1) hs_)) (fun k_ hk_ => ⟨hk_.1.1, hk_.1.2.1, hk_.1.2.2.1, hk_.1.2.2.2.1, hk_.1.2.2.2.2⟩));have n2_ := Aside0.mk (Kd.R_mono (ok' := fun k_ => some k_ ≠ (.slice Ao18 (t330.length + 1) co18 : Value).ownBlock ∧ some k_ ≠ (.slice Ao21 (t334.length + 1) co21 : Value).ownBlock ∧ some k_ ≠ (.slice Ao44 t346.length co44 : Value).ownBlock ∧ some k_ ≠ (.slice Ao54 t352.length co54 : Value).ownBlock ∧ some k_ ≠ (.slice Ao65 t358.length co65 : Value).ownBlock) (Kd.R_keptB (HO_346000.out) hkp (fun k_ hk_ hs_ => (hk_.2.2.2.1) hs_)) (fun k_ hk_ => ⟨hk_.1.1, hk_.1.2.1, hk_.1.2.2.1, hk_.1.2.2.2.1, hk_.1.2.2.2.2⟩));have n3_ := Aside0.mk (Kd.R_mono (ok' := fun k_ => some k_ ≠ (.slice Ao18 (t330.length + 1) co18 : Value).ownBlock ∧ some k_ ≠ (.slice Ao21 (t334.length + 1) co21 : Value).ownBlock ∧ some k_ ≠ (.slice Ao33 t340.length co33 : Value).ownBlock ∧ some k_ ≠ (.slice Ao54 t352.length co54 : Value).ownBlock ∧ some k_ ≠ (.slice Ao65 t358.length co65 : Value).ownBlock) (Kd.R_keptB (HO_352000.out) hkp (fun k_ hk_ hs_ => (hk_.2.2.2.1) hs_)) (fun k_ hk_ => ⟨hk_.1.1, hk_.1.2.1, hk_.1.2.2.1, hk_.1.2.2.2.1, hk_.1.2.2.2.2⟩));have n4_ := Aside0.mk (Kd.R_reok rfl hy0 (fun k_ e_ => HO_358000.out.1 k_ e_));have n5_ := Aside0.mk (Kd.R_mono (ok' := fun k_ => some k_ ≠ (.slice Ao18 (t330.length + 1) co18 : Value).ownBlock ∧ some k_ ≠ (.slice Ao21 (t334.length + 1) co21 : Value).ownBlock ∧ some k_ ≠ (.slice Ao33 t340.length co33 : Value).ownBlock ∧ some k_ ≠ (.slice Ao44 t346.length co44 : Value).ownBlock ∧ some k_ ≠ (.slice Ao54 t352.length co54 : Value).ownBlock) (Kd.R_keptB (HO_364000.out) hkp (fun k_ hk_ hs_ => (hk_.2.2.2.2) hs_)) (fun k_ hk_ => ⟨hk_.1.1, hk_.1.2.1, hk_.1.2.2.1, hk_.1.2.2.2.1, hk_.1.2.2.2.2⟩));have n6_ := Aside0.mk (blk_kept (by (with_reducible repeat (first | refine blk_drewN ?_ _ | refine blk_drew ?_ | refine blk_alloc ?_ _));exact B328.out) hkp (fun hs_ => (fun e_ => (Kd.R_ne HO_358000.out B328.out (by decide)) e_) hs_));have n7_ := Aside0.mk (blk_kept (by (with_reducible repeat (first | refine blk_drewN ?_ _ | refine blk_drew ?_ | refine blk_alloc ?_ _));exact B329.out) hkp (fun hs_ => (fun e_ => (Kd.R_ne HO_358000.out B329.out (by decide)) e_) hs_));have n8_ := Aside0.mk (blk_kept (by (with_reducible repeat (first | refine blk_drewN ?_ _ | refine blk_drew ?_ | refine blk_alloc ?_ _));exact B338.out) hkp (fun hs_ => (fun e_ => (Kd.R_ne HO_358000.out B338.out (by decide)) e_) hs_));have n9_ := Aside0.mk (blk_kept (by (with_reducible repeat (first | refine blk_drewN ?_ _ | refine blk_drew ?_ | refine blk_alloc ?_ _));exact B339.out) hkp (fun hs_ => (fun e_ => (Kd.R_ne HO_358000.out B339.out (by decide)) e_) hs_));have n10_ := Aside0.mk (blk_kept (by (with_reducible repeat (first | refine blk_drewN ?_ _ | refine blk_drew ?_ | refine blk_alloc ?_ _));exact B345.out) hkp (fun hs_ => (fun e_ => (Kd.R_ne HO_358000.out B345.out (by decide)) e_) hs_));have n11_ := Aside0.mk (blk_kept (by (with_reducible repeat (first | refine blk_drewN ?_ _ | refine blk_drew ?_ | refine blk_alloc ?_ _));exact B351.out) hkp (fun hs_ => (fun e_ => (Kd.R_ne HO_358000.out B351.out (by decide)) e_) hs_));have n12_ := Aside0.mk (blk_kept (by (with_reducible repeat (first | refine blk_drewN ?_ _ | refine blk_drew ?_ | refine blk_alloc ?_ _));exact B357.out) hkp (fun hs_ => (fun e_ => (Kd.R_ne HO_358000.out B357.out (by decide)) e_) hs_));have n13_ := Aside0.mk (blk_kept (by (with_reducible repeat (first | refine blk_drewN ?_ _ | refine blk_drew ?_ | refine blk_alloc ?_ _));exact B363.out) hkp (fun hs_ => (fun e_ => (Kd.R_ne HO_358000.out B363.out (by decide)) e_) hs_));have n14_ := Aside0.mk (hb);clear HO_339000;clear HO_340000;clear HO_346000;clear HO_352000;clear HO_358000;clear HO_364000;clear B328;clear B329;clear B338;clear B339;clear B345;clear B351;clear B357;clear B363;clear HB;have HO_339000 := n0_;have HO_340000 := n1_;have HO_346000 := n2_;have HO_352000 := n3_;have HO_358000 := n4_;have HO_364000 := n5_;have B328 := n6_;have B329 := n7_;have B338 := n8_;have B339 := n9_;have B345 := n10_;have B351 := n11_;have B357 := n12_;have B363 := n13_;have HB := n14_;clear n0_ n1_ n2_ n3_ n4_ n5_ n6_ n7_ n8_ n9_ n10_ n11_ n12_ n13_ n14_;(try clear hb);(try clear hkp);(try clear hy0);have hnb192 := NB338_328.out;have hnc192 := NB328_338.out;have hnb193 := NB338_329.out;have hnc193 := NB329_338.out;have hnb194 := NB338_339.out;have hnc194 := NB339_338.out;have hnb195 := NB338_351.out;have hnc195 := NB351_338.out;have hnb196 := NB338_363.out;have hnc196 := NB363_338.out;have hcz197_0 : w191.cell? ⟨g338, 0, none⟩ = some (.slice Ao18 t330.length co18) := (blk_cell B338.out 0).trans rfl;have hcz197_1 : w191.cell? ⟨g338, 1, none⟩ = some (.int .i64 t333) := (blk_cell B338.out 1).trans rfl;have hfz197_0 := blk_frozen B338.out 0;have hfz197_1 := blk_frozen B338.out 1;have hnb198 := NB328_329.out;have hnc198 := NB329_328.out;have hnb199 := NB328_339.out;have hnc199 := NB339_328.out;have hnb200 := NB328_351.out;have hnc200 := NB351_328.out;have hnb201 := NB328_363.out;have hnc201 := NB363_328.out;have hcz202_0 : w191.cell? ⟨g328, 0, none⟩ = some (.slice A0_0 l0_0.length c0_0) := (blk_cell B328.out 0).trans rfl;have hcz202_1 : w191.cell? ⟨g328, 1, none⟩ = some (.int .i64 a0_1) := (blk_cell B328.out 1).trans rfl;have hfz202_0 := blk_frozen B328.out 0;have hfz202_1 := blk_frozen B328.out 1) | (go_at_call 18;(with_reducible refine (valiselaw01_kept.calls _ _ t330 t333 _ _ l0_0 a0_1 true _ ?side1 ?side2 ?side3 ?side4 A170.out).mono ?_);(case side1 => repeat (first | exact (Kd.R_reads' HO_339000.out).2.2 | (with_reducible refine Kd.C_alloc ?_ _) | (with_reducible refine Kd.C_drewN ?_ _) | (with_reducible refine Kd.C_drew ?_)));(case side2 => exact (Kd.R_reads' HO_339000.out).2.1);(case side3 => repeat (first | exact (Kd.C_below HR0_0.out HB.out) | (with_reducible refine Kd.C_alloc ?_ _) | (with_reducible refine Kd.C_drewN ?_ _) | (with_reducible refine Kd.C_drew ?_)));(case side4 => exact HC0_0.out);rintro e w203 ⟨rfl, hb⟩;have n0_ := Aside0.mk (Kd.R_below (by (with_reducible repeat (first | apply Kd.R_alloc | apply Kd.R_drewN | apply Kd.R_drew));exact HO_339000.out) hb);have n1_ := Aside0.mk (Kd.R_below (by (with_reducible repeat (first | apply Kd.R_alloc | apply Kd.R_drewN | apply Kd.R_drew));exact HO_340000.out) hb);have n2_ := Aside0.mk (Kd.R_below (by (with_reducible repeat (first | apply Kd.R_alloc | apply Kd.R_drewN | apply Kd.R_drew));exact HO_346000.out) hb);have n3_ := Aside0.mk (Kd.R_below (by (with_reducible repeat (first | apply Kd.R_alloc | apply Kd.R_drewN | apply Kd.R_drew));exact HO_352000.out) hb);have n4_ := Aside0.mk (Kd.R_below (by (with_reducible repeat (first | apply Kd.R_alloc | apply Kd.R_drewN | apply Kd.R_drew));exact HO_358000.out) hb);have n5_ := Aside0.mk (Kd.R_below (by (with_reducible repeat (first | apply Kd.R_alloc | apply Kd.R_drewN | apply Kd.R_drew));exact HO_364000.out) hb);have n6_ := Aside0.mk (blk_below (g := g328) (o := .cells #[.slice A0_0 l0_0.length c0_0, .int .i64 a0_1] 24 (0, 0)) (by (with_reducible repeat (first | refine blk_drewN ?_ _ | refine blk_drew ?_ | refine blk_alloc ?_ _));exact B328.out) hb);have n7_ := Aside0.mk (blk_below (g := g329) (o := .cells #[.slice A1_0 l1_0.length c1_0, .int .i64 a1_1] 24 (0, 0)) (by (with_reducible repeat (first | refine blk_drewN ?_ _ | refine blk_drew ?_ | refine blk_alloc ?_ _));exact B329.out) hb);have n8_ := Aside0.mk (blk_below (g := g338) (o := .cells #[.slice Ao18 t330.length co18, .int .i64 t333] 24 (0, 0)) (by (with_reducible repeat (first | refine blk_drewN ?_ _ | refine blk_drew ?_ | refine blk_alloc ?_ _));exact B338.out) hb);have n9_ := Aside0.mk (blk_below (g := g339) (o := .cells #[.slice Ao21 t334.length co21, .int .i64 t337] 24 (0, 0)) (by (with_reducible repeat (first | refine blk_drewN ?_ _ | refine blk_drew ?_ | refine blk_alloc ?_ _));exact B339.out) hb);have n10_ := Aside0.mk (blk_below (g := g345) (o := .cells #[.slice Ao33 t340.length co33, .int .i64 t343] 24 (0, 0)) (by (with_reducible repeat (first | refine blk_drewN ?_ _ | refine blk_drew ?_ | refine blk_alloc ?_ _));exact B345.out) hb);have n11_ := Aside0.mk (blk_below (g := g351) (o := .cells #[.slice Ao44 t346.length co44, .int .i64 t349] 24 (0, 0)) (by (with_reducible repeat (first | refine blk_drewN ?_ _ | refine blk_drew ?_ | refine blk_alloc ?_ _));exact B351.out) hb);have n12_ := Aside0.mk (blk_below (g := g357) (o := .cells #[.slice Ao54 t352.length co54, .int .i64 t355] 24 (0, 0)) (by (with_reducible repeat (first | refine blk_drewN ?_ _ | refine blk_drew ?_ | refine blk_alloc ?_ _));exact B357.out) hb);have n13_ := Aside0.mk (blk_below (g := g363) (o := .cells #[.slice Ao65 t358.length co65, .int .i64 t361] 24 (0, 0)) (by (with_reducible repeat (first | refine blk_drewN ?_ _ | refine blk_drew ?_ | refine blk_alloc ?_ _));exact B363.out) hb);have n14_ := Aside0.mk (below_step (by repeat (first | (with_reducible first | exact HB.out | apply below_alloc | apply pw_below_drewN | apply below_drew1 | refine below_set ?_ GE328.out | refine below_set ?_ GE329.out | refine below_set ?_ GE338.out | refine below_set ?_ GE339.out | refine below_set ?_ GE345.out | refine below_set ?_ GE351.out | refine below_set ?_ GE357.out | refine below_set ?_ GE363.out) | exact HB.out)) hb);clear HO_339000;clear HO_340000;clear HO_346000;clear HO_352000;clear HO_358000;clear HO_364000;clear B328;clear B329;clear B338;clear B339;clear B345;clear B351;clear B357;clear B363;clear HB;have HO_339000 := n0_;have HO_340000 := n1_;have HO_346000 := n2_;have HO_352000 := n3_;have HO_358000 := n4_;have HO_364000 := n5_;have B328 := n6_;have B329 := n7_;have B338 := n8_;have B339 := n9_;have B345 := n10_;have B351 := n11_;have B357 := n12_;have B363 := n13_;have HB := n14_;clear n0_ n1_ n2_ n3_ n4_ n5_ n6_ n7_ n8_ n9_ n10_ n11_ n12_ n13_ n14_;(try clear hb);(try clear hb2);(try clear hk);(try clear hi);have hnb204 := NB339_329.out;have hnc204 := NB329_339.out;have hnb205 := NB339_351.out;have hnc205 := NB351_339.out;have hnb206 := NB339_363.out;have hnc206 := NB363_339.out;have hcz207_0 : w203.cell? ⟨g339, 0, none⟩ = some (.slice Ao21 t334.length co21) := (blk_cell B339.out 0).trans rfl;have hcz207_1 : w203.cell? ⟨g339, 1, none⟩ = some (.int .i64 t337) := (blk_cell B339.out 1).trans rfl;have hfz207_0 := blk_frozen B339.out 0;have hfz207_1 := blk_frozen B339.out 1;have hnb208 := NB329_351.out;have hnc208 := NB351_329.out;have hnb209 := NB329_363.out;have hnc209 := NB363_329.out;have hcz210_0 : w203.cell? ⟨g329, 0, none⟩ = some (.slice A1_0 l1_0.length c1_0) := (blk_cell B329.out 0).trans rfl;have hcz210_1 : w203.cell? ⟨g329, 1, none⟩ = some (.int .i64 a1_1) := (blk_cell B329.out 1).trans rfl;have hfz210_0 := blk_frozen B329.out 0;have hfz210_1 := blk_frozen B329.out 1) | (go_at_call 18;(with_reducible refine (valiselaw01_kept.calls _ _ t334 t337 _ _ l1_0 a1_1 true _ ?side1 ?side2 ?side3 ?side4 A172.out).mono ?_);(case side1 => repeat (first | exact (Kd.R_reads' HO_340000.out).2.2 | (with_reducible refine Kd.C_alloc ?_ _) | (with_reducible refine Kd.C_drewN ?_ _) | (with_reducible refine Kd.C_drew ?_)));(case side2 => exact (Kd.R_reads' HO_340000.out).2.1);(case side3 => repeat (first | exact (Kd.C_below HR1_0.out HB.out) | (with_reducible refine Kd.C_alloc ?_ _) | (with_reducible refine Kd.C_drewN ?_ _) | (with_reducible refine Kd.C_drew ?_)));(case side4 => exact HC1_0.out);rintro e w211 ⟨rfl, hb⟩;have n0_ := Aside0.mk (Kd.R_below (by (with_reducible repeat (first | apply Kd.R_alloc | apply Kd.R_drewN | apply Kd.R_drew));exact HO_339000.out) hb);have n1_ := Aside0.mk (Kd.R_below (by (with_reducible repeat (first | apply Kd.R_alloc | apply Kd.R_drewN | apply Kd.R_drew));exact HO_340000.out) hb);have n2_ := Aside0.mk (Kd.R_below (by (with_reducible repeat (first | apply Kd.R_alloc | apply Kd.R_drewN | apply Kd.R_drew));exact HO_346000.out) hb);have n3_ := Aside0.mk (Kd.R_below (by (with_reducible repeat (first | apply Kd.R_alloc | apply Kd.R_drewN | apply Kd.R_drew));exact HO_352000.out) hb);have n4_ := Aside0.mk (Kd.R_below (by (with_reducible repeat (first | apply Kd.R_alloc | apply Kd.R_drewN | apply Kd.R_drew));exact HO_358000.out) hb);have n5_ := Aside0.mk (Kd.R_below (by (with_reducible repeat (first | apply Kd.R_alloc | apply Kd.R_drewN | apply Kd.R_drew));exact HO_364000.out) hb);have n6_ := Aside0.mk (blk_below (g := g328) (o := .cells #[.slice A0_0 l0_0.length c0_0, .int .i64 a0_1] 24 (0, 0)) (by (with_reducible repeat (first | refine blk_drewN ?_ _ | refine blk_drew ?_ | refine blk_alloc ?_ _));exact B328.out) hb);have n7_ := Aside0.mk (blk_below (g := g329) (o := .cells #[.slice A1_0 l1_0.length c1_0, .int .i64 a1_1] 24 (0, 0)) (by (with_reducible repeat (first | refine blk_drewN ?_ _ | refine blk_drew ?_ | refine blk_alloc ?_ _));exact B329.out) hb);have n8_ := Aside0.mk (blk_below (g := g338) (o := .cells #[.slice Ao18 t330.length co18, .int .i64 t333] 24 (0, 0)) (by (with_reducible repeat (first | refine blk_drewN ?_ _ | refine blk_drew ?_ | refine blk_alloc ?_ _));exact B338.out) hb);have n9_ := Aside0.mk (blk_below (g := g339) (o := .cells #[.slice Ao21 t334.length co21, .int .i64 t337] 24 (0, 0)) (by (with_reducible repeat (first | refine blk_drewN ?_ _ | refine blk_drew ?_ | refine blk_alloc ?_ _));exact B339.out) hb);have n10_ := Aside0.mk (blk_below (g := g345) (o := .cells #[.slice Ao33 t340.length co33, .int .i64 t343] 24 (0, 0)) (by (with_reducible repeat (first | refine blk_drewN ?_ _ | refine blk_drew ?_ | refine blk_alloc ?_ _));exact B345.out) hb);have n11_ := Aside0.mk (blk_below (g := g351) (o := .cells #[.slice Ao44 t346.length co44, .int .i64 t349] 24 (0, 0)) (by (with_reducible repeat (first | refine blk_drewN ?_ _ | refine blk_drew ?_ | refine blk_alloc ?_ _));exact B351.out) hb);have n12_ := Aside0.mk (blk_below (g := g357) (o := .cells #[.slice Ao54 t352.length co54, .int .i64 t355] 24 (0, 0)) (by (with_reducible repeat (first | refine blk_drewN ?_ _ | refine blk_drew ?_ | refine blk_alloc ?_ _));exact B357.out) hb);have n13_ := Aside0.mk (blk_below (g := g363) (o := .cells #[.slice Ao65 t358.length co65, .int .i64 t361] 24 (0, 0)) (by (with_reducible repeat (first | refine blk_drewN ?_ _ | refine blk_drew ?_ | refine blk_alloc ?_ _));exact B363.out) hb);have n14_ := Aside0.mk (below_step (by repeat (first | (with_reducible first | exact HB.out | apply below_alloc | apply pw_below_drewN | apply below_drew1 | refine below_set ?_ GE328.out | refine below_set ?_ GE329.out | refine below_set ?_ GE338.out | refine below_set ?_ GE339.out | refine below_set ?_ GE345.out | refine below_set ?_ GE351.out | refine below_set ?_ GE357.out | refine below_set ?_ GE363.out) | exact HB.out)) hb);clear HO_339000;clear HO_340000;clear HO_346000;clear HO_352000;clear HO_358000;clear HO_364000;clear B328;clear B329;clear B338;clear B339;clear B345;clear B351;clear B357;clear B363;clear HB;have HO_339000 := n0_;have HO_340000 := n1_;have HO_346000 := n2_;have HO_352000 := n3_;have HO_358000 := n4_;have HO_364000 := n5_;have B328 := n6_;have B329 := n7_;have B338 := n8_;have B339 := n9_;have B345 := n10_;have B351 := n11_;have B357 := n12_;have B363 := n13_;have HB := n14_;clear n0_ n1_ n2_ n3_ n4_ n5_ n6_ n7_ n8_ n9_ n10_ n11_ n12_ n13_ n14_;(try clear hb);(try clear hb2);(try clear hk);(try clear hi)) | (go_at_call 19;(with_reducible refine (valiselaw01_lives.calls kj8  t370 _ A174.out).mono ?_);rintro e w212 ⟨rfl, hb⟩;have n0_ := Aside0.mk (Kd.R_below (by (with_reducible repeat (first | apply Kd.R_alloc | apply Kd.R_drewN | apply Kd.R_drew));exact HO_339000.out) hb);have n1_ := Aside0.mk (Kd.R_below (by (with_reducible repeat (first | apply Kd.R_alloc | apply Kd.R_drewN | apply Kd.R_drew));exact HO_340000.out) hb);have n2_ := Aside0.mk (Kd.R_below (by (with_reducible repeat (first | apply Kd.R_alloc | apply Kd.R_drewN | apply Kd.R_drew));exact HO_346000.out) hb);have n3_ := Aside0.mk (Kd.R_below (by (with_reducible repeat (first | apply Kd.R_alloc | apply Kd.R_drewN | apply Kd.R_drew));exact HO_352000.out) hb);have n4_ := Aside0.mk (Kd.R_below (by (with_reducible repeat (first | apply Kd.R_alloc | apply Kd.R_drewN | apply Kd.R_drew));exact HO_358000.out) hb);have n5_ := Aside0.mk (Kd.R_below (by (with_reducible repeat (first | apply Kd.R_alloc | apply Kd.R_drewN | apply Kd.R_drew));exact HO_364000.out) hb);have n6_ := Aside0.mk (blk_below (g := g328) (o := .cells #[.slice A0_0 l0_0.length c0_0, .int .i64 a0_1] 24 (0, 0)) (by (with_reducible repeat (first | refine blk_drewN ?_ _ | refine blk_drew ?_ | refine blk_alloc ?_ _));exact B328.out) hb);have n7_ := Aside0.mk (blk_below (g := g329) (o := .cells #[.slice A1_0 l1_0.length c1_0, .int .i64 a1_1] 24 (0, 0)) (by (with_reducible repeat (first | refine blk_drewN ?_ _ | refine blk_drew ?_ | refine blk_alloc ?_ _));exact B329.out) hb);have n8_ := Aside0.mk (blk_below (g := g338) (o := .cells #[.slice Ao18 t330.length co18, .int .i64 t333] 24 (0, 0)) (by (with_reducible repeat (first | refine blk_drewN ?_ _ | refine blk_drew ?_ | refine blk_alloc ?_ _));exact B338.out) hb);have n9_ := Aside0.mk (blk_below (g := g339) (o := .cells #[.slice Ao21 t334.length co21, .int .i64 t337] 24 (0, 0)) (by (with_reducible repeat (first | refine blk_drewN ?_ _ | refine blk_drew ?_ | refine blk_alloc ?_ _));exact B339.out) hb);have n10_ := Aside0.mk (blk_below (g := g345) (o := .cells #[.slice Ao33 t340.length co33, .int .i64 t343] 24 (0, 0)) (by (with_reducible repeat (first | refine blk_drewN ?_ _ | refine blk_drew ?_ | refine blk_alloc ?_ _));exact B345.out) hb);have n11_ := Aside0.mk (blk_below (g := g351) (o := .cells #[.slice Ao44 t346.length co44, .int .i64 t349] 24 (0, 0)) (by (with_reducible repeat (first | refine blk_drewN ?_ _ | refine blk_drew ?_ | refine blk_alloc ?_ _));exact B351.out) hb);have n12_ := Aside0.mk (blk_below (g := g357) (o := .cells #[.slice Ao54 t352.length co54, .int .i64 t355] 24 (0, 0)) (by (with_reducible repeat (first | refine blk_drewN ?_ _ | refine blk_drew ?_ | refine blk_alloc ?_ _));exact B357.out) hb);have n13_ := Aside0.mk (blk_below (g := g363) (o := .cells #[.slice Ao65 t358.length co65, .int .i64 t361] 24 (0, 0)) (by (with_reducible repeat (first | refine blk_drewN ?_ _ | refine blk_drew ?_ | refine blk_alloc ?_ _));exact B363.out) hb);have n14_ := Aside0.mk (below_step (by repeat (first | (with_reducible first | exact HB.out | apply below_alloc | apply pw_below_drewN | apply below_drew1 | refine below_set ?_ GE328.out | refine below_set ?_ GE329.out | refine below_set ?_ GE338.out | refine below_set ?_ GE339.out | refine below_set ?_ GE345.out | refine below_set ?_ GE351.out | refine below_set ?_ GE357.out | refine below_set ?_ GE363.out) | exact HB.out)) hb);clear HO_339000;clear HO_340000;clear HO_346000;clear HO_352000;clear HO_358000;clear HO_364000;clear B328;clear B329;clear B338;clear B339;clear B345;clear B351;clear B357;clear B363;clear HB;have HO_339000 := n0_;have HO_340000 := n1_;have HO_346000 := n2_;have HO_352000 := n3_;have HO_358000 := n4_;have HO_364000 := n5_;have B328 := n6_;have B329 := n7_;have B338 := n8_;have B339 := n9_;have B345 := n10_;have B351 := n11_;have B357 := n12_;have B363 := n13_;have HB := n14_;clear n0_ n1_ n2_ n3_ n4_ n5_ n6_ n7_ n8_ n9_ n10_ n11_ n12_ n13_ n14_;(try clear hb);(try clear hb2);(try clear hk);(try clear hi)))
      go_ret
      exact ⟨by first | rfl | (simp [errW_none, errW_some] <;> rfl) | (simp [*, errW_none, errW_some] <;> rfl), by repeat (first | (with_reducible first | exact HB.out | apply below_alloc | apply pw_below_drewN | apply below_drew1 | refine below_set ?_ GE328.out | refine below_set ?_ GE329.out | refine below_set ?_ GE338.out | refine below_set ?_ GE339.out | refine below_set ?_ GE345.out | refine below_set ?_ GE351.out | refine below_set ?_ GE357.out | refine below_set ?_ GE363.out) | exact HB.out)⟩
     ·replace c173 := Bool.eq_false_iff.mpr c173
      subst c173
      have H1 : (some false) = some r := by rw [if_neg (show ¬ (false = true) by decide)] at H;exact H
      clear H
      have H := H1
      clear H1
      obtain rfl := Option.some.inj H
      cases hrt
    ·replace c171 := Bool.eq_false_iff.mpr c171
     subst c171
     have H1 : (some false) = some r := by rw [if_neg (show ¬ (false = true) by decide)] at H;exact H
     clear H
     have H := H1
     clear H1
     obtain rfl := Option.some.inj H
     cases hrt
   ·replace c169 := Bool.eq_false_iff.mpr c169
    subst c169
    have H1 : (some false) = some r := by rw [if_neg (show ¬ (false = true) by decide)] at H;exact H
    clear H
    have H := H1
    clear H1
    obtain rfl := Option.some.inj H
    cases hrt

end Go.Proofs.Ytggmffmajgnhkaa.Pr
