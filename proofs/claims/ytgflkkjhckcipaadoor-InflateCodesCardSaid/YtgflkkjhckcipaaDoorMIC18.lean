-- Texts by hand and by programs of this session, joined (wip/tool/merge.py).
import Derived.Test.YtgflkkjhckcipaaDoorMIC14
import Derived.Test.YtgflkkjhckcipaaDoorMIC15
import Derived.Test.YtgflkkjhckcipaaDoorMIC17
-- YtgflkkjhckcipaaDoorPg14
set_option maxHeartbeats 16000000
set_option maxRecDepth 1000000
namespace Go.Proofs.YtgflkkjhckcipaaDoor.Pg
open Go.RowKit Go.Proofs.YtgflkkjhckcipaaDoorW.PrintWords Go.Proofs.YtgflkkjhckcipaaDoorW.PrintLast Go.Proofs.YtgflkkjhckcipaaDoorW.PrintMore
attribute [local go_sem] max2_int min2_int max_two min_two max_three min_three max_four min_four   -- for this text's walks alone
set_option linter.unusedVariables false
set_option linter.unusedSimpArgs false

mutual
def valiselaw09_InflateCodes.j0 : Nat → List Int → List Int → Bool → Option (Bool)
  | 0, _, _, _ => none
  | k + 1, x0, x1, x26 => if x26 = true then ((valiselaw09_lives.f).bind fun t166 => (some t166)) else (if 257 ≤ 35184372088832 then (valiselaw09_InflateCodes.l0 k x0 x1 (List.replicate 257 0) 0) else (none))
def valiselaw09_InflateCodes.l0 : Nat → List Int → List Int → List Int → Int → Option (Bool)
  | 0, _, _, _, _ => none
  | k + 1, x0, x1, x5, x6 => if x6 < (x0.length : Int) then (if 0 ≤ x6 then (if (rd x0 x6) < 0 then (valiselaw09_InflateCodes.j2 k x0 x1 x5 x6 true) else (valiselaw09_InflateCodes.j2 k x0 x1 x5 x6 (decide ((rd x0 x6) > 14)))) else (none)) else (if 256 < (x5.length : Int) then ((some (x5.set (256 : Int).toNat 1 : List Int)).bind fun y176 => ((valiseref04_Check.f k y176).bind fun t177 => (if t177 = 0 then ((valiselaw09_laid.f k ([] : List Int) 0 1 1).bind fun bt180 => ((valiselaw09_laid.f k bt180.1 bt180.2 2 2).bind fun bt184 => ((valiselaw09_laid.f k bt184.1 bt184.2 0 10).bind fun bt188 => ((valiselaw09_laid.f k bt188.1 bt188.2 15 4).bind fun bt192 => (if 19 ≤ 35184372088832 then (valiselaw09_InflateCodes.l1 k x1 y176 (([16, 17, 18, 0, 8, 7, 9, 6, 10, 5, 11, 4, 12, 3, 13, 2, 14, 1, 15] : List Int)) (List.replicate 19 0) 0 bt192.1 bt192.2) else (none)))))) else ((valiselaw09_lives.f).bind fun t178 => (some t178))))) else (none))
def valiselaw09_InflateCodes.j2 : Nat → List Int → List Int → List Int → Int → Bool → Option (Bool)
  | 0, _, _, _, _, _ => none
  | k + 1, x0, x1, x5, x6, x46 => if x46 = true then ((valiselaw09_lives.f).bind fun t172 => (some t172)) else (if 0 ≤ x6 then (if x6 < (x0.length : Int) then (if (rd x0 x6) > 0 then (if x6 < (x5.length : Int) then (valiselaw09_InflateCodes.l0 k x0 x1 (x5.set (x6 : Int).toNat (wrap64 ((rd x0 x6) + 1))) (wrap64 (x6 + 1))) else (none)) else (valiselaw09_InflateCodes.l0 k x0 x1 x5 (wrap64 (x6 + 1)))) else (none)) else (none))
def valiselaw09_InflateCodes.l1 : Nat → List Int → List Int → List Int → List Int → Int → List Int → Int → Option (Bool)
  | 0, _, _, _, _, _, _, _ => none
  | k + 1, x1, x5, x8, x9, x10, x180000, x180001 => if x10 < 16 then (if 0 ≤ x10 then (if x10 < (x9.length : Int) then (valiselaw09_InflateCodes.l1 k x1 x5 x8 (x9.set (x10 : Int).toNat 4) (wrap64 (x10 + 1)) x180000 x180001) else (none)) else (none)) else (valiselaw09_InflateCodes.l2 k x1 x5 x8 x9 0 x180000 x180001)
def valiselaw09_InflateCodes.l2 : Nat → List Int → List Int → List Int → List Int → Int → List Int → Int → Option (Bool)
  | 0, _, _, _, _, _, _, _ => none
  | k + 1, x1, x5, x8, x9, x11, x180000, x180001 => if x11 < 19 then (if 0 ≤ x11 then (if x11 < (x8.length : Int) then (if 0 ≤ (rd x8 x11) then (if (rd x8 x11) < (x9.length : Int) then ((valiselaw09_laid.f k x180000 x180001 (rd x9 (rd x8 x11)) 3).bind fun bt205 => (valiselaw09_InflateCodes.l2 k x1 x5 x8 x9 (wrap64 (x11 + 1)) bt205.1 bt205.2)) else (none)) else (none)) else (none)) else (none)) else (valiselaw09_InflateCodes.l3 k x1 x5 x9 0 x180000 x180001)
def valiselaw09_InflateCodes.l3 : Nat → List Int → List Int → List Int → Int → List Int → Int → Option (Bool)
  | 0, _, _, _, _, _, _ => none
  | k + 1, x1, x5, x9, x12, x180000, x180001 => if x12 < 257 then (if 0 ≤ x12 then (if x12 < (x5.length : Int) then ((valiseref04_Put.f k x180000 x180001 x9 (rd x5 x12)).bind fun bt210 => (valiselaw09_InflateCodes.l3 k x1 x5 x9 (wrap64 (x12 + 1)) bt210.1 bt210.2.1)) else (none)) else (none)) else ((valiseref04_Put.f k x180000 x180001 x9 0).bind fun bt215 => (valiselaw09_InflateCodes.l4 k x1 x5 (⟨#[]⟩ : ByteArray) 0 bt215.1 bt215.2.1))
def valiselaw09_InflateCodes.l4 : Nat → List Int → List Int → ByteArray → Int → List Int → Int → Option (Bool)
  | 0, _, _, _, _, _, _ => none
  | k + 1, x1, x5, x13, x14, x180000, x180001 => if x14 < (x1.length : Int) then (if 0 ≤ x14 then (if 0 ≤ (Go.bits .and .i64 (rd x1 x14) 255) then (if (Go.bits .and .i64 (rd x1 x14) 255) < (x5.length : Int) then (if (rd x5 (Go.bits .and .i64 (rd x1 x14) 255)) > 0 then ((valiseref04_Put.f k x180000 x180001 x5 (Go.bits .and .i64 (rd x1 x14) 255)).bind fun bt222 => ((some (([(Go.bits .and .i64 (rd x1 x14) 255) % 256] : List Int) : List Int)).bind fun y227 => (if x13.size + (strOfNums y227).size ≤ 9223372036854775807 then (valiselaw09_InflateCodes.l4 k x1 x5 (x13 ++ (strOfNums y227)) (wrap64 (x14 + 1)) bt222.1 bt222.2.1) else (none)))) else (valiselaw09_InflateCodes.l4 k x1 x5 x13 (wrap64 (x14 + 1)) x180000 x180001)) else (none)) else (none)) else (none)) else ((valiseref04_Put.f k x180000 x180001 x5 256).bind fun bt230 => ((inflate_Decode.f bt230.1 65536).bind fun bt235 => (if (strOfNums bt235.1).toList = x13.toList then (if bt235.2.1 = (bt230.1.length : Int) then (if bt235.2.2 = 0 then ((valiselaw09_lives.f).bind fun t240 => (some t240)) else (some false)) else (some false)) else (some false))))
end
def valiselaw09_InflateCodes.f (k : Nat) (l0 : List Int) (l1 : List Int) : Option (Bool) := if (l0.length : Int) > 256 then (valiselaw09_InflateCodes.j0 k l0 l1 true) else (valiselaw09_InflateCodes.j0 k l0 l1 (decide ((l1.length : Int) > 300)))
theorem valiselaw09_InflateCodes.mono_l : ∀ k, (∀ y0 y1 y2, LeO (valiselaw09_InflateCodes.j0 k y0 y1 y2) (valiselaw09_InflateCodes.j0 (k + 1) y0 y1 y2)) ∧ (∀ y0 y1 y2 y3, LeO (valiselaw09_InflateCodes.l0 k y0 y1 y2 y3) (valiselaw09_InflateCodes.l0 (k + 1) y0 y1 y2 y3)) ∧ (∀ y0 y1 y2 y3 y4, LeO (valiselaw09_InflateCodes.j2 k y0 y1 y2 y3 y4) (valiselaw09_InflateCodes.j2 (k + 1) y0 y1 y2 y3 y4)) ∧ (∀ y0 y1 y2 y3 y4 y5 y6, LeO (valiselaw09_InflateCodes.l1 k y0 y1 y2 y3 y4 y5 y6) (valiselaw09_InflateCodes.l1 (k + 1) y0 y1 y2 y3 y4 y5 y6)) ∧ (∀ y0 y1 y2 y3 y4 y5 y6, LeO (valiselaw09_InflateCodes.l2 k y0 y1 y2 y3 y4 y5 y6) (valiselaw09_InflateCodes.l2 (k + 1) y0 y1 y2 y3 y4 y5 y6)) ∧ (∀ y0 y1 y2 y3 y4 y5, LeO (valiselaw09_InflateCodes.l3 k y0 y1 y2 y3 y4 y5) (valiselaw09_InflateCodes.l3 (k + 1) y0 y1 y2 y3 y4 y5)) ∧ (∀ y0 y1 y2 y3 y4 y5, LeO (valiselaw09_InflateCodes.l4 k y0 y1 y2 y3 y4 y5) (valiselaw09_InflateCodes.l4 (k + 1) y0 y1 y2 y3 y4 y5))
  | 0 => ⟨fun _ _ _ r h => by simp [valiselaw09_InflateCodes.j0] at h, fun _ _ _ _ r h => by simp [valiselaw09_InflateCodes.l0] at h, fun _ _ _ _ _ r h => by simp [valiselaw09_InflateCodes.j2] at h, fun _ _ _ _ _ _ _ r h => by simp [valiselaw09_InflateCodes.l1] at h, fun _ _ _ _ _ _ _ r h => by simp [valiselaw09_InflateCodes.l2] at h, fun _ _ _ _ _ _ r h => by simp [valiselaw09_InflateCodes.l3] at h, fun _ _ _ _ _ _ r h => by simp [valiselaw09_InflateCodes.l4] at h⟩
  | k + 1 => by
    obtain ⟨ih0, ih1, ih2, ih3, ih4, ih5, ih6⟩ := valiselaw09_InflateCodes.mono_l k
    refine ⟨?_, ?_, ?_, ?_, ?_, ?_, ?_⟩
    · intro y0 y1 y2
      unfold valiselaw09_InflateCodes.j0
      repeat' first
      | (with_reducible exact ih0 _ _ _)
      | (with_reducible exact ih1 _ _ _ _)
      | (with_reducible exact ih2 _ _ _ _ _)
      | (with_reducible exact ih3 _ _ _ _ _ _ _)
      | (with_reducible exact ih4 _ _ _ _ _ _ _)
      | (with_reducible exact ih5 _ _ _ _ _ _)
      | (with_reducible exact ih6 _ _ _ _ _ _)
      | (with_reducible exact valiselaw09_laid.mono _ _ _ _ _)
      | (with_reducible exact valiseref04_Check.mono _ _)
      | (with_reducible exact valiseref04_Put.mono _ _ _ _ _)
      | (with_reducible exact LeO.refl _)
      | (with_reducible exact LeO.none _)
      | (with_reducible refine LeO.ite ?_ ?_)
      | (with_reducible refine LeO.bind ?_ (fun _ => ?_))
      | exact ih0 _ _ _
      | exact ih1 _ _ _ _
      | exact ih2 _ _ _ _ _
      | exact ih3 _ _ _ _ _ _ _
      | exact ih4 _ _ _ _ _ _ _
      | exact ih5 _ _ _ _ _ _
      | exact ih6 _ _ _ _ _ _
      | exact valiselaw09_laid.mono _ _ _ _ _
      | exact valiseref04_Check.mono _ _
      | exact valiseref04_Put.mono _ _ _ _ _
      | exact LeO.none _
      | refine LeO.ite ?_ ?_
      | refine LeO.bind ?_ (fun _ => ?_)
    · intro y0 y1 y2 y3
      unfold valiselaw09_InflateCodes.l0
      repeat' first
      | (with_reducible exact ih0 _ _ _)
      | (with_reducible exact ih1 _ _ _ _)
      | (with_reducible exact ih2 _ _ _ _ _)
      | (with_reducible exact ih3 _ _ _ _ _ _ _)
      | (with_reducible exact ih4 _ _ _ _ _ _ _)
      | (with_reducible exact ih5 _ _ _ _ _ _)
      | (with_reducible exact ih6 _ _ _ _ _ _)
      | (with_reducible exact valiselaw09_laid.mono _ _ _ _ _)
      | (with_reducible exact valiseref04_Check.mono _ _)
      | (with_reducible exact valiseref04_Put.mono _ _ _ _ _)
      | (with_reducible exact LeO.refl _)
      | (with_reducible exact LeO.none _)
      | (with_reducible refine LeO.ite ?_ ?_)
      | (with_reducible refine LeO.bind ?_ (fun _ => ?_))
      | exact ih0 _ _ _
      | exact ih1 _ _ _ _
      | exact ih2 _ _ _ _ _
      | exact ih3 _ _ _ _ _ _ _
      | exact ih4 _ _ _ _ _ _ _
      | exact ih5 _ _ _ _ _ _
      | exact ih6 _ _ _ _ _ _
      | exact valiselaw09_laid.mono _ _ _ _ _
      | exact valiseref04_Check.mono _ _
      | exact valiseref04_Put.mono _ _ _ _ _
      | exact LeO.none _
      | refine LeO.ite ?_ ?_
      | refine LeO.bind ?_ (fun _ => ?_)
    · intro y0 y1 y2 y3 y4
      unfold valiselaw09_InflateCodes.j2
      repeat' first
      | (with_reducible exact ih0 _ _ _)
      | (with_reducible exact ih1 _ _ _ _)
      | (with_reducible exact ih2 _ _ _ _ _)
      | (with_reducible exact ih3 _ _ _ _ _ _ _)
      | (with_reducible exact ih4 _ _ _ _ _ _ _)
      | (with_reducible exact ih5 _ _ _ _ _ _)
      | (with_reducible exact ih6 _ _ _ _ _ _)
      | (with_reducible exact valiselaw09_laid.mono _ _ _ _ _)
      | (with_reducible exact valiseref04_Check.mono _ _)
      | (with_reducible exact valiseref04_Put.mono _ _ _ _ _)
      | (with_reducible exact LeO.refl _)
      | (with_reducible exact LeO.none _)
      | (with_reducible refine LeO.ite ?_ ?_)
      | (with_reducible refine LeO.bind ?_ (fun _ => ?_))
      | exact ih0 _ _ _
      | exact ih1 _ _ _ _
      | exact ih2 _ _ _ _ _
      | exact ih3 _ _ _ _ _ _ _
      | exact ih4 _ _ _ _ _ _ _
      | exact ih5 _ _ _ _ _ _
      | exact ih6 _ _ _ _ _ _
      | exact valiselaw09_laid.mono _ _ _ _ _
      | exact valiseref04_Check.mono _ _
      | exact valiseref04_Put.mono _ _ _ _ _
      | exact LeO.none _
      | refine LeO.ite ?_ ?_
      | refine LeO.bind ?_ (fun _ => ?_)
    · intro y0 y1 y2 y3 y4 y5 y6
      unfold valiselaw09_InflateCodes.l1
      repeat' first
      | (with_reducible exact ih0 _ _ _)
      | (with_reducible exact ih1 _ _ _ _)
      | (with_reducible exact ih2 _ _ _ _ _)
      | (with_reducible exact ih3 _ _ _ _ _ _ _)
      | (with_reducible exact ih4 _ _ _ _ _ _ _)
      | (with_reducible exact ih5 _ _ _ _ _ _)
      | (with_reducible exact ih6 _ _ _ _ _ _)
      | (with_reducible exact valiselaw09_laid.mono _ _ _ _ _)
      | (with_reducible exact valiseref04_Check.mono _ _)
      | (with_reducible exact valiseref04_Put.mono _ _ _ _ _)
      | (with_reducible exact LeO.refl _)
      | (with_reducible exact LeO.none _)
      | (with_reducible refine LeO.ite ?_ ?_)
      | (with_reducible refine LeO.bind ?_ (fun _ => ?_))
      | exact ih0 _ _ _
      | exact ih1 _ _ _ _
      | exact ih2 _ _ _ _ _
      | exact ih3 _ _ _ _ _ _ _
      | exact ih4 _ _ _ _ _ _ _
      | exact ih5 _ _ _ _ _ _
      | exact ih6 _ _ _ _ _ _
      | exact valiselaw09_laid.mono _ _ _ _ _
      | exact valiseref04_Check.mono _ _
      | exact valiseref04_Put.mono _ _ _ _ _
      | exact LeO.none _
      | refine LeO.ite ?_ ?_
      | refine LeO.bind ?_ (fun _ => ?_)
    · intro y0 y1 y2 y3 y4 y5 y6
      unfold valiselaw09_InflateCodes.l2
      repeat' first
      | (with_reducible exact ih0 _ _ _)
      | (with_reducible exact ih1 _ _ _ _)
      | (with_reducible exact ih2 _ _ _ _ _)
      | (with_reducible exact ih3 _ _ _ _ _ _ _)
      | (with_reducible exact ih4 _ _ _ _ _ _ _)
      | (with_reducible exact ih5 _ _ _ _ _ _)
      | (with_reducible exact ih6 _ _ _ _ _ _)
      | (with_reducible exact valiselaw09_laid.mono _ _ _ _ _)
      | (with_reducible exact valiseref04_Check.mono _ _)
      | (with_reducible exact valiseref04_Put.mono _ _ _ _ _)
      | (with_reducible exact LeO.refl _)
      | (with_reducible exact LeO.none _)
      | (with_reducible refine LeO.ite ?_ ?_)
      | (with_reducible refine LeO.bind ?_ (fun _ => ?_))
      | exact ih0 _ _ _
      | exact ih1 _ _ _ _
      | exact ih2 _ _ _ _ _
      | exact ih3 _ _ _ _ _ _ _
      | exact ih4 _ _ _ _ _ _ _
      | exact ih5 _ _ _ _ _ _
      | exact ih6 _ _ _ _ _ _
      | exact valiselaw09_laid.mono _ _ _ _ _
      | exact valiseref04_Check.mono _ _
      | exact valiseref04_Put.mono _ _ _ _ _
      | exact LeO.none _
      | refine LeO.ite ?_ ?_
      | refine LeO.bind ?_ (fun _ => ?_)
    · intro y0 y1 y2 y3 y4 y5
      unfold valiselaw09_InflateCodes.l3
      repeat' first
      | (with_reducible exact ih0 _ _ _)
      | (with_reducible exact ih1 _ _ _ _)
      | (with_reducible exact ih2 _ _ _ _ _)
      | (with_reducible exact ih3 _ _ _ _ _ _ _)
      | (with_reducible exact ih4 _ _ _ _ _ _ _)
      | (with_reducible exact ih5 _ _ _ _ _ _)
      | (with_reducible exact ih6 _ _ _ _ _ _)
      | (with_reducible exact valiselaw09_laid.mono _ _ _ _ _)
      | (with_reducible exact valiseref04_Check.mono _ _)
      | (with_reducible exact valiseref04_Put.mono _ _ _ _ _)
      | (with_reducible exact LeO.refl _)
      | (with_reducible exact LeO.none _)
      | (with_reducible refine LeO.ite ?_ ?_)
      | (with_reducible refine LeO.bind ?_ (fun _ => ?_))
      | exact ih0 _ _ _
      | exact ih1 _ _ _ _
      | exact ih2 _ _ _ _ _
      | exact ih3 _ _ _ _ _ _ _
      | exact ih4 _ _ _ _ _ _ _
      | exact ih5 _ _ _ _ _ _
      | exact ih6 _ _ _ _ _ _
      | exact valiselaw09_laid.mono _ _ _ _ _
      | exact valiseref04_Check.mono _ _
      | exact valiseref04_Put.mono _ _ _ _ _
      | exact LeO.none _
      | refine LeO.ite ?_ ?_
      | refine LeO.bind ?_ (fun _ => ?_)
    · intro y0 y1 y2 y3 y4 y5
      unfold valiselaw09_InflateCodes.l4
      repeat' first
      | (with_reducible exact ih0 _ _ _)
      | (with_reducible exact ih1 _ _ _ _)
      | (with_reducible exact ih2 _ _ _ _ _)
      | (with_reducible exact ih3 _ _ _ _ _ _ _)
      | (with_reducible exact ih4 _ _ _ _ _ _ _)
      | (with_reducible exact ih5 _ _ _ _ _ _)
      | (with_reducible exact ih6 _ _ _ _ _ _)
      | (with_reducible exact valiselaw09_laid.mono _ _ _ _ _)
      | (with_reducible exact valiseref04_Check.mono _ _)
      | (with_reducible exact valiseref04_Put.mono _ _ _ _ _)
      | (with_reducible exact LeO.refl _)
      | (with_reducible exact LeO.none _)
      | (with_reducible refine LeO.ite ?_ ?_)
      | (with_reducible refine LeO.bind ?_ (fun _ => ?_))
      | exact ih0 _ _ _
      | exact ih1 _ _ _ _
      | exact ih2 _ _ _ _ _
      | exact ih3 _ _ _ _ _ _ _
      | exact ih4 _ _ _ _ _ _ _
      | exact ih5 _ _ _ _ _ _
      | exact ih6 _ _ _ _ _ _
      | exact valiselaw09_laid.mono _ _ _ _ _
      | exact valiseref04_Check.mono _ _
      | exact valiseref04_Put.mono _ _ _ _ _
      | exact LeO.none _
      | refine LeO.ite ?_ ?_
      | refine LeO.bind ?_ (fun _ => ?_)
theorem valiselaw09_InflateCodes.mono : ∀ a0 a1 k, LeO (valiselaw09_InflateCodes.f k a0 a1) (valiselaw09_InflateCodes.f (k + 1) a0 a1) := by
  intro a0 a1 k
  obtain ⟨ih0, ih1, ih2, ih3, ih4, ih5, ih6⟩ := valiselaw09_InflateCodes.mono_l k
  unfold valiselaw09_InflateCodes.f
  repeat' first
      | (with_reducible exact ih0 _ _ _)
      | (with_reducible exact ih1 _ _ _ _)
      | (with_reducible exact ih2 _ _ _ _ _)
      | (with_reducible exact ih3 _ _ _ _ _ _ _)
      | (with_reducible exact ih4 _ _ _ _ _ _ _)
      | (with_reducible exact ih5 _ _ _ _ _ _)
      | (with_reducible exact ih6 _ _ _ _ _ _)
      | (with_reducible exact valiselaw09_laid.mono _ _ _ _ _)
      | (with_reducible exact valiseref04_Check.mono _ _)
      | (with_reducible exact valiseref04_Put.mono _ _ _ _ _)
      | (with_reducible exact LeO.refl _)
      | (with_reducible exact LeO.none _)
      | (with_reducible refine LeO.ite ?_ ?_)
      | (with_reducible refine LeO.bind ?_ (fun _ => ?_))
      | exact ih0 _ _ _
      | exact ih1 _ _ _ _
      | exact ih2 _ _ _ _ _
      | exact ih3 _ _ _ _ _ _ _
      | exact ih4 _ _ _ _ _ _ _
      | exact ih5 _ _ _ _ _ _
      | exact ih6 _ _ _ _ _ _
      | exact valiselaw09_laid.mono _ _ _ _ _
      | exact valiseref04_Check.mono _ _
      | exact valiseref04_Put.mono _ _ _ _ _
      | exact LeO.none _
      | refine LeO.ite ?_ ?_
      | refine LeO.bind ?_ (fun _ => ?_)
def valiselaw09_InflateCodes.T28 : Bool × List (List Nat × List Nat) := (true, [([], []), ([], []), ([], []), ([], []), ([2, 3], [2, 3]), ([4], [4]), ([1, 5], [1, 5]), ([6], [6]), ([0, 7], [0, 7]), ([8, 8, 0, 1, 2, 3, 4, 5, 6, 7, 8], [8])])
def valiselaw09_InflateCodes.B28 : List Nat := [0, 0, 0, 0, 12, 28, 62, 126, 255, 511]
theorem valiselaw09_InflateCodes.tab28 : rtab .any (opsOf Tryd.f6 28) = valiselaw09_InflateCodes.T28 := by kernel_rfl
theorem valiselaw09_InflateCodes.bits28 : waitsOk valiselaw09_InflateCodes.T28.2 valiselaw09_InflateCodes.B28 = true := by kernel_rfl
def valiselaw09_InflateCodes.T32 : Bool × List (List Nat × List Nat) := (true, [([], []), ([], []), ([], []), ([], []), ([2, 3], [2, 3]), ([4], [4]), ([0, 1, 5], [0, 1, 5]), ([6], [6]), ([7], [7]), ([7], [7]), ([8, 6, 0, 1, 2, 3, 4, 5, 6, 7, 8], [8])])
def valiselaw09_InflateCodes.B32 : List Nat := [0, 0, 0, 0, 12, 28, 63, 127, 255, 255, 511]
theorem valiselaw09_InflateCodes.tab32 : rtab .any (opsOf Tryd.f6 32) = valiselaw09_InflateCodes.T32 := by kernel_rfl
theorem valiselaw09_InflateCodes.bits32 : waitsOk valiselaw09_InflateCodes.T32.2 valiselaw09_InflateCodes.B32 = true := by kernel_rfl
theorem valiselaw09_InflateCodes.calls (k : Nat) (A0 : Option Addr) (c0 : Nat) (l0 : List Int) (A1 : Option Addr) (c1 : Nat) (l1 : List Int) (r : Bool) (w : World) (hr0 : Kd.C (Kd.int .i64) w A0 l0.length l0) (hc0 : l0.length ≤ c0) (hr1 : Kd.C (Kd.int .i64) w A1 l1.length l1) (hc1 : l1.length ≤ c1) (HGL : Pr.Handle w) (h : valiselaw09_InflateCodes.f k l0 l1 = some r) (hrt : r = true) :
    Calls Tryd.prog 6 #[.slice A0 l0.length c0, .slice A1 l1.length c1] w fun e w' => e = .returned (.bool r) ∧ Below w.heap.size w w' := by
  have hu35 := Tryd.underlying35
  have HR0 := Ak hr0
  have HC0 := Ak hc0
  clear hr0 hc0
  have HR1 := Ak hr1
  have HC1 := Ak hc1
  clear hr1 hc1
  have HB := Ak (Below.refl w.heap.size w)
  have HGH := Ak HGL
  clear HGL
  have H : (if (l0.length : Int) > 256 then (valiselaw09_InflateCodes.j0 k l0 l1 true) else (valiselaw09_InflateCodes.j0 k l0 l1 (decide ((l1.length : Int) > 300)))) = some r := h
  clear h
  have HC3 := Ak H
  clear H
  go_enter Tryd.func6, Tryd.ntmps6
  go_upto_region 1 with (fail)
  go_cut [26] (fun v26 wc => ∃ (kq : Nat) (x26_2 : Bool), v26 = .bool x26_2 ∧ Aside0 (valiselaw09_InflateCodes.j0 kq l0 l1 x26_2 = some r) ∧ Aside0 (kq ≤ k) ∧ Aside0 (Below w.heap.size w wc))
  case first =>
    have H := HC3.out
    clear HC3
    by_cases c4 : (l0.length : Int) > 256
    · rw [if_pos c4] at H
      have c4b0 : decide (256 < (l0.length : Int)) = true := decide_eq_true c4
      have c4b1 : decide (256 < l0.length) = true := decide_eq_true (by omega)
      clear c4
      (first | rw [c4b0] | (simp only [i64_w, i32_w, u8_w]; rw [c4b0]) | skip)
      have H' := Ak H
      clear H
      go_wp2
      go_meet
      case rel => exact ⟨_, (true), (by first | rfl | (simp; done) | (simp [*]; done)), H', ⟨by first | omega | exact Nat.le_refl _⟩, ⟨by repeat (first | (with_reducible first | exact HB.out | apply below_alloc | apply pw_below_drewN | apply below_drew1) | exact HB.out)⟩⟩
    rw [if_neg c4] at H
    have c4b0 : decide (256 < (l0.length : Int)) = false := decide_eq_false c4
    have c4b1 : decide (256 < l0.length) = false := decide_eq_false (by omega)
    clear c4
    (first | rw [c4b0] | (simp only [i64_w, i32_w, u8_w]; rw [c4b0]) | skip)
    have H' := Ak H
    clear H
    go_wp2
    go_meet
    case rel => exact ⟨_, (decide ((l1.length : Int) > 300)), (by first | rfl | (simp; done) | (simp [*]; done)), H', ⟨by first | omega | exact Nat.le_refl _⟩, ⟨by repeat (first | (with_reducible first | exact HB.out | apply below_alloc | apply pw_below_drewN | apply below_drew1) | exact HB.out)⟩⟩
  case rest =>
    clear HC3
    (try clear c1); (try clear p2); (try clear c4); (try clear c4b0); (try clear c4b1)
    obtain ⟨kq, x26_2, rfl, HA, HJ2, HB⟩ := hcut
    cases kq with
    | zero => exact absurd HA.out (by simp [valiselaw09_InflateCodes.j0])
    | succ kj2 => ?_
    have H := HA.out
    clear HA
    simp only [valiselaw09_InflateCodes.j0] at H
    by_cases c5 : x26_2 = true
    · subst c5
      have H1 : ((valiselaw09_lives.f).bind fun t166 => (some t166)) = some r := by rw [if_pos rfl] at H; exact H
      clear H
      have H := H1
      clear H1
      replace H := Option.bind_eq_some_iff.mp H
      obtain ⟨t166, A60, H⟩ := H
      replace H : (some t166) = some r := H
      have A6 := Ak A60
      clear A60
      obtain rfl := Option.some.inj H
      go_wp2_with (first | ((with_reducible refine gate_callee (f := 7) rfl ?_); refine goesL_ (some 27) rfl rfl Tryd.func7 (by kernel_rfl) rfl #[] rfl (by (try simp only [List.map_toArray, List.map_cons, List.map_nil]); first | done | rfl | (simp only [List.length_drop, List.length_take]; rfl)) ?_; (with_reducible refine (valiselaw09_lives.calls  t166 _ (Pr.Handle.on HGH.out bl_ (Pr.Handle.pos HGH.out)) A6.out).mono ?_); rintro e w7 ⟨rfl, hb⟩; refine ⟨_, rfl, ?_⟩; replace HB := Ak (below_step bl_ hb); (try clear hb); (try clear hb2); (try clear hk); (try clear hi)))
      go_ret
      exact ⟨by first | rfl | (simp [errW_none, errW_some] <;> rfl) | (simp [*, errW_none, errW_some] <;> rfl), by repeat (first | (with_reducible first | exact HB.out | apply below_alloc | apply pw_below_drewN | apply below_drew1) | exact HB.out)⟩
    replace c5 := Bool.eq_false_iff.mpr c5
    subst c5
    have H1 : (if 257 ≤ 35184372088832 then (valiselaw09_InflateCodes.l0 kj2 l0 l1 (List.replicate 257 0) 0) else (none)) = some r := by rw [if_neg (show ¬ (false = true) by decide)] at H; exact H
    clear H
    have H := H1
    clear H1
    by_cases c8 : 257 ≤ 35184372088832
    rotate_left
    · rw [if_neg c8] at H
      exact absurd H (by simp)
    rw [if_pos c8] at H
    have c8b0 := eq_true c8
    have c8b1 : decide (257 ≤ 35184372088832) = true := decide_eq_true c8
    clear c8
    obtain ⟨y167, hy167⟩ : ∃ y_ : List Int, y_ = (List.replicate 257 0) := ⟨_, rfl⟩
    replace H : (valiselaw09_InflateCodes.l0 kj2 l0 l1 y167 0) = some r := by first | (rw [hy167]; with_reducible exact H) | (have H2_ := (Option.bind_some _ _).symm.trans H; rw [hy167]; with_reducible exact H2_) | (have H2_ := (Option.bind_some _ _).symm.trans H; with_reducible exact H2_) | with_reducible exact H | (rw [hy167]; exact H) | exact H
    have Ny167 := Ak hy167
    clear hy167
    have H' := Ak H
    clear H
    go_wp2_with (first | ((with_reducible refine gate_dst (N := 28) rfl ?_); (try (refine gate_guard (by rfl) ?_; dsimp only)); refine Kd.R_make (Kd.int .i64) _ 3 rfl (N := 28) rfl 32 _ _ rfl 257 rfl rfl Tryd.underlying32 (.int .i64 0) 8 info3 rfl (by decide) (by omega) 0 (ok := fun _ => True) (okp := fun _ => True) rfl (fun _ hk => hk) trivial (by omega) (by omega) (Below.refl _ _) (Nat.le_refl _) ?_; intro v168 w9 ho10 hb hg_ hnew_; clear hg_ hnew_; (first | rw [← Ny167.out] at ho10 | (simp only [Int.reduceToNat] at ho10; rw [← Ny167.out] at ho10)); replace HO169 := Ak (Kd.R_lower ho10 (below_size bl_)); replace HB := Ak (below_step bl_ hb); clear hb ho10))
    go_loopg [6] kj2 (fun kq v6 w' => ∃ (x5_2 : List Int) (x6_2 : Int), v6 = .int .i64 x6_2 ∧ Aside0 (valiselaw09_InflateCodes.l0 kq l0 l1 x5_2 x6_2 = some r) ∧ Aside0 (kq ≤ kj2) ∧ Aside0 (Kd.R (Kd.int .i64) 3 w' w.heap.size (fun _ => True) v168 x5_2) ∧ Aside0 (Below w.heap.size w w'))
    case atStart => exact ⟨(y167), (0), (by first | rfl | (simp; done) | (simp [*]; done)), H', ⟨Nat.le_refl _⟩, ⟨by (with_reducible repeat (first | apply Kd.R_alloc | apply Kd.R_drewN | apply Kd.R_drew)); exact HO169.out⟩, ⟨by repeat (first | (with_reducible first | exact HB.out | apply below_alloc | apply pw_below_drewN | apply below_drew1) | exact HB.out)⟩⟩
    case round =>
      clear H'
      (try clear c1); (try clear p2); (try clear c4); (try clear c4b0); (try clear c4b1); (try clear c5); (try clear c6); (try clear c7); (try clear c8); (try clear c8b0); (try clear c8b1); (try clear p2)
      obtain ⟨x5_2, x6_2, rfl, HA, HK2, HO_5, HB⟩ := hrel
      cases gk with
      | zero => exact absurd HA.out (by simp [valiselaw09_InflateCodes.l0])
      | succ k2 => ?_
      have H := HA.out
      clear HA
      simp only [valiselaw09_InflateCodes.l0] at H
      by_cases c11 : x6_2 < (l0.length : Int)
      · rw [if_pos c11] at H
        have c11b0 : decide (x6_2 < (l0.length : Int)) = true := decide_eq_true c11
        clear c11
        have HC12 := Ak H
        clear H
        go_upto_region 7 with (fail)
        go_cut [46] (fun v46 wc => ∃ (kq : Nat) (x46_11 : Bool), v46 = .bool x46_11 ∧ Aside0 (valiselaw09_InflateCodes.j2 kq l0 l1 x5_2 x6_2 x46_11 = some r) ∧ Aside0 (kq ≤ k2) ∧ Aside0 (Kd.R (Kd.int .i64) 3 wc w.heap.size (fun _ => True) v168 x5_2) ∧ Aside0 (Below w.heap.size w wc))
        case first =>
          have H := HC12.out
          clear HC12
          by_cases c13 : 0 ≤ x6_2
          rotate_left
          · rw [if_neg c13] at H
            exact absurd H (by simp)
          rw [if_pos c13] at H
          have c13b0 : decide (0 ≤ x6_2) = true := decide_eq_true c13
          clear c13
          (first | rw [c13b0] | (simp only [i64_w, i32_w, u8_w]; rw [c13b0]) | skip)
          by_cases c14 : (rd l0 x6_2) < 0
          · rw [if_pos c14] at H
            have c14b0 : decide ((rd l0 x6_2) < 0) = true := decide_eq_true c14
            clear c14
            have H' := Ak H
            clear H
            have p170 : 0 ≤ (x6_2 : Int) := of_decide_eq_true (by first | (with_reducible assumption) | assumption)
            have q170 : x6_2 < (l0.length : Int) := of_decide_eq_true (by first | (with_reducible assumption) | assumption)
            obtain ⟨ad170, e170, hx170_0⟩ := Kd.at_int HR0.out x6_2 p170 q170
            cases e170
            replace hx170_0 := (HB.out.cell (World.block_lt_of_cell? w _ hx170_0)).trans hx170_0
            replace p170 := eq_true p170
            replace q170 := eq_true q170
            go_wp2
            go_meet
            case rel => exact ⟨_, (true), (by first | rfl | (simp; done) | (simp [*]; done)), H', ⟨by have := HJ2.out; have := HK2.out; first | omega | exact Nat.le_refl _⟩, ⟨by (with_reducible repeat (first | apply Kd.R_alloc | apply Kd.R_drewN | apply Kd.R_drew)); exact HO_5.out⟩, ⟨by repeat (first | (with_reducible first | exact HB.out | apply below_alloc | apply pw_below_drewN | apply below_drew1) | exact HB.out)⟩⟩
          rw [if_neg c14] at H
          have c14b0 : decide ((rd l0 x6_2) < 0) = false := decide_eq_false c14
          clear c14
          have H' := Ak H
          clear H
          have p170 : 0 ≤ (x6_2 : Int) := of_decide_eq_true (by first | (with_reducible assumption) | assumption)
          have q170 : x6_2 < (l0.length : Int) := of_decide_eq_true (by first | (with_reducible assumption) | assumption)
          obtain ⟨ad170, e170, hx170_0⟩ := Kd.at_int HR0.out x6_2 p170 q170
          cases e170
          replace hx170_0 := (HB.out.cell (World.block_lt_of_cell? w _ hx170_0)).trans hx170_0
          replace p170 := eq_true p170
          replace q170 := eq_true q170
          have p171 : 0 ≤ (x6_2 : Int) := of_decide_eq_true (by first | (with_reducible assumption) | assumption)
          have q171 : x6_2 < (l0.length : Int) := of_decide_eq_true (by first | (with_reducible assumption) | assumption)
          obtain ⟨ad171, e171, hx171_0⟩ := Kd.at_int HR0.out x6_2 p171 q171
          obtain rfl : ad170 = ad171 := (by injection e171)
          replace hx171_0 := (HB.out.cell (World.block_lt_of_cell? w _ hx171_0)).trans hx171_0
          replace p171 := eq_true p171
          replace q171 := eq_true q171
          go_wp2
          go_meet
          case rel => exact ⟨_, (decide ((rd l0 x6_2) > 14)), (by first | rfl | (simp; done) | (simp [*]; done)), H', ⟨by have := HJ2.out; have := HK2.out; first | omega | exact Nat.le_refl _⟩, ⟨by (with_reducible repeat (first | apply Kd.R_alloc | apply Kd.R_drewN | apply Kd.R_drew)); exact HO_5.out⟩, ⟨by repeat (first | (with_reducible first | exact HB.out | apply below_alloc | apply pw_below_drewN | apply below_drew1) | exact HB.out)⟩⟩
        case rest =>
          clear HC12
          (try clear c1); (try clear p1); (try clear q1); (try clear hx1); (try clear p2); (try clear c4); (try clear c4b0); (try clear c4b1); (try clear c5); (try clear c6); (try clear c7); (try clear c8); (try clear c8b0); (try clear c8b1); (try clear c11); (try clear c11b0); (try clear c13); (try clear c13b0); (try clear c14); (try clear c14b0); (try clear hx170_0); (try clear hx171_0); (try clear p170); (try clear p171); (try clear p2); (try clear q170); (try clear q171)
          obtain ⟨kq, x46_11, rfl, HA, HJ11, HO_5, HB⟩ := hcut
          cases kq with
          | zero => exact absurd HA.out (by simp [valiselaw09_InflateCodes.j2])
          | succ kj11 => ?_
          have H := HA.out
          clear HA
          simp only [valiselaw09_InflateCodes.j2] at H
          by_cases c15 : x46_11 = true
          · subst c15
            have H1 : ((valiselaw09_lives.f).bind fun t172 => (some t172)) = some r := by rw [if_pos rfl] at H; exact H
            clear H
            have H := H1
            clear H1
            replace H := Option.bind_eq_some_iff.mp H
            obtain ⟨t172, A160, H⟩ := H
            replace H : (some t172) = some r := H
            have A16 := Ak A160
            clear A160
            obtain rfl := Option.some.inj H
            go_wp2_with (first | ((with_reducible refine gate_callee (f := 7) rfl ?_); refine goesL_ (some 47) rfl rfl Tryd.func7 (by kernel_rfl) rfl #[] rfl (by (try simp only [List.map_toArray, List.map_cons, List.map_nil]); first | done | rfl | (simp only [List.length_drop, List.length_take]; rfl)) ?_; (with_reducible refine (valiselaw09_lives.calls  t172 _ (Pr.Handle.on HGH.out bl_ (Pr.Handle.pos HGH.out)) A16.out).mono ?_); rintro e w17 ⟨rfl, hb⟩; refine ⟨_, rfl, ?_⟩; replace HO_5 := Ak (Kd.R_below (by (with_reducible repeat (first | apply Kd.R_alloc | apply Kd.R_drewN | apply Kd.R_drew)); exact HO_5.out) hb); replace HB := Ak (below_step bl_ hb); (try clear hb); (try clear hb2); (try clear hk); (try clear hi)))
            go_ret
            exact ⟨by first | rfl | (simp [errW_none, errW_some] <;> rfl) | (simp [*, errW_none, errW_some] <;> rfl), by repeat (first | (with_reducible first | exact HB.out | apply below_alloc | apply pw_below_drewN | apply below_drew1) | exact HB.out)⟩
          replace c15 := Bool.eq_false_iff.mpr c15
          subst c15
          have H1 : (if 0 ≤ x6_2 then (if x6_2 < (l0.length : Int) then (if (rd l0 x6_2) > 0 then (if x6_2 < (x5_2.length : Int) then (valiselaw09_InflateCodes.l0 kj11 l0 l1 (x5_2.set (x6_2 : Int).toNat (wrap64 ((rd l0 x6_2) + 1))) (wrap64 (x6_2 + 1))) else (none)) else (valiselaw09_InflateCodes.l0 kj11 l0 l1 x5_2 (wrap64 (x6_2 + 1)))) else (none)) else (none)) = some r := by rw [if_neg (show ¬ (false = true) by decide)] at H; exact H
          clear H
          have H := H1
          clear H1
          by_cases c18 : 0 ≤ x6_2
          rotate_left
          · rw [if_neg c18] at H
            exact absurd H (by simp)
          rw [if_pos c18] at H
          have c18b0 : decide (0 ≤ x6_2) = true := decide_eq_true c18
          clear c18
          by_cases c19 : x6_2 < (l0.length : Int)
          rotate_left
          · rw [if_neg c19] at H
            exact absurd H (by simp)
          rw [if_pos c19] at H
          have c19b0 : decide (x6_2 < (l0.length : Int)) = true := decide_eq_true c19
          clear c19
          by_cases c20 : (rd l0 x6_2) > 0
          rotate_left
          · rw [if_neg c20] at H
            have c20b0 : decide (0 < (rd l0 x6_2)) = false := decide_eq_false c20
            clear c20
            have H' := Ak H
            clear H
            have p173 : 0 ≤ (x6_2 : Int) := of_decide_eq_true (by first | (with_reducible assumption) | assumption)
            have q173 : x6_2 < (l0.length : Int) := of_decide_eq_true (by first | (with_reducible assumption) | assumption)
            obtain ⟨ad173, e173, hx173_0⟩ := Kd.at_int HR0.out x6_2 p173 q173
            cases e173
            replace hx173_0 := (HB.out.cell (World.block_lt_of_cell? w _ hx173_0)).trans hx173_0
            replace p173 := eq_true p173
            replace q173 := eq_true q173
            go_wp2
            go_roundg kj11
            case measure => have := HJ2.out; have := HK2.out; have := HJ11.out; omega
            case rel => exact ⟨(x5_2), (wrap64 (x6_2 + 1)), (by first | rfl | (simp; done) | (simp [*]; done)), H', ⟨by have := HJ2.out; have := HK2.out; have := HJ11.out; omega⟩, ⟨by (with_reducible repeat (first | apply Kd.R_alloc | apply Kd.R_drewN | apply Kd.R_drew)); exact HO_5.out⟩, ⟨by repeat (first | (with_reducible first | exact HB.out | apply below_alloc | apply pw_below_drewN | apply below_drew1) | exact HB.out)⟩⟩
          rw [if_pos c20] at H
          have c20b0 : decide (0 < (rd l0 x6_2)) = true := decide_eq_true c20
          clear c20
          by_cases c21 : x6_2 < (x5_2.length : Int)
          rotate_left
          · rw [if_neg c21] at H
            exact absurd H (by simp)
          rw [if_pos c21] at H
          have c21b0 : decide (x6_2 < (x5_2.length : Int)) = true := decide_eq_true c21
          clear c21
          obtain ⟨y175, hy175⟩ : ∃ y_ : List Int, y_ = (x5_2.set (x6_2 : Int).toNat (wrap64 ((rd l0 x6_2) + 1))) := ⟨_, rfl⟩
          replace H : (valiselaw09_InflateCodes.l0 kj11 l0 l1 y175 (wrap64 (x6_2 + 1))) = some r := by first | (rw [hy175]; with_reducible exact H) | (have H2_ := (Option.bind_some _ _).symm.trans H; rw [hy175]; with_reducible exact H2_) | (have H2_ := (Option.bind_some _ _).symm.trans H; with_reducible exact H2_) | with_reducible exact H | (rw [hy175]; exact H) | exact H
          have Ny175 := Ak hy175
          clear hy175
          have H' := Ak H
          clear H
          have p173 : 0 ≤ (x6_2 : Int) := of_decide_eq_true (by first | (with_reducible assumption) | assumption)
          have q173 : x6_2 < (l0.length : Int) := of_decide_eq_true (by first | (with_reducible assumption) | assumption)
          obtain ⟨ad173, e173, hx173_0⟩ := Kd.at_int HR0.out x6_2 p173 q173
          cases e173
          replace hx173_0 := (HB.out.cell (World.block_lt_of_cell? w _ hx173_0)).trans hx173_0
          replace p173 := eq_true p173
          replace q173 := eq_true q173
          have p174 : 0 ≤ (x6_2 : Int) := of_decide_eq_true (by first | (with_reducible assumption) | assumption)
          have q174 : x6_2 < (l0.length : Int) := of_decide_eq_true (by first | (with_reducible assumption) | assumption)
          obtain ⟨ad174, e174, hx174_0⟩ := Kd.at_int HR0.out x6_2 p174 q174
          obtain rfl : ad173 = ad174 := (by injection e174)
          replace hx174_0 := (HB.out.cell (World.block_lt_of_cell? w _ hx174_0)).trans hx174_0
          replace p174 := eq_true p174
          replace q174 := eq_true q174
          have p22 : 0 ≤ (x6_2 : Int) := of_decide_eq_true (by first | (with_reducible assumption) | assumption)
          have q22 : (x6_2 : Int) < ((x5_2.length : Int) : Int) := of_decide_eq_true (by first | (with_reducible assumption) | assumption)
          obtain ⟨go22, co22, eo22, gb22, gl22, cl22, HG22⟩ := Kd.R_form HO_5.out (by omega)
          (first | cases eo22 | (injection eo22 with ea_ en_ ec_; (first | subst ea_ | (injection ea_ with ea_; subst ea_)); subst ec_; clear en_))
          have GB22 := Ak gb22
          have GG22 := Ak HG22
          clear gb22 gl22 HG22
          obtain ⟨hx22_0, hf22_0⟩ := Kd.R_celln 0 HO_5.out (x6_2 : Int) p22 q22
          replace p22 := eq_true p22
          replace q22 := eq_true q22
          have HP23 := Kd.R_putg HO_5.out (x6_2 : Int) (wrap64 ((rd l0 x6_2) + 1))
          go_wp2_with (first | ((with_reducible refine gate_store (t := 3) (p := 60) rfl ?_); refine store_event (t := 3) (p := 60) (v := ?vo_w24) (w1 := (wc.setCell ⟨go22, (x6_2 : Int).toNat, none⟩ (.int .i64 (wrap64 ((rd l0 x6_2) + 1))))) ?hg ?ho ?hn ?hr ?_; (case ho => rfl); (case hg => rfl); (case hn => rfl); (case hr => first | (go_simp; done) | (go_simp; rfl)); intro w24 hw; have hg : wc.grownBy w24 (some go22) := (by rw [hw]; exact HP23.2); have hp_ : Kd.R (Kd.int .i64) 3 w24 w.heap.size (fun _ => True) (.slice (some ⟨go22, 0, none⟩) x5_2.length co22) y175 := (by rw [hw, Ny175.out]; exact HP23.1); clear HP23; replace HO_5 := Ak (hp_); replace HB := Ak ((by rw [hw]; exact below_set (HB.out) GB22.out : Below w.heap.size w w24)); clear hg hw hp_))
          go_roundg kj11
          case measure => have := HJ2.out; have := HK2.out; have := HJ11.out; omega
          case rel => exact ⟨(y175), (wrap64 (x6_2 + 1)), (by first | rfl | (simp; done) | (simp [*]; done)), H', ⟨by have := HJ2.out; have := HK2.out; have := HJ11.out; omega⟩, ⟨by (with_reducible repeat (first | apply Kd.R_alloc | apply Kd.R_drewN | apply Kd.R_drew)); exact HO_5.out⟩, ⟨by repeat (first | (with_reducible first | exact HB.out | apply below_alloc | apply pw_below_drewN | apply below_drew1) | exact HB.out)⟩⟩
      rw [if_neg c11] at H
      have c11b0 : decide (x6_2 < (l0.length : Int)) = false := decide_eq_false c11
      clear c11
      by_cases c25 : 256 < (x5_2.length : Int)
      rotate_left
      · rw [if_neg c25] at H
        exact absurd H (by simp)
      rw [if_pos c25] at H
      have c25b0 : decide (256 < (x5_2.length : Int)) = true := decide_eq_true c25
      have c25b1 : decide (256 < x5_2.length) = true := decide_eq_true (by omega)
      clear c25
      obtain ⟨y176, hy176⟩ : ∃ y_ : List Int, y_ = (x5_2.set (256 : Int).toNat 1) := ⟨_, rfl⟩
      replace H : ((valiseref04_Check.f k2 y176).bind fun t177 => (if t177 = 0 then ((valiselaw09_laid.f k2 ([] : List Int) 0 1 1).bind fun bt180 => ((valiselaw09_laid.f k2 bt180.1 bt180.2 2 2).bind fun bt184 => ((valiselaw09_laid.f k2 bt184.1 bt184.2 0 10).bind fun bt188 => ((valiselaw09_laid.f k2 bt188.1 bt188.2 15 4).bind fun bt192 => (if 19 ≤ 35184372088832 then (valiselaw09_InflateCodes.l1 k2 l1 y176 (([16, 17, 18, 0, 8, 7, 9, 6, 10, 5, 11, 4, 12, 3, 13, 2, 14, 1, 15] : List Int)) (List.replicate 19 0) 0 bt192.1 bt192.2) else (none)))))) else ((valiselaw09_lives.f).bind fun t178 => (some t178)))) = some r := by first | (rw [hy176]; with_reducible exact H) | (have H2_ := (Option.bind_some _ _).symm.trans H; rw [hy176]; with_reducible exact H2_) | (have H2_ := (Option.bind_some _ _).symm.trans H; with_reducible exact H2_) | with_reducible exact H | (rw [hy176]; exact H) | exact H
      have Ny176 := Ak hy176
      clear hy176
      replace H := Option.bind_eq_some_iff.mp H
      obtain ⟨t177, A270, H⟩ := H
      replace H : (if t177 = 0 then ((valiselaw09_laid.f k2 ([] : List Int) 0 1 1).bind fun bt180 => ((valiselaw09_laid.f k2 bt180.1 bt180.2 2 2).bind fun bt184 => ((valiselaw09_laid.f k2 bt184.1 bt184.2 0 10).bind fun bt188 => ((valiselaw09_laid.f k2 bt188.1 bt188.2 15 4).bind fun bt192 => (if 19 ≤ 35184372088832 then (valiselaw09_InflateCodes.l1 k2 l1 y176 (([16, 17, 18, 0, 8, 7, 9, 6, 10, 5, 11, 4, 12, 3, 13, 2, 14, 1, 15] : List Int)) (List.replicate 19 0) 0 bt192.1 bt192.2) else (none)))))) else ((valiselaw09_lives.f).bind fun t178 => (some t178))) = some r := H
      have A27 := Ak A270
      clear A270
      by_cases c28 : t177 = 0
      rotate_left
      · rw [if_neg c28] at H
        have c28b0 : (t177 == 0) = false := beq_eq_false_iff_ne.mpr c28
        have c28b1 : (t177 != 0) = true := bne_iff_ne.mpr c28
        replace H := Option.bind_eq_some_iff.mp H
        obtain ⟨t178, A1530, H⟩ := H
        replace H : (some t178) = some r := H
        have A153 := Ak A1530
        clear A1530
        obtain rfl := Option.some.inj H
        have p26 : 0 ≤ (256 : Int) := (by omega)
        have q26 : (256 : Int) < ((x5_2.length : Int) : Int) := of_decide_eq_true (by first | (with_reducible assumption) | assumption)
        have qi26 : (256 < x5_2.length) = True := eq_true (by omega)
        obtain ⟨go26, co26, eo26, gb26, gl26, cl26, HG26⟩ := Kd.R_form HO_5.out (by omega)
        (first | cases eo26 | (injection eo26 with ea_ en_ ec_; (first | subst ea_ | (injection ea_ with ea_; subst ea_)); subst ec_; clear en_))
        have GB26 := Ak gb26
        have GG26 := Ak HG26
        clear gb26 gl26 HG26
        obtain ⟨hx26_0, hf26_0⟩ := Kd.R_celln 0 HO_5.out (256 : Int) p26 q26
        (try rw [show ((256 : Int)).toNat = 256 from rfl] at hx26_0)
        (try simp only [Nat.reduceMul, Nat.zero_mul, Nat.zero_add, Nat.reduceAdd] at hx26_0)
        (try rw [show ((256 : Int)).toNat = 256 from rfl] at hf26_0)
        (try simp only [Nat.reduceMul, Nat.zero_mul, Nat.zero_add, Nat.reduceAdd] at hf26_0)
        replace p26 := eq_true p26
        replace q26 := eq_true q26
        have HP154 := Kd.R_putg HO_5.out (256 : Int) 1
        go_wp2_with (first | ((with_reducible refine gate_store (t := 3) (p := 62) rfl ?_); refine store_event (t := 3) (p := 62) (v := ?vo_w155) (w1 := (wr.setCell ⟨go26, (256 : Int).toNat, none⟩ (.int .i64 1))) ?hg ?ho ?hn ?hr ?_; (case ho => rfl); (case hg => rfl); (case hn => rfl); (case hr => first | (go_simp; done) | (go_simp; rfl)); intro w155 hw; have hg : wr.grownBy w155 (some go26) := (by rw [hw]; exact HP154.2); have hp_ : Kd.R (Kd.int .i64) 3 w155 w.heap.size (fun _ => True) (.slice (some ⟨go26, 0, none⟩) x5_2.length co26) y176 := (by rw [hw, Ny176.out]; exact HP154.1); clear HP154; replace HO_5 := Ak (hp_); replace HB := Ak ((by rw [hw]; exact below_set (HB.out) GB26.out : Below w.heap.size w w155)); clear hg hw hp_) | ((with_reducible refine gate_callee (f := 9) rfl ?_); refine goesL_ (some 64) rfl rfl Tryd.func9 (by kernel_rfl) rfl #[.slice (some ⟨go26, 0, none⟩) y176.length co26] rfl (by (try simp only [List.map_toArray, List.map_cons, List.map_nil]); first | done | (rw [show y176.length = x5_2.length from (Kd.R_reads' HO_5.out).1.symm] <;> rfl) | rfl | (simp only [List.length_drop, List.length_take]; rfl)) ?_; (with_reducible refine (valiseref04_Check.calls k2 _ _ y176 t177 _ ?side1 ?side2 A27.out).mono ?_); (case side1 => repeat (first | exact (Kd.R_reads' HO_5.out).2.2 | (with_reducible refine Kd.C_alloc ?_ _) | (with_reducible refine Kd.C_drewN ?_ _) | (with_reducible refine Kd.C_drew ?_))); (case side2 => rw [show y176.length = x5_2.length from (Kd.R_reads' HO_5.out).1.symm]; exact (Kd.R_reads' HO_5.out).2.1); rintro e w' ⟨rfl, ⟨nd, rfl⟩⟩; refine ⟨_, rfl, ?_⟩) | ((with_reducible refine gate_callee (f := 7) rfl ?_); refine goesL_ (some 66) rfl rfl Tryd.func7 (by kernel_rfl) rfl #[] rfl (by (try simp only [List.map_toArray, List.map_cons, List.map_nil]); first | done | rfl | (simp only [List.length_drop, List.length_take]; rfl)) ?_; (with_reducible refine (valiselaw09_lives.calls  t178 _ (Pr.Handle.on HGH.out bl_ (Pr.Handle.pos HGH.out)) A153.out).mono ?_); rintro e w156 ⟨rfl, hb⟩; refine ⟨_, rfl, ?_⟩; replace HO_5 := Ak (Kd.R_below (by (with_reducible repeat (first | apply Kd.R_alloc | apply Kd.R_drewN | apply Kd.R_drew)); exact HO_5.out) hb); replace HB := Ak (below_step bl_ hb); (try clear hb); (try clear hb2); (try clear hk); (try clear hi)))
        go_ret
        exact ⟨by first | rfl | (simp [errW_none, errW_some] <;> rfl) | (simp [*, errW_none, errW_some] <;> rfl), by repeat (first | (with_reducible first | exact HB.out | apply below_alloc | apply pw_below_drewN | apply below_drew1) | exact HB.out)⟩
      rw [if_pos c28] at H
      have c28b0 : (t177 == 0) = true := beq_iff_eq.mpr c28
      have c28b1 : (t177 != 0) = false := bne_eq_false_iff_eq.mpr c28
      clear c28
      replace H := Option.bind_eq_some_iff.mp H
      obtain ⟨⟨t180, t183⟩, A290, H⟩ := H
      replace H : ((valiselaw09_laid.f k2 t180 t183 2 2).bind fun bt184 => ((valiselaw09_laid.f k2 bt184.1 bt184.2 0 10).bind fun bt188 => ((valiselaw09_laid.f k2 bt188.1 bt188.2 15 4).bind fun bt192 => (if 19 ≤ 35184372088832 then (valiselaw09_InflateCodes.l1 k2 l1 y176 (([16, 17, 18, 0, 8, 7, 9, 6, 10, 5, 11, 4, 12, 3, 13, 2, 14, 1, 15] : List Int)) (List.replicate 19 0) 0 bt192.1 bt192.2) else (none))))) = some r := H
      have A29 := Ak A290
      clear A290
      replace H := Option.bind_eq_some_iff.mp H
      obtain ⟨⟨t184, t187⟩, A300, H⟩ := H
      replace H : ((valiselaw09_laid.f k2 t184 t187 0 10).bind fun bt188 => ((valiselaw09_laid.f k2 bt188.1 bt188.2 15 4).bind fun bt192 => (if 19 ≤ 35184372088832 then (valiselaw09_InflateCodes.l1 k2 l1 y176 (([16, 17, 18, 0, 8, 7, 9, 6, 10, 5, 11, 4, 12, 3, 13, 2, 14, 1, 15] : List Int)) (List.replicate 19 0) 0 bt192.1 bt192.2) else (none)))) = some r := H
      have A30 := Ak A300
      clear A300
      replace H := Option.bind_eq_some_iff.mp H
      obtain ⟨⟨t188, t191⟩, A310, H⟩ := H
      replace H : ((valiselaw09_laid.f k2 t188 t191 15 4).bind fun bt192 => (if 19 ≤ 35184372088832 then (valiselaw09_InflateCodes.l1 k2 l1 y176 (([16, 17, 18, 0, 8, 7, 9, 6, 10, 5, 11, 4, 12, 3, 13, 2, 14, 1, 15] : List Int)) (List.replicate 19 0) 0 bt192.1 bt192.2) else (none))) = some r := H
      have A31 := Ak A310
      clear A310
      replace H := Option.bind_eq_some_iff.mp H
      obtain ⟨⟨t192, t195⟩, A320, H⟩ := H
      replace H : (if 19 ≤ 35184372088832 then (valiselaw09_InflateCodes.l1 k2 l1 y176 (([16, 17, 18, 0, 8, 7, 9, 6, 10, 5, 11, 4, 12, 3, 13, 2, 14, 1, 15] : List Int)) (List.replicate 19 0) 0 t192 t195) else (none)) = some r := H
      have A32 := Ak A320
      clear A320
      obtain ⟨y196, hy196⟩ : ∃ y_ : List Int, y_ = (([16, 17, 18, 0, 8, 7, 9, 6, 10, 5, 11, 4, 12, 3, 13, 2, 14, 1, 15] : List Int)) := ⟨_, rfl⟩
      replace H : (if 19 ≤ 35184372088832 then (valiselaw09_InflateCodes.l1 k2 l1 y176 y196 (List.replicate 19 0) 0 t192 t195) else (none)) = some r := by first | (rw [hy196]; with_reducible exact H) | (have H2_ := (Option.bind_some _ _).symm.trans H; rw [hy196]; with_reducible exact H2_) | (have H2_ := (Option.bind_some _ _).symm.trans H; with_reducible exact H2_) | with_reducible exact H | (rw [hy196]; exact H) | exact H
      have Ny196 := Ak hy196
      clear hy196
      by_cases c33 : 19 ≤ 35184372088832
      rotate_left
      · rw [if_neg c33] at H
        exact absurd H (by simp)
      rw [if_pos c33] at H
      have c33b0 := eq_true c33
      have c33b1 : decide (19 ≤ 35184372088832) = true := decide_eq_true c33
      clear c33
      obtain ⟨y199, hy199⟩ : ∃ y_ : List Int, y_ = (List.replicate 19 0) := ⟨_, rfl⟩
      replace H : (valiselaw09_InflateCodes.l1 k2 l1 y176 y196 y199 0 t192 t195) = some r := by first | (rw [hy199]; with_reducible exact H) | (have H2_ := (Option.bind_some _ _).symm.trans H; rw [hy199]; with_reducible exact H2_) | (have H2_ := (Option.bind_some _ _).symm.trans H; with_reducible exact H2_) | with_reducible exact H | (rw [hy199]; exact H) | exact H
      have Ny199 := Ak hy199
      clear hy199
      have H' := Ak H
      clear H
      have p26 : 0 ≤ (256 : Int) := (by omega)
      have q26 : (256 : Int) < ((x5_2.length : Int) : Int) := of_decide_eq_true (by first | (with_reducible assumption) | assumption)
      have qi26 : (256 < x5_2.length) = True := eq_true (by omega)
      obtain ⟨go26, co26, eo26, gb26, gl26, cl26, HG26⟩ := Kd.R_form HO_5.out (by omega)
      (first | cases eo26 | (injection eo26 with ea_ en_ ec_; (first | subst ea_ | (injection ea_ with ea_; subst ea_)); subst ec_; clear en_))
      have GB26 := Ak gb26
      have GG26 := Ak HG26
      clear gb26 gl26 HG26
      obtain ⟨hx26_0, hf26_0⟩ := Kd.R_celln 0 HO_5.out (256 : Int) p26 q26
      (try rw [show ((256 : Int)).toNat = 256 from rfl] at hx26_0)
      (try simp only [Nat.reduceMul, Nat.zero_mul, Nat.zero_add, Nat.reduceAdd] at hx26_0)
      (try rw [show ((256 : Int)).toNat = 256 from rfl] at hf26_0)
      (try simp only [Nat.reduceMul, Nat.zero_mul, Nat.zero_add, Nat.reduceAdd] at hf26_0)
      replace p26 := eq_true p26
      replace q26 := eq_true q26
      have HP34 := Kd.R_putg HO_5.out (256 : Int) 1
      go_wp2_with (first | ((with_reducible refine gate_store (t := 3) (p := 62) rfl ?_); refine store_event (t := 3) (p := 62) (v := ?vo_w35) (w1 := (wr.setCell ⟨go26, (256 : Int).toNat, none⟩ (.int .i64 1))) ?hg ?ho ?hn ?hr ?_; (case ho => rfl); (case hg => rfl); (case hn => rfl); (case hr => first | (go_simp; done) | (go_simp; rfl)); intro w35 hw; have hg : wr.grownBy w35 (some go26) := (by rw [hw]; exact HP34.2); have hp_ : Kd.R (Kd.int .i64) 3 w35 w.heap.size (fun _ => True) (.slice (some ⟨go26, 0, none⟩) x5_2.length co26) y176 := (by rw [hw, Ny176.out]; exact HP34.1); clear HP34; replace HO_5 := Ak (hp_); replace HB := Ak ((by rw [hw]; exact below_set (HB.out) GB26.out : Below w.heap.size w w35)); clear hg hw hp_) | ((with_reducible refine gate_callee (f := 9) rfl ?_); refine goesL_ (some 64) rfl rfl Tryd.func9 (by kernel_rfl) rfl #[.slice (some ⟨go26, 0, none⟩) y176.length co26] rfl (by (try simp only [List.map_toArray, List.map_cons, List.map_nil]); first | done | (rw [show y176.length = x5_2.length from (Kd.R_reads' HO_5.out).1.symm] <;> rfl) | rfl | (simp only [List.length_drop, List.length_take]; rfl)) ?_; (with_reducible refine (valiseref04_Check.calls k2 _ _ y176 t177 _ ?side1 ?side2 A27.out).mono ?_); (case side1 => repeat (first | exact (Kd.R_reads' HO_5.out).2.2 | (with_reducible refine Kd.C_alloc ?_ _) | (with_reducible refine Kd.C_drewN ?_ _) | (with_reducible refine Kd.C_drew ?_))); (case side2 => rw [show y176.length = x5_2.length from (Kd.R_reads' HO_5.out).1.symm]; exact (Kd.R_reads' HO_5.out).2.1); rintro e w' ⟨rfl, ⟨nd, rfl⟩⟩; refine ⟨_, rfl, ?_⟩; (try (rw [drewN_self w35]; generalize hq_ : World.drewN w35 _ = w35; have n0_ : Aside0 (Kd.R (Kd.int .i64) 3 w35 w.heap.size (fun _ => True) (.slice (some ⟨go26, 0, none⟩) x5_2.length co26) y176) := ⟨by rw [← hq_]; exact (by (with_reducible repeat (first | apply Kd.R_alloc | apply Kd.R_drewN | apply Kd.R_drew)); exact HO_5.out)⟩; have n1_ : Aside0 (Below w.heap.size w w35) := ⟨by rw [← hq_]; exact bl_⟩; clear HO_5 HB hq_; have HO_5 := n0_; have HB := n1_; clear n0_ n1_))) | ((with_reducible refine gate_dst (N := 7) rfl ?_); (try (refine gate_guard (by rfl) ?_; dsimp only)); refine box_event ?hg (N := 7) ?hd (cs := #[.slice none 0 0, .int .i64 0]) (t := 35) ?hr ?_; (case hd => rfl); (case hg => rfl); (case hr => first | (go_simp; done) | (go_simp; rfl)); intro gb179 hg w36 hbox hb; replace HO_5 := Ak (Kd.R_below (by (with_reducible repeat (first | apply Kd.R_alloc | apply Kd.R_drewN | apply Kd.R_drew)); exact HO_5.out) hb); replace BK179 := Ak (hbox); replace GW179 := Ak ((by rw [hg]; exact (below_size bl_) : w.heap.size ≤ gb179)); replace GE179 := Ak ((by rw [hg]; exact (below_size bl_) : w.heap.size ≤ gb179)); replace HB := Ak (below_step bl_ hb); clear hb hbox hg; have hcz37_0 : w36.cell? ⟨gb179, 0, none⟩ = some (.slice none 0 0) := (blk_cell BK179.out 0).trans rfl; have hcz37_1 : w36.cell? ⟨gb179, 1, none⟩ = some (.int .i64 0) := (blk_cell BK179.out 1).trans rfl; have hfz37_0 := blk_frozen BK179.out 0; have hfz37_1 := blk_frozen BK179.out 1) | ((with_reducible refine gate_store (t := 35) (p := 7) rfl ?_); refine store_event (t := 35) (p := 7) (v := ?vo_w38) (w1 := ((w36.setCell ⟨gb179, 0, none⟩ (.slice none 0 0)).setCell ⟨gb179, 1, none⟩ (.int .i64 0))) ?hg ?ho ?hn ?hr ?_; (case ho => rfl); (case hg => rfl); (case hn => rfl); (case hr => first | (go_simp; done) | (go_simp; rfl)); intro w38 hw; have n0_ : Aside0 (Kd.R (Kd.int .i64) 3 w38 w.heap.size (fun _ => True) (.slice (some ⟨go26, 0, none⟩) x5_2.length co26) y176) := ⟨(by rw [hw]; exact (by (with_reducible repeat (first | apply Kd.R_alloc | apply Kd.R_drewN | apply Kd.R_drew)); exact Kd.R_mono (Kd.R_far (p := ⟨gb179, 1, none⟩) (Kd.R_far (p := ⟨gb179, 0, none⟩) (Kd.R_types HO_5.out BK179.out (by decide)) (fun _ hk => hk.2) (.slice none 0 0)) (fun _ hk => hk.2) (.int .i64 0)) (fun _ hk => trivial)))⟩; have n1_ : Aside0 (w38.heap[gb179]? = some (.cells #[.slice none 0 0, .int .i64 0] 35 (0, 0))) := ⟨(by rw [hw]; exact (by (with_reducible repeat (first | refine blk_drewN ?_ _ | refine blk_drew ?_ | refine blk_alloc ?_ _)); refine blk_put (cs := #[.slice none 0 0, .int .i64 0]) ?_ 1 _ rfl; (with_reducible repeat (first | refine blk_drewN ?_ _ | refine blk_drew ?_ | refine blk_alloc ?_ _)); refine blk_put (cs := #[.slice none 0 0, .int .i64 0]) ?_ 0 _ rfl; (with_reducible repeat (first | refine blk_drewN ?_ _ | refine blk_drew ?_ | refine blk_alloc ?_ _)); exact BK179.out))⟩; have n2_ : Aside0 (Below w.heap.size w w38) := ⟨(by rw [hw]; exact (by repeat (first | (with_reducible first | exact HB.out | apply below_alloc | apply pw_below_drewN | apply below_drew1 | refine below_set ?_ GE179.out) | exact HB.out)))⟩; clear hw; clear HO_5; clear BK179; clear HB; have HO_5 := n0_; have BK179 := n1_; have HB := n2_; clear n0_ n1_ n2_; have hcz39_0 : w38.cell? ⟨gb179, 0, none⟩ = some (.slice none 0 0) := (blk_cell BK179.out 0).trans rfl; have hcz39_1 : w38.cell? ⟨gb179, 1, none⟩ = some (.int .i64 0) := (blk_cell BK179.out 1).trans rfl; have hfz39_0 := blk_frozen BK179.out 0; have hfz39_1 := blk_frozen BK179.out 1) | ((with_reducible refine gate_callee (f := 10) rfl ?_); refine goesL_ (some 69) rfl rfl Tryd.func10 (by kernel_rfl) rfl #[.agg #[.slice none 0 0, .int .i64 0], .int .i64 1, .int .i64 1] rfl (by (try simp only [List.map_toArray, List.map_cons, List.map_nil]); first | done | rfl | (simp only [List.length_drop, List.length_take]; rfl)) ?_; (refine (valiselaw09_laid.calls k2 (fun k_ => some k_ = (.slice none 0 0 : Value).ownBlock) (.slice none 0 0) ([] : List Int) 0 1 1 t180 t183 w _ ?side1 ?side2 A29.out).mono ?_); (case side1 => repeat (first | (with_reducible first | exact HB.out | apply below_alloc | apply pw_below_drewN | apply below_drew1 | refine below_set ?_ GE179.out) | exact HB.out)); (case side2 => exact Kd.R_nil _ _ _ _ _); rintro e w40 ⟨v181, rfl, ho0, hb, hkp⟩; refine ⟨_, rfl, ?_⟩; replace HO_5 := Ak (Kd.R_mono (ok' := fun k_ => True) (Kd.R_keptB (HO_5.out) hkp (fun k_ hk_ hs_ => (fun e_ => by simp [Value.ownBlock] at e_) hs_)) (fun k_ hk_ => trivial)); replace BK179 := Ak (blk_kept (by (with_reducible repeat (first | refine blk_drewN ?_ _ | refine blk_drew ?_ | refine blk_alloc ?_ _)); exact BK179.out) hkp (fun hs_ => (fun e_ => by simp [Value.ownBlock] at e_) hs_)); replace HO182 := Ak (Kd.R_mono (ok' := fun k_ => True) ho0 (fun k_ hk_ => trivial)); replace HB := Ak (hb); (try clear hb); (try clear hkp); (try clear ho0); obtain ⟨Ao41, co41, eo41⟩ := Kd.R_slice HO182.out; subst eo41; have hcz42_0 : w40.cell? ⟨gb179, 0, none⟩ = some (.slice none 0 0) := (blk_cell BK179.out 0).trans rfl; have hcz42_1 : w40.cell? ⟨gb179, 1, none⟩ = some (.int .i64 0) := (blk_cell BK179.out 1).trans rfl; have hfz42_0 := blk_frozen BK179.out 0; have hfz42_1 := blk_frozen BK179.out 1) | ((with_reducible refine gate_store (t := 35) (p := 7) rfl ?_); refine store_event (t := 35) (p := 7) (v := ?vo_w43) (w1 := ((w40.setCell ⟨gb179, 0, none⟩ (.slice Ao41 t180.length co41)).setCell ⟨gb179, 1, none⟩ (.int .i64 t183))) ?hg ?ho ?hn ?hr ?_; (case ho => rfl); (case hg => rfl); (case hn => rfl); (case hr => first | (go_simp; done) | (go_simp; rfl)); intro w43 hw; have n0_ : Aside0 (Kd.R (Kd.int .i64) 3 w43 w.heap.size (fun _ => True) (.slice (some ⟨go26, 0, none⟩) x5_2.length co26) y176) := ⟨(by rw [hw]; exact (by (with_reducible repeat (first | apply Kd.R_alloc | apply Kd.R_drewN | apply Kd.R_drew)); exact Kd.R_mono (Kd.R_far (p := ⟨gb179, 1, none⟩) (Kd.R_far (p := ⟨gb179, 0, none⟩) (Kd.R_types HO_5.out BK179.out (by decide)) (fun _ hk => hk.2) (.slice Ao41 t180.length co41)) (fun _ hk => hk.2) (.int .i64 t183)) (fun _ hk => trivial)))⟩; have n1_ : Aside0 (Kd.R (Kd.int .u8) 5 w43 w.heap.size (fun _ => True) (.slice Ao41 t180.length co41) t180) := ⟨(by rw [hw]; exact (by (with_reducible repeat (first | apply Kd.R_alloc | apply Kd.R_drewN | apply Kd.R_drew)); exact Kd.R_mono (Kd.R_far (p := ⟨gb179, 1, none⟩) (Kd.R_far (p := ⟨gb179, 0, none⟩) (Kd.R_types HO182.out BK179.out (by decide)) (fun _ hk => hk.2) (.slice Ao41 t180.length co41)) (fun _ hk => hk.2) (.int .i64 t183)) (fun _ hk => trivial)))⟩; have n2_ : Aside0 (w43.heap[gb179]? = some (.cells #[.slice Ao41 t180.length co41, .int .i64 t183] 35 (0, 0))) := ⟨(by rw [hw]; exact (by (with_reducible repeat (first | refine blk_drewN ?_ _ | refine blk_drew ?_ | refine blk_alloc ?_ _)); refine blk_put (cs := #[.slice Ao41 t180.length co41, .int .i64 0]) ?_ 1 _ rfl; (with_reducible repeat (first | refine blk_drewN ?_ _ | refine blk_drew ?_ | refine blk_alloc ?_ _)); refine blk_put (cs := #[.slice none 0 0, .int .i64 0]) ?_ 0 _ rfl; (with_reducible repeat (first | refine blk_drewN ?_ _ | refine blk_drew ?_ | refine blk_alloc ?_ _)); exact BK179.out))⟩; have n3_ : Aside0 (Below w.heap.size w w43) := ⟨(by rw [hw]; exact (by repeat (first | (with_reducible first | exact HB.out | apply below_alloc | apply pw_below_drewN | apply below_drew1 | refine below_set ?_ GE179.out) | exact HB.out)))⟩; clear hw; clear HO_5; clear HO182; clear BK179; clear HB; have HO_5 := n0_; have HO182 := n1_; have BK179 := n2_; have HB := n3_; clear n0_ n1_ n2_ n3_; have hcz44_0 : w43.cell? ⟨gb179, 0, none⟩ = some (.slice Ao41 t180.length co41) := (blk_cell BK179.out 0).trans rfl; have hcz44_1 : w43.cell? ⟨gb179, 1, none⟩ = some (.int .i64 t183) := (blk_cell BK179.out 1).trans rfl; have hfz44_0 := blk_frozen BK179.out 0; have hfz44_1 := blk_frozen BK179.out 1) | ((with_reducible refine gate_callee (f := 10) rfl ?_); refine goesL_ (some 71) rfl rfl Tryd.func10 (by kernel_rfl) rfl #[.agg #[.slice Ao41 t180.length co41, .int .i64 t183], .int .i64 2, .int .i64 2] rfl (by (try simp only [List.map_toArray, List.map_cons, List.map_nil]); first | done | rfl | (simp only [List.length_drop, List.length_take]; rfl)) ?_; (with_reducible refine (valiselaw09_laid.calls k2 (fun k_ => some k_ = (.slice Ao41 t180.length co41 : Value).ownBlock) (.slice Ao41 t180.length co41) t180 t183 2 2 t184 t187 w _ ?side1 ?side2 A30.out).mono ?_); (case side1 => repeat (first | (with_reducible first | exact HB.out | apply below_alloc | apply pw_below_drewN | apply below_drew1 | refine below_set ?_ GE179.out) | exact HB.out)); (case side2 => exact Kd.R_tight rfl HO182.out); rintro e w45 ⟨v185, rfl, ho0, hb, hkp⟩; refine ⟨_, rfl, ?_⟩; replace HO_5 := Ak (Kd.R_mono (ok' := fun k_ => True) (Kd.R_keptB ((Kd.R_apart' HO_5.out (Kd.R_typed HO182.out) (by decide))) hkp (fun k_ hk_ hs_ => (hk_.2) hs_)) (fun k_ hk_ => trivial)); replace BK179 := Ak (blk_kept (by (with_reducible repeat (first | refine blk_drewN ?_ _ | refine blk_drew ?_ | refine blk_alloc ?_ _)); exact BK179.out) hkp (fun hs_ => (fun e_ => (Kd.R_ne HO182.out BK179.out (by decide)) e_) hs_)); replace HO186 := Ak (Kd.R_mono (ok' := fun k_ => True) ho0 (fun k_ hk_ => trivial)); replace HB := Ak (hb); (try clear hb); (try clear hkp); (try clear ho0); obtain ⟨Ao46, co46, eo46⟩ := Kd.R_slice HO186.out; subst eo46; have hcz47_0 : w45.cell? ⟨gb179, 0, none⟩ = some (.slice Ao41 t180.length co41) := (blk_cell BK179.out 0).trans rfl; have hcz47_1 : w45.cell? ⟨gb179, 1, none⟩ = some (.int .i64 t183) := (blk_cell BK179.out 1).trans rfl; have hfz47_0 := blk_frozen BK179.out 0; have hfz47_1 := blk_frozen BK179.out 1) | ((with_reducible refine gate_store (t := 35) (p := 7) rfl ?_); refine store_event (t := 35) (p := 7) (v := ?vo_w48) (w1 := ((w45.setCell ⟨gb179, 0, none⟩ (.slice Ao46 t184.length co46)).setCell ⟨gb179, 1, none⟩ (.int .i64 t187))) ?hg ?ho ?hn ?hr ?_; (case ho => rfl); (case hg => rfl); (case hn => rfl); (case hr => first | (go_simp; done) | (go_simp; rfl)); intro w48 hw; have n0_ : Aside0 (Kd.R (Kd.int .i64) 3 w48 w.heap.size (fun _ => True) (.slice (some ⟨go26, 0, none⟩) x5_2.length co26) y176) := ⟨(by rw [hw]; exact (by (with_reducible repeat (first | apply Kd.R_alloc | apply Kd.R_drewN | apply Kd.R_drew)); exact Kd.R_mono (Kd.R_far (p := ⟨gb179, 1, none⟩) (Kd.R_far (p := ⟨gb179, 0, none⟩) (Kd.R_types HO_5.out BK179.out (by decide)) (fun _ hk => hk.2) (.slice Ao46 t184.length co46)) (fun _ hk => hk.2) (.int .i64 t187)) (fun _ hk => trivial)))⟩; have n1_ : Aside0 (Kd.R (Kd.int .u8) 5 w48 w.heap.size (fun _ => True) (.slice Ao46 t184.length co46) t184) := ⟨(by rw [hw]; exact (by (with_reducible repeat (first | apply Kd.R_alloc | apply Kd.R_drewN | apply Kd.R_drew)); exact Kd.R_mono (Kd.R_far (p := ⟨gb179, 1, none⟩) (Kd.R_far (p := ⟨gb179, 0, none⟩) (Kd.R_types HO186.out BK179.out (by decide)) (fun _ hk => hk.2) (.slice Ao46 t184.length co46)) (fun _ hk => hk.2) (.int .i64 t187)) (fun _ hk => trivial)))⟩; have n2_ : Aside0 (w48.heap[gb179]? = some (.cells #[.slice Ao46 t184.length co46, .int .i64 t187] 35 (0, 0))) := ⟨(by rw [hw]; exact (by (with_reducible repeat (first | refine blk_drewN ?_ _ | refine blk_drew ?_ | refine blk_alloc ?_ _)); refine blk_put (cs := #[.slice Ao46 t184.length co46, .int .i64 t183]) ?_ 1 _ rfl; (with_reducible repeat (first | refine blk_drewN ?_ _ | refine blk_drew ?_ | refine blk_alloc ?_ _)); refine blk_put (cs := #[.slice Ao41 t180.length co41, .int .i64 t183]) ?_ 0 _ rfl; (with_reducible repeat (first | refine blk_drewN ?_ _ | refine blk_drew ?_ | refine blk_alloc ?_ _)); exact BK179.out))⟩; have n3_ : Aside0 (Below w.heap.size w w48) := ⟨(by rw [hw]; exact (by repeat (first | (with_reducible first | exact HB.out | apply below_alloc | apply pw_below_drewN | apply below_drew1 | refine below_set ?_ GE179.out) | exact HB.out)))⟩; clear hw; clear HO_5; clear HO186; clear BK179; clear HB; have HO_5 := n0_; have HO186 := n1_; have BK179 := n2_; have HB := n3_; clear n0_ n1_ n2_ n3_; have hcz49_0 : w48.cell? ⟨gb179, 0, none⟩ = some (.slice Ao46 t184.length co46) := (blk_cell BK179.out 0).trans rfl; have hcz49_1 : w48.cell? ⟨gb179, 1, none⟩ = some (.int .i64 t187) := (blk_cell BK179.out 1).trans rfl; have hfz49_0 := blk_frozen BK179.out 0; have hfz49_1 := blk_frozen BK179.out 1) | ((with_reducible refine gate_callee (f := 10) rfl ?_); refine goesL_ (some 73) rfl rfl Tryd.func10 (by kernel_rfl) rfl #[.agg #[.slice Ao46 t184.length co46, .int .i64 t187], .int .i64 0, .int .i64 10] rfl (by (try simp only [List.map_toArray, List.map_cons, List.map_nil]); first | done | rfl | (simp only [List.length_drop, List.length_take]; rfl)) ?_; (with_reducible refine (valiselaw09_laid.calls k2 (fun k_ => some k_ = (.slice Ao46 t184.length co46 : Value).ownBlock) (.slice Ao46 t184.length co46) t184 t187 0 10 t188 t191 w _ ?side1 ?side2 A31.out).mono ?_); (case side1 => repeat (first | (with_reducible first | exact HB.out | apply below_alloc | apply pw_below_drewN | apply below_drew1 | refine below_set ?_ GE179.out) | exact HB.out)); (case side2 => exact Kd.R_tight rfl HO186.out); rintro e w50 ⟨v189, rfl, ho0, hb, hkp⟩; refine ⟨_, rfl, ?_⟩; replace HO_5 := Ak (Kd.R_mono (ok' := fun k_ => True) (Kd.R_keptB ((Kd.R_apart' HO_5.out (Kd.R_typed HO186.out) (by decide))) hkp (fun k_ hk_ hs_ => (hk_.2) hs_)) (fun k_ hk_ => trivial)); replace BK179 := Ak (blk_kept (by (with_reducible repeat (first | refine blk_drewN ?_ _ | refine blk_drew ?_ | refine blk_alloc ?_ _)); exact BK179.out) hkp (fun hs_ => (fun e_ => (Kd.R_ne HO186.out BK179.out (by decide)) e_) hs_)); replace HO190 := Ak (Kd.R_mono (ok' := fun k_ => True) ho0 (fun k_ hk_ => trivial)); replace HB := Ak (hb); (try clear hb); (try clear hkp); (try clear ho0); obtain ⟨Ao51, co51, eo51⟩ := Kd.R_slice HO190.out; subst eo51; have hcz52_0 : w50.cell? ⟨gb179, 0, none⟩ = some (.slice Ao46 t184.length co46) := (blk_cell BK179.out 0).trans rfl; have hcz52_1 : w50.cell? ⟨gb179, 1, none⟩ = some (.int .i64 t187) := (blk_cell BK179.out 1).trans rfl; have hfz52_0 := blk_frozen BK179.out 0; have hfz52_1 := blk_frozen BK179.out 1) | ((with_reducible refine gate_store (t := 35) (p := 7) rfl ?_); refine store_event (t := 35) (p := 7) (v := ?vo_w53) (w1 := ((w50.setCell ⟨gb179, 0, none⟩ (.slice Ao51 t188.length co51)).setCell ⟨gb179, 1, none⟩ (.int .i64 t191))) ?hg ?ho ?hn ?hr ?_; (case ho => rfl); (case hg => rfl); (case hn => rfl); (case hr => first | (go_simp; done) | (go_simp; rfl)); intro w53 hw; have n0_ : Aside0 (Kd.R (Kd.int .i64) 3 w53 w.heap.size (fun _ => True) (.slice (some ⟨go26, 0, none⟩) x5_2.length co26) y176) := ⟨(by rw [hw]; exact (by (with_reducible repeat (first | apply Kd.R_alloc | apply Kd.R_drewN | apply Kd.R_drew)); exact Kd.R_mono (Kd.R_far (p := ⟨gb179, 1, none⟩) (Kd.R_far (p := ⟨gb179, 0, none⟩) (Kd.R_types HO_5.out BK179.out (by decide)) (fun _ hk => hk.2) (.slice Ao51 t188.length co51)) (fun _ hk => hk.2) (.int .i64 t191)) (fun _ hk => trivial)))⟩; have n1_ : Aside0 (Kd.R (Kd.int .u8) 5 w53 w.heap.size (fun _ => True) (.slice Ao51 t188.length co51) t188) := ⟨(by rw [hw]; exact (by (with_reducible repeat (first | apply Kd.R_alloc | apply Kd.R_drewN | apply Kd.R_drew)); exact Kd.R_mono (Kd.R_far (p := ⟨gb179, 1, none⟩) (Kd.R_far (p := ⟨gb179, 0, none⟩) (Kd.R_types HO190.out BK179.out (by decide)) (fun _ hk => hk.2) (.slice Ao51 t188.length co51)) (fun _ hk => hk.2) (.int .i64 t191)) (fun _ hk => trivial)))⟩; have n2_ : Aside0 (w53.heap[gb179]? = some (.cells #[.slice Ao51 t188.length co51, .int .i64 t191] 35 (0, 0))) := ⟨(by rw [hw]; exact (by (with_reducible repeat (first | refine blk_drewN ?_ _ | refine blk_drew ?_ | refine blk_alloc ?_ _)); refine blk_put (cs := #[.slice Ao51 t188.length co51, .int .i64 t187]) ?_ 1 _ rfl; (with_reducible repeat (first | refine blk_drewN ?_ _ | refine blk_drew ?_ | refine blk_alloc ?_ _)); refine blk_put (cs := #[.slice Ao46 t184.length co46, .int .i64 t187]) ?_ 0 _ rfl; (with_reducible repeat (first | refine blk_drewN ?_ _ | refine blk_drew ?_ | refine blk_alloc ?_ _)); exact BK179.out))⟩; have n3_ : Aside0 (Below w.heap.size w w53) := ⟨(by rw [hw]; exact (by repeat (first | (with_reducible first | exact HB.out | apply below_alloc | apply pw_below_drewN | apply below_drew1 | refine below_set ?_ GE179.out) | exact HB.out)))⟩; clear hw; clear HO_5; clear HO190; clear BK179; clear HB; have HO_5 := n0_; have HO190 := n1_; have BK179 := n2_; have HB := n3_; clear n0_ n1_ n2_ n3_; have hcz54_0 : w53.cell? ⟨gb179, 0, none⟩ = some (.slice Ao51 t188.length co51) := (blk_cell BK179.out 0).trans rfl; have hcz54_1 : w53.cell? ⟨gb179, 1, none⟩ = some (.int .i64 t191) := (blk_cell BK179.out 1).trans rfl; have hfz54_0 := blk_frozen BK179.out 0; have hfz54_1 := blk_frozen BK179.out 1) | ((with_reducible refine gate_callee (f := 10) rfl ?_); refine goesL_ (some 75) rfl rfl Tryd.func10 (by kernel_rfl) rfl #[.agg #[.slice Ao51 t188.length co51, .int .i64 t191], .int .i64 15, .int .i64 4] rfl (by (try simp only [List.map_toArray, List.map_cons, List.map_nil]); first | done | rfl | (simp only [List.length_drop, List.length_take]; rfl)) ?_; (with_reducible refine (valiselaw09_laid.calls k2 (fun k_ => some k_ = (.slice Ao51 t188.length co51 : Value).ownBlock) (.slice Ao51 t188.length co51) t188 t191 15 4 t192 t195 w _ ?side1 ?side2 A32.out).mono ?_); (case side1 => repeat (first | (with_reducible first | exact HB.out | apply below_alloc | apply pw_below_drewN | apply below_drew1 | refine below_set ?_ GE179.out) | exact HB.out)); (case side2 => exact Kd.R_tight rfl HO190.out); rintro e w55 ⟨v193, rfl, ho0, hb, hkp⟩; refine ⟨_, rfl, ?_⟩; replace HO_5 := Ak (Kd.R_mono (ok' := fun k_ => True) (Kd.R_keptB ((Kd.R_apart' HO_5.out (Kd.R_typed HO190.out) (by decide))) hkp (fun k_ hk_ hs_ => (hk_.2) hs_)) (fun k_ hk_ => trivial)); replace BK179 := Ak (blk_kept (by (with_reducible repeat (first | refine blk_drewN ?_ _ | refine blk_drew ?_ | refine blk_alloc ?_ _)); exact BK179.out) hkp (fun hs_ => (fun e_ => (Kd.R_ne HO190.out BK179.out (by decide)) e_) hs_)); replace HO194 := Ak (Kd.R_mono (ok' := fun k_ => True) ho0 (fun k_ hk_ => trivial)); replace HB := Ak (hb); (try clear hb); (try clear hkp); (try clear ho0); obtain ⟨Ao56, co56, eo56⟩ := Kd.R_slice HO194.out; subst eo56; have hcz57_0 : w55.cell? ⟨gb179, 0, none⟩ = some (.slice Ao51 t188.length co51) := (blk_cell BK179.out 0).trans rfl; have hcz57_1 : w55.cell? ⟨gb179, 1, none⟩ = some (.int .i64 t191) := (blk_cell BK179.out 1).trans rfl; have hfz57_0 := blk_frozen BK179.out 0; have hfz57_1 := blk_frozen BK179.out 1) | ((with_reducible refine gate_dst (N := 76) rfl ?_); (try (refine gate_guard (by rfl) ?_; dsimp only)); refine Kd.R_lit (Kd.int .i64) _ 3 ?hg (N := 76) ?hd (xs := ([16, 17, 18, 0, 8, 7, 9, 6, 10, 5, 11, 4, 12, 3, 13, 2, 14, 1, 15] : List Int)) (inner := [.int .i64 16, .int .i64 17, .int .i64 18, .int .i64 0, .int .i64 8, .int .i64 7, .int .i64 9, .int .i64 6, .int .i64 10, .int .i64 5, .int .i64 11, .int .i64 4, .int .i64 12, .int .i64 3, .int .i64 13, .int .i64 2, .int .i64 14, .int .i64 1, .int .i64 15]) (ok := fun _ => True) (okp := fun _ => True) ?hr ?hp (fun _ hk => hk) trivial (Below.refl _ _) (Nat.le_refl _) (by simp) ?_; (case hd => rfl); (case hg => rfl); (case hr => first | (go_simp; done) | (go_simp; rfl)); (case hp => exact (Reps.one (show Kd.M (Kd.int .i64) _ _ _ 16 [.int .i64 16] from rfl) (Reps.one (show Kd.M (Kd.int .i64) _ _ _ 17 [.int .i64 17] from rfl) (Reps.one (show Kd.M (Kd.int .i64) _ _ _ 18 [.int .i64 18] from rfl) (Reps.one (show Kd.M (Kd.int .i64) _ _ _ 0 [.int .i64 0] from rfl) (Reps.one (show Kd.M (Kd.int .i64) _ _ _ 8 [.int .i64 8] from rfl) (Reps.one (show Kd.M (Kd.int .i64) _ _ _ 7 [.int .i64 7] from rfl) (Reps.one (show Kd.M (Kd.int .i64) _ _ _ 9 [.int .i64 9] from rfl) (Reps.one (show Kd.M (Kd.int .i64) _ _ _ 6 [.int .i64 6] from rfl) (Reps.one (show Kd.M (Kd.int .i64) _ _ _ 10 [.int .i64 10] from rfl) (Reps.one (show Kd.M (Kd.int .i64) _ _ _ 5 [.int .i64 5] from rfl) (Reps.one (show Kd.M (Kd.int .i64) _ _ _ 11 [.int .i64 11] from rfl) (Reps.one (show Kd.M (Kd.int .i64) _ _ _ 4 [.int .i64 4] from rfl) (Reps.one (show Kd.M (Kd.int .i64) _ _ _ 12 [.int .i64 12] from rfl) (Reps.one (show Kd.M (Kd.int .i64) _ _ _ 3 [.int .i64 3] from rfl) (Reps.one (show Kd.M (Kd.int .i64) _ _ _ 13 [.int .i64 13] from rfl) (Reps.one (show Kd.M (Kd.int .i64) _ _ _ 2 [.int .i64 2] from rfl) (Reps.one (show Kd.M (Kd.int .i64) _ _ _ 14 [.int .i64 14] from rfl) (Reps.one (show Kd.M (Kd.int .i64) _ _ _ 1 [.int .i64 1] from rfl) (Reps.one (show Kd.M (Kd.int .i64) _ _ _ 15 [.int .i64 15] from rfl) (Reps.none _ _))))))))))))))))))))); intro v197 w58 ho59 hb hg_ hnew_; clear hg_ hnew_; (first | rw [← Ny196.out] at ho59 | (simp only [Int.reduceToNat] at ho59; rw [← Ny196.out] at ho59)); replace HO194 := Ak (Kd.R_below (by (with_reducible repeat (first | apply Kd.R_alloc | apply Kd.R_drewN | apply Kd.R_drew)); exact (Kd.R_mono (Kd.R_far (p := ⟨gb179, 1, none⟩) (Kd.R_far (p := ⟨gb179, 0, none⟩) (Kd.R_types HO194.out BK179.out (by decide)) (fun _ hk => hk.2) (.slice Ao56 t192.length co56)) (fun _ hk => hk.2) (.int .i64 t195)) (fun _ h_ => h_.1))) hb); replace HO198 := Ak (Kd.R_lower (Kd.R_new' ho59 (Kd.R_lt (by (with_reducible repeat (first | apply Kd.R_alloc | apply Kd.R_drewN | apply Kd.R_drew)); exact (Kd.R_mono (Kd.R_far (p := ⟨gb179, 1, none⟩) (Kd.R_far (p := ⟨gb179, 0, none⟩) (Kd.R_types HO_5.out BK179.out (by decide)) (fun _ hk => hk.2) (.slice Ao56 t192.length co56)) (fun _ hk => hk.2) (.int .i64 t195)) (fun _ h_ => h_.1))))) (below_size (by repeat (first | (with_reducible first | exact HB.out | apply below_alloc | apply pw_below_drewN | apply below_drew1 | refine below_set ?_ GE179.out) | exact HB.out)))); replace HO_5 := Ak (Kd.R_elder' (by (with_reducible repeat (first | apply Kd.R_alloc | apply Kd.R_drewN | apply Kd.R_drew)); exact (Kd.R_mono (Kd.R_far (p := ⟨gb179, 1, none⟩) (Kd.R_far (p := ⟨gb179, 0, none⟩) (Kd.R_types HO_5.out BK179.out (by decide)) (fun _ hk => hk.2) (.slice Ao56 t192.length co56)) (fun _ hk => hk.2) (.int .i64 t195)) (fun _ h_ => h_.1))) (Kd.R_base ho59) hb); replace BK179 := Ak (blk_below (g := gb179) (o := .cells #[.slice Ao56 t192.length co56, .int .i64 t195] 35 (0, 0)) (by (with_reducible repeat (first | refine blk_drewN ?_ _ | refine blk_drew ?_ | refine blk_alloc ?_ _)); refine blk_put (cs := #[.slice Ao56 t192.length co56, .int .i64 t191]) ?_ 1 _ rfl; (with_reducible repeat (first | refine blk_drewN ?_ _ | refine blk_drew ?_ | refine blk_alloc ?_ _)); refine blk_put (cs := #[.slice Ao51 t188.length co51, .int .i64 t191]) ?_ 0 _ rfl; (with_reducible repeat (first | refine blk_drewN ?_ _ | refine blk_drew ?_ | refine blk_alloc ?_ _)); exact BK179.out) hb); replace HB := Ak (below_step (by repeat (first | (with_reducible first | exact HB.out | apply below_alloc | apply pw_below_drewN | apply below_drew1 | refine below_set ?_ GE179.out) | exact HB.out)) hb); clear hb ho59) | ((with_reducible refine gate_dst (N := 77) rfl ?_); (try (refine gate_guard (by rfl) ?_; dsimp only)); refine Kd.R_make (Kd.int .i64) _ 3 rfl (N := 77) rfl 32 _ _ rfl 19 rfl rfl Tryd.underlying32 (.int .i64 0) 8 info3 rfl (by decide) (by omega) 0 (ok := fun _ => True) (okp := fun _ => True) rfl (fun _ hk => hk) trivial (by omega) (by omega) (Below.refl _ _) (Nat.le_refl _) ?_; intro v200 w60 ho61 hb hg_ hnew_; clear hg_ hnew_; (first | rw [← Ny199.out] at ho61 | (simp only [Int.reduceToNat] at ho61; rw [← Ny199.out] at ho61)); replace HO194 := Ak (Kd.R_below (by (with_reducible repeat (first | apply Kd.R_alloc | apply Kd.R_drewN | apply Kd.R_drew)); exact HO194.out) hb); replace HO201 := Ak (Kd.R_lower (Kd.R_new' (Kd.R_new' ho61 (Kd.R_lt (by (with_reducible repeat (first | apply Kd.R_alloc | apply Kd.R_drewN | apply Kd.R_drew)); exact HO_5.out))) (Kd.R_lt (by (with_reducible repeat (first | apply Kd.R_alloc | apply Kd.R_drewN | apply Kd.R_drew)); exact HO198.out))) (below_size (by repeat (first | (with_reducible first | exact HB.out | apply below_alloc | apply pw_below_drewN | apply below_drew1 | refine below_set ?_ GE179.out) | exact HB.out)))); replace HO_5 := Ak (Kd.R_elder' (by (with_reducible repeat (first | apply Kd.R_alloc | apply Kd.R_drewN | apply Kd.R_drew)); exact HO_5.out) (Kd.R_base ho61) hb); replace HO198 := Ak (Kd.R_elder' (by (with_reducible repeat (first | apply Kd.R_alloc | apply Kd.R_drewN | apply Kd.R_drew)); exact HO198.out) (Kd.R_base ho61) hb); replace BK179 := Ak (blk_below (g := gb179) (o := .cells #[.slice Ao56 t192.length co56, .int .i64 t195] 35 (0, 0)) (by (with_reducible repeat (first | refine blk_drewN ?_ _ | refine blk_drew ?_ | refine blk_alloc ?_ _)); exact BK179.out) hb); replace HB := Ak (below_step (by repeat (first | (with_reducible first | exact HB.out | apply below_alloc | apply pw_below_drewN | apply below_drew1 | refine below_set ?_ GE179.out) | exact HB.out)) hb); clear hb ho61))
      go_loopg [10] k2 (fun kq v10 w' => ∃ (x9_3 : List Int) (x10_3 : Int), v10 = .int .i64 x10_3 ∧ Aside0 (valiselaw09_InflateCodes.l1 kq l1 y176 y196 x9_3 x10_3 t192 t195 = some r) ∧ Aside0 (kq ≤ k2) ∧ Aside0 (Kd.R (Kd.int .i64) 3 w' w.heap.size (fun k_ => some k_ ≠ (v197 : Value).ownBlock ∧ some k_ ≠ (v200 : Value).ownBlock) (.slice (some ⟨go26, 0, none⟩) x5_2.length co26) y176) ∧ Aside0 (Kd.R (Kd.int .i64) 3 w' w.heap.size (fun k_ => some k_ ≠ ((.slice (some ⟨go26, 0, none⟩) x5_2.length co26) : Value).ownBlock ∧ some k_ ≠ (v200 : Value).ownBlock) v197 y196) ∧ Aside0 (Kd.R (Kd.int .i64) 3 w' w.heap.size (fun k_ => some k_ ≠ ((.slice (some ⟨go26, 0, none⟩) x5_2.length co26) : Value).ownBlock ∧ some k_ ≠ (v197 : Value).ownBlock) v200 x9_3) ∧ Aside0 (Kd.R (Kd.int .u8) 5 w' w.heap.size (fun _ => True) (.slice Ao56 t192.length co56) t192) ∧ Aside0 (w'.heap[gb179]? = some (.cells #[(.slice Ao56 t192.length co56), .int .i64 t195] 35 (0, 0))) ∧ Aside0 (Below w.heap.size w w'))
      case atStart => exact ⟨(y199), (0), (by first | rfl | (simp; done) | (simp [*]; done)), H', ⟨Nat.le_refl _⟩, ⟨by (with_reducible repeat (first | apply Kd.R_alloc | apply Kd.R_drewN | apply Kd.R_drew)); exact Kd.R_mono HO_5.out (fun _ hk => ⟨hk.1.2, hk.2⟩)⟩, ⟨by (with_reducible repeat (first | apply Kd.R_alloc | apply Kd.R_drewN | apply Kd.R_drew)); exact Kd.R_mono HO198.out (fun _ hk => ⟨hk.1.2, hk.2⟩)⟩, ⟨by (with_reducible repeat (first | apply Kd.R_alloc | apply Kd.R_drewN | apply Kd.R_drew)); exact Kd.R_mono HO201.out (fun _ hk => ⟨hk.1.2, hk.2⟩)⟩, ⟨by (with_reducible repeat (first | apply Kd.R_alloc | apply Kd.R_drewN | apply Kd.R_drew)); exact HO194.out⟩, ⟨by (with_reducible repeat (first | refine blk_drewN ?_ _ | refine blk_drew ?_ | refine blk_alloc ?_ _)); exact BK179.out⟩, ⟨by repeat (first | (with_reducible first | exact HB.out | apply below_alloc | apply pw_below_drewN | apply below_drew1 | refine below_set ?_ GE179.out) | exact HB.out)⟩⟩
      case round =>
        clear H'
        (try clear c1); (try clear p1); (try clear q1); (try clear hx1); (try clear c2); (try clear p2); (try clear q2); (try clear hx2); (try clear qi2); (try clear hf2); (try clear c3); (try clear c4); (try clear c4b0); (try clear c4b1); (try clear c5); (try clear c6); (try clear p6); (try clear c7); (try clear c8); (try clear c8b0); (try clear c8b1); (try clear c9); (try clear c10); (try clear c11); (try clear c11b0); (try clear c13); (try clear c13b0); (try clear c14); (try clear c14b0); (try clear c15); (try clear p17); (try clear q17); (try clear hx17); (try clear c18); (try clear c18b0); (try clear c19); (try clear c19b0); (try clear c20); (try clear c20b0); (try clear c21); (try clear c21b0); (try clear p22); (try clear q22); (try clear hx22); (try clear hf22); (try clear c25); (try clear c25b0); (try clear c25b1); (try clear p26); (try clear q26); (try clear hx26); (try clear qi26); (try clear hf26); (try clear c28); (try clear c28b0); (try clear c28b1); (try clear c33); (try clear c33b0); (try clear c33b1); (try clear hcz37_0); (try clear hcz37_1); (try clear hcz39_0); (try clear hcz39_1); (try clear hcz42_0); (try clear hcz42_1); (try clear hcz44_0); (try clear hcz44_1); (try clear hcz47_0); (try clear hcz47_1); (try clear hcz49_0); (try clear hcz49_1); (try clear hcz52_0); (try clear hcz52_1); (try clear hcz54_0); (try clear hcz54_1); (try clear hcz57_0); (try clear hcz57_1); (try clear hfz37_0); (try clear hfz37_1); (try clear hfz39_0); (try clear hfz39_1); (try clear hfz42_0); (try clear hfz42_1); (try clear hfz44_0); (try clear hfz44_1); (try clear hfz47_0); (try clear hfz47_1); (try clear hfz49_0); (try clear hfz49_1); (try clear hfz52_0); (try clear hfz52_1); (try clear hfz54_0); (try clear hfz54_1); (try clear hfz57_0); (try clear hfz57_1); (try clear hx170_0); (try clear hx171_0); (try clear hx173_0); (try clear hx174_0); (try clear hx22_0); (try clear hx26_0); (try clear p1); (try clear p170); (try clear p171); (try clear p173); (try clear p174); (try clear p2); (try clear p22); (try clear p26); (try clear q1); (try clear q170); (try clear q171); (try clear q173); (try clear q174); (try clear q22); (try clear q26)
        obtain ⟨x9_3, x10_3, rfl, HA, HK3, HO_5, HO_8, HO_9, HO_180000, BK179, HB⟩ := hrel
        have hl5_3 := (Kd.R_reads' HO_5.out).1
        rw [hl5_3] at HO_5
        (try simp only [hl5_3])
        (try simp only [hl5_3] at BK179)
        (try simp only [hl5_3] at HO_8)
        (try simp only [hl5_3] at HO_9)
        (try simp only [hl5_3] at HO_180000)
        cases gk with
        | zero => exact absurd HA.out (by simp [valiselaw09_InflateCodes.l1])
        | succ k3 => ?_
        have H := HA.out
        clear HA
        simp only [valiselaw09_InflateCodes.l1] at H
        by_cases c62 : x10_3 < 16
        · rw [if_pos c62] at H
          have c62b0 : decide (x10_3 < 16) = true := decide_eq_true c62
          clear c62
          by_cases c63 : 0 ≤ x10_3
          rotate_left
          · rw [if_neg c63] at H
            exact absurd H (by simp)
          rw [if_pos c63] at H
          have c63b0 : decide (0 ≤ x10_3) = true := decide_eq_true c63
          clear c63
          by_cases c64 : x10_3 < (x9_3.length : Int)
          rotate_left
          · rw [if_neg c64] at H
            exact absurd H (by simp)
          rw [if_pos c64] at H
          have c64b0 : decide (x10_3 < (x9_3.length : Int)) = true := decide_eq_true c64
          clear c64
          obtain ⟨y202, hy202⟩ : ∃ y_ : List Int, y_ = (x9_3.set (x10_3 : Int).toNat 4) := ⟨_, rfl⟩
          replace H : (valiselaw09_InflateCodes.l1 k3 l1 y176 y196 y202 (wrap64 (x10_3 + 1)) t192 t195) = some r := by first | (rw [hy202]; with_reducible exact H) | (have H2_ := (Option.bind_some _ _).symm.trans H; rw [hy202]; with_reducible exact H2_) | (have H2_ := (Option.bind_some _ _).symm.trans H; with_reducible exact H2_) | with_reducible exact H | (rw [hy202]; exact H) | exact H
          have Ny202 := Ak hy202
          clear hy202
          have H' := Ak H
          clear H
          have p65 : 0 ≤ (x10_3 : Int) := of_decide_eq_true (by first | (with_reducible assumption) | assumption)
          have q65 : (x10_3 : Int) < ((x9_3.length : Int) : Int) := of_decide_eq_true (by first | (with_reducible assumption) | assumption)
          obtain ⟨go65, co65, eo65, gb65, gl65, cl65, HG65⟩ := Kd.R_form HO_9.out (by omega)
          (first | cases eo65 | (injection eo65 with ea_ en_ ec_; (first | subst ea_ | (injection ea_ with ea_; subst ea_)); subst ec_; clear en_))
          have GB65 := Ak gb65
          have GG65 := Ak HG65
          clear gb65 gl65 HG65
          obtain ⟨hx65_0, hf65_0⟩ := Kd.R_celln 0 HO_9.out (x10_3 : Int) p65 q65
          replace p65 := eq_true p65
          replace q65 := eq_true q65
          have HP66 := Kd.R_putg HO_9.out (x10_3 : Int) 4
          go_wp2_with (first | ((with_reducible refine gate_store (t := 3) (p := 84) rfl ?_); refine store_event (t := 3) (p := 84) (v := ?vo_w67) (w1 := (wr.setCell ⟨go65, (x10_3 : Int).toNat, none⟩ (.int .i64 4))) ?hg ?ho ?hn ?hr ?_; (case ho => rfl); (case hg => rfl); (case hn => rfl); (case hr => first | (go_simp; done) | (go_simp; rfl)); intro w67 hw; have hg : wr.grownBy w67 (some go65) := (by rw [hw]; exact HP66.2); have hp_ : Kd.R (Kd.int .i64) 3 w67 w.heap.size (fun k_ => some k_ ≠ (.slice (some ⟨go26, 0, none⟩) y176.length co26 : Value).ownBlock ∧ some k_ ≠ (v197 : Value).ownBlock) (.slice (some ⟨go65, 0, none⟩) x9_3.length co65) y202 := (by rw [hw, Ny202.out]; exact HP66.1); clear HP66; replace HO_5 := Ak (Kd.R_after (v := (.slice (some ⟨go65, 0, none⟩) x9_3.length co65)) (v1 := (.slice (some ⟨go65, 0, none⟩) x9_3.length co65)) (ok := (fun k_ => some k_ ≠ (v197 : Value).ownBlock)) (by (with_reducible repeat (first | apply Kd.R_alloc | apply Kd.R_drewN | apply Kd.R_drew)); exact HO_5.out) hg (.inl rfl)); replace HO_8 := Ak (Kd.R_after (v := (.slice (some ⟨go65, 0, none⟩) x9_3.length co65)) (v1 := (.slice (some ⟨go65, 0, none⟩) x9_3.length co65)) (ok := (fun k_ => some k_ ≠ (.slice (some ⟨go26, 0, none⟩) y176.length co26 : Value).ownBlock)) (by (with_reducible repeat (first | apply Kd.R_alloc | apply Kd.R_drewN | apply Kd.R_drew)); exact HO_8.out) hg (.inl rfl)); replace HO_180000 := Ak (Kd.R_over' (v := (.slice (some ⟨go65, 0, none⟩) x9_3.length co65)) (by (with_reducible repeat (first | apply Kd.R_alloc | apply Kd.R_drewN | apply Kd.R_drew)); exact HO_180000.out) (Kd.R_typed HO_9.out) (by decide) hg); replace BK179 := Ak (blk_grown (g := gb179) (o := .cells #[.slice Ao56 t192.length co56, .int .i64 t195] 35 (0, 0)) (by (with_reducible repeat (first | refine blk_drewN ?_ _ | refine blk_drew ?_ | refine blk_alloc ?_ _)); exact BK179.out) hg (Kd.R_ne HO_9.out BK179.out (by decide))); replace HO_9 := Ak (hp_); replace HB := Ak ((by rw [hw]; exact below_set (HB.out) GB65.out : Below w.heap.size w w67)); clear hg hw hp_))
          (try simp only [← hl5_3])
          go_roundg k3
          case measure => have := HJ2.out; have := HK2.out; have := HK3.out; omega
          case rel => exact ⟨(y202), (wrap64 (x10_3 + 1)), (by first | rfl | (simp; done) | (simp [*]; done)), H', ⟨by have := HJ2.out; have := HK2.out; have := HK3.out; omega⟩, ⟨by (try simp only [hl5_3]); (with_reducible repeat (first | apply Kd.R_alloc | apply Kd.R_drewN | apply Kd.R_drew)); exact HO_5.out⟩, ⟨by (try simp only [hl5_3]); (with_reducible repeat (first | apply Kd.R_alloc | apply Kd.R_drewN | apply Kd.R_drew)); exact HO_8.out⟩, ⟨by (try simp only [hl5_3]); (with_reducible repeat (first | apply Kd.R_alloc | apply Kd.R_drewN | apply Kd.R_drew)); exact HO_9.out⟩, ⟨by (try simp only [hl5_3]); (with_reducible repeat (first | apply Kd.R_alloc | apply Kd.R_drewN | apply Kd.R_drew)); exact HO_180000.out⟩, ⟨by (try simp only [hl5_3]); (with_reducible repeat (first | refine blk_drewN ?_ _ | refine blk_drew ?_ | refine blk_alloc ?_ _)); exact BK179.out⟩, ⟨by repeat (first | (with_reducible first | exact HB.out | apply below_alloc | apply pw_below_drewN | apply below_drew1 | refine below_set ?_ GE179.out) | exact HB.out)⟩⟩
        rw [if_neg c62] at H
        have c62b0 : decide (x10_3 < 16) = false := decide_eq_false c62
        clear c62
        have H' := Ak H
        clear H
        go_wp2
        go_loopg [11] k3 (fun kq v11 w' => ∃ (x11_4 : Int) (x180000_4 : List Int) (x180001_4 : Int) (u180000 : Value), v11 = .int .i64 x11_4 ∧ Aside0 (valiselaw09_InflateCodes.l2 kq l1 y176 y196 x9_3 x11_4 x180000_4 x180001_4 = some r) ∧ Aside0 (kq ≤ k3) ∧ Aside0 (Kd.R (Kd.int .i64) 3 w' w.heap.size (fun k_ => some k_ ≠ (v197 : Value).ownBlock ∧ some k_ ≠ (v200 : Value).ownBlock) (.slice (some ⟨go26, 0, none⟩) y176.length co26) y176) ∧ Aside0 (Kd.R (Kd.int .i64) 3 w' w.heap.size (fun k_ => some k_ ≠ ((.slice (some ⟨go26, 0, none⟩) y176.length co26) : Value).ownBlock ∧ some k_ ≠ (v200 : Value).ownBlock) v197 y196) ∧ Aside0 (Kd.R (Kd.int .i64) 3 w' w.heap.size (fun k_ => some k_ ≠ ((.slice (some ⟨go26, 0, none⟩) y176.length co26) : Value).ownBlock ∧ some k_ ≠ (v197 : Value).ownBlock) v200 x9_3) ∧ Aside0 (Kd.R (Kd.int .u8) 5 w' w.heap.size (fun _ => True) u180000 x180000_4) ∧ Aside0 (w'.heap[gb179]? = some (.cells #[u180000, .int .i64 x180001_4] 35 (0, 0))) ∧ Aside0 (Below w.heap.size w w'))
        case atStart => exact ⟨(0), (t192), (t195), (.slice Ao56 t192.length co56), (by first | rfl | (simp; done) | (simp [*]; done)), H', ⟨Nat.le_refl _⟩, ⟨by (try simp only [hl5_3]); (with_reducible repeat (first | apply Kd.R_alloc | apply Kd.R_drewN | apply Kd.R_drew)); exact HO_5.out⟩, ⟨by (try simp only [hl5_3]); (with_reducible repeat (first | apply Kd.R_alloc | apply Kd.R_drewN | apply Kd.R_drew)); exact HO_8.out⟩, ⟨by (try simp only [hl5_3]); (with_reducible repeat (first | apply Kd.R_alloc | apply Kd.R_drewN | apply Kd.R_drew)); exact HO_9.out⟩, ⟨by (try simp only [hl5_3]); (with_reducible repeat (first | apply Kd.R_alloc | apply Kd.R_drewN | apply Kd.R_drew)); exact HO_180000.out⟩, ⟨by (try simp only [hl5_3]); (with_reducible repeat (first | refine blk_drewN ?_ _ | refine blk_drew ?_ | refine blk_alloc ?_ _)); exact BK179.out⟩, ⟨by repeat (first | (with_reducible first | exact HB.out | apply below_alloc | apply pw_below_drewN | apply below_drew1 | refine below_set ?_ GE179.out) | exact HB.out)⟩⟩
        case round =>
          clear H'
          (try clear c1); (try clear p1); (try clear q1); (try clear hx1); (try clear c2); (try clear p2); (try clear q2); (try clear hx2); (try clear qi2); (try clear hf2); (try clear c3); (try clear c4); (try clear c4b0); (try clear c4b1); (try clear c5); (try clear c6); (try clear p6); (try clear q6); (try clear hx6); (try clear hf6); (try clear c7); (try clear c8); (try clear c8b0); (try clear c8b1); (try clear c9); (try clear c10); (try clear c11); (try clear c11b0); (try clear c13); (try clear c13b0); (try clear c14); (try clear c14b0); (try clear c15); (try clear p17); (try clear q17); (try clear hx17); (try clear c18); (try clear c18b0); (try clear c19); (try clear c19b0); (try clear c20); (try clear c20b0); (try clear c21); (try clear c21b0); (try clear p22); (try clear q22); (try clear hx22); (try clear hf22); (try clear c25); (try clear c25b0); (try clear c25b1); (try clear p26); (try clear q26); (try clear hx26); (try clear qi26); (try clear hf26); (try clear c28); (try clear c28b0); (try clear c28b1); (try clear c33); (try clear c33b0); (try clear c33b1); (try clear c62); (try clear c62b0); (try clear c63); (try clear c63b0); (try clear c64); (try clear c64b0); (try clear p64); (try clear p65); (try clear q65); (try clear hx65); (try clear hf65); (try clear hcz37_0); (try clear hcz37_1); (try clear hcz39_0); (try clear hcz39_1); (try clear hcz42_0); (try clear hcz42_1); (try clear hcz44_0); (try clear hcz44_1); (try clear hcz47_0); (try clear hcz47_1); (try clear hcz49_0); (try clear hcz49_1); (try clear hcz52_0); (try clear hcz52_1); (try clear hcz54_0); (try clear hcz54_1); (try clear hcz57_0); (try clear hcz57_1); (try clear hfz37_0); (try clear hfz37_1); (try clear hfz39_0); (try clear hfz39_1); (try clear hfz42_0); (try clear hfz42_1); (try clear hfz44_0); (try clear hfz44_1); (try clear hfz47_0); (try clear hfz47_1); (try clear hfz49_0); (try clear hfz49_1); (try clear hfz52_0); (try clear hfz52_1); (try clear hfz54_0); (try clear hfz54_1); (try clear hfz57_0); (try clear hfz57_1); (try clear hx170_0); (try clear hx171_0); (try clear hx173_0); (try clear hx174_0); (try clear hx22_0); (try clear hx26_0); (try clear hx65_0); (try clear p1); (try clear p17); (try clear p170); (try clear p171); (try clear p173); (try clear p174); (try clear p2); (try clear p22); (try clear p26); (try clear p6); (try clear p65); (try clear q1); (try clear q17); (try clear q170); (try clear q171); (try clear q173); (try clear q174); (try clear q2); (try clear q22); (try clear q26); (try clear q65)
          obtain ⟨x11_4, x180000_4, x180001_4, u180000, rfl, HA, HK4, HO_5, HO_8, HO_9, HO_180000, BK179, HB⟩ := hrel
          cases gk with
          | zero => exact absurd HA.out (by simp [valiselaw09_InflateCodes.l2])
          | succ k4 => ?_
          have H := HA.out
          clear HA
          simp only [valiselaw09_InflateCodes.l2] at H
          by_cases c68 : x11_4 < 19
          · rw [if_pos c68] at H
            have c68b0 : decide (x11_4 < 19) = true := decide_eq_true c68
            clear c68
            by_cases c69 : 0 ≤ x11_4
            rotate_left
            · rw [if_neg c69] at H
              exact absurd H (by simp)
            rw [if_pos c69] at H
            have c69b0 : decide (0 ≤ x11_4) = true := decide_eq_true c69
            clear c69
            by_cases c70 : x11_4 < (y196.length : Int)
            rotate_left
            · rw [if_neg c70] at H
              exact absurd H (by simp)
            rw [if_pos c70] at H
            have c70b0 : decide (x11_4 < (y196.length : Int)) = true := decide_eq_true c70
            clear c70
            by_cases c71 : 0 ≤ (rd y196 x11_4)
            rotate_left
            · rw [if_neg c71] at H
              exact absurd H (by simp)
            rw [if_pos c71] at H
            have c71b0 : decide (0 ≤ (rd y196 x11_4)) = true := decide_eq_true c71
            clear c71
            by_cases c72 : (rd y196 x11_4) < (x9_3.length : Int)
            rotate_left
            · rw [if_neg c72] at H
              exact absurd H (by simp)
            rw [if_pos c72] at H
            have c72b0 : decide ((rd y196 x11_4) < (x9_3.length : Int)) = true := decide_eq_true c72
            clear c72
            replace H := Option.bind_eq_some_iff.mp H
            obtain ⟨⟨t205, t208⟩, A730, H⟩ := H
            replace H : (valiselaw09_InflateCodes.l2 k4 l1 y176 y196 x9_3 (wrap64 (x11_4 + 1)) t205 t208) = some r := H
            have A73 := Ak A730
            clear A730
            have H' := Ak H
            clear H
            try go_wp2
            replace HO_5 := Ak (Kd.R_drew HO_5.out)
            replace HO_8 := Ak (Kd.R_drew HO_8.out)
            replace HO_9 := Ak (Kd.R_drew HO_9.out)
            replace HO_180000 := Ak (Kd.R_drew HO_180000.out)
            replace BK179 := Ak (blk_drew BK179.out)
            replace HB := Ak (below_drew1 HB.out)
            obtain ⟨Ao75, co75, eo75⟩ := Kd.R_slice HO_8.out
            (first | subst eo75 | (injection eo75 with f1_ f2_ f3_; have f4_ := f1_.symm; have f5_ := f3_.symm; clear f1_ f2_ f3_; subst f4_; subst f5_))
            have p203 : 0 ≤ (x11_4 : Int) := of_decide_eq_true (by first | (with_reducible assumption) | assumption)
            have q203 : x11_4 < (y196.length : Int) := of_decide_eq_true (by first | (with_reducible assumption) | assumption)
            obtain ⟨ad203, e203, hx203_0⟩ := Kd.at_int (Kd.R_reads' HO_8.out).2.2 x11_4 p203 q203
            cases e203
            replace p203 := eq_true p203
            replace q203 := eq_true q203
            obtain ⟨Ao76, co76, eo76⟩ := Kd.R_slice HO_9.out
            (first | subst eo76 | (injection eo76 with f1_ f2_ f3_; have f4_ := f1_.symm; have f5_ := f3_.symm; clear f1_ f2_ f3_; subst f4_; subst f5_))
            have p204 : 0 ≤ ((rd y196 x11_4) : Int) := of_decide_eq_true (by first | (with_reducible assumption) | assumption)
            have q204 : (rd y196 x11_4) < (x9_3.length : Int) := of_decide_eq_true (by first | (with_reducible assumption) | assumption)
            obtain ⟨ad204, e204, hx204_0⟩ := Kd.at_int (Kd.R_reads' HO_9.out).2.2 (rd y196 x11_4) p204 q204
            cases e204
            replace p204 := eq_true p204
            replace q204 := eq_true q204
            obtain ⟨Ao77, co77, eo77⟩ := Kd.R_slice HO_180000.out
            (first | subst eo77 | (injection eo77 with f1_ f2_ f3_; have f4_ := f1_.symm; have f5_ := f3_.symm; clear f1_ f2_ f3_; subst f4_; subst f5_))
            refine start_ (n := 10) (S := fun w' => w'.cell? ⟨gb179, 0, none⟩ = some (.slice Ao77 x180000_4.length co77) ∧ w'.cell? ⟨gb179, 1, none⟩ = some (.int .i64 x180001_4) ∧ w'.cell? (ad203.add (x11_4).toNat) = some (.int .i64 (rd y196 x11_4)) ∧ w'.cell? (ad204.add ((rd y196 x11_4)).toNat) = some (.int .i64 (rd x9_3 (rd y196 x11_4)))) (ds := [9]) #[false, false, false, false, false, false, false, false, false, false] (by kernel_rfl) rfl rfl ⟨(blk_cell BK179.out 0).trans rfl, (blk_cell BK179.out 1).trans rfl, hx203_0, hx204_0⟩ (fun hHeld => ?_); refine with_tabW valiselaw09_InflateCodes.tab28 valiselaw09_InflateCodes.bits28 (fun HT_ HW_ => ?_)
            generalize wr.drew = w74 at HO_5 HO_8 HO_9 HO_180000 BK179 HB hx203_0 hx204_0 hHeld ⊢
            refine pure_ (i := 1) (N := some 90) (v := ?_) (a' := ?_) #[false, true, false, false, false, false, false, false, false, false] rfl rfl (any_of HT_.out (by kernel_rfl)) (fun _ _ _ h => h) (Or.inl ⟨by rfl, ?_⟩) ?_ ?_
            rotate_left
            · intro w'
              go_simp
              with_reducible rfl
            rotate_left
            · simp only [Act.put, List.setIfInBounds_toArray, List.set_cons_zero, List.set_cons_succ, i64_w, i32_w, u8_w]
              rfl
            refine pure_ (i := 2) (N := some 91) (v := ?_) (a' := ?_) #[false, true, true, false, false, false, false, false, false, false] rfl rfl (any_of HT_.out (by kernel_rfl)) (fun _ _ _ h => h) (Or.inl ⟨by rfl, ?_⟩) ?_ ?_
            rotate_left
            · intro w'
              go_simp
              with_reducible rfl
            rotate_left
            · simp only [Act.put, List.setIfInBounds_toArray, List.set_cons_zero, List.set_cons_succ, i64_w, i32_w, u8_w]
              rfl
            refine pure_ (i := 3) (N := some 92) (v := ?_) (a' := ?_) #[false, true, true, true, false, false, false, false, false, false] rfl rfl (any_of HT_.out (by kernel_rfl)) (fun _ _ _ h => h) (Or.inl ⟨by rfl, ?_⟩) ?_ ?_
            rotate_left
            · intro w'
              go_simp
              with_reducible rfl
            rotate_left
            · simp only [Act.put, List.setIfInBounds_toArray, List.set_cons_zero, List.set_cons_succ, i64_w, i32_w, u8_w]
              rfl
            refine pure_ (i := 4) (N := some 93) (v := ?_) (a' := ?_) #[false, true, true, true, true, false, false, false, false, false] rfl rfl (any_of HT_.out (by kernel_rfl)) (fun _ _ _ h => h) (Or.inl ⟨by rfl, ?_⟩) ?_ ?_
            rotate_left
            · intro w'
              go_simp
              with_reducible rfl
            rotate_left
            · simp only [Act.put, List.setIfInBounds_toArray, List.set_cons_zero, List.set_cons_succ, i64_w, i32_w, u8_w]
              rfl
            refine take_ (i := 0) (N := some 89) (v := ?_) (a' := ?_) #[true, true, true, true, true, false, false, false, false, false] rfl rfl (take_ofW HT_.out HW_.out (by kernel_rfl)) (fun _ _ _ h => h) (Or.inl ⟨by rfl, ?_⟩) hHeld ?_ ?_
            rotate_left
            · rintro w' ⟨s0, s1, s2, s3⟩
              go_simp
              with_reducible rfl
            rotate_left
            · simp only [Act.put, List.setIfInBounds_toArray, List.set_cons_zero, List.set_cons_succ, i64_w, i32_w, u8_w]
              rfl
            refine take_ (i := 5) (N := some 94) (v := ?_) (a' := ?_) #[true, true, true, true, true, true, false, false, false, false] rfl rfl (take_ofW HT_.out HW_.out (by kernel_rfl)) (fun _ _ _ h => h) (Or.inl ⟨by rfl, ?_⟩) hHeld ?_ ?_
            rotate_left
            · rintro w' ⟨s0, s1, s2, s3⟩
              go_simp
              with_reducible rfl
            rotate_left
            · simp only [Act.put, List.setIfInBounds_toArray, List.set_cons_zero, List.set_cons_succ, i64_w, i32_w, u8_w]
              rfl
            refine pure_ (i := 6) (N := some 95) (v := ?_) (a' := ?_) #[true, true, true, true, true, true, true, false, false, false] rfl rfl (any_of HT_.out (by kernel_rfl)) (fun _ _ _ h => h) (Or.inl ⟨by rfl, ?_⟩) ?_ ?_
            rotate_left
            · intro w'
              go_simp
              with_reducible rfl
            rotate_left
            · simp only [Act.put, List.setIfInBounds_toArray, List.set_cons_zero, List.set_cons_succ, i64_w, i32_w, u8_w]
              rfl
            refine take_ (i := 7) (N := some 96) (v := ?_) (a' := ?_) #[true, true, true, true, true, true, true, true, false, false] rfl rfl (take_ofW HT_.out HW_.out (by kernel_rfl)) (fun _ _ _ h => h) (Or.inl ⟨by rfl, ?_⟩) hHeld ?_ ?_
            rotate_left
            · rintro w' ⟨s0, s1, s2, s3⟩
              go_simp
              with_reducible rfl
            rotate_left
            · simp only [Act.put, List.setIfInBounds_toArray, List.set_cons_zero, List.set_cons_succ, i64_w, i32_w, u8_w]
              rfl
            refine one_ (i := 8) (N := some 97) #[true, true, true, true, true, true, true, true, true, false] rfl rfl (one_of HT_.out (by kernel_rfl)) (by decide) (fun K hK => ?_)
            refine goes_ Tryd.func10 (by kernel_rfl) rfl #[.agg #[.slice Ao77 x180000_4.length co77, .int .i64 x180001_4], .int .i64 (rd x9_3 (rd y196 x11_4)), .int .i64 3] (by rfl) rfl rfl (by (try simp only [List.map_toArray, List.map_cons, List.map_nil]); first | done | rfl | (simp only [List.length_drop, List.length_take]; rfl)) ?_
            with_reducible refine (valiselaw09_laid.calls k4 (fun k_ => some k_ = (.slice Ao77 x180000_4.length co77 : Value).ownBlock) (.slice Ao77 x180000_4.length co77) x180000_4 x180001_4 (rd x9_3 (rd y196 x11_4)) 3 t205 t208 w _ ?side1 ?side2 A73.out).mono ?_
            (case side1 => repeat (first | (with_reducible first | exact HB.out | apply below_alloc | apply pw_below_drewN | apply below_drew1 | refine below_set ?_ GE179.out) | exact HB.out))
            (case side2 => exact Kd.R_tight rfl HO_180000.out)
            rintro e w78 ⟨v206, rfl, ho0, hb, hkp⟩
            have HS2_ := YtgflkkjhckcipaaDoorW.PrintWords.cell_kept (hHeld.2.2.1) hkp (by first | (rw [add_block]; exact (fun hs_ => ((((Kd.R_apart' HO_8.out (Kd.R_typed HO_180000.out) (by decide))).1 _ rfl).2) hs_)) | (show ¬ _; simp only [add_block]; exact (fun hs_ => ((((Kd.R_apart' HO_8.out (Kd.R_typed HO_180000.out) (by decide))).1 _ rfl).2) hs_)) | exact (fun hs_ => ((((Kd.R_apart' HO_8.out (Kd.R_typed HO_180000.out) (by decide))).1 _ rfl).2) hs_))
            have HS3_ := YtgflkkjhckcipaaDoorW.PrintWords.cell_kept (hHeld.2.2.2) hkp (by first | (rw [add_block]; exact (fun hs_ => ((((Kd.R_apart' HO_9.out (Kd.R_typed HO_180000.out) (by decide))).1 _ rfl).2) hs_)) | (show ¬ _; simp only [add_block]; exact (fun hs_ => ((((Kd.R_apart' HO_9.out (Kd.R_typed HO_180000.out) (by decide))).1 _ rfl).2) hs_)) | exact (fun hs_ => ((((Kd.R_apart' HO_9.out (Kd.R_typed HO_180000.out) (by decide))).1 _ rfl).2) hs_))
            refine ⟨_, rfl, ?_⟩
            replace HO_5 := Ak (Kd.R_mono (ok' := fun k_ => some k_ ≠ (.slice (some ad203) y196.length co75 : Value).ownBlock ∧ some k_ ≠ (.slice (some ad204) x9_3.length co76 : Value).ownBlock) (Kd.R_keptB ((Kd.R_apart' HO_5.out (Kd.R_typed HO_180000.out) (by decide))) hkp (fun k_ hk_ hs_ => (hk_.2) hs_)) (fun k_ hk_ => ⟨hk_.1.1.1, hk_.1.1.2⟩))
            replace HO_8 := Ak (Kd.R_mono (ok' := fun k_ => some k_ ≠ (.slice (some ⟨go26, 0, none⟩) y176.length co26 : Value).ownBlock ∧ some k_ ≠ (.slice (some ad204) x9_3.length co76 : Value).ownBlock) (Kd.R_keptB ((Kd.R_apart' HO_8.out (Kd.R_typed HO_180000.out) (by decide))) hkp (fun k_ hk_ hs_ => (hk_.2) hs_)) (fun k_ hk_ => ⟨hk_.1.1.1, hk_.1.1.2⟩))
            replace HO_9 := Ak (Kd.R_mono (ok' := fun k_ => some k_ ≠ (.slice (some ⟨go26, 0, none⟩) y176.length co26 : Value).ownBlock ∧ some k_ ≠ (.slice (some ad203) y196.length co75 : Value).ownBlock) (Kd.R_keptB ((Kd.R_apart' HO_9.out (Kd.R_typed HO_180000.out) (by decide))) hkp (fun k_ hk_ hs_ => (hk_.2) hs_)) (fun k_ hk_ => ⟨hk_.1.1.1, hk_.1.1.2⟩))
            replace BK179 := Ak (blk_kept (by (with_reducible repeat (first | refine blk_drewN ?_ _ | refine blk_drew ?_ | refine blk_alloc ?_ _)); exact BK179.out) hkp (fun hs_ => (fun e_ => (Kd.R_ne HO_180000.out BK179.out (by decide)) e_) hs_))
            replace HO207 := Ak (Kd.R_mono (ok' := fun k_ => True) ho0 (fun k_ hk_ => trivial))
            replace HB := Ak (hb)
            (try clear hb)
            (try clear hkp)
            (try clear ho0)
            obtain ⟨Ao79, co79, eo79⟩ := Kd.R_slice HO207.out
            (first | subst eo79 | (injection eo79 with f1_ f2_ f3_; have f4_ := f1_.symm; have f5_ := f3_.symm; clear f1_ f2_ f3_; subst f4_; subst f5_))
            refine hK.out _ _ ⟨(blk_cell BK179.out 0).trans rfl, (blk_cell BK179.out 1).trans rfl, HS2_, HS3_⟩ (fun hHeld => ?_)
            clear hK K
            refine norm_ (a' := ?_) ?_ ?_
            rotate_left
            · show Act.put _ (some 97) _ = _
              simp only [Act.put, List.setIfInBounds_toArray, List.set_cons_zero, List.set_cons_succ, i64_w, i32_w, u8_w]
              rfl
            refine last_ (i := 9) (N := none) #[true, true, true, true, true, true, true, true, true, true] rfl rfl (one_of HT_.out (by kernel_rfl)) (by decide) (fun K hK => ?_)
            have hs80 : w78.cell? ⟨gb179, 0, none⟩ = some (.slice Ao77 x180000_4.length co77) := (blk_cell BK179.out 0).trans rfl
            have hfs80 := blk_frozen BK179.out 0
            have hs81 : w78.cell? ⟨gb179, 1, none⟩ = some (.int .i64 x180001_4) := (blk_cell BK179.out 1).trans rfl
            have hfs81 := blk_frozen BK179.out 1
            refine skip_ (w1 := ?_) (by rfl) rfl ?_ ?_
            rotate_left
            · go_simp
              rfl
            refine hK.out _ _ ?_
            clear hK K
            refine done_ (done_of HT_.out (by kernel_rfl)) ?_
            try go_wp2
            go_roundg k4
            case measure => have := HJ2.out; have := HK2.out; have := HK3.out; have := HK4.out; omega
            case rel => exact ⟨(wrap64 (x11_4 + 1)), (t205), (t208), (.slice Ao79 t205.length co79), (by first | rfl | (simp; done) | (simp [*]; done)), H', ⟨by have := HJ2.out; have := HK2.out; have := HK3.out; have := HK4.out; omega⟩, ⟨by (try simp only [hl5_3]); (with_reducible repeat (first | apply Kd.R_alloc | apply Kd.R_drewN | apply Kd.R_drew)); exact Kd.R_mono (Kd.R_far (p := ⟨gb179, 1, none⟩) (Kd.R_far (p := ⟨gb179, 0, none⟩) (Kd.R_types HO_5.out BK179.out (by decide)) (fun _ hk => hk.2) (.slice Ao79 t205.length co79)) (fun _ hk => hk.2) (.int .i64 t208)) (fun _ hk => ⟨hk.1.1, hk.1.2⟩)⟩, ⟨by (try simp only [hl5_3]); (with_reducible repeat (first | apply Kd.R_alloc | apply Kd.R_drewN | apply Kd.R_drew)); exact Kd.R_mono (Kd.R_far (p := ⟨gb179, 1, none⟩) (Kd.R_far (p := ⟨gb179, 0, none⟩) (Kd.R_types HO_8.out BK179.out (by decide)) (fun _ hk => hk.2) (.slice Ao79 t205.length co79)) (fun _ hk => hk.2) (.int .i64 t208)) (fun _ hk => ⟨hk.1.1, hk.1.2⟩)⟩, ⟨by (try simp only [hl5_3]); (with_reducible repeat (first | apply Kd.R_alloc | apply Kd.R_drewN | apply Kd.R_drew)); exact Kd.R_mono (Kd.R_far (p := ⟨gb179, 1, none⟩) (Kd.R_far (p := ⟨gb179, 0, none⟩) (Kd.R_types HO_9.out BK179.out (by decide)) (fun _ hk => hk.2) (.slice Ao79 t205.length co79)) (fun _ hk => hk.2) (.int .i64 t208)) (fun _ hk => ⟨hk.1.1, hk.1.2⟩)⟩, ⟨by (try simp only [hl5_3]); (with_reducible repeat (first | apply Kd.R_alloc | apply Kd.R_drewN | apply Kd.R_drew)); exact Kd.R_mono (Kd.R_far (p := ⟨gb179, 1, none⟩) (Kd.R_far (p := ⟨gb179, 0, none⟩) (Kd.R_types HO207.out BK179.out (by decide)) (fun _ hk => hk.2) (.slice Ao79 t205.length co79)) (fun _ hk => hk.2) (.int .i64 t208)) (fun _ hk => trivial)⟩, ⟨by (try simp only [hl5_3]); (with_reducible repeat (first | refine blk_drewN ?_ _ | refine blk_drew ?_ | refine blk_alloc ?_ _)); refine blk_put (cs := #[.slice Ao79 t205.length co79, .int .i64 x180001_4]) ?_ 1 _ rfl; (with_reducible repeat (first | refine blk_drewN ?_ _ | refine blk_drew ?_ | refine blk_alloc ?_ _)); refine blk_put (cs := #[.slice Ao77 x180000_4.length co77, .int .i64 x180001_4]) ?_ 0 _ rfl; (with_reducible repeat (first | refine blk_drewN ?_ _ | refine blk_drew ?_ | refine blk_alloc ?_ _)); exact BK179.out⟩, ⟨by repeat (first | (with_reducible first | exact HB.out | apply below_alloc | apply pw_below_drewN | apply below_drew1 | refine below_set ?_ GE179.out) | exact HB.out)⟩⟩
          rw [if_neg c68] at H
          have c68b0 : decide (x11_4 < 19) = false := decide_eq_false c68
          clear c68
          have H' := Ak H
          clear H
          go_wp2
          go_loopg [12] k4 (fun kq v12 w' => ∃ (x12_5 : Int) (x180000_5 : List Int) (x180001_5 : Int) (u180000 : Value), v12 = .int .i64 x12_5 ∧ Aside0 (valiselaw09_InflateCodes.l3 kq l1 y176 x9_3 x12_5 x180000_5 x180001_5 = some r) ∧ Aside0 (kq ≤ k4) ∧ Aside0 (Kd.R (Kd.int .i64) 3 w' w.heap.size (fun k_ => some k_ ≠ (v200 : Value).ownBlock) (.slice (some ⟨go26, 0, none⟩) y176.length co26) y176) ∧ Aside0 (Kd.R (Kd.int .i64) 3 w' w.heap.size (fun k_ => some k_ ≠ ((.slice (some ⟨go26, 0, none⟩) y176.length co26) : Value).ownBlock) v200 x9_3) ∧ Aside0 (Kd.R (Kd.int .u8) 5 w' w.heap.size (fun _ => True) u180000 x180000_5) ∧ Aside0 (w'.heap[gb179]? = some (.cells #[u180000, .int .i64 x180001_5] 35 (0, 0))) ∧ Aside0 (Below w.heap.size w w'))
          case atStart => exact ⟨(0), (x180000_4), (x180001_4), (u180000), (by first | rfl | (simp; done) | (simp [*]; done)), H', ⟨Nat.le_refl _⟩, ⟨by (try simp only [hl5_3]); (with_reducible repeat (first | apply Kd.R_alloc | apply Kd.R_drewN | apply Kd.R_drew)); exact Kd.R_mono HO_5.out (fun _ hk => hk.2)⟩, ⟨by (try simp only [hl5_3]); (with_reducible repeat (first | apply Kd.R_alloc | apply Kd.R_drewN | apply Kd.R_drew)); exact Kd.R_mono HO_9.out (fun _ hk => hk.1)⟩, ⟨by (try simp only [hl5_3]); (with_reducible repeat (first | apply Kd.R_alloc | apply Kd.R_drewN | apply Kd.R_drew)); exact HO_180000.out⟩, ⟨by (try simp only [hl5_3]); (with_reducible repeat (first | refine blk_drewN ?_ _ | refine blk_drew ?_ | refine blk_alloc ?_ _)); exact BK179.out⟩, ⟨by repeat (first | (with_reducible first | exact HB.out | apply below_alloc | apply pw_below_drewN | apply below_drew1 | refine below_set ?_ GE179.out) | exact HB.out)⟩⟩
          case round =>
            clear H'
            (try clear c1); (try clear p1); (try clear q1); (try clear hx1); (try clear c2); (try clear p2); (try clear q2); (try clear hx2); (try clear qi2); (try clear hf2); (try clear c3); (try clear c4); (try clear c4b0); (try clear c4b1); (try clear c5); (try clear c6); (try clear p6); (try clear q6); (try clear hx6); (try clear hf6); (try clear c7); (try clear c8); (try clear c8b0); (try clear c8b1); (try clear c9); (try clear c10); (try clear c11); (try clear c11b0); (try clear c13); (try clear c13b0); (try clear c14); (try clear c14b0); (try clear c15); (try clear p17); (try clear q17); (try clear hx17); (try clear c18); (try clear c18b0); (try clear c19); (try clear c19b0); (try clear c20); (try clear c20b0); (try clear p20); (try clear q20); (try clear hx20); (try clear c21); (try clear c21b0); (try clear p22); (try clear q22); (try clear hx22); (try clear hf22); (try clear c25); (try clear c25b0); (try clear c25b1); (try clear p26); (try clear q26); (try clear hx26); (try clear qi26); (try clear hf26); (try clear c28); (try clear c28b0); (try clear c28b1); (try clear c33); (try clear c33b0); (try clear c33b1); (try clear c62); (try clear c62b0); (try clear c63); (try clear c63b0); (try clear c64); (try clear c64b0); (try clear p64); (try clear p65); (try clear q65); (try clear hx65); (try clear hf65); (try clear c68); (try clear c68b0); (try clear c69); (try clear c69b0); (try clear c70); (try clear c70b0); (try clear c71); (try clear c71b0); (try clear c72); (try clear c72b0); (try clear hcz37_0); (try clear hcz37_1); (try clear hcz39_0); (try clear hcz39_1); (try clear hcz42_0); (try clear hcz42_1); (try clear hcz44_0); (try clear hcz44_1); (try clear hcz47_0); (try clear hcz47_1); (try clear hcz49_0); (try clear hcz49_1); (try clear hcz52_0); (try clear hcz52_1); (try clear hcz54_0); (try clear hcz54_1); (try clear hcz57_0); (try clear hcz57_1); (try clear hfz37_0); (try clear hfz37_1); (try clear hfz39_0); (try clear hfz39_1); (try clear hfz42_0); (try clear hfz42_1); (try clear hfz44_0); (try clear hfz44_1); (try clear hfz47_0); (try clear hfz47_1); (try clear hfz49_0); (try clear hfz49_1); (try clear hfz52_0); (try clear hfz52_1); (try clear hfz54_0); (try clear hfz54_1); (try clear hfz57_0); (try clear hfz57_1); (try clear hx170_0); (try clear hx171_0); (try clear hx173_0); (try clear hx174_0); (try clear hx203_0); (try clear hx204_0); (try clear hx22_0); (try clear hx26_0); (try clear hx65_0); (try clear p1); (try clear p17); (try clear p170); (try clear p171); (try clear p173); (try clear p174); (try clear p2); (try clear p203); (try clear p204); (try clear p22); (try clear p26); (try clear p6); (try clear p64); (try clear p65); (try clear q1); (try clear q17); (try clear q170); (try clear q171); (try clear q173); (try clear q174); (try clear q2); (try clear q203); (try clear q204); (try clear q22); (try clear q26); (try clear q6); (try clear q65)
            obtain ⟨x12_5, x180000_5, x180001_5, u180000, rfl, HA, HK5, HO_5, HO_9, HO_180000, BK179, HB⟩ := hrel
            cases gk with
            | zero => exact absurd HA.out (by simp [valiselaw09_InflateCodes.l3])
            | succ k5 => ?_
            have H := HA.out
            clear HA
            simp only [valiselaw09_InflateCodes.l3] at H
            by_cases c82 : x12_5 < 257
            · rw [if_pos c82] at H
              have c82b0 : decide (x12_5 < 257) = true := decide_eq_true c82
              clear c82
              by_cases c83 : 0 ≤ x12_5
              rotate_left
              · rw [if_neg c83] at H
                exact absurd H (by simp)
              rw [if_pos c83] at H
              have c83b0 : decide (0 ≤ x12_5) = true := decide_eq_true c83
              clear c83
              by_cases c84 : x12_5 < (y176.length : Int)
              rotate_left
              · rw [if_neg c84] at H
                exact absurd H (by simp)
              rw [if_pos c84] at H
              have c84b0 : decide (x12_5 < (y176.length : Int)) = true := decide_eq_true c84
              clear c84
              replace H := Option.bind_eq_some_iff.mp H
              obtain ⟨⟨t210, t213, t214⟩, A850, H⟩ := H
              replace H : (valiselaw09_InflateCodes.l3 k5 l1 y176 x9_3 (wrap64 (x12_5 + 1)) t210 t213) = some r := H
              have A85 := Ak A850
              clear A850
              have H' := Ak H
              clear H
              try go_wp2
              replace HO_5 := Ak (Kd.R_drew HO_5.out)
              replace HO_9 := Ak (Kd.R_drew HO_9.out)
              replace HO_180000 := Ak (Kd.R_drew HO_180000.out)
              replace BK179 := Ak (blk_drew BK179.out)
              replace HB := Ak (below_drew1 HB.out)
              have p209 : 0 ≤ (x12_5 : Int) := of_decide_eq_true (by first | (with_reducible assumption) | assumption)
              have q209 : x12_5 < (y176.length : Int) := of_decide_eq_true (by first | (with_reducible assumption) | assumption)
              obtain ⟨ad209, e209, hx209_0⟩ := Kd.at_int (Kd.R_reads' HO_5.out).2.2 x12_5 p209 q209
              obtain rfl : (⟨go26, 0, none⟩ : Addr) = ad209 := (by injection e209)
              (first | simp only [add_plain] at hx209_0 | simp only [add_at] at hx209_0 | simp only [Addr.add, Nat.zero_add] at hx209_0 | skip)
              replace p209 := eq_true p209
              replace q209 := eq_true q209
              obtain ⟨Ao87, co87, eo87⟩ := Kd.R_slice HO_180000.out
              (first | subst eo87 | (injection eo87 with f1_ f2_ f3_; have f4_ := f1_.symm; have f5_ := f3_.symm; clear f1_ f2_ f3_; subst f4_; subst f5_))
              obtain ⟨Ao88, co88, eo88⟩ := Kd.R_slice HO_9.out
              (first | subst eo88 | (injection eo88 with f1_ f2_ f3_; have f4_ := f1_.symm; have f5_ := f3_.symm; clear f1_ f2_ f3_; subst f4_; subst f5_))
              refine start_ (n := 11) (S := fun w' => w'.cell? ⟨gb179, 0, none⟩ = some (.slice Ao87 x180000_5.length co87) ∧ w'.cell? ⟨gb179, 1, none⟩ = some (.int .i64 x180001_5) ∧ w'.cell? ⟨go26, (x12_5).toNat, none⟩ = some (.int .i64 (rd y176 x12_5))) (ds := [10]) #[false, false, false, false, false, false, false, false, false, false, false] (by kernel_rfl) rfl rfl ⟨(blk_cell BK179.out 0).trans rfl, (blk_cell BK179.out 1).trans rfl, hx209_0⟩ (fun hHeld => ?_); refine with_tabW valiselaw09_InflateCodes.tab32 valiselaw09_InflateCodes.bits32 (fun HT_ HW_ => ?_)
              generalize wr.drew = w86 at HO_5 HO_9 HO_180000 BK179 HB hx209_0 hHeld ⊢
              refine pure_ (i := 1) (N := some 104) (v := ?_) (a' := ?_) #[false, true, false, false, false, false, false, false, false, false, false] rfl rfl (any_of HT_.out (by kernel_rfl)) (fun _ _ _ h => h) (Or.inl ⟨by rfl, ?_⟩) ?_ ?_
              rotate_left
              · intro w'
                go_simp
                with_reducible rfl
              rotate_left
              · simp only [Act.put, List.setIfInBounds_toArray, List.set_cons_zero, List.set_cons_succ, i64_w, i32_w, u8_w]
                rfl
              refine pure_ (i := 2) (N := some 105) (v := ?_) (a' := ?_) #[false, true, true, false, false, false, false, false, false, false, false] rfl rfl (any_of HT_.out (by kernel_rfl)) (fun _ _ _ h => h) (Or.inl ⟨by rfl, ?_⟩) ?_ ?_
              rotate_left
              · intro w'
                go_simp
                with_reducible rfl
              rotate_left
              · simp only [Act.put, List.setIfInBounds_toArray, List.set_cons_zero, List.set_cons_succ, i64_w, i32_w, u8_w]
                rfl
              refine pure_ (i := 3) (N := some 106) (v := ?_) (a' := ?_) #[false, true, true, true, false, false, false, false, false, false, false] rfl rfl (any_of HT_.out (by kernel_rfl)) (fun _ _ _ h => h) (Or.inl ⟨by rfl, ?_⟩) ?_ ?_
              rotate_left
              · intro w'
                go_simp
                with_reducible rfl
              rotate_left
              · simp only [Act.put, List.setIfInBounds_toArray, List.set_cons_zero, List.set_cons_succ, i64_w, i32_w, u8_w]
                rfl
              refine pure_ (i := 4) (N := some 107) (v := ?_) (a' := ?_) #[false, true, true, true, true, false, false, false, false, false, false] rfl rfl (any_of HT_.out (by kernel_rfl)) (fun _ _ _ h => h) (Or.inl ⟨by rfl, ?_⟩) ?_ ?_
              rotate_left
              · intro w'
                go_simp
                with_reducible rfl
              rotate_left
              · simp only [Act.put, List.setIfInBounds_toArray, List.set_cons_zero, List.set_cons_succ, i64_w, i32_w, u8_w]
                rfl
              refine take_ (i := 0) (N := some 103) (v := ?_) (a' := ?_) #[true, true, true, true, true, false, false, false, false, false, false] rfl rfl (take_ofW HT_.out HW_.out (by kernel_rfl)) (fun _ _ _ h => h) (Or.inl ⟨by rfl, ?_⟩) hHeld ?_ ?_
              rotate_left
              · rintro w' ⟨s0, s1, s2⟩
                go_simp
                with_reducible rfl
              rotate_left
              · simp only [Act.put, List.setIfInBounds_toArray, List.set_cons_zero, List.set_cons_succ, i64_w, i32_w, u8_w]
                rfl
              refine take_ (i := 5) (N := some 108) (v := ?_) (a' := ?_) #[true, true, true, true, true, true, false, false, false, false, false] rfl rfl (take_ofW HT_.out HW_.out (by kernel_rfl)) (fun _ _ _ h => h) (Or.inl ⟨by rfl, ?_⟩) hHeld ?_ ?_
              rotate_left
              · rintro w' ⟨s0, s1, s2⟩
                go_simp
                with_reducible rfl
              rotate_left
              · simp only [Act.put, List.setIfInBounds_toArray, List.set_cons_zero, List.set_cons_succ, i64_w, i32_w, u8_w]
                rfl
              refine one_ (i := 6) (N := some 109) #[true, true, true, true, true, true, true, false, false, false, false] rfl rfl (one_of HT_.out (by kernel_rfl)) (by decide) (fun K hK => ?_)
              refine goes_ Tryd.func11 (by kernel_rfl) rfl #[.agg #[.slice Ao87 x180000_5.length co87, .int .i64 x180001_5], .slice Ao88 x9_3.length co88, .int .i64 (rd y176 x12_5)] (by rfl) rfl rfl (by (try simp only [List.map_toArray, List.map_cons, List.map_nil]); first | done | rfl | (simp only [List.length_drop, List.length_take]; rfl)) ?_
              with_reducible refine (valiseref04_Put.calls k5 _ _ x180000_5 x180001_5 _ _ x9_3 (rd y176 x12_5) t210 t213 t214 _ ?side1 ?side2 ?side3 ?side4 A85.out).mono ?_
              (case side1 => repeat (first | exact (Kd.R_reads' HO_180000.out).2.2 | (with_reducible refine Kd.C_alloc ?_ _) | (with_reducible refine Kd.C_drewN ?_ _) | (with_reducible refine Kd.C_drew ?_)))
              (case side2 => exact (Kd.R_reads' HO_180000.out).2.1)
              (case side3 => repeat (first | exact (Kd.R_reads' HO_9.out).2.2 | (with_reducible refine Kd.C_alloc ?_ _) | (with_reducible refine Kd.C_drewN ?_ _) | (with_reducible refine Kd.C_drew ?_)))
              (case side4 => exact (Kd.R_reads' HO_9.out).2.1)
              rintro e w89 ⟨v211, rfl, ho0, hb⟩
              have HS2_ := (hb.cell (World.block_lt_of_cell? _ _ (hHeld.2.2))).trans (hHeld.2.2)
              refine ⟨_, rfl, ?_⟩
              replace HO_5 := Ak (Kd.R_below (by (with_reducible repeat (first | apply Kd.R_alloc | apply Kd.R_drewN | apply Kd.R_drew)); exact HO_5.out) hb)
              replace HO_9 := Ak (Kd.R_below (by (with_reducible repeat (first | apply Kd.R_alloc | apply Kd.R_drewN | apply Kd.R_drew)); exact HO_9.out) hb)
              replace HO212 := Ak (Kd.R_lower (Kd.R_new' ho0 (Kd.R_lt (by (with_reducible repeat (first | apply Kd.R_alloc | apply Kd.R_drewN | apply Kd.R_drew)); exact HO_180000.out))) (below_size (by repeat (first | (with_reducible first | exact HB.out | apply below_alloc | apply pw_below_drewN | apply below_drew1 | refine below_set ?_ GE179.out) | exact HB.out))))
              replace HO_180000 := Ak (Kd.R_elder' (by (with_reducible repeat (first | apply Kd.R_alloc | apply Kd.R_drewN | apply Kd.R_drew)); exact HO_180000.out) (Kd.R_base ho0) hb)
              replace BK179 := Ak (blk_below (g := gb179) (o := .cells #[.slice Ao87 x180000_5.length co87, .int .i64 x180001_5] 35 (0, 0)) (by (with_reducible repeat (first | refine blk_drewN ?_ _ | refine blk_drew ?_ | refine blk_alloc ?_ _)); exact BK179.out) hb)
              replace HB := Ak (below_step (by repeat (first | (with_reducible first | exact HB.out | apply below_alloc | apply pw_below_drewN | apply below_drew1 | refine below_set ?_ GE179.out) | exact HB.out)) hb)
              (try clear hb)
              (try clear hb2)
              (try clear hk)
              (try clear hi)
              (try clear ho0)
              obtain ⟨Ao90, co90, eo90⟩ := Kd.R_slice HO212.out
              (first | subst eo90 | (injection eo90 with f1_ f2_ f3_; have f4_ := f1_.symm; have f5_ := f3_.symm; clear f1_ f2_ f3_; subst f4_; subst f5_))
              refine hK.out _ _ ⟨(blk_cell BK179.out 0).trans rfl, (blk_cell BK179.out 1).trans rfl, HS2_⟩ (fun hHeld => ?_)
              clear hK K
              refine norm_ (a' := ?_) ?_ ?_
              rotate_left
              · show Act.put _ (some 109) _ = _
                simp only [Act.put, List.setIfInBounds_toArray, List.set_cons_zero, List.set_cons_succ, i64_w, i32_w, u8_w]
                rfl
              refine pure_ (i := 7) (N := some 102) (v := ?_) (a' := ?_) #[true, true, true, true, true, true, true, true, false, false, false] rfl rfl (any_of HT_.out (by kernel_rfl)) (fun _ _ _ h => h) (Or.inl ⟨by rfl, ?_⟩) ?_ ?_
              rotate_left
              · intro w'
                go_simp
                with_reducible rfl
              rotate_left
              · simp only [Act.put, List.setIfInBounds_toArray, List.set_cons_zero, List.set_cons_succ, i64_w, i32_w, u8_w]
                rfl
              refine pure_ (i := 8) (N := some 110) (v := ?_) (a' := ?_) #[true, true, true, true, true, true, true, true, true, false, false] rfl rfl (any_of HT_.out (by kernel_rfl)) (fun _ _ _ h => h) (Or.inl ⟨by rfl, ?_⟩) ?_ ?_
              rotate_left
              · intro w'
                go_simp
                with_reducible rfl
              rotate_left
              · simp only [Act.put, List.setIfInBounds_toArray, List.set_cons_zero, List.set_cons_succ, i64_w, i32_w, u8_w]
                rfl
              refine pure_ (i := 9) (N := some 111) (v := ?_) (a' := ?_) #[true, true, true, true, true, true, true, true, true, true, false] rfl rfl (any_of HT_.out (by kernel_rfl)) (fun _ _ _ h => h) (Or.inl ⟨by rfl, ?_⟩) ?_ ?_
              rotate_left
              · intro w'
                go_simp
                with_reducible rfl
              rotate_left
              · simp only [Act.put, List.setIfInBounds_toArray, List.set_cons_zero, List.set_cons_succ, i64_w, i32_w, u8_w]
                rfl
              refine last_ (i := 10) (N := none) #[true, true, true, true, true, true, true, true, true, true, true] rfl rfl (one_of HT_.out (by kernel_rfl)) (by decide) (fun K hK => ?_)
              have hs91 : w89.cell? ⟨gb179, 0, none⟩ = some (.slice Ao87 x180000_5.length co87) := (blk_cell BK179.out 0).trans rfl
              have hfs91 := blk_frozen BK179.out 0
              have hs92 : w89.cell? ⟨gb179, 1, none⟩ = some (.int .i64 x180001_5) := (blk_cell BK179.out 1).trans rfl
              have hfs92 := blk_frozen BK179.out 1
              refine skip_ (w1 := ?_) (by rfl) rfl ?_ ?_
              rotate_left
              · go_simp
                rfl
              refine hK.out _ _ ?_
              clear hK K
              refine done_ (done_of HT_.out (by kernel_rfl)) ?_
              try go_wp2
              go_roundg k5
              case measure => have := HJ2.out; have := HK2.out; have := HK3.out; have := HK4.out; have := HK5.out; omega
              case rel => exact ⟨(wrap64 (x12_5 + 1)), (t210), (t213), (.slice Ao90 t210.length co90), (by first | rfl | (simp; done) | (simp [*]; done)), H', ⟨by have := HJ2.out; have := HK2.out; have := HK3.out; have := HK4.out; have := HK5.out; omega⟩, ⟨by (try simp only [hl5_3]); (with_reducible repeat (first | apply Kd.R_alloc | apply Kd.R_drewN | apply Kd.R_drew)); exact Kd.R_mono (Kd.R_far (p := ⟨gb179, 1, none⟩) (Kd.R_far (p := ⟨gb179, 0, none⟩) (Kd.R_types HO_5.out BK179.out (by decide)) (fun _ hk => hk.2) (.slice Ao90 t210.length co90)) (fun _ hk => hk.2) (.int .i64 t213)) (fun _ hk => hk.1)⟩, ⟨by (try simp only [hl5_3]); (with_reducible repeat (first | apply Kd.R_alloc | apply Kd.R_drewN | apply Kd.R_drew)); exact Kd.R_mono (Kd.R_far (p := ⟨gb179, 1, none⟩) (Kd.R_far (p := ⟨gb179, 0, none⟩) (Kd.R_types HO_9.out BK179.out (by decide)) (fun _ hk => hk.2) (.slice Ao90 t210.length co90)) (fun _ hk => hk.2) (.int .i64 t213)) (fun _ hk => hk.1)⟩, ⟨by (try simp only [hl5_3]); (with_reducible repeat (first | apply Kd.R_alloc | apply Kd.R_drewN | apply Kd.R_drew)); exact Kd.R_mono (Kd.R_far (p := ⟨gb179, 1, none⟩) (Kd.R_far (p := ⟨gb179, 0, none⟩) (Kd.R_types HO212.out BK179.out (by decide)) (fun _ hk => hk.2) (.slice Ao90 t210.length co90)) (fun _ hk => hk.2) (.int .i64 t213)) (fun _ hk => trivial)⟩, ⟨by (try simp only [hl5_3]); (with_reducible repeat (first | refine blk_drewN ?_ _ | refine blk_drew ?_ | refine blk_alloc ?_ _)); refine blk_put (cs := #[.slice Ao90 t210.length co90, .int .i64 x180001_5]) ?_ 1 _ rfl; (with_reducible repeat (first | refine blk_drewN ?_ _ | refine blk_drew ?_ | refine blk_alloc ?_ _)); refine blk_put (cs := #[.slice Ao87 x180000_5.length co87, .int .i64 x180001_5]) ?_ 0 _ rfl; (with_reducible repeat (first | refine blk_drewN ?_ _ | refine blk_drew ?_ | refine blk_alloc ?_ _)); exact BK179.out⟩, ⟨by repeat (first | (with_reducible first | exact HB.out | apply below_alloc | apply pw_below_drewN | apply below_drew1 | refine below_set ?_ GE179.out) | exact HB.out)⟩⟩
            rw [if_neg c82] at H
            have c82b0 : decide (x12_5 < 257) = false := decide_eq_false c82
            clear c82
            replace H := Option.bind_eq_some_iff.mp H
            obtain ⟨⟨t215, t218, t219⟩, A930, H⟩ := H
            replace H : (valiselaw09_InflateCodes.l4 k5 l1 y176 (⟨#[]⟩ : ByteArray) 0 t215 t218) = some r := H
            have A93 := Ak A930
            clear A930
            have H' := Ak H
            clear H
            have hcz94_0 : wr.cell? ⟨gb179, 0, none⟩ = some (u180000) := (blk_cell BK179.out 0).trans rfl
            have hcz94_1 : wr.cell? ⟨gb179, 1, none⟩ = some (.int .i64 x180001_5) := (blk_cell BK179.out 1).trans rfl
            have hfz94_0 := blk_frozen BK179.out 0
            have hfz94_1 := blk_frozen BK179.out 1
            obtain ⟨Ao95, co95, eo95⟩ := Kd.R_slice HO_180000.out
            subst eo95
            obtain ⟨Ao96, co96, eo96⟩ := Kd.R_slice HO_9.out
            subst eo96
            go_wp2_with (first | ((with_reducible refine gate_callee (f := 11) rfl ?_); refine goesL_ (some 115) rfl rfl Tryd.func11 (by kernel_rfl) rfl #[.agg #[.slice Ao95 x180000_5.length co95, .int .i64 x180001_5], .slice Ao96 x9_3.length co96, .int .i64 0] rfl (by (try simp only [List.map_toArray, List.map_cons, List.map_nil]); first | done | rfl | (simp only [List.length_drop, List.length_take]; rfl)) ?_; (with_reducible refine (valiseref04_Put.calls k5 _ _ x180000_5 x180001_5 _ _ x9_3 0 t215 t218 t219 _ ?side1 ?side2 ?side3 ?side4 A93.out).mono ?_); (case side1 => repeat (first | exact (Kd.R_reads' HO_180000.out).2.2 | (with_reducible refine Kd.C_alloc ?_ _) | (with_reducible refine Kd.C_drewN ?_ _) | (with_reducible refine Kd.C_drew ?_))); (case side2 => exact (Kd.R_reads' HO_180000.out).2.1); (case side3 => repeat (first | exact (Kd.R_reads' HO_9.out).2.2 | (with_reducible refine Kd.C_alloc ?_ _) | (with_reducible refine Kd.C_drewN ?_ _) | (with_reducible refine Kd.C_drew ?_))); (case side4 => exact (Kd.R_reads' HO_9.out).2.1); rintro e w97 ⟨v216, rfl, ho0, hb⟩; refine ⟨_, rfl, ?_⟩; replace HO_5 := Ak (Kd.R_below (by (with_reducible repeat (first | apply Kd.R_alloc | apply Kd.R_drewN | apply Kd.R_drew)); exact HO_5.out) hb); replace HO_9 := Ak (Kd.R_below (by (with_reducible repeat (first | apply Kd.R_alloc | apply Kd.R_drewN | apply Kd.R_drew)); exact HO_9.out) hb); replace HO217 := Ak (Kd.R_lower (Kd.R_new' ho0 (Kd.R_lt (by (with_reducible repeat (first | apply Kd.R_alloc | apply Kd.R_drewN | apply Kd.R_drew)); exact HO_180000.out))) (below_size (by repeat (first | (with_reducible first | exact HB.out | apply below_alloc | apply pw_below_drewN | apply below_drew1 | refine below_set ?_ GE179.out) | exact HB.out)))); replace HO_180000 := Ak (Kd.R_elder' (by (with_reducible repeat (first | apply Kd.R_alloc | apply Kd.R_drewN | apply Kd.R_drew)); exact HO_180000.out) (Kd.R_base ho0) hb); replace BK179 := Ak (blk_below (g := gb179) (o := .cells #[.slice Ao95 x180000_5.length co95, .int .i64 x180001_5] 35 (0, 0)) (by (with_reducible repeat (first | refine blk_drewN ?_ _ | refine blk_drew ?_ | refine blk_alloc ?_ _)); exact BK179.out) hb); replace HB := Ak (below_step (by repeat (first | (with_reducible first | exact HB.out | apply below_alloc | apply pw_below_drewN | apply below_drew1 | refine below_set ?_ GE179.out) | exact HB.out)) hb); (try clear hb); (try clear hb2); (try clear hk); (try clear hi); (try clear ho0); obtain ⟨Ao98, co98, eo98⟩ := Kd.R_slice HO217.out; subst eo98; have hcz99_0 : w97.cell? ⟨gb179, 0, none⟩ = some (.slice Ao95 x180000_5.length co95) := (blk_cell BK179.out 0).trans rfl; have hcz99_1 : w97.cell? ⟨gb179, 1, none⟩ = some (.int .i64 x180001_5) := (blk_cell BK179.out 1).trans rfl; have hfz99_0 := blk_frozen BK179.out 0; have hfz99_1 := blk_frozen BK179.out 1))
            go_loopg [13, 14] k5 (fun kq v13 v14 w' => ∃ (x13_6 : ByteArray) (x14_6 : Int) (x180000_6 : List Int) (x180001_6 : Int) (u180000 : Value), v13 = .string x13_6 ∧ v14 = .int .i64 x14_6 ∧ Aside0 (valiselaw09_InflateCodes.l4 kq l1 y176 x13_6 x14_6 x180000_6 x180001_6 = some r) ∧ Aside0 (kq ≤ k5) ∧ Aside0 (Kd.R (Kd.int .i64) 3 w' w.heap.size (fun _ => True) (.slice (some ⟨go26, 0, none⟩) y176.length co26) y176) ∧ Aside0 (Kd.R (Kd.int .u8) 5 w' w.heap.size (fun _ => True) u180000 x180000_6) ∧ Aside0 (w'.heap[gb179]? = some (.cells #[u180000, .int .i64 x180001_6] 35 (0, 0))) ∧ Aside0 (Below w.heap.size w w'))
            case atStart => exact ⟨((⟨#[]⟩ : ByteArray)), (0), (t215), (t218), (.slice Ao98 t215.length co98), (by first | rfl | (simp; done) | (simp [*]; done)), (by first | rfl | (simp; done) | (simp [*]; done)), H', ⟨Nat.le_refl _⟩, ⟨by (try simp only [hl5_3]); (with_reducible repeat (first | apply Kd.R_alloc | apply Kd.R_drewN | apply Kd.R_drew)); exact Kd.R_mono (Kd.R_far (p := ⟨gb179, 1, none⟩) (Kd.R_far (p := ⟨gb179, 0, none⟩) (Kd.R_types HO_5.out BK179.out (by decide)) (fun _ hk => hk.2) (.slice Ao98 t215.length co98)) (fun _ hk => hk.2) (.int .i64 t218)) (fun _ hk => trivial)⟩, ⟨by (try simp only [hl5_3]); (with_reducible repeat (first | apply Kd.R_alloc | apply Kd.R_drewN | apply Kd.R_drew)); exact Kd.R_mono (Kd.R_far (p := ⟨gb179, 1, none⟩) (Kd.R_far (p := ⟨gb179, 0, none⟩) (Kd.R_types HO217.out BK179.out (by decide)) (fun _ hk => hk.2) (.slice Ao98 t215.length co98)) (fun _ hk => hk.2) (.int .i64 t218)) (fun _ hk => trivial)⟩, ⟨by (try simp only [hl5_3]); (with_reducible repeat (first | refine blk_drewN ?_ _ | refine blk_drew ?_ | refine blk_alloc ?_ _)); refine blk_put (cs := #[.slice Ao98 t215.length co98, .int .i64 x180001_5]) ?_ 1 _ rfl; (with_reducible repeat (first | refine blk_drewN ?_ _ | refine blk_drew ?_ | refine blk_alloc ?_ _)); refine blk_put (cs := #[.slice Ao95 x180000_5.length co95, .int .i64 x180001_5]) ?_ 0 _ rfl; (with_reducible repeat (first | refine blk_drewN ?_ _ | refine blk_drew ?_ | refine blk_alloc ?_ _)); exact BK179.out⟩, ⟨by repeat (first | (with_reducible first | exact HB.out | apply below_alloc | apply pw_below_drewN | apply below_drew1 | refine below_set ?_ GE179.out) | exact HB.out)⟩⟩
            case round =>
              clear H'
              (try clear c1); (try clear p1); (try clear q1); (try clear hx1); (try clear c2); (try clear p2); (try clear q2); (try clear hx2); (try clear qi2); (try clear hf2); (try clear c3); (try clear c4); (try clear c4b0); (try clear c4b1); (try clear c5); (try clear c6); (try clear p6); (try clear q6); (try clear hx6); (try clear hf6); (try clear c7); (try clear c8); (try clear c8b0); (try clear c8b1); (try clear c9); (try clear c10); (try clear c11); (try clear c11b0); (try clear c13); (try clear c13b0); (try clear c14); (try clear c14b0); (try clear c15); (try clear p17); (try clear q17); (try clear hx17); (try clear c18); (try clear c18b0); (try clear c19); (try clear c19b0); (try clear c20); (try clear c20b0); (try clear p20); (try clear q20); (try clear hx20); (try clear c21); (try clear c21b0); (try clear p22); (try clear q22); (try clear hx22); (try clear hf22); (try clear c25); (try clear c25b0); (try clear c25b1); (try clear p26); (try clear q26); (try clear hx26); (try clear qi26); (try clear hf26); (try clear c28); (try clear c28b0); (try clear c28b1); (try clear c33); (try clear c33b0); (try clear c33b1); (try clear c62); (try clear c62b0); (try clear c63); (try clear c63b0); (try clear c64); (try clear c64b0); (try clear p64); (try clear p65); (try clear q65); (try clear hx65); (try clear hf65); (try clear c68); (try clear c68b0); (try clear c69); (try clear c69b0); (try clear c70); (try clear c70b0); (try clear c71); (try clear c71b0); (try clear c72); (try clear c72b0); (try clear c82); (try clear c82b0); (try clear c83); (try clear c83b0); (try clear c84); (try clear c84b0); (try clear hcz37_0); (try clear hcz37_1); (try clear hcz39_0); (try clear hcz39_1); (try clear hcz42_0); (try clear hcz42_1); (try clear hcz44_0); (try clear hcz44_1); (try clear hcz47_0); (try clear hcz47_1); (try clear hcz49_0); (try clear hcz49_1); (try clear hcz52_0); (try clear hcz52_1); (try clear hcz54_0); (try clear hcz54_1); (try clear hcz57_0); (try clear hcz57_1); (try clear hcz94_0); (try clear hcz94_1); (try clear hcz99_0); (try clear hcz99_1); (try clear hfz37_0); (try clear hfz37_1); (try clear hfz39_0); (try clear hfz39_1); (try clear hfz42_0); (try clear hfz42_1); (try clear hfz44_0); (try clear hfz44_1); (try clear hfz47_0); (try clear hfz47_1); (try clear hfz49_0); (try clear hfz49_1); (try clear hfz52_0); (try clear hfz52_1); (try clear hfz54_0); (try clear hfz54_1); (try clear hfz57_0); (try clear hfz57_1); (try clear hfz94_0); (try clear hfz94_1); (try clear hfz99_0); (try clear hfz99_1); (try clear hx170_0); (try clear hx171_0); (try clear hx173_0); (try clear hx174_0); (try clear hx203_0); (try clear hx204_0); (try clear hx209_0); (try clear hx22_0); (try clear hx26_0); (try clear hx65_0); (try clear p1); (try clear p17); (try clear p170); (try clear p171); (try clear p173); (try clear p174); (try clear p2); (try clear p20); (try clear p203); (try clear p204); (try clear p209); (try clear p22); (try clear p26); (try clear p6); (try clear p64); (try clear p65); (try clear q1); (try clear q17); (try clear q170); (try clear q171); (try clear q173); (try clear q174); (try clear q2); (try clear q20); (try clear q203); (try clear q204); (try clear q209); (try clear q22); (try clear q26); (try clear q6); (try clear q65)
              obtain ⟨x13_6, x14_6, x180000_6, x180001_6, u180000, rfl, rfl, HA, HK6, HO_5, HO_180000, BK179, HB⟩ := hrel
              cases gk with
              | zero => exact absurd HA.out (by simp [valiselaw09_InflateCodes.l4])
              | succ k6 => ?_
              have H := HA.out
              clear HA
              simp only [valiselaw09_InflateCodes.l4] at H
              by_cases c100 : x14_6 < (l1.length : Int)
              rotate_left
              · rw [if_neg c100] at H
                have c100b0 : decide (x14_6 < (l1.length : Int)) = false := decide_eq_false c100
                clear c100
                replace H := Option.bind_eq_some_iff.mp H
                obtain ⟨⟨t230, t233, t234⟩, A1150, H⟩ := H
                replace H : ((inflate_Decode.f t230 65536).bind fun bt235 => (if (strOfNums bt235.1).toList = x13_6.toList then (if bt235.2.1 = (t230.length : Int) then (if bt235.2.2 = 0 then ((valiselaw09_lives.f).bind fun t240 => (some t240)) else (some false)) else (some false)) else (some false))) = some r := H
                have A115 := Ak A1150
                clear A1150
                replace H := Option.bind_eq_some_iff.mp H
                obtain ⟨⟨t235, t236, t237⟩, A1160, H⟩ := H
                replace H : (if (strOfNums t235).toList = x13_6.toList then (if t236 = (t230.length : Int) then (if t237 = 0 then ((valiselaw09_lives.f).bind fun t240 => (some t240)) else (some false)) else (some false)) else (some false)) = some r := H
                have A116 := Ak A1160
                clear A1160
                by_cases c117 : (strOfNums t235).toList = x13_6.toList
                rotate_left
                · rw [if_neg c117] at H
                  have c117b0 : ((strOfNums t235).toList == x13_6.toList) = false := beq_eq_false_iff_ne.mpr c117
                  have c117b1 : ((strOfNums t235).toList != x13_6.toList) = true := bne_iff_ne.mpr c117
                  obtain rfl := Option.some.inj H
                  cases hrt
                rw [if_pos c117] at H
                have c117b0 : ((strOfNums t235).toList == x13_6.toList) = true := beq_iff_eq.mpr c117
                have c117b1 : ((strOfNums t235).toList != x13_6.toList) = false := bne_eq_false_iff_eq.mpr c117
                clear c117
                by_cases c118 : t236 = (t230.length : Int)
                · rw [if_pos c118] at H
                  have c118b0 : (t236 == (t230.length : Int)) = true := beq_iff_eq.mpr c118
                  have c118b1 : (t236 != (t230.length : Int)) = false := bne_eq_false_iff_eq.mpr c118
                  clear c118
                  by_cases c119 : t237 = 0
                  · rw [if_pos c119] at H
                    have c119b0 : (t237 == 0) = true := beq_iff_eq.mpr c119
                    have c119b1 : (t237 != 0) = false := bne_eq_false_iff_eq.mpr c119
                    clear c119
                    replace H := Option.bind_eq_some_iff.mp H
                    obtain ⟨t240, A1200, H⟩ := H
                    replace H : (some t240) = some r := H
                    have A120 := Ak A1200
                    clear A1200
                    obtain rfl := Option.some.inj H
                    have hcz121_0 : wr.cell? ⟨gb179, 0, none⟩ = some (u180000) := (blk_cell BK179.out 0).trans rfl
                    have hcz121_1 : wr.cell? ⟨gb179, 1, none⟩ = some (.int .i64 x180001_6) := (blk_cell BK179.out 1).trans rfl
                    have hfz121_0 := blk_frozen BK179.out 0
                    have hfz121_1 := blk_frozen BK179.out 1
                    obtain ⟨Ao122, co122, eo122⟩ := Kd.R_slice HO_180000.out
                    subst eo122
                    go_wp2_with (first | ((with_reducible refine gate_callee (f := 11) rfl ?_); refine goesL_ (some 150) rfl rfl Tryd.func11 (by kernel_rfl) rfl #[.agg #[.slice Ao122 x180000_6.length co122, .int .i64 x180001_6], .slice (some ⟨go26, 0, none⟩) y176.length co26, .int .i64 256] rfl (by (try simp only [List.map_toArray, List.map_cons, List.map_nil]); first | done | rfl | (simp only [List.length_drop, List.length_take]; rfl)) ?_; (with_reducible refine (valiseref04_Put.calls k6 _ _ x180000_6 x180001_6 _ _ y176 256 t230 t233 t234 _ ?side1 ?side2 ?side3 ?side4 A115.out).mono ?_); (case side1 => repeat (first | exact (Kd.R_reads' HO_180000.out).2.2 | (with_reducible refine Kd.C_alloc ?_ _) | (with_reducible refine Kd.C_drewN ?_ _) | (with_reducible refine Kd.C_drew ?_))); (case side2 => exact (Kd.R_reads' HO_180000.out).2.1); (case side3 => repeat (first | exact (Kd.R_reads' HO_5.out).2.2 | (with_reducible refine Kd.C_alloc ?_ _) | (with_reducible refine Kd.C_drewN ?_ _) | (with_reducible refine Kd.C_drew ?_))); (case side4 => exact (Kd.R_reads' HO_5.out).2.1); rintro e w123 ⟨v231, rfl, ho0, hb⟩; refine ⟨_, rfl, ?_⟩; replace HO_5 := Ak (Kd.R_below (by (with_reducible repeat (first | apply Kd.R_alloc | apply Kd.R_drewN | apply Kd.R_drew)); exact HO_5.out) hb); replace HO232 := Ak (Kd.R_lower (Kd.R_new' ho0 (Kd.R_lt (by (with_reducible repeat (first | apply Kd.R_alloc | apply Kd.R_drewN | apply Kd.R_drew)); exact HO_180000.out))) (below_size (by repeat (first | (with_reducible first | exact HB.out | apply below_alloc | apply pw_below_drewN | apply below_drew1 | refine below_set ?_ GE179.out) | exact HB.out)))); replace HO_180000 := Ak (Kd.R_elder' (by (with_reducible repeat (first | apply Kd.R_alloc | apply Kd.R_drewN | apply Kd.R_drew)); exact HO_180000.out) (Kd.R_base ho0) hb); replace BK179 := Ak (blk_below (g := gb179) (o := .cells #[.slice Ao122 x180000_6.length co122, .int .i64 x180001_6] 35 (0, 0)) (by (with_reducible repeat (first | refine blk_drewN ?_ _ | refine blk_drew ?_ | refine blk_alloc ?_ _)); exact BK179.out) hb); replace HB := Ak (below_step (by repeat (first | (with_reducible first | exact HB.out | apply below_alloc | apply pw_below_drewN | apply below_drew1 | refine below_set ?_ GE179.out) | exact HB.out)) hb); (try clear hb); (try clear hb2); (try clear hk); (try clear hi); (try clear ho0); obtain ⟨Ao124, co124, eo124⟩ := Kd.R_slice HO232.out; subst eo124; have hcz125_0 : w123.cell? ⟨gb179, 0, none⟩ = some (.slice Ao122 x180000_6.length co122) := (blk_cell BK179.out 0).trans rfl; have hcz125_1 : w123.cell? ⟨gb179, 1, none⟩ = some (.int .i64 x180001_6) := (blk_cell BK179.out 1).trans rfl; have hfz125_0 := blk_frozen BK179.out 0; have hfz125_1 := blk_frozen BK179.out 1) | ((with_reducible refine gate_callee (f := 8) rfl ?_); refine goesL_ (some 156) rfl rfl Tryd.func8 (by kernel_rfl) rfl #[.slice Ao124 t230.length co124, .int .i64 65536] rfl (by (try simp only [List.map_toArray, List.map_cons, List.map_nil]); first | done | rfl | (simp only [List.length_drop, List.length_take]; rfl)) ?_; (with_reducible refine (inflate_Decode.calls _ _ t230 65536 t235 t236 t237 _ ?side1 ?side2 A116.out (Pr.Handle.on HGH.out (by repeat (first | (with_reducible first | exact HB.out | apply below_alloc | apply pw_below_drewN | apply below_drew1 | refine below_set ?_ GE179.out) | exact HB.out)) (Pr.Handle.pos HGH.out))).mono ?_); (case side1 => refine (Kd.R_reads' (e := 5) (base := w.heap.size) (ok := fun k_ => (True ∧ some k_ ≠ (.slice Ao122 x180000_6.length co122 : Value).ownBlock)) (n := t230.length) (c := co124) ?_).2.2; exact (by (with_reducible repeat (first | apply Kd.R_alloc | apply Kd.R_drewN | apply Kd.R_drew)); exact (Kd.R_mono (Kd.R_far (p := ⟨gb179, 1, none⟩) (Kd.R_far (p := ⟨gb179, 0, none⟩) (Kd.R_types HO232.out BK179.out (by decide)) (fun _ hk => hk.2) (.slice Ao124 t230.length co124)) (fun _ hk => hk.2) (.int .i64 t233)) (fun _ h_ => h_.1)))); (case side2 => exact (Kd.R_reads' HO232.out).2.1); rintro e w126 ⟨v238, rfl, ho0, hb⟩; refine ⟨_, rfl, ?_⟩; replace HO_5 := Ak (Kd.R_below (by (with_reducible repeat (first | apply Kd.R_alloc | apply Kd.R_drewN | apply Kd.R_drew)); exact (Kd.R_mono (Kd.R_far (p := ⟨gb179, 1, none⟩) (Kd.R_far (p := ⟨gb179, 0, none⟩) (Kd.R_types HO_5.out BK179.out (by decide)) (fun _ hk => hk.2) (.slice Ao124 t230.length co124)) (fun _ hk => hk.2) (.int .i64 t233)) (fun _ h_ => h_.1))) hb); replace HO239 := Ak (Kd.R_lower (Kd.R_new' (Kd.R_new' ho0 (Kd.R_lt (by (with_reducible repeat (first | apply Kd.R_alloc | apply Kd.R_drewN | apply Kd.R_drew)); exact (Kd.R_mono (Kd.R_far (p := ⟨gb179, 1, none⟩) (Kd.R_far (p := ⟨gb179, 0, none⟩) (Kd.R_types HO_180000.out BK179.out (by decide)) (fun _ hk => hk.2) (.slice Ao124 t230.length co124)) (fun _ hk => hk.2) (.int .i64 t233)) (fun _ h_ => h_.1))))) (Kd.R_lt (by (with_reducible repeat (first | apply Kd.R_alloc | apply Kd.R_drewN | apply Kd.R_drew)); exact (Kd.R_mono (Kd.R_far (p := ⟨gb179, 1, none⟩) (Kd.R_far (p := ⟨gb179, 0, none⟩) (Kd.R_types HO232.out BK179.out (by decide)) (fun _ hk => hk.2) (.slice Ao124 t230.length co124)) (fun _ hk => hk.2) (.int .i64 t233)) (fun _ h_ => h_.1))))) (below_size (by repeat (first | (with_reducible first | exact HB.out | apply below_alloc | apply pw_below_drewN | apply below_drew1 | refine below_set ?_ GE179.out) | exact HB.out)))); replace HO_180000 := Ak (Kd.R_elder' (by (with_reducible repeat (first | apply Kd.R_alloc | apply Kd.R_drewN | apply Kd.R_drew)); exact (Kd.R_mono (Kd.R_far (p := ⟨gb179, 1, none⟩) (Kd.R_far (p := ⟨gb179, 0, none⟩) (Kd.R_types HO_180000.out BK179.out (by decide)) (fun _ hk => hk.2) (.slice Ao124 t230.length co124)) (fun _ hk => hk.2) (.int .i64 t233)) (fun _ h_ => h_.1))) (Kd.R_base ho0) hb); replace HO232 := Ak (Kd.R_elder' (by (with_reducible repeat (first | apply Kd.R_alloc | apply Kd.R_drewN | apply Kd.R_drew)); exact (Kd.R_mono (Kd.R_far (p := ⟨gb179, 1, none⟩) (Kd.R_far (p := ⟨gb179, 0, none⟩) (Kd.R_types HO232.out BK179.out (by decide)) (fun _ hk => hk.2) (.slice Ao124 t230.length co124)) (fun _ hk => hk.2) (.int .i64 t233)) (fun _ h_ => h_.1))) (Kd.R_base ho0) hb); replace BK179 := Ak (blk_below (g := gb179) (o := .cells #[.slice Ao124 t230.length co124, .int .i64 t233] 35 (0, 0)) (by (with_reducible repeat (first | refine blk_drewN ?_ _ | refine blk_drew ?_ | refine blk_alloc ?_ _)); refine blk_put (cs := #[.slice Ao124 t230.length co124, .int .i64 x180001_6]) ?_ 1 _ rfl; (with_reducible repeat (first | refine blk_drewN ?_ _ | refine blk_drew ?_ | refine blk_alloc ?_ _)); refine blk_put (cs := #[.slice Ao122 x180000_6.length co122, .int .i64 x180001_6]) ?_ 0 _ rfl; (with_reducible repeat (first | refine blk_drewN ?_ _ | refine blk_drew ?_ | refine blk_alloc ?_ _)); exact BK179.out) hb); replace HB := Ak (below_step (by repeat (first | (with_reducible first | exact HB.out | apply below_alloc | apply pw_below_drewN | apply below_drew1 | refine below_set ?_ GE179.out) | exact HB.out)) hb); (try clear hb); (try clear hb2); (try clear hk); (try clear hi); (try clear ho0); have hcv127 := own_string (P := Tryd.prog) Tryd.underlying22 Tryd.underlying5 Tryd.underlying9 (Kd.own_of_R HO239.out); have hcz128_0 : w126.cell? ⟨gb179, 0, none⟩ = some (.slice Ao124 t230.length co124) := (blk_cell BK179.out 0).trans rfl; have hcz128_1 : w126.cell? ⟨gb179, 1, none⟩ = some (.int .i64 t233) := (blk_cell BK179.out 1).trans rfl; have hfz128_0 := blk_frozen BK179.out 0; have hfz128_1 := blk_frozen BK179.out 1) | (go_at_call 7; (with_reducible refine (valiselaw09_lives.calls  t240 _ (Pr.Handle.on HGH.out (by repeat (first | (with_reducible first | exact HB.out | apply below_alloc | apply pw_below_drewN | apply below_drew1 | refine below_set ?_ GE179.out) | exact HB.out)) (Pr.Handle.pos HGH.out)) A120.out).mono ?_); rintro e w129 ⟨rfl, hb⟩; replace HO_5 := Ak (Kd.R_below (by (with_reducible repeat (first | apply Kd.R_alloc | apply Kd.R_drewN | apply Kd.R_drew)); exact HO_5.out) hb); replace HO_180000 := Ak (Kd.R_below (by (with_reducible repeat (first | apply Kd.R_alloc | apply Kd.R_drewN | apply Kd.R_drew)); exact HO_180000.out) hb); replace HO232 := Ak (Kd.R_below (by (with_reducible repeat (first | apply Kd.R_alloc | apply Kd.R_drewN | apply Kd.R_drew)); exact HO232.out) hb); replace HO239 := Ak (Kd.R_below (by (with_reducible repeat (first | apply Kd.R_alloc | apply Kd.R_drewN | apply Kd.R_drew)); exact HO239.out) hb); replace BK179 := Ak (blk_below (g := gb179) (o := .cells #[.slice Ao124 t230.length co124, .int .i64 t233] 35 (0, 0)) (by (with_reducible repeat (first | refine blk_drewN ?_ _ | refine blk_drew ?_ | refine blk_alloc ?_ _)); exact BK179.out) hb); replace HB := Ak (below_step (by repeat (first | (with_reducible first | exact HB.out | apply below_alloc | apply pw_below_drewN | apply below_drew1 | refine below_set ?_ GE179.out) | exact HB.out)) hb); (try clear hb); (try clear hb2); (try clear hk); (try clear hi)))
                    go_ret
                    exact ⟨by first | rfl | (simp [errW_none, errW_some] <;> rfl) | (simp [*, errW_none, errW_some] <;> rfl), by repeat (first | (with_reducible first | exact HB.out | apply below_alloc | apply pw_below_drewN | apply below_drew1 | refine below_set ?_ GE179.out) | exact HB.out)⟩
                  rw [if_neg c119] at H
                  have c119b0 : (t237 == 0) = false := beq_eq_false_iff_ne.mpr c119
                  have c119b1 : (t237 != 0) = true := bne_iff_ne.mpr c119
                  obtain rfl := Option.some.inj H
                  cases hrt
                rw [if_neg c118] at H
                have c118b0 : (t236 == (t230.length : Int)) = false := beq_eq_false_iff_ne.mpr c118
                have c118b1 : (t236 != (t230.length : Int)) = true := bne_iff_ne.mpr c118
                obtain rfl := Option.some.inj H
                cases hrt
              rw [if_pos c100] at H
              have c100b0 : decide (x14_6 < (l1.length : Int)) = true := decide_eq_true c100
              clear c100
              by_cases c101 : 0 ≤ x14_6
              rotate_left
              · rw [if_neg c101] at H
                exact absurd H (by simp)
              rw [if_pos c101] at H
              have c101b0 : decide (0 ≤ x14_6) = true := decide_eq_true c101
              clear c101
              by_cases c102 : 0 ≤ (Go.bits .and .i64 (rd l1 x14_6) 255)
              rotate_left
              · rw [if_neg c102] at H
                exact absurd H (by simp)
              rw [if_pos c102] at H
              have c102b0 : decide (0 ≤ (Go.bits .and .i64 (rd l1 x14_6) 255)) = true := decide_eq_true c102
              clear c102
              by_cases c103 : (Go.bits .and .i64 (rd l1 x14_6) 255) < (y176.length : Int)
              rotate_left
              · rw [if_neg c103] at H
                exact absurd H (by simp)
              rw [if_pos c103] at H
              have c103b0 : decide ((Go.bits .and .i64 (rd l1 x14_6) 255) < (y176.length : Int)) = true := decide_eq_true c103
              clear c103
              by_cases c104 : (rd y176 (Go.bits .and .i64 (rd l1 x14_6) 255)) > 0
              · rw [if_pos c104] at H
                have c104b0 : decide (0 < (rd y176 (Go.bits .and .i64 (rd l1 x14_6) 255))) = true := decide_eq_true c104
                clear c104
                replace H := Option.bind_eq_some_iff.mp H
                obtain ⟨⟨t222, t225, t226⟩, A1050, H⟩ := H
                replace H : ((some (([(Go.bits .and .i64 (rd l1 x14_6) 255) % 256] : List Int) : List Int)).bind fun y227 => (if x13_6.size + (strOfNums y227).size ≤ 9223372036854775807 then (valiselaw09_InflateCodes.l4 k6 l1 y176 (x13_6 ++ (strOfNums y227)) (wrap64 (x14_6 + 1)) t222 t225) else (none))) = some r := H
                have A105 := Ak A1050
                clear A1050
                obtain ⟨y227, hy227⟩ : ∃ y_ : List Int, y_ = (([(Go.bits .and .i64 (rd l1 x14_6) 255) % 256] : List Int)) := ⟨_, rfl⟩
                replace H : (if x13_6.size + (strOfNums y227).size ≤ 9223372036854775807 then (valiselaw09_InflateCodes.l4 k6 l1 y176 (x13_6 ++ (strOfNums y227)) (wrap64 (x14_6 + 1)) t222 t225) else (none)) = some r := by first | (rw [hy227]; with_reducible exact H) | (have H2_ := (Option.bind_some _ _).symm.trans H; rw [hy227]; with_reducible exact H2_) | (have H2_ := (Option.bind_some _ _).symm.trans H; with_reducible exact H2_) | with_reducible exact H | (rw [hy227]; exact H) | exact H
                have Ny227 := Ak hy227
                clear hy227
                by_cases c106 : x13_6.size + (strOfNums y227).size ≤ 9223372036854775807
                · rw [if_pos c106] at H
                  have c106b0 := eq_true c106
                  have c106b1 : decide (x13_6.size + (strOfNums y227).size ≤ 9223372036854775807) = true := decide_eq_true c106
                  try have c106b2 : (9223372036854775807 < x13_6.size + (strOfNums y227).size) = False := eq_false (Nat.not_lt.2 c106)
                  have H' := Ak H
                  clear H
                  have p220 : 0 ≤ (x14_6 : Int) := of_decide_eq_true (by first | (with_reducible assumption) | assumption)
                  have q220 : x14_6 < (l1.length : Int) := of_decide_eq_true (by first | (with_reducible assumption) | assumption)
                  obtain ⟨ad220, e220, hx220_0⟩ := Kd.at_int HR1.out x14_6 p220 q220
                  cases e220
                  replace hx220_0 := (HB.out.cell (World.block_lt_of_cell? w _ hx220_0)).trans hx220_0
                  replace p220 := eq_true p220
                  replace q220 := eq_true q220
                  have p221 : 0 ≤ ((Go.bits .and .i64 (rd l1 x14_6) 255) : Int) := of_decide_eq_true (by first | (with_reducible assumption) | assumption)
                  have q221 : (Go.bits .and .i64 (rd l1 x14_6) 255) < (y176.length : Int) := of_decide_eq_true (by first | (with_reducible assumption) | assumption)
                  obtain ⟨ad221, e221, hx221_0⟩ := Kd.at_int (Kd.R_reads' HO_5.out).2.2 (Go.bits .and .i64 (rd l1 x14_6) 255) p221 q221
                  obtain rfl : (⟨go26, 0, none⟩ : Addr) = ad221 := (by injection e221)
                  (first | simp only [add_plain] at hx221_0 | simp only [add_at] at hx221_0 | simp only [Addr.add, Nat.zero_add] at hx221_0 | skip)
                  replace p221 := eq_true p221
                  replace q221 := eq_true q221
                  have hcz107_0 : wr.cell? ⟨gb179, 0, none⟩ = some (u180000) := (blk_cell BK179.out 0).trans rfl
                  have hcz107_1 : wr.cell? ⟨gb179, 1, none⟩ = some (.int .i64 x180001_6) := (blk_cell BK179.out 1).trans rfl
                  have hfz107_0 := blk_frozen BK179.out 0
                  have hfz107_1 := blk_frozen BK179.out 1
                  obtain ⟨Ao108, co108, eo108⟩ := Kd.R_slice HO_180000.out
                  subst eo108
                  go_wp2_with (first | ((with_reducible refine gate_callee (f := 11) rfl ?_); refine goesL_ (some 138) rfl rfl Tryd.func11 (by kernel_rfl) rfl #[.agg #[.slice Ao108 x180000_6.length co108, .int .i64 x180001_6], .slice (some ⟨go26, 0, none⟩) y176.length co26, .int .i64 (Go.bits .and .i64 (rd l1 x14_6) 255)] rfl (by (try simp only [List.map_toArray, List.map_cons, List.map_nil]); first | done | rfl | (simp only [List.length_drop, List.length_take]; rfl)) ?_; (with_reducible refine (valiseref04_Put.calls k6 _ _ x180000_6 x180001_6 _ _ y176 (Go.bits .and .i64 (rd l1 x14_6) 255) t222 t225 t226 _ ?side1 ?side2 ?side3 ?side4 A105.out).mono ?_); (case side1 => repeat (first | exact (Kd.R_reads' HO_180000.out).2.2 | (with_reducible refine Kd.C_alloc ?_ _) | (with_reducible refine Kd.C_drewN ?_ _) | (with_reducible refine Kd.C_drew ?_))); (case side2 => exact (Kd.R_reads' HO_180000.out).2.1); (case side3 => repeat (first | exact (Kd.R_reads' HO_5.out).2.2 | (with_reducible refine Kd.C_alloc ?_ _) | (with_reducible refine Kd.C_drewN ?_ _) | (with_reducible refine Kd.C_drew ?_))); (case side4 => exact (Kd.R_reads' HO_5.out).2.1); rintro e w109 ⟨v223, rfl, ho0, hb⟩; refine ⟨_, rfl, ?_⟩; replace HO_5 := Ak (Kd.R_below (by (with_reducible repeat (first | apply Kd.R_alloc | apply Kd.R_drewN | apply Kd.R_drew)); exact HO_5.out) hb); replace HO224 := Ak (Kd.R_lower (Kd.R_new' ho0 (Kd.R_lt (by (with_reducible repeat (first | apply Kd.R_alloc | apply Kd.R_drewN | apply Kd.R_drew)); exact HO_180000.out))) (below_size (by repeat (first | (with_reducible first | exact HB.out | apply below_alloc | apply pw_below_drewN | apply below_drew1 | refine below_set ?_ GE179.out) | exact HB.out)))); replace HO_180000 := Ak (Kd.R_elder' (by (with_reducible repeat (first | apply Kd.R_alloc | apply Kd.R_drewN | apply Kd.R_drew)); exact HO_180000.out) (Kd.R_base ho0) hb); replace BK179 := Ak (blk_below (g := gb179) (o := .cells #[.slice Ao108 x180000_6.length co108, .int .i64 x180001_6] 35 (0, 0)) (by (with_reducible repeat (first | refine blk_drewN ?_ _ | refine blk_drew ?_ | refine blk_alloc ?_ _)); exact BK179.out) hb); replace HB := Ak (below_step (by repeat (first | (with_reducible first | exact HB.out | apply below_alloc | apply pw_below_drewN | apply below_drew1 | refine below_set ?_ GE179.out) | exact HB.out)) hb); (try clear hb); (try clear hb2); (try clear hk); (try clear hi); (try clear ho0); obtain ⟨Ao110, co110, eo110⟩ := Kd.R_slice HO224.out; subst eo110; have hcz111_0 : w109.cell? ⟨gb179, 0, none⟩ = some (.slice Ao108 x180000_6.length co108) := (blk_cell BK179.out 0).trans rfl; have hcz111_1 : w109.cell? ⟨gb179, 1, none⟩ = some (.int .i64 x180001_6) := (blk_cell BK179.out 1).trans rfl; have hfz111_0 := blk_frozen BK179.out 0; have hfz111_1 := blk_frozen BK179.out 1) | ((with_reducible refine gate_dst (N := 144) rfl ?_); (try (refine gate_guard (by rfl) ?_; dsimp only)); refine Kd.R_lit (Kd.int .u8) _ 5 ?hg (N := 144) ?hd (xs := ([(Go.bits .and .i64 (rd l1 x14_6) 255) % 256] : List Int)) (inner := [.int .u8 ((Go.bits .and .i64 (rd l1 x14_6) 255) % 256)]) (ok := fun _ => True) (okp := fun _ => True) ?hr ?hp (fun _ hk => hk) trivial (Below.refl _ _) (Nat.le_refl _) (by simp) ?_; (case hd => rfl); (case hg => rfl); (case hr => first | (go_simp; done) | (go_simp; rfl)); (case hp => exact (Reps.one (show Kd.M (Kd.int .u8) _ _ _ ((Go.bits .and .i64 (rd l1 x14_6) 255) % 256) [.int .u8 ((Go.bits .and .i64 (rd l1 x14_6) 255) % 256)] from rfl) (Reps.none _ _))); intro v228 w112 ho113 hb hg_ hnew_; clear hg_ hnew_; (first | rw [← Ny227.out] at ho113 | (simp only [Int.reduceToNat] at ho113; rw [← Ny227.out] at ho113)); replace HO_5 := Ak (Kd.R_below (by (with_reducible repeat (first | apply Kd.R_alloc | apply Kd.R_drewN | apply Kd.R_drew)); exact (Kd.R_mono (Kd.R_far (p := ⟨gb179, 1, none⟩) (Kd.R_far (p := ⟨gb179, 0, none⟩) (Kd.R_types HO_5.out BK179.out (by decide)) (fun _ hk => hk.2) (.slice Ao110 t222.length co110)) (fun _ hk => hk.2) (.int .i64 t225)) (fun _ h_ => h_.1))) hb); replace HO229 := Ak (Kd.R_lower (Kd.R_new' (Kd.R_new' ho113 (Kd.R_lt (by (with_reducible repeat (first | apply Kd.R_alloc | apply Kd.R_drewN | apply Kd.R_drew)); exact (Kd.R_mono (Kd.R_far (p := ⟨gb179, 1, none⟩) (Kd.R_far (p := ⟨gb179, 0, none⟩) (Kd.R_types HO_180000.out BK179.out (by decide)) (fun _ hk => hk.2) (.slice Ao110 t222.length co110)) (fun _ hk => hk.2) (.int .i64 t225)) (fun _ h_ => h_.1))))) (Kd.R_lt (by (with_reducible repeat (first | apply Kd.R_alloc | apply Kd.R_drewN | apply Kd.R_drew)); exact (Kd.R_mono (Kd.R_far (p := ⟨gb179, 1, none⟩) (Kd.R_far (p := ⟨gb179, 0, none⟩) (Kd.R_types HO224.out BK179.out (by decide)) (fun _ hk => hk.2) (.slice Ao110 t222.length co110)) (fun _ hk => hk.2) (.int .i64 t225)) (fun _ h_ => h_.1))))) (below_size (by repeat (first | (with_reducible first | exact HB.out | apply below_alloc | apply pw_below_drewN | apply below_drew1 | refine below_set ?_ GE179.out) | exact HB.out)))); replace HO_180000 := Ak (Kd.R_elder' (by (with_reducible repeat (first | apply Kd.R_alloc | apply Kd.R_drewN | apply Kd.R_drew)); exact (Kd.R_mono (Kd.R_far (p := ⟨gb179, 1, none⟩) (Kd.R_far (p := ⟨gb179, 0, none⟩) (Kd.R_types HO_180000.out BK179.out (by decide)) (fun _ hk => hk.2) (.slice Ao110 t222.length co110)) (fun _ hk => hk.2) (.int .i64 t225)) (fun _ h_ => h_.1))) (Kd.R_base ho113) hb); replace HO224 := Ak (Kd.R_elder' (by (with_reducible repeat (first | apply Kd.R_alloc | apply Kd.R_drewN | apply Kd.R_drew)); exact (Kd.R_mono (Kd.R_far (p := ⟨gb179, 1, none⟩) (Kd.R_far (p := ⟨gb179, 0, none⟩) (Kd.R_types HO224.out BK179.out (by decide)) (fun _ hk => hk.2) (.slice Ao110 t222.length co110)) (fun _ hk => hk.2) (.int .i64 t225)) (fun _ h_ => h_.1))) (Kd.R_base ho113) hb); replace BK179 := Ak (blk_below (g := gb179) (o := .cells #[.slice Ao110 t222.length co110, .int .i64 t225] 35 (0, 0)) (by (with_reducible repeat (first | refine blk_drewN ?_ _ | refine blk_drew ?_ | refine blk_alloc ?_ _)); refine blk_put (cs := #[.slice Ao110 t222.length co110, .int .i64 x180001_6]) ?_ 1 _ rfl; (with_reducible repeat (first | refine blk_drewN ?_ _ | refine blk_drew ?_ | refine blk_alloc ?_ _)); refine blk_put (cs := #[.slice Ao108 x180000_6.length co108, .int .i64 x180001_6]) ?_ 0 _ rfl; (with_reducible repeat (first | refine blk_drewN ?_ _ | refine blk_drew ?_ | refine blk_alloc ?_ _)); exact BK179.out) hb); replace HB := Ak (below_step (by repeat (first | (with_reducible first | exact HB.out | apply below_alloc | apply pw_below_drewN | apply below_drew1 | refine below_set ?_ GE179.out) | exact HB.out)) hb); clear hb ho113; have hcv114 := own_string (P := Tryd.prog) Tryd.underlying22 Tryd.underlying5 Tryd.underlying9 (Kd.own_of_R HO229.out)))
                  go_roundg k6
                  case measure => have := HJ2.out; have := HK2.out; have := HK3.out; have := HK4.out; have := HK5.out; have := HK6.out; omega
                  case rel => exact ⟨(x13_6 ++ (strOfNums y227)), (wrap64 (x14_6 + 1)), (t222), (t225), (.slice Ao110 t222.length co110), (by first | rfl | (simp; done) | (simp [*]; done)), (by first | rfl | (simp; done) | (simp [*]; done)), H', ⟨by have := HJ2.out; have := HK2.out; have := HK3.out; have := HK4.out; have := HK5.out; have := HK6.out; omega⟩, ⟨by (try simp only [hl5_3]); (with_reducible repeat (first | apply Kd.R_alloc | apply Kd.R_drewN | apply Kd.R_drew)); exact HO_5.out⟩, ⟨by (try simp only [hl5_3]); (with_reducible repeat (first | apply Kd.R_alloc | apply Kd.R_drewN | apply Kd.R_drew)); exact Kd.R_mono HO224.out (fun _ hk => trivial)⟩, ⟨by (try simp only [hl5_3]); (with_reducible repeat (first | refine blk_drewN ?_ _ | refine blk_drew ?_ | refine blk_alloc ?_ _)); exact BK179.out⟩, ⟨by repeat (first | (with_reducible first | exact HB.out | apply below_alloc | apply pw_below_drewN | apply below_drew1 | refine below_set ?_ GE179.out) | exact HB.out)⟩⟩
                rw [if_neg c106] at H
                exact absurd H (by simp)
              rw [if_neg c104] at H
              have c104b0 : decide (0 < (rd y176 (Go.bits .and .i64 (rd l1 x14_6) 255))) = false := decide_eq_false c104
              clear c104
              have H' := Ak H
              clear H
              have p220 : 0 ≤ (x14_6 : Int) := of_decide_eq_true (by first | (with_reducible assumption) | assumption)
              have q220 : x14_6 < (l1.length : Int) := of_decide_eq_true (by first | (with_reducible assumption) | assumption)
              obtain ⟨ad220, e220, hx220_0⟩ := Kd.at_int HR1.out x14_6 p220 q220
              cases e220
              replace hx220_0 := (HB.out.cell (World.block_lt_of_cell? w _ hx220_0)).trans hx220_0
              replace p220 := eq_true p220
              replace q220 := eq_true q220
              have p221 : 0 ≤ ((Go.bits .and .i64 (rd l1 x14_6) 255) : Int) := of_decide_eq_true (by first | (with_reducible assumption) | assumption)
              have q221 : (Go.bits .and .i64 (rd l1 x14_6) 255) < (y176.length : Int) := of_decide_eq_true (by first | (with_reducible assumption) | assumption)
              obtain ⟨ad221, e221, hx221_0⟩ := Kd.at_int (Kd.R_reads' HO_5.out).2.2 (Go.bits .and .i64 (rd l1 x14_6) 255) p221 q221
              obtain rfl : (⟨go26, 0, none⟩ : Addr) = ad221 := (by injection e221)
              (first | simp only [add_plain] at hx221_0 | simp only [add_at] at hx221_0 | simp only [Addr.add, Nat.zero_add] at hx221_0 | skip)
              replace p221 := eq_true p221
              replace q221 := eq_true q221
              go_wp2
              go_roundg k6
              case measure => have := HJ2.out; have := HK2.out; have := HK3.out; have := HK4.out; have := HK5.out; have := HK6.out; omega
              case rel => exact ⟨(x13_6), (wrap64 (x14_6 + 1)), (x180000_6), (x180001_6), (u180000), (by first | rfl | (simp; done) | (simp [*]; done)), (by first | rfl | (simp; done) | (simp [*]; done)), H', ⟨by have := HJ2.out; have := HK2.out; have := HK3.out; have := HK4.out; have := HK5.out; have := HK6.out; omega⟩, ⟨by (try simp only [hl5_3]); (with_reducible repeat (first | apply Kd.R_alloc | apply Kd.R_drewN | apply Kd.R_drew)); exact HO_5.out⟩, ⟨by (try simp only [hl5_3]); (with_reducible repeat (first | apply Kd.R_alloc | apply Kd.R_drewN | apply Kd.R_drew)); exact HO_180000.out⟩, ⟨by (try simp only [hl5_3]); (with_reducible repeat (first | refine blk_drewN ?_ _ | refine blk_drew ?_ | refine blk_alloc ?_ _)); exact BK179.out⟩, ⟨by repeat (first | (with_reducible first | exact HB.out | apply below_alloc | apply pw_below_drewN | apply below_drew1 | refine below_set ?_ GE179.out) | exact HB.out)⟩⟩

def valiselaw09_InflateCodes.Pure : Prop := ∀ (l0 : List Int) (l1 : List Int), l0.length ≤ maxLen → l0.length * 8 ≤ 140737488351232 → (∀ x ∈ l0, (Lit.int .i64 x).wf = true) → l1.length ≤ maxLen → l1.length * 8 ≤ 140737488351232 → (∀ x ∈ l1, (Lit.int .i64 x).wf = true) → ∃ k, valiselaw09_InflateCodes.f k l0 l1 = some true
theorem valiselaw09_InflateCodes.walk (P : valiselaw09_InflateCodes.Pure) (a0 : Option Addr) (len0 cap0 : Nat) (z0 : List Int) (a1 : Option Addr) (len1 cap1 : Nat) (z1 : List Int) (w : World) (HGL : Pr.Handle w) (w0 : (a0 = none ∧ len0 = 0 ∧ cap0 = 0 ∧ z0 = []) ∨ ∃ x, a0 = some x ∧ len0 ≤ cap0 ∧ cap0 ≤ maxLen ∧ z0.length = cap0 ∧ (∀ i, i < z0.length → w.cell? (x.add i) = some (.int .i64 (z0.getD i 0))) ∧ ∀ n ∈ z0, (Lit.int .i64 n).wf = true) (y0 : len0 * 8 ≤ 140737488351232) (w1 : (a1 = none ∧ len1 = 0 ∧ cap1 = 0 ∧ z1 = []) ∨ ∃ x, a1 = some x ∧ len1 ≤ cap1 ∧ cap1 ≤ maxLen ∧ z1.length = cap1 ∧ (∀ i, i < z1.length → w.cell? (x.add i) = some (.int .i64 (z1.getD i 0))) ∧ ∀ n ∈ z1, (Lit.int .i64 n).wf = true) (y1 : len1 * 8 ≤ 140737488351232) :
    Calls Tryd.prog 6 #[.slice a0 len0 cap0, .slice a1 len1 cap1] w fun e w' => e = .returned (.bool true) ∧ Below w.heap.size w w' := by
  obtain ⟨l0, rfl, hr0, hm0, hw0, hc0⟩ := ReadsInt.ofRowC w0
  obtain ⟨l1, rfl, hr1, hm1, hw1, hc1⟩ := ReadsInt.ofRowC w1
  obtain ⟨k, h⟩ := P l0 l1 hm0 y0 hw0 hm1 y1 hw1
  refine (valiselaw09_InflateCodes.calls k _ _ l0 _ _ l1 true w (Kd.C_of_reads (d := (0 : Int)) (h1 := fun _ => rfl) hr0) hc0 (Kd.C_of_reads (d := (0 : Int)) (h1 := fun _ => rfl) hr1) hc1 HGL h rfl).mono ?_
  rintro e w' ⟨rfl, hd⟩
  exact ⟨rfl, hd⟩

end Go.Proofs.YtgflkkjhckcipaaDoor.Pg

