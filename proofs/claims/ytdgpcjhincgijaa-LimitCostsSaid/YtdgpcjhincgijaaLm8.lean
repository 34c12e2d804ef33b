-- A text by hand (wip/limit).
import Derived.RangeFuncNested
import Derived.RangeFuncBound
import Derived.RangeFuncCalls
import Derived.RangeFuncLeaves
import Derived.RangeFuncBox
import Derived.Shelf.Abstract
import Derived.Shelf.RegionOpen
import Derived.OwnWalkIn
import Derived.TacticsInMore
import Derived.LoopNIn
import Derived.LoopIn
import Derived.Test.YtdgpcjhincgijaaPr0
import Derived.Test.YtdgpcjhincgijaaLm5
import Derived.Test.YtdgpcjhincgijaaLh5
namespace Go.Proofs.Ytdgpcjhincgijaa.Pr
open Go.RowKit Go.Shelf Go.Proofs.YtdgpcjhincgijaaW.PrintWords Go.Proofs.YtdgpcjhincgijaaW.PrintLast Go.Proofs.YtdgpcjhincgijaaW.PrintMore
set_option linter.unusedVariables false
set_option linter.unusedSimpArgs false
section
attribute [local go_sem] Oper.semAt_some
/-! ### What lengths cost -/
def dotS (f l : List Int) : Nat → Int
  | 0 => 0
  | k + 1 => dotS f l k + f.getD k 0 * l.getD k 0
def costS (f l : List Int) : Int × Int := if oftenS f = true ∧ f.length = l.length ∧ checkS l ≠ 2 then (dotS f l f.length, 0) else (0, 2)
theorem checkS_lens {zs : List Int} (h : checkS zs ≠ 2) : 1 ≤ zs.length ∧ zs.length ≤ 288 ∧ ∀ k : Nat, k < zs.length → 0 ≤ zs.getD k 0 ∧ zs.getD k 0 ≤ 15 := by
  have h0 : (countedS zs).2 = true := by
    cases e : (countedS zs).2 with
    | true => rfl
    | false => exact absurd (by unfold checkS; rw [if_pos e]) h
  unfold countedS at h0
  by_cases h1 : zs.length < 1 ∨ 288 < zs.length
  · rw [if_pos h1] at h0
    cases h0
  · rw [if_neg h1] at h0
    by_cases h2 : (usedL zs zs.length).all (fun x => decide (Lok x.2)) = true
    · refine ⟨by omega, by omega, fun k hk => ?_⟩
      by_cases hz : zs.getD k 0 = 0
      · omega
      · have hm : (k, zs.getD k 0) ∈ usedL zs zs.length := by
          unfold usedL
          rw [List.mem_filter]
          exact ⟨List.mem_map.2 ⟨k, List.mem_range.2 hk, by rw [List.getD_eq_getElem?_getD]⟩, by simpa using hz⟩
        have := List.all_eq_true.1 h2 _ hm
        exact of_decide_eq_true this
    · rw [if_neg h2] at h0
      cases h0
theorem dotS_bound {f l : List Int} (hf : ∀ k : Nat, k < f.length → 0 ≤ f.getD k 0 ∧ f.getD k 0 ≤ 4294967295) (hl : ∀ k : Nat, k < f.length → 0 ≤ l.getD k 0 ∧ l.getD k 0 ≤ 15) : ∀ k, k ≤ f.length → 0 ≤ dotS f l k ∧ dotS f l k ≤ (k : Int) * 64424509425
  | 0, _ => ⟨by unfold dotS; omega, by unfold dotS; omega⟩
  | k + 1, hk => by
    have h := dotS_bound hf hl k (by omega)
    have h1 := hf k (by omega)
    have h2 := hl k (by omega)
    have h3 : 0 ≤ f.getD k 0 * l.getD k 0 := Int.mul_nonneg h1.1 h2.1
    have h4 : f.getD k 0 * l.getD k 0 ≤ 4294967295 * 15 := Int.mul_le_mul h1.2 h2.2 h2.1 (by omega)
    unfold dotS
    generalize f.getD k 0 * l.getD k 0 = z at *
    constructor <;> omega
set_option maxHeartbeats 16000000 in
set_option maxRecDepth 1000000 in
theorem cost_calls (A1 A2 : Option Addr) (c1 c2 : Nat) (f l : List Int) (w : World) (hf : (Kd.int .i64).C w A1 f.length f) (hl : (Kd.int .i64).C w A2 l.length l) :
    Calls Try.prog 16 #[.slice A1 f.length c1, .slice A2 l.length c2] w fun e w' => e = .returned (.tuple #[.int .i64 (costS f l).1, .int .i64 (costS f l).2]) ∧ Below w.heap.size w w' := by
  have HF := Aside0.mk hf
  have HL := Aside0.mk hl
  clear hf hl
  by_cases hof : oftenS f = true
  · by_cases hlen : f.length = l.length
    · by_cases hck : checkS l = 2
      · have e0 : costS f l = (0, 2) := if_neg (fun h => h.2.2 hck)
        rw [e0]
        have HOF := Aside0.mk hof
        have HCK := Aside0.mk hck
        have q2 := eq_true (show (f.length : Int) = (l.length : Int) by omega)
        have q2b : ((f.length : Int) != (l.length : Int)) = false := by rw [bne_eq_false_iff_eq]; omega
        have HLN := Aside0.mk hlen
        clear hlen hof hck e0
        go_enter Try.func16, Try.ntmps16
        go_wp2_with (first
          | (go_at_call 19; have hcc := often_calls A1 c1 f _ HF.out; rw [HOF.out] at hcc; refine hcc.mono ?_; clear hcc; rintro e_ w3 ⟨rfl, hw3⟩; have hw4 := hw3.symm; subst hw4; clear hw3)
          | (go_at_call 30; have hcc := huff_Check_in A2 c2 l _ HL.out; rw [HCK.out] at hcc; refine hcc.mono ?_; clear hcc; rintro e_ w3 ⟨rfl, hb⟩; have HB := Aside0.mk hb; clear hb)
          )
        go_ret2
        exact ⟨rfl, HB.out⟩
      · have e0 : costS f l = (dotS f l f.length, 0) := if_pos ⟨hof, hlen, hck⟩
        rw [e0]
        obtain ⟨hl1, hl2, hl3⟩ := checkS_lens hck
        have HLB := Aside0.mk hl3
        have HLN := Aside0.mk hlen
        have HFB := Aside0.mk (often_at hof)
        have HL8 := Aside0.mk hl2
        have HOF := Aside0.mk hof
        obtain ⟨ck, hc⟩ : ∃ ck, checkS l = ck := ⟨_, rfl⟩
        rw [hc] at hck
        have HCK := Aside0.mk hc
        have q0 := eq_false hck
        have q1 : (ck == 2) = false := beq_eq_false_iff_ne.mpr hck
        have q2 := eq_true (show (f.length : Int) = (l.length : Int) by omega)
        have q2b : ((f.length : Int) != (l.length : Int)) = false := by rw [bne_eq_false_iff_eq]; omega
        clear hc hl1 hl2 hl3 hlen hck hof e0
        go_enter Try.func16, Try.ntmps16
        go_wp2_with (first
          | (go_at_call 19; have hcc := often_calls A1 c1 f _ HF.out; rw [HOF.out] at hcc; refine hcc.mono ?_; clear hcc; rintro e_ w3 ⟨rfl, hw3⟩; have hw4 := hw3.symm; subst hw4; clear hw3)
          | (go_at_call 30; have hcc := huff_Check_in A2 c2 l _ HL.out; rw [HCK.out] at hcc; refine hcc.mono ?_; clear hcc; rintro e_ w3 ⟨rfl, hb⟩; have HB := Aside0.mk hb; clear hb)
          )
        go_loopw [6, 26] (fun x6 x26 w' => ∃ k : Nat, k ≤ f.length ∧ x26 = .int .i64 (k : Int) ∧ x6 = .int .i64 (dotS f l k) ∧ Aside0 (Below w.heap.size w w')) (fun _ x26 _ => f.length + 1 - (intOf x26).toNat)
        case atStart => exact ⟨0, by omega, rfl, rfl, HB⟩
        case round =>
          clear HB
          obtain ⟨k, hk, rfl, rfl, HB⟩ := hrel
          by_cases hlt : k < f.length
          · obtain ⟨a1, ea1, hx1⟩ := Kd.at_int (Kd.C_below HF.out HB.out) (k : Int) (by omega) (by omega)
            obtain ⟨a2, ea2, hx2⟩ := Kd.at_int (Kd.C_below HL.out HB.out) (k : Int) (by omega) (by have := HLN.out; omega)
            subst ea1
            subst ea2
            rw [Int.toNat_natCast] at hx1 hx2
            rw [rd_getD] at hx1 hx2
            have hf1 := HFB.out k hlt
            have hl1 := HLB.out k (by have := HLN.out; omega)
            have hd := dotS_bound HFB.out (fun k hk => HLB.out k (by have := HLN.out; omega)) (k + 1) (by omega)
            have hd1 : dotS f l (k + 1) = dotS f l k + f.getD k 0 * l.getD k 0 := rfl
            obtain ⟨x, hx⟩ : ∃ x, f.getD k 0 = x := ⟨_, rfl⟩
            obtain ⟨y, hy⟩ : ∃ y, l.getD k 0 = y := ⟨_, rfl⟩
            obtain ⟨d0, hd0⟩ : ∃ d0, dotS f l k = d0 := ⟨_, rfl⟩
            obtain ⟨d1, hd2⟩ : ∃ d1, dotS f l (k + 1) = d1 := ⟨_, rfl⟩
            have HD2 := Aside0.mk hd2
            rw [hd2, hx, hy, hd0] at hd1
            rw [hd2] at hd
            rw [hx] at hx1 hf1
            rw [hy] at hx2 hl1
            have h3 : 0 ≤ x * y := Int.mul_nonneg hf1.1 hl1.1
            have h4 : x * y ≤ 4294967295 * 15 := Int.mul_le_mul hf1.2 hl1.2 hl1.1 (by omega)
            have hkk := HL8.out
            have hkl := HLN.out
            have hw1 : wrap64 (x * y) = x * y := wrap64_id (by omega) (by omega)
            have hw2 : wrap64 (d0 + x * y) = d1 := by rw [← hd1]; exact wrap64_id (by omega) (by omega)
            have q3 := eq_true (show (k : Int) < (f.length : Int) by omega)
            have q4 := eq_true (show (k : Int) < (l.length : Int) by omega)
            have q5 := eq_true (show (0 : Int) ≤ (k : Int) by omega)
            have q6 := eq_true hlt
            have q7 := eq_true (show k < l.length by omega)
            have HK := Aside0.mk (show k < f.length ∧ f.length ≤ 288 by omega)
            clear hk hlt hf1 hl1 hd hd1 hd2 hx hy h3 h4 hkk hkl
            rw [hd0]
            clear hd0
            go_wp2
            go_roundw
            case rel => exact ⟨k + 1, by have := HK.out; omega, val_next _ (by have := HK.out; omega), by rw [HD2.out, hw2], HB⟩
            case measure => rw [nat_next _ (by have := HK.out; omega)]; simp only [intOf, Int.toNat_natCast]; have := HK.out; omega
          · obtain rfl : k = f.length := by omega
            have q3 := eq_false (show ¬ (f.length : Int) < (f.length : Int) by omega)
            go_wp2
            go_ret2
            exact ⟨rfl, HB.out⟩
    · have e0 : costS f l = (0, 2) := if_neg (fun h => hlen h.2.1)
      rw [e0]
      have HOF := Aside0.mk hof
      have q2 := eq_false (show ¬ (f.length : Int) = (l.length : Int) by omega)
      have q3 : ((f.length : Int) == (l.length : Int)) = false := beq_eq_false_iff_ne.mpr (by omega)
      have q3b : ((f.length : Int) != (l.length : Int)) = true := by rw [bne_iff_ne]; omega
      have q4 := eq_false hlen
      clear hlen hof e0
      go_enter Try.func16, Try.ntmps16
      go_wp2_with (go_at_call 19; have hcc := often_calls A1 c1 f _ HF.out; rw [HOF.out] at hcc; refine hcc.mono ?_; clear hcc; rintro e_ w3 ⟨rfl, hw3⟩; have hw4 := hw3.symm; subst hw4; clear hw3)
      go_ret2
      exact ⟨rfl, Below.refl _ _⟩
  · have e0 : costS f l = (0, 2) := if_neg (fun h => hof h.1)
    rw [e0]
    have HOF := Aside0.mk (Bool.eq_false_iff.mpr hof)
    clear hof e0
    go_enter Try.func16, Try.ntmps16
    go_wp2_with (go_at_call 19; have hcc := often_calls A1 c1 f _ HF.out; rw [HOF.out] at hcc; refine hcc.mono ?_; clear hcc; rintro e_ w3 ⟨rfl, hw3⟩; have hw4 := hw3.symm; subst hw4; clear hw3)
    go_ret2
    exact ⟨rfl, Below.refl _ _⟩
end
end Go.Proofs.Ytdgpcjhincgijaa.Pr
