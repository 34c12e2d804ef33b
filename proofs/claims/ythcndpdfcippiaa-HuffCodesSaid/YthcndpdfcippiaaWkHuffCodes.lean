/- Any numbers are lengths of a whole code or not, and any lengths have the codes that the document says, or none: both compute the codes by how many there are of each length. No condition. -/
import Derived.Test.YthcndpdfcippiaaPr0
import Derived.Test.YthcndpdfcippiaaPr1
import Derived.Test.YthcndpdfcippiaaPr5
import Derived.Test.YthcndpdfcippiaaPr6
import Derived.Test.YthcndpdfcippiaaPr16
import Derived.Test.YthcndpdfcippiaaPr17
import Derived.Test.YthcndpdfcippiaaPh1
namespace Go.Proofs.Ythcndpdfcippiaa.Pr
open Go.RowKit Go.Proofs.YthcndpdfcippiaaW.PrintWords Go.Proofs.YthcndpdfcippiaaW.PrintLast Go.Proofs.YthcndpdfcippiaaW.PrintMore
set_option linter.unusedVariables false
set_option linter.unusedSimpArgs false
set_option maxRecDepth 100000
/-! ### The law's own words -/
theorem own4_eq {l : List Int} (h : l.length * 8 ≤ 140737488351232) : valiselaw04_own.f l = some l := by
  unfold valiselaw04_own.f
  rw [Option.bind_some, if_pos (by rw [List.length_nil]; omega), List.nil_append]
theorem same4_l0 (a b : List Int) (hl : a.length = b.length) (hs : a.length < 4611686018427387904) : ∀ (d k i : Nat), a.length - i ≤ d → d < k → i ≤ a.length → valiseref04_Same.l0 k a b (i : Int) = some (decide (a.drop i = b.drop i))
  | d, 0, i, _, hk, _ => by omega
  | d, k + 1, i, hd, hk, hi => by
    rw [valiseref04_Same.l0]
    by_cases hlt : i < a.length
    · rw [if_pos (by omega), if_pos (by omega), if_pos (by omega), drop_getD a hlt, drop_getD b (by omega)]
      obtain ⟨d, rfl⟩ : ∃ d', d = d' + 1 := ⟨d - 1, by omega⟩
      by_cases he : rd a (i : Int) = rd b (i : Int)
      · rw [if_pos he, wrap64_id (by omega) (by omega), show (i : Int) + 1 = ((i + 1 : Nat) : Int) by omega, same4_l0 a b hl hs d k (i + 1) (by omega) (by omega) (by omega)]
        congr 1
        rw [decide_eq_decide]
        exact ⟨fun h => by rw [he, h], fun h => by injection h⟩
      · rw [if_neg he]
        congr 1
        exact (decide_eq_false (fun h => he (by injection h))).symm
    · rw [if_neg (by omega), List.drop_of_length_le (by omega), List.drop_of_length_le (by omega)]
      simp
theorem same4_eq (a b : List Int) (hs : a.length < 4611686018427387904) {k : Nat} (hk : a.length < k) : valiseref04_Same.f k a b = some (decide (a = b)) := by
  unfold valiseref04_Same.f
  by_cases hl : a.length = b.length
  · rw [if_pos (by omega)]
    have := same4_l0 a b hl hs a.length k 0 (by omega) hk (by omega)
    rw [List.drop_zero, List.drop_zero] at this
    exact this
  · rw [if_neg (by omega)]
    congr 1
    exact (decide_eq_false (fun h => hl (by rw [h]))).symm
theorem same_self (a : List Int) (hs : a.length < 4611686018427387904) {k : Nat} (hk : a.length < k) : valiseref04_Same.f k a a = some true := by
  rw [same4_eq a a hs hk, decide_eq_true rfl]
theorem codesS_len (l : List Int) : (Hu.codesS l).1.length ≤ 288 := by
  rw [codesS_eq]
  by_cases hc : Hu.checkS l = 0 ∨ Hu.checkS l = 12
  · rw [if_pos hc, codesV_len]
    exact (okl_of_check hc).2.1
  · rw [if_neg hc]
    exact Nat.zero_le _
theorem HuffCodes.pure (l : List Int) (hl : l.length * 8 ≤ 140737488351232) : ∃ k, valiselaw04_HuffCodes.f k l = some true := by
  obtain ⟨k, hk⟩ := refCodes_eq l
  refine ⟨k + l.length + 400, ?_⟩
  unfold valiselaw04_HuffCodes.f huff_Codes.f huff_Check.f valiselaw04_lives.f
  have hc := codesS_len l
  have e := hk (k + l.length + 400) (by omega)
  change valiseref04_Codes.f (k + l.length + 400) l = _ at e
  rw [own4_eq hl]
  simp only [Option.bind_some]
  rw [e, check4_eq l (by omega)]
  simp only [Option.bind_some, if_true]
  rw [same_self _ (by omega) (by omega), same_self _ (by omega) (by omega)]
  simp
end Go.Proofs.Ythcndpdfcippiaa.Pr
