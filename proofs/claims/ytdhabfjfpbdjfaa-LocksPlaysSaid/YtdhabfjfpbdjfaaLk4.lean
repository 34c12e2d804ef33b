-- A text by hand (wip/locks).
import Derived.RangeFuncNested
import Derived.RangeFuncBound
import Derived.RangeFuncCalls
import Derived.RangeFuncLeaves
import Derived.RangeFuncBox
import Derived.Shelf.Abstract
import Derived.Shelf.RegionOpen
import Derived.OwnWalkIn
import Derived.TacticsInMore
import Derived.LoopNIn
import Derived.LoopIn
import Derived.Test.YtdhabfjfpbdjfaaPr0
import Derived.Test.YtdhabfjfpbdjfaaLk1
namespace Go.Proofs.Ytdhabfjfpbdjfaa.Pr
open Go.RowKit Go.Shelf Go.Proofs.YtdhabfjfpbdjfaaW.PrintWords Go.Proofs.YtdhabfjfpbdjfaaW.PrintLast Go.Proofs.YtdhabfjfpbdjfaaW.PrintMore
set_option linter.unusedVariables false
set_option linter.unusedSimpArgs false

theorem asked_at {W : World} {base : Nat} {ok : Nat → Prop} {go len cap : Nat} {d : List S63} (h : Kd.R k63 63 W base ok (.slice (some ⟨go, 0, none⟩) len cap) d) (i : Nat) (hi : i < len) :
    (W.cell? ⟨go, i * 2, none⟩ = some (.int .i64 (rd_T63 d (i : Int)).f0) ∧ W.cell? ⟨go, i * 2 + 1, none⟩ = some (.bool (rd_T63 d (i : Int)).f1)) ∧ (W.frozen? ⟨go, i * 2, none⟩ = false ∧ W.frozen? ⟨go, i * 2 + 1, none⟩ = false) := by
  obtain ⟨c, _, hM, hc, hf⟩ := Kd.R_elem h z63 (i : Int) (by omega) (by omega)
  have hk := k63_openM hM
  rw [Int.toNat_natCast] at hc hf hk
  have e : d.getD i z63 = rd_T63 d (i : Int) := by unfold rd_T63; rw [Int.toNat_natCast]
  rw [e] at hk
  subst hk
  exact ⟨⟨hc 0 _ rfl, hc 1 _ rfl⟩, hf 0, hf 1⟩
theorem asked_put {W : World} {base : Nat} {ok : Nat → Prop} {go len cap : Nat} {d : List S63} (h : Kd.R k63 63 W base ok (.slice (some ⟨go, 0, none⟩) len cap) d) (i : Nat) (hi : i < len) (x : S63) :
    Kd.R k63 63 ((W.setCell ⟨go, i * 2, none⟩ (.int .i64 x.f0)).setCell ⟨go, i * 2 + 1, none⟩ (.bool x.f1)) base ok (.slice (some ⟨go, 0, none⟩) len cap) (d.set i x) ∧ W.grownBy ((W.setCell ⟨go, i * 2, none⟩ (.int .i64 x.f0)).setCell ⟨go, i * 2 + 1, none⟩ (.bool x.f1)) (some go) := by
  obtain ⟨c, hcl, hM, hc, hf⟩ := Kd.R_elem h z63 (i : Int) (by omega) (by omega)
  have hr := Kd.R_seg h (i : Int) (by omega) (by omega) (seg := [.int .i64 x.f0, .bool x.f1]) (j := 0) (c := c) (x' := x) (okp := fun k => ok k ∧ k ≠ go) hcl hc (by rw [Nat.zero_add]; exact Nat.le_refl 2) (by
    have hc2 : c.drop (0 + 2) = [] := List.drop_eq_nil_of_le (by rw [hcl]; exact Nat.le_refl 2)
    show Kd.M _ W base _ x (c.take 0 ++ [.int .i64 x.f0, .bool x.f1] ++ c.drop (0 + 2))
    rw [hc2, List.append_nil, List.take_zero, List.nil_append]
    exact k63_mkM W base _ x) (fun k hk => hk)
  rw [Int.toNat_natCast] at hr
  exact hr
/-- What is kept of a row, its end having been written over. -/
theorem asked_end {W : World} {base : Nat} {ok : Nat → Prop} {go len cap : Nat} {d : List S63} (h : Kd.R k63 63 W base ok (.slice (some ⟨go, 0, none⟩) len cap) d) (k : Nat) (hk : k ≤ len) (seg : List Value) (hs : k * 2 + seg.length ≤ cap * 2) :
    Kd.R k63 63 (W.setCells go (k * 2) seg) base ok (.slice (some ⟨go, 0, none⟩) k cap) (d.take k) ∧ W.grownBy (W.setCells go (k * 2) seg) (some go) := by
  have hlen := (Kd.R_reads' h).1
  obtain ⟨hok, inner, hown, hr⟩ := Kd.R_take h (m := k) (by omega)
  obtain ⟨s1, s2, s3, s4⟩ := setCells_same go seg (k * 2) W
  have hdk : (d.take k).length = k := by rw [List.length_take]; omega
  rcases hown.2 with ⟨hv, _⟩ | ⟨g', cap', cur, hv, hb, hh, hn, hcm, hcs, htake⟩
  · cases hv
  injection hv with ha _ hc
  injection ha with ha
  injection ha with hg
  subst hg; subst hc
  have hcs2 : cur.size = cap * 2 := hcs
  obtain ⟨cur', h3, h4, h5⟩ := setCells_row seg (k * 2) W cur hh (by omega)
  refine ⟨⟨hok, inner, ⟨hown.1, .inr ⟨go, cap, cur', by rw [hdk], hb, h3, hn, hcm, by rw [h4, hcs], ?_⟩⟩, hr.imp_ (fun p q hp => hp)⟩, ⟨s1, s2, s3, by rw [s4]; exact Nat.le_refl _, fun i _ hne => setCells_far seg _ i (fun e => hne (by rw [e]))⟩⟩
  rw [hdk] at htake ⊢
  have htake2 : cur.toList.take (k * 2) = inner := htake
  show cur'.toList.take (k * 2) = inner
  rw [h5, List.append_assoc, List.take_append_of_le_length (by rw [List.length_take, Array.length_toList]; omega), List.take_take, Nat.min_self, htake2]
end Go.Proofs.Ytdhabfjfpbdjfaa.Pr
