-- A text by hand (wip/locks).
import Derived.RangeFuncNested
import Derived.RangeFuncBound
import Derived.RangeFuncCalls
import Derived.RangeFuncLeaves
import Derived.RangeFuncBox
import Derived.Shelf.Abstract
import Derived.Shelf.RegionOpen
import Derived.OwnWalkIn
import Derived.TacticsInMore
import Derived.LoopNIn
import Derived.LoopIn
import Derived.Test.YtdhabfjfpbdjfaaPr0
import Derived.Test.YtdhabfjfpbdjfaaLk2
namespace Go.Proofs.Ytdhabfjfpbdjfaa.Pr
open Go.RowKit Go.Shelf Go.Proofs.YtdhabfjfpbdjfaaW.PrintWords Go.Proofs.YtdhabfjfpbdjfaaW.PrintLast Go.Proofs.YtdhabfjfpbdjfaaW.PrintMore
set_option linter.unusedVariables false
set_option linter.unusedSimpArgs false

def whoL (xs : List S63) : List Int := xs.map fun x => x.f0
theorem whoL_snoc (xs : List S63) (x : S63) : whoL (xs ++ [x]) = whoL xs ++ [x.f0] := by unfold whoL; rw [List.map_append]; rfl
section
attribute [local go_sem] Oper.semAt_some
set_option maxRecDepth 100000 in
set_option maxHeartbeats 4000000 in
theorem whose_calls (g o : Nat) (A : Option Addr) (cap : Nat) (xs : List S63) (w : World) (hgl : g < w.heap.size) (hq : w.cell? ⟨g, o, none⟩ = some (.slice A xs.length cap)) (hI : Kd.C k63 w A xs.length xs) (hb : ∀ ad, A = some ad → ad.block < w.heap.size) (hreach : xs.length ≤ 1048576) :
    Calls Try.prog 20 #[.pointer (some ⟨g, o, none⟩)] w fun e w' => ∃ v, e = .returned v ∧ Kd.R (Kd.int .i64) 3 w' w.heap.size (fun _ => True) v (whoL xs) ∧ Below w.heap.size w w' := by
  obtain ⟨i0, hi, hz0, hz1, hz2⟩ := info_parts info3
  refine (callsIn_wide (n := 3)).1 ?_
  refine callsIn_of_wp_marks Try.func20 rfl trivial ?_ rfl
  simp only [Try.ntmps20, List.size_toArray, List.length_cons, List.length_nil, Nat.reduceAdd, Nat.reduceSub, Array.replicate_succ, Array.replicate_zero, List.push_toArray, List.append_toArray, List.nil_append, List.cons_append]
  gi_wp2_with (refine ⟨trivial, ?_⟩; gi_at_call 29; refine (all_in Fence.wide 2 trivial rfl _ _).mono ?_; rintro e w' ⟨rfl, rfl⟩)
  have bO := Boxed.new w 27 (.slice none 0 0)
  have bA := blk_new (w.alloc (.cells #[.slice none 0 0] 27 (0, 0))) (.cells #[.pointer (some ⟨g, o, none⟩)] 55 (0, 0))
  simp only [World.size_alloc] at bA
  have bO2 := bO.alloc (.cells #[.pointer (some ⟨g, o, none⟩)] 55 (0, 0))
  have hB0 : Below w.heap.size w ((w.alloc (.cells #[.slice none 0 0] 27 (0, 0))).alloc (.cells #[.pointer (some ⟨g, o, none⟩)] 55 (0, 0))) := below_alloc (below_alloc (Below.refl _ _) _) _
  have hsz : ((w.alloc (.cells #[.slice none 0 0] 27 (0, 0))).alloc (.cells #[.pointer (some ⟨g, o, none⟩)] 55 (0, 0))).heap.size = w.heap.size + 2 := by simp only [World.size_alloc]
  obtain ⟨W0, hW0⟩ : ∃ W0, ((w.alloc (.cells #[.slice none 0 0] 27 (0, 0))).alloc (.cells #[.pointer (some ⟨g, o, none⟩)] 55 (0, 0))) = W0 := ⟨_, rfl⟩
  rw [hW0] at bO2 bA hB0 hsz ⊢
  clear hW0 bO
  refine wpIn_rangeFunc_ownH rfl (by decide) (gf := 31) (lb := #[.pointer (some ⟨w.heap.size + 1, 0, none⟩)]) rfl trivial (enters_of Try.func31 (by kernel_rfl) rfl)
    (all_stops Fence.wide 2 trivial rfl (by decide) (w.heap.size + 1) w.heap.size g o A cap xs (by omega) hb W0 (by omega) (by omega) (by omega) ((blk_cell bA 0).trans rfl) (pw_cell_below hB0 hq) (Kd.C_below hI hB0)) belowK_t (belowK_b (by omega)) (Below.refl _ _) (fun _ => rfl)
    (fun pre W => (∃ v, Boxed W w.heap.size 27 v ∧ W.ownsRow w.heap.size 3 1 v (whoL pre).length ((whoL pre).map (Value.int .i64)) ∧ True) ∧ Below w.heap.size w W)
    (fun _ _ _ => False)
    (OwnFrom.and (Own.from (holdsRow_own w.heap.size w.heap.size 27 3 1 (fun pre => (whoL pre).length) (fun pre => (whoL pre).map (Value.int .i64)) (fun pre v => True)) _) (ownFrom_below (Nat.le_refl _) (by omega)))
    (fun _ _ _ _ _ hs _ _ => hs)
    ⟨⟨_, bO2, World.ownsRow_nil _ _ _ _, trivial⟩, hB0⟩
    (fun x a' W => ∃ Bx, w.heap.size < Bx ∧ W.heap[Bx]? = some (.cells #[.int .i64 x.f0, .bool x.f1] 63 (0, 0)) ∧ a' = { tmps := #[.pointer (some ⟨g, o, none⟩), undef, .slice none 0 0, .pointer (some ⟨w.heap.size, 0, none⟩), .pointer (some ⟨Bx, 0, none⟩), .pointer (some ⟨g, o, none⟩), .func (.func 31) #[] #[.pointer (some ⟨w.heap.size + 1, 0, none⟩)], agA x, undef, undef, undef, undef, undef, undef], defers := [] })
    (fun x a' _ X Y row hs hg hr => by obtain ⟨Bx, h1, h2, h3⟩ := hs; exact ⟨Bx, h1, blk_own (fun (_ : Unit) => Bx) (fun _ => 63) (fun _ => #[.int .i64 x.f0, .bool x.f1]) () X Y row h2 hg (fun r e => (hr r e).2), h3⟩)
    ?assign ?body ?done ?stop
  case assign =>
    rintro l pre ⟨x0, x1⟩ W K ⟨⟨v, hv, hrow, _⟩, hB⟩ hK
    have hs := hB.size
    have hlt := hv.lt
    dsimp only [agA]
    gi_wp2
    exact hK _ _ ((KeepsOthers.alloc _ _).from _) ((Below.refl _ W).alloc hB.size _) ⟨⟨v, hv.alloc _, hrow.alloc _, trivial⟩, hB.alloc hB.size _⟩ ⟨W.heap.size, hlt, blk_new W _, rfl⟩
  case body =>
    rintro l pre ⟨x0, x1⟩ a' W hl ⟨r, hr⟩ ⟨⟨v, hv, hrow, _⟩, hB⟩ ⟨Bx, hBx, bX, rfl⟩ hlt
    have hc := hv.cell
    have hcx0 : W.cell? ⟨Bx, 0, none⟩ = some (.int .i64 x0) := (blk_cell bX 0).trans rfl
    have hpl : (whoL pre).length ≤ pre.length := by unfold whoL; rw [List.length_map]; exact Nat.le_refl _
    have hs := whoL_snoc pre ⟨x0, x1⟩
    generalize whoL pre = ss at hrow hpl hs
    have hS := Aside0.mk hs
    clear hs bX hr
    gi_wp2_with (gi_at_builtin; refine wpListIn_append_own _ rfl _ _ 27 rfl w.heap.size 3 i0 (.int .i64 0) 1 8 Try.underlying27 hi hz0 hz1 hz2 rfl (by decide) _ _ _ rfl (hrow.alloc _) ⟨W.heap.size, 0, none⟩ 1 1 [.int .i64 x0] rfl rfl (cell_one_new _ _ _) (by simp [Value.oneCell']) (by unfold maxLen; omega) (by omega) (by have := hB.size; simp; omega) ?_; intro v' w1 hown' hgrow _; obtain ⟨g', cap', rfl⟩ := ownsRow_succ hown'; obtain ⟨hv1, hv2, hr2, hk2, hb2⟩ := hv.appended (by decide) hrow hB.size (Nat.le_refl _) hown' hgrow; have hc1 := hv1.cell; have hf1 := hv1.frozen)
    exact ⟨hk2.from _, hb2, ⟨_, hv2, by rw [hS.out]; simpa using hr2⟩, hB.trans hb2⟩
  case done =>
    rintro D ys W hD rfl ⟨⟨v, hv, hrow, _⟩, hB⟩ hK
    have hc := hv.cell
    gi_wp2
    refine ⟨by simp, .inl ⟨_, _, rfl, run_takeDeferred hK, ?_⟩⟩
    exact ⟨_, results_tmp rfl _ _ _, v, rfl, Kd.R_of_own (ownsRow_putObj hrow _ hK rfl) (fun _ _ => trivial), hB.trans (belowK_b (w := w) (Nat.le_refl _) W D _ _ (by omega) hK rfl rfl)⟩
  case stop =>
    rintro D c pre W _ _ h _
    exact h.elim
end
end Go.Proofs.Ytdhabfjfpbdjfaa.Pr
