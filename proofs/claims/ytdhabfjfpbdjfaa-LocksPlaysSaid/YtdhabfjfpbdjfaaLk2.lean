-- A text by hand (wip/locks).
import Derived.RangeFuncNested
import Derived.RangeFuncBound
import Derived.RangeFuncCalls
import Derived.RangeFuncLeaves
import Derived.RangeFuncBox
import Derived.Shelf.Abstract
import Derived.Shelf.RegionOpen
import Derived.OwnWalkIn
import Derived.TacticsInMore
import Derived.LoopNIn
import Derived.LoopIn
import Derived.Test.YtdhabfjfpbdjfaaPr0
import Derived.Test.YtdhabfjfpbdjfaaLk1
namespace Go.Proofs.Ytdhabfjfpbdjfaa.Pr
open Go.RowKit Go.Shelf Go.Proofs.YtdhabfjfpbdjfaaW.PrintWords Go.Proofs.YtdhabfjfpbdjfaaW.PrintLast Go.Proofs.YtdhabfjfpbdjfaaW.PrintMore
set_option linter.unusedVariables false
set_option linter.unusedSimpArgs false

theorem blk_own {β : Type} (g : β → Nat) (t : β → TypeId) (cs : β → Array Value) : Own (fun (s : β) W => W.heap[g s]? = some (.cells (cs s) (t s) (0, 0))) := fun s A B row hs hg hr => (hg.block (g s) (blk_lt hs) (fun e => by
  obtain ⟨o, ho, hn⟩ := hr (g s) e.symm
  rw [hs] at ho
  injection ho with ho
  rw [← ho] at hn
  cases hn)).trans hs
theorem all_stops (F : Fence) (n : Nat) (hF : F.fn 31) (hro : F.round = none) (hn : 1 ≤ n) (Bs n₀ g o : Nat) (A : Option Addr) (cap : Nat) (xs : List S63) (hreach : xs.length ≤ 4611686018427387904) (hb : ∀ ad, A = some ad → ad.block < n₀) (w : World) (hBs : Bs < w.heap.size) (hgl : g < w.heap.size) (hn₀ : n₀ ≤ w.heap.size)
    (hcB : w.cell? ⟨Bs, 0, none⟩ = some (.pointer (some ⟨g, o, none⟩))) (hq : w.cell? ⟨g, o, none⟩ = some (.slice A xs.length cap)) (hI : Kd.C k63 w A xs.length xs) :
    SeqStopsK F n Try.prog 31 #[.pointer (some ⟨Bs, 0, none⟩)] (fun x : S63 => #[agA x]) (Below n₀) (fun ys => ys = xs) (fun pre => pre <+: xs) xs.length w := fun l J Jx W hW hJa _ hY h0 =>
  all1_in F n hF hro hn l Bs n₀ g o A xs.length cap xs rfl hreach hb J Jx (fun pre W W' h hg => hJa pre W W' none h hg (fun r e => by cases e)) hY W (Nat.le_trans hn₀ hW.size) ((hW.cell (p := ⟨Bs, 0, none⟩) hBs).trans hcB) ((hW.cell (p := ⟨g, o, none⟩) hgl).trans hq) (Kd.C_below hI hW) h0
section
attribute [local go_sem] Oper.semAt_some
set_option maxHeartbeats 1000000 in
theorem all_in (F : Fence) (n : Nat) (hF : F.fn 29) (hro : F.round = none) (p : Option Addr) (w : World) :
    CallsIn F n Try.prog 29 #[.pointer p] w fun e w' => e = .returned (.func (.func 31) #[] #[.pointer (some ⟨w.heap.size, 0, none⟩)]) ∧ w' = w.alloc (.cells #[.pointer p] 55 (0, 0)) := by
  refine callsIn_of_wp Try.func29 rfl hF ?_ hro
  simp only [Try.ntmps29, List.size_toArray, List.length_cons, List.length_nil, Nat.reduceAdd, Nat.reduceSub, Array.replicate_succ, Array.replicate_zero, List.push_toArray, List.append_toArray, List.nil_append, List.cons_append]
  gi_wp2
  go_ret
  exact ⟨rfl, rfl⟩
end
/-- Does one ask for himself in a row? -/
def hasF (xs : List S63) (who : Int) : Bool := xs.any fun x => x.f0 == who
section
attribute [local go_sem] Oper.semAt_some
set_option maxRecDepth 100000 in
set_option maxHeartbeats 4000000 in
theorem has_ask1_calls (g o gw : Nat) (A : Option Addr) (cap : Nat) (xs : List S63) (who : Int) (w : World) (hgl : g < w.heap.size) (hq : w.cell? ⟨g, o, none⟩ = some (.slice A xs.length cap)) (hI : Kd.C k63 w A xs.length xs) (hb : ∀ ad, A = some ad → ad.block < w.heap.size) (hreach : xs.length ≤ 4611686018427387904) (hw : w.heap[gw]? = some (cellW who)) :
    Calls Try.prog 23 #[.pointer (some ⟨g, o, none⟩), .func (.func 26) #[] #[.pointer (some ⟨gw, 0, none⟩)]] w fun e w' => e = .returned (.bool (hasF xs who)) ∧ Below w.heap.size w w' := by
  refine (callsIn_wide (n := 3)).1 ?_
  refine callsIn_of_wp_marks Try.func23 rfl trivial ?_ rfl
  simp only [Try.ntmps23, List.size_toArray, List.length_cons, List.length_nil, Nat.reduceAdd, Nat.reduceSub, Array.replicate_succ, Array.replicate_zero, List.push_toArray, List.append_toArray, List.nil_append, List.cons_append]
  gi_wp2_with (refine ⟨trivial, ?_⟩; gi_at_call 29; refine (all_in Fence.wide 2 trivial rfl _ _).mono ?_; rintro e w' ⟨rfl, rfl⟩)
  have b3 := blk_alloc (blk_alloc (blk_new w (.cells #[.func (.func 26) #[] #[.pointer (some ⟨gw, 0, none⟩)]] 64 (0, 0))) (.cells #[.bool false] 4 (0, 0))) (.cells #[.pointer (some ⟨g, o, none⟩)] 55 (0, 0))
  have b4 := blk_alloc (blk_new (w.alloc (.cells #[.func (.func 26) #[] #[.pointer (some ⟨gw, 0, none⟩)]] 64 (0, 0))) (.cells #[.bool false] 4 (0, 0))) (.cells #[.pointer (some ⟨g, o, none⟩)] 55 (0, 0))
  have bA := blk_new ((w.alloc (.cells #[.func (.func 26) #[] #[.pointer (some ⟨gw, 0, none⟩)]] 64 (0, 0))).alloc (.cells #[.bool false] 4 (0, 0))) (.cells #[.pointer (some ⟨g, o, none⟩)] 55 (0, 0))
  simp only [World.size_alloc] at b4 bA
  have hB0 : Below w.heap.size w (((w.alloc (.cells #[.func (.func 26) #[] #[.pointer (some ⟨gw, 0, none⟩)]] 64 (0, 0))).alloc (.cells #[.bool false] 4 (0, 0))).alloc (.cells #[.pointer (some ⟨g, o, none⟩)] 55 (0, 0))) := below_alloc (below_alloc (below_alloc (Below.refl _ _) _) _) _
  have hsz : (((w.alloc (.cells #[.func (.func 26) #[] #[.pointer (some ⟨gw, 0, none⟩)]] 64 (0, 0))).alloc (.cells #[.bool false] 4 (0, 0))).alloc (.cells #[.pointer (some ⟨g, o, none⟩)] 55 (0, 0))).heap.size = w.heap.size + 3 := by simp only [World.size_alloc]
  obtain ⟨W0, hW0⟩ : ∃ W0, (((w.alloc (.cells #[.func (.func 26) #[] #[.pointer (some ⟨gw, 0, none⟩)]] 64 (0, 0))).alloc (.cells #[.bool false] 4 (0, 0))).alloc (.cells #[.pointer (some ⟨g, o, none⟩)] 55 (0, 0))) = W0 := ⟨_, rfl⟩
  rw [hW0] at b3 b4 bA hB0 hsz ⊢
  clear hW0
  have o1 : ∀ (g t : Nat) (cs : Array Value), OwnFrom (β := List S63) W0.heap.size (fun _ W => W.heap[g]? = some (.cells cs t (0, 0))) := fun g t cs => Own.from (blk_own (β := List S63) (fun _ => g) (fun _ => t) (fun _ => cs)) _
  refine wpIn_rangeFunc_ownH rfl (by decide) (gf := 31) (lb := #[.pointer (some ⟨w.heap.size + 1 + 1, 0, none⟩)]) rfl trivial (enters_of Try.func31 (by kernel_rfl) rfl)
    (all_stops Fence.wide 2 trivial rfl (by decide) (w.heap.size + 1 + 1) w.heap.size g o A cap xs hreach hb W0 (by omega) (by omega) (by omega) ((blk_cell bA 0).trans rfl) (pw_cell_below hB0 hq) (Kd.C_below hI hB0)) belowK_t (belowK_b (by omega)) (Below.refl _ _) (fun _ => rfl)
    (fun pre W => (∀ x ∈ pre, x.f0 ≠ who) ∧ W.heap[w.heap.size]? = some (.cells #[.func (.func 26) #[] #[.pointer (some ⟨gw, 0, none⟩)]] 64 (0, 0)) ∧ W.heap[w.heap.size + 1]? = some (.cells #[.bool false] 4 (0, 0)) ∧ Below w.heap.size w W)
    (fun c pre W => (c = .ret ∧ ∃ x ∈ pre, x.f0 = who) ∧ W.heap[w.heap.size + 1]? = some (.cells #[.bool true] 4 (0, 0)) ∧ Below w.heap.size w W)
    (OwnFrom.and (ownFrom_pure _ _) (OwnFrom.and (o1 _ _ _) (OwnFrom.and (o1 _ _ _) (ownFrom_below (Nat.le_refl _) (by omega)))))
    (fun c => OwnFrom.and (ownFrom_pure _ _) (OwnFrom.and (o1 _ _ _) (ownFrom_below (Nat.le_refl _) (by omega))))
    ⟨by simp, b3, b4, hB0⟩
    (fun x a' W => ∃ Bx, w.heap.size + 1 < Bx ∧ W.heap[Bx]? = some (.cells #[.int .i64 x.f0, .bool x.f1] 63 (0, 0)) ∧ a' = { tmps := #[.pointer (some ⟨g, o, none⟩), .func (.func 26) #[] #[.pointer (some ⟨gw, 0, none⟩)], undef, .pointer (some ⟨w.heap.size, 0, none⟩), .pointer (some ⟨w.heap.size + 1, 0, none⟩), .pointer (some ⟨Bx, 0, none⟩), .pointer (some ⟨g, o, none⟩), .func (.func 31) #[] #[.pointer (some ⟨w.heap.size + 1 + 1, 0, none⟩)], agA x, undef, undef, undef], defers := [] })
    (fun x a' _ X Y row hs hg hr => by obtain ⟨Bx, h1, h2, h3⟩ := hs; exact ⟨Bx, h1, blk_own (fun (_ : Unit) => Bx) (fun _ => 63) (fun _ => #[.int .i64 x.f0, .bool x.f1]) () X Y row h2 hg (fun r e => (hr r e).2), h3⟩)
    ?assign ?body ?done ?stop
  case assign =>
    rintro l pre ⟨x0, x1⟩ W K ⟨hno, c3, c4, hB⟩ hK
    have h4 := blk_lt c4
    dsimp only [agA]
    gi_wp2
    exact hK _ _ ((KeepsOthers.alloc _ _).from _) ((Below.refl _ W).alloc hB.size _) ⟨hno, blk_alloc c3 _, blk_alloc c4 _, hB.alloc hB.size _⟩ ⟨W.heap.size, h4, blk_new W _, rfl⟩
  case body =>
    rintro l pre ⟨x0, x1⟩ a' W hl ⟨r, hr⟩ ⟨hno, c3, c4, hB⟩ ⟨Bx, hBx, bX, rfl⟩ hlt
    have hc3 : W.cell? ⟨w.heap.size, 0, none⟩ = some (.func (.func 26) #[] #[.pointer (some ⟨gw, 0, none⟩)]) := (blk_cell c3 0).trans rfl
    have hcx0 : W.cell? ⟨Bx, 0, none⟩ = some (.int .i64 x0) := (blk_cell bX 0).trans rfl
    have hcx1 : W.cell? ⟨Bx, 1, none⟩ = some (.bool x1) := (blk_cell bX 1).trans rfl
    have hgw := (hB.block gw (blk_lt hw)).trans hw
    have hB' := Aside0.mk hB
    have c3' := Aside0.mk c3
    have c4' := Aside0.mk c4
    have hno' := Aside0.mk hno
    clear hB hr bX c3 c4 hno
    by_cases hx : x0 = who
    · have hxb : (x0 == who) = true := beq_iff_eq.mpr hx
      have hx' := Aside0.mk hx
      clear hx
      gi_wp2_with (refine ⟨trivial, ?_⟩; gi_at_call 26; refine (CallsIn.inRound l (callsIn_wide.2 (ask1_calls gw who x0 x1 _ hgw))).mono ?_; rintro e w3 ⟨rfl, hb3⟩; have c43 := Aside0.mk (blk_below c4'.out hb3); have hc4 : w3.cell? ⟨w.heap.size + 1, 0, none⟩ = some (.bool false) := (blk_cell c43.out 0).trans rfl; have hf4 := blk_frozen c43.out 0; have hb3' := Aside0.mk hb3; clear hb3)
      have hbf := (hB'.out.trans (hb3'.out.mono hB'.out.size)).setCell (p := ⟨w.heap.size + 1, 0, none⟩) (by show w.heap.size ≤ w.heap.size + 1; omega) (.bool true)
      exact ⟨(KeepsFrom.of_grownBy (grown_of_below hb3'.out none) (fun j e => by cases e)).trans ((KeepsOthers.setCell _ _ _).from _), ⟨rfl, ⟨x0, x1⟩, List.mem_append.2 (.inr (by simp)), hx'.out⟩, blk_put c43.out 0 _ rfl, hbf⟩
    · have hxb : (x0 == who) = false := beq_eq_false_iff_ne.mpr hx
      have hx' := Aside0.mk hx
      clear hx
      gi_wp2_with (refine ⟨trivial, ?_⟩; gi_at_call 26; refine (CallsIn.inRound l (callsIn_wide.2 (ask1_calls gw who x0 x1 _ hgw))).mono ?_; rintro e w3 ⟨rfl, hb3⟩; have hb3' := Aside0.mk hb3; clear hb3)
      exact ⟨KeepsFrom.of_grownBy (grown_of_below hb3'.out none) (fun j e => by cases e), hb3'.out.mono hB'.out.size, fun y hy => (List.mem_append.1 hy).elim (hno'.out y) (fun e => by simp at e; subst e; exact hx'.out), blk_below c3'.out hb3'.out, blk_below c4'.out hb3'.out, hB'.out.trans (hb3'.out.mono hB'.out.size)⟩
  case done =>
    rintro D ys W hD rfl ⟨hne, c3, c4, hB⟩ hK
    have hcr : W.cell? ⟨w.heap.size + 1, 0, none⟩ = some (.bool false) := (blk_cell c4 0).trans rfl
    have hfr := blk_frozen c4 0
    gi_wp2
    have hK' := (KeepsOthers.setCell W ⟨w.heap.size + 1, 0, none⟩ (.bool false)).same D _ hK rfl
    refine ⟨by simp, .inl ⟨_, _, rfl, run_takeDeferred hK', ?_⟩⟩
    have hc5 := cell_kept (World.cell?_setCell_same' W ⟨w.heap.size + 1, 0, none⟩ (.bool false) (by rw [hcr]; rfl)) (grownBy_putObj' _ D (.deferred none)) (fun r e => by cases e; exact ⟨_, hK', rfl⟩)
    have hz : hasF ys who = false := by
      unfold hasF
      rw [List.any_eq_false]
      intro x hx
      rw [beq_iff_eq]
      exact hne x hx
    refine ⟨.bool false, ?_, by rw [hz], (hB.setCell (p := ⟨w.heap.size + 1, 0, none⟩) (by show w.heap.size ≤ w.heap.size + 1; omega) _).trans (belowK_b (w := w) (Nat.le_refl _) _ D _ _ (by omega) hK' rfl rfl)⟩
    simp [results, Try.f23, go_sem, hc5]
  case stop =>
    rintro D c pre W hD hpre ⟨⟨rfl, x, hin, hxe⟩, c4, hB⟩ hK
    have hcr : W.cell? ⟨w.heap.size + 1, 0, none⟩ = some (.bool true) := (blk_cell c4 0).trans rfl
    gi_wp2
    refine ⟨by simp, .inl ⟨_, _, rfl, run_takeDeferred hK, ?_⟩⟩
    have hc5 := cell_kept hcr (grownBy_putObj' _ D (.deferred none)) (fun r e => by cases e; exact ⟨_, hK, rfl⟩)
    have hz : hasF xs who = true := by
      unfold hasF
      rw [List.any_eq_true]
      exact ⟨x, hpre.subset hin, by rw [beq_iff_eq]; exact hxe⟩
    refine ⟨.bool true, ?_, by rw [hz], hB.trans (belowK_b (w := w) (Nat.le_refl _) W D _ _ (by omega) hK rfl rfl)⟩
    simp [results, Try.f23, go_sem, hc5]
set_option maxRecDepth 100000 in
set_option maxHeartbeats 4000000 in
theorem has_free1_calls (g o gw : Nat) (A : Option Addr) (cap : Nat) (xs : List S63) (who : Int) (w : World) (hgl : g < w.heap.size) (hq : w.cell? ⟨g, o, none⟩ = some (.slice A xs.length cap)) (hI : Kd.C k63 w A xs.length xs) (hb : ∀ ad, A = some ad → ad.block < w.heap.size) (hreach : xs.length ≤ 4611686018427387904) (hw : w.heap[gw]? = some (cellW who)) :
    Calls Try.prog 23 #[.pointer (some ⟨g, o, none⟩), .func (.func 22) #[] #[.pointer (some ⟨gw, 0, none⟩)]] w fun e w' => e = .returned (.bool (hasF xs who)) ∧ Below w.heap.size w w' := by
  refine (callsIn_wide (n := 3)).1 ?_
  refine callsIn_of_wp_marks Try.func23 rfl trivial ?_ rfl
  simp only [Try.ntmps23, List.size_toArray, List.length_cons, List.length_nil, Nat.reduceAdd, Nat.reduceSub, Array.replicate_succ, Array.replicate_zero, List.push_toArray, List.append_toArray, List.nil_append, List.cons_append]
  gi_wp2_with (refine ⟨trivial, ?_⟩; gi_at_call 29; refine (all_in Fence.wide 2 trivial rfl _ _).mono ?_; rintro e w' ⟨rfl, rfl⟩)
  have b3 := blk_alloc (blk_alloc (blk_new w (.cells #[.func (.func 22) #[] #[.pointer (some ⟨gw, 0, none⟩)]] 64 (0, 0))) (.cells #[.bool false] 4 (0, 0))) (.cells #[.pointer (some ⟨g, o, none⟩)] 55 (0, 0))
  have b4 := blk_alloc (blk_new (w.alloc (.cells #[.func (.func 22) #[] #[.pointer (some ⟨gw, 0, none⟩)]] 64 (0, 0))) (.cells #[.bool false] 4 (0, 0))) (.cells #[.pointer (some ⟨g, o, none⟩)] 55 (0, 0))
  have bA := blk_new ((w.alloc (.cells #[.func (.func 22) #[] #[.pointer (some ⟨gw, 0, none⟩)]] 64 (0, 0))).alloc (.cells #[.bool false] 4 (0, 0))) (.cells #[.pointer (some ⟨g, o, none⟩)] 55 (0, 0))
  simp only [World.size_alloc] at b4 bA
  have hB0 : Below w.heap.size w (((w.alloc (.cells #[.func (.func 22) #[] #[.pointer (some ⟨gw, 0, none⟩)]] 64 (0, 0))).alloc (.cells #[.bool false] 4 (0, 0))).alloc (.cells #[.pointer (some ⟨g, o, none⟩)] 55 (0, 0))) := below_alloc (below_alloc (below_alloc (Below.refl _ _) _) _) _
  have hsz : (((w.alloc (.cells #[.func (.func 22) #[] #[.pointer (some ⟨gw, 0, none⟩)]] 64 (0, 0))).alloc (.cells #[.bool false] 4 (0, 0))).alloc (.cells #[.pointer (some ⟨g, o, none⟩)] 55 (0, 0))).heap.size = w.heap.size + 3 := by simp only [World.size_alloc]
  obtain ⟨W0, hW0⟩ : ∃ W0, (((w.alloc (.cells #[.func (.func 22) #[] #[.pointer (some ⟨gw, 0, none⟩)]] 64 (0, 0))).alloc (.cells #[.bool false] 4 (0, 0))).alloc (.cells #[.pointer (some ⟨g, o, none⟩)] 55 (0, 0))) = W0 := ⟨_, rfl⟩
  rw [hW0] at b3 b4 bA hB0 hsz ⊢
  clear hW0
  have o1 : ∀ (g t : Nat) (cs : Array Value), OwnFrom (β := List S63) W0.heap.size (fun _ W => W.heap[g]? = some (.cells cs t (0, 0))) := fun g t cs => Own.from (blk_own (β := List S63) (fun _ => g) (fun _ => t) (fun _ => cs)) _
  refine wpIn_rangeFunc_ownH rfl (by decide) (gf := 31) (lb := #[.pointer (some ⟨w.heap.size + 1 + 1, 0, none⟩)]) rfl trivial (enters_of Try.func31 (by kernel_rfl) rfl)
    (all_stops Fence.wide 2 trivial rfl (by decide) (w.heap.size + 1 + 1) w.heap.size g o A cap xs hreach hb W0 (by omega) (by omega) (by omega) ((blk_cell bA 0).trans rfl) (pw_cell_below hB0 hq) (Kd.C_below hI hB0)) belowK_t (belowK_b (by omega)) (Below.refl _ _) (fun _ => rfl)
    (fun pre W => (∀ x ∈ pre, x.f0 ≠ who) ∧ W.heap[w.heap.size]? = some (.cells #[.func (.func 22) #[] #[.pointer (some ⟨gw, 0, none⟩)]] 64 (0, 0)) ∧ W.heap[w.heap.size + 1]? = some (.cells #[.bool false] 4 (0, 0)) ∧ Below w.heap.size w W)
    (fun c pre W => (c = .ret ∧ ∃ x ∈ pre, x.f0 = who) ∧ W.heap[w.heap.size + 1]? = some (.cells #[.bool true] 4 (0, 0)) ∧ Below w.heap.size w W)
    (OwnFrom.and (ownFrom_pure _ _) (OwnFrom.and (o1 _ _ _) (OwnFrom.and (o1 _ _ _) (ownFrom_below (Nat.le_refl _) (by omega)))))
    (fun c => OwnFrom.and (ownFrom_pure _ _) (OwnFrom.and (o1 _ _ _) (ownFrom_below (Nat.le_refl _) (by omega))))
    ⟨by simp, b3, b4, hB0⟩
    (fun x a' W => ∃ Bx, w.heap.size + 1 < Bx ∧ W.heap[Bx]? = some (.cells #[.int .i64 x.f0, .bool x.f1] 63 (0, 0)) ∧ a' = { tmps := #[.pointer (some ⟨g, o, none⟩), .func (.func 22) #[] #[.pointer (some ⟨gw, 0, none⟩)], undef, .pointer (some ⟨w.heap.size, 0, none⟩), .pointer (some ⟨w.heap.size + 1, 0, none⟩), .pointer (some ⟨Bx, 0, none⟩), .pointer (some ⟨g, o, none⟩), .func (.func 31) #[] #[.pointer (some ⟨w.heap.size + 1 + 1, 0, none⟩)], agA x, undef, undef, undef], defers := [] })
    (fun x a' _ X Y row hs hg hr => by obtain ⟨Bx, h1, h2, h3⟩ := hs; exact ⟨Bx, h1, blk_own (fun (_ : Unit) => Bx) (fun _ => 63) (fun _ => #[.int .i64 x.f0, .bool x.f1]) () X Y row h2 hg (fun r e => (hr r e).2), h3⟩)
    ?assign ?body ?done ?stop
  case assign =>
    rintro l pre ⟨x0, x1⟩ W K ⟨hno, c3, c4, hB⟩ hK
    have h4 := blk_lt c4
    dsimp only [agA]
    gi_wp2
    exact hK _ _ ((KeepsOthers.alloc _ _).from _) ((Below.refl _ W).alloc hB.size _) ⟨hno, blk_alloc c3 _, blk_alloc c4 _, hB.alloc hB.size _⟩ ⟨W.heap.size, h4, blk_new W _, rfl⟩
  case body =>
    rintro l pre ⟨x0, x1⟩ a' W hl ⟨r, hr⟩ ⟨hno, c3, c4, hB⟩ ⟨Bx, hBx, bX, rfl⟩ hlt
    have hc3 : W.cell? ⟨w.heap.size, 0, none⟩ = some (.func (.func 22) #[] #[.pointer (some ⟨gw, 0, none⟩)]) := (blk_cell c3 0).trans rfl
    have hcx0 : W.cell? ⟨Bx, 0, none⟩ = some (.int .i64 x0) := (blk_cell bX 0).trans rfl
    have hcx1 : W.cell? ⟨Bx, 1, none⟩ = some (.bool x1) := (blk_cell bX 1).trans rfl
    have hgw := (hB.block gw (blk_lt hw)).trans hw
    have hB' := Aside0.mk hB
    have c3' := Aside0.mk c3
    have c4' := Aside0.mk c4
    have hno' := Aside0.mk hno
    clear hB hr bX c3 c4 hno
    by_cases hx : x0 = who
    · have hxb : (x0 == who) = true := beq_iff_eq.mpr hx
      have hx' := Aside0.mk hx
      clear hx
      gi_wp2_with (refine ⟨trivial, ?_⟩; gi_at_call 22; refine (CallsIn.inRound l (callsIn_wide.2 (free1_calls gw who x0 x1 _ hgw))).mono ?_; rintro e w3 ⟨rfl, hb3⟩; have c43 := Aside0.mk (blk_below c4'.out hb3); have hc4 : w3.cell? ⟨w.heap.size + 1, 0, none⟩ = some (.bool false) := (blk_cell c43.out 0).trans rfl; have hf4 := blk_frozen c43.out 0; have hb3' := Aside0.mk hb3; clear hb3)
      have hbf := (hB'.out.trans (hb3'.out.mono hB'.out.size)).setCell (p := ⟨w.heap.size + 1, 0, none⟩) (by show w.heap.size ≤ w.heap.size + 1; omega) (.bool true)
      exact ⟨(KeepsFrom.of_grownBy (grown_of_below hb3'.out none) (fun j e => by cases e)).trans ((KeepsOthers.setCell _ _ _).from _), ⟨rfl, ⟨x0, x1⟩, List.mem_append.2 (.inr (by simp)), hx'.out⟩, blk_put c43.out 0 _ rfl, hbf⟩
    · have hxb : (x0 == who) = false := beq_eq_false_iff_ne.mpr hx
      have hx' := Aside0.mk hx
      clear hx
      gi_wp2_with (refine ⟨trivial, ?_⟩; gi_at_call 22; refine (CallsIn.inRound l (callsIn_wide.2 (free1_calls gw who x0 x1 _ hgw))).mono ?_; rintro e w3 ⟨rfl, hb3⟩; have hb3' := Aside0.mk hb3; clear hb3)
      exact ⟨KeepsFrom.of_grownBy (grown_of_below hb3'.out none) (fun j e => by cases e), hb3'.out.mono hB'.out.size, fun y hy => (List.mem_append.1 hy).elim (hno'.out y) (fun e => by simp at e; subst e; exact hx'.out), blk_below c3'.out hb3'.out, blk_below c4'.out hb3'.out, hB'.out.trans (hb3'.out.mono hB'.out.size)⟩
  case done =>
    rintro D ys W hD rfl ⟨hne, c3, c4, hB⟩ hK
    have hcr : W.cell? ⟨w.heap.size + 1, 0, none⟩ = some (.bool false) := (blk_cell c4 0).trans rfl
    have hfr := blk_frozen c4 0
    gi_wp2
    have hK' := (KeepsOthers.setCell W ⟨w.heap.size + 1, 0, none⟩ (.bool false)).same D _ hK rfl
    refine ⟨by simp, .inl ⟨_, _, rfl, run_takeDeferred hK', ?_⟩⟩
    have hc5 := cell_kept (World.cell?_setCell_same' W ⟨w.heap.size + 1, 0, none⟩ (.bool false) (by rw [hcr]; rfl)) (grownBy_putObj' _ D (.deferred none)) (fun r e => by cases e; exact ⟨_, hK', rfl⟩)
    have hz : hasF ys who = false := by
      unfold hasF
      rw [List.any_eq_false]
      intro x hx
      rw [beq_iff_eq]
      exact hne x hx
    refine ⟨.bool false, ?_, by rw [hz], (hB.setCell (p := ⟨w.heap.size + 1, 0, none⟩) (by show w.heap.size ≤ w.heap.size + 1; omega) _).trans (belowK_b (w := w) (Nat.le_refl _) _ D _ _ (by omega) hK' rfl rfl)⟩
    simp [results, Try.f23, go_sem, hc5]
  case stop =>
    rintro D c pre W hD hpre ⟨⟨rfl, x, hin, hxe⟩, c4, hB⟩ hK
    have hcr : W.cell? ⟨w.heap.size + 1, 0, none⟩ = some (.bool true) := (blk_cell c4 0).trans rfl
    gi_wp2
    refine ⟨by simp, .inl ⟨_, _, rfl, run_takeDeferred hK, ?_⟩⟩
    have hc5 := cell_kept hcr (grownBy_putObj' _ D (.deferred none)) (fun r e => by cases e; exact ⟨_, hK, rfl⟩)
    have hz : hasF xs who = true := by
      unfold hasF
      rw [List.any_eq_true]
      exact ⟨x, hpre.subset hin, by rw [beq_iff_eq]; exact hxe⟩
    refine ⟨.bool true, ?_, by rw [hz], hB.trans (belowK_b (w := w) (Nat.le_refl _) W D _ _ (by omega) hK rfl rfl)⟩
    simp [results, Try.f23, go_sem, hc5]
end
end Go.Proofs.Ytdhabfjfpbdjfaa.Pr
