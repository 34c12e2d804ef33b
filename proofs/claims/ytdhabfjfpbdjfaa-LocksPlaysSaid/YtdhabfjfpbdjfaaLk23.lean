-- A text by hand (wip/locks).
import Derived.RangeFuncNested
import Derived.RangeFuncBound
import Derived.RangeFuncCalls
import Derived.RangeFuncLeaves
import Derived.RangeFuncBox
import Derived.Shelf.Abstract
import Derived.Shelf.RegionOpen
import Derived.OwnWalkIn
import Derived.TacticsInMore
import Derived.LoopNIn
import Derived.LoopIn
import Derived.Test.YtdhabfjfpbdjfaaPr0
import Derived.Test.YtdhabfjfpbdjfaaLk22
import Derived.Test.YtdhabfjfpbdjfaaLk19
namespace Go.Proofs.Ytdhabfjfpbdjfaa.Pr
open Go.RowKit Go.Shelf Go.Proofs.YtdhabfjfpbdjfaaW.PrintWords Go.Proofs.YtdhabfjfpbdjfaaW.PrintLast Go.Proofs.YtdhabfjfpbdjfaaW.PrintMore
set_option linter.unusedVariables false
set_option linter.unusedSimpArgs false

/-- All is kept but blocks of one type. -/
def KT (t : TypeId) (W W' : World) : Prop := ∃ X, Kept W W' X ∧ ∀ k, X k → ∃ cells, W.heap[k]? = some (.cells cells t (0, 0))
theorem KT.ne {t t' : TypeId} {W : World} {k : Nat} {cs cs' : Array Value} {fr fr' : Nat × Nat} (h : W.heap[k]? = some (.cells cs t fr)) (h' : W.heap[k]? = some (.cells cs' t' fr')) : t = t' := by
  rw [h] at h'
  injection h' with h'
  injection h' with _ h' _
theorem blk_kt {t t' : TypeId} {W W' : World} {g : Nat} {cs : Array Value} (h : W.heap[g]? = some (.cells cs t' (0, 0))) (k : KT t W W') (ht : t' ≠ t) : W'.heap[g]? = some (.cells cs t' (0, 0)) := by
  obtain ⟨X, hk, hX⟩ := k
  exact blk_kept h hk fun hx => by
    obtain ⟨c, hc⟩ := hX _ hx
    exact ht (KT.ne h hc)
theorem R_kt {α : Type} {d : Kd α} {e t : TypeId} {W W' : World} {base : Nat} {ok : Nat → Prop} {v : Value} {xs : List α} (hE : d.E = []) (ht : e ≠ t) (h : Kd.R d e W base ok v xs) (k : KT t W W') : Kd.R d e W' base ok v xs := by
  obtain ⟨X, hk, hX⟩ := k
  exact Kd.R_mono (Kd.R_kept (Kd.R_tight2 hE h) hk (fun k hk hx => by
    obtain ⟨c, hc⟩ := Kd.R_typed h k hk.1.symm
    obtain ⟨c', hc'⟩ := hX _ hx
    exact ht (KT.ne hc hc'))) (fun _ h => h.2)
theorem la_kt {t : TypeId} {W W' : World} {base gl : Nat} {P : LP} (h : LA W base gl P) (k : KT t W W') (h1 : t ≠ 60) (h2 : t ≠ 63) (h3 : t ≠ 51) : LA W' base gl P := by
  letI : Obs := Obs.none
  obtain ⟨B, clk, S, hL, e⟩ := h
  obtain ⟨X, hk, hX⟩ := k
  refine ⟨B, clk, S, hL.kept hk (fun hx => ?_) (fun hx => ?_) (fun r hr k hb hx => ?_) (fun k o ho _ _ hx => ho), e⟩
  · obtain ⟨c, hc⟩ := hX _ hx
    exact h3 (KT.ne hL.1 hc).symm
  · obtain ⟨c, hc⟩ := hX _ hx
    rw [hL.2.2.1] at hc
    injection hc with hc
    cases hc
  · obtain ⟨_, c, q, hq, hc⟩ := (hL.2.2.2.2.1 r hr).typed hb
    obtain ⟨c', hc'⟩ := hX _ hx
    have := KT.ne hc hc'
    rcases hq with rfl | rfl
    · exact h1 this.symm
    · exact h2 this.symm
theorem blk_off {t : TypeId} {W W' : World} {g : Nat} {cs : Array Value} (h : W.heap[g]? = some (.cells cs t (0, 0))) (ho : Off W W') (h1 : t ≠ 60) (h2 : t ≠ 63) : W'.heap[g]? = some (.cells cs t (0, 0)) :=
  (ho.2 g (blk_lt h) (fun hx => hx ⟨_, h, _, _, _, rfl, h1, h2⟩)).trans h
theorem kt_set {t : TypeId} {W : World} {g : Nat} {cs : Array Value} (h : W.heap[g]? = some (.cells cs t (0, 0))) (i : Nat) (u : Value) : KT t W (W.setCell ⟨g, i, none⟩ u) :=
  ⟨fun k => k = g, Kept.setCell (S := fun k => k = g) (p := ⟨g, i, none⟩) (Kept.refl W _) (.inl rfl) u, fun k hk => ⟨cs, by rw [hk]; exact h⟩⟩
theorem kt_below {t : TypeId} {W W' : World} (hb : Below W.heap.size W W') : KT t W W' := ⟨fun _ => False, Kept.of_below hb _, fun _ h => h.elim⟩
abbrev R69 (W : World) (base : Nat) (A : Option Addr) (c : Nat) (L : List S69) : Prop := Kd.R k69 69 W base (fun _ => True) (.slice A L.length c) L
theorem ref_free_calls (L L' : List S69) (now : List Int) (er who : Int) (key : ByteArray) (A : Option Addr) (c : Nat) (w0 w : World) (hB : Below w0.heap.size w0 w) (hR : R69 w w0.heap.size A c L) (hf : valiseref18_Locks_Free.f 5000 L who key = some (L', now, er)) :
    Calls Try.prog 14 #[.agg #[.slice A L.length c], .int .i64 who, .string key] w fun e w' => ∃ A' c' v1, e = .returned (.tuple #[.agg #[.slice A' L'.length c'], v1, .int .i64 er]) ∧ R69 w' w0.heap.size A' c' L' ∧ Kd.R (Kd.int .i64) 3 w' w0.heap.size (fun _ => True) v1 now ∧ Below w0.heap.size w0 w' ∧ KT 69 w w' := by
  refine (valiseref18_Locks_Free.calls 5000 _ _ L who key L' now er w0 w hB (Kd.R_tight2 rfl hR) hf).mono ?_
  rintro e w' ⟨v0, v1, rfl, h0, h1, hB', hk⟩
  obtain ⟨A', c', ev⟩ := Kd.R_slice h0
  subst ev
  exact ⟨A', c', v1, rfl, Kd.R_mono h0 (fun _ _ => trivial), Kd.R_mono h1 (fun _ _ => trivial), hB', _, hk, fun k hx => Kd.R_typed hR k hx.1.symm⟩
theorem ref_ask_calls (L L' : List S69) (ok wr : Bool) (er who : Int) (key : ByteArray) (A : Option Addr) (c : Nat) (w0 w : World) (hB : Below w0.heap.size w0 w) (hR : R69 w w0.heap.size A c L) (hf : valiseref18_Locks_Ask.f 5000 L who key wr = some (L', ok, er)) :
    Calls Try.prog 16 #[.agg #[.slice A L.length c], .int .i64 who, .string key, .bool wr] w fun e w' => ∃ A' c', e = .returned (.tuple #[.agg #[.slice A' L'.length c'], .bool ok, .int .i64 er]) ∧ R69 w' w0.heap.size A' c' L' ∧ Below w0.heap.size w0 w' ∧ KT 69 w w' := by
  refine (valiseref18_Locks_Ask.calls 5000 _ _ L who key wr L' ok er w0 w hB (Kd.R_tight2 rfl hR) hf).mono ?_
  rintro e w' ⟨v0, rfl, h0, hB', hk⟩
  obtain ⟨A', c', ev⟩ := Kd.R_slice h0
  subst ev
  exact ⟨A', c', rfl, Kd.R_mono h0 (fun _ _ => trivial), hB', _, hk, fun k hx => Kd.R_typed hR k hx.1.symm⟩
end Go.Proofs.Ytdhabfjfpbdjfaa.Pr
