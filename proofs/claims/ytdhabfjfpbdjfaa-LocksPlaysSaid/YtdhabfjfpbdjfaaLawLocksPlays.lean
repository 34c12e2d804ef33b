/- The row of the law valiselaw18.LocksPlays, out of its walk (Pr.LocksPlays.walk). No condition. -/
import Derived.Test.YtdhabfjfpbdjfaaRows
import Derived.Test.YtdhabfjfpbdjfaaLk24
import Derived.WalkKit
import Derived.ProofKit
import Derived.OpenShut
import Derived.ShutString
import Derived.ChangeOld
import Derived.Below
import Derived.SizedLaws
import Derived.Lib.SmallJoins
import Derived.Test.YtdhabfjfpbdjfaaWSized
namespace Go.Proofs.Ytdhabfjfpbdjfaa.locksPlays
open Go.ChangeShapes Go.WideShapes Go.ChangeAt Go.RowKit Go.Joins Go.Proofs.YtdhabfjfpbdjfaaW
open Go.ChangeMaps (open_string shut_string)
open Go.Proofs.Ytdhabfjfpbdjfaa.Pr (open_acts ActOk S30 k30)
open Go.Proofs.YtdhabfjfpbdjfaaW.PrintWords (Kd Kd.C)
set_option linter.unusedVariables false
set_option linter.unusedSimpArgs false
theorem own : ownKnob Try.prog.godebug = none := by kernel_rfl
theorem laidOut : laidOutB Try.prog = true := by kernel_rfl
def IsRow (k : IntKind) (w : World) (a : Option Addr) (len cap : Nat) (zs : List Int) : Prop :=
  (a = none ∧ len = 0 ∧ cap = 0 ∧ zs = []) ∨
  ∃ x, a = some x ∧ len ≤ cap ∧ cap ≤ maxLen ∧ zs.length = cap ∧ (∀ i, i < zs.length → w.cell? (x.add i) = some (.int k (zs.getD i 0))) ∧ ∀ n ∈ zs, (Lit.int k n).wf = true
theorem opened {H : Type} {enc : TypeId × Value → H} {P : Program} {W : World} {t e : TypeId} {k : IntKind} {B fuel : Nat} {c : Value} {x : DataW H × List MemPlace} (hu : P.underlying t = some (.slice e)) (he : P.underlying e = some (.int k)) (hc : P.cellsOf e = 1) (hb : P.bytesOf e = B)
    (h : DataW.trod enc P W 0 (fun _ => true) true fuel t [c] = some x) : ∃ (a : Option Addr) (len cap : Nat) (zs : List Int), c = .slice a len cap ∧ IsRow k W a len cap zs ∧ (∀ K, (∀ y ∈ x.1.weights P t, y ≤ K) → len * B ≤ K) := by
  rcases open_ints hu he hc h with ⟨hcs, _⟩ | ⟨x', l, c', zs, hcs, _, hl, hm, hz, hx, hcell, hwz⟩
  · simp at hcs
    exact ⟨none, 0, 0, [], hcs, .inl ⟨rfl, rfl, rfl, rfl⟩, fun K _ => by simp⟩
  · simp at hcs
    refine ⟨some x', l, c', zs, hcs, .inr ⟨_, rfl, hl, hm, by simpa using hz, hcell, hwz⟩, fun K hK => ?_⟩
    obtain ⟨hx, _⟩ := Prod.mk.inj hx
    have h2 := hK ((zs.take l).length * B + (zs.drop l).length * B) (by rw [hx]; simp [DataW.weights, hu, hb, lits, Nat.add_mul])
    have h3 : (zs.take l).length = l := by rw [List.length_take]; simp at hz; omega
    rw [h3] at h2
    omega
set_option maxRecDepth 100000 in
theorem lifted (os : Os) (started : os.Started) (H : Type) (enc : TypeId × Value → H) :
    ReturnsInHanded {} Try.checked os 4 .any (Rows.locksPlaysSpec.pre6 enc Try.prog Try.f4 Rows.locksPlaysRow.domain false) (Rows.locksPlaysSpec.post enc Try.prog Try.f4 false true false false) := by
  refine returnsInHanded_of_change_sized (C := Try.checked) own started (by kernel_rfl) Try.func4
    (ChangeSpec.witness6 (enc := enc) (C := Try.checked) false ⟨#[], #[.slice none 0 0], []⟩ 8 (by kernel_rfl) (by kernel_rfl) (by kernel_rfl) (by kernel_rfl)) ?_
  intro W base args ds gs before hval0 hW hcnd hsz0 _
  have hsz : (DataW.weightsEach Try.prog (Try.f4.params.toList ++ Rows.locksPlaysSpec.plain.varTypes Try.prog) (ds ++ gs)).all (· ≤ reachBytes) = true := hsz0
  have hval : ∀ (j : Nat) t v, Try.f4.params[j]? = some t → args[j]? = some v → Value.okWide Try.prog W .any base t v := hval0
  have hW' := hW
  obtain ⟨p, q, hA0, hV, rfl, hfz, hnd⟩ := hW
  have hA : DataW.TrodAll enc Try.prog W 0 (fun _ => true) true Try.f4.params.toList args.toList ds p := hA0
  rw [Try.params4] at hA hval hsz
  obtain ⟨v0, vs0, d0, ds0, p0, q0, hargs, rfl, rfl, h0, r0⟩ := trodAll_cons hA
  obtain ⟨rfl, rfl, rfl⟩ := trodAll_nil r0
  obtain rfl : args = #[v0] := by cases args; simp_all
  obtain ⟨rfl, rfl⟩ := trodVars_none hV
  have k0 := h0
  have lt0 : ∀ x ∈ p0, x.block < W.heap.size := by obtain ⟨m, hm⟩ := k0; exact DataW.trod_lt m _ _ _ hm
  obtain ⟨A0, len0, cap0, rfl⟩ := okWide_slice Try.underlying22 (hval 0 22 v0 rfl rfl)
  obtain ⟨l0, rr0_, qq0, mm0, ww0⟩ : ∃ l : List S30, (Kd.C k30 W A0 len0 l ∧ l.length = len0) ∧ len0 ≤ cap0 ∧ len0 ≤ maxLen ∧ ∀ a ∈ l, ActOk a := by
    obtain ⟨fuel, hf⟩ := h0
    obtain ⟨l, e, r, q, m, w⟩ := open_acts (show DataW.trod enc Try.prog W 0 (fun _ => true) true fuel 22 [.slice A0 len0 cap0] = _ from hf)
    exact ⟨l, ⟨r, e⟩, q, m, w⟩
  obtain ⟨rr0, e0⟩ := rr0_
  subst e0
  clear hA0 hval0 hsz0 hsz
  refine (Pr.LocksPlays.walk A0 cap0 l0 W rr0 qq0 mm0 ww0).mono fun e W' ⟨he, bel⟩ => ?_
  subst he
  exact ⟨_, rfl, _, _, _, [], _, [], hW', trodAll_mk1 (shut_bool Try.underlying4 _), (trodAll_cons_mk (Below.trod laidOut (by kernel_rfl) (of_decide_eq_true (by kernel_rfl)) k0 bel lt0) trodAll_mk0), rfl, bel.frame _, fun h => by cases h⟩
theorem proved : Rows.LocksPlaysSaid :=
  OpenClaim.holds_of_wide 4 Try.f4 rfl rfl rfl rfl rfl rfl rfl ⟨rfl, rfl, rfl, rfl, rfl⟩ rfl rfl rfl rfl rfl (by kernel_rfl) Try.func4 (by kernel_rfl)
    (of_decide_eq_true (by kernel_rfl)) (by unfold Func.isWrapper; first | (rw [if_pos (by decide +kernel)]; kernel_rfl) | (rw [if_neg (by decide +kernel)]; exact ⟨rfl, rfl⟩))
    (fun os started H enc _ => lifted os started H enc)
#print axioms proved
end Go.Proofs.Ytdhabfjfpbdjfaa.locksPlays
namespace Go.Proofs.Ytdhabfjfpbdjfaa
/-- The row, under a short name, for the claim. -/
theorem locksPlays_holds : Rows.LocksPlaysSaid := locksPlays.proved
end Go.Proofs.Ytdhabfjfpbdjfaa
