/- The row of the law valiselaw05.LimitLeast, out of its walk (Pg.valiselaw05_LimitLeast.calls) and its plain law. No condition. -/
import Derived.Test.YtdgpcjhincgijaaRows
import Derived.Test.YtdgpcjhincgijaaMLT24
import Derived.WalkKit
import Derived.ProofKit
import Derived.OpenShut
import Derived.ShutString
import Derived.ChangeOld
import Derived.Below
import Derived.SizedLaws
-- YtdgpcjhincgijaaLawLimitLeast
namespace Go.Proofs.Ytdgpcjhincgijaa.limitLeast
open Go.ChangeShapes Go.WideShapes Go.ChangeAt Go.RowKit
open Go.ChangeMaps (open_string shut_string)
set_option linter.unusedVariables false
theorem own : ownKnob Try.prog.godebug = none := by kernel_rfl
theorem laidOut : laidOutB Try.prog = true := by kernel_rfl
theorem cells37 : Try.prog.cellsOf 37 = 1 := by kernel_rfl
theorem cells38 : Try.prog.cellsOf 38 = 5 := by kernel_rfl
theorem list5 {α : Type} (l : List α) (h : (⟨l⟩ : Array α).size = 5) : ∃ a b c d e, l = [a, b, c, d, e] := by
  match l, h with
  | [a, b, c, d, e], _ => exact ⟨a, b, c, d, e, rfl⟩
/-- An array of five numbers, as it is read. -/
theorem arr5 {H : Type} {enc : TypeId × Value → H} {W : World} {sp : Nat → Bool} {held : Bool} {base : Nat} {cs : Array Value} {d : DataW H} {p : List MemPlace} (hs : cs.size = 5) (h : DataW.Trod enc Try.prog W base sp held 38 (.agg cs) d p) :
    ∃ z0 z1 z2 z3 z4 : Int, cs = #[.int .u16 z0, .int .u16 z1, .int .u16 z2, .int .u16 z3, .int .u16 z4] ∧ ∀ x ∈ [z0, z1, z2, z3, z4], (Lit.int .u16 x).wf = true := by
  obtain ⟨l⟩ := cs
  obtain ⟨c0, c1, c2, c3, c4, rfl⟩ := list5 l hs
  obtain ⟨fuel, hf⟩ := h
  obtain ⟨xs, m, _, _, _, hl, he⟩ := DataW.trod_array Try.underlying38 hf
  rw [cells37] at he
  have one : ∀ (i : Nat) (c : Value), i < 5 → ([c0, c1, c2, c3, c4].drop (i * 1)).take 1 = [c] → ∃ z : Int, c = .int .u16 z ∧ (Lit.int .u16 z).wf = true := by
    intro i c hi hc
    have h2 : DataW.trod enc Try.prog W base sp held m 37 (([c0, c1, c2, c3, c4].drop (i * 1)).take 1) = xs[i]? := he i hi
    rw [hc, List.getElem?_eq_getElem (by omega)] at h2
    obtain ⟨z, e, _, hw⟩ := DataW.trod_int Try.underlying37 h2
    exact ⟨z, by injection e, hw⟩
  obtain ⟨z0, rfl, w0⟩ := one 0 c0 (by decide) rfl
  obtain ⟨z1, rfl, w1⟩ := one 1 c1 (by decide) rfl
  obtain ⟨z2, rfl, w2⟩ := one 2 c2 (by decide) rfl
  obtain ⟨z3, rfl, w3⟩ := one 3 c3 (by decide) rfl
  obtain ⟨z4, rfl, w4⟩ := one 4 c4 (by decide) rfl
  refine ⟨z0, z1, z2, z3, z4, rfl, fun x hx => ?_⟩
  simp only [List.mem_cons, List.not_mem_nil, or_false] at hx
  rcases hx with rfl | rfl | rfl | rfl | rfl <;> assumption
theorem walk (z0 z1 z2 z3 z4 a1 a2 : Int) (W : World) (hw : ∀ x ∈ [z0, z1, z2, z3, z4], (Lit.int .u16 x).wf = true) :
    Calls Try.prog 7 #[.agg #[.int .u16 z0, .int .u16 z1, .int .u16 z2, .int .u16 z3, .int .u16 z4], .int .i64 a1, .int .i64 a2] W fun e w' => e = .returned (.bool true) ∧ Below W.heap.size W w' :=
  Pg.valiselaw05_LimitLeast.calls 300001 z0 z1 z2 z3 z4 a1 a2 true W (Pg.limitLeast_pure [z0, z1, z2, z3, z4] a1 a2 rfl (fun i hi => by
    rw [List.getD_eq_getElem?_getD, List.getElem?_eq_getElem hi]
    have h := bounds_u16 (hw _ (List.getElem_mem hi))
    exact h)) rfl
set_option maxRecDepth 100000 in
theorem lifted (os : Os) (started : os.Started) (H : Type) (enc : TypeId × Value → H) :
    ReturnsInHanded {} Try.checked os 7 .any (Rows.limitLeastSpec.pre6 enc Try.prog Try.f7 Rows.limitLeastRow.domain false) (Rows.limitLeastSpec.post enc Try.prog Try.f7 false true false false) := by
  refine returnsInHanded_of_change_sized (C := Try.checked) own started (by kernel_rfl) Try.func7
    (ChangeSpec.witness6 (enc := enc) (C := Try.checked) false ⟨#[], #[.agg #[.int .u16 0, .int .u16 0, .int .u16 0, .int .u16 0, .int .u16 0], .int .i64 0, .int .i64 0], []⟩ 8 (by kernel_rfl) (by kernel_rfl) (by kernel_rfl) (by kernel_rfl)) ?_
  intro W base args ds gs before hval0 hW hcnd hsz0 _
  have hsz : (DataW.weightsEach Try.prog (Try.f7.params.toList ++ Rows.limitLeastSpec.plain.varTypes Try.prog) (ds ++ gs)).all (· ≤ reachBytes) = true := hsz0
  have hval : ∀ (j : Nat) t v, Try.f7.params[j]? = some t → args[j]? = some v → Value.okWide Try.prog W .any base t v := hval0
  have hW' := hW
  obtain ⟨p, q, hA0, hV, rfl, hfz, hnd⟩ := hW
  have hA : DataW.TrodAll enc Try.prog W 0 (fun _ => true) true Try.f7.params.toList args.toList ds p := hA0
  rw [Try.params7] at hA hval hsz
  obtain ⟨v0, vs0, d0, ds0, p0, q0, hargs, rfl, rfl, h0, r0⟩ := trodAll_cons hA
  obtain ⟨v1, vs1, d1, ds1, p1, q1, rfl, rfl, rfl, h1, r1⟩ := trodAll_cons r0
  obtain ⟨v2, vs2, d2, ds2, p2, q2, rfl, rfl, rfl, h2, r2⟩ := trodAll_cons r1
  obtain ⟨rfl, rfl, rfl⟩ := trodAll_nil r2
  obtain rfl : args = #[v0, v1, v2] := by cases args; simp_all
  obtain ⟨rfl, rfl⟩ := trodVars_none hV
  obtain ⟨cs, rfl, hs5, _⟩ : ∃ cs, v0 = .agg cs ∧ cs.size = Try.prog.cellsOf 38 ∧ Row.okWide Try.prog W .any base 38 cs := by
    have := hval 0 38 v0 rfl rfl
    simpa [Value.okWide, Try.underlying38] using this
  rw [cells38] at hs5
  have k0 := h0
  have lt0 : ∀ x ∈ p0, x.block < W.heap.size := by obtain ⟨m, hm⟩ := k0; exact DataW.trod_lt m _ _ _ hm
  obtain ⟨z0, z1, z2, z3, z4, rfl, hw⟩ := arr5 hs5 h0
  obtain ⟨a1, rfl, rfl, rfl, w1⟩ := open_int Try.underlying3 (hval 1 3 v1 rfl rfl) h1
  obtain ⟨a2, rfl, rfl, rfl, w2⟩ := open_int Try.underlying3 (hval 2 3 v2 rfl rfl) h2
  clear hA0 hval0 hsz0 hsz
  refine (walk z0 z1 z2 z3 z4 a1 a2 W hw).mono fun e W' ⟨he, bel⟩ => ?_
  subst he
  exact ⟨_, rfl, _, _, _, [], _, [], hW', trodAll_mk1 (shut_bool Try.underlying4 _), (trodAll_cons_mk (Below.trod laidOut (by kernel_rfl) (of_decide_eq_true (by kernel_rfl)) k0 bel lt0) (trodAll_cons_mk (shut_int Try.underlying3 w1) (trodAll_cons_mk (shut_int Try.underlying3 w2) trodAll_mk0))), rfl, bel.frame _, fun h => by cases h⟩
theorem over : Rows.limitLeastRow.holds Try.pinned (OpenSpec.ofChange Rows.limitLeastSpec) :=
  OpenClaim.holds_of_wide 7 Try.f7 rfl rfl rfl rfl rfl rfl rfl ⟨rfl, rfl, rfl, rfl, rfl⟩ rfl rfl rfl rfl rfl (by kernel_rfl) Try.func7 (by kernel_rfl)
    (of_decide_eq_true (by kernel_rfl)) (by unfold Func.isWrapper; first | (rw [if_pos (by decide +kernel)]; kernel_rfl) | (rw [if_neg (by decide +kernel)]; exact ⟨rfl, rfl⟩))
    (fun os started H enc _ => lifted os started H enc)
theorem proved : Rows.LimitLeastSaid := over
#print axioms proved
end Go.Proofs.Ytdgpcjhincgijaa.limitLeast
namespace Go.Proofs.Ytdgpcjhincgijaa
/-- The row, under a short name, for the claim. -/
theorem limitLeast_holds : Rows.LimitLeastSaid := limitLeast.proved
end Go.Proofs.Ytdgpcjhincgijaa

