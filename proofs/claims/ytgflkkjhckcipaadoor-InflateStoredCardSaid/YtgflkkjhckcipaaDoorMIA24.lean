/- The tied card of valiselaw09.InflateStored: for every input the law returns true, and the input reads as it did; package errors' variable errorType is tied to the program's text. No condition beside. -/
import Derived.Test.YtgflkkjhckcipaaDoorRows
import Derived.WalkKit
import Derived.ProofKit
import Derived.OpenShut
import Derived.ShutString
import Derived.ChangeOld
import Derived.Below
import Derived.SizedLaws
import Derived.Lib.SmallJoins
import Derived.Test.YtgflkkjhckcipaaDoorMIA1
import Derived.Test.YtgflkkjhckcipaaDoorMIA23
import Derived.Test.YtgflkkjhckcipaaDoorTie
import Derived.Test.YtgflkkjhckcipaaDoorCards
import Derived.ChangeSame
import Derived.ChangeVars
import Derived.JoinedOf
import Derived.RowKitTokens
import Derived.LaidLaws
import Derived.LaidHandle
import Derived.Stop.Joined
import Derived.SevenTiedAt
-- YtgflkkjhckcipaaDoorLawInflateStored
namespace Go.Proofs.YtgflkkjhckcipaaDoor.inflateStored
open Go.ChangeShapes Go.WideShapes Go.ChangeAt Go.RowKit Go.Proofs.YtgflkkjhckcipaaDoorW
open Go.Proofs.YtgflkkjhckcipaaDoorW.PrintWords (Kd)
open Go.ChangeMaps (open_string shut_string)
set_option linter.unusedVariables false
theorem own : ownKnob Tryd.prog.godebug = none := by kernel_rfl
theorem laidOut : laidOutB Tryd.prog = true := by kernel_rfl
theorem et : Tryd.prog.globalNamed "errors.errorType" = some 0 := by kernel_rfl
theorem rt : (Tryd.prog.cutTypes.find? (·.1 == "internal/reflectlite.rtype")).map (·.2) = some 73 := by kernel_rfl
theorem size : Tryd.prog.types.size = 171 := by kernel_rfl
theorem oneRow : ((List.range 171).filter fun t => Tryd.prog.rowNamed t [101, 114, 114, 111, 114]) = [43] := by kernel_rfl
theorem handle_of_laid {W : World} (h : laidMetH Tryd.prog [("errors.errorType", Rows.laid_errors_errorType)] W) : Pr.Handle W := by
  have h' : laidMet Tryd.prog [] W ∧ handlesMet Tryd.prog [("errors.errorType", Rows.laid_errors_errorType)] W := h
  obtain ⟨name, u, ty, e1, e2, e3, e4, e5⟩ := h'.2 _ (List.mem_singleton.2 rfl)
  have en : name = [101, 114, 114, 111, 114] := (Option.some.inj e1).symm
  subst en
  obtain rfl := Option.some.inj (rt.symm.trans e2)
  have hm : ty ∈ (List.range 171).filter fun t => Tryd.prog.rowNamed t [101, 114, 114, 111, 114] := List.mem_filter.2 ⟨List.mem_range.2 (by rw [← size]; exact e3), e4⟩
  rw [oneRow] at hm
  obtain rfl := List.mem_singleton.1 hm
  have hh : typeHandle Tryd.prog 43 = .pointer (some ⟨1, 43, none⟩) := by kernel_rfl
  rw [hh] at e5
  show W.cell? ⟨0, 0, none⟩ = _
  simpa using World.var?_cell et e5 0
noncomputable def laidWorld (os : Os) : World :=
  let w0 := World.holding Tryd.prog os ⟨#[], #[], []⟩
  { w0 with heap := w0.heap.modify 0 fun
      | .cells _ t frozen => .cells #[.iface 73 (.agg #[.pointer (some ⟨1, 43, none⟩)])] t frozen
      | o => o }
theorem laidWorld_met (os : Os) (args : Array Value) : laidMetH Tryd.prog [("errors.errorType", Rows.laid_errors_errorType)] ((laidWorld os).forCall (fun _ _ => 0) ⟨#[], args, []⟩).memory :=
  laidMetH_of_parts (laidMet_nil _ _) (by kernel_rfl)
def IsRow (k : IntKind) (w : World) (a : Option Addr) (len cap : Nat) (zs : List Int) : Prop :=
  (a = none ∧ len = 0 ∧ cap = 0 ∧ zs = []) ∨
  ∃ x, a = some x ∧ len ≤ cap ∧ cap ≤ maxLen ∧ zs.length = cap ∧ (∀ i, i < zs.length → w.cell? (x.add i) = some (.int k (zs.getD i 0))) ∧ ∀ n ∈ zs, (Lit.int k n).wf = true
theorem open_inner {H : Type} {enc : TypeId × Value → H} {W : World} {fuel : Nat} {c : Value} {x : DataW H × List MemPlace} (h : DataW.trod enc Tryd.prog W 0 (fun _ => true) true fuel 22 [c] = some x) :
    ∃ (A : Option Addr) (q : List Int) (cap : Nat), c = .slice A q.length cap ∧ q.length ≤ cap ∧ Kd.C (Kd.int .u8) W A q.length q ∧ ∀ x ∈ q, (Lit.int .u8 x).wf = true := by
  obtain ⟨a, len, cap, zs, hc, hr⟩ : ∃ (a : Option Addr) (len cap : Nat) (zs : List Int), c = .slice a len cap ∧ IsRow .u8 W a len cap zs := by
    rcases open_ints Tryd.underlying22 Tryd.underlying5 (by kernel_rfl) h with ⟨hcs, _⟩ | ⟨x', l, c', zs, hcs, _, hl, hm, hz, hx, hcell, hwz⟩
    · simp at hcs
      exact ⟨none, 0, 0, [], hcs, .inl ⟨rfl, rfl, rfl, rfl⟩⟩
    · simp at hcs
      exact ⟨some x', l, c', zs, hcs, .inr ⟨_, rfl, hl, hm, by simpa using hz, hcell, hwz⟩⟩
  subst hc
  obtain ⟨l, rfl, r, m, w, cc⟩ := PrintWords.ReadsInt.ofRowC hr
  exact ⟨a, l, cap, rfl, cc, PrintWords.Kd.C_of_reads (d := (0 : Int)) (h1 := fun _ => rfl) r, w⟩
theorem open_rows {H : Type} {enc : TypeId × Value → H} {W : World} {fuel : Nat} {A : Option Addr} {len cap : Nat} {x : DataW H × List MemPlace} (h : DataW.trod enc Tryd.prog W 0 (fun _ => true) true fuel 29 [.slice A len cap] = some x) :
    ∃ l : List (List Int), l.length = len ∧ Kd.C (Kd.slice 5 (Kd.int .u8)) W A len l ∧ len ≤ cap ∧ ∀ r ∈ l, ∀ x ∈ r, (Lit.int .u8 x).wf = true := by
  rcases Go.Deep.open_slice Tryd.underlying29 h with ⟨hcs, _⟩ | ⟨a, len', cap', m, n, D, Pl, hcs, hb, hl, hm, hmm, rfl, hx⟩
  · simp at hcs
    obtain ⟨rfl, rfl, rfl⟩ := hcs
    exact ⟨[], rfl, ⟨rfl, by omega, fun h => absurd h (by omega)⟩, Nat.le_refl _, by simp⟩
  · simp at hcs
    obtain ⟨rfl, rfl, rfl⟩ := hcs
    have each : ∀ i, i < len → ∃ q : List Int, (∃ (B : Option Addr) (c : Nat), W.cell? (a.add (i * 1)) = some (.slice B q.length c) ∧ q.length ≤ c ∧ Kd.C (Kd.int .u8) W B q.length q) ∧ ∀ x ∈ q, (Lit.int .u8 x).wf = true := by
      intro i hi
      obtain ⟨cs', h1, h2⟩ := hx i (by rw [hmm]; simp; omega)
      have hc1 : Tryd.prog.cellsOf 22 = 1 := by kernel_rfl
      rw [hc1] at h1
      obtain ⟨_, hlen, hcell⟩ := World.cells?_some h1
      match cs', hlen with
      | [v0], _ =>
        obtain ⟨B, q, c, rfl, hc, hC, hw⟩ := open_inner h2
        have c0 := hcell 0 (by omega)
        rw [Go.Deep.add_add] at c0
        exact ⟨q, ⟨B, c, c0, hc, hC⟩, hw⟩
    obtain ⟨q, hq⟩ := Go.Deep.choose_lt each
    refine ⟨(List.range len).map q, by simp, ⟨by simp, ?_, fun _ => ⟨a, rfl, fun j p hj => ?_⟩⟩, hl, fun p hp => ?_⟩
    · unfold maxLen at hm
      omega
    · rw [List.getElem?_map] at hj
      obtain ⟨hjl, hjq⟩ : j < len ∧ q j = p := by
        by_cases hjl : j < len
        · rw [List.getElem?_range hjl] at hj
          exact ⟨hjl, by simpa using hj⟩
        · rw [List.getElem?_eq_none (by simp; omega)] at hj
          simp at hj
      subst hjq
      obtain ⟨⟨B, c, c0, hc, hC⟩, _⟩ := hq j hjl
      refine ⟨[.slice B (q j).length c], rfl, ⟨B, c, rfl, hc, hC⟩, fun i u hu => ?_⟩
      match i, hu with
      | 0, hu => simp at hu; subst hu; exact c0
    · obtain ⟨i, hi, rfl⟩ := List.mem_map.1 hp
      exact (hq i (List.mem_range.1 hi)).2
set_option maxRecDepth 100000 in
theorem lifted (os : Os) (started : os.Started) (H : Type) (enc : TypeId × Value → H) :
    ReturnsInHanded {} Tryd.checked os 5 .any (fun w args => (Rows.inflateStoredSpec.pre enc Tryd.prog Tryd.f5 Rows.inflateStoredRow.domain false w args ∧ laidMetH Tryd.prog [("errors.errorType", Rows.laid_errors_errorType)] w) ∧ sizedMet enc Tryd.prog Tryd.f5 (OpenSpec.ofChange Rows.inflateStoredSpec) false w args) (Rows.inflateStoredSpec.post enc Tryd.prog Tryd.f5 false true false false) := by
  refine returnsInHanded_of_change_and (C := Tryd.checked) (X := fun w _ => laidMetH Tryd.prog [("errors.errorType", Rows.laid_errors_errorType)] w) (fun _ _ _ hh h => h.of_heap hh) own started (by kernel_rfl) Tryd.func5
    (ChangeSpec.witness_at (enc := enc) (C := Tryd.checked) (os := os) (X := fun w _ => laidMetH Tryd.prog [("errors.errorType", Rows.laid_errors_errorType)] w) false (laidWorld os) #[.slice none 0 0] 8 rfl (by kernel_rfl) (by kernel_rfl) (by kernel_rfl) (by kernel_rfl) (by kernel_rfl) (laidWorld_met os _)) ?_
  intro W base args ds gs before hval0 hW hcnd hsz0 hL _
  have hsz : (DataW.weightsEach Tryd.prog (Tryd.f5.params.toList ++ Rows.inflateStoredSpec.plain.varTypes Tryd.prog) (ds ++ gs)).all (· ≤ reachBytes) = true := hsz0
  have hval : ∀ (j : Nat) t v, Tryd.f5.params[j]? = some t → args[j]? = some v → Value.okWide Tryd.prog W .any base t v := hval0
  have hW' := hW
  obtain ⟨p, q, hA0, hV, rfl, hfz, hnd⟩ := hW
  have hA : DataW.TrodAll enc Tryd.prog W 0 (fun _ => true) true Tryd.f5.params.toList args.toList ds p := hA0
  rw [Tryd.params5] at hA hval
  obtain ⟨v0, vs0, d0, ds0, p0, q0, hargs, rfl, rfl, h0, r0⟩ := trodAll_cons hA
  obtain ⟨rfl, rfl, rfl⟩ := trodAll_nil r0
  obtain rfl : args = #[v0] := by cases args; simp_all
  obtain ⟨rfl, rfl⟩ := trodVars_none hV
  obtain ⟨a0, len0, cap0, rfl⟩ := okWide_slice Tryd.underlying29 (hval 0 29 v0 rfl rfl)
  have k0 := h0
  have lt0 : ∀ x ∈ p0, x.block < W.heap.size := by obtain ⟨m, hm⟩ := k0; exact DataW.trod_lt m _ _ _ hm
  obtain ⟨l0, rr0_, qq0, ww0⟩ : ∃ l : List (List Int), (Kd.C (Kd.slice 5 (Kd.int .u8)) W a0 len0 l ∧ l.length = len0) ∧ len0 ≤ cap0 ∧ ∀ r ∈ l, ∀ x ∈ r, (Lit.int .u8 x).wf = true := by
    obtain ⟨fuel, hf⟩ := h0
    obtain ⟨l, e, r, q, w⟩ := open_rows (show DataW.trod enc Tryd.prog W 0 (fun _ => true) true fuel 29 [.slice a0 len0 cap0] = _ from hf)
    exact ⟨l, ⟨r, e⟩, q, w⟩
  obtain ⟨rr0, e0⟩ := rr0_
  subst e0
  obtain ⟨k, hk⟩ := PureInflateStored.InflateStored l0 ww0
  clear hA0 hval0 hsz0 hsz
  refine (Pg.valiselaw09_InflateStored.calls k a0 cap0 l0 true W rr0 qq0 (handle_of_laid hL) hk rfl).mono fun e W' ⟨he, bel⟩ => ?_
  subst he
  exact ⟨_, rfl, _, _, _, [], _, [], hW', trodAll_mk1 (shut_bool Tryd.underlying4 _), (trodAll_cons_mk (Below.trod laidOut (by kernel_rfl) (of_decide_eq_true (by kernel_rfl)) k0 bel lt0) trodAll_mk0), rfl, bel.frame _, fun h => by cases h⟩
theorem over : Rows.inflateStoredRow.holds Tryd.pinned (OpenSpec.ofChange Rows.inflateStoredSpec) :=
  OpenClaim.holds_of_wide 5 Tryd.f5 rfl rfl rfl rfl rfl rfl rfl ⟨rfl, rfl, rfl, rfl, rfl⟩ rfl rfl rfl rfl rfl (by kernel_rfl) Tryd.func5 (by kernel_rfl)
    (of_decide_eq_true (by kernel_rfl)) (by unfold Func.isWrapper; first | (rw [if_pos (by decide +kernel)]; kernel_rfl) | (rw [if_neg (by decide +kernel)]; exact ⟨rfl, rfl⟩))
    (fun os started H enc _ => lifted os started H enc)
theorem wants : Tryd.f5.params.toList.all (fun t => !Tryd.prog.wantsStandIn t) = true := by kernel_rfl
theorem proved : Rows.InflateStoredCardSaid :=
  Claim7.holds_tied_plain_at .later [] [.handle] true (true, "05041c8e7b13d3369527e75d1957b91ed2c46f1e43a11972c51816a5667158ae") true over (fun _ h => by cases h) (by kernel_rfl) (fun _ h => by cases h) inflateStored_row_tie rfl ⟨rfl, rfl⟩ (by kernel_rfl) rfl
    (fun f_ fn_ hf hfn => by
      obtain rfl : f_ = 5 := Option.some.inj ((show Tryd.prog.funcNamed "valise/valiselaw09.InflateStored" = some 5 by kernel_rfl).symm.trans hf) |>.symm
      obtain rfl : fn_ = Tryd.f5 := (Option.some.inj (Tryd.func5.symm.trans hfn)).symm
      refine ⟨by kernel_rfl, fun j t ht => ?_⟩
      have hm : t ∈ Tryd.f5.params.toList := by
        have h2 : Tryd.f5.params.toList[j]? = some t := by rw [Array.getElem?_toList]; exact ht
        exact List.mem_of_getElem? h2
      have h3 := List.all_eq_true.1 wants t hm
      show Tryd.prog.wantsStandIn t = false
      simpa using h3)
    (by kernel_rfl)
#print axioms proved
end Go.Proofs.YtgflkkjhckcipaaDoor.inflateStored
namespace Go.Proofs.YtgflkkjhckcipaaDoor
theorem inflateStored_holds : Rows.InflateStoredCardSaid := inflateStored.proved
end Go.Proofs.YtgflkkjhckcipaaDoor

