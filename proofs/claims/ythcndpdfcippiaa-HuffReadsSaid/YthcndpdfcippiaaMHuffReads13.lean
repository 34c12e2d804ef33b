/- The row of the law valiselaw04.HuffReads, out of its walk (Pr.HuffReads.walk). No condition. -/
import Derived.Test.YthcndpdfcippiaaRows
import Derived.Test.YthcndpdfcippiaaMHuffReads11
import Derived.WalkKit
import Derived.ProofKit
import Derived.OpenShut
import Derived.ShutString
import Derived.ChangeOld
import Derived.Below
import Derived.SizedLaws
import Derived.Lib.SmallJoins
import Derived.Test.YthcndpdfcippiaaMHuffReads12
-- YthcndpdfcippiaaLawHuffReads
namespace Go.Proofs.Ythcndpdfcippiaa.huffReads
open Go.ChangeShapes Go.WideShapes Go.ChangeAt Go.RowKit Go.Joins Go.Proofs.YthcndpdfcippiaaW
open Go.ChangeMaps (open_string shut_string)
set_option linter.unusedVariables false
set_option linter.unusedSimpArgs false
theorem own : ownKnob Try.prog.godebug = none := by kernel_rfl
theorem laidOut : laidOutB Try.prog = true := by kernel_rfl
def IsRow (k : IntKind) (w : World) (a : Option Addr) (len cap : Nat) (zs : List Int) : Prop :=
  (a = none ∧ len = 0 ∧ cap = 0 ∧ zs = []) ∨
  ∃ x, a = some x ∧ len ≤ cap ∧ cap ≤ maxLen ∧ zs.length = cap ∧ (∀ i, i < zs.length → w.cell? (x.add i) = some (.int k (zs.getD i 0))) ∧ ∀ n ∈ zs, (Lit.int k n).wf = true
theorem opened {H : Type} {enc : TypeId × Value → H} {P : Program} {W : World} {t e : TypeId} {k : IntKind} {B fuel : Nat} {c : Value} {x : DataW H × List MemPlace} (hu : P.underlying t = some (.slice e)) (he : P.underlying e = some (.int k)) (hc : P.cellsOf e = 1) (hb : P.bytesOf e = B)
    (h : DataW.trod enc P W 0 (fun _ => true) true fuel t [c] = some x) : ∃ (a : Option Addr) (len cap : Nat) (zs : List Int), c = .slice a len cap ∧ IsRow k W a len cap zs ∧ (∀ K, (∀ y ∈ x.1.weights P t, y ≤ K) → len * B ≤ K) := by
  rcases open_ints hu he hc h with ⟨hcs, _⟩ | ⟨x', l, c', zs, hcs, _, hl, hm, hz, hx, hcell, hwz⟩
  · simp at hcs
    exact ⟨none, 0, 0, [], hcs, .inl ⟨rfl, rfl, rfl, rfl⟩, fun K _ => by simp⟩
  · simp at hcs
    refine ⟨some x', l, c', zs, hcs, .inr ⟨_, rfl, hl, hm, by simpa using hz, hcell, hwz⟩, fun K hK => ?_⟩
    obtain ⟨hx, _⟩ := Prod.mk.inj hx
    have h2 := hK ((zs.take l).length * B + (zs.drop l).length * B) (by rw [hx]; simp [DataW.weights, hu, hb, lits, Nat.add_mul])
    have h3 : (zs.take l).length = l := by rw [List.length_take]; simp at hz; omega
    rw [h3] at h2
    omega
set_option maxRecDepth 100000 in
theorem lifted (os : Os) (started : os.Started) (H : Type) (enc : TypeId × Value → H) :
    ReturnsInHanded {} Try.checked os 5 .any (Rows.huffReadsSpec.pre6 enc Try.prog Try.f5 Rows.huffReadsRow.domain false) (Rows.huffReadsSpec.post enc Try.prog Try.f5 false true false false) := by
  refine returnsInHanded_of_change_sized (C := Try.checked) own started (by kernel_rfl) Try.func5
    (ChangeSpec.witness6 (enc := enc) (C := Try.checked) false ⟨#[], #[.slice none 0 0, .agg #[.slice none 0 0, .int .i64 0], .int .i64 0], []⟩ 8 (by kernel_rfl) (by kernel_rfl) (by kernel_rfl) (by kernel_rfl)) ?_
  intro W base args ds gs before hval0 hW hcnd hsz0 _
  have hsz : (DataW.weightsEach Try.prog (Try.f5.params.toList ++ Rows.huffReadsSpec.plain.varTypes Try.prog) (ds ++ gs)).all (· ≤ reachBytes) = true := hsz0
  have hval : ∀ (j : Nat) t v, Try.f5.params[j]? = some t → args[j]? = some v → Value.okWide Try.prog W .any base t v := hval0
  have hW' := hW
  obtain ⟨p, q, hA0, hV, rfl, hfz, hnd⟩ := hW
  have hA : DataW.TrodAll enc Try.prog W 0 (fun _ => true) true Try.f5.params.toList args.toList ds p := hA0
  rw [Try.params5] at hA hval hsz
  obtain ⟨v0, vs0, d0, ds0, p0, q0, hargs, rfl, rfl, h0, r0⟩ := trodAll_cons hA
  obtain ⟨v1, vs1, d1, ds1, p1, q1, rfl, rfl, rfl, h1, r1⟩ := trodAll_cons r0
  obtain ⟨v2, vs2, d2, ds2, p2, q2, rfl, rfl, rfl, h2, r2⟩ := trodAll_cons r1
  obtain ⟨rfl, rfl, rfl⟩ := trodAll_nil r2
  obtain rfl : args = #[v0, v1, v2] := by cases args; simp_all
  obtain ⟨rfl, rfl⟩ := trodVars_none hV
  have k0 := h0
  have lt0 : ∀ x ∈ p0, x.block < W.heap.size := by obtain ⟨m, hm⟩ := k0; exact DataW.trod_lt m _ _ _ hm
  obtain ⟨A0, len0, cap0, rfl⟩ := okWide_slice Try.underlying22 (hval 0 22 v0 rfl rfl)
  obtain ⟨z0, g0⟩ : ∃ zs, IsRow .i64 W A0 len0 cap0 zs := by
    obtain ⟨fuel, hf⟩ := h0
    rcases open_ints Try.underlying22 Try.underlying3 (by kernel_rfl) hf with ⟨hcs, _⟩ | ⟨x, l, c, zs, hcs, _, hl, hm, hz, _, hcell, hwz⟩
    · simp [Value.cells] at hcs
      obtain ⟨rfl, rfl, rfl⟩ := hcs
      exact ⟨[], .inl ⟨rfl, rfl, rfl, rfl⟩⟩
    · simp [Value.cells] at hcs
      obtain ⟨rfl, rfl, rfl⟩ := hcs
      exact ⟨zs, .inr ⟨_, rfl, hl, hm, by simpa using hz, hcell, hwz⟩⟩
  have y0 : len0 * 8 ≤ 140737488351232 := PrintWords.sized_ints hsz (j := 0) (t := 22) rfl rfl Try.underlying22 Try.underlying3 (by kernel_rfl) (by kernel_rfl) h0
  obtain ⟨l0, rfl, r0_, m0, w0, c0⟩ := PrintWords.ReadsInt.ofRowC g0
  have k1 := h1
  have lt1 : ∀ x ∈ p1, x.block < W.heap.size := by obtain ⟨m, hm⟩ := k1; exact DataW.trod_lt m _ _ _ hm
  obtain ⟨x1_0, x1_1, y1_0, y1_1, n1, rfl, rfl, rfl, t1_0, t1_1⟩ := open_agg2 Try.underlying36 (by kernel_rfl) (by kernel_rfl) (hval 1 36 v1 rfl rfl) h1
  obtain ⟨A1_0, len1_0, cap1_0, z1_0, e1_0, g1_0, b1_0⟩ := opened (k := .u8) (B := 1) Try.underlying34 Try.underlying5 (by kernel_rfl) (by kernel_rfl) t1_0
  subst e1_0
  have y1_0 : len1_0 * 1 ≤ 140737488351232 := b1_0 _ (fun y hy => of_decide_eq_true (List.all_eq_true.1 hsz _ (DataW.weights_mem_each (j := 1) (t := 36) rfl rfl y (by simp only [DataW.weights, Try.underlying36, DataW.weightsEach, Array.toList, List.map_cons, List.map_nil, List.mem_append]; exact (.inl hy)))))
  obtain ⟨l1_0, rfl, r1_0_, m1_0, w1_0, c1_0⟩ := PrintWords.ReadsInt.ofRowC g1_0
  obtain ⟨a1_1, e1_1, ey1_1, w1_1⟩ := DataW.trod_int Try.underlying3 t1_1
  obtain rfl : x1_1 = .int .i64 a1_1 := by simpa using e1_1
  obtain ⟨a2, rfl, rfl, rfl, w2⟩ := open_int Try.underlying3 (hval 2 3 v2 rfl rfl) h2
  clear hA0 hval0 hsz0 hsz
  refine (Pr.HuffReads.walk A0 cap0 l0 A1_0 cap1_0 l1_0 a1_1 a2 W (PrintWords.Kd.C_of_reads (d := (0 : Int)) (h1 := fun _ => rfl) r0_) c0 y0 w0 (PrintWords.Kd.C_of_reads (d := (0 : Int)) (h1 := fun _ => rfl) r1_0_) c1_0 y1_0 w1_0 w1_1 w2).mono fun e W' ⟨he, bel⟩ => ?_
  subst he
  exact ⟨_, rfl, _, _, _, [], _, [], hW', trodAll_mk1 (shut_bool Try.underlying4 _), (trodAll_cons_mk (Below.trod laidOut (by kernel_rfl) (of_decide_eq_true (by kernel_rfl)) k0 bel lt0) (trodAll_cons_mk (Below.trod laidOut (by kernel_rfl) (of_decide_eq_true (by kernel_rfl)) k1 bel lt1) (trodAll_cons_mk (shut_int Try.underlying3 w2) trodAll_mk0))), rfl, bel.frame _, fun h => by cases h⟩
theorem proved : Rows.HuffReadsSaid :=
  OpenClaim.holds_of_wide 5 Try.f5 rfl rfl rfl rfl rfl rfl rfl ⟨rfl, rfl, rfl, rfl, rfl⟩ rfl rfl rfl rfl rfl (by kernel_rfl) Try.func5 (by kernel_rfl)
    (of_decide_eq_true (by kernel_rfl)) (by unfold Func.isWrapper; first | (rw [if_pos (by decide +kernel)]; kernel_rfl) | (rw [if_neg (by decide +kernel)]; exact ⟨rfl, rfl⟩))
    (fun os started H enc _ => lifted os started H enc)
#print axioms proved
end Go.Proofs.Ythcndpdfcippiaa.huffReads
namespace Go.Proofs.Ythcndpdfcippiaa
/-- The row, under a short name, for the claim. -/
theorem huffReads_holds : Rows.HuffReadsSaid := huffReads.proved
end Go.Proofs.Ythcndpdfcippiaa

