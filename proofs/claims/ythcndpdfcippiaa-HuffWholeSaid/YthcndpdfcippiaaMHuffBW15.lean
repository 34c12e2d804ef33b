-- Texts by hand and by programs of this session, joined (wip/tool/merge.py).
import Derived.Test.YthcndpdfcippiaaMHuffBW4
import Derived.Test.YthcndpdfcippiaaMHuffBW7
import Derived.Test.YthcndpdfcippiaaMHuffBW11
-- YthcndpdfcippiaaWkHuffWhole
namespace Go.Proofs.Ythcndpdfcippiaa.Pr
open Go.RowKit Go.Proofs.YthcndpdfcippiaaW.PrintWords Go.Proofs.YthcndpdfcippiaaW.PrintLast Go.Proofs.YthcndpdfcippiaaW.PrintMore
set_option linter.unusedVariables false
set_option linter.unusedSimpArgs false
set_option maxRecDepth 100000
section
attribute [local go_sem] Oper.semAt_some
set_option maxHeartbeats 8000000 in
set_option maxRecDepth 100000 in
theorem HuffWhole.walk (A0 : Option Addr) (c0 : Nat) (l0 : List Int) (A1 : Option Addr) (c1 : Nat) (l1 : List Int) (w : World) (r0 : Kd.C (Kd.int .i64) w A0 l0.length l0) (q0 : l0.length ≤ c0) (y0 : l0.length * 8 ≤ 140737488351232) (w0 : ∀ x ∈ l0, (Lit.int .i64 x).wf = true) (r1 : Kd.C (Kd.int .u8) w A1 l1.length l1) (q1 : l1.length ≤ c1) (y1 : l1.length * 1 ≤ 140737488351232) (w1 : ∀ x ∈ l1, (Lit.int .u8 x).wf = true) :
    Calls Try.prog 8 #[.slice A0 l0.length c0, .slice A1 l1.length c1] w fun e w' => e = .returned (.bool true) ∧ Below w.heap.size w w' := by
  have HR := Aside0.mk r0
  have HC := Aside0.mk q0
  have HRB := Aside0.mk r1
  have HCB := Aside0.mk q1
  have HB := Aside0.mk (Below.refl w.heap.size w)
  have HOK := Aside0.mk (okl_all l0)
  have hby := byt_wf w1
  have HCK := Aside0.mk (show huff_Check.f l0 = some (Hu.checkS l0) from rfl)
  by_cases hc : Hu.checkS l0 = 0
  · have hl := okl_of_check (.inl hc)
    have h0 : Hu.newS l0 = 0 := by unfold Hu.newS; rw [hc]; rfl
    rw [hc] at HCK
    have H0 := Aside0.mk h0
    have HS := Aside0.mk hc
    have HBY := Aside0.mk hby
    have HLL := Aside0.mk hl
    have HLM := Aside0.mk (show l1.length ≤ 140737488351232 by omega)
    obtain ⟨m, hm⟩ : ∃ m, 8 * l1.length = m := ⟨_, rfl⟩
    have HM := Aside0.mk hm
    have hmw : wrap64 (8 * (l1.length : Int)) = (m : Int) := by rw [wrap64_id (by omega) (by omega)]; omega
    have HMW := Aside0.mk hmw
    clear hc h0 hby r0 q0 r1 q1 w0 w1 y0 y1 hl hm hmw
    go_enter Try.func8, Try.ntmps8
    go_upto_region 7 with (first
        | (go_at_call 13; refine (huff_Check.calls A0 c0 l0 0 _ (Kd.C_below HR.out HB.out) HC.out HCK.out).mono ?_; rintro e_ w2 ⟨rfl, hb⟩; have n0 := Aside0.mk (below_then HB.out HB.out.size hb); clear HB; have HB := n0; clear n0; clear hb)
        | (go_at_call 21; refine (Hu.huff_New_all A0 c0 l0 _ (Kd.C_below HR.out HB.out) HOK.out).mono ?_; rintro e_ w3 hnp; obtain ⟨hn1, _, hb⟩ := hnp; obtain ⟨gt, rfl, hcl, _, vt, htb, hts⟩ := hn1 H0.out; obtain ⟨At, ct, evt⟩ := Kd.R_slice hts; subst evt; have n0 := Aside0.mk (below_then HB.out HB.out.size hb); have n1 := Aside0.mk (htb); have n2 := Aside0.mk ((Kd.R_reads' hts).2.2); have n3 := Aside0.mk (hcl); clear HB; have HB := n0; have TB := n1; have TS := n2; have HL := n3; clear n0 n1 n2 n3; clear hb; clear hn1 hcl htb hts)
        | ((with_reducible refine gate_dst (N := 27) rfl ?_); refine Kd.R_lit (Kd.int .u8) _ 5 ?hg (N := 27) ?hd (xs := ([] : List Int)) (inner := []) (ok := fun _ => True) (okp := fun _ => True) ?hr ?hp (fun _ hk => hk) trivial (Below.refl _ _) (Nat.le_refl _) (by simp) ?_; (case hd => rfl); (case hg => rfl); (case hr => first | (go_simp; done) | (go_simp; rfl)); (case hp => exact (Reps.none _ _)); intro v27 w4 ho hb hg_ hnew_; have HK := Aside0.mk hb; have HO := Aside0.mk ho; clear hb ho hg_ hnew_)
        | ((with_reducible refine gate_dst (N := 29) rfl ?_); refine Kd.R_append_rows (Kd.int .u8) (w0 := w3) w3.heap.size (by rfl) (.tmp 27) (.tmp 28) 34 5 (.int .u8 0) 1 rfl Try.underlying34 info5 rfl (by decide) (by omega) v27 [] l1 _ _ _ (fun _ => True) (fun _ => False) rfl rfl HO.out (Kd.C_below (Kd.C_below HRB.out HB.out) HK.out) (fun _ _ h => h) (fun _ h => h.elim) (fun _ _ => trivial) HK.out HK.out.size ?aL ?_; (case aL => have := HLM.out; simp; omega); intro v29 w5 ho hb hg hat; have n0 := Aside0.mk hb; have HV := Aside0.mk (show Kd.R (Kd.int .u8) 5 w5 w3.heap.size (fun _ => True) v29 l1 from ho); clear HO HK hb ho hg hat; have HK := n0; clear n0; obtain ⟨A2, c2, ev2⟩ := Kd.R_slice HV.out; subst ev2)
        | ((with_reducible refine gate_dst (N := 7) rfl ?_); refine box_event ?hg (N := 7) ?hd (cs := #[.slice none 0 0, .int .i64 0]) (t := 36) ?hr ?_; (case hd => rfl); (case hg => rfl); (case hr => first | (go_simp; done) | (go_simp; rfl)); intro g7 hg w6 hbox hb; have n0 := Aside0.mk (below_then HK.out HK.out.size hb); have n1 := Aside0.mk (Kd.R_below HV.out hb); have n2 := Aside0.mk (hbox); have n3 := Aside0.mk ((by rw [hg]; exact HK.out.size : w3.heap.size ≤ g7)); clear HK HV; have HK := n0; have HV := n1; have BG := n2; have GE := n3; clear n0 n1 n2 n3; clear hg hbox hb; have hs0 : w6.cell? ⟨g7, 0, none⟩ = some (.slice none 0 0) := (blk_cell BG.out 0).trans rfl; have hs1 : w6.cell? ⟨g7, 1, none⟩ = some (.int .i64 0) := (blk_cell BG.out 1).trans rfl; have hf0 := blk_frozen BG.out 0; have hf1 := blk_frozen BG.out 1)
        )
    have hk2 := below_then HB.out HB.out.size HK.out
    have n0 := Aside0.mk (show ((w6.setCell ⟨g7, 0, none⟩ (Value.slice A2 l1.length c2)).setCell ⟨g7, 1, none⟩ (Value.int IntKind.i64 (wrap64 (8 * (l1.length : Int))))).heap[g7]? = some (.cells #[.slice A2 l1.length c2, .int .i64 (m : Int)] 36 (0, 0)) by rw [← HMW.out]; exact blk_put (blk_put BG.out 0 _ rfl) 1 _ rfl)
    have n1 := Aside0.mk (below_set (below_set HK.out GE.out) GE.out : Below w3.heap.size w3 ((w6.setCell ⟨g7, 0, none⟩ (Value.slice A2 l1.length c2)).setCell ⟨g7, 1, none⟩ (Value.int IntKind.i64 (wrap64 (8 * (l1.length : Int))))))
    have n2 := Aside0.mk (Kd.R_far (p := ⟨g7, 1, none⟩) (Kd.R_far (p := ⟨g7, 0, none⟩) (Kd.R_types HV.out BG.out (by decide)) (fun _ hk => hk.2) _) (fun _ hk => hk.2) _ : Kd.R (Kd.int .u8) 5 ((w6.setCell ⟨g7, 0, none⟩ (Value.slice A2 l1.length c2)).setCell ⟨g7, 1, none⟩ (Value.int IntKind.i64 (wrap64 (8 * (l1.length : Int))))) w3.heap.size _ _ l1)
    clear hs0 hs1 hf0 hf1 HV BG HK hk2
    have BG := n0
    have HK := n1
    have HV := Aside0.mk (Kd.R_reads' n2.out).2.2
    have HVE := Aside0.mk (Kd.R_reads' n2.out).2.1
    clear n0 n1 n2
    generalize ((w6.setCell ⟨g7, 0, none⟩ (Value.slice A2 l1.length c2)).setCell ⟨g7, 1, none⟩ (Value.int IntKind.i64 (wrap64 (8 * (l1.length : Int))))) = W1 at BG HK HV ⊢
    have n0 := Aside0.mk (below_then HB.out HB.out.size HK.out)
    have n1 := Aside0.mk (blk_below TB.out HK.out)
    have n2 := Aside0.mk (Kd.C_below TS.out HK.out)
    clear HB TB TS
    have HB := n0
    have TB := n1
    have TS := n2
    clear n0 n1 n2
    clear HK GE
    have hcg70 : W1.cell? ⟨g7, 0, none⟩ = some (.slice A2 l1.length c2) := (blk_cell BG.out 0).trans rfl
    have hcg71 : W1.cell? ⟨g7, 1, none⟩ = some (.int .i64 (m : Int)) := (blk_cell BG.out 1).trans rfl
    go_wp2
    go_loopw [8] (fun x8 w' => ∃ p : Nat, p ≤ 1000 ∧ x8 = .int .i64 (p : Int) ∧ Aside0 (Below w.heap.size w w') ∧ Aside0 (w'.heap[gt]? = some (.cells (Hu.tblV (Hu.countedS l0).1 (.slice At (Hu.symsS l0).length ct)) 70 (0, 0))) ∧ Aside0 (Kd.C (Kd.int .i64) w' At (Hu.symsS l0).length (Hu.symsS l0)) ∧ Aside0 (w'.heap[g7]? = some (.cells #[.slice A2 l1.length c2, .int .i64 (m : Int)] 36 (0, 0))) ∧ Aside0 (Kd.C (Kd.int .u8) w' A2 l1.length l1))
      (fun x8 _ => 1000 - (intOf x8).toNat)
    case atStart => exact ⟨0, by omega, rfl, HB, TB, TS, BG, HV⟩
    case round =>
      clear HB TB TS BG HV hcg70 hcg71
      obtain ⟨p, hp, rfl, HB, TB, TS, BG, HV⟩ := hrel
      have hcg70 : wr.cell? ⟨g7, 0, none⟩ = some (.slice A2 l1.length c2) := (blk_cell BG.out 0).trans rfl
      have hcg71 : wr.cell? ⟨g7, 1, none⟩ = some (.int .i64 (m : Int)) := (blk_cell BG.out 1).trans rfl
      by_cases hlt : p + 15 ≤ m ∧ p < 400
      · obtain ⟨i, a, hi, ea, ha1, ha2, hsc⟩ := read_whole HS.out l1 m p hlt.1
        obtain ⟨q, hq⟩ : ∃ q, p + a = q := ⟨_, rfl⟩
        rw [hq] at hsc
        have hrr := rgt_whole HBY.out
        rw [HM.out] at hrr
        have hrs : readS l0 l1 (m : Int) (p : Int) = ((i : Int), (q : Int), 0) := by
          unfold readS
          rw [if_pos ⟨okR_nat hrr, by omega, by omega⟩, Int.toNat_natCast, Int.toNat_natCast]
          exact hsc
        have hmm := HM.out
        have hll := HLM.out
        have hrd := readF_eq (k := 40) (by omega) (p : Int) HLL.out HBY.out (by omega) (show -9223372036854775808 ≤ (m : Int) by omega) (by omega) (n := (m : Int)) (b := l1)
        rw [hrs] at hrd
        have HRD := Aside0.mk hrd
        obtain ⟨ad, ead, hx⟩ := Kd.at_int (Kd.C_below HR.out HB.out) (i : Int) (by omega) (by omega)
        subst ead
        have HX := Aside0.mk (show _ ∧ _ from ⟨hx, rdN l0 i⟩)
        clear hrd hrs hsc hrr hmm hll
        have q1 := eq_true (show (p : Int) < 400 by omega)
        have q0 := eq_true (show (p : Int) + 15 ≤ (m : Int) by omega)
        have qa := eq_false (show ¬ (i : Int) < 0 by omega)
        have qb := eq_false (show ¬ (l0.length : Int) ≤ (i : Int) by omega)
        have qc := eq_false (show ¬ (q : Int) ≤ (p : Int) by omega)
        have qd := eq_false (show ¬ l0.length ≤ i by omega)
        have qe : (p : Int) + (a : Int) = (q : Int) := by omega
        have qf := eq_true (show (0 : Int) ≤ (i : Int) by omega)
        have qg := eq_true (show (i : Int) < (l0.length : Int) by omega)
        have qh := eq_true (show i < l0.length by omega)
        have EA := Aside0.mk ea
        have HQ := Aside0.mk hq
        clear ea hq
        go_wp2_with (first
        | (go_at_call 23; refine (table_Read.calls 40 gt A2 c2 l1 (m : Int) (p : Int) (Hu.countedS l0).1 (Hu.symsS l0) (i : Int) (q : Int) 0 _ HV.out HVE.out ⟨HL.out, At, ct, TB.out, TS.out⟩ HRD.out).mono ?_; rintro e_ w7 ⟨rfl, hb⟩; have n0 := Aside0.mk (below_then HB.out HB.out.size hb); have n1 := Aside0.mk (blk_below TB.out hb); have n2 := Aside0.mk (Kd.C_below TS.out hb); have n3 := Aside0.mk (blk_below BG.out hb); have n4 := Aside0.mk (Kd.C_below HV.out hb); have n5 := Aside0.mk (And.intro (pw_cell_below hb HX.out.1) HX.out.2); clear HB TB TS BG HV HX; have HB := n0; have TB := n1; have TS := n2; have BG := n3; have HV := n4; have HX := n5; clear n0 n1 n2 n3 n4 n5; clear hb; clear hcg70 hcg71; have hcg70 : w7.cell? ⟨g7, 0, none⟩ = some (.slice A2 l1.length c2) := (blk_cell BG.out 0).trans rfl; have hcg71 : w7.cell? ⟨g7, 1, none⟩ = some (.int .i64 (m : Int)) := (blk_cell BG.out 1).trans rfl; have hx := HX.out.1; rw [HX.out.2, EA.out, Int.toNat_natCast] at hx)
        )
        go_roundw
        case rel => exact ⟨q, by have := HQ.out; omega, by first | rfl | (simp; done), HB, TB, TS, BG, HV⟩
        case measure => have := HQ.out; simp [intOf]; omega
      · by_cases hp4 : p < 400
        · have q1 := eq_true (show (p : Int) < 400 by omega)
          have q0 := eq_false (show ¬ (p : Int) + 15 ≤ (m : Int) by omega)
          go_wp2_with (first
        | (go_at_call 16; refine (valiselaw04_lives.calls true _ rfl).mono ?_; rintro e_ w8 ⟨rfl, hb⟩; have n0 := Aside0.mk (below_then HB.out HB.out.size hb); have n1 := Aside0.mk (blk_below TB.out hb); have n2 := Aside0.mk (Kd.C_below TS.out hb); have n3 := Aside0.mk (blk_below BG.out hb); have n4 := Aside0.mk (Kd.C_below HV.out hb); clear HB TB TS BG HV; have HB := n0; have TB := n1; have TS := n2; have BG := n3; have HV := n4; clear n0 n1 n2 n3 n4; clear hb)
        )
          go_ret
          exact ⟨rfl, HB.out⟩
        · have q1 := eq_false (show ¬ (p : Int) < 400 by omega)
          by_cases hp5 : p + 15 ≤ m
          · have q0 := eq_true (show (p : Int) + 15 ≤ (m : Int) by omega)
            go_wp2_with (first
        | (go_at_call 16; refine (valiselaw04_lives.calls true _ rfl).mono ?_; rintro e_ w8 ⟨rfl, hb⟩; have n0 := Aside0.mk (below_then HB.out HB.out.size hb); have n1 := Aside0.mk (blk_below TB.out hb); have n2 := Aside0.mk (Kd.C_below TS.out hb); have n3 := Aside0.mk (blk_below BG.out hb); have n4 := Aside0.mk (Kd.C_below HV.out hb); clear HB TB TS BG HV; have HB := n0; have TB := n1; have TS := n2; have BG := n3; have HV := n4; clear n0 n1 n2 n3 n4; clear hb)
        )
            go_ret
            exact ⟨rfl, HB.out⟩
          · have q0 := eq_false (show ¬ (p : Int) + 15 ≤ (m : Int) by omega)
            go_wp2_with (first
        | (go_at_call 16; refine (valiselaw04_lives.calls true _ rfl).mono ?_; rintro e_ w8 ⟨rfl, hb⟩; have n0 := Aside0.mk (below_then HB.out HB.out.size hb); have n1 := Aside0.mk (blk_below TB.out hb); have n2 := Aside0.mk (Kd.C_below TS.out hb); have n3 := Aside0.mk (blk_below BG.out hb); have n4 := Aside0.mk (Kd.C_below HV.out hb); clear HB TB TS BG HV; have HB := n0; have TB := n1; have TS := n2; have BG := n3; have HV := n4; clear n0 n1 n2 n3 n4; clear hb)
        )
            go_ret
            exact ⟨rfl, HB.out⟩
  · have hcb : (Hu.checkS l0 == 0) = false := beq_eq_false_iff_ne.mpr hc
    have hcc : (Hu.checkS l0 != 0) = true := bne_iff_ne.mpr hc
    clear hc hby r0 q0 r1 q1 w0 w1 y0 y1
    go_enter Try.func8, Try.ntmps8
    go_wp2_with (first
        | (go_at_call 13; refine (huff_Check.calls A0 c0 l0 (Hu.checkS l0) _ (Kd.C_below HR.out HB.out) HC.out HCK.out).mono ?_; rintro e_ w2 ⟨rfl, hb⟩; have n0 := Aside0.mk (below_then HB.out HB.out.size hb); clear HB; have HB := n0; clear n0; clear hb)
        | (go_at_call 16; refine (valiselaw04_lives.calls true _ rfl).mono ?_; rintro e_ w8 ⟨rfl, hb⟩; have n0 := Aside0.mk (below_then HB.out HB.out.size hb); clear HB; have HB := n0; clear n0; clear hb)
        )
    go_ret
    exact ⟨rfl, HB.out⟩
end
end Go.Proofs.Ythcndpdfcippiaa.Pr

