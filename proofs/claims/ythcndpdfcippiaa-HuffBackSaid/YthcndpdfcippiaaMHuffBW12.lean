-- Texts by hand and by programs of this session, joined (wip/tool/merge.py).
import Derived.Test.YthcndpdfcippiaaMHuffBW4
import Derived.Test.YthcndpdfcippiaaMHuffBW6
import Derived.Test.YthcndpdfcippiaaMHuffBW7
import Derived.Test.YthcndpdfcippiaaMHuffBW11
-- YthcndpdfcippiaaWkHuffBack
namespace Go.Proofs.Ythcndpdfcippiaa.Pr
open Go.RowKit Go.Proofs.YthcndpdfcippiaaW.PrintWords Go.Proofs.YthcndpdfcippiaaW.PrintLast Go.Proofs.YthcndpdfcippiaaW.PrintMore
set_option linter.unusedVariables false
set_option linter.unusedSimpArgs false
set_option maxRecDepth 100000
section
attribute [local go_sem] Oper.semAt_some
set_option maxHeartbeats 8000000 in
set_option maxRecDepth 100000 in
theorem HuffBack.walk (A0 : Option Addr) (c0 : Nat) (l0 : List Int) (A1 : Option Addr) (c1 : Nat) (l1 : List Int) (w : World) (r0 : Kd.C (Kd.int .i64) w A0 l0.length l0) (q0 : l0.length ≤ c0) (y0 : l0.length * 8 ≤ 140737488351232) (w0 : ∀ x ∈ l0, (Lit.int .i64 x).wf = true) (r1 : Kd.C (Kd.int .i64) w A1 l1.length l1) (q1 : l1.length ≤ c1) (y1 : l1.length * 8 ≤ 140737488351232) (w1 : ∀ x ∈ l1, (Lit.int .i64 x).wf = true) :
    Calls Try.prog 6 #[.slice A0 l0.length c0, .slice A1 l1.length c1] w fun e w' => e = .returned (.bool true) ∧ Below w.heap.size w w' := by
  have HR := Aside0.mk r0
  have HC := Aside0.mk q0
  have HR1 := Aside0.mk r1
  have HC1 := Aside0.mk q1
  have HB := Aside0.mk (Below.refl w.heap.size w)
  have HOK := Aside0.mk (okl_all l0)
  have HYL := Aside0.mk y1
  by_cases h0 : Hu.newS l0 = 0
  · have hT := tbl_of_new h0
    have H0 := Aside0.mk h0
    have HT := Aside0.mk hT
    have hlen := hT.1.1
    have hlen2 := hT.1.2.1
    clear h0 hT r0 q0 r1 q1 w0 w1 y0 y1
    go_enter Try.func6, Try.ntmps6
    go_upto_region 4 with (first
        | (go_at_call 21; refine (Hu.huff_New_all A0 c0 l0 _ (Kd.C_below HR.out HB.out) HOK.out).mono ?_; rintro e_ w3 hnp; obtain ⟨hn1, _, hb⟩ := hnp; obtain ⟨gt, rfl, hcl, _, vt, htb, hts⟩ := hn1 H0.out; obtain ⟨At, ct, evt⟩ := Kd.R_slice hts; subst evt; have n0 := Aside0.mk (below_then HB.out HB.out.size hb); have n1 := Aside0.mk (htb); have n2 := Aside0.mk ((Kd.R_reads' hts).2.2); have n3 := Aside0.mk (hcl); clear HB; have HB := n0; have TB := n1; have TS := n2; have HL := n3; clear n0 n1 n2 n3; clear hb; clear hn1 hcl htb hts)
        )
    have HK := Aside0.mk (Below.refl w3.heap.size w3)
    go_upto_region 5 with (first
        | ((with_reducible refine gate_dst (N := 7) rfl ?_); refine box_event ?hg (N := 7) ?hd (cs := #[.slice none 0 0, .int .i64 0]) (t := 36) ?hr ?_; (case hd => rfl); (case hg => rfl); (case hr => first | (go_simp; done) | (go_simp; rfl)); intro g7 hg w6 hbox hb; have n0 := Aside0.mk (below_then HK.out HK.out.size hb); have n1 := Aside0.mk (hbox); have n2 := Aside0.mk ((by rw [hg]; exact HK.out.size : w3.heap.size ≤ g7)); clear HK; have HK := n0; have BG := n1; have GE := n2; clear n0 n1 n2; clear hg hbox hb; have hs0 : w6.cell? ⟨g7, 0, none⟩ = some (.slice none 0 0) := (blk_cell BG.out 0).trans rfl; have hs1 : w6.cell? ⟨g7, 1, none⟩ = some (.int .i64 0) := (blk_cell BG.out 1).trans rfl; have hf0 := blk_frozen BG.out 0; have hf1 := blk_frozen BG.out 1)
        )
    have n0 := Aside0.mk (show ((w6.setCell ⟨g7, 0, none⟩ (Value.slice none 0 0)).setCell ⟨g7, 1, none⟩ (Value.int IntKind.i64 0)).heap[g7]? = some (.cells #[.slice none 0 0, .int .i64 0] 36 (0, 0)) from blk_put (blk_put BG.out 0 _ rfl) 1 _ rfl)
    have n1 := Aside0.mk (below_set (below_set HK.out GE.out) GE.out : Below w3.heap.size w3 ((w6.setCell ⟨g7, 0, none⟩ (Value.slice none 0 0)).setCell ⟨g7, 1, none⟩ (Value.int IntKind.i64 0)))
    clear hs0 hs1 hf0 hf1 BG HK
    have BG := n0
    have HK := n1
    clear n0 n1
    generalize ((w6.setCell ⟨g7, 0, none⟩ (Value.slice none 0 0)).setCell ⟨g7, 1, none⟩ (Value.int IntKind.i64 0)) = W1 at BG HK ⊢
    go_wp2
    go_loopw [8, 9] (fun x8 x9 w' => ∃ (i : Nat) (ss bl : List Int) (n : Nat) (A8 Ab : Option Addr) (c8 cb : Nat), i ≤ 60 ∧ i ≤ l1.length ∧ x8 = .slice A8 ss.length c8 ∧ x9 = .int .i64 (i : Int) ∧ Aside0 (Puts l0 i ss bl n) ∧ Aside0 (Below w3.heap.size w3 w') ∧ Aside0 (w'.heap[g7]? = some (.cells #[.slice Ab bl.length cb, .int .i64 (n : Int)] 36 (0, 0))) ∧ Aside0 (Kd.R (Kd.int .u8) 5 w' w3.heap.size (fun _ => True) (.slice Ab bl.length cb) bl) ∧ Aside0 (Kd.R (Kd.int .i64) 3 w' w3.heap.size (fun _ => True) (.slice A8 ss.length c8) ss))
      (fun _ x9 _ => 61 - (intOf x9).toNat)
    case atStart => exact ⟨0, [], [], 0, none, none, 0, 0, by omega, by omega, rfl, rfl, ⟨⟨[], rfl, Nat.le_refl _, trivial, rfl, rgt_nil⟩⟩, HK, BG, ⟨Kd.R_nil _ _ _ _ _⟩, ⟨Kd.R_nil _ _ _ _ _⟩⟩
    case round =>
      clear BG HK
      obtain ⟨i, ss, bl, n, A8, Ab, c8, cb, hi, hi1, rfl, rfl, HPS, HK, BG, HV, HP⟩ := hrel
      obtain ⟨hn9, hs6, hrg⟩ := puts_small HT.out HPS.out hi
      by_cases hlt : i < l1.length ∧ i < 60
      · obtain ⟨hl1, hl60⟩ := hlt
        have q0 := eq_true (show (i : Int) < (l1.length : Int) by omega)
        have q1 := eq_true (show (i : Int) < 60 by omega)
        have q2 := eq_true hl1
        have q3 := eq_true (show (0 : Int) ≤ (i : Int) by omega)
        obtain ⟨ad, ead, hx⟩ := Kd.at_int (Kd.C_below (Kd.C_below HR1.out HB.out) HK.out) (i : Int) (by omega) (by omega)
        subst ead
        rw [Int.toNat_natCast] at hx
        obtain ⟨xv, hxv⟩ : ∃ xv, rd l1 (i : Int) = xv := ⟨_, rfl⟩
        rw [hxv] at hx
        obtain ⟨p, hp, hpe⟩ := umod xv hlen hlen2
        have hun : IntKind.u64.wrap (l0.length : Int) = (l0.length : Int) := by rw [IntKind.wrap_u64]; omega
        have hu : ((IntKind.u64.wrap (l0.length : Int)) == 0) = false := by
          rw [beq_eq_false_iff_ne, IntKind.wrap_u64]; omega
        rw [hun] at hpe
        have HPE := Aside0.mk hpe
        obtain ⟨ad0, ead0, hx0⟩ := Kd.at_int (Kd.C_below (Kd.C_below HR.out HB.out) HK.out) (p : Int) (by omega) (by omega)
        subst ead0
        rw [Int.toNat_natCast, rdN] at hx0
        have HX0 := Aside0.mk hx0
        have HN9 := Aside0.mk hn9
        have HS6 := Aside0.mk hs6
        have hL0 := HT.out.1.2.2 _ (mem_of_getD hp)
        have p0 := eq_true (show (0 : Int) ≤ (p : Int) by omega)
        have p1 := eq_true (show (p : Int) < (l0.length : Int) by omega)
        have p2 := eq_true hp
        obtain ⟨a, ha⟩ : ∃ a : Nat, l0[p]?.getD 0 = (a : Int) := ⟨(l0[p]?.getD 0).toNat, by omega⟩
        rw [ha] at HX0
        clear hx0 hL0 hxv hpe
        go_upto_region 10 with (fail)
        rw [HPE.out]
        clear hx hu hun HPE q2 q3
        by_cases ha0 : a = 0
        · subst ha0
          have HPUT := Aside0.mk (put_zero HT.out hrg (by omega) hp ha)
          have pz := eq_false (show ¬ (((0 : Nat) : Int) > 0) by omega)
          have HA := Aside0.mk ha
          clear hrg hn9 hs6 hp ha
          have hcg70 : wr.cell? ⟨g7, 0, none⟩ = some (.slice Ab bl.length cb) := (blk_cell BG.out 0).trans rfl
          have hcg71 : wr.cell? ⟨g7, 1, none⟩ = some (.int .i64 (n : Int)) := (blk_cell BG.out 1).trans rfl
          go_upto_region 11 with (first
        | (go_at_call 18; refine (huff_Put.calls 200 Ab cb bl (n : Int) (some ad0) c0 l0 (p : Int) [] 0 13 _ (Kd.R_reads' HV.out).2.2 (Kd.R_reads' HV.out).2.1 (Kd.C_below (Kd.C_below HR.out HB.out) HK.out) HC.out HPUT.out).mono ?_; rintro e_ w4 ⟨vb, rfl, hob, hb⟩; obtain ⟨A5, c5, ev5⟩ := Kd.R_slice hob; subst ev5; have n0 := Aside0.mk (below_then HK.out HK.out.size hb); have n1 := Aside0.mk (blk_below BG.out hb); have n2 := Aside0.mk (Kd.R_below HV.out hb); have n3 := Aside0.mk (Kd.R_below HP.out hb); have n4 := Aside0.mk (pw_cell_below hb HX0.out); have n5 := Aside0.mk (Kd.R_lower hob HK.out.size); clear HK BG HV HP HX0; have HK := n0; have BG := n1; have HV := n2; have HP := n3; have HX0 := n4; have HN := n5; clear n0 n1 n2 n3 n4 n5; clear hb; clear hob hcg70 hcg71)
        | ((with_reducible refine gate_dst (N := 11) rfl ?_); refine box_event ?hg (N := 11) ?hd (cs := #[.slice none 0 0, .int .i64 0]) (t := 36) ?hr ?_; (case hd => rfl); (case hg => rfl); (case hr => first | (go_simp; done) | (go_simp; rfl)); intro g11 hg w5 hbox hb; have BG0 := BG; have n0 := Aside0.mk (below_then HK.out HK.out.size hb); have n1 := Aside0.mk (blk_below BG.out hb); have n2 := Aside0.mk (Kd.R_below HV.out hb); have n3 := Aside0.mk (Kd.R_below HP.out hb); have n4 := Aside0.mk (pw_cell_below hb HX0.out); have n5 := Aside0.mk (Kd.R_below HN.out hb); have n6 := Aside0.mk (hbox); have n7 := Aside0.mk ((by rw [hg]; exact HK.out.size : w3.heap.size ≤ g11)); clear HK BG HV HP HX0 HN; have HK := n0; have BG := n1; have HV := n2; have HP := n3; have HX0 := n4; have HN := n5; have B11 := n6; have G11 := n7; clear n0 n1 n2 n3 n4 n5 n6 n7; have NG := Aside0.mk (show g7 ≠ g11 from by rw [hg]; exact Nat.ne_of_lt (Nat.lt_of_lt_of_le (blk_lt BG0.out) (Nat.le_refl _))); clear BG0 hg hbox hb; have hs0 : w5.cell? ⟨g11, 0, none⟩ = some (.slice none 0 0) := (blk_cell B11.out 0).trans rfl; have hs1 : w5.cell? ⟨g11, 1, none⟩ = some (.int .i64 0) := (blk_cell B11.out 1).trans rfl; have hf0 := blk_frozen B11.out 0; have hf1 := blk_frozen B11.out 1)
        )
          have n0 := Aside0.mk (show ((w5.setCell ⟨g11, 0, none⟩ (Value.slice A5 ([] : List Int).length c5)).setCell ⟨g11, 1, none⟩ (Value.int IntKind.i64 0)).heap[g11]? = some (.cells #[Value.slice A5 ([] : List Int).length c5, Value.int IntKind.i64 0] 36 (0, 0)) from blk_put (blk_put B11.out 0 _ rfl) 1 _ rfl)
          have n1 := Aside0.mk (below_set (below_set HK.out G11.out) G11.out : Below w3.heap.size w3 ((w5.setCell ⟨g11, 0, none⟩ (Value.slice A5 ([] : List Int).length c5)).setCell ⟨g11, 1, none⟩ (Value.int IntKind.i64 0)))
          have n2 := Aside0.mk (blk_far (p := ⟨g11, 1, none⟩) (blk_far (p := ⟨g11, 0, none⟩) BG.out NG.out _) NG.out _ : ((w5.setCell ⟨g11, 0, none⟩ (Value.slice A5 ([] : List Int).length c5)).setCell ⟨g11, 1, none⟩ (Value.int IntKind.i64 0)).heap[g7]? = some (.cells #[.slice Ab bl.length cb, .int .i64 (n : Int)] 36 (0, 0)))
          have n3 := Aside0.mk (Kd.R_mono (Kd.R_far (p := ⟨g11, 1, none⟩) (Kd.R_far (p := ⟨g11, 0, none⟩) (Kd.R_types HV.out B11.out (by decide)) (fun _ hk => hk.2) _) (fun _ hk => hk.2) _) (fun _ _ => trivial) : Kd.R (Kd.int .u8) 5 ((w5.setCell ⟨g11, 0, none⟩ (Value.slice A5 ([] : List Int).length c5)).setCell ⟨g11, 1, none⟩ (Value.int IntKind.i64 0)) w3.heap.size (fun _ => True) (.slice Ab bl.length cb) bl)
          have n4 := Aside0.mk (Kd.R_mono (Kd.R_far (p := ⟨g11, 1, none⟩) (Kd.R_far (p := ⟨g11, 0, none⟩) (Kd.R_types HP.out B11.out (by decide)) (fun _ hk => hk.2) _) (fun _ hk => hk.2) _) (fun _ _ => trivial) : Kd.R (Kd.int .i64) 3 ((w5.setCell ⟨g11, 0, none⟩ (Value.slice A5 ([] : List Int).length c5)).setCell ⟨g11, 1, none⟩ (Value.int IntKind.i64 0)) w3.heap.size (fun _ => True) (.slice A8 ss.length c8) ss)
          have n5 := Aside0.mk (Kd.R_mono (Kd.R_far (p := ⟨g11, 1, none⟩) (Kd.R_far (p := ⟨g11, 0, none⟩) (Kd.R_types HN.out B11.out (by decide)) (fun _ hk => hk.2) _) (fun _ hk => hk.2) _) (fun _ _ => trivial) : Kd.R (Kd.int .u8) 5 ((w5.setCell ⟨g11, 0, none⟩ (Value.slice A5 ([] : List Int).length c5)).setCell ⟨g11, 1, none⟩ (Value.int IntKind.i64 0)) w3.heap.size (fun _ => True) (.slice A5 ([] : List Int).length c5) [])
          skip
          clear hs0 hs1 hf0 hf1 HV HP HN BG HK B11
          have B11 := n0
          have HK := n1
          have BG := n2
          have HV := n3
          have HP := n4
          have HN := n5
          clear n0 n1 n2 n3 n4 n5 HX0
          generalize ((w5.setCell ⟨g11, 0, none⟩ (Value.slice A5 ([] : List Int).length c5)).setCell ⟨g11, 1, none⟩ (Value.int IntKind.i64 0)) = W2 at B11 HK BG HV HP HN ⊢
          obtain ⟨adx, eadx, hx0⟩ := Kd.at_int (Kd.C_below (Kd.C_below HR.out HB.out) HK.out) (p : Int) (by rw [p0]; trivial) (by rw [p1]; trivial)
          injection eadx with eadx
          subst eadx
          rw [Int.toNat_natCast, rdN, HA.out] at hx0
          have hcg110 : W2.cell? ⟨g11, 0, none⟩ = some (Value.slice A5 ([] : List Int).length c5) := (blk_cell B11.out 0).trans rfl
          have hcg111 : W2.cell? ⟨g11, 1, none⟩ = some (Value.int IntKind.i64 0) := (blk_cell B11.out 1).trans rfl
          have hcg70 : W2.cell? ⟨g7, 0, none⟩ = some (.slice Ab bl.length cb) := (blk_cell BG.out 0).trans rfl
          have hcg71 : W2.cell? ⟨g7, 1, none⟩ = some (.int .i64 (n : Int)) := (blk_cell BG.out 1).trans rfl
          have hf70 := blk_frozen BG.out 0
          have hf71 := blk_frozen BG.out 1
          go_wp2
          go_roundw
          case rel => exact ⟨i + 1, ss, bl, n, A8, Ab, c8, cb, by omega, by omega, rfl, by first | rfl | (simp; done), ⟨puts_more HPS.out⟩, HK, BG, HV, HP⟩
          case measure => simp [intOf]; omega
        · have HPUT := Aside0.mk (put_some HT.out hrg (by omega) hp ha (by omega))
          obtain ⟨bl2, hbl2⟩ : ∃ bl2, layA bl n (bitsD ((codeN l0 p : Nat) : Int) a) = bl2 := ⟨_, rfl⟩
          obtain ⟨mq, hmq⟩ : ∃ mq, n + a = mq := ⟨_, rfl⟩
          have HPN := Aside0.mk (puts_put HPS.out hp ha (by omega))
          rw [hbl2, hmq] at HPUT HPN
          have pz := eq_true (show ((a : Int) > 0) by omega)
          have pzb := decide_eq_true (show (0 : Int) < (a : Int) by omega)
          have pzn := eq_true (show 0 < a by omega)
          have HA := Aside0.mk ha
          clear hrg hn9 hs6 hp ha hbl2 hmq ha0
          have hcg70 : wr.cell? ⟨g7, 0, none⟩ = some (.slice Ab bl.length cb) := (blk_cell BG.out 0).trans rfl
          have hcg71 : wr.cell? ⟨g7, 1, none⟩ = some (.int .i64 (n : Int)) := (blk_cell BG.out 1).trans rfl
          go_upto_region 11 with (first
        | (go_at_call 18; refine (huff_Put.calls 200 Ab cb bl (n : Int) (some ad0) c0 l0 (p : Int) bl2 (mq : Int) 0 _ (Kd.R_reads' HV.out).2.2 (Kd.R_reads' HV.out).2.1 (Kd.C_below (Kd.C_below HR.out HB.out) HK.out) HC.out HPUT.out).mono ?_; rintro e_ w4 ⟨vb, rfl, hob, hb⟩; obtain ⟨A5, c5, ev5⟩ := Kd.R_slice hob; subst ev5; have n0 := Aside0.mk (below_then HK.out HK.out.size hb); have n1 := Aside0.mk (blk_below BG.out hb); have n2 := Aside0.mk (Kd.R_below HV.out hb); have n3 := Aside0.mk (Kd.R_below HP.out hb); have n4 := Aside0.mk (pw_cell_below hb HX0.out); have n5 := Aside0.mk (Kd.R_lower hob HK.out.size); clear HK BG HV HP HX0; have HK := n0; have BG := n1; have HV := n2; have HP := n3; have HX0 := n4; have HN := n5; clear n0 n1 n2 n3 n4 n5; clear hb; clear hob hcg70 hcg71)
        | ((with_reducible refine gate_dst (N := 11) rfl ?_); refine box_event ?hg (N := 11) ?hd (cs := #[.slice none 0 0, .int .i64 0]) (t := 36) ?hr ?_; (case hd => rfl); (case hg => rfl); (case hr => first | (go_simp; done) | (go_simp; rfl)); intro g11 hg w5 hbox hb; have BG0 := BG; have n0 := Aside0.mk (below_then HK.out HK.out.size hb); have n1 := Aside0.mk (blk_below BG.out hb); have n2 := Aside0.mk (Kd.R_below HV.out hb); have n3 := Aside0.mk (Kd.R_below HP.out hb); have n4 := Aside0.mk (pw_cell_below hb HX0.out); have n5 := Aside0.mk (Kd.R_below HN.out hb); have n6 := Aside0.mk (hbox); have n7 := Aside0.mk ((by rw [hg]; exact HK.out.size : w3.heap.size ≤ g11)); clear HK BG HV HP HX0 HN; have HK := n0; have BG := n1; have HV := n2; have HP := n3; have HX0 := n4; have HN := n5; have B11 := n6; have G11 := n7; clear n0 n1 n2 n3 n4 n5 n6 n7; have NG := Aside0.mk (show g7 ≠ g11 from by rw [hg]; exact Nat.ne_of_lt (Nat.lt_of_lt_of_le (blk_lt BG0.out) (Nat.le_refl _))); clear BG0 hg hbox hb; have hs0 : w5.cell? ⟨g11, 0, none⟩ = some (.slice none 0 0) := (blk_cell B11.out 0).trans rfl; have hs1 : w5.cell? ⟨g11, 1, none⟩ = some (.int .i64 0) := (blk_cell B11.out 1).trans rfl; have hf0 := blk_frozen B11.out 0; have hf1 := blk_frozen B11.out 1)
        )
          have n0 := Aside0.mk (show ((w5.setCell ⟨g11, 0, none⟩ (Value.slice A5 bl2.length c5)).setCell ⟨g11, 1, none⟩ (Value.int IntKind.i64 (mq : Int))).heap[g11]? = some (.cells #[Value.slice A5 bl2.length c5, Value.int IntKind.i64 (mq : Int)] 36 (0, 0)) from blk_put (blk_put B11.out 0 _ rfl) 1 _ rfl)
          have n1 := Aside0.mk (below_set (below_set HK.out G11.out) G11.out : Below w3.heap.size w3 ((w5.setCell ⟨g11, 0, none⟩ (Value.slice A5 bl2.length c5)).setCell ⟨g11, 1, none⟩ (Value.int IntKind.i64 (mq : Int))))
          have n2 := Aside0.mk (blk_far (p := ⟨g11, 1, none⟩) (blk_far (p := ⟨g11, 0, none⟩) BG.out NG.out _) NG.out _ : ((w5.setCell ⟨g11, 0, none⟩ (Value.slice A5 bl2.length c5)).setCell ⟨g11, 1, none⟩ (Value.int IntKind.i64 (mq : Int))).heap[g7]? = some (.cells #[.slice Ab bl.length cb, .int .i64 (n : Int)] 36 (0, 0)))
          have n3 := Aside0.mk (Kd.R_mono (Kd.R_far (p := ⟨g11, 1, none⟩) (Kd.R_far (p := ⟨g11, 0, none⟩) (Kd.R_types HV.out B11.out (by decide)) (fun _ hk => hk.2) _) (fun _ hk => hk.2) _) (fun _ _ => trivial) : Kd.R (Kd.int .u8) 5 ((w5.setCell ⟨g11, 0, none⟩ (Value.slice A5 bl2.length c5)).setCell ⟨g11, 1, none⟩ (Value.int IntKind.i64 (mq : Int))) w3.heap.size (fun _ => True) (.slice Ab bl.length cb) bl)
          have n4 := Aside0.mk (Kd.R_mono (Kd.R_far (p := ⟨g11, 1, none⟩) (Kd.R_far (p := ⟨g11, 0, none⟩) (Kd.R_types HP.out B11.out (by decide)) (fun _ hk => hk.2) _) (fun _ hk => hk.2) _) (fun _ _ => trivial) : Kd.R (Kd.int .i64) 3 ((w5.setCell ⟨g11, 0, none⟩ (Value.slice A5 bl2.length c5)).setCell ⟨g11, 1, none⟩ (Value.int IntKind.i64 (mq : Int))) w3.heap.size (fun _ => True) (.slice A8 ss.length c8) ss)
          have n5 := Aside0.mk (Kd.R_mono (Kd.R_far (p := ⟨g11, 1, none⟩) (Kd.R_far (p := ⟨g11, 0, none⟩) (Kd.R_types HN.out B11.out (by decide)) (fun _ hk => hk.2) _) (fun _ hk => hk.2) _) (fun _ _ => trivial) : Kd.R (Kd.int .u8) 5 ((w5.setCell ⟨g11, 0, none⟩ (Value.slice A5 bl2.length c5)).setCell ⟨g11, 1, none⟩ (Value.int IntKind.i64 (mq : Int))) w3.heap.size (fun _ => True) (.slice A5 bl2.length c5) bl2)
          skip
          clear hs0 hs1 hf0 hf1 HV HP HN BG HK B11
          have B11 := n0
          have HK := n1
          have BG := n2
          have HV := n3
          have HP := n4
          have HN := n5
          clear n0 n1 n2 n3 n4 n5 HX0
          generalize ((w5.setCell ⟨g11, 0, none⟩ (Value.slice A5 bl2.length c5)).setCell ⟨g11, 1, none⟩ (Value.int IntKind.i64 (mq : Int))) = W2 at B11 HK BG HV HP HN ⊢
          obtain ⟨adx, eadx, hx0⟩ := Kd.at_int (Kd.C_below (Kd.C_below HR.out HB.out) HK.out) (p : Int) (by rw [p0]; trivial) (by rw [p1]; trivial)
          injection eadx with eadx
          subst eadx
          rw [Int.toNat_natCast, rdN, HA.out] at hx0
          have hcg110 : W2.cell? ⟨g11, 0, none⟩ = some (Value.slice A5 bl2.length c5) := (blk_cell B11.out 0).trans rfl
          have hcg111 : W2.cell? ⟨g11, 1, none⟩ = some (Value.int IntKind.i64 (mq : Int)) := (blk_cell B11.out 1).trans rfl
          have hcg70 : W2.cell? ⟨g7, 0, none⟩ = some (.slice Ab bl.length cb) := (blk_cell BG.out 0).trans rfl
          have hcg71 : W2.cell? ⟨g7, 1, none⟩ = some (.int .i64 (n : Int)) := (blk_cell BG.out 1).trans rfl
          have hf70 := blk_frozen BG.out 0
          have hf71 := blk_frozen BG.out 1
          go_wp2_with (first
        | ((with_reducible refine gate_dst (N := 74) rfl ?_); have n0 := Aside0.mk (show ((W2.setCell ⟨g7, 0, none⟩ (Value.slice A5 bl2.length c5)).setCell ⟨g7, 1, none⟩ (Value.int IntKind.i64 (mq : Int))).heap[g7]? = some (.cells #[.slice A5 bl2.length c5, .int .i64 (mq : Int)] 36 (0, 0)) from blk_put (blk_put BG.out 0 _ rfl) 1 _ rfl); have n1 := Aside0.mk (below_set (below_set HK.out GE.out) GE.out : Below w3.heap.size w3 ((W2.setCell ⟨g7, 0, none⟩ (Value.slice A5 bl2.length c5)).setCell ⟨g7, 1, none⟩ (Value.int IntKind.i64 (mq : Int)))); have n4 := Aside0.mk (Kd.R_mono (Kd.R_far (p := ⟨g7, 1, none⟩) (Kd.R_far (p := ⟨g7, 0, none⟩) (Kd.R_types HP.out BG.out (by decide)) (fun _ hk => hk.2) _) (fun _ hk => hk.2) _) (fun _ _ => trivial) : Kd.R (Kd.int .i64) 3 ((W2.setCell ⟨g7, 0, none⟩ (Value.slice A5 bl2.length c5)).setCell ⟨g7, 1, none⟩ (Value.int IntKind.i64 (mq : Int))) w3.heap.size (fun _ => True) (.slice A8 ss.length c8) ss); have n5 := Aside0.mk (Kd.R_mono (Kd.R_far (p := ⟨g7, 1, none⟩) (Kd.R_far (p := ⟨g7, 0, none⟩) (Kd.R_types HN.out BG.out (by decide)) (fun _ hk => hk.2) _) (fun _ hk => hk.2) _) (fun _ _ => trivial) : Kd.R (Kd.int .u8) 5 ((W2.setCell ⟨g7, 0, none⟩ (Value.slice A5 bl2.length c5)).setCell ⟨g7, 1, none⟩ (Value.int IntKind.i64 (mq : Int))) w3.heap.size (fun _ => True) (.slice A5 bl2.length c5) bl2); clear hcg110 hcg111 hcg70 hcg71 hf70 hf71 HV HP HN BG HK B11 hx0; have HK := n1; have BG := n0; have HP := n4; have HV := n5; clear n0 n1 n4 n5; generalize ((W2.setCell ⟨g7, 0, none⟩ (Value.slice A5 bl2.length c5)).setCell ⟨g7, 1, none⟩ (Value.int IntKind.i64 (mq : Int))) = W3 at HK BG HV HP ⊢; refine Kd.R_lit (Kd.int .i64) _ 3 ?hg (N := 74) ?hd (xs := ([(p : Int)] : List Int)) (inner := [.int .i64 (p : Int)]) (ok := fun _ => True) (okp := fun _ => True) ?hr ?hp (fun _ hk => hk) trivial (Below.refl _ _) (Nat.le_refl _) (by simp) ?_; (case hd => rfl); (case hg => rfl); (case hr => first | (go_simp; done) | (go_simp; rfl)); (case hp => exact (Reps.snoc (Reps.none _ _) rfl rfl)); intro v74 w8 ho hb hg_ hnew_; obtain ⟨A74, c74, ev74⟩ := Kd.R_slice ho; subst ev74; have n0 := Aside0.mk (below_then HK.out HK.out.size hb); have n1 := Aside0.mk (blk_below BG.out hb); have n2 := Aside0.mk (Kd.R_below HV.out hb); have n3 := Aside0.mk (Kd.R_below HP.out hb); have n4 := Aside0.mk ((Kd.R_reads' ho).2.2); clear HK BG HV HP; have HK := n0; have BG := n1; have HV := n2; have HP := n3; have HL1 := n4; clear n0 n1 n2 n3 n4; clear hb ho hg_ hnew_)
        | ((with_reducible refine gate_dst (N := 75) rfl ?_); refine Kd.R_append_rows (Kd.int .i64) (w0 := w3) w3.heap.size (by rfl) (.tmp 72) (.tmp 74) 22 3 (.int .i64 0) 8 rfl Try.underlying22 info3 rfl (by decide) (by omega) (.slice A8 ss.length c8) ss [(p : Int)] _ _ _ (fun _ => True) (fun _ => False) rfl rfl HP.out HL1.out (fun _ _ h => h) (fun _ h => h.elim) (fun _ _ => trivial) HK.out HK.out.size ?aL ?_; (case aL => have := HS6.out; simp; omega); intro v75 w9 ho hb hg hat; have n0 := Aside0.mk (hb); have n1 := Aside0.mk (blk_grown BG.out hg (Kd.R_ne HP.out BG.out (by decide))); have n2 := Aside0.mk (Kd.R_grown2 HV.out rfl hg (fun k e => by obtain ⟨cells, hc⟩ := Kd.R_typed HP.out k e; exact Kd.R_ne HV.out hc (by decide))); have n3 := Aside0.mk (ho); clear HK BG HV HP; have HK := n0; have BG := n1; have HV := n2; have HP := n3; clear n0 n1 n2 n3; clear hb ho hg hat HL1; obtain ⟨A9, c9, ev9⟩ := Kd.R_slice HP.out; subst ev9)
        )
          go_roundw
          case rel => exact ⟨i + 1, ss ++ [(p : Int)], bl2, mq, A9, A5, c9, c5, by omega, by omega, by rw [List.length_append]; rfl, by first | rfl | (simp; done), HPN, HK, BG, HV, HP⟩
          case measure => simp [intOf]; omega
      · have q0 : ((decide ((i : Int) < (l1.length : Int))) && (decide ((i : Int) < 60))) = false := by rw [Bool.and_eq_false_iff, decide_eq_false_iff_not, decide_eq_false_iff_not]; omega
        have HN9 := Aside0.mk hn9
        have HS6 := Aside0.mk hs6
        have HI := Aside0.mk hi
        have HVE := Aside0.mk (Kd.R_reads' HV.out).2.1
        have HVC := Aside0.mk (Kd.R_reads' HV.out).2.2
        have HPC := Aside0.mk (Kd.R_reads' HP.out).2.2
        have HPL := Aside0.mk (place_zero HPS.out)
        clear HV HP HPS hn9 hs6 hrg
        by_cases hA : i < l1.length
        · have qa := eq_true (show (i : Int) < (l1.length : Int) by omega)
          have qb := eq_false (show ¬ (i : Int) < 60 by omega)
          have qc := eq_true hA
          clear q0 hA hlt
          go_wp2
          go_loopw [13, 14] (fun x13 x14 w' => ∃ j p : Nat, j ≤ ss.length ∧ x13 = .int .i64 (p : Int) ∧ x14 = .int .i64 (j : Int) ∧ Aside0 (PlaceOf l0 i ss bl n j p) ∧ Aside0 (Below w3.heap.size w3 w') ∧ Aside0 (w'.heap[g7]? = some (.cells #[.slice Ab bl.length cb, .int .i64 (n : Int)] 36 (0, 0))) ∧ Aside0 (Kd.C (Kd.int .u8) w' Ab bl.length bl) ∧ Aside0 (Kd.C (Kd.int .i64) w' A8 ss.length ss)) (fun _ x14 _ => ss.length + 1 - (intOf x14).toNat)
          case atStart => exact ⟨0, 0, by omega, rfl, rfl, HPL, HK, BG, HVC, HPC⟩
          case round =>
            clear HK BG HVC HPC HPL
            obtain ⟨j, p, hj, rfl, rfl, HPL, HK, BG, HVC, HPC⟩ := hrel
            obtain ⟨hn9, hpn, hrg⟩ := place_small HT.out HPL.out HI.out
            have hs6 := HS6.out
            have hbn : bl.length ≤ 1000 := by have := hrg.2.1; omega
            by_cases hlt : j < ss.length
            · obtain ⟨s, a, e1, e2, e3, e4, e5, e6⟩ := place_next HT.out HPL.out hlt
              obtain ⟨q, hq⟩ : ∃ q, p + a = q := ⟨_, rfl⟩
              rw [hq] at e4 e5 e6
              have hrd := readF_eq (k := 40) (by omega) (p : Int) HT.out.1 hrg.1 (by omega) (show -9223372036854775808 ≤ (n : Int) by omega) (by omega) (n := (n : Int)) (b := bl)
              rw [e5] at hrd
              have HRD := Aside0.mk hrd
              have HPN := Aside0.mk e6
              obtain ⟨ad0, ead0, hx0⟩ := Kd.at_int (Kd.C_below (Kd.C_below HR.out HB.out) HK.out) (s : Int) (by omega) (by omega)
              subst ead0
              rw [Int.toNat_natCast, rdN, e3] at hx0
              obtain ⟨ad8, ead8, hx8⟩ := Kd.at_int HPC.out (j : Int) (by omega) (by omega)
              subst ead8
              rw [Int.toNat_natCast, e1] at hx8
              have HX0 := Aside0.mk hx0
              have HX8 := Aside0.mk hx8
              have q0 := eq_true (show (j : Int) < (ss.length : Int) by omega)
              have q1 := eq_true (show (0 : Int) ≤ (j : Int) by omega)
              have q2 := eq_true hlt
              have p0 := eq_true (show (0 : Int) ≤ (s : Int) by omega)
              have p1 := eq_true (show (s : Int) < (l0.length : Int) by omega)
              have p2 := eq_true e2
              have qe : (p : Int) + (a : Int) = (q : Int) := by omega
              have hq9 : q ≤ 1000 := by omega
              clear hrd e1 e2 e3 e4 e5 e6 hq hx0 hx8 hrg hbn
              have hcg70 : wr.cell? ⟨g7, 0, none⟩ = some (.slice Ab bl.length cb) := (blk_cell BG.out 0).trans rfl
              have hcg71 : wr.cell? ⟨g7, 1, none⟩ = some (.int .i64 (n : Int)) := (blk_cell BG.out 1).trans rfl
              go_wp2_with (first
        | (go_at_call 23; refine (table_Read.calls 40 gt Ab cb bl (n : Int) (p : Int) (Hu.countedS l0).1 (Hu.symsS l0) (s : Int) (q : Int) 0 _ HVC.out HVE.out ⟨HL.out, At, ct, blk_below TB.out HK.out, Kd.C_below TS.out HK.out⟩ HRD.out).mono ?_; rintro e_ w7 ⟨rfl, hb⟩; have n0 := Aside0.mk (below_then HK.out HK.out.size hb); have n1 := Aside0.mk (blk_below BG.out hb); have n2 := Aside0.mk (Kd.C_below HVC.out hb); have n3 := Aside0.mk (Kd.C_below HPC.out hb); have n4 := Aside0.mk (pw_cell_below hb HX0.out); have n5 := Aside0.mk (pw_cell_below hb HX8.out); clear HK BG HVC HPC HX0 HX8; have HK := n0; have BG := n1; have HVC := n2; have HPC := n3; have HX0 := n4; have HX8 := n5; clear n0 n1 n2 n3 n4 n5; clear hb; clear hcg70 hcg71; have hx0 := HX0.out; have hx8 := HX8.out)
        )
              go_roundw
              case rel => exact ⟨j + 1, q, by omega, rfl, by first | rfl | (simp; done), HPN, HK, BG, HVC, HPC⟩
              case measure => simp [intOf]; omega
            · obtain rfl : j = ss.length := by omega
              obtain ⟨e1, e2⟩ := place_end HT.out HPL.out
              subst e1
              have hrd := readF_eq (k := 40) (by omega) (p : Int) HT.out.1 hrg.1 (by omega) (show -9223372036854775808 ≤ (p : Int) by omega) (by omega) (n := (p : Int)) (b := bl)
              rw [e2] at hrd
              have HRD := Aside0.mk hrd
              have q0 := eq_false (show ¬ (ss.length : Int) < (ss.length : Int) by omega)
              clear hrd e2 hlt hrg hbn
              have hcg70 : wr.cell? ⟨g7, 0, none⟩ = some (.slice Ab bl.length cb) := (blk_cell BG.out 0).trans rfl
              have hcg71 : wr.cell? ⟨g7, 1, none⟩ = some (.int .i64 (p : Int)) := (blk_cell BG.out 1).trans rfl
              go_wp2_with (first
        | (go_at_call 23; refine (table_Read.calls 40 gt Ab cb bl (p : Int) (p : Int) (Hu.countedS l0).1 (Hu.symsS l0) 0 0 4 _ HVC.out HVE.out ⟨HL.out, At, ct, blk_below TB.out HK.out, Kd.C_below TS.out HK.out⟩ HRD.out).mono ?_; rintro e_ w7 ⟨rfl, hb⟩; have n0 := Aside0.mk (below_then HK.out HK.out.size hb); have n1 := Aside0.mk (blk_below BG.out hb); have n2 := Aside0.mk (Kd.C_below HVC.out hb); have n3 := Aside0.mk (Kd.C_below HPC.out hb); clear HK BG HVC HPC; have HK := n0; have BG := n1; have HVC := n2; have HPC := n3; clear n0 n1 n2 n3; clear hb; clear hcg70 hcg71; have hcg70 : w7.cell? ⟨g7, 0, none⟩ = some (.slice Ab bl.length cb) := (blk_cell BG.out 0).trans rfl; have hcg71 : w7.cell? ⟨g7, 1, none⟩ = some (.int .i64 (p : Int)) := (blk_cell BG.out 1).trans rfl)
        | (go_at_call 16; refine (valiselaw04_lives.calls true _ rfl).mono ?_; rintro e_ w8 ⟨rfl, hb⟩; have HF := Aside0.mk (below_then HB.out HB.out.size (below_then HK.out HK.out.size hb)); clear hb)
        )
              go_ret
              exact ⟨rfl, HF.out⟩
        · have qa := eq_false (show ¬ (i : Int) < (l1.length : Int) by omega)
          have qc := eq_false hA
          clear q0 hA hlt
          go_wp2
          go_loopw [13, 14] (fun x13 x14 w' => ∃ j p : Nat, j ≤ ss.length ∧ x13 = .int .i64 (p : Int) ∧ x14 = .int .i64 (j : Int) ∧ Aside0 (PlaceOf l0 i ss bl n j p) ∧ Aside0 (Below w3.heap.size w3 w') ∧ Aside0 (w'.heap[g7]? = some (.cells #[.slice Ab bl.length cb, .int .i64 (n : Int)] 36 (0, 0))) ∧ Aside0 (Kd.C (Kd.int .u8) w' Ab bl.length bl) ∧ Aside0 (Kd.C (Kd.int .i64) w' A8 ss.length ss)) (fun _ x14 _ => ss.length + 1 - (intOf x14).toNat)
          case atStart => exact ⟨0, 0, by omega, rfl, rfl, HPL, HK, BG, HVC, HPC⟩
          case round =>
            clear HK BG HVC HPC HPL
            obtain ⟨j, p, hj, rfl, rfl, HPL, HK, BG, HVC, HPC⟩ := hrel
            obtain ⟨hn9, hpn, hrg⟩ := place_small HT.out HPL.out HI.out
            have hs6 := HS6.out
            have hbn : bl.length ≤ 1000 := by have := hrg.2.1; omega
            by_cases hlt : j < ss.length
            · obtain ⟨s, a, e1, e2, e3, e4, e5, e6⟩ := place_next HT.out HPL.out hlt
              obtain ⟨q, hq⟩ : ∃ q, p + a = q := ⟨_, rfl⟩
              rw [hq] at e4 e5 e6
              have hrd := readF_eq (k := 40) (by omega) (p : Int) HT.out.1 hrg.1 (by omega) (show -9223372036854775808 ≤ (n : Int) by omega) (by omega) (n := (n : Int)) (b := bl)
              rw [e5] at hrd
              have HRD := Aside0.mk hrd
              have HPN := Aside0.mk e6
              obtain ⟨ad0, ead0, hx0⟩ := Kd.at_int (Kd.C_below (Kd.C_below HR.out HB.out) HK.out) (s : Int) (by omega) (by omega)
              subst ead0
              rw [Int.toNat_natCast, rdN, e3] at hx0
              obtain ⟨ad8, ead8, hx8⟩ := Kd.at_int HPC.out (j : Int) (by omega) (by omega)
              subst ead8
              rw [Int.toNat_natCast, e1] at hx8
              have HX0 := Aside0.mk hx0
              have HX8 := Aside0.mk hx8
              have q0 := eq_true (show (j : Int) < (ss.length : Int) by omega)
              have q1 := eq_true (show (0 : Int) ≤ (j : Int) by omega)
              have q2 := eq_true hlt
              have p0 := eq_true (show (0 : Int) ≤ (s : Int) by omega)
              have p1 := eq_true (show (s : Int) < (l0.length : Int) by omega)
              have p2 := eq_true e2
              have qe : (p : Int) + (a : Int) = (q : Int) := by omega
              have hq9 : q ≤ 1000 := by omega
              clear hrd e1 e2 e3 e4 e5 e6 hq hx0 hx8 hrg hbn
              have hcg70 : wr.cell? ⟨g7, 0, none⟩ = some (.slice Ab bl.length cb) := (blk_cell BG.out 0).trans rfl
              have hcg71 : wr.cell? ⟨g7, 1, none⟩ = some (.int .i64 (n : Int)) := (blk_cell BG.out 1).trans rfl
              go_wp2_with (first
        | (go_at_call 23; refine (table_Read.calls 40 gt Ab cb bl (n : Int) (p : Int) (Hu.countedS l0).1 (Hu.symsS l0) (s : Int) (q : Int) 0 _ HVC.out HVE.out ⟨HL.out, At, ct, blk_below TB.out HK.out, Kd.C_below TS.out HK.out⟩ HRD.out).mono ?_; rintro e_ w7 ⟨rfl, hb⟩; have n0 := Aside0.mk (below_then HK.out HK.out.size hb); have n1 := Aside0.mk (blk_below BG.out hb); have n2 := Aside0.mk (Kd.C_below HVC.out hb); have n3 := Aside0.mk (Kd.C_below HPC.out hb); have n4 := Aside0.mk (pw_cell_below hb HX0.out); have n5 := Aside0.mk (pw_cell_below hb HX8.out); clear HK BG HVC HPC HX0 HX8; have HK := n0; have BG := n1; have HVC := n2; have HPC := n3; have HX0 := n4; have HX8 := n5; clear n0 n1 n2 n3 n4 n5; clear hb; clear hcg70 hcg71; have hx0 := HX0.out; have hx8 := HX8.out)
        )
              go_roundw
              case rel => exact ⟨j + 1, q, by omega, rfl, by first | rfl | (simp; done), HPN, HK, BG, HVC, HPC⟩
              case measure => simp [intOf]; omega
            · obtain rfl : j = ss.length := by omega
              obtain ⟨e1, e2⟩ := place_end HT.out HPL.out
              subst e1
              have hrd := readF_eq (k := 40) (by omega) (p : Int) HT.out.1 hrg.1 (by omega) (show -9223372036854775808 ≤ (p : Int) by omega) (by omega) (n := (p : Int)) (b := bl)
              rw [e2] at hrd
              have HRD := Aside0.mk hrd
              have q0 := eq_false (show ¬ (ss.length : Int) < (ss.length : Int) by omega)
              clear hrd e2 hlt hrg hbn
              have hcg70 : wr.cell? ⟨g7, 0, none⟩ = some (.slice Ab bl.length cb) := (blk_cell BG.out 0).trans rfl
              have hcg71 : wr.cell? ⟨g7, 1, none⟩ = some (.int .i64 (p : Int)) := (blk_cell BG.out 1).trans rfl
              go_wp2_with (first
        | (go_at_call 23; refine (table_Read.calls 40 gt Ab cb bl (p : Int) (p : Int) (Hu.countedS l0).1 (Hu.symsS l0) 0 0 4 _ HVC.out HVE.out ⟨HL.out, At, ct, blk_below TB.out HK.out, Kd.C_below TS.out HK.out⟩ HRD.out).mono ?_; rintro e_ w7 ⟨rfl, hb⟩; have n0 := Aside0.mk (below_then HK.out HK.out.size hb); have n1 := Aside0.mk (blk_below BG.out hb); have n2 := Aside0.mk (Kd.C_below HVC.out hb); have n3 := Aside0.mk (Kd.C_below HPC.out hb); clear HK BG HVC HPC; have HK := n0; have BG := n1; have HVC := n2; have HPC := n3; clear n0 n1 n2 n3; clear hb; clear hcg70 hcg71; have hcg70 : w7.cell? ⟨g7, 0, none⟩ = some (.slice Ab bl.length cb) := (blk_cell BG.out 0).trans rfl; have hcg71 : w7.cell? ⟨g7, 1, none⟩ = some (.int .i64 (p : Int)) := (blk_cell BG.out 1).trans rfl)
        | (go_at_call 16; refine (valiselaw04_lives.calls true _ rfl).mono ?_; rintro e_ w8 ⟨rfl, hb⟩; have HF := Aside0.mk (below_then HB.out HB.out.size (below_then HK.out HK.out.size hb)); clear hb)
        )
              go_ret
              exact ⟨rfl, HF.out⟩
  · have h0b : (Hu.newS l0 == 0) = false := beq_eq_false_iff_ne.mpr h0
    have h0c : (Hu.newS l0 != 0) = true := bne_iff_ne.mpr h0
    have H0 := Aside0.mk h0
    clear h0 r0 q0 r1 q1 w0 w1 y0 y1
    go_enter Try.func6, Try.ntmps6
    go_wp2_with (first
        | (go_at_call 21; refine (Hu.huff_New_all A0 c0 l0 _ (Kd.C_below HR.out HB.out) HOK.out).mono ?_; rintro e_ w3 hnp; obtain ⟨_, hn2, hb⟩ := hnp; obtain rfl := hn2 H0.out; have n0 := Aside0.mk (below_then HB.out HB.out.size hb); clear HB; have HB := n0; clear n0; clear hb; clear hn2)
        | (go_at_call 16; refine (valiselaw04_lives.calls true _ rfl).mono ?_; rintro e_ w8 ⟨rfl, hb⟩; have n0 := Aside0.mk (below_then HB.out HB.out.size hb); clear HB; have HB := n0; clear n0; clear hb)
        )
    go_ret
    exact ⟨rfl, HB.out⟩
end
end Go.Proofs.Ythcndpdfcippiaa.Pr

