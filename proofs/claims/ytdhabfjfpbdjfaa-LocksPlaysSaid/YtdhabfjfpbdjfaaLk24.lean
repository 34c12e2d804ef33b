-- A text by hand (wip/locks).
import Derived.RangeFuncNested
import Derived.RangeFuncBound
import Derived.RangeFuncCalls
import Derived.RangeFuncLeaves
import Derived.RangeFuncBox
import Derived.Shelf.Abstract
import Derived.Shelf.RegionOpen
import Derived.OwnWalkIn
import Derived.TacticsInMore
import Derived.LoopNIn
import Derived.LoopIn
import Derived.Test.YtdhabfjfpbdjfaaPr0
import Derived.Test.YtdhabfjfpbdjfaaLk23
import Derived.Test.YtdhabfjfpbdjfaaLk20
namespace Go.Proofs.Ytdhabfjfpbdjfaa.Pr
open Go.RowKit Go.Shelf Go.Proofs.YtdhabfjfpbdjfaaW.PrintWords Go.Proofs.YtdhabfjfpbdjfaaW.PrintLast Go.Proofs.YtdhabfjfpbdjfaaW.PrintMore
set_option linter.unusedVariables false
set_option linter.unusedSimpArgs false
section
attribute [local go_sem] Oper.semAt_some
open Law
set_option maxHeartbeats 8000000 in
set_option maxRecDepth 100000 in
theorem LocksPlays.walk (A0 : Option Addr) (c0 : Nat) (l0 : List S30) (w : World) (r0 : Kd.C k30 w A0 l0.length l0) (q0 : l0.length ≤ c0) (m0 : l0.length ≤ maxLen) (w0 : ∀ a ∈ l0, ActOk a) :
    Calls Try.prog 4 #[.slice A0 l0.length c0] w fun e w' => e = .returned (.bool true) ∧ Below w.heap.size w w' := by
  have HR := Aside0.mk r0
  have HC := Aside0.mk q0
  have HB := Aside0.mk (Below.refl w.heap.size w)
  obtain ⟨rf, hf1, hf2⟩ := few_l0 (l := l0) 102 0 (by omega) (by omega) (by omega)
  have HF := Aside0.mk (show valiselaw18_few.f 102 l0 = some rf from hf1)
  cases rf with
  | false =>
    clear r0 q0 hf1 hf2 m0 w0
    go_enter Try.func4, Try.ntmps4
    go_upto_region 2 with (first
        | (go_at_call 8; refine (New_calls w _ HB.out).mono ?_; rintro e_ w1 ⟨rfl, hL', hB'⟩; have n0 := Aside0.mk hB'; have HL := Aside0.mk hL'; clear HB hB' hL'; have HB := n0; clear n0)
        )
    have GM := Aside0.mk HB.out.size
    have hb := below_alloc (Below.refl w1.heap.size w1) (.cells #[.slice none 0 0] 38 (0, 0))
    have hn := blk_new w1 (.cells #[.slice none 0 0] 38 (0, 0))
    obtain ⟨gm, hg⟩ : ∃ g, w1.heap.size = g := ⟨_, rfl⟩
    rw [hg] at hn GM ⊢
    clear hg
    generalize w1.alloc (.cells #[.slice none 0 0] 38 (0, 0)) = w2 at hb hn ⊢
    have n0 := Aside0.mk (below_then HB.out HB.out.size hb)
    have n1 := Aside0.mk (LA.below HL.out hb)
    have n2 := Aside0.mk (hn)
    clear HB HL
    have HB := n0
    have HL := n1
    have BM := n2
    clear n0 n1 n2
    clear hb
    clear hn
    go_wp2_with (first
        | (go_at_call 9; refine (valiselaw18_few.calls 102 A0 c0 l0 false _ (Kd.C_below HR.out HB.out) HC.out HF.out).mono ?_; rintro e_ w3 ⟨rfl, hd⟩; have hb := hd.below; clear hd; have n0 := Aside0.mk (below_then HB.out HB.out.size hb); have n1 := Aside0.mk (LA.below HL.out hb); have n2 := Aside0.mk (blk_below BM.out hb); clear HB HL BM; have HB := n0; have HL := n1; have BM := n2; clear n0 n1 n2; clear hb)
        | (go_at_call 10; refine (lives_calls _).mono ?_; rintro e_ w9 ⟨rfl, hb⟩; have n0 := Aside0.mk (below_then HB.out HB.out.size hb); have n1 := Aside0.mk (LA.below HL.out hb); have n2 := Aside0.mk (blk_below BM.out hb); clear HB HL BM; have HB := n0; have HL := n1; have BM := n2; clear n0 n1 n2; clear hb)
        )
    go_ret
    exact ⟨rfl, HB.out⟩
  | true =>
    have HFEW := Aside0.mk (show Few l0 from ⟨(hf2 rfl).1, fun j hj => (hf2 rfl).2 j (by omega) hj⟩)
    have HW := Aside0.mk w0
    clear r0 q0 hf1 hf2 m0 w0
    go_enter Try.func4, Try.ntmps4
    go_upto_region 2 with (first
        | (go_at_call 8; refine (New_calls w _ HB.out).mono ?_; rintro e_ w1 ⟨rfl, hL', hB'⟩; have n0 := Aside0.mk hB'; have HL := Aside0.mk hL'; clear HB hB' hL'; have HB := n0; clear n0)
        )
    have GM := Aside0.mk HB.out.size
    have hb := below_alloc (Below.refl w1.heap.size w1) (.cells #[.slice none 0 0] 38 (0, 0))
    have hn := blk_new w1 (.cells #[.slice none 0 0] 38 (0, 0))
    obtain ⟨gm, hg⟩ : ∃ g, w1.heap.size = g := ⟨_, rfl⟩
    rw [hg] at hn GM ⊢
    clear hg
    generalize w1.alloc (.cells #[.slice none 0 0] 38 (0, 0)) = w2 at hb hn ⊢
    have n0 := Aside0.mk (below_then HB.out HB.out.size hb)
    have n1 := Aside0.mk (LA.below HL.out hb)
    have n2 := Aside0.mk (hn)
    clear HB HL
    have HB := n0
    have HL := n1
    have BM := n2
    clear n0 n1 n2
    clear hb
    clear hn
    go_wp2_with (first
        | (go_at_call 9; refine (valiselaw18_few.calls 102 A0 c0 l0 true _ (Kd.C_below HR.out HB.out) HC.out HF.out).mono ?_; rintro e_ w3 ⟨rfl, hd⟩; have hb := hd.below; clear hd; have n0 := Aside0.mk (below_then HB.out HB.out.size hb); have n1 := Aside0.mk (LA.below HL.out hb); have n2 := Aside0.mk (blk_below BM.out hb); clear HB HL BM; have HB := n0; have HL := n1; have BM := n2; clear n0 n1 n2; clear hb)
        )
    obtain ⟨gl, hgl⟩ : ∃ gl, w.heap.size + 1 = gl := ⟨_, rfl⟩
    rw [hgl] at HL ⊢
    clear hgl
    have RM : Aside0 (R69 w3 w.heap.size none 0 []) := ⟨Kd.R_nil _ _ _ _ _⟩
    go_loopw [5] (fun x5 w' => ∃ (i : Nat) (P : LP) (L : List S69) (AM : Option Addr) (cM : Nat), i ≤ l0.length ∧ x5 = .int .i64 (i : Int) ∧ L.length ≤ i ∧ Aside0 (Inv P) ∧ Aside0 (RelL P L) ∧ Aside0 (LA w' w.heap.size gl P) ∧ Aside0 (Below w.heap.size w w') ∧ Aside0 (w'.heap[gm]? = some (.cells #[.slice AM L.length cM] 38 (0, 0))) ∧ Aside0 (R69 w' w.heap.size AM cM L)) (fun x5 _ => l0.length + 1 - (intOf x5).toNat)
    case atStart => exact ⟨0, [], [], none, 0, by omega, rfl, by simp, ⟨inv_nil⟩, ⟨rel_nil⟩, HL, HB, BM, RM⟩
    case round =>
      clear HL HB BM RM
      obtain ⟨i, P, L, AM, cM, hil, rfl, hll, HI, HRL, HL, HB, BM, RM⟩ := hrel
      by_cases hlt : i < l0.length
      · obtain ⟨a, hx⟩ : ∃ x, rd_T30 l0 (i : Int) = x := ⟨_, rfl⟩
        obtain ⟨ad, ead, _⟩ := at_T30 HR.out (i : Int) (by omega) (by omega)
        subst ead
        have HX := Aside0.mk hx
        have HLT := Aside0.mk hlt
        obtain ⟨hx0, hx1, hx2, hx3⟩ := act_at HR.out HB.out i hlt hx
        have q0 := eq_true (show (i : Int) < (l0.length : Int) by omega)
        have q1 := eq_true (show (0 : Int) ≤ (i : Int) by omega)
        have q2 := eq_true hlt
        have hu30 := Try.underlying30
        have HLL := Aside0.mk hll
        clear hx hlt hll hil
        go_upto_region 8 with (fail)
        have hb := below_alloc (Below.refl wr.heap.size wr) (.cells #[.bool a.f0, .int .i64 a.f1, .string a.f2, .bool a.f3] 30 (0, 0))
        have hn := blk_new wr (.cells #[.bool a.f0, .int .i64 a.f1, .string a.f2, .bool a.f3] 30 (0, 0))
        obtain ⟨ga, hg⟩ : ∃ g, wr.heap.size = g := ⟨_, rfl⟩
        rw [hg] at hn ⊢
        clear hg
        generalize wr.alloc (.cells #[.bool a.f0, .int .i64 a.f1, .string a.f2, .bool a.f3] 30 (0, 0)) = w2 at hb hn ⊢
        have n0 := Aside0.mk (below_then HB.out HB.out.size hb)
        have n1 := Aside0.mk (LA.below HL.out hb)
        have n2 := Aside0.mk (blk_below BM.out hb)
        have n3 := Aside0.mk (Kd.R_below RM.out hb)
        have n4 := Aside0.mk (hn)
        clear HB HL BM RM
        have HB := n0
        have HL := n1
        have BM := n2
        have RM := n3
        have BA := n4
        clear n0 n1 n2 n3 n4
        clear hb
        clear hn
        clear hx0 hx1 hx2 hx3
        obtain ⟨fr, hfr⟩ : ∃ fr, a.f0 = fr := ⟨_, rfl⟩
        rw [hfr] at BA
        clear hfr hu30
        cases fr with
        | true =>
          as_aux_lemma =>
            have hu38 := Try.underlying38
            have hy0 : w2.cell? ⟨ga, 0, none⟩ = some (.bool true) := (blk_cell BA.out 0).trans rfl
            have hy1 : w2.cell? ⟨ga, 1, none⟩ = some (.int .i64 a.f1) := (blk_cell BA.out 1).trans rfl
            have hy2 : w2.cell? ⟨ga, 2, none⟩ = some (.string a.f2) := (blk_cell BA.out 2).trans rfl
            have hy3 : w2.cell? ⟨ga, 3, none⟩ = some (.bool a.f3) := (blk_cell BA.out 3).trans rfl
            have hcm : w2.cell? ⟨gm, 0, none⟩ = some (.slice AM L.length cM) := (blk_cell BM.out 0).trans rfl
            obtain ⟨P', now, er, hpf, hI', htu⟩ := free_res HI.out a.f1 a.f2
            obtain ⟨L', hrf, hrl, hll⟩ := ref_free HI.out HRL.out (by have := HLL.out; have := HFEW.out.1; have := HLT.out; omega) a.f1 a.f2
            have hnl := waits_le HI.out a.f2
            rw [← htu, List.length_append] at hnl
            have HNL := Aside0.mk hnl
            clear hnl htu
            rw [hpf] at hrf hrl
            dsimp only at hrf hrl
            have HPF := Aside0.mk hpf
            have HRF := Aside0.mk hrf
            have HRL' := Aside0.mk hrl
            have HI' := Aside0.mk hI'
            have HLL' := Aside0.mk (show L'.length ≤ i + 1 by have := HLL.out; omega)
            clear hpf hrf hrl hI' hll
            go_upto_region 10 with (first
        | (go_at_call 14; refine (ref_free_calls L L' now er a.f1 a.f2 AM cM w _ HB.out RM.out HRF.out).mono ?_; rintro e_ w3 ⟨AL, cL, v_, rfl, hr, ho_, hB', hk⟩; obtain ⟨AN, cAN, ev_⟩ := Kd.R_slice ho_; subst ev_; have n0 := Aside0.mk (hB'); have n1 := Aside0.mk (la_kt HL.out hk (by decide) (by decide) (by decide)); have n2 := Aside0.mk (blk_kt BM.out hk (by decide)); have n3 := Aside0.mk (blk_kt BA.out hk (by decide)); have n4 := Aside0.mk (hr); have n5 := Aside0.mk (ho_); clear HB HL BM RM BA; have HB := n0; have HL := n1; have BM := n2; have BA := n3; have RM := n4; have RN := n5; clear n0 n1 n2 n3 n4 n5; clear hk; clear hr ho_ hB' hcm; clear hy0 hy1 hy2 hy3 hu38; have hu38 := Try.underlying38; have hy0 : w3.cell? ⟨ga, 0, none⟩ = some (.bool true) := (blk_cell BA.out 0).trans rfl; have hy1 : w3.cell? ⟨ga, 1, none⟩ = some (.int .i64 a.f1) := (blk_cell BA.out 1).trans rfl; have hy2 : w3.cell? ⟨ga, 2, none⟩ = some (.string a.f2) := (blk_cell BA.out 2).trans rfl; have hy3 : w3.cell? ⟨ga, 3, none⟩ = some (.bool a.f3) := (blk_cell BA.out 3).trans rfl)
        )
            have hb := below_alloc (Below.refl w3.heap.size w3) (.cells #[.slice AL L'.length cL] 38 (0, 0))
            have hn := blk_new w3 (.cells #[.slice AL L'.length cL] 38 (0, 0))
            obtain ⟨gn, hg⟩ : ∃ g, w3.heap.size = g := ⟨_, rfl⟩
            rw [hg] at hn ⊢
            clear hg
            generalize w3.alloc (.cells #[.slice AL L'.length cL] 38 (0, 0)) = w4 at hb hn ⊢
            have n0 := Aside0.mk (below_then HB.out HB.out.size hb)
            have n1 := Aside0.mk (LA.below HL.out hb)
            have n2 := Aside0.mk (blk_below BM.out hb)
            have n3 := Aside0.mk (blk_below BA.out hb)
            have n4 := Aside0.mk (Kd.R_below RM.out hb)
            have n5 := Aside0.mk (Kd.R_below RN.out hb)
            have n6 := Aside0.mk (hn)
            clear HB HL BM BA RM RN
            have HB := n0
            have HL := n1
            have BM := n2
            have BA := n3
            have RM := n4
            have RN := n5
            have BN := n6
            clear n0 n1 n2 n3 n4 n5 n6
            clear hb
            clear hn
            clear hy0 hy1 hy2 hy3 hu38
            have hu38 := Try.underlying38
            have hy0 : w4.cell? ⟨ga, 0, none⟩ = some (.bool true) := (blk_cell BA.out 0).trans rfl
            have hy1 : w4.cell? ⟨ga, 1, none⟩ = some (.int .i64 a.f1) := (blk_cell BA.out 1).trans rfl
            have hy2 : w4.cell? ⟨ga, 2, none⟩ = some (.string a.f2) := (blk_cell BA.out 2).trans rfl
            have hy3 : w4.cell? ⟨ga, 3, none⟩ = some (.bool a.f3) := (blk_cell BA.out 3).trans rfl
            go_upto_region 12 with (first
        | (go_at_call 12; have hc := Free_off gl a.f1 a.f2 P w _ HL.out HB.out HI.out.small; rw [HPF.out] at hc; dsimp only at hc; refine hc.mono ?_; clear hc; rintro e_ w5 ⟨v_, rfl, ho_, hL', hB', ho⟩; obtain ⟨AX, cAX, ev_⟩ := Kd.R_slice ho_; subst ev_; have n0 := Aside0.mk (hB'); have n1 := Aside0.mk (hL'); have n2 := Aside0.mk (blk_off BM.out ho (by decide) (by decide)); have n3 := Aside0.mk (blk_off BA.out ho (by decide) (by decide)); have n4 := Aside0.mk (R_off rfl (by decide) (by decide) RM.out ho); have n5 := Aside0.mk (ints_off RN.out ho); have n6 := Aside0.mk (blk_off BN.out ho (by decide) (by decide)); have n7 := Aside0.mk (ho_); clear HB HL BM BA RM RN BN; have HB := n0; have HL := n1; have BM := n2; have BA := n3; have RM := n4; have RN := n5; have BN := n6; have RX := n7; clear n0 n1 n2 n3 n4 n5 n6 n7; clear hB' hL' ho; clear ho_; clear hy0 hy1 hy2 hy3 hu38; have hu38 := Try.underlying38; have hy0 : w5.cell? ⟨ga, 0, none⟩ = some (.bool true) := (blk_cell BA.out 0).trans rfl; have hy1 : w5.cell? ⟨ga, 1, none⟩ = some (.int .i64 a.f1) := (blk_cell BA.out 1).trans rfl; have hy2 : w5.cell? ⟨ga, 2, none⟩ = some (.string a.f2) := (blk_cell BA.out 2).trans rfl; have hy3 : w5.cell? ⟨ga, 3, none⟩ = some (.bool a.f3) := (blk_cell BA.out 3).trans rfl; have hcm : w5.cell? ⟨gm, 0, none⟩ = some (.slice AM L.length cM) := (blk_cell BM.out 0).trans rfl; have hcn : w5.cell? ⟨gn, 0, none⟩ = some (.slice AL L'.length cL) := (blk_cell BN.out 0).trans rfl; have hfm : w5.frozen? ⟨gm, 0, none⟩ = false := blk_frozen BM.out 0)
        )
            have hk := kt_set BM.out 0 (.slice AL L'.length cL)
            have hs := blk_set BM.out 0 (.slice AL L'.length cL)
            have hbs := below_set (j := 0) (v := .slice AL L'.length cL) HB.out GM.out
            clear BM BN hcm hcn hfm BA
            clear hy0 hy1 hy2 hy3 hu38
            generalize w5.setCell ⟨gm, 0, none⟩ (.slice AL L'.length cL) = w6 at hk hs hbs ⊢
            have n0 := Aside0.mk (hbs)
            have n1 := Aside0.mk (la_kt HL.out hk (by decide) (by decide) (by decide))
            have n2 := Aside0.mk (R_kt rfl (by decide) RM.out hk)
            have n3 := Aside0.mk (R_kt rfl (by decide) RN.out hk)
            have n4 := Aside0.mk (R_kt rfl (by decide) RX.out hk)
            have n5 := Aside0.mk (hs)
            clear HB HL RM RN RX
            have HB := n0
            have HL := n1
            have RM := n2
            have RN := n3
            have RX := n4
            have BM := n5
            clear n0 n1 n2 n3 n4 n5
            clear hk
            clear hs hbs
            go_wp2_with (first
        | (go_at_call 15; refine (valiseref04_Same.calls 5000 AX cAX now AN cAN now true _ (Kd.R_reads' RX.out).2.2 (Kd.R_reads' RX.out).2.1 (Kd.R_reads' RN.out).2.2 (Kd.R_reads' RN.out).2.1 (same_self (by have := HNL.out; omega))).mono ?_; rintro e_ w7 ⟨rfl, hd⟩; have hb := hd.below; clear hd; have n0 := Aside0.mk (below_then HB.out HB.out.size hb); have n1 := Aside0.mk (LA.below HL.out hb); have n2 := Aside0.mk (Kd.R_below RM.out hb); have n3 := Aside0.mk (Kd.R_below RN.out hb); have n4 := Aside0.mk (Kd.R_below RX.out hb); have n5 := Aside0.mk (blk_below BM.out hb); clear HB HL RM RN RX BM; have HB := n0; have HL := n1; have RM := n2; have RN := n3; have RX := n4; have BM := n5; clear n0 n1 n2 n3 n4 n5; clear hb)
        )
            clear RN RX
            go_loopw [17] (fun x17 w' => ∃ k : Nat, k ≤ i + 1 ∧ x17 = .int .i64 (k : Int) ∧ Aside0 (LA w' w.heap.size gl P') ∧ Aside0 (Below w.heap.size w w') ∧ Aside0 (w'.heap[gm]? = some (.cells #[.slice AL L'.length cL] 38 (0, 0))) ∧ Aside0 (R69 w' w.heap.size AL cL L')) (fun x17 _ => i + 2 - (intOf x17).toNat)
            case atStart => exact ⟨0, by omega, rfl, HL, HB, BM, RM⟩
            case round =>
              clear HL HB BM RM
              obtain ⟨k, hk, rfl, HL, HB, BM, RM⟩ := hrel
              by_cases hki : k ≤ i
              · have hlt := HLT.out
                have hkl : k < l0.length := by omega
                obtain ⟨b, hxb⟩ : ∃ x, rd_T30 l0 (k : Int) = x := ⟨_, rfl⟩
                have HXB := Aside0.mk hxb
                have HKL := Aside0.mk hkl
                obtain ⟨hz0, hz1, hz2, hz3⟩ := act_at HR.out HB.out k hkl hxb
                clear hz0 hz1 hz3
                have s0 := eq_true (show (k : Int) < (l0.length : Int) by omega)
                have s1 := eq_true (show (0 : Int) ≤ (k : Int) by omega)
                have s2 := eq_true hkl
                have s3 := eq_true (show (k : Int) ≤ (i : Int) by omega)
                have hof := ref_of HI'.out HRL'.out (by have := HLL'.out; have := HFEW.out.1; omega) b.f2
                obtain ⟨⟨hs, hw⟩, hhs⟩ : ∃ x, holdsP b.f2 P' = x := ⟨_, rfl⟩
                obtain ⟨ws, hws⟩ : ∃ ws, waitsP b.f2 P' = ws := ⟨_, rfl⟩
                have hap := (apart_of HI'.out b.f2).2.2.2
                rw [hhs, hws] at hof hap
                dsimp only at hof hap
                rw [List.length_append] at hap
                obtain ⟨hof1, bb, hof2⟩ := hof
                have OF1 := Aside0.mk hof1
                have OF2 := Aside0.mk hof2
                have HHS := Aside0.mk hhs
                have HWS := Aside0.mk hws
                have HKI := Aside0.mk hki
                have HAP := Aside0.mk hap
                clear hap hof1 hof2 hhs hws hxb hkl hki hk hlt
                have hu38 := Try.underlying38
                go_upto_region 23 with (first
        | (go_at_call 17; have hc := Holds_la gl b.f2 P' _ _ HL.out HI'.out.small; rw [HHS.out] at hc; dsimp only at hc; refine hc.mono ?_; clear hc; rintro e_ w3 ⟨v_, rfl, ho_, hb⟩; obtain ⟨AH, cAH, ev_⟩ := Kd.R_slice ho_; subst ev_; have n0 := Aside0.mk (below_then HB.out HB.out.size hb); have n1 := Aside0.mk (LA.below HL.out hb); have n2 := Aside0.mk (blk_below BM.out hb); have n3 := Aside0.mk (Kd.R_below RM.out hb); have n4 := Aside0.mk (ho_); clear HB HL BM RM; have HB := n0; have HL := n1; have BM := n2; have RM := n3; have RH := n4; clear n0 n1 n2 n3 n4; clear hb; clear ho_; clear hz2; have hz2 := (act_at HR.out HB.out k HKL.out HXB.out).2.2.1)
        )
                have hb := below_drew1 (Below.refl w3.heap.size w3)
                have n0 := Aside0.mk (below_then HB.out HB.out.size hb)
                have n1 := Aside0.mk (LA.below HL.out hb)
                have n2 := Aside0.mk (blk_below BM.out hb)
                have n3 := Aside0.mk (Kd.R_below RM.out hb)
                have n4 := Aside0.mk (Kd.R_below RH.out hb)
                clear HB HL BM RM RH
                have HB := n0
                have HL := n1
                have BM := n2
                have RM := n3
                have RH := n4
                clear n0 n1 n2 n3 n4
                clear hb
                clear hz2
                have hz2 := (act_at HR.out HB.out k HKL.out HXB.out).2.2.1
                have hcm : w3.drew.cell? ⟨gm, 0, none⟩ = some (.slice AL L'.length cL) := (blk_cell BM.out 0).trans rfl
                refine start_ (n := 12) (S := fun w' => w'.cell? ⟨gm, 0, none⟩ = some (.slice AL L'.length cL) ∧ w'.cell? ⟨(ad.add (k * 4)).block, (ad.add (k * 4)).off + 2, none⟩ = some (.string b.f2)) (ds := []) #[false, false, false, false, false, false, false, false, false, false, false, false] (by kernel_rfl) rfl rfl ⟨hcm, hz2⟩ (fun hHeld => ?_)
                generalize w3.drew = wd at HB HL BM RM RH hcm hz2 hHeld ⊢
                refine pure_ (i := 1) (N := some 128) (v := ?_) (a' := ?_) #[false, true, false, false, false, false, false, false, false, false, false, false] rfl rfl (by kernel_rfl) (fun _ _ _ h => h) (Or.inl ⟨by rfl, ?_⟩) ?_ ?_
                rotate_left
                · intro w'
                  go_simp
                  with_reducible rfl
                rotate_left
                · simp only [Act.put, List.setIfInBounds_toArray, List.set_cons_zero, List.set_cons_succ, i64_w, i32_w, u8_w]
                  rfl
                refine pure_ (i := 2) (N := some 129) (v := ?_) (a' := ?_) #[false, true, true, false, false, false, false, false, false, false, false, false] rfl rfl (by kernel_rfl) (fun _ _ _ h => h) (Or.inl ⟨by rfl, ?_⟩) ?_ ?_
                rotate_left
                · intro w'
                  go_simp
                  with_reducible rfl
                rotate_left
                · simp only [Act.put, List.setIfInBounds_toArray, List.set_cons_zero, List.set_cons_succ, i64_w, i32_w, u8_w]
                  rfl
                refine pure_ (i := 3) (N := some 130) (v := ?_) (a' := ?_) #[false, true, true, true, false, false, false, false, false, false, false, false] rfl rfl (by kernel_rfl) (fun _ _ _ h => h) (Or.inl ⟨by rfl, ?_⟩) ?_ ?_
                rotate_left
                · intro w'
                  go_simp
                  with_reducible rfl
                rotate_left
                · simp only [Act.put, List.setIfInBounds_toArray, List.set_cons_zero, List.set_cons_succ, i64_w, i32_w, u8_w]
                  rfl
                refine pure_ (i := 4) (N := some 131) (v := ?_) (a' := ?_) #[false, true, true, true, true, false, false, false, false, false, false, false] rfl rfl (by kernel_rfl) (fun _ _ _ h => h) (Or.inl ⟨by rfl, ?_⟩) ?_ ?_
                rotate_left
                · intro w'
                  go_simp
                  with_reducible rfl
                rotate_left
                · simp only [Act.put, List.setIfInBounds_toArray, List.set_cons_zero, List.set_cons_succ, i64_w, i32_w, u8_w]
                  rfl
                refine take_ (i := 0) (N := some 127) (v := ?_) (a' := ?_) #[true, true, true, true, true, false, false, false, false, false, false, false] rfl rfl (by kernel_rfl) (fun _ _ _ h => h) (Or.inl ⟨by rfl, ?_⟩) hHeld ?_ ?_
                rotate_left
                · rintro w' ⟨s0, s1⟩
                  go_simp
                  with_reducible rfl
                rotate_left
                · simp only [Act.put, List.setIfInBounds_toArray, List.set_cons_zero, List.set_cons_succ, i64_w, i32_w, u8_w]
                  rfl
                refine take_ (i := 5) (N := some 132) (v := ?_) (a' := ?_) #[true, true, true, true, true, true, false, false, false, false, false, false] rfl rfl (by kernel_rfl) (fun _ _ _ h => h) (Or.inl ⟨by rfl, ?_⟩) hHeld ?_ ?_
                rotate_left
                · rintro w' ⟨s0, s1⟩
                  go_simp
                  with_reducible rfl
                rotate_left
                · simp only [Act.put, List.setIfInBounds_toArray, List.set_cons_zero, List.set_cons_succ, i64_w, i32_w, u8_w]
                  rfl
                refine one_ (i := 6) (N := some 133) #[true, true, true, true, true, true, true, false, false, false, false, false] rfl rfl (by kernel_rfl) (by decide) (fun K hK => ?_)
                refine goes_ Try.func18 (by kernel_rfl) rfl #[.agg #[.slice AL L'.length cL], .string b.f2, .bool true] (by rfl) rfl rfl (by simp only [List.map_toArray, List.map_cons, List.map_nil]; rfl) ?_
                have hcall := valiseref18_Locks_Of.calls 5000 AL cL L' b.f2 true hs hw _ (Kd.R_reads' RM.out).2.2 (Kd.R_reads' RM.out).2.1 OF1.out
                with_reducible refine (hcall).mono ?_
                rintro e_ w4 ⟨v_, rfl, ho_, hb⟩
                refine ⟨_, rfl, ?_⟩
                clear hcall hcm
                obtain ⟨AP, cAP, ev_⟩ := Kd.R_slice ho_
                subst ev_
                have n0 := Aside0.mk (below_then HB.out HB.out.size hb)
                have n1 := Aside0.mk (LA.below HL.out hb)
                have n2 := Aside0.mk (blk_below BM.out hb)
                have n3 := Aside0.mk (Kd.R_below RM.out hb)
                have n4 := Aside0.mk (Kd.R_below RH.out hb)
                have n5 := Aside0.mk (ho_)
                clear HB HL BM RM RH
                have HB := n0
                have HL := n1
                have BM := n2
                have RM := n3
                have RH := n4
                have RP := n5
                clear n0 n1 n2 n3 n4 n5
                clear hb
                clear ho_
                clear hz2
                have hz2 := (act_at HR.out HB.out k HKL.out HXB.out).2.2.1
                have hcm : w4.cell? ⟨gm, 0, none⟩ = some (.slice AL L'.length cL) := (blk_cell BM.out 0).trans rfl
                refine hK.out _ _ ⟨hcm, hz2⟩ (fun hHeld => ?_)
                clear hK K
                refine norm_ (a' := ?_) ?_ ?_
                rotate_left
                · show Act.put _ (some 133) _ = _
                  simp only [Act.put, List.setIfInBounds_toArray, List.set_cons_zero, List.set_cons_succ, i64_w, i32_w, u8_w]
                  rfl
                refine pure_ (i := 7) (N := some 126) (v := ?_) (a' := ?_) #[true, true, true, true, true, true, true, true, false, false, false, false] rfl rfl (by kernel_rfl) (fun _ _ _ h => h) (Or.inl ⟨by rfl, ?_⟩) ?_ ?_
                rotate_left
                · intro w'
                  go_simp
                  with_reducible rfl
                rotate_left
                · simp only [Act.put, List.setIfInBounds_toArray, List.set_cons_zero, List.set_cons_succ, i64_w, i32_w, u8_w]
                  rfl
                refine pure_ (i := 8) (N := some 134) (v := ?_) (a' := ?_) #[true, true, true, true, true, true, true, true, true, false, false, false] rfl rfl (by kernel_rfl) (fun _ _ _ h => h) (Or.inl ⟨by rfl, ?_⟩) ?_ ?_
                rotate_left
                · intro w'
                  go_simp
                  with_reducible rfl
                rotate_left
                · simp only [Act.put, List.setIfInBounds_toArray, List.set_cons_zero, List.set_cons_succ, i64_w, i32_w, u8_w]
                  rfl
                refine pure_ (i := 9) (N := some 135) (v := ?_) (a' := ?_) #[true, true, true, true, true, true, true, true, true, true, false, false] rfl rfl (by kernel_rfl) (fun _ _ _ h => h) (Or.inl ⟨by rfl, ?_⟩) ?_ ?_
                rotate_left
                · intro w'
                  go_simp
                  with_reducible rfl
                rotate_left
                · simp only [Act.put, List.setIfInBounds_toArray, List.set_cons_zero, List.set_cons_succ, i64_w, i32_w, u8_w]
                  rfl
                refine pure_ (i := 10) (N := some 20) (v := ?_) (a' := ?_) #[true, true, true, true, true, true, true, true, true, true, true, false] rfl rfl (by kernel_rfl) (fun _ _ _ h => h) (Or.inl ⟨by rfl, ?_⟩) ?_ ?_
                rotate_left
                · intro w'
                  go_simp
                  with_reducible rfl
                rotate_left
                · simp only [Act.put, List.setIfInBounds_toArray, List.set_cons_zero, List.set_cons_succ, i64_w, i32_w, u8_w]
                  rfl
                refine pure_ (i := 11) (N := some 21) (v := ?_) (a' := ?_) #[true, true, true, true, true, true, true, true, true, true, true, true] rfl rfl (by kernel_rfl) (fun _ _ _ h => h) (Or.inl ⟨by rfl, ?_⟩) ?_ ?_
                rotate_left
                · intro w'
                  go_simp
                  with_reducible rfl
                rotate_left
                · simp only [Act.put, List.setIfInBounds_toArray, List.set_cons_zero, List.set_cons_succ, i64_w, i32_w, u8_w]
                  rfl
                refine done_ (by kernel_rfl) ?_
                clear hcm
                go_upto_region 24 with (fail)
                have hb := below_drew1 (Below.refl w4.heap.size w4)
                have n0 := Aside0.mk (below_then HB.out HB.out.size hb)
                have n1 := Aside0.mk (LA.below HL.out hb)
                have n2 := Aside0.mk (blk_below BM.out hb)
                have n3 := Aside0.mk (Kd.R_below RM.out hb)
                have n4 := Aside0.mk (Kd.R_below RH.out hb)
                have n5 := Aside0.mk (Kd.R_below RP.out hb)
                clear HB HL BM RM RH RP
                have HB := n0
                have HL := n1
                have BM := n2
                have RM := n3
                have RH := n4
                have RP := n5
                clear n0 n1 n2 n3 n4 n5
                clear hb
                clear hz2
                have hz2 := (act_at HR.out HB.out k HKL.out HXB.out).2.2.1
                have hcm : w4.drew.cell? ⟨gm, 0, none⟩ = some (.slice AL L'.length cL) := (blk_cell BM.out 0).trans rfl
                refine start_ (n := 12) (S := fun w' => w'.cell? ⟨gm, 0, none⟩ = some (.slice AL L'.length cL) ∧ w'.cell? ⟨(ad.add (k * 4)).block, (ad.add (k * 4)).off + 2, none⟩ = some (.string b.f2)) (ds := []) #[false, false, false, false, false, false, false, false, false, false, false, false] (by kernel_rfl) rfl rfl ⟨hcm, hz2⟩ (fun hHeld => ?_)
                generalize w4.drew = wd at HB HL BM RM RH RP hcm hz2 hHeld ⊢
                refine pure_ (i := 1) (N := some 138) (v := ?_) (a' := ?_) #[false, true, false, false, false, false, false, false, false, false, false, false] rfl rfl (by kernel_rfl) (fun _ _ _ h => h) (Or.inl ⟨by rfl, ?_⟩) ?_ ?_
                rotate_left
                · intro w'
                  go_simp
                  with_reducible rfl
                rotate_left
                · simp only [Act.put, List.setIfInBounds_toArray, List.set_cons_zero, List.set_cons_succ, i64_w, i32_w, u8_w]
                  rfl
                refine pure_ (i := 2) (N := some 139) (v := ?_) (a' := ?_) #[false, true, true, false, false, false, false, false, false, false, false, false] rfl rfl (by kernel_rfl) (fun _ _ _ h => h) (Or.inl ⟨by rfl, ?_⟩) ?_ ?_
                rotate_left
                · intro w'
                  go_simp
                  with_reducible rfl
                rotate_left
                · simp only [Act.put, List.setIfInBounds_toArray, List.set_cons_zero, List.set_cons_succ, i64_w, i32_w, u8_w]
                  rfl
                refine pure_ (i := 3) (N := some 140) (v := ?_) (a' := ?_) #[false, true, true, true, false, false, false, false, false, false, false, false] rfl rfl (by kernel_rfl) (fun _ _ _ h => h) (Or.inl ⟨by rfl, ?_⟩) ?_ ?_
                rotate_left
                · intro w'
                  go_simp
                  with_reducible rfl
                rotate_left
                · simp only [Act.put, List.setIfInBounds_toArray, List.set_cons_zero, List.set_cons_succ, i64_w, i32_w, u8_w]
                  rfl
                refine pure_ (i := 4) (N := some 141) (v := ?_) (a' := ?_) #[false, true, true, true, true, false, false, false, false, false, false, false] rfl rfl (by kernel_rfl) (fun _ _ _ h => h) (Or.inl ⟨by rfl, ?_⟩) ?_ ?_
                rotate_left
                · intro w'
                  go_simp
                  with_reducible rfl
                rotate_left
                · simp only [Act.put, List.setIfInBounds_toArray, List.set_cons_zero, List.set_cons_succ, i64_w, i32_w, u8_w]
                  rfl
                refine take_ (i := 0) (N := some 137) (v := ?_) (a' := ?_) #[true, true, true, true, true, false, false, false, false, false, false, false] rfl rfl (by kernel_rfl) (fun _ _ _ h => h) (Or.inl ⟨by rfl, ?_⟩) hHeld ?_ ?_
                rotate_left
                · rintro w' ⟨s0, s1⟩
                  go_simp
                  with_reducible rfl
                rotate_left
                · simp only [Act.put, List.setIfInBounds_toArray, List.set_cons_zero, List.set_cons_succ, i64_w, i32_w, u8_w]
                  rfl
                refine take_ (i := 5) (N := some 142) (v := ?_) (a' := ?_) #[true, true, true, true, true, true, false, false, false, false, false, false] rfl rfl (by kernel_rfl) (fun _ _ _ h => h) (Or.inl ⟨by rfl, ?_⟩) hHeld ?_ ?_
                rotate_left
                · rintro w' ⟨s0, s1⟩
                  go_simp
                  with_reducible rfl
                rotate_left
                · simp only [Act.put, List.setIfInBounds_toArray, List.set_cons_zero, List.set_cons_succ, i64_w, i32_w, u8_w]
                  rfl
                refine one_ (i := 6) (N := some 143) #[true, true, true, true, true, true, true, false, false, false, false, false] rfl rfl (by kernel_rfl) (by decide) (fun K hK => ?_)
                refine goes_ Try.func18 (by kernel_rfl) rfl #[.agg #[.slice AL L'.length cL], .string b.f2, .bool false] (by rfl) rfl rfl (by simp only [List.map_toArray, List.map_cons, List.map_nil]; rfl) ?_
                have hcall := valiseref18_Locks_Of.calls 5000 AL cL L' b.f2 false ws bb _ (Kd.R_reads' RM.out).2.2 (Kd.R_reads' RM.out).2.1 OF2.out
                with_reducible refine (hcall).mono ?_
                rintro e_ w5 ⟨v_, rfl, ho_, hb⟩
                refine ⟨_, rfl, ?_⟩
                clear hcall hcm
                obtain ⟨AS, cAS, ev_⟩ := Kd.R_slice ho_
                subst ev_
                have n0 := Aside0.mk (below_then HB.out HB.out.size hb)
                have n1 := Aside0.mk (LA.below HL.out hb)
                have n2 := Aside0.mk (blk_below BM.out hb)
                have n3 := Aside0.mk (Kd.R_below RM.out hb)
                have n4 := Aside0.mk (Kd.R_below RH.out hb)
                have n5 := Aside0.mk (Kd.R_below RP.out hb)
                have n6 := Aside0.mk (ho_)
                clear HB HL BM RM RH RP
                have HB := n0
                have HL := n1
                have BM := n2
                have RM := n3
                have RH := n4
                have RP := n5
                have RS := n6
                clear n0 n1 n2 n3 n4 n5 n6
                clear hb
                clear ho_
                clear hz2
                have hz2 := (act_at HR.out HB.out k HKL.out HXB.out).2.2.1
                have hcm : w5.cell? ⟨gm, 0, none⟩ = some (.slice AL L'.length cL) := (blk_cell BM.out 0).trans rfl
                refine hK.out _ _ ⟨hcm, hz2⟩ (fun hHeld => ?_)
                clear hK K
                refine norm_ (a' := ?_) ?_ ?_
                rotate_left
                · show Act.put _ (some 143) _ = _
                  simp only [Act.put, List.setIfInBounds_toArray, List.set_cons_zero, List.set_cons_succ, i64_w, i32_w, u8_w]
                  rfl
                refine pure_ (i := 7) (N := some 136) (v := ?_) (a' := ?_) #[true, true, true, true, true, true, true, true, false, false, false, false] rfl rfl (by kernel_rfl) (fun _ _ _ h => h) (Or.inl ⟨by rfl, ?_⟩) ?_ ?_
                rotate_left
                · intro w'
                  go_simp
                  with_reducible rfl
                rotate_left
                · simp only [Act.put, List.setIfInBounds_toArray, List.set_cons_zero, List.set_cons_succ, i64_w, i32_w, u8_w]
                  rfl
                refine pure_ (i := 8) (N := some 144) (v := ?_) (a' := ?_) #[true, true, true, true, true, true, true, true, true, false, false, false] rfl rfl (by kernel_rfl) (fun _ _ _ h => h) (Or.inl ⟨by rfl, ?_⟩) ?_ ?_
                rotate_left
                · intro w'
                  go_simp
                  with_reducible rfl
                rotate_left
                · simp only [Act.put, List.setIfInBounds_toArray, List.set_cons_zero, List.set_cons_succ, i64_w, i32_w, u8_w]
                  rfl
                refine pure_ (i := 9) (N := some 145) (v := ?_) (a' := ?_) #[true, true, true, true, true, true, true, true, true, true, false, false] rfl rfl (by kernel_rfl) (fun _ _ _ h => h) (Or.inl ⟨by rfl, ?_⟩) ?_ ?_
                rotate_left
                · intro w'
                  go_simp
                  with_reducible rfl
                rotate_left
                · simp only [Act.put, List.setIfInBounds_toArray, List.set_cons_zero, List.set_cons_succ, i64_w, i32_w, u8_w]
                  rfl
                refine pure_ (i := 10) (N := some 22) (v := ?_) (a' := ?_) #[true, true, true, true, true, true, true, true, true, true, true, false] rfl rfl (by kernel_rfl) (fun _ _ _ h => h) (Or.inl ⟨by rfl, ?_⟩) ?_ ?_
                rotate_left
                · intro w'
                  go_simp
                  with_reducible rfl
                rotate_left
                · simp only [Act.put, List.setIfInBounds_toArray, List.set_cons_zero, List.set_cons_succ, i64_w, i32_w, u8_w]
                  rfl
                refine pure_ (i := 11) (N := some 23) (v := ?_) (a' := ?_) #[true, true, true, true, true, true, true, true, true, true, true, true] rfl rfl (by kernel_rfl) (fun _ _ _ h => h) (Or.inl ⟨by rfl, ?_⟩) ?_ ?_
                rotate_left
                · intro w'
                  go_simp
                  with_reducible rfl
                rotate_left
                · simp only [Act.put, List.setIfInBounds_toArray, List.set_cons_zero, List.set_cons_succ, i64_w, i32_w, u8_w]
                  rfl
                refine done_ (by kernel_rfl) ?_
                go_wp2_with (first
        | (go_at_call 15; have hc := valiseref04_Same.calls 5000 AH cAH hs AP cAP hs true _ (Kd.R_reads' RH.out).2.2 (Kd.R_reads' RH.out).2.1 (Kd.R_reads' RP.out).2.2 (Kd.R_reads' RP.out).2.1 (same_self (by have := HAP.out; omega)); (with_reducible refine hc.mono ?_); clear hc; rintro e_ ws_ ⟨rfl, hd⟩; have hb := hd.below; clear hd; have n0 := Aside0.mk (below_then HB.out HB.out.size hb); have n1 := Aside0.mk (LA.below HL.out hb); have n2 := Aside0.mk (blk_below BM.out hb); have n3 := Aside0.mk (Kd.R_below RM.out hb); have n4 := Aside0.mk (Kd.R_below RH.out hb); have n5 := Aside0.mk (Kd.R_below RP.out hb); have n6 := Aside0.mk (Kd.R_below RS.out hb); clear HB HL BM RM RH RP RS; have HB := n0; have HL := n1; have BM := n2; have RM := n3; have RH := n4; have RP := n5; have RS := n6; clear n0 n1 n2 n3 n4 n5 n6; clear hb; clear hz2; have hz2 := (act_at HR.out HB.out k HKL.out HXB.out).2.2.1)
        | (go_at_call 11; have hc := Waits_la gl b.f2 P' _ _ HL.out HI'.out.small; rw [HWS.out] at hc; refine hc.mono ?_; clear hc; rintro e_ w7 ⟨v_, rfl, ho_, hb⟩; obtain ⟨AW, cAW, ev_⟩ := Kd.R_slice ho_; subst ev_; have n0 := Aside0.mk (below_then HB.out HB.out.size hb); have n1 := Aside0.mk (LA.below HL.out hb); have n2 := Aside0.mk (blk_below BM.out hb); have n3 := Aside0.mk (Kd.R_below RM.out hb); have n4 := Aside0.mk (Kd.R_below RH.out hb); have n5 := Aside0.mk (Kd.R_below RP.out hb); have n6 := Aside0.mk (Kd.R_below RS.out hb); have n7 := Aside0.mk (ho_); clear HB HL BM RM RH RP RS; have HB := n0; have HL := n1; have BM := n2; have RM := n3; have RH := n4; have RP := n5; have RS := n6; have RW := n7; clear n0 n1 n2 n3 n4 n5 n6 n7; clear hb; clear ho_; clear hz2; have hz2 := (act_at HR.out HB.out k HKL.out HXB.out).2.2.1)
        | (go_at_call 15; have hc := valiseref04_Same.calls 5000 AW cAW ws AS cAS ws true _ (Kd.R_reads' RW.out).2.2 (Kd.R_reads' RW.out).2.1 (Kd.R_reads' RS.out).2.2 (Kd.R_reads' RS.out).2.1 (same_self (by have := HAP.out; omega)); (with_reducible refine hc.mono ?_); clear hc; rintro e_ ws_ ⟨rfl, hd⟩; have hb := hd.below; clear hd; have n0 := Aside0.mk (below_then HB.out HB.out.size hb); have n1 := Aside0.mk (LA.below HL.out hb); have n2 := Aside0.mk (blk_below BM.out hb); have n3 := Aside0.mk (Kd.R_below RM.out hb); have n4 := Aside0.mk (Kd.R_below RH.out hb); have n5 := Aside0.mk (Kd.R_below RP.out hb); have n6 := Aside0.mk (Kd.R_below RS.out hb); have n7 := Aside0.mk (Kd.R_below RW.out hb); clear HB HL BM RM RH RP RS RW; have HB := n0; have HL := n1; have BM := n2; have RM := n3; have RH := n4; have RP := n5; have RS := n6; have RW := n7; clear n0 n1 n2 n3 n4 n5 n6 n7; clear hb; clear hz2; have hz2 := (act_at HR.out HB.out k HKL.out HXB.out).2.2.1)
        )
                go_roundw
                case rel => have b1 := HFEW.out.1; have b2 := HLT.out; have b3 := HKI.out; exact ⟨k + 1, by omega, val_next _ (by omega), HL, HB, BM, RM⟩
                case measure => have b1 := HFEW.out.1; have b2 := HLT.out; have b3 := HKI.out; rw [nat_next _ (by omega)]; simp only [intOf, Int.toNat_natCast]; omega
              · have s3 := eq_false (show ¬ (k : Int) ≤ (i : Int) by omega)
                clear hk hki
                go_wp2
                go_roundw
                case rel => have b1 := HFEW.out.1; have b2 := HLT.out; exact ⟨i + 1, P', L', AL, cL, by omega, val_next _ (by omega), HLL'.out, HI', HRL', HL, HB, BM, RM⟩
                case measure => have b1 := HFEW.out.1; have b2 := HLT.out; rw [nat_next _ (by omega)]; simp only [intOf, Int.toNat_natCast]; omega
        | false =>
          as_aux_lemma =>
            have hu38 := Try.underlying38
            have hy0 : w2.cell? ⟨ga, 0, none⟩ = some (.bool false) := (blk_cell BA.out 0).trans rfl
            have hy1 : w2.cell? ⟨ga, 1, none⟩ = some (.int .i64 a.f1) := (blk_cell BA.out 1).trans rfl
            have hy2 : w2.cell? ⟨ga, 2, none⟩ = some (.string a.f2) := (blk_cell BA.out 2).trans rfl
            have hy3 : w2.cell? ⟨ga, 3, none⟩ = some (.bool a.f3) := (blk_cell BA.out 3).trans rfl
            have hcm : w2.cell? ⟨gm, 0, none⟩ = some (.slice AM L.length cM) := (blk_cell BM.out 0).trans rfl
            obtain ⟨P', ok, er, hpf, hI', htu⟩ := ask_res HI.out a.f1 a.f2 a.f3
            obtain ⟨L', hrf, hrl, hll⟩ := ref_ask HI.out HRL.out (by have := HLL.out; have := HFEW.out.1; have := HLT.out; omega) a.f1 a.f2 a.f3
            clear htu
            rw [hpf] at hrf hrl
            dsimp only at hrf hrl
            have HPF := Aside0.mk hpf
            have HRF := Aside0.mk hrf
            have HRL' := Aside0.mk hrl
            have HI' := Aside0.mk hI'
            have HLL' := Aside0.mk (show L'.length ≤ i + 1 by have := HLL.out; omega)
            clear hpf hrf hrl hI' hll
            go_upto_region 15 with (first
        | (go_at_call 16; refine (ref_ask_calls L L' ok a.f3 er a.f1 a.f2 AM cM w _ HB.out RM.out HRF.out).mono ?_; rintro e_ w3 ⟨AL, cL, rfl, hr, hB', hk⟩; have n0 := Aside0.mk (hB'); have n1 := Aside0.mk (la_kt HL.out hk (by decide) (by decide) (by decide)); have n2 := Aside0.mk (blk_kt BM.out hk (by decide)); have n3 := Aside0.mk (blk_kt BA.out hk (by decide)); have n4 := Aside0.mk (hr); clear HB HL BM RM BA; have HB := n0; have HL := n1; have BM := n2; have BA := n3; have RM := n4; clear n0 n1 n2 n3 n4; clear hk; clear hr hB' hcm; clear hy0 hy1 hy2 hy3 hu38; have hu38 := Try.underlying38; have hy0 : w3.cell? ⟨ga, 0, none⟩ = some (.bool false) := (blk_cell BA.out 0).trans rfl; have hy1 : w3.cell? ⟨ga, 1, none⟩ = some (.int .i64 a.f1) := (blk_cell BA.out 1).trans rfl; have hy2 : w3.cell? ⟨ga, 2, none⟩ = some (.string a.f2) := (blk_cell BA.out 2).trans rfl; have hy3 : w3.cell? ⟨ga, 3, none⟩ = some (.bool a.f3) := (blk_cell BA.out 3).trans rfl)
        )
            have hb := below_alloc (Below.refl w3.heap.size w3) (.cells #[.slice AL L'.length cL] 38 (0, 0))
            have hn := blk_new w3 (.cells #[.slice AL L'.length cL] 38 (0, 0))
            obtain ⟨gn, hg⟩ : ∃ g, w3.heap.size = g := ⟨_, rfl⟩
            rw [hg] at hn ⊢
            clear hg
            generalize w3.alloc (.cells #[.slice AL L'.length cL] 38 (0, 0)) = w4 at hb hn ⊢
            have n0 := Aside0.mk (below_then HB.out HB.out.size hb)
            have n1 := Aside0.mk (LA.below HL.out hb)
            have n2 := Aside0.mk (blk_below BM.out hb)
            have n3 := Aside0.mk (blk_below BA.out hb)
            have n4 := Aside0.mk (Kd.R_below RM.out hb)
            have n5 := Aside0.mk (hn)
            clear HB HL BM BA RM
            have HB := n0
            have HL := n1
            have BM := n2
            have BA := n3
            have RM := n4
            have BN := n5
            clear n0 n1 n2 n3 n4 n5
            clear hb
            clear hn
            clear hy0 hy1 hy2 hy3 hu38
            have hu38 := Try.underlying38
            have hy0 : w4.cell? ⟨ga, 0, none⟩ = some (.bool false) := (blk_cell BA.out 0).trans rfl
            have hy1 : w4.cell? ⟨ga, 1, none⟩ = some (.int .i64 a.f1) := (blk_cell BA.out 1).trans rfl
            have hy2 : w4.cell? ⟨ga, 2, none⟩ = some (.string a.f2) := (blk_cell BA.out 2).trans rfl
            have hy3 : w4.cell? ⟨ga, 3, none⟩ = some (.bool a.f3) := (blk_cell BA.out 3).trans rfl
            go_upto_region 17 with (first
        | (go_at_call 13; have hc := Ask_off gl a.f1 a.f2 a.f3 P w _ HL.out HB.out HI.out.small; rw [HPF.out] at hc; dsimp only at hc; refine hc.mono ?_; clear hc; rintro e_ w5 ⟨rfl, hL', hB', ho⟩; have n0 := Aside0.mk (hB'); have n1 := Aside0.mk (hL'); have n2 := Aside0.mk (blk_off BM.out ho (by decide) (by decide)); have n3 := Aside0.mk (blk_off BA.out ho (by decide) (by decide)); have n4 := Aside0.mk (R_off rfl (by decide) (by decide) RM.out ho); have n5 := Aside0.mk (blk_off BN.out ho (by decide) (by decide)); clear HB HL BM BA RM BN; have HB := n0; have HL := n1; have BM := n2; have BA := n3; have RM := n4; have BN := n5; clear n0 n1 n2 n3 n4 n5; clear hB' hL' ho; clear hy0 hy1 hy2 hy3 hu38; have hu38 := Try.underlying38; have hy0 : w5.cell? ⟨ga, 0, none⟩ = some (.bool false) := (blk_cell BA.out 0).trans rfl; have hy1 : w5.cell? ⟨ga, 1, none⟩ = some (.int .i64 a.f1) := (blk_cell BA.out 1).trans rfl; have hy2 : w5.cell? ⟨ga, 2, none⟩ = some (.string a.f2) := (blk_cell BA.out 2).trans rfl; have hy3 : w5.cell? ⟨ga, 3, none⟩ = some (.bool a.f3) := (blk_cell BA.out 3).trans rfl; have hcm : w5.cell? ⟨gm, 0, none⟩ = some (.slice AM L.length cM) := (blk_cell BM.out 0).trans rfl; have hcn : w5.cell? ⟨gn, 0, none⟩ = some (.slice AL L'.length cL) := (blk_cell BN.out 0).trans rfl; have hfm : w5.frozen? ⟨gm, 0, none⟩ = false := blk_frozen BM.out 0)
        )
            have hk := kt_set BM.out 0 (.slice AL L'.length cL)
            have hs := blk_set BM.out 0 (.slice AL L'.length cL)
            have hbs := below_set (j := 0) (v := .slice AL L'.length cL) HB.out GM.out
            clear BM BN hcm hcn hfm BA
            clear hy0 hy1 hy2 hy3 hu38
            generalize w5.setCell ⟨gm, 0, none⟩ (.slice AL L'.length cL) = w6 at hk hs hbs ⊢
            have n0 := Aside0.mk (hbs)
            have n1 := Aside0.mk (la_kt HL.out hk (by decide) (by decide) (by decide))
            have n2 := Aside0.mk (R_kt rfl (by decide) RM.out hk)
            have n3 := Aside0.mk (hs)
            clear HB HL RM
            have HB := n0
            have HL := n1
            have RM := n2
            have BM := n3
            clear n0 n1 n2 n3
            clear hk
            clear hs hbs
            go_wp2
            go_loopw [17] (fun x17 w' => ∃ k : Nat, k ≤ i + 1 ∧ x17 = .int .i64 (k : Int) ∧ Aside0 (LA w' w.heap.size gl P') ∧ Aside0 (Below w.heap.size w w') ∧ Aside0 (w'.heap[gm]? = some (.cells #[.slice AL L'.length cL] 38 (0, 0))) ∧ Aside0 (R69 w' w.heap.size AL cL L')) (fun x17 _ => i + 2 - (intOf x17).toNat)
            case atStart => exact ⟨0, by omega, rfl, HL, HB, BM, RM⟩
            case round =>
              clear HL HB BM RM
              obtain ⟨k, hk, rfl, HL, HB, BM, RM⟩ := hrel
              by_cases hki : k ≤ i
              · have hlt := HLT.out
                have hkl : k < l0.length := by omega
                obtain ⟨b, hxb⟩ : ∃ x, rd_T30 l0 (k : Int) = x := ⟨_, rfl⟩
                have HXB := Aside0.mk hxb
                have HKL := Aside0.mk hkl
                obtain ⟨hz0, hz1, hz2, hz3⟩ := act_at HR.out HB.out k hkl hxb
                clear hz0 hz1 hz3
                have s0 := eq_true (show (k : Int) < (l0.length : Int) by omega)
                have s1 := eq_true (show (0 : Int) ≤ (k : Int) by omega)
                have s2 := eq_true hkl
                have s3 := eq_true (show (k : Int) ≤ (i : Int) by omega)
                have hof := ref_of HI'.out HRL'.out (by have := HLL'.out; have := HFEW.out.1; omega) b.f2
                obtain ⟨⟨hs, hw⟩, hhs⟩ : ∃ x, holdsP b.f2 P' = x := ⟨_, rfl⟩
                obtain ⟨ws, hws⟩ : ∃ ws, waitsP b.f2 P' = ws := ⟨_, rfl⟩
                have hap := (apart_of HI'.out b.f2).2.2.2
                rw [hhs, hws] at hof hap
                dsimp only at hof hap
                rw [List.length_append] at hap
                obtain ⟨hof1, bb, hof2⟩ := hof
                have OF1 := Aside0.mk hof1
                have OF2 := Aside0.mk hof2
                have HHS := Aside0.mk hhs
                have HWS := Aside0.mk hws
                have HKI := Aside0.mk hki
                have HAP := Aside0.mk hap
                clear hap hof1 hof2 hhs hws hxb hkl hki hk hlt
                have hu38 := Try.underlying38
                go_upto_region 23 with (first
        | (go_at_call 17; have hc := Holds_la gl b.f2 P' _ _ HL.out HI'.out.small; rw [HHS.out] at hc; dsimp only at hc; refine hc.mono ?_; clear hc; rintro e_ w3 ⟨v_, rfl, ho_, hb⟩; obtain ⟨AH, cAH, ev_⟩ := Kd.R_slice ho_; subst ev_; have n0 := Aside0.mk (below_then HB.out HB.out.size hb); have n1 := Aside0.mk (LA.below HL.out hb); have n2 := Aside0.mk (blk_below BM.out hb); have n3 := Aside0.mk (Kd.R_below RM.out hb); have n4 := Aside0.mk (ho_); clear HB HL BM RM; have HB := n0; have HL := n1; have BM := n2; have RM := n3; have RH := n4; clear n0 n1 n2 n3 n4; clear hb; clear ho_; clear hz2; have hz2 := (act_at HR.out HB.out k HKL.out HXB.out).2.2.1)
        )
                have hb := below_drew1 (Below.refl w3.heap.size w3)
                have n0 := Aside0.mk (below_then HB.out HB.out.size hb)
                have n1 := Aside0.mk (LA.below HL.out hb)
                have n2 := Aside0.mk (blk_below BM.out hb)
                have n3 := Aside0.mk (Kd.R_below RM.out hb)
                have n4 := Aside0.mk (Kd.R_below RH.out hb)
                clear HB HL BM RM RH
                have HB := n0
                have HL := n1
                have BM := n2
                have RM := n3
                have RH := n4
                clear n0 n1 n2 n3 n4
                clear hb
                clear hz2
                have hz2 := (act_at HR.out HB.out k HKL.out HXB.out).2.2.1
                have hcm : w3.drew.cell? ⟨gm, 0, none⟩ = some (.slice AL L'.length cL) := (blk_cell BM.out 0).trans rfl
                refine start_ (n := 12) (S := fun w' => w'.cell? ⟨gm, 0, none⟩ = some (.slice AL L'.length cL) ∧ w'.cell? ⟨(ad.add (k * 4)).block, (ad.add (k * 4)).off + 2, none⟩ = some (.string b.f2)) (ds := []) #[false, false, false, false, false, false, false, false, false, false, false, false] (by kernel_rfl) rfl rfl ⟨hcm, hz2⟩ (fun hHeld => ?_)
                generalize w3.drew = wd at HB HL BM RM RH hcm hz2 hHeld ⊢
                refine pure_ (i := 1) (N := some 128) (v := ?_) (a' := ?_) #[false, true, false, false, false, false, false, false, false, false, false, false] rfl rfl (by kernel_rfl) (fun _ _ _ h => h) (Or.inl ⟨by rfl, ?_⟩) ?_ ?_
                rotate_left
                · intro w'
                  go_simp
                  with_reducible rfl
                rotate_left
                · simp only [Act.put, List.setIfInBounds_toArray, List.set_cons_zero, List.set_cons_succ, i64_w, i32_w, u8_w]
                  rfl
                refine pure_ (i := 2) (N := some 129) (v := ?_) (a' := ?_) #[false, true, true, false, false, false, false, false, false, false, false, false] rfl rfl (by kernel_rfl) (fun _ _ _ h => h) (Or.inl ⟨by rfl, ?_⟩) ?_ ?_
                rotate_left
                · intro w'
                  go_simp
                  with_reducible rfl
                rotate_left
                · simp only [Act.put, List.setIfInBounds_toArray, List.set_cons_zero, List.set_cons_succ, i64_w, i32_w, u8_w]
                  rfl
                refine pure_ (i := 3) (N := some 130) (v := ?_) (a' := ?_) #[false, true, true, true, false, false, false, false, false, false, false, false] rfl rfl (by kernel_rfl) (fun _ _ _ h => h) (Or.inl ⟨by rfl, ?_⟩) ?_ ?_
                rotate_left
                · intro w'
                  go_simp
                  with_reducible rfl
                rotate_left
                · simp only [Act.put, List.setIfInBounds_toArray, List.set_cons_zero, List.set_cons_succ, i64_w, i32_w, u8_w]
                  rfl
                refine pure_ (i := 4) (N := some 131) (v := ?_) (a' := ?_) #[false, true, true, true, true, false, false, false, false, false, false, false] rfl rfl (by kernel_rfl) (fun _ _ _ h => h) (Or.inl ⟨by rfl, ?_⟩) ?_ ?_
                rotate_left
                · intro w'
                  go_simp
                  with_reducible rfl
                rotate_left
                · simp only [Act.put, List.setIfInBounds_toArray, List.set_cons_zero, List.set_cons_succ, i64_w, i32_w, u8_w]
                  rfl
                refine take_ (i := 0) (N := some 127) (v := ?_) (a' := ?_) #[true, true, true, true, true, false, false, false, false, false, false, false] rfl rfl (by kernel_rfl) (fun _ _ _ h => h) (Or.inl ⟨by rfl, ?_⟩) hHeld ?_ ?_
                rotate_left
                · rintro w' ⟨s0, s1⟩
                  go_simp
                  with_reducible rfl
                rotate_left
                · simp only [Act.put, List.setIfInBounds_toArray, List.set_cons_zero, List.set_cons_succ, i64_w, i32_w, u8_w]
                  rfl
                refine take_ (i := 5) (N := some 132) (v := ?_) (a' := ?_) #[true, true, true, true, true, true, false, false, false, false, false, false] rfl rfl (by kernel_rfl) (fun _ _ _ h => h) (Or.inl ⟨by rfl, ?_⟩) hHeld ?_ ?_
                rotate_left
                · rintro w' ⟨s0, s1⟩
                  go_simp
                  with_reducible rfl
                rotate_left
                · simp only [Act.put, List.setIfInBounds_toArray, List.set_cons_zero, List.set_cons_succ, i64_w, i32_w, u8_w]
                  rfl
                refine one_ (i := 6) (N := some 133) #[true, true, true, true, true, true, true, false, false, false, false, false] rfl rfl (by kernel_rfl) (by decide) (fun K hK => ?_)
                refine goes_ Try.func18 (by kernel_rfl) rfl #[.agg #[.slice AL L'.length cL], .string b.f2, .bool true] (by rfl) rfl rfl (by simp only [List.map_toArray, List.map_cons, List.map_nil]; rfl) ?_
                have hcall := valiseref18_Locks_Of.calls 5000 AL cL L' b.f2 true hs hw _ (Kd.R_reads' RM.out).2.2 (Kd.R_reads' RM.out).2.1 OF1.out
                with_reducible refine (hcall).mono ?_
                rintro e_ w4 ⟨v_, rfl, ho_, hb⟩
                refine ⟨_, rfl, ?_⟩
                clear hcall hcm
                obtain ⟨AP, cAP, ev_⟩ := Kd.R_slice ho_
                subst ev_
                have n0 := Aside0.mk (below_then HB.out HB.out.size hb)
                have n1 := Aside0.mk (LA.below HL.out hb)
                have n2 := Aside0.mk (blk_below BM.out hb)
                have n3 := Aside0.mk (Kd.R_below RM.out hb)
                have n4 := Aside0.mk (Kd.R_below RH.out hb)
                have n5 := Aside0.mk (ho_)
                clear HB HL BM RM RH
                have HB := n0
                have HL := n1
                have BM := n2
                have RM := n3
                have RH := n4
                have RP := n5
                clear n0 n1 n2 n3 n4 n5
                clear hb
                clear ho_
                clear hz2
                have hz2 := (act_at HR.out HB.out k HKL.out HXB.out).2.2.1
                have hcm : w4.cell? ⟨gm, 0, none⟩ = some (.slice AL L'.length cL) := (blk_cell BM.out 0).trans rfl
                refine hK.out _ _ ⟨hcm, hz2⟩ (fun hHeld => ?_)
                clear hK K
                refine norm_ (a' := ?_) ?_ ?_
                rotate_left
                · show Act.put _ (some 133) _ = _
                  simp only [Act.put, List.setIfInBounds_toArray, List.set_cons_zero, List.set_cons_succ, i64_w, i32_w, u8_w]
                  rfl
                refine pure_ (i := 7) (N := some 126) (v := ?_) (a' := ?_) #[true, true, true, true, true, true, true, true, false, false, false, false] rfl rfl (by kernel_rfl) (fun _ _ _ h => h) (Or.inl ⟨by rfl, ?_⟩) ?_ ?_
                rotate_left
                · intro w'
                  go_simp
                  with_reducible rfl
                rotate_left
                · simp only [Act.put, List.setIfInBounds_toArray, List.set_cons_zero, List.set_cons_succ, i64_w, i32_w, u8_w]
                  rfl
                refine pure_ (i := 8) (N := some 134) (v := ?_) (a' := ?_) #[true, true, true, true, true, true, true, true, true, false, false, false] rfl rfl (by kernel_rfl) (fun _ _ _ h => h) (Or.inl ⟨by rfl, ?_⟩) ?_ ?_
                rotate_left
                · intro w'
                  go_simp
                  with_reducible rfl
                rotate_left
                · simp only [Act.put, List.setIfInBounds_toArray, List.set_cons_zero, List.set_cons_succ, i64_w, i32_w, u8_w]
                  rfl
                refine pure_ (i := 9) (N := some 135) (v := ?_) (a' := ?_) #[true, true, true, true, true, true, true, true, true, true, false, false] rfl rfl (by kernel_rfl) (fun _ _ _ h => h) (Or.inl ⟨by rfl, ?_⟩) ?_ ?_
                rotate_left
                · intro w'
                  go_simp
                  with_reducible rfl
                rotate_left
                · simp only [Act.put, List.setIfInBounds_toArray, List.set_cons_zero, List.set_cons_succ, i64_w, i32_w, u8_w]
                  rfl
                refine pure_ (i := 10) (N := some 20) (v := ?_) (a' := ?_) #[true, true, true, true, true, true, true, true, true, true, true, false] rfl rfl (by kernel_rfl) (fun _ _ _ h => h) (Or.inl ⟨by rfl, ?_⟩) ?_ ?_
                rotate_left
                · intro w'
                  go_simp
                  with_reducible rfl
                rotate_left
                · simp only [Act.put, List.setIfInBounds_toArray, List.set_cons_zero, List.set_cons_succ, i64_w, i32_w, u8_w]
                  rfl
                refine pure_ (i := 11) (N := some 21) (v := ?_) (a' := ?_) #[true, true, true, true, true, true, true, true, true, true, true, true] rfl rfl (by kernel_rfl) (fun _ _ _ h => h) (Or.inl ⟨by rfl, ?_⟩) ?_ ?_
                rotate_left
                · intro w'
                  go_simp
                  with_reducible rfl
                rotate_left
                · simp only [Act.put, List.setIfInBounds_toArray, List.set_cons_zero, List.set_cons_succ, i64_w, i32_w, u8_w]
                  rfl
                refine done_ (by kernel_rfl) ?_
                clear hcm
                go_upto_region 24 with (fail)
                have hb := below_drew1 (Below.refl w4.heap.size w4)
                have n0 := Aside0.mk (below_then HB.out HB.out.size hb)
                have n1 := Aside0.mk (LA.below HL.out hb)
                have n2 := Aside0.mk (blk_below BM.out hb)
                have n3 := Aside0.mk (Kd.R_below RM.out hb)
                have n4 := Aside0.mk (Kd.R_below RH.out hb)
                have n5 := Aside0.mk (Kd.R_below RP.out hb)
                clear HB HL BM RM RH RP
                have HB := n0
                have HL := n1
                have BM := n2
                have RM := n3
                have RH := n4
                have RP := n5
                clear n0 n1 n2 n3 n4 n5
                clear hb
                clear hz2
                have hz2 := (act_at HR.out HB.out k HKL.out HXB.out).2.2.1
                have hcm : w4.drew.cell? ⟨gm, 0, none⟩ = some (.slice AL L'.length cL) := (blk_cell BM.out 0).trans rfl
                refine start_ (n := 12) (S := fun w' => w'.cell? ⟨gm, 0, none⟩ = some (.slice AL L'.length cL) ∧ w'.cell? ⟨(ad.add (k * 4)).block, (ad.add (k * 4)).off + 2, none⟩ = some (.string b.f2)) (ds := []) #[false, false, false, false, false, false, false, false, false, false, false, false] (by kernel_rfl) rfl rfl ⟨hcm, hz2⟩ (fun hHeld => ?_)
                generalize w4.drew = wd at HB HL BM RM RH RP hcm hz2 hHeld ⊢
                refine pure_ (i := 1) (N := some 138) (v := ?_) (a' := ?_) #[false, true, false, false, false, false, false, false, false, false, false, false] rfl rfl (by kernel_rfl) (fun _ _ _ h => h) (Or.inl ⟨by rfl, ?_⟩) ?_ ?_
                rotate_left
                · intro w'
                  go_simp
                  with_reducible rfl
                rotate_left
                · simp only [Act.put, List.setIfInBounds_toArray, List.set_cons_zero, List.set_cons_succ, i64_w, i32_w, u8_w]
                  rfl
                refine pure_ (i := 2) (N := some 139) (v := ?_) (a' := ?_) #[false, true, true, false, false, false, false, false, false, false, false, false] rfl rfl (by kernel_rfl) (fun _ _ _ h => h) (Or.inl ⟨by rfl, ?_⟩) ?_ ?_
                rotate_left
                · intro w'
                  go_simp
                  with_reducible rfl
                rotate_left
                · simp only [Act.put, List.setIfInBounds_toArray, List.set_cons_zero, List.set_cons_succ, i64_w, i32_w, u8_w]
                  rfl
                refine pure_ (i := 3) (N := some 140) (v := ?_) (a' := ?_) #[false, true, true, true, false, false, false, false, false, false, false, false] rfl rfl (by kernel_rfl) (fun _ _ _ h => h) (Or.inl ⟨by rfl, ?_⟩) ?_ ?_
                rotate_left
                · intro w'
                  go_simp
                  with_reducible rfl
                rotate_left
                · simp only [Act.put, List.setIfInBounds_toArray, List.set_cons_zero, List.set_cons_succ, i64_w, i32_w, u8_w]
                  rfl
                refine pure_ (i := 4) (N := some 141) (v := ?_) (a' := ?_) #[false, true, true, true, true, false, false, false, false, false, false, false] rfl rfl (by kernel_rfl) (fun _ _ _ h => h) (Or.inl ⟨by rfl, ?_⟩) ?_ ?_
                rotate_left
                · intro w'
                  go_simp
                  with_reducible rfl
                rotate_left
                · simp only [Act.put, List.setIfInBounds_toArray, List.set_cons_zero, List.set_cons_succ, i64_w, i32_w, u8_w]
                  rfl
                refine take_ (i := 0) (N := some 137) (v := ?_) (a' := ?_) #[true, true, true, true, true, false, false, false, false, false, false, false] rfl rfl (by kernel_rfl) (fun _ _ _ h => h) (Or.inl ⟨by rfl, ?_⟩) hHeld ?_ ?_
                rotate_left
                · rintro w' ⟨s0, s1⟩
                  go_simp
                  with_reducible rfl
                rotate_left
                · simp only [Act.put, List.setIfInBounds_toArray, List.set_cons_zero, List.set_cons_succ, i64_w, i32_w, u8_w]
                  rfl
                refine take_ (i := 5) (N := some 142) (v := ?_) (a' := ?_) #[true, true, true, true, true, true, false, false, false, false, false, false] rfl rfl (by kernel_rfl) (fun _ _ _ h => h) (Or.inl ⟨by rfl, ?_⟩) hHeld ?_ ?_
                rotate_left
                · rintro w' ⟨s0, s1⟩
                  go_simp
                  with_reducible rfl
                rotate_left
                · simp only [Act.put, List.setIfInBounds_toArray, List.set_cons_zero, List.set_cons_succ, i64_w, i32_w, u8_w]
                  rfl
                refine one_ (i := 6) (N := some 143) #[true, true, true, true, true, true, true, false, false, false, false, false] rfl rfl (by kernel_rfl) (by decide) (fun K hK => ?_)
                refine goes_ Try.func18 (by kernel_rfl) rfl #[.agg #[.slice AL L'.length cL], .string b.f2, .bool false] (by rfl) rfl rfl (by simp only [List.map_toArray, List.map_cons, List.map_nil]; rfl) ?_
                have hcall := valiseref18_Locks_Of.calls 5000 AL cL L' b.f2 false ws bb _ (Kd.R_reads' RM.out).2.2 (Kd.R_reads' RM.out).2.1 OF2.out
                with_reducible refine (hcall).mono ?_
                rintro e_ w5 ⟨v_, rfl, ho_, hb⟩
                refine ⟨_, rfl, ?_⟩
                clear hcall hcm
                obtain ⟨AS, cAS, ev_⟩ := Kd.R_slice ho_
                subst ev_
                have n0 := Aside0.mk (below_then HB.out HB.out.size hb)
                have n1 := Aside0.mk (LA.below HL.out hb)
                have n2 := Aside0.mk (blk_below BM.out hb)
                have n3 := Aside0.mk (Kd.R_below RM.out hb)
                have n4 := Aside0.mk (Kd.R_below RH.out hb)
                have n5 := Aside0.mk (Kd.R_below RP.out hb)
                have n6 := Aside0.mk (ho_)
                clear HB HL BM RM RH RP
                have HB := n0
                have HL := n1
                have BM := n2
                have RM := n3
                have RH := n4
                have RP := n5
                have RS := n6
                clear n0 n1 n2 n3 n4 n5 n6
                clear hb
                clear ho_
                clear hz2
                have hz2 := (act_at HR.out HB.out k HKL.out HXB.out).2.2.1
                have hcm : w5.cell? ⟨gm, 0, none⟩ = some (.slice AL L'.length cL) := (blk_cell BM.out 0).trans rfl
                refine hK.out _ _ ⟨hcm, hz2⟩ (fun hHeld => ?_)
                clear hK K
                refine norm_ (a' := ?_) ?_ ?_
                rotate_left
                · show Act.put _ (some 143) _ = _
                  simp only [Act.put, List.setIfInBounds_toArray, List.set_cons_zero, List.set_cons_succ, i64_w, i32_w, u8_w]
                  rfl
                refine pure_ (i := 7) (N := some 136) (v := ?_) (a' := ?_) #[true, true, true, true, true, true, true, true, false, false, false, false] rfl rfl (by kernel_rfl) (fun _ _ _ h => h) (Or.inl ⟨by rfl, ?_⟩) ?_ ?_
                rotate_left
                · intro w'
                  go_simp
                  with_reducible rfl
                rotate_left
                · simp only [Act.put, List.setIfInBounds_toArray, List.set_cons_zero, List.set_cons_succ, i64_w, i32_w, u8_w]
                  rfl
                refine pure_ (i := 8) (N := some 144) (v := ?_) (a' := ?_) #[true, true, true, true, true, true, true, true, true, false, false, false] rfl rfl (by kernel_rfl) (fun _ _ _ h => h) (Or.inl ⟨by rfl, ?_⟩) ?_ ?_
                rotate_left
                · intro w'
                  go_simp
                  with_reducible rfl
                rotate_left
                · simp only [Act.put, List.setIfInBounds_toArray, List.set_cons_zero, List.set_cons_succ, i64_w, i32_w, u8_w]
                  rfl
                refine pure_ (i := 9) (N := some 145) (v := ?_) (a' := ?_) #[true, true, true, true, true, true, true, true, true, true, false, false] rfl rfl (by kernel_rfl) (fun _ _ _ h => h) (Or.inl ⟨by rfl, ?_⟩) ?_ ?_
                rotate_left
                · intro w'
                  go_simp
                  with_reducible rfl
                rotate_left
                · simp only [Act.put, List.setIfInBounds_toArray, List.set_cons_zero, List.set_cons_succ, i64_w, i32_w, u8_w]
                  rfl
                refine pure_ (i := 10) (N := some 22) (v := ?_) (a' := ?_) #[true, true, true, true, true, true, true, true, true, true, true, false] rfl rfl (by kernel_rfl) (fun _ _ _ h => h) (Or.inl ⟨by rfl, ?_⟩) ?_ ?_
                rotate_left
                · intro w'
                  go_simp
                  with_reducible rfl
                rotate_left
                · simp only [Act.put, List.setIfInBounds_toArray, List.set_cons_zero, List.set_cons_succ, i64_w, i32_w, u8_w]
                  rfl
                refine pure_ (i := 11) (N := some 23) (v := ?_) (a' := ?_) #[true, true, true, true, true, true, true, true, true, true, true, true] rfl rfl (by kernel_rfl) (fun _ _ _ h => h) (Or.inl ⟨by rfl, ?_⟩) ?_ ?_
                rotate_left
                · intro w'
                  go_simp
                  with_reducible rfl
                rotate_left
                · simp only [Act.put, List.setIfInBounds_toArray, List.set_cons_zero, List.set_cons_succ, i64_w, i32_w, u8_w]
                  rfl
                refine done_ (by kernel_rfl) ?_
                go_wp2_with (first
        | (go_at_call 15; have hc := valiseref04_Same.calls 5000 AH cAH hs AP cAP hs true _ (Kd.R_reads' RH.out).2.2 (Kd.R_reads' RH.out).2.1 (Kd.R_reads' RP.out).2.2 (Kd.R_reads' RP.out).2.1 (same_self (by have := HAP.out; omega)); (with_reducible refine hc.mono ?_); clear hc; rintro e_ ws_ ⟨rfl, hd⟩; have hb := hd.below; clear hd; have n0 := Aside0.mk (below_then HB.out HB.out.size hb); have n1 := Aside0.mk (LA.below HL.out hb); have n2 := Aside0.mk (blk_below BM.out hb); have n3 := Aside0.mk (Kd.R_below RM.out hb); have n4 := Aside0.mk (Kd.R_below RH.out hb); have n5 := Aside0.mk (Kd.R_below RP.out hb); have n6 := Aside0.mk (Kd.R_below RS.out hb); clear HB HL BM RM RH RP RS; have HB := n0; have HL := n1; have BM := n2; have RM := n3; have RH := n4; have RP := n5; have RS := n6; clear n0 n1 n2 n3 n4 n5 n6; clear hb; clear hz2; have hz2 := (act_at HR.out HB.out k HKL.out HXB.out).2.2.1)
        | (go_at_call 11; have hc := Waits_la gl b.f2 P' _ _ HL.out HI'.out.small; rw [HWS.out] at hc; refine hc.mono ?_; clear hc; rintro e_ w7 ⟨v_, rfl, ho_, hb⟩; obtain ⟨AW, cAW, ev_⟩ := Kd.R_slice ho_; subst ev_; have n0 := Aside0.mk (below_then HB.out HB.out.size hb); have n1 := Aside0.mk (LA.below HL.out hb); have n2 := Aside0.mk (blk_below BM.out hb); have n3 := Aside0.mk (Kd.R_below RM.out hb); have n4 := Aside0.mk (Kd.R_below RH.out hb); have n5 := Aside0.mk (Kd.R_below RP.out hb); have n6 := Aside0.mk (Kd.R_below RS.out hb); have n7 := Aside0.mk (ho_); clear HB HL BM RM RH RP RS; have HB := n0; have HL := n1; have BM := n2; have RM := n3; have RH := n4; have RP := n5; have RS := n6; have RW := n7; clear n0 n1 n2 n3 n4 n5 n6 n7; clear hb; clear ho_; clear hz2; have hz2 := (act_at HR.out HB.out k HKL.out HXB.out).2.2.1)
        | (go_at_call 15; have hc := valiseref04_Same.calls 5000 AW cAW ws AS cAS ws true _ (Kd.R_reads' RW.out).2.2 (Kd.R_reads' RW.out).2.1 (Kd.R_reads' RS.out).2.2 (Kd.R_reads' RS.out).2.1 (same_self (by have := HAP.out; omega)); (with_reducible refine hc.mono ?_); clear hc; rintro e_ ws_ ⟨rfl, hd⟩; have hb := hd.below; clear hd; have n0 := Aside0.mk (below_then HB.out HB.out.size hb); have n1 := Aside0.mk (LA.below HL.out hb); have n2 := Aside0.mk (blk_below BM.out hb); have n3 := Aside0.mk (Kd.R_below RM.out hb); have n4 := Aside0.mk (Kd.R_below RH.out hb); have n5 := Aside0.mk (Kd.R_below RP.out hb); have n6 := Aside0.mk (Kd.R_below RS.out hb); have n7 := Aside0.mk (Kd.R_below RW.out hb); clear HB HL BM RM RH RP RS RW; have HB := n0; have HL := n1; have BM := n2; have RM := n3; have RH := n4; have RP := n5; have RS := n6; have RW := n7; clear n0 n1 n2 n3 n4 n5 n6 n7; clear hb; clear hz2; have hz2 := (act_at HR.out HB.out k HKL.out HXB.out).2.2.1)
        )
                go_roundw
                case rel => have b1 := HFEW.out.1; have b2 := HLT.out; have b3 := HKI.out; exact ⟨k + 1, by omega, val_next _ (by omega), HL, HB, BM, RM⟩
                case measure => have b1 := HFEW.out.1; have b2 := HLT.out; have b3 := HKI.out; rw [nat_next _ (by omega)]; simp only [intOf, Int.toNat_natCast]; omega
              · have s3 := eq_false (show ¬ (k : Int) ≤ (i : Int) by omega)
                clear hk hki
                go_wp2
                go_roundw
                case rel => have b1 := HFEW.out.1; have b2 := HLT.out; exact ⟨i + 1, P', L', AL, cL, by omega, val_next _ (by omega), HLL'.out, HI', HRL', HL, HB, BM, RM⟩
                case measure => have b1 := HFEW.out.1; have b2 := HLT.out; rw [nat_next _ (by omega)]; simp only [intOf, Int.toNat_natCast]; omega
      · have qe := eq_false (show ¬ (i : Int) < (l0.length : Int) by omega)
        go_wp2_with (first
        | (go_at_call 10; refine (lives_calls _).mono ?_; rintro e_ w9 ⟨rfl, hb⟩; have n0 := Aside0.mk (below_then HB.out HB.out.size hb); have n1 := Aside0.mk (LA.below HL.out hb); have n2 := Aside0.mk (blk_below BM.out hb); have n3 := Aside0.mk (Kd.R_below RM.out hb); clear HB HL BM RM; have HB := n0; have HL := n1; have BM := n2; have RM := n3; clear n0 n1 n2 n3; clear hb)
        )
        go_ret
        exact ⟨rfl, HB.out⟩
end
end Go.Proofs.Ytdhabfjfpbdjfaa.Pr
