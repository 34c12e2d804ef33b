-- Texts by hand and by programs of this session, joined (wip/tool/merge.py).
import Derived.RangeFuncNested
import Derived.RangeFuncBound
import Derived.RangeFuncCalls
import Derived.RangeFuncLeaves
import Derived.RangeFuncBox
import Derived.Shelf.Abstract
import Derived.Shelf.RegionOpen
import Derived.OwnWalkIn
import Derived.TacticsInMore
import Derived.LoopNIn
import Derived.LoopIn
import Derived.Test.YtdgpcjhincgijaaMLT4
import Derived.Test.YtdgpcjhincgijaaMLT10
-- YtdgpcjhincgijaaLm5
namespace Go.Proofs.Ytdgpcjhincgijaa.Pr
open Go.RowKit Go.Shelf Go.Proofs.YtdgpcjhincgijaaW.PrintWords Go.Proofs.YtdgpcjhincgijaaW.PrintLast Go.Proofs.YtdgpcjhincgijaaW.PrintMore
set_option linter.unusedVariables false
set_option linter.unusedSimpArgs false
theorem sing_bnd {l : List Int} {d : List G44} (hb : ∀ k : Nat, k < l.length → 0 ≤ l.getD k 0 ∧ l.getD k 0 ≤ 4294967295) (hs : d.map pl = singL l l.length) : ∀ x ∈ d, 0 ≤ x.f0 ∧ x.f0 ≤ 4294967296 ∧ x.l.length ≤ 1 := fun x hx => by
  have h : pl x ∈ singL l l.length := by rw [← hs]; exact List.mem_map.2 ⟨x, hx, rfl⟩
  obtain ⟨j, hj, e, _⟩ := singL_mem h
  have := hb j hj
  unfold pl at e
  injection e with e1 e2
  rw [e2]
  exact ⟨by omega, by omega, Nat.le_refl _⟩
theorem sing_dm {l : List Int} {d : List G44} (hb : ∀ k : Nat, k < l.length → 0 ≤ l.getD k 0 ∧ l.getD k 0 ≤ 4294967295) (hs : d.map pl = singL l l.length) : ∀ x ∈ d, PDm x := fun x hx => by
  have h : pl x ∈ singL l l.length := by rw [← hs]; exact List.mem_map.2 ⟨x, hx, rfl⟩
  obtain ⟨j, hj, e, _⟩ := singL_mem h
  have := hb j hj
  unfold pl at e
  injection e with e1 e2
  unfold PDm
  omega
theorem often_at {l : List Int} (h : oftenS l = true) : ∀ k : Nat, k < l.length → 0 ≤ l.getD k 0 ∧ l.getD k 0 ≤ 4294967295 := fun k hk => by
  unfold oftenS at h
  rw [Bool.and_eq_true] at h
  have h2 : badL l = false := by simpa using h.2
  unfold badL at h2
  rw [List.any_eq_false] at h2
  have := h2 _ (List.getElem_mem hk)
  unfold badF at this
  rw [List.getD_eq_getElem?_getD, List.getElem?_eq_getElem hk]
  simp at this ⊢
  omega
section
attribute [local go_sem] Oper.semAt_some
/-- What Lengths tells: the number, and the row. -/
def LenPost (l : List Int) (most : Int) (w : World) (e : Ending) (w' : World) : Prop := ∃ (v : Value) (er : Int) (r : List Int), e = .returned (.tuple #[v, .int .i64 er]) ∧ Kd.R (Kd.int .i64) 3 w' w.heap.size (fun _ => True) v r ∧ Below w.heap.size w w' ∧ LenIs l most er r
set_option maxHeartbeats 16000000 in
set_option maxRecDepth 1000000 in
theorem lengths_calls (A : Option Addr) (c : Nat) (l : List Int) (most : Int) (w : World) (hr : (Kd.int .i64).C w A l.length l) (hc : l.length ≤ c) : Calls Try.prog 9 #[.slice A l.length c, .int .i64 most] w (LenPost l most w) := by
  refine (callsIn_wide (n := 3)).1 ?_
  refine callsIn_of_wp_marks Try.func9 rfl trivial ?_ rfl
  refine wpIn_wide.2 ?_
  simp only [Try.ntmps9, List.size_toArray, List.length_cons, List.length_nil, Nat.reduceAdd, Nat.reduceSub, Array.replicate_succ, Array.replicate_zero, List.push_toArray, List.append_toArray, List.nil_append, List.cons_append]
  have hu44 := Try.underlying44
  have HR := Aside0.mk hr
  clear hr
  by_cases hof : oftenS l = true
  · by_cases h1 : most < 1
    · have q1 := eq_true h1
      go_wp2_with (go_at_call 19; have hcc := often_calls A c l _ HR.out; rw [hof] at hcc; refine hcc.mono ?_; clear hcc; rintro e_ w3 ⟨rfl, hw3⟩; have hw4 := hw3.symm; subst hw4; clear hw3)
      show LeavesInM _ _ _ _ _ _ [] .returning _
      exact ⟨_, results_tmp2 rfl _ _ _, _, _, [], rfl, Kd.R_nil _ _ _ _ _, Below.refl _ _, lenIs_arg (fun hh => absurd hh.2.1 (by omega))⟩
    · have q1 := eq_false h1
      by_cases h2 : most > 15
      · have q2 := eq_true h2
        have q3 := eq_true (show (15 : Int) < most from h2)
        go_wp2_with (go_at_call 19; have hcc := often_calls A c l _ HR.out; rw [hof] at hcc; refine hcc.mono ?_; clear hcc; rintro e_ w3 ⟨rfl, hw3⟩; have hw4 := hw3.symm; subst hw4; clear hw3)
        show LeavesInM _ _ _ _ _ _ [] .returning _
        exact ⟨_, results_tmp2 rfl _ _ _, _, _, [], rfl, Kd.R_nil _ _ _ _ _, Below.refl _ _, lenIs_arg (fun hh => absurd hh.2.2 (by omega))⟩
      · have q2 := eq_false h2
        have q3 := eq_false (show ¬ (15 : Int) < most from h2)
        obtain ⟨m, rfl⟩ : ∃ m : Nat, most = (m : Int) := ⟨most.toNat, by omega⟩
        have HM := Aside0.mk (show 1 ≤ m ∧ m ≤ 15 by omega)
        obtain ⟨hl1, hl2⟩ : 1 ≤ l.length ∧ l.length ≤ 288 := by
          unfold oftenS at hof
          rw [Bool.and_eq_true] at hof
          exact of_decide_eq_true hof.1
        have HLL := Aside0.mk (show 1 ≤ l.length ∧ l.length ≤ 288 from ⟨hl1, hl2⟩)
        have HOF := Aside0.mk hof
        have HNB := Aside0.mk (show ∀ k : Nat, k < l.length → 0 ≤ l.getD k 0 ∧ l.getD k 0 ≤ 4294967295 from often_at hof)
        clear h1 h2 hl1 hl2
        go_wp2_with (go_at_call 19; have hcc := often_calls A c l _ HR.out; rw [hof] at hcc; refine hcc.mono ?_; clear hcc; rintro e_ w3 ⟨rfl, hw3⟩; have hw4 := hw3.symm; subst hw4; clear hw3)
        clear hof q1 q2 q3
        go_loopw [6, 31] (fun x6 x31 w' => ∃ (k : Nat) (A6 : Option Addr) (c6 : Nat) (d : List G44), k ≤ l.length ∧ x31 = .int .i64 (k : Int) ∧ x6 = .slice A6 d.length c6 ∧ d.length ≤ k ∧ Aside0 (Kd.R kG 44 w' w.heap.size (fun _ => True) (.slice A6 d.length c6) d) ∧ Aside0 (d.map pl = singL l k) ∧ Aside0 (InAll w' d) ∧ Aside0 (Below w.heap.size w w')) (fun _ x31 _ => l.length + 1 - (intOf x31).toNat)
        case atStart => exact ⟨0, none, 0, [], by omega, rfl, rfl, by simp, ⟨Kd.R_nil _ _ _ _ _⟩, ⟨rfl⟩, ⟨fun g hg => by cases hg⟩, ⟨Below.refl _ _⟩⟩
        case round =>
          obtain ⟨k, A6, c6, d, hk, rfl, rfl, hdk, HD, HS, HI, HB⟩ := hrel
          by_cases hlt : k < l.length
          · obtain ⟨ad, ead, hx0⟩ := Kd.at_int (Kd.C_below HR.out HB.out) (k : Int) (by omega) (by omega)
            subst ead
            rw [Int.toNat_natCast] at hx0
            obtain ⟨x, hx⟩ : ∃ x, l.getD k 0 = x := ⟨_, rfl⟩
            rw [rd_getD, hx] at hx0
            have HSS := Aside0.mk (singL_succ l k)
            have hnb := HNB.out k hlt
            rw [hx] at HSS hnb
            have q0 := eq_true (show (k : Int) < (l.length : Int) by omega)
            have q1 := eq_true (show (0 : Int) ≤ (k : Int) by omega)
            have q2 := eq_true hlt
            have HK := Aside0.mk (show k < l.length ∧ d.length ≤ k by omega)
            by_cases hpos : x > 0
            · have p1 := eq_true (show (0 : Int) < x from hpos)
              rw [if_pos hpos] at HSS
              clear hk hdk hlt hx hpos hnb
              go_wp2_with (first
        | ((with_reducible refine gate_dst (N := 41) rfl ?_); refine Kd.R_lit (Kd.int .i64) (w0 := wr) wr.heap.size 3 ?hg (N := 41) ?hd (xs := ([(k : Int)] : List Int)) (inner := [.int .i64 (k : Int)]) (ok := fun _ => True) (okp := fun _ => True) ?hr ?hp (fun _ hk => hk) trivial (Below.refl _ _) (Nat.le_refl _) (show 1 ≤ 9223372036854775807 by omega) ?_; (case hd => rfl); (case hg => rfl); (case hr => (go_simp; first | done | rfl)); (case hp => exact (Reps.snoc (Reps.none _ _) rfl rfl)); intro v1 w1 ho hb hg hat; obtain ⟨A1, d1, ev_⟩ := Kd.R_slice ho; subst ev_; have hin : InAt w1 ⟨x, A1, 1, d1, [(k : Int)]⟩ := ⟨rfl, (Kd.R_reads' ho).2.2, fun ad e => Kd.R_typed ho ad.block (by rw [show A1 = some ad from e]; rfl)⟩; have n0 := Aside0.mk (hin); have n1 := Aside0.mk (Kd.R_below HD.out hb); have n2 := Aside0.mk (HI.out.below hb); have n3 := Aside0.mk (below_then HB.out HB.out.size hb); clear HD HI HB; have HN := n0; have HD := n1; have HI := n2; have HB := n3; clear n0 n1 n2 n3; clear hin ho hb hg hat)
        | ((with_reducible refine gate_dst (N := 43) rfl ?_); refine Kd.R_lit kG (w0 := w1) w1.heap.size 44 ?hg (N := 43) ?hd (xs := ([(⟨x, A1, 1, d1, [(k : Int)]⟩ : G44)] : List G44)) (inner := [.int .i64 x, .slice A1 1 d1]) (ok := fun _ => True) (okp := fun _ => True) ?hr ?hp (fun _ hk => hk) trivial (Below.refl _ _) (Nat.le_refl _) (show 1 ≤ 9223372036854775807 by omega) ?_; (case hd => rfl); (case hg => rfl); (case hr => (go_simp; first | done | rfl)); (case hp => exact (Reps.snoc (Reps.none _ _) (kG_mkM _ _ _ ⟨x, A1, 1, d1, [(k : Int)]⟩) rfl)); intro v2 w2 ho hb hg hat; obtain ⟨A2, d2, ev_⟩ := Kd.R_slice ho; subst ev_; have n0 := Aside0.mk ((Kd.R_reads' ho).2.2); have n1 := Aside0.mk (HN.out.below hb); have n2 := Aside0.mk (Kd.R_below HD.out hb); have n3 := Aside0.mk (HI.out.below hb); have n4 := Aside0.mk (below_then HB.out HB.out.size hb); clear HN HD HI HB; have HC2 := n0; have HN := n1; have HD := n2; have HI := n3; have HB := n4; clear n0 n1 n2 n3 n4; clear ho hb hg hat)
        | ((with_reducible refine gate_builtin (b := .append) (xs := #[.tmp 38, .tmp 43]) rfl ?_); at_builtin; refine Kd.R_append_rows kG (w0 := w) w.heap.size rfl (.tmp 38) (.tmp 43) 42 44 (.agg #[(.int .i64 0), (.slice none 0 0)]) 32 rfl Try.underlying42 info44 rfl (by decide) (by omega) (.slice A6 d.length c6) d [(⟨x, A1, 1, d1, [(k : Int)]⟩ : G44)] A2 _ _ (fun _ => True) (fun _ => False) rfl rfl ?aO ?aR (fun _ _ h => h) (fun _ h => h.elim) ?aF ?aB ?aS ?aL ?_; (case aR => exact HC2.out); (case aB => exact HB.out); (case aF => exact fun _ _ => trivial); (case aO => exact HD.out); (case aS => exact HB.out.size); (case aL => have := HK.out; have := HLL.out; simp; omega); intro v3 w4 ho hb hg hat; have hty := Kd.R_typed HD.out; obtain ⟨A3, d3, ev_⟩ := Kd.R_slice ho; subst ev_; have n0 := Aside0.mk ((HI.out.append (fun g hg' => by rw [List.mem_singleton] at hg'; subst hg'; exact HN.out)).grown hg hty); have n1 := Aside0.mk (ho); have n2 := Aside0.mk (hb); clear HD HI HB HN HC2; have HI := n0; have HD := n1; have HB := n2; clear n0 n1 n2; clear ho hb hg hat hty)
        )
              go_roundw
              case rel => exact ⟨k + 1, A3, d3, _, by have := HK.out; omega, val_next _ (by have := HK.out; have := HLL.out; omega), by simp, by rw [List.length_append]; have := HK.out; simp; omega, HD, ⟨by rw [List.map_append, HS.out, HSS.out]; rfl⟩, HI, HB⟩
              case measure => rw [nat_next _ (by have := HK.out; have := HLL.out; omega)]; simp only [intOf, Int.toNat_natCast]; have := HK.out; omega
            · have p1 := eq_false (show ¬ (0 : Int) < x from hpos)
              rw [if_neg hpos] at HSS
              clear hk hdk hlt hx hpos hnb
              go_wp2
              go_roundw
              case rel => exact ⟨k + 1, A6, c6, d, by have := HK.out; omega, val_next _ (by have := HK.out; have := HLL.out; omega), rfl, by have := HK.out; omega, HD, ⟨by rw [HS.out, HSS.out]⟩, HI, HB⟩
              case measure => rw [nat_next _ (by have := HK.out; have := HLL.out; omega)]; simp only [intOf, Int.toNat_natCast]; have := HK.out; omega
          · obtain rfl : k = l.length := by omega
            have q0 := eq_false (show ¬ (l.length : Int) < (l.length : Int) by omega)
            have HDL := Aside0.mk hdk
            clear hk hlt hdk
            go_upto_region 11 with ((with_reducible refine gate_dst (N := 48) rfl ?_); refine Kd.R_make (Kd.int .i64) (w0 := w) w.heap.size 3 ?hg (N := 48) ?hd 22 (.tmp 47) (.tmp 47) rfl (l.length : Int) rfl rfl Try.underlying22 (.int .i64 0) 8 info3 rfl (by decide) (by omega) (0 : Int) (ok := fun _ => True) (okp := fun _ => False) rfl (fun _ h => h.elim) trivial ?h0 ?hl HB.out HB.out.size ?_; (case hd => rfl); (case hg => rfl); (case h0 => omega); (case hl => have := HLL.out; omega); intro v1 w1 ho hb hg hat; rw [Int.toNat_natCast] at ho; obtain ⟨go, c9, ev_, hgb, hgl, cells, hcells⟩ := Kd.R_form ho (by rw [List.length_replicate]; have := HLL.out; omega); subst ev_; have hgo : wr.heap.size ≤ go := (by obtain ⟨b, hb1, hb2⟩ := hat; simp [Value.ownBlock] at hb1; omega); rw [List.length_replicate] at ho; have n0 := Aside0.mk (ho); have n1 := Aside0.mk ((fun g hg2 ad e => (fun he => by obtain ⟨cs, hc2⟩ := (HI.out g hg2).2.2 ad e; have := blk_lt hc2; omega) : ∀ g ∈ d, ∀ ad, g.A = some ad → ad.block ≠ go)); have n2 := Aside0.mk (hgo); have n3 := Aside0.mk (Kd.R_grown HD.out hg (fun k _ => by simp)); have n4 := Aside0.mk (HI.out.grown hg (fun r e => by cases e)); have n5 := Aside0.mk (hb); clear HD HI HB; have HOUT := n0; have HNE := n1; have HGO := n2; have HD := n3; have HI := n4; have HB := n5; clear n0 n1 n2 n3 n4 n5; clear ho hb hg hat hgo hgb hgl hcells)
            clear q0
            have hsl : (singL l l.length).length = d.length := by rw [← HS.out, List.length_map]
            have HSL := Aside0.mk hsl
            obtain ⟨p, hp⟩ : ∃ p, 2 ^ m = p := ⟨_, rfl⟩
            have HP := Aside0.mk hp
            have hp2 : p ≤ 32768 := by have := Nat.pow_le_pow_right (n := 2) (by omega) HM.out.2; omega
            have hmm : min m 64 = m := by have := HM.out.2; omega
            have hpi : ((2 : Int) ^ m) = (p : Int) := by rw [← hp, Int.natCast_pow]; rfl
            have hsh : wrap64 ((2 : Int) ^ min m 64) = (p : Int) := by rw [hmm, hpi]; exact wrap64_id (by omega) (by omega)
            clear hmm hpi
            clear hp hsl
            by_cases hov : p < d.length
            · have o1 := eq_true (show (d.length : Int) > (p : Int) by omega)
              have o2 := eq_true (show (p : Int) < (d.length : Int) by omega)
              have o3 := eq_true hov
              clear hp2 o1
              go_wp2
              show LeavesInM _ _ _ _ _ _ [] .returning _
              exact ⟨_, results_tmp2 rfl _ _ _, _, _, [], rfl, Kd.R_nil _ _ _ _ _, HB.out, (.inr ⟨HOF.out, m, rfl, HM.out.1, HM.out.2, .inl ⟨by rw [HSL.out, HP.out]; exact hov, rfl, rfl⟩⟩)⟩
            · have o2 := eq_false (show ¬ (p : Int) < (d.length : Int) by omega)
              have o3 := eq_false hov
              have HLE := Aside0.mk (show (singL l l.length).length ≤ 2 ^ m by rw [HSL.out, HP.out]; omega)
              clear hp2 hov
              by_cases h0 : d.length = 0
              · have e0 : (d.length : Int) = 0 := by omega
                have HZ := Aside0.mk (show singL l l.length = [] from List.eq_nil_of_length_eq_zero (by rw [HSL.out]; exact h0))
                clear h0 o2 o3
                go_wp2
                show LeavesInM _ _ _ _ _ _ [] .returning _
                exact ⟨_, results_tmp2 rfl _ _ _, _, _, zerosL l, rfl, HOUT.out, HB.out, (.inr ⟨HOF.out, m, rfl, HM.out.1, HM.out.2, .inr ⟨HLE.out, rfl, .inl ⟨HZ.out, rfl⟩⟩⟩)⟩
              · by_cases h1 : d.length = 1
                · have e0 : (d.length : Int) = 1 := by omega
                  have o4 := eq_false (show ¬ (p : Int) < 1 by have h_ := Nat.le_trans (Nat.le_of_eq HSL.out.symm) HLE.out; rw [HP.out] at h_; omega)
                  obtain ⟨g, hdg⟩ : ∃ g, d = [g] := List.length_eq_one_iff.1 h1
                  have hpg : pl g ∈ singL l l.length := by rw [← HS.out, hdg]; exact List.mem_singleton.2 rfl
                  obtain ⟨j, hj, hgj, _⟩ := singL_mem hpg
                  have HSI := Aside0.mk (show singL l l.length = [(g.f0, [(j : Int)])] by rw [← HS.out, hdg]; unfold pl at hgj ⊢; rw [List.map_cons, List.map_nil]; injection hgj with h1 h2; rw [h2])
                  have hgl : g.l = [(j : Int)] := by unfold pl at hgj; injection hgj with _ h2
                  have hin := HI.out g (by rw [hdg]; exact List.mem_singleton.2 rfl)
                  obtain ⟨ad6, e6, _, hx1⟩ := at_T44 (Kd.R_reads' HD.out).2.2 (0 : Int) (by omega) (by omega)
                  have hrd : rd_T44 d 0 = g := by rw [hdg]; rfl
                  rw [hrd, show ((0 : Int)).toNat = 0 from rfl, show 0 * 2 = 0 from rfl, Addr.add_zero'] at hx1
                  obtain ⟨hgn, hgC, _⟩ := hin
                  rw [hgl] at hgC hgn
                  obtain ⟨ad7, e7, hy⟩ := Kd.at_int hgC (0 : Int) (by omega) (by simp)
                  rw [show ((0 : Int)).toNat = 0 from rfl, Addr.add_zero'] at hy
                  rw [hgn] at hx1
                  have hy2 : w1.cell? ad7 = some (.int .i64 (j : Int)) := hy
                  rw [e7] at hx1
                  subst e6
                  obtain ⟨hz, hf⟩ := Kd.R_celln 0 HOUT.out (j : Int) (by omega) (by simpa using hj)
                  rw [Int.toNat_natCast] at hz hf
                  have HPUT := Aside0.mk (Kd.R_putg HOUT.out (j : Int) 1)
                  have q1 := eq_true (show (0 : Int) ≤ (j : Int) by omega)
                  have q2 := eq_true (show (j : Int) < (l.length : Int) by omega)
                  have q3 := eq_true hj
                  have HJ := Aside0.mk hj
                  clear h0 h1 hdg hpg hj hgj hgl hgn hgC hrd hy e7
                  go_wp2
                  rw [Int.toNat_natCast] at HPUT
                  have hgb := Kd.R_base HOUT.out go rfl
                  show LeavesInM _ _ _ _ _ _ [] .returning _
                  exact ⟨_, results_tmp2 rfl _ _ _, _, _, (zerosL l).set j 1, rfl, HPUT.out.1, below_set HB.out hgb, (.inr ⟨HOF.out, m, rfl, HM.out.1, HM.out.2, .inr ⟨HLE.out, rfl, .inr (.inl ⟨g.f0, j, HJ.out, HSI.out, rfl⟩)⟩⟩)⟩
                · have e1 := eq_false (show ¬ ((d.length : Int) = 1) by omega)
                  have e2 : ((d.length : Int) == 1) = false := beq_eq_false_iff_ne.mpr (by omega)
                  have e3 := eq_false (show ¬ ((d.length : Int) = 0) by omega)
                  have e4 : ((d.length : Int) == 0) = false := beq_eq_false_iff_ne.mpr (by omega)
                  have e5 := eq_false h1
                  have e6 := eq_false h0
                  have HD5 := Aside0.mk (show d.length ≤ 1048576 by have := HDL.out; have := HLL.out; omega)
                  have HN2 := Aside0.mk (show 2 ≤ d.length by omega)
                  have HDM := Aside0.mk (sing_dm HNB.out HS.out)
                  obtain ⟨g6, c6b, ev6, hg61, hg62, cells6, hcells6⟩ := Kd.R_form HD.out (by omega)
                  injection ev6 with ev6 _ ev7
                  subst ev6
                  subst ev7
                  clear h0 h1 hg61 hg62 hcells6
                  go_wp2_with (go_at_call 20; refine (sorted_calls g6 c6 w.heap.size (fun _ => True) d _ HD.out HDM.out HD5.out).mono ?_; rintro e_ w3 ⟨rfl, ⟨sv, hs1, hs2, hro⟩, hg⟩; have hsl := hs2.len; rw [← hsl] at hro; have hty : ∀ r, some g6 = some r → ∃ cells, w1.heap[r]? = some (.cells cells 44 (0, 0)) := Kd.R_typed HD.out; have n0 := Aside0.mk (hro); have n1 := Aside0.mk (hs1); have n2 := Aside0.mk (hs2); have n3 := Aside0.mk (hsl); have n4 := Aside0.mk ((fun g hg2 => (HI.out g ((hs2.mem g).1 hg2)).grown hg hty : InAll w3 sv)); have n5 := Aside0.mk (ints_grown HOUT.out hg hty); have n6 := Aside0.mk (HB.out.grown hg HB.out.size (fun k e => by injection e with e; subst e; exact Kd.R_base HD.out g6 rfl)); clear HD HI HB HOUT; have HSV := n0; have HS1 := n1; have HS2 := n2; have HNS := n3; have HIS := n4; have HOU := n5; have HBB := n6; clear n0 n1 n2 n3 n4 n5 n6; clear hro hs1 hs2 hg hty hsl)
                  have hdl : d.length = sv.length := by rw [HNS.out]
                  rw [hdl]
                  clear hdl
                  have HSB := Aside0.mk (show SvB sv from fun g hg => by have h_ := sing_bnd HNB.out HS.out g ((HS2.out.mem g).1 hg); omega)
                  have HN2' := Aside0.mk (show 2 ≤ sv.length by rw [HNS.out]; exact HN2.out)
                  have HSVL := Aside0.mk (show sv.length ≤ 288 by rw [HNS.out]; have := HDL.out; have := HLL.out; omega)
                  refine wp_loop (fun a' w' => ∃ (u11 u77 u78 u79 u80 u81 u99 u100 u101 : Value) (ds : List Deferred) (j : Nat) (hv : List G44) (A10 : Option Addr) (c10 : Nat), LevI w (sv.map pl) sv g6 c6 go c9 l m j hv A10 c10 ds w' ∧ a' = { tmps := #[Value.slice A l.length c, Value.int .i64 (m : Int), undef, undef, Value.slice none 0 0, Value.int .i64 0, Value.slice (some ⟨g6, 0, none⟩) sv.length c6, u7, u8, Value.slice (some ⟨go, 0, none⟩) l.length c9, .slice A10 hv.length c10, u11, undef, undef, undef, undef, undef, undef, Value.slice A l.length c, Value.bool true, Value.bool false, Value.bool false, Value.int .i64 (m : Int), Value.bool false, Value.bool false, Value.bool false, Value.int .i64 (m : Int), Value.bool false, Value.bool false, Value.slice A l.length c, Value.int .i64 (l.length : Int), Value.int .i64 (l.length : Int), Value.bool false, u33, u34, u35, u36, u37, u38, u39, u40, u41, u42, u43, u44, u45, Value.slice A l.length c, Value.int .i64 (l.length : Int), Value.slice (some ⟨go, 0, none⟩) l.length c9, Value.bool false, Value.slice (some ⟨g6, 0, none⟩) sv.length c6, Value.int .i64 (sv.length : Int), Value.int .i64 (m : Int), Value.int .i64 (p : Int), Value.bool false, Value.bool false, Value.slice (some ⟨g6, 0, none⟩) sv.length c6, Value.int .i64 (sv.length : Int), Value.bool false, undef, undef, undef, undef, undef, undef, undef, undef, undef, Value.bool false, Value.slice (some ⟨g6, 0, none⟩) sv.length c6, Value.int .i64 (sv.length : Int), Value.bool false, undef, Value.slice (some ⟨g6, 0, none⟩) sv.length c6, Value.slice (some ⟨g6, 0, none⟩) sv.length c6, Value.int .i64 (m : Int), .int .i64 (j : Int), u77, u78, u79, u80, u81, undef, undef, undef, undef, undef, undef, undef, undef, undef, undef, undef, undef, undef, undef, undef, undef, undef, u99, u100, u101, undef, undef, undef, undef, undef, undef, undef, undef, undef, undef, undef, undef, undef, undef, undef, undef, undef, undef, undef, undef, undef, undef, undef, undef, undef, undef, undef], defers := ds }) (fun a' _ => m + 1 - (intOf (a'.tmps.getD 76 undef)).toNat) ?_ ?_
                  · exact ⟨undef, undef, undef, undef, undef, undef, undef, undef, undef, [], 0, [], none, 0, ⟨by omega, .zero, (fun g hg => by cases hg), by simp, Kd.R_nil _ _ _ _ _, (fun g hg => by cases hg), HSV.out, HIS.out, HOU.out, (fun g hg => by rcases hg with hg | hg; (cases hg); exact HNE.out g ((HS2.out.mem g).1 hg)), marks_nil _ _, HBB.out⟩, rfl⟩
                  · rintro _ wr ⟨u11, u77, u78, u79, u80, u81, u99, u100, u101, ds, j, hv, A10, c10, hI, rfl⟩
                    have HI := Aside0.mk hI
                    clear hI
                    by_cases hjm : j < m
                    · have q0 := eq_true (show (j : Int) < (m : Int) by omega)
                      have HJ := Aside0.mk hjm
                      clear hjm
                      go_upto_region 23 with (go_at_call 21; go_loud (refine (clone_calls ⟨g6, 0, none⟩ c6 sv _ (Kd.R_reads' HI.out.svR).2.2 (by have := HSVL.out; omega)).mono ?_; rintro e_ w2 ⟨v_, rfl, ho, hb⟩; obtain ⟨A11, c11, ev_⟩ := Kd.R_slice ho; subst ev_; have HC2 := Aside0.mk ho; have HB2 := Aside0.mk hb; clear ho hb))
                      have hgn := blk_new w2 (.cells #[.slice A11 sv.length c11] 42 (0, 0))
                      have hba := below_alloc (Below.refl w2.heap.size w2) (.cells #[.slice A11 sv.length c11] 42 (0, 0))
                      have hsz : (w2.alloc (.cells #[.slice A11 sv.length c11] 42 (0, 0))).heap.size = w2.heap.size + 1 := by simp only [World.size_alloc]
                      have HGN := Aside0.mk hgn
                      have HBA := Aside0.mk hba
                      have HSZ := Aside0.mk hsz
                      clear hgn hba hsz
                      generalize w2.alloc (.cells #[.slice A11 sv.length c11] 42 (0, 0)) = w3' at HGN HBA HSZ ⊢
                      obtain ⟨gn, hgn⟩ : ∃ gn, w2.heap.size = gn := ⟨_, rfl⟩
                      rw [hgn] at HGN HSZ ⊢
                      have HG2 := Aside0.mk hgn
                      clear hgn
                      go_wp2_with (go_at_call 22; refine (callsIn_wide.1 (prs_in Fence.wide 2 trivial rfl _ _ _ _)).mono ?_; rintro e_ w4 ⟨rfl, hw4⟩; subst hw4)
                      have hpb := blk_new w3' (.cells #[.slice A10 hv.length c10] 42 (0, 0))
                      have hpa := below_alloc (Below.refl w3'.heap.size w3') (.cells #[.slice A10 hv.length c10] 42 (0, 0))
                      obtain ⟨bs, hbs⟩ : ∃ bs, w3'.heap.size = bs := ⟨_, rfl⟩
                      have hbs2 := hbs
                      rw [hbs] at hpb ⊢
                      generalize w3'.alloc (.cells #[.slice A10 hv.length c10] 42 (0, 0)) = W3 at hpb hpa ⊢
                      have b23 := HBA.out
                      have b3 : Below wr.heap.size wr W3 := below_then (below_then HB2.out HB2.out.size b23) (Nat.le_trans HB2.out.size b23.size) hpa
                      have HB3 := Aside0.mk b3
                      have hgn3 := blk_below HGN.out hpa
                      have hgs : wr.heap.size ≤ gn ∧ gn < bs ∧ bs < W3.heap.size := ⟨by rw [← HG2.out]; exact HB2.out.size, by have := HSZ.out; omega, blk_lt hpb⟩
                      obtain ⟨own0, how⟩ : ∃ o, (Value.slice A11 sv.length c11).ownBlock = o := ⟨_, rfl⟩
                      have hot : ∀ k, own0 = some k → wr.heap.size ≤ k ∧ k < gn ∧ ∃ cells, W3.heap[k]? = some (.cells cells 44 (0, 0)) := fun k e => by
                        obtain ⟨cs, hcs⟩ := Kd.R_typed HC2.out k (how.trans e)
                        exact ⟨Kd.R_base HC2.out k (how.trans e), by rw [← HG2.out]; exact blk_lt hcs, cs, blk_below (blk_below hcs b23) hpa⟩
                      have HOT := Aside0.mk hot
                      have HGS := Aside0.mk hgs
                      have HOW := Aside0.mk how
                      have HGN3 := Aside0.mk hgn3
                      have HPB := Aside0.mk hpb
                      have HBS := Aside0.mk hbs2
                      have hwr := HI.out.below.size
                      have HWR := Aside0.mk hwr
                      have HC3 := Aside0.mk (show Kd.R kG 44 W3 w.heap.size (fun k => some k = own0 ∨ W3.heap.size ≤ k) (.slice A11 sv.length c11) sv from Kd.R_mono (Kd.R_tight2 rfl (Kd.R_lower (Kd.R_below (Kd.R_below HC2.out b23) hpa) hwr)) (fun k hk => .inl (by rw [← how]; exact hk.1)))
                      have HL3 := Aside0.mk (show Below w.heap.size w W3 from below_then HI.out.below hwr b3)
                      clear hpb hpa hbs hbs2 b23 b3 hgn3 hgs hot how hwr
                      refine (wpIn_wide (n := 3)).1 ?_
                      refine wpIn_rangeFunc_ownH rfl (by decide) (gf := 35) (lb := #[.pointer (some ⟨bs, 0, none⟩)]) rfl trivial (enters_of Try.func35 (by kernel_rfl) rfl)
                        (prs_stops Fence.wide 2 trivial rfl (by decide) (by kernel_rfl) bs A10 c10 hv (by have := HI.out.len; have := HSVL.out; omega) W3 HGS.out.2.2 (KpN W3.heap.size gn own0) (KpN.refl _ _ _) (fun h k => h.trans k) (fun W => KpN.drew W) ?hkc ((blk_cell HPB.out 0).trans rfl) (Kd.R_reads' (Kd.R_below HI.out.hvR HB3.out)).2.2)
                        (fun h k => h.trans k) (fun W l o o' hl _ _ _ => KpN.put (o := o) hl) (Below.refl _ _) (fun _ => rfl)
                        (fun (pre : List (Prs hv)) W => NxI w W3 gn own0 sv (pre.map Subtype.val) W) (fun _ _ _ => False)
                        (fun pre W W' row h hg hr => nxI_own w W3 gn own0 sv HL3.out.size (pre.map Subtype.val) W W' row h hg hr) (fun c => fun _ _ _ _ h _ _ => h)
                        ⟨.slice A11 sv.length c11, [], HGN3.out, by rw [List.append_nil]; exact HC3.out, rfl, (fun g hg => by cases hg), KpN.refl _ _ _ _, HL3.out, (fun g hg => by cases hg)⟩
                        (fun x a' W => ∃ B1 B2, W.heap[B1]? = some (.cells #[.int .i64 x.1.1.f0, .slice x.1.1.A x.1.1.n x.1.1.c] 44 (0, 0)) ∧ W.heap[B2]? = some (.cells #[.int .i64 x.1.2.f0, .slice x.1.2.A x.1.2.n x.1.2.c] 44 (0, 0)) ∧ a' = { tmps := #[Value.slice A l.length c, Value.int .i64 (m : Int), undef, undef, Value.slice none 0 0, Value.int .i64 0, Value.slice (some ⟨g6, 0, none⟩) sv.length c6, u7, u8, Value.slice (some ⟨go, 0, none⟩) l.length c9, .slice A10 hv.length c10, .pointer (some ⟨gn, 0, none⟩), .pointer (some ⟨B1, 0, none⟩), .pointer (some ⟨B2, 0, none⟩), undef, undef, undef, undef, Value.slice A l.length c, Value.bool true, Value.bool false, Value.bool false, Value.int .i64 (m : Int), Value.bool false, Value.bool false, Value.bool false, Value.int .i64 (m : Int), Value.bool false, Value.bool false, Value.slice A l.length c, Value.int .i64 (l.length : Int), Value.int .i64 (l.length : Int), Value.bool false, u33, u34, u35, u36, u37, u38, u39, u40, u41, u42, u43, u44, u45, Value.slice A l.length c, Value.int .i64 (l.length : Int), Value.slice (some ⟨go, 0, none⟩) l.length c9, Value.bool false, Value.slice (some ⟨g6, 0, none⟩) sv.length c6, Value.int .i64 (sv.length : Int), Value.int .i64 (m : Int), Value.int .i64 (p : Int), Value.bool false, Value.bool false, Value.slice (some ⟨g6, 0, none⟩) sv.length c6, Value.int .i64 (sv.length : Int), Value.bool false, undef, undef, undef, undef, undef, undef, undef, undef, undef, Value.bool false, Value.slice (some ⟨g6, 0, none⟩) sv.length c6, Value.int .i64 (sv.length : Int), Value.bool false, undef, Value.slice (some ⟨g6, 0, none⟩) sv.length c6, Value.slice (some ⟨g6, 0, none⟩) sv.length c6, Value.int .i64 (m : Int), .int .i64 (j : Int), .bool true, .slice (some ⟨g6, 0, none⟩) sv.length c6, .slice A11 sv.length c11, .slice A10 hv.length c10, .func (.func 35) #[] #[.pointer (some ⟨bs, 0, none⟩)], AG x.1.1, AG x.1.2, undef, undef, undef, undef, undef, undef, undef, undef, undef, undef, undef, undef, undef, undef, undef, u99, u100, u101, undef, undef, undef, undef, undef, undef, undef, undef, undef, undef, undef, undef, undef, undef, undef, undef, undef, undef, undef, undef, undef, undef, undef, undef, undef, undef, undef], defers := [] })
                        (fun x a' _ X Y row hs hg hr => by obtain ⟨B1, B2, h1, h2, h3⟩ := hs; exact ⟨B1, B2, blk_grown h1 hg (grown_ne (W' := Y) hr h1), blk_grown h2 hg (grown_ne (W' := Y) hr h2), h3⟩)
                        ?assign ?body ?done ?stop
                      case hkc =>
                        intro W W' hk p v hp hv
                        have hlt : p.block < W3.heap.size ∧ p.block ≠ gn ∧ ∀ k, own0 = some k → p.block ≠ k := by
                          have hg := HGS.out
                          rcases hp with e | ⟨ad, e1, e2⟩
                          · exact ⟨by omega, by omega, fun k hk2 => by have := HOT.out k hk2; omega⟩
                          · obtain ⟨cs, hcs⟩ := Kd.R_typed HI.out.hvR ad.block (by rw [e1]; rfl)
                            have := blk_lt hcs
                            exact ⟨by omega, by omega, fun k hk2 => by have := (HOT.out k hk2).1; omega⟩
                        exact hk.cell hlt.1 hlt.2.1 (fun e => hlt.2.2 _ e.symm rfl) hv
                      case assign =>
                        rintro lp pre ⟨⟨x, y⟩, hxy⟩ W K hNx hK
                        dsimp only [AG]
                        gi_wp2
                        have hb := below_alloc (below_alloc (Below.refl W.heap.size W) (.cells #[.int .i64 x.f0, .slice x.A x.n x.c] 44 (0, 0))) (.cells #[.int .i64 y.f0, .slice y.A y.n y.c] 44 (0, 0))
                        have h2 := blk_new (W.alloc (.cells #[.int .i64 x.f0, .slice x.A x.n x.c] 44 (0, 0))) (.cells #[.int .i64 y.f0, .slice y.A y.n y.c] 44 (0, 0))
                        rw [World.size_alloc] at h2
                        exact hK _ _ (keeps_below (KeepsFrom.refl _ _) hb) ((KpN.refl _ _ _ _).below hb) (OwnFrom.alloc (nxI_own w W3 gn own0 sv HL3.out.size) _ (OwnFrom.alloc (nxI_own w W3 gn own0 sv HL3.out.size) _ hNx)) ⟨W.heap.size, W.heap.size + 1, blk_alloc (blk_new W _) _, h2, rfl⟩
                      case body =>
                        rintro lp pre ⟨⟨x, y⟩, hxy⟩ a' W hl hrr ⟨v, ns, hbx, hR, hns, hin, hkp, hbl, hfar⟩ ⟨B1, B2, hb1, hb2, rfl⟩ hlt
                        dsimp only at hb1 hb2
                        obtain ⟨Av, cv, ev⟩ := Kd.R_slice hR
                        subst ev
                        obtain ⟨nl, hnl⟩ : ∃ nl, (sv ++ ns).length = nl := ⟨_, rfl⟩
                        rw [hnl] at hR hbx
                        have hIx : InAt W x := ((HI.out.hvI x hxy.1).below HB3.out).kp hkp (Nat.le_refl _) ⟨_, HGN3.out⟩ (fun k e => (HOT.out k e).2.2)
                        have hIy : InAt W y := ((HI.out.hvI y hxy.2).below HB3.out).kp hkp (Nat.le_refl _) ⟨_, HGN3.out⟩ (fun k e => (HOT.out k e).2.2)
                        have hbx1 := HI.out.bnd x hxy.1
                        have hby1 := HI.out.bnd y hxy.2
                        have hpj : 2 ^ j ≤ 32768 := (Nat.pow_le_pow_right (n := 2) (by omega) (show j ≤ 15 by have := HJ.out; have := HM.out; omega) : 2 ^ j ≤ 2 ^ 15)
                        have hpz : ((2 : Int) ^ j) ≤ 32768 := by have h_ := Int.ofNat_le.2 hpj; rw [Int.natCast_pow] at h_; exact h_
                        have hadd : wrap64 (x.f0 + y.f0) = x.f0 + y.f0 := wrap64_id (by omega) (by omega)
                        have hadd2 : IntKind.i64.wrap (x.f0 + y.f0) = x.f0 + y.f0 := (i64_w _).trans hadd
                        have HLL2 := Aside0.mk (show x.l.length + y.l.length ≤ 1000000 by omega)
                        have HNL := Aside0.mk hnl
                        have HNSL := Aside0.mk (show nl ≤ 1000 by have h1 := congrArg List.length hns; rw [List.length_map, List.length_map, List.length_map] at h1; have := HI.out.len; have := HSVL.out; rw [List.length_append] at hnl; omega)
                        have HNS2 := Aside0.mk hns
                        have HFA := Aside0.mk hfar
                        clear hfar hnl hns hbx1 hby1 hpj hpz hlt hrr hl
                        gi_wp2
                        have HO := Aside0.mk (Kd.R_drew hR)
                        have BG := Aside0.mk (blk_drew hbx)
                        have BB1 := Aside0.mk (blk_drew hb1)
                        have BB2 := Aside0.mk (blk_drew hb2)
                        have HIN := Aside0.mk (show InAll W.drew ns from hin)
                        have HIX := Aside0.mk (show InAt W.drew x from hIx)
                        have HIY := Aside0.mk (show InAt W.drew y from hIy)
                        have HKP := Aside0.mk (show KpN W3.heap.size gn own0 W3 W.drew from hkp.trans (KpN.drew W))
                        have HKW := Aside0.mk (show KpN W3.heap.size gn own0 W W.drew from KpN.drew W)
                        have HBL := Aside0.mk (below_drew1 hbl)
                        have HKF := Aside0.mk (show KeepsFrom W3.heap.size W W.drew from (KeepsOthers.drew W).from _)
                        clear hR hbx hb1 hb2 hin hIx hIy hkp hbl
                        refine start_in (n := 16) (S := fun w' => w'.cell? ⟨gn, 0, none⟩ = some (.slice Av nl cv) ∧ w'.cell? ⟨B1, 0, none⟩ = some (.int .i64 x.f0) ∧ w'.cell? ⟨B1, 1, none⟩ = some (.slice x.A x.n x.c) ∧ w'.cell? ⟨B2, 0, none⟩ = some (.int .i64 y.f0) ∧ w'.cell? ⟨B2, 1, none⟩ = some (.slice y.A y.n y.c)) (ds := [14, 15]) #[false, false, false, false, false, false, false, false, false, false, false, false, false, false, false, false] (fun ⟨_, _, h⟩ => h) (by kernel_rfl) (by kernel_rfl) rfl rfl ⟨(blk_cell BG.out 0).trans rfl, (blk_cell BB1.out 0).trans rfl, (blk_cell BB1.out 1).trans rfl, (blk_cell BB2.out 0).trans rfl, (blk_cell BB2.out 1).trans rfl⟩ (fun hHeld => ?_)
                        generalize W.drew = wd at HO BG BB1 BB2 HIN HKP HKW HBL HKF HIX HIY hHeld ⊢
                        refine pure_ (i := 1) (N := some 85) (v := ?_) (a' := ?_) #[false, true, false, false, false, false, false, false, false, false, false, false, false, false, false, false] rfl rfl (by kernel_rfl) (fun _ _ _ h => h) (Or.inl ⟨by rfl, ?_⟩) ?_ ?_
                        rotate_left
                        · intro w'
                          go_simp
                          with_reducible rfl
                        rotate_left
                        · simp only [Act.put, List.setIfInBounds_toArray, List.set_cons_zero, List.set_cons_succ, i64_w, i32_w, u8_w]
                          rfl
                        refine pure_ (i := 3) (N := some 87) (v := ?_) (a' := ?_) #[false, true, false, true, false, false, false, false, false, false, false, false, false, false, false, false] rfl rfl (by kernel_rfl) (fun _ _ _ h => h) (Or.inl ⟨by rfl, ?_⟩) ?_ ?_
                        rotate_left
                        · intro w'
                          go_simp
                          with_reducible rfl
                        rotate_left
                        · simp only [Act.put, List.setIfInBounds_toArray, List.set_cons_zero, List.set_cons_succ, i64_w, i32_w, u8_w]
                          rfl
                        refine pure_ (i := 6) (N := some 90) (v := ?_) (a' := ?_) #[false, true, false, true, false, false, true, false, false, false, false, false, false, false, false, false] rfl rfl (by kernel_rfl) (fun _ _ _ h => h) (Or.inl ⟨by rfl, ?_⟩) ?_ ?_
                        rotate_left
                        · intro w'
                          go_simp
                          with_reducible rfl
                        rotate_left
                        · simp only [Act.put, List.setIfInBounds_toArray, List.set_cons_zero, List.set_cons_succ, i64_w, i32_w, u8_w]
                          rfl
                        refine pure_ (i := 8) (N := some 92) (v := ?_) (a' := ?_) #[false, true, false, true, false, false, true, false, true, false, false, false, false, false, false, false] rfl rfl (by kernel_rfl) (fun _ _ _ h => h) (Or.inl ⟨by rfl, ?_⟩) ?_ ?_
                        rotate_left
                        · intro w'
                          go_simp
                          with_reducible rfl
                        rotate_left
                        · simp only [Act.put, List.setIfInBounds_toArray, List.set_cons_zero, List.set_cons_succ, i64_w, i32_w, u8_w]
                          rfl
                        refine take_ (i := 0) (N := some 84) (v := ?_) (a' := ?_) #[true, true, false, true, false, false, true, false, true, false, false, false, false, false, false, false] rfl rfl (by kernel_rfl) (fun _ _ _ h => h) (Or.inl ⟨by rfl, ?_⟩) hHeld ?_ ?_
                        rotate_left
                        · rintro w' ⟨s0, s1, s2, s3, s4⟩
                          go_simp
                          with_reducible rfl
                        rotate_left
                        · simp only [Act.put, List.setIfInBounds_toArray, List.set_cons_zero, List.set_cons_succ, i64_w, i32_w, u8_w]
                          rfl
                        refine take_ (i := 2) (N := some 86) (v := ?_) (a' := ?_) #[true, true, true, true, false, false, true, false, true, false, false, false, false, false, false, false] rfl rfl (by kernel_rfl) (fun _ _ _ h => h) (Or.inl ⟨by rfl, ?_⟩) hHeld ?_ ?_
                        rotate_left
                        · rintro w' ⟨s0, s1, s2, s3, s4⟩
                          go_simp
                          with_reducible rfl
                        rotate_left
                        · simp only [Act.put, List.setIfInBounds_toArray, List.set_cons_zero, List.set_cons_succ, i64_w, i32_w, u8_w]
                          rfl
                        refine take_ (i := 4) (N := some 88) (v := ?_) (a' := ?_) #[true, true, true, true, true, false, true, false, true, false, false, false, false, false, false, false] rfl rfl (by kernel_rfl) (fun _ _ _ h => h) (Or.inl ⟨by rfl, ?_⟩) hHeld ?_ ?_
                        rotate_left
                        · rintro w' ⟨s0, s1, s2, s3, s4⟩
                          go_simp
                          with_reducible rfl
                        rotate_left
                        · simp only [Act.put, List.setIfInBounds_toArray, List.set_cons_zero, List.set_cons_succ, i64_w, i32_w, u8_w]
                          rfl
                        refine pure_ (i := 5) (N := some 89) (v := ?_) (a' := ?_) #[true, true, true, true, true, true, true, false, true, false, false, false, false, false, false, false] rfl rfl (by kernel_rfl) (fun _ _ _ h => h) (Or.inl ⟨by rfl, ?_⟩) ?_ ?_
                        rotate_left
                        · intro w'
                          go_simp
                          with_reducible rfl
                        rotate_left
                        · simp only [Act.put, List.setIfInBounds_toArray, List.set_cons_zero, List.set_cons_succ, i64_w, i32_w, u8_w]
                          rfl
                        refine take_ (i := 7) (N := some 91) (v := ?_) (a' := ?_) #[true, true, true, true, true, true, true, true, true, false, false, false, false, false, false, false] rfl rfl (by kernel_rfl) (fun _ _ _ h => h) (Or.inl ⟨by rfl, ?_⟩) hHeld ?_ ?_
                        rotate_left
                        · rintro w' ⟨s0, s1, s2, s3, s4⟩
                          go_simp
                          with_reducible rfl
                        rotate_left
                        · simp only [Act.put, List.setIfInBounds_toArray, List.set_cons_zero, List.set_cons_succ, i64_w, i32_w, u8_w]
                          rfl
                        refine take_ (i := 9) (N := some 93) (v := ?_) (a' := ?_) #[true, true, true, true, true, true, true, true, true, true, false, false, false, false, false, false] rfl rfl (by kernel_rfl) (fun _ _ _ h => h) (Or.inl ⟨by rfl, ?_⟩) hHeld ?_ ?_
                        rotate_left
                        · rintro w' ⟨s0, s1, s2, s3, s4⟩
                          go_simp
                          with_reducible rfl
                        rotate_left
                        · simp only [Act.put, List.setIfInBounds_toArray, List.set_cons_zero, List.set_cons_succ, i64_w, i32_w, u8_w]
                          rfl
                        refine one_ (i := 10) (N := some 94) #[true, true, true, true, true, true, true, true, true, true, true, false, false, false, false, false] rfl rfl (by kernel_rfl) (by decide) (fun K hK => ?_)
                        refine value_ (w1 := ?_) (v := ?_) (by rfl) rfl ?_ ?_
                        rotate_left 2
                        · go_simp
                          constructor
                          · rfl
                          · rfl
                        have hb := below_alloc (Below.refl wd.heap.size wd) (.cells #[.slice x.A x.n x.c, .slice y.A y.n y.c] 22 (0, 0))
                        have hrow := blk_new wd (.cells #[.slice x.A x.n x.c, .slice y.A y.n y.c] 22 (0, 0))
                        obtain ⟨r0, hr0⟩ : ∃ r0, wd.heap.size = r0 := ⟨_, rfl⟩
                        rw [hr0] at hrow ⊢
                        generalize wd.alloc (.cells #[.slice x.A x.n x.c, .slice y.A y.n y.c] 22 (0, 0)) = w5 at hb hrow ⊢
                        have n0 := Aside0.mk (Kd.R_below HO.out hb)
                        have n1 := Aside0.mk (blk_below BG.out hb)
                        have n2 := Aside0.mk (blk_below BB1.out hb)
                        have n3 := Aside0.mk (blk_below BB2.out hb)
                        have n4 := Aside0.mk (HIN.out.below hb)
                        have n5 := Aside0.mk (HKP.out.below hb)
                        have n6 := Aside0.mk (HKW.out.below hb)
                        have n7 := Aside0.mk (below_then HBL.out HBL.out.size hb)
                        have n8 := Aside0.mk (keeps_below HKF.out hb)
                        have n9 := Aside0.mk (hrow)
                        have n10 := Aside0.mk (HIX.out.below hb)
                        have n11 := Aside0.mk (HIY.out.below hb)
                        clear HO BG BB1 BB2 HIN HKP HKW HBL HKF HIX HIY
                        have HO := n0
                        have BG := n1
                        have BB1 := n2
                        have BB2 := n3
                        have HIN := n4
                        have HKP := n5
                        have HKW := n6
                        have HBL := n7
                        have HKF := n8
                        have HROW := n9
                        have HIX := n10
                        have HIY := n11
                        clear n0 n1 n2 n3 n4 n5 n6 n7 n8 n9 n10 n11
                        clear hb hrow hr0
                        refine hK.out _ _ ⟨(blk_cell BG.out 0).trans rfl, (blk_cell BB1.out 0).trans rfl, (blk_cell BB1.out 1).trans rfl, (blk_cell BB2.out 0).trans rfl, (blk_cell BB2.out 1).trans rfl⟩ (fun hHeld => ?_)
                        clear hK K
                        refine norm_ (a' := ?_) ?_ ?_
                        rotate_left
                        · show Act.put _ (some 94) _ = _
                          simp only [Act.put, List.setIfInBounds_toArray, List.set_cons_zero, List.set_cons_succ, i64_w, i32_w, u8_w]
                          rfl
                        refine one_ (i := 11) (N := some 95) #[true, true, true, true, true, true, true, true, true, true, true, true, false, false, false, false] rfl rfl (by kernel_rfl) (by decide) (fun K hK => ?_)
                        refine goes_ Try.func23 (by kernel_rfl) rfl #[.slice (some ⟨r0, 0, none⟩) 2 2] (by rfl) rfl rfl (by simp only [List.map_toArray, List.map_cons, List.map_nil]; rfl) ?_
                        with_reducible refine (concat2_calls ⟨r0, 0, none⟩ 2 x.A y.A x.c y.c x.l y.l _ (two_at0 HIX.out HIY.out HROW.out).1 (two_at0 HIX.out HIY.out HROW.out).2 HIX.out.row HIY.out.row HLL2.out).mono ?_
                        rintro e_ w6 ⟨v6, rfl, ho, hb⟩
                        refine ⟨_, rfl, ?_⟩
                        obtain ⟨A7, c7, ev7⟩ := Kd.R_slice ho
                        subst ev7
                        obtain ⟨ln, hln⟩ : ∃ ln, (x.l ++ y.l).length = ln := ⟨_, rfl⟩
                        have hnew : InAt w6 ⟨x.f0 + y.f0, A7, ln, c7, x.l ++ y.l⟩ := ⟨hln.symm, (Kd.R_reads' ho).2.2, fun ad e => Kd.R_typed ho ad.block (by rw [show A7 = some ad from e]; rfl)⟩
                        rw [hln]
                        have n0 := Aside0.mk (Kd.R_below HO.out hb)
                        have n1 := Aside0.mk (blk_below BG.out hb)
                        have n2 := Aside0.mk (blk_below BB1.out hb)
                        have n3 := Aside0.mk (blk_below BB2.out hb)
                        have n4 := Aside0.mk (HIN.out.below hb)
                        have n5 := Aside0.mk (HKP.out.below hb)
                        have n6 := Aside0.mk (HKW.out.below hb)
                        have n7 := Aside0.mk (below_then HBL.out HBL.out.size hb)
                        have n8 := Aside0.mk (keeps_below HKF.out hb)
                        have n9 := Aside0.mk (hnew)
                        have n10 := Aside0.mk ((fun ad e => Nat.le_trans HKP.out.1 (Kd.R_base ho ad.block (by rw [show A7 = some ad from e]; rfl)) : ∀ ad, A7 = some ad → W3.heap.size ≤ ad.block))
                        clear HO BG BB1 BB2 HIN HKP HKW HBL HKF HIX HIY HROW
                        have HO := n0
                        have BG := n1
                        have BB1 := n2
                        have BB2 := n3
                        have HIN := n4
                        have HKP := n5
                        have HKW := n6
                        have HBL := n7
                        have HKF := n8
                        have HNEW := n9
                        have HFN := n10
                        clear n0 n1 n2 n3 n4 n5 n6 n7 n8 n9 n10
                        clear hb ho hnew hln
                        refine hK.out _ _ ⟨(blk_cell BG.out 0).trans rfl, (blk_cell BB1.out 0).trans rfl, (blk_cell BB1.out 1).trans rfl, (blk_cell BB2.out 0).trans rfl, (blk_cell BB2.out 1).trans rfl⟩ (fun hHeld => ?_)
                        clear hK K
                        refine norm_ (a' := ?_) ?_ ?_
                        rotate_left
                        · show Act.put _ (some 95) _ = _
                          simp only [Act.put, List.setIfInBounds_toArray, List.set_cons_zero, List.set_cons_succ, i64_w, i32_w, u8_w]
                          rfl
                        refine pure_ (i := 12) (N := some 96) (v := ?_) (a' := ?_) #[true, true, true, true, true, true, true, true, true, true, true, true, true, false, false, false] rfl rfl (by kernel_rfl) (fun _ _ _ h => h) (Or.inl ⟨by rfl, ?_⟩) ?_ ?_
                        rotate_left
                        · intro w'
                          go_simp
                          with_reducible rfl
                        rotate_left
                        · simp only [Act.put, List.setIfInBounds_toArray, List.set_cons_zero, List.set_cons_succ, i64_w, i32_w, u8_w]
                          rfl
                        refine one_ (i := 13) (N := some 97) #[true, true, true, true, true, true, true, true, true, true, true, true, true, true, false, false] rfl rfl (by kernel_rfl) (by decide) (fun K hK => ?_)
                        refine Kd.R_lit_step kG _ 44 ?hg (N := 97) ?hd (xs := ([(⟨x.f0 + y.f0, A7, ln, c7, x.l ++ y.l⟩ : G44)] : List G44)) (inner := [.int .i64 (x.f0 + y.f0), .slice A7 ln c7]) (ok := fun _ => True) (okp := fun _ => True) ?hr ?hp (fun _ hk => hk) trivial (Below.refl _ _) (Nat.le_refl _) (show 1 ≤ 9223372036854775807 by omega) ?_; (case hd => rfl); (case hg => rfl); (case hr => (go_simp; first | done | rfl)); (case hp => exact (Reps.snoc (Reps.none _ _) (kG_mkM _ _ _ (⟨x.f0 + y.f0, A7, ln, c7, x.l ++ y.l⟩ : G44)) rfl))
                        intro v8 w8 ho8 hb hg_ hnew_
                        obtain ⟨A8, c8, eo8⟩ := Kd.R_slice ho8
                        subst eo8
                        have n0 := Aside0.mk (Kd.R_below HO.out hb)
                        have n1 := Aside0.mk (blk_below BG.out hb)
                        have n2 := Aside0.mk (blk_below BB1.out hb)
                        have n3 := Aside0.mk (blk_below BB2.out hb)
                        have n4 := Aside0.mk (HIN.out.below hb)
                        have n5 := Aside0.mk (HKP.out.below hb)
                        have n6 := Aside0.mk (HKW.out.below hb)
                        have n7 := Aside0.mk (below_then HBL.out HBL.out.size hb)
                        have n8 := Aside0.mk (keeps_below HKF.out hb)
                        have n9 := Aside0.mk ((Kd.R_reads' ho8).2.2)
                        have n10 := Aside0.mk (HNEW.out.below hb)
                        clear HO BG BB1 BB2 HIN HKP HKW HBL HKF HNEW
                        have HO := n0
                        have BG := n1
                        have BB1 := n2
                        have BB2 := n3
                        have HIN := n4
                        have HKP := n5
                        have HKW := n6
                        have HBL := n7
                        have HKF := n8
                        have HC8 := n9
                        have HNEW := n10
                        clear n0 n1 n2 n3 n4 n5 n6 n7 n8 n9 n10
                        clear hb hg_ hnew_ ho8
                        refine hK.out _ _ ⟨(blk_cell BG.out 0).trans rfl, (blk_cell BB1.out 0).trans rfl, (blk_cell BB1.out 1).trans rfl, (blk_cell BB2.out 0).trans rfl, (blk_cell BB2.out 1).trans rfl⟩ (fun hHeld => ?_)
                        clear hK K
                        refine norm_ (a' := ?_) ?_ ?_
                        rotate_left
                        · show Act.put _ (some 97) _ = _
                          simp only [Act.put, List.setIfInBounds_toArray, List.set_cons_zero, List.set_cons_succ, i64_w, i32_w, u8_w]
                          rfl
                        refine last_ (i := 14) (N := some 98) #[true, true, true, true, true, true, true, true, true, true, true, true, true, true, true, false] rfl rfl (by kernel_rfl) (by decide) (fun K hK => ?_)
                        refine Kd.R_append_rows_step kG (w0 := w) w.heap.size (by rfl) (.tmp 84) (.tmp 97) 42 44 (.agg #[(.int .i64 0), (.slice none 0 0)]) 32 rfl Try.underlying42 info44 rfl (by decide) (by omega) (.slice Av nl cv) (sv ++ ns) [(⟨x.f0 + y.f0, A7, ln, c7, x.l ++ y.l⟩ : G44)] _ _ _ (fun k => some k = own0 ∨ W3.heap.size ≤ k) (fun _ => False) rfl rfl HO.out HC8.out (fun _ _ h => h) (fun _ h => h.elim) (fun k hk => .inr (Nat.le_trans HKP.out.1 hk)) HBL.out HBL.out.size ?aL ?_
                        (case aL => have := HNSL.out; have h_ := HNL.out; rw [List.length_append] at h_ ⊢; simp only [List.length_cons, List.length_nil]; omega)
                        intro v9 w9 ho hb hg hat
                        have hty := Kd.R_typed HO.out
                        have hown := HO.out.1
                        have hne := Kd.R_ne HO.out BG.out (by decide)
                        have n0 := Aside0.mk (HKP.out.grown hg (fun k e => by rcases hown k e with h | h; exact .inr (.inr h); exact .inl h))
                        have n1 := Aside0.mk (HKW.out.grown hg (fun k e => by rcases hown k e with h | h; exact .inr (.inr h); exact .inl h))
                        have n2 := Aside0.mk (keeps_grown HKF.out hg hty)
                        have n3 := Aside0.mk (blk_grown BG.out hg hne)
                        have n4 := Aside0.mk (HIN.out.grown hg hty)
                        have n5 := Aside0.mk (HNEW.out.grown hg hty)
                        have n6 := Aside0.mk (ho)
                        have n7 := Aside0.mk (hb)
                        clear HKP HKW HKF BG HIN HNEW HO HBL BB1 BB2 HC8
                        have HKP := n0
                        have HKW := n1
                        have HKF := n2
                        have BG := n3
                        have HIN := n4
                        have HNEW := n5
                        have HO := n6
                        have HBL := n7
                        clear n0 n1 n2 n3 n4 n5 n6 n7
                        clear ho hb hg hat hty hown hne
                        obtain ⟨A9, c9', eo9⟩ := Kd.R_slice HO.out
                        subst eo9
                        refine hK.out _ _ ?_
                        clear hK K
                        refine norm_ (a' := ?_) ?_ ?_
                        rotate_left
                        · show Act.put _ (some 98) _ = _
                          simp only [Act.put, List.setIfInBounds_toArray, List.set_cons_zero, List.set_cons_succ, i64_w, i32_w, u8_w]
                          rfl
                        refine last_ (i := 15) (N := none) #[true, true, true, true, true, true, true, true, true, true, true, true, true, true, true, true] rfl rfl (by kernel_rfl) (by decide) (fun K hK => ?_)
                        have hz : w9.cell? ⟨gn, 0, none⟩ = some (.slice Av nl cv) := (blk_cell BG.out 0).trans rfl
                        have hf := blk_frozen BG.out 0
                        refine skip_ (w1 := ?_) (by rfl) rfl ?_ ?_
                        rotate_left
                        · go_simp
                          rfl
                        refine hK.out _ _ ?_
                        clear hK K
                        refine done_ (by kernel_rfl) ?_
                        gi_wp2
                        exact ⟨HKF.out.trans ((KeepsOthers.setCell _ _ _).from _), HKW.out.grown (grownBy_set gn 0 _) (fun k e => .inr (.inl (by injection e with e; exact e.symm))), _, ns ++ [(⟨x.f0 + y.f0, A7, ln, c7, x.l ++ y.l⟩ : G44)], blk_set BG.out 0 _, by rw [← List.append_assoc]; have ho_ := HO.out; rw [List.length_append, List.length_append, List.length_singleton, Nat.add_assoc] at ho_; exact Kd.R_mono (Kd.R_far (p := ⟨gn, 0, none⟩) (Kd.R_types ho_ BG.out (by decide)) (fun _ hk => hk.2) _) (fun _ hk => hk.1), by rw [List.map_append, List.map_append, List.map_append, HNS2.out]; rfl, fun g hg => by rcases List.mem_append.1 hg with hg | hg; exact (HIN.out g hg).set42 BG.out _ _; rw [List.mem_singleton] at hg; subst hg; exact HNEW.out.set42 BG.out _ _, HKP.out.grown (grownBy_set gn 0 _) (fun k e => .inr (.inl (by injection e with e; exact e.symm))), below_set HBL.out (Nat.le_trans HWR.out HGS.out.1), fun g hg => by rcases List.mem_append.1 hg with hg | hg; exact HFA.out g hg; rw [List.mem_singleton] at hg; subst hg; exact HFN.out⟩
                      case done =>
                        rintro D xs W hD hxs ⟨v, ns, hbx, hR, hns, hin, hkp, hbl, hfar⟩ hDm
                        obtain ⟨gx, cx, ev, _, _, _⟩ := Kd.R_form hR (by rw [List.length_append]; have := HN2'.out; omega)
                        subst ev
                        have hz : W.cell? ⟨gn, 0, none⟩ = some (.slice (some ⟨gx, 0, none⟩) (sv ++ ns).length cx) := (blk_cell hbx 0).trans rfl
                        have HNSL := Aside0.mk (show (sv ++ ns).length ≤ 1048576 by have h1 := congrArg List.length hns; rw [List.length_map, List.length_map, hxs, prsL_len] at h1; have := HI.out.len; have := HSVL.out; rw [List.length_append]; omega)
                        have HR := Aside0.mk hR
                        obtain ⟨nl, hnl⟩ : ∃ nl, (sv ++ ns).length = nl := ⟨_, rfl⟩
                        rw [hnl] at hz
                        have HNL0 := Aside0.mk hnl
                        clear hnl
                        have HNS2 := Aside0.mk hns
                        have HIN := Aside0.mk hin
                        have HKP := Aside0.mk hkp
                        have HBL := Aside0.mk hbl
                        have HFA := Aside0.mk hfar
                        have HDM2 := Aside0.mk hDm
                        have HDD := Aside0.mk hD
                        have HXS := Aside0.mk hxs
                        clear hR hns hin hkp hbl hfar hDm hD hxs hbx
                        go_wp2_with (go_at_call 20; go_loud (have hcc := sorted_calls gx cx w.heap.size _ (sv ++ ns) _ HR.out (next_dm (by have := HJ.out; have := HM.out; omega) HNS2.out HI.out.bnd HSB.out) HNSL.out; rw [HNL0.out] at hcc; refine hcc.mono ?_; clear hcc; rintro e_ w5 ⟨rfl, ⟨Z, hs1, hs2, hro⟩, hg⟩; have hzl := hs2.len.trans HNL0.out; rw [← hzl] at hro; rw [← hzl]; have hn := LevI.next HI.out HJ.out HSB.out HWR.out HB3.out HGN3.out HGS.out.1 HOT.out HDD.out HXS.out HNS2.out HIN.out HKP.out HBL.out HFA.out HDM2.out (Kd.R_base HR.out gx rfl) (HR.out.1 gx rfl) (Kd.R_typed HR.out gx rfl) hs1 hs2 hro hg; have HN5 := Aside0.mk hn; clear hn hro hs1 hs2 hg hzl))
                        rw [val_next j (by have := HJ.out; have := HM.out; omega)]
                        exact ⟨⟨_, _, _, _, _, _, _, _, _, _, j + 1, Z, _, _, HN5.out, rfl⟩, by show m + 1 - (intOf (Value.int .i64 ((j + 1 : Nat) : Int))).toNat < m + 1 - (intOf (Value.int .i64 (j : Int))).toNat; simp only [intOf, Int.toNat_natCast]; have := HJ.out; omega⟩
                      case stop =>
                        rintro D c_ pre W _ _ h _
                        exact h.elim
                    · obtain rfl : j = m := by have := HI.out.le; omega
                      have q0 := eq_false hjm
                      have q0' := eq_false (show ¬ (j : Int) < (j : Int) by omega)
                      clear hjm
                      obtain ⟨n2, hn2⟩ : ∃ n2, 2 * sv.length - 2 = n2 := ⟨_, rfl⟩
                      have HN22 := Aside0.mk hn2
                      have hw2 : wrap64 (wrap64 (2 * (sv.length : Int)) - 2) = (n2 : Int) := by have := HN2'.out; have := HSVL.out; rw [wrap64_id (n := 2 * (sv.length : Int)) (by omega) (by omega), wrap64_id (by omega) (by omega)]; omega
                      have hhl : n2 ≤ hv.length := by have h_ := have_m HI.out.rel (by rw [List.length_map, HNS.out, ← HSL.out]; exact HLE.out); rw [List.length_map, List.length_map] at h_; omega
                      have hcap := (Kd.R_reads' HI.out.hvR).2.1
                      have hn0 : 2 ≤ n2 := by have := HN2'.out; omega
                      clear hn2
                      obtain ⟨gh, ch, evh, _, _, _⟩ := Kd.R_form HI.out.hvR (by omega)
                      injection evh with e1_ _ e2_
                      subst e1_
                      subst e2_
                      have q1 := eq_true (show (n2 : Int) ≤ (c10 : Int) by omega)
                      have q2 := eq_true (show (0 : Int) ≤ (n2 : Int) by omega)
                      have q3 := eq_false (show ¬ c10 = 0 by omega)
                      have HHL := Aside0.mk (show n2 ≤ hv.length ∧ hv.length ≤ c10 ∧ 2 ≤ n2 from ⟨hhl, hcap, hn0⟩)
                      clear hhl hcap hn0
                      have HOI := Aside0.mk (show OutI w go c9 gh c10 l hv ds (outK hv 0 l) wr from ⟨HI.out.outR, HI.out.hvR, HI.out.hvI, fun g hg => HI.out.far g (.inl hg), HI.out.marks, HI.out.below⟩)
                      have HSY := Aside0.mk (show ∀ g ∈ hv, ∀ s ∈ g.l, 0 ≤ s ∧ s < l.length from fun g hg s hs => have_all (P := fun s => 0 ≤ s ∧ s < l.length) (fun p hp s hs => by rcases List.mem_map.1 hp with ⟨q, hq, rfl⟩; have hq2 : pl q ∈ singL l l.length := (by rw [← HS.out]; exact List.mem_map.2 ⟨q, (HS2.out.mem q).1 hq, rfl⟩); obtain ⟨t, ht, e, _⟩ := singL_mem hq2; rw [e] at hs; rw [List.mem_singleton] at hs; subst hs; omega) HI.out.rel (pl g) (List.mem_map.2 ⟨g, hg, rfl⟩) s hs)
                      have hpj : 2 ^ j ≤ 32768 := (Nat.pow_le_pow_right (n := 2) (by omega) (show j ≤ 15 by have := HM.out; omega) : 2 ^ j ≤ 2 ^ 15)
                      have HGL := Aside0.mk (show ∀ g ∈ hv, g.l.length ≤ 32768 from fun g hg => Nat.le_trans (HI.out.bnd g hg).2.2 hpj)
                      have HHN := Aside0.mk (show hv.length ≤ 576 by have := HI.out.len; have := HSVL.out; omega)
                      clear hpj
                      have HIJ := HI
                      clear HI
                      go_wp2
                      go_loopw [109] (fun x109 w' => ∃ k : Nat, k ≤ n2 ∧ x109 = .int .i64 (k : Int) ∧ Aside0 (OutI w go c9 gh c10 l hv ds (outK hv k l) w')) (fun x109 _ => n2 + 1 - (intOf x109).toNat)
                      case atStart => exact ⟨0, by omega, rfl, HOI⟩
                      case round =>
                        clear HOI
                        obtain ⟨k, hk, rfl, HOI⟩ := hrel
                        by_cases hlt : k < n2
                        · have hrow := row_at HOI.out.hvR k (by have := HHL.out; omega)
                          have hmem : rd_T44 hv (k : Int) ∈ hv := by have := HHL.out; unfold rd_T44; rw [Int.toNat_natCast, List.getD_eq_getElem?_getD, List.getElem?_eq_getElem (by omega)]; exact List.getElem_mem _
                          have HOS := Aside0.mk (outK_succ (hv := hv) (k := k) (by have := HHL.out; omega) l)
                          have HBK := Aside0.mk (InB.outK HGL.out k (by have := HHL.out; omega) l)
                          obtain ⟨G, hG⟩ : ∃ G, rd_T44 hv (k : Int) = G := ⟨_, rfl⟩
                          rw [hG] at hrow hmem HOS
                          have HG := Aside0.mk hmem
                          obtain ⟨⟨hr0, hr1⟩, _, _⟩ := hrow
                          have hgn := (HOI.out.hvI G hmem).1
                          clear hG hmem
                          obtain ⟨gw, gA, gn_, gc, gl⟩ := G
                          dsimp only at hr0 hr1 hgn HOS
                          subst hgn
                          have p0 := eq_true (show (k : Int) < (n2 : Int) by omega)
                          have p1 := eq_true (show (0 : Int) ≤ (k : Int) by omega)
                          have p2 := eq_true hlt
                          have HKN := Aside0.mk (show k < n2 ∧ n2 ≤ 576 by have := HHL.out; have := HHN.out; omega)
                          clear hk hlt
                          go_upto_region 33 with fail
                          have HOI2 := Aside0.mk (HOI.out.ahead (below_alloc (Below.refl wr.heap.size wr) (.cells #[.int .i64 gw, .slice gA gl.length gc] 44 (0, 0))))
                          generalize wr.alloc (.cells #[.int .i64 gw, .slice gA gl.length gc] 44 (0, 0)) = wb2 at HOI2 ⊢
                          clear HOI
                          have HOI := HOI2
                          clear HOI2
                          go_loopw [116] (fun x116 w' => ∃ i : Nat, i ≤ gl.length ∧ x116 = .int .i64 (i : Int) ∧ Aside0 (OutI w go c9 gh c10 l hv ds (bumps (outK hv k l) (gl.take i)) w')) (fun x116 _ => gl.length + 1 - (intOf x116).toNat)
                          case atStart => exact ⟨0, by omega, rfl, HOI⟩
                          case round =>
                            clear HOI
                            obtain ⟨i, hi, rfl, HOI⟩ := hrel
                            by_cases hlt : i < gl.length
                            · obtain ⟨ad, ead, hx⟩ := Kd.at_int (HOI.out.hvI _ HG.out).2.1 (i : Int) (by omega) (show (i : Int) < (gl.length : Int) by omega)
                              dsimp only at ead hx
                              subst ead
                              rw [Int.toNat_natCast] at hx
                              have hsm := HSY.out _ HG.out (rd gl (i : Int)) (by unfold rd; rw [Int.toNat_natCast, List.getD_eq_getElem?_getD, List.getElem?_eq_getElem hlt]; exact List.getElem_mem _)
                              have hbs := bumps_succ (out := outK hv k l) hlt
                              obtain ⟨s, hs⟩ : ∃ s : Nat, rd gl (i : Int) = (s : Int) := ⟨(rd gl (i : Int)).toNat, by omega⟩
                              rw [hs] at hx hbs hsm
                              obtain ⟨hz, hf⟩ := HOI.out.cell (s := s) (by omega)
                              have hb := InB.bumps (gl.take i) HBK.out s
                              obtain ⟨ov, hov⟩ : ∃ ov, (bumps (outK hv k l) (gl.take i)).getD s 0 = ov := ⟨_, rfl⟩
                              rw [hov] at hz hb
                              have hw : wrap64 (ov + 1) = ov + 1 := by have h1 := HGL.out _ HG.out; have h2 := HKN.out; have h3 : (gl.take i).length ≤ gl.length := List.length_take_le' _ _; dsimp only at h1; exact wrap64_id (by omega) (by omega)
                              have HP := Aside0.mk (show OutI w go c9 gh c10 l hv ds (bumps (outK hv k l) (gl.take (i + 1))) (wr.setCell ⟨go, s, none⟩ (.int .i64 (ov + 1))) from by rw [hbs]; unfold bump; rw [Int.toNat_natCast, hov]; exact HOI.out.put s (ov + 1))
                              have r0 := eq_true (show (i : Int) < (gl.length : Int) by omega)
                              have r1 := eq_true (show (0 : Int) ≤ (i : Int) by omega)
                              have r2 := eq_true hlt
                              have r3 := eq_true (show (0 : Int) ≤ (s : Int) by omega)
                              have r4 := eq_true (show (s : Int) < (l.length : Int) by omega)
                              have r5 := eq_true (show s < l.length by omega)
                              have HIL := Aside0.mk (show i < gl.length ∧ gl.length ≤ 32768 from ⟨hlt, HGL.out _ HG.out⟩)
                              clear hi hlt hsm hbs hs hb hov HOI
                              go_wp2
                              go_roundw
                              case rel => exact ⟨i + 1, by have := HIL.out; omega, val_next _ (by have := HIL.out; omega), HP⟩
                              case measure => rw [nat_next _ (by have := HIL.out; omega)]; simp only [intOf, Int.toNat_natCast]; have := HIL.out; omega
                            · obtain rfl : i = gl.length := by omega
                              have r0 := eq_false (show ¬ (gl.length : Int) < (gl.length : Int) by omega)
                              have HOI2 := Aside0.mk (show OutI w go c9 gh c10 l hv ds (outK hv (k + 1) l) _ from by have h_ := HOI.out; rw [List.take_length] at h_; rw [HOS.out]; exact h_)
                              clear HOI
                              go_wp2
                              go_roundw
                              case rel => exact ⟨k + 1, by have := HKN.out; omega, val_next _ (by have := HKN.out; omega), HOI2⟩
                              case measure => rw [nat_next _ (by have := HKN.out; omega)]; simp only [intOf, Int.toNat_natCast]; have := HKN.out; omega
                        · obtain rfl : k = n2 := by omega
                          have q0 := eq_false (show ¬ (k : Int) < (k : Int) by omega)
                          go_wp2
                          show LeavesInM _ _ _ _ _ _ ds .returning _
                          refine leaves_marks ds _ HOI.out.marks (fun W' hk1 hk2 hk3 => ?_)
                          have hn2 := HN22.out
                          have hsn : 2 * (singL l l.length).length - 2 = k := by rw [HSL.out, ← HNS.out]; exact hn2
                          refine ⟨_, results_tmp2 rfl _ _ _, _, _, outK hv k l, rfl, ?_, HOI.out.below.trans (hk3 _ (Nat.le_refl _)), .inr ⟨HOF.out, j, rfl, HM.out.1, HM.out.2, .inr ⟨HLE.out, rfl, .inr (.inr ⟨by rw [HSL.out]; exact HN2.out, sv.map pl, hv.map pl, Srt.map (f := pl) (fun _ => rfl) HS1.out, by have h_ := Stb.map (f := pl) (κ' := wP) (fun _ => rfl) HS2.out; rw [HS.out] at h_; exact h_, HIJ.out.rel, by rw [hsn, List.length_map]; exact HHL.out.1, by rw [hsn]; exact outK_eq hv k l⟩)⟩⟩⟩
                          exact HOI.out.shut hk1
  · have hof2 : oftenS l = false := Bool.eq_false_iff.mpr hof
    go_wp2_with (go_at_call 19; have hcc := often_calls A c l _ HR.out; rw [hof2] at hcc; refine hcc.mono ?_; clear hcc; rintro e_ w3 ⟨rfl, hw3⟩; have hw4 := hw3.symm; subst hw4; clear hw3)
    show LeavesInM _ _ _ _ _ _ [] .returning _
    exact ⟨_, results_tmp2 rfl _ _ _, _, _, [], rfl, Kd.R_nil _ _ _ _ _, Below.refl _ _, lenIs_arg (fun hh => hof hh.1)⟩
end
end Go.Proofs.Ytdgpcjhincgijaa.Pr

