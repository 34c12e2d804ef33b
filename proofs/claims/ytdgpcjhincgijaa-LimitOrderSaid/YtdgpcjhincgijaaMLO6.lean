-- Texts by hand and by programs of this session, joined (wip/tool/merge.py).
import Derived.RangeFuncNested
import Derived.RangeFuncBound
import Derived.RangeFuncCalls
import Derived.RangeFuncLeaves
import Derived.RangeFuncBox
import Derived.Shelf.Abstract
import Derived.Shelf.RegionOpen
import Derived.OwnWalkIn
import Derived.TacticsInMore
import Derived.LoopNIn
import Derived.LoopIn
import Derived.Test.YtdgpcjhincgijaaMLO3
import Derived.Test.YtdgpcjhincgijaaMLO5
-- YtdgpcjhincgijaaLm5
namespace Go.Proofs.Ytdgpcjhincgijaa.Pr
open Go.RowKit Go.Shelf Go.Proofs.YtdgpcjhincgijaaW.PrintWords Go.Proofs.YtdgpcjhincgijaaW.PrintLast Go.Proofs.YtdgpcjhincgijaaW.PrintMore
set_option linter.unusedVariables false
set_option linter.unusedSimpArgs false
theorem sing_bnd {l : List Int} {d : List G44} (hb : ∀ k : Nat, k < l.length → 0 ≤ l.getD k 0 ∧ l.getD k 0 ≤ 4294967295) (hs : d.map pl = singL l l.length) : ∀ x ∈ d, 0 ≤ x.f0 ∧ x.f0 ≤ 4294967296 ∧ x.l.length ≤ 1 := fun x hx => by
  have h : pl x ∈ singL l l.length := by rw [← hs]; exact List.mem_map.2 ⟨x, hx, rfl⟩
  obtain ⟨j, hj, e, _⟩ := singL_mem h
  have := hb j hj
  unfold pl at e
  injection e with e1 e2
  rw [e2]
  exact ⟨by omega, by omega, Nat.le_refl _⟩
theorem sing_dm {l : List Int} {d : List G44} (hb : ∀ k : Nat, k < l.length → 0 ≤ l.getD k 0 ∧ l.getD k 0 ≤ 4294967295) (hs : d.map pl = singL l l.length) : ∀ x ∈ d, PDm x := fun x hx => by
  have h : pl x ∈ singL l l.length := by rw [← hs]; exact List.mem_map.2 ⟨x, hx, rfl⟩
  obtain ⟨j, hj, e, _⟩ := singL_mem h
  have := hb j hj
  unfold pl at e
  injection e with e1 e2
  unfold PDm
  omega
theorem often_at {l : List Int} (h : oftenS l = true) : ∀ k : Nat, k < l.length → 0 ≤ l.getD k 0 ∧ l.getD k 0 ≤ 4294967295 := fun k hk => by
  unfold oftenS at h
  rw [Bool.and_eq_true] at h
  have h2 : badL l = false := by simpa using h.2
  unfold badL at h2
  rw [List.any_eq_false] at h2
  have := h2 _ (List.getElem_mem hk)
  unfold badF at this
  rw [List.getD_eq_getElem?_getD, List.getElem?_eq_getElem hk]
  simp at this ⊢
  omega
section
attribute [local go_sem] Oper.semAt_some
/-- What Lengths tells: the number, and the row. -/
def LenPost (l : List Int) (most : Int) (w : World) (e : Ending) (w' : World) : Prop := ∃ (v : Value) (er : Int) (r : List Int), e = .returned (.tuple #[v, .int .i64 er]) ∧ Kd.R (Kd.int .i64) 3 w' w.heap.size (fun _ => True) v r ∧ Below w.heap.size w w' ∧ LenIs l most er r
set_option maxHeartbeats 16000000 in
set_option maxRecDepth 1000000 in
theorem lengths_calls (A : Option Addr) (c : Nat) (l : List Int) (most : Int) (w : World) (hr : (Kd.int .i64).C w A l.length l) (hc : l.length ≤ c) : Calls Try.prog 9 #[.slice A l.length c, .int .i64 most] w (LenPost l most w) := by
  refine (callsIn_wide (n := 3)).1 ?_
  refine callsIn_of_wp_marks Try.func9 rfl trivial ?_ rfl
  refine wpIn_wide.2 ?_
  simp only [Try.ntmps9, List.size_toArray, List.length_cons, List.length_nil, Nat.reduceAdd, Nat.reduceSub, Array.replicate_succ, Array.replicate_zero, List.push_toArray, List.append_toArray, List.nil_append, List.cons_append]
  have hu44 := Try.underlying44
  have HR := Aside0.mk hr
  clear hr
  by_cases hof : oftenS l = true
  · by_cases h1 : most < 1
    · have q1 := eq_true h1
      go_wp2_with (go_at_call 19; have hcc := often_calls A c l _ HR.out; rw [hof] at hcc; refine hcc.mono ?_; clear hcc; rintro e_ w3 ⟨rfl, hw3⟩; have hw4 := hw3.symm; subst hw4; clear hw3)
      show LeavesInM _ _ _ _ _ _ [] .returning _
      exact ⟨_, results_tmp2 rfl _ _ _, _, _, [], rfl, Kd.R_nil _ _ _ _ _, Below.refl _ _, lenIs_arg (fun hh => absurd hh.2.1 (by omega))⟩
    · have q1 := eq_false h1
      by_cases h2 : most > 15
      · have q2 := eq_true h2
        have q3 := eq_true (show (15 : Int) < most from h2)
        go_wp2_with (go_at_call 19; have hcc := often_calls A c l _ HR.out; rw [hof] at hcc; refine hcc.mono ?_; clear hcc; rintro e_ w3 ⟨rfl, hw3⟩; have hw4 := hw3.symm; subst hw4; clear hw3)
        show LeavesInM _ _ _ _ _ _ [] .returning _
        exact ⟨_, results_tmp2 rfl _ _ _, _, _, [], rfl, Kd.R_nil _ _ _ _ _, Below.refl _ _, lenIs_arg (fun hh => absurd hh.2.2 (by omega))⟩
      · have q2 := eq_false h2
        have q3 := eq_false (show ¬ (15 : Int) < most from h2)
        obtain ⟨m, rfl⟩ : ∃ m : Nat, most = (m : Int) := ⟨most.toNat, by omega⟩
        have HM := Aside0.mk (show 1 ≤ m ∧ m ≤ 15 by omega)
        obtain ⟨hl1, hl2⟩ : 1 ≤ l.length ∧ l.length ≤ 288 := by
          unfold oftenS at hof
          rw [Bool.and_eq_true] at hof
          exact of_decide_eq_true hof.1
        have HLL := Aside0.mk (show 1 ≤ l.length ∧ l.length ≤ 288 from ⟨hl1, hl2⟩)
        have HOF := Aside0.mk hof
        have HNB := Aside0.mk (show ∀ k : Nat, k < l.length → 0 ≤ l.getD k 0 ∧ l.getD k 0 ≤ 4294967295 from often_at hof)
        clear h1 h2 hl1 hl2
        go_wp2_with (go_at_call 19; have hcc := often_calls A c l _ HR.out; rw [hof] at hcc; refine hcc.mono ?_; clear hcc; rintro e_ w3 ⟨rfl, hw3⟩; have hw4 := hw3.symm; subst hw4; clear hw3)
        clear hof q1 q2 q3
        go_loopw [6, 31] (fun x6 x31 w' => ∃ (k : Nat) (A6 : Option Addr) (c6 : Nat) (d : List G44), k ≤ l.length ∧ x31 = .int .i64 (k : Int) ∧ x6 = .slice A6 d.length c6 ∧ d.length ≤ k ∧ Aside0 (Kd.R kG 44 w' w.heap.size (fun _ => True) (.slice A6 d.length c6) d) ∧ Aside0 (d.map pl = singL l k) ∧ Aside0 (InAll w' d) ∧ Aside0 (Below w.heap.size w w')) (fun _ x31 _ => l.length + 1 - (intOf x31).toNat)
        case atStart => exact ⟨0, none, 0, [], by omega, rfl, rfl, by simp, ⟨Kd.R_nil _ _ _ _ _⟩, ⟨rfl⟩, ⟨fun g hg => by cases hg⟩, ⟨Below.refl _ _⟩⟩
        case round =>
          obtain ⟨k, A6, c6, d, hk, rfl, rfl, hdk, HD, HS, HI, HB⟩ := hrel
          by_cases hlt : k < l.length
          · obtain ⟨ad, ead, hx0⟩ := Kd.at_int (Kd.C_below HR.out HB.out) (k : Int) (by omega) (by omega)
            subst ead
            rw [Int.toNat_natCast] at hx0
            obtain ⟨x, hx⟩ : ∃ x, l.getD k 0 = x := ⟨_, rfl⟩
            rw [rd_getD, hx] at hx0
            have HSS := Aside0.mk (singL_succ l k)
            have hnb := HNB.out k hlt
            rw [hx] at HSS hnb
            have q0 := eq_true (show (k : Int) < (l.length : Int) by omega)
            have q1 := eq_true (show (0 : Int) ≤ (k : Int) by omega)
            have q2 := eq_true hlt
            have HK := Aside0.mk (show k < l.length ∧ d.length ≤ k by omega)
            by_cases hpos : x > 0
            · have p1 := eq_true (show (0 : Int) < x from hpos)
              rw [if_pos hpos] at HSS
              clear hk hdk hlt hx hpos hnb
              go_wp2_with (first
        | ((with_reducible refine gate_dst (N := 41) rfl ?_); refine Kd.R_lit (Kd.int .i64) (w0 := wr) wr.heap.size 3 ?hg (N := 41) ?hd (xs := ([(k : Int)] : List Int)) (inner := [.int .i64 (k : Int)]) (ok := fun _ => True) (okp := fun _ => True) ?hr ?hp (fun _ hk => hk) trivial (Below.refl _ _) (Nat.le_refl _) (show 1 ≤ 9223372036854775807 by omega) ?_; (case hd => rfl); (case hg => rfl); (case hr => (go_simp; first | done | rfl)); (case hp => exact (Reps.snoc (Reps.none _ _) rfl rfl)); intro v1 w1 ho hb hg hat; obtain ⟨A1, d1, ev_⟩ := Kd.R_slice ho; subst ev_; have hin : InAt w1 ⟨x, A1, 1, d1, [(k : Int)]⟩ := ⟨rfl, (Kd.R_reads' ho).2.2, fun ad e => Kd.R_typed ho ad.block (by rw [show A1 = some ad from e]; rfl)⟩; have n0 := Aside0.mk (hin); have n1 := Aside0.mk (Kd.R_below HD.out hb); have n2 := Aside0.mk (HI.out.below hb); have n3 := Aside0.mk (below_then HB.out HB.out.size hb); clear HD HI HB; have HN := n0; have HD := n1; have HI := n2; have HB := n3; clear n0 n1 n2 n3; clear hin ho hb hg hat)
        | ((with_reducible refine gate_dst (N := 43) rfl ?_); refine Kd.R_lit kG (w0 := w1) w1.heap.size 44 ?hg (N := 43) ?hd (xs := ([(⟨x, A1, 1, d1, [(k : Int)]⟩ : G44)] : List G44)) (inner := [.int .i64 x, .slice A1 1 d1]) (ok := fun _ => True) (okp := fun _ => True) ?hr ?hp (fun _ hk => hk) trivial (Below.refl _ _) (Nat.le_refl _) (show 1 ≤ 9223372036854775807 by omega) ?_; (case hd => rfl); (case hg => rfl); (case hr => (go_simp; first | done | rfl)); (case hp => exact (Reps.snoc (Reps.none _ _) (kG_mkM _ _ _ ⟨x, A1, 1, d1, [(k : Int)]⟩) rfl)); intro v2 w2 ho hb hg hat; obtain ⟨A2, d2, ev_⟩ := Kd.R_slice ho; subst ev_; have n0 := Aside0.mk ((Kd.R_reads' ho).2.2); have n1 := Aside0.mk (HN.out.below hb); have n2 := Aside0.mk (Kd.R_below HD.out hb); have n3 := Aside0.mk (HI.out.below hb); have n4 := Aside0.mk (below_then HB.out HB.out.size hb); clear HN HD HI HB; have HC2 := n0; have HN := n1; have HD := n2; have HI := n3; have HB := n4; clear n0 n1 n2 n3 n4; clear ho hb hg hat)
        | ((with_reducible refine gate_builtin (b := .append) (xs := #[.tmp 38, .tmp 43]) rfl ?_); at_builtin; refine Kd.R_append_rows kG (w0 := w) w.heap.size rfl (.tmp 38) (.tmp 43) 42 44 (.agg #[(.int .i64 0), (.slice none 0 0)]) 32 rfl Try.underlying42 info44 rfl (by decide) (by omega) (.slice A6 d.length c6) d [(⟨x, A1, 1, d1, [(k : Int)]⟩ : G44)] A2 _ _ (fun _ => True) (fun _ => False) rfl rfl ?aO ?aR (fun _ _ h => h) (fun _ h => h.elim) ?aF ?aB ?aS ?aL ?_; (case aR => exact HC2.out); (case aB => exact HB.out); (case aF => exact fun _ _ => trivial); (case aO => exact HD.out); (case aS => exact HB.out.size); (case aL => have := HK.out; have := HLL.out; simp; omega); intro v3 w4 ho hb hg hat; have hty := Kd.R_typed HD.out; obtain ⟨A3, d3, ev_⟩ := Kd.R_slice ho; subst ev_; have n0 := Aside0.mk ((HI.out.append (fun g hg' => by rw [List.mem_singleton] at hg'; subst hg'; exact HN.out)).grown hg hty); have n1 := Aside0.mk (ho); have n2 := Aside0.mk (hb); clear HD HI HB HN HC2; have HI := n0; have HD := n1; have HB := n2; clear n0 n1 n2; clear ho hb hg hat hty)
        )
              go_roundw
              case rel => exact ⟨k + 1, A3, d3, _, by have := HK.out; omega, val_next _ (by have := HK.out; have := HLL.out; omega), by simp, by rw [List.length_append]; have := HK.out; simp; omega, HD, ⟨by rw [List.map_append, HS.out, HSS.out]; rfl⟩, HI, HB⟩
              case measure => rw [nat_next _ (by have := HK.out; have := HLL.out; omega)]; simp only [intOf, Int.toNat_natCast]; have := HK.out; omega
            · have p1 := eq_false (show ¬ (0 : Int) < x from hpos)
              rw [if_neg hpos] at HSS
              clear hk hdk hlt hx hpos hnb
              go_wp2
              go_roundw
              case rel => exact ⟨k + 1, A6, c6, d, by have := HK.out; omega, val_next _ (by have := HK.out; have := HLL.out; omega), rfl, by have := HK.out; omega, HD, ⟨by rw [HS.out, HSS.out]⟩, HI, HB⟩
              case measure => rw [nat_next _ (by have := HK.out; have := HLL.out; omega)]; simp only [intOf, Int.toNat_natCast]; have := HK.out; omega
          · obtain rfl : k = l.length := by omega
            have q0 := eq_false (show ¬ (l.length : Int) < (l.length : Int) by omega)
            have HDL := Aside0.mk hdk
            clear hk hlt hdk
            go_upto_region 11 with ((with_reducible refine gate_dst (N := 48) rfl ?_); refine Kd.R_make (Kd.int .i64) (w0 := w) w.heap.size 3 ?hg (N := 48) ?hd 22 (.tmp 47) (.tmp 47) rfl (l.length : Int) rfl rfl Try.underlying22 (.int .i64 0) 8 info3 rfl (by decide) (by omega) (0 : Int) (ok := fun _ => True) (okp := fun _ => False) rfl (fun _ h => h.elim) trivial ?h0 ?hl HB.out HB.out.size ?_; (case hd => rfl); (case hg => rfl); (case h0 => omega); (case hl => have := HLL.out; omega); intro v1 w1 ho hb hg hat; rw [Int.toNat_natCast] at ho; obtain ⟨go, c9, ev_, hgb, hgl, cells, hcells⟩ := Kd.R_form ho (by rw [List.length_replicate]; have := HLL.out; omega); subst ev_; have hgo : wr.heap.size ≤ go := (by obtain ⟨b, hb1, hb2⟩ := hat; simp [Value.ownBlock] at hb1; omega); rw [List.length_replicate] at ho; have n0 := Aside0.mk (ho); have n1 := Aside0.mk ((fun g hg2 ad e => (fun he => by obtain ⟨cs, hc2⟩ := (HI.out g hg2).2.2 ad e; have := blk_lt hc2; omega) : ∀ g ∈ d, ∀ ad, g.A = some ad → ad.block ≠ go)); have n2 := Aside0.mk (hgo); have n3 := Aside0.mk (Kd.R_grown HD.out hg (fun k _ => by simp)); have n4 := Aside0.mk (HI.out.grown hg (fun r e => by cases e)); have n5 := Aside0.mk (hb); clear HD HI HB; have HOUT := n0; have HNE := n1; have HGO := n2; have HD := n3; have HI := n4; have HB := n5; clear n0 n1 n2 n3 n4 n5; clear ho hb hg hat hgo hgb hgl hcells)
            clear q0
            have hsl : (singL l l.length).length = d.length := by rw [← HS.out, List.length_map]
            have HSL := Aside0.mk hsl
            obtain ⟨p, hp⟩ : ∃ p, 2 ^ m = p := ⟨_, rfl⟩
            have HP := Aside0.mk hp
            have hp2 : p ≤ 32768 := by have := Nat.pow_le_pow_right (n := 2) (by omega) HM.out.2; omega
            have hmm : min m 64 = m := by have := HM.out.2; omega
            have hpi : ((2 : Int) ^ m) = (p : Int) := by rw [← hp, Int.natCast_pow]; rfl
            have hsh : wrap64 ((2 : Int) ^ min m 64) = (p : Int) := by rw [hmm, hpi]; exact wrap64_id (by omega) (by omega)
            clear hmm hpi
            clear hp hsl
            by_cases hov : p < d.length
            · have o1 := eq_true (show (d.length : Int) > (p : Int) by omega)
              have o2 := eq_true (show (p : Int) < (d.length : Int) by omega)
              have o3 := eq_true hov
              clear hp2 o1
              go_wp2
              show LeavesInM _ _ _ _ _ _ [] .returning _
              exact ⟨_, results_tmp2 rfl _ _ _, _, _, [], rfl, Kd.R_nil _ _ _ _ _, HB.out, (.inr ⟨HOF.out, m, rfl, HM.out.1, HM.out.2, .inl ⟨by rw [HSL.out, HP.out]; exact hov, rfl, rfl⟩⟩)⟩
            · have o2 := eq_false (show ¬ (p : Int) < (d.length : Int) by omega)
              have o3 := eq_false hov
              have HLE := Aside0.mk (show (singL l l.length).length ≤ 2 ^ m by rw [HSL.out, HP.out]; omega)
              clear hp2 hov
              by_cases h0 : d.length = 0
              · have e0 : (d.length : Int) = 0 := by omega
                have HZ := Aside0.mk (show singL l l.length = [] from List.eq_nil_of_length_eq_zero (by rw [HSL.out]; exact h0))
                clear h0 o2 o3
                go_wp2
                show LeavesInM _ _ _ _ _ _ [] .returning _
                exact ⟨_, results_tmp2 rfl _ _ _, _, _, zerosL l, rfl, HOUT.out, HB.out, (.inr ⟨HOF.out, m, rfl, HM.out.1, HM.out.2, .inr ⟨HLE.out, rfl, .inl ⟨HZ.out, rfl⟩⟩⟩)⟩
              · by_cases h1 : d.length = 1
                · have e0 : (d.length : Int) = 1 := by omega
                  have o4 := eq_false (show ¬ (p : Int) < 1 by have h_ := Nat.le_trans (Nat.le_of_eq HSL.out.symm) HLE.out; rw [HP.out] at h_; omega)
                  obtain ⟨g, hdg⟩ : ∃ g, d = [g] := List.length_eq_one_iff.1 h1
                  have hpg : pl g ∈ singL l l.length := by rw [← HS.out, hdg]; exact List.mem_singleton.2 rfl
                  obtain ⟨j, hj, hgj, _⟩ := singL_mem hpg
                  have HSI := Aside0.mk (show singL l l.length = [(g.f0, [(j : Int)])] by rw [← HS.out, hdg]; unfold pl at hgj ⊢; rw [List.map_cons, List.map_nil]; injection hgj with h1 h2; rw [h2])
                  have hgl : g.l = [(j : Int)] := by unfold pl at hgj; injection hgj with _ h2
                  have hin := HI.out g (by rw [hdg]; exact List.mem_singleton.2 rfl)
                  obtain ⟨ad6, e6, _, hx1⟩ := at_T44 (Kd.R_reads' HD.out).2.2 (0 : Int) (by omega) (by omega)
                  have hrd : rd_T44 d 0 = g := by rw [hdg]; rfl
                  rw [hrd, show ((0 : Int)).toNat = 0 from rfl, show 0 * 2 = 0 from rfl, Addr.add_zero'] at hx1
                  obtain ⟨hgn, hgC, _⟩ := hin
                  rw [hgl] at hgC hgn
                  obtain ⟨ad7, e7, hy⟩ := Kd.at_int hgC (0 : Int) (by omega) (by simp)
                  rw [show ((0 : Int)).toNat = 0 from rfl, Addr.add_zero'] at hy
                  rw [hgn] at hx1
                  have hy2 : w1.cell? ad7 = some (.int .i64 (j : Int)) := hy
                  rw [e7] at hx1
                  subst e6
                  obtain ⟨hz, hf⟩ := Kd.R_celln 0 HOUT.out (j : Int) (by omega) (by simpa using hj)
                  rw [Int.toNat_natCast] at hz hf
                  have HPUT := Aside0.mk (Kd.R_putg HOUT.out (j : Int) 1)
                  have q1 := eq_true (show (0 : Int) ≤ (j : Int) by omega)
                  have q2 := eq_true (show (j : Int) < (l.length : Int) by omega)
                  have q3 := eq_true hj
                  have HJ := Aside0.mk hj
                  clear h0 h1 hdg hpg hj hgj hgl hgn hgC hrd hy e7
                  go_wp2
                  rw [Int.toNat_natCast] at HPUT
                  have hgb := Kd.R_base HOUT.out go rfl
                  show LeavesInM _ _ _ _ _ _ [] .returning _
                  exact ⟨_, results_tmp2 rfl _ _ _, _, _, (zerosL l).set j 1, rfl, HPUT.out.1, below_set HB.out hgb, (.inr ⟨HOF.out, m, rfl, HM.out.1, HM.out.2, .inr ⟨HLE.out, rfl, .inr (.inl ⟨g.f0, j, HJ.out, HSI.out, rfl⟩)⟩⟩)⟩
                · have e1 := eq_false (show ¬ ((d.length : Int) = 1) by omega)
                  have e2 : ((d.length : Int) == 1) = false := beq_eq_false_iff_ne.mpr (by omega)
                  have e3 := eq_false (show ¬ ((d.length : Int) = 0) by omega)
                  have e4 : ((d.length : Int) == 0) = false := beq_eq_false_iff_ne.mpr (by omega)
                  have e5 := eq_false h1
                  have e6 := eq_false h0
                  have HD5 := Aside0.mk (show d.length ≤ 1048576 by have := HDL.out; have := HLL.out; omega)
                  have HN2 := Aside0.mk (show 2 ≤ d.length by omega)
                  have HDM := Aside0.mk (sing_dm HNB.out HS.out)
                  obtain ⟨g6, c6b, ev6, hg61, hg62, cells6, hcells6⟩ := Kd.R_form HD.out (by omega)
                  injection ev6 with ev6 _ ev7
                  subst ev6
                  subst ev7
                  clear h0 h1 hg61 hg62 hcells6
                  go_wp2_with (go_at_call 20; refine (sorted_calls g6 c6 w.heap.size (fun _ => True) d _ HD.out HDM.out HD5.out).mono ?_; rintro e_ w3 ⟨rfl, ⟨sv, hs1, hs2, hro⟩, hg⟩; have hsl := hs2.len; rw [← hsl] at hro; have hty : ∀ r, some g6 = some r → ∃ cells, w1.heap[r]? = some (.cells cells 44 (0, 0)) := Kd.R_typed HD.out; have n0 := Aside0.mk (hro); have n1 := Aside0.mk (hs1); have n2 := Aside0.mk (hs2); have n3 := Aside0.mk (hsl); have n4 := Aside0.mk ((fun g hg2 => (HI.out g ((hs2.mem g).1 hg2)).grown hg hty : InAll w3 sv)); have n5 := Aside0.mk (ints_grown HOUT.out hg hty); have n6 := Aside0.mk (HB.out.grown hg HB.out.size (fun k e => by injection e with e; subst e; exact Kd.R_base HD.out g6 rfl)); clear HD HI HB HOUT; have HSV := n0; have HS1 := n1; have HS2 := n2; have HNS := n3; have HIS := n4; have HOU := n5; have HBB := n6; clear n0 n1 n2 n3 n4 n5 n6; clear hro hs1 hs2 hg hty hsl)
                  have hdl : d.length = sv.length := by rw [HNS.out]
                  rw [hdl]
                  clear hdl
                  have HSB := Aside0.mk (show SvB sv from fun g hg => by have h_ := sing_bnd HNB.out HS.out g ((HS2.out.mem g).1 hg); omega)
                  have HN2' := Aside0.mk (show 2 ≤ sv.length by rw [HNS.out]; exact HN2.out)
                  have HSVL := Aside0.mk (show sv.length ≤ 288 by rw [HNS.out]; have := HDL.out; have := HLL.out; omega)
                  refine wp_loop (fun a' w' => ∃ (u11 u77 u78 u79 u80 u81 u99 u100 u101 : Value) (ds : List Deferred) (j : Nat) (hv : List G44) (A10 : Option Addr) (c10 : Nat), LevI w (sv.map pl) sv g6 c6 go c9 l m j hv A10 c10 ds w' ∧ a' = { tmps := #[Value.slice A l.length c, Value.int .i64 (m : Int), undef, undef, Value.slice none 0 0, Value.int .i64 0, Value.slice (some ⟨g6, 0, none⟩) sv.length c6, u7, u8, Value.slice (some ⟨go, 0, none⟩) l.length c9, .slice A10 hv.length c10, u11, undef, undef, undef, undef, undef, undef, Value.slice A l.length c, Value.bool true, Value.bool false, Value.bool false, Value.int .i64 (m : Int), Value.bool false, Value.bool false, Value.bool false, Value.int .i64 (m : Int), Value.bool false, Value.bool false, Value.slice A l.length c, Value.int .i64 (l.length : Int), Value.int .i64 (l.length : Int), Value.bool false, u33, u34, u35, u36, u37, u38, u39, u40, u41, u42, u43, u44, u45, Value.slice A l.length c, Value.int .i64 (l.length : Int), Value.slice (some ⟨go, 0, none⟩) l.length c9, Value.bool false, Value.slice (some ⟨g6, 0, none⟩) sv.length c6, Value.int .i64 (sv.length : Int), Value.int .i64 (m : Int), Value.int .i64 (p : Int), Value.bool false, Value.bool false, Value.slice (some ⟨g6, 0, none⟩) sv.length c6, Value.int .i64 (sv.length : Int), Value.bool false, undef, undef, undef, undef, undef, undef, undef, undef, undef, Value.bool false, Value.slice (some ⟨g6, 0, none⟩) sv.length c6, Value.int .i64 (sv.length : Int), Value.bool false, undef, Value.slice (some ⟨g6, 0, none⟩) sv.length c6, Value.slice (some ⟨g6, 0, none⟩) sv.length c6, Value.int .i64 (m : Int), .int .i64 (j : Int), u77, u78, u79, u80, u81, undef, undef, undef, undef, undef, undef, undef, undef, undef, undef, undef, undef, undef, undef, undef, undef, undef, u99, u100, u101, undef, undef, undef, undef, undef, undef, undef, undef, undef, undef, undef, undef, undef, undef, undef, undef, undef, undef, undef, undef, undef, undef, undef, undef, undef, undef, undef], defers := ds }) (fun a' _ => m + 1 - (intOf (a'.tmps.getD 76 undef)).toNat) ?_ ?_
                  · exact ⟨undef, undef, undef, undef, undef, undef, undef, undef, undef, [], 0, [], none, 0, ⟨by omega, .zero, (fun g hg => by cases hg), by simp, Kd.R_nil _ _ _ _ _, (fun g hg => by cases hg), HSV.out, HIS.out, HOU.out, (fun g hg => by rcases hg with hg | hg; (cases hg); exact HNE.out g ((HS2.out.mem g).1 hg)), marks_nil _ _, HBB.out⟩, rfl⟩
                  · rintro _ wr ⟨u11, u77, u78, u79, u80, u81, u99, u100, u101, ds, j, hv, A10, c10, hI, rfl⟩
                    have HI := Aside0.mk hI
                    clear hI
                    by_cases hjm : j < m
                    · have q0 := eq_true (show (j : Int) < (m : Int) by omega)
                      have HJ := Aside0.mk hjm
                      clear hjm
                      go_upto_region 23 with (go_at_call 21; go_loud (refine (clone_calls ⟨g6, 0, none⟩ c6 sv _ (Kd.R_reads' HI.out.svR).2.2 (by have := HSVL.out; omega)).mono ?_; rintro e_ w2 ⟨v_, rfl, ho, hb⟩; obtain ⟨A11, c11, ev_⟩ := Kd.R_slice ho; subst ev_; have HC2 := Aside0.mk ho; have HB2 := Aside0.mk hb; clear ho hb))
                      have hgn := blk_new w2 (.cells #[.slice A11 sv.length c11] 42 (0, 0))
                      have hba := below_alloc (Below.refl w2.heap.size w2) (.cells #[.slice A11 sv.length c11] 42 (0, 0))
                      have hsz : (w2.alloc (.cells #[.slice A11 sv.length c11] 42 (0, 0))).heap.size = w2.heap.size + 1 := by simp only [World.size_alloc]
                      have HGN := Aside0.mk hgn
                      have HBA := Aside0.mk hba
                      have HSZ := Aside0.mk hsz
                      clear hgn hba hsz
                      generalize w2.alloc (.cells #[.slice A11 sv.length c11] 42 (0, 0)) = w3' at HGN HBA HSZ ⊢
                      obtain ⟨gn, hgn⟩ : ∃ gn, w2.heap.size = gn := ⟨_, rfl⟩
                      rw [hgn] at HGN HSZ ⊢
                      have HG2 := Aside0.mk hgn
                      clear hgn
                      go_wp2_with (go_at_call 22; refine (callsIn_wide.1 (prs_in Fence.wide 2 trivial rfl _ _ _ _)).mono ?_; rintro e_ w4 ⟨rfl, hw4⟩; subst hw4)
                      have hpb := blk_new w3' (.cells #[.slice A10 hv.length c10] 42 (0, 0))
                      have hpa := below_alloc (Below.refl w3'.heap.size w3') (.cells #[.slice A10 hv.length c10] 42 (0, 0))
                      obtain ⟨bs, hbs⟩ : ∃ bs, w3'.heap.size = bs := ⟨_, rfl⟩
                      have hbs2 := hbs
                      rw [hbs] at hpb ⊢
                      generalize w3'.alloc (.cells #[.slice A10 hv.length c10] 42 (0, 0)) = W3 at hpb hpa ⊢
                      have b23 := HBA.out
                      have b3 : Below wr.heap.size wr W3 := below_then (below_then HB2.out HB2.out.size b23) (Nat.le_trans HB2.out.size b23.size) hpa
                      have HB3 := Aside0.mk b3
                      have hgn3 := blk_below HGN.out hpa
                      have hgs : wr.heap.size ≤ gn ∧ gn < bs ∧ bs < W3.heap.size := ⟨by rw [← HG2.out]; exact HB2.out.size, by have := HSZ.out; omega, blk_lt hpb⟩
                      obtain ⟨own0, how⟩ : ∃ o, (Value.slice A11 sv.length c11).ownBlock = o := ⟨_, rfl⟩
                      have hot : ∀ k, own0 = some k → wr.heap.size ≤ k ∧ k < gn ∧ ∃ cells, W3.heap[k]? = some (.cells cells 44 (0, 0)) := fun k e => by
                        obtain ⟨cs, hcs⟩ := Kd.R_typed HC2.out k (how.trans e)
                        exact ⟨Kd.R_base HC2.out k (how.trans e), by rw [← HG2.out]; exact blk_lt hcs, cs, blk_below (blk_below hcs b23) hpa⟩
                      have HOT := Aside0.mk hot
                      have HGS := Aside0.mk hgs
                      have HOW := Aside0.mk how
                      have HGN3 := Aside0.mk hgn3
                      have HPB := Aside0.mk hpb
                      have HBS := Aside0.mk hbs2
                      have hwr := HI.out.below.size
                      have HWR := Aside0.mk hwr
                      have HC3 := Aside0.mk (show Kd.R kG 44 W3 w.heap.size (fun k => some k = own0 ∨ W3.heap.size ≤ k) (.slice A11 sv.length c11) sv from Kd.R_mono (Kd.R_tight2 rfl (Kd.R_lower (Kd.R_below (Kd.R_below HC2.out b23) hpa) hwr)) (fun k hk => .inl (by rw [← how]; exact hk.1)))
                      have HL3 := Aside0.mk (show Below w.heap.size w W3 from below_then HI.out.below hwr b3)
                      clear hpb hpa hbs hbs2 b23 b3 hgn3 hgs hot how hwr
                      refine (wpIn_wide (n := 3)).1 ?_
                      refine wpIn_rangeFunc_ownH rfl (by decide) (gf := 35) (lb := #[.pointer (some ⟨bs, 0, none⟩)]) rfl trivial (enters_of Try.func35 (by kernel_rfl) rfl)
                        (prs_stops Fence.wide 2 trivial rfl (by decide) (by kernel_rfl) bs A10 c10 hv (by have := HI.out.len; have := HSVL.out; omega) W3 HGS.out.2.2 (KpN W3.heap.size gn own0) (KpN.refl _ _ _) (fun h k => h.trans k) (fun W => KpN.drew W) ?hkc ((blk_cell HPB.out 0).trans rfl) (Kd.R_reads' (Kd.R_below HI.out.hvR HB3.out)).2.2)
                        (fun h k => h.trans k) (fun W l o o' hl _ _ _ => KpN.put (o := o) hl) (Below.refl _ _) (fun _ => rfl)
                        (fun (pre : List (Prs hv)) W => NxI w W3 gn own0 sv (pre.map Subtype.val) W) (fun _ _ _ => False)
                        (fun pre W W' row h hg hr => nxI_own w W3 gn own0 sv HL3.out.size (pre.map Subtype.val) W W' row h hg hr) (fun c => fun _ _ _ _ h _ _ => h)
                        ⟨.slice A11 sv.length c11, [], HGN3.out, by rw [List.append_nil]; exact HC3.out, rfl, (fun g hg => by cases hg), KpN.refl _ _ _ _, HL3.out, (fun g hg => by cases hg)⟩
                        (fun x a' W => ∃ B1 B2, W.heap[B1]? = some (.cells #[.int .i64 x.1.1.f0, .slice x.1.1.A x.1.1.n x.1.1.c] 44 (0, 0)) ∧ W.heap[B2]? = some (.cells #[.int .i64 x.1.2.f0, .slice x.1.2.A x.1.2.n x.1.2.c] 44 (0, 0)) ∧ a' = { tmps := #[Value.slice A l.length c, Value.int .i64 (m : Int), undef, undef, Value.slice none 0 0, Value.int .i64 0, Value.slice (some ⟨g6, 0, none⟩) sv.length c6, u7, u8, Value.slice (some ⟨go, 0, none⟩) l.length c9, .slice A10 hv.length c10, .pointer (some ⟨gn, 0, none⟩), .pointer (some ⟨B1, 0, none⟩), .pointer (some ⟨B2, 0, none⟩), undef, undef, undef, undef, Value.slice A l.length c, Value.bool true, Value.bool false, Value.bool false, Value.int .i64 (m : Int), Value.bool false, Value.bool false, Value.bool false, Value.int .i64 (m : Int), Value.bool false, Value.bool false, Value.slice A l.length c, Value.int .i64 (l.length : Int), Value.int .i64 (l.length : Int), Value.bool false, u33, u34, u35, u36, u37, u38, u39, u40, u41, u42, u43, u44, u45, Value.slice A l.length c, Value.int .i64 (l.length : Int), Value.slice (some ⟨go, 0, none⟩) l.length c9, Value.bool false, Value.slice (some ⟨g6, 0, none⟩) sv.length c6, Value.int .i64 (sv.length : Int), Value.int .i64 (m : Int), Value.int .i64 (p : Int), Value.bool false, Value.bool false, Value.slice (some ⟨g6, 0, none⟩) sv.length c6, Value.int .i64 (sv.length : Int), Value.bool false, undef, undef, undef, undef, undef, undef, undef, undef, undef, Value.bool false, Value.slice (some ⟨g6, 0, none⟩) sv.length c6, Value.int .i64 (sv.length : Int), Value.bool false, undef, Value.slice (some ⟨g6, 0, none⟩) sv.length c6, Value.slice (some ⟨g6, 0, none⟩) sv.length c6, Value.int .i64 (m : Int), .int .i64 (j : Int), .bool true, .slice (some ⟨g6, 0, none⟩) sv.length c6, .slice A11 sv.length c11, .slice A10 hv.length c10, .func (.func 35) #[] #[.pointer (some ⟨bs, 0, none⟩)], AG x.1.1, AG x.1.2, undef, undef, undef, undef, undef, undef, undef, undef, undef, undef, undef, undef, undef, undef, undef, u99, u100, u101, undef, undef, undef, undef, undef, undef, undef, undef, undef, undef, undef, undef, undef, undef, undef, undef, undef, undef, undef, undef, undef, undef, undef, undef, undef, undef, undef], defers := [] })
                        (fun x a' _ X Y row hs hg hr => by obtain ⟨B1, B2, h1, h2, h3⟩ := hs; exact ⟨B1, B2, blk_grown h1 hg (grown_ne (W' := Y) hr h1), blk_grown h2 hg (grown_ne (W' := Y) hr h2), h3⟩)
                        ?assign ?body ?done ?stop
                      case hkc =>
                        intro W W' hk p v hp hv
                        have hlt : p.block < W3.heap.size ∧ p.block ≠ gn ∧ ∀ k, own0 = some k → p.block ≠ k := by
                          have hg := HGS.out
                          rcases hp with e | ⟨ad, e1, e2⟩
                          · exact ⟨by omega, by omega, fun k hk2 => by have := HOT.out k hk2; omega⟩
                          · obtain ⟨cs, hcs⟩ := Kd.R_typed HI.out.hvR ad.block (by rw [e1]; rfl)
                            have := blk_lt hcs
                            exact ⟨by omega, by omega, fun k hk2 => by have := (HOT.out k hk2).1; omega⟩
                        exact hk.cell hlt.1 hlt.2.1 (fun e => hlt.2.2 _ e.symm rfl) hv
                      case assign =>
                        rintro lp pre ⟨⟨x, y⟩, hxy⟩ W K hNx hK
                        dsimp only [AG]
                        gi_wp2
                        have hb := below_alloc (below_alloc (Below.refl W.heap.size W) (.cells #[.int .i64 x.f0, .slice x.A x.n x.c] 44 (0, 0))) (.cells #[.int .i64 y.f0, .slice y.A y.n y.c] 44 (0, 0))
                        have h2 := blk_new (W.alloc (.cells #[.int .i64 x.f0, .slice x.A x.n x.c] 44 (0, 0))) (.cells #[.int .i64 y.f0, .slice y.A y.n y.c] 44 (0, 0))
                        rw [World.size_alloc] at h2
                        exact hK _ _ (keeps_below (KeepsFrom.refl _ _) hb) ((KpN.refl _ _ _ _).below hb) (OwnFrom.alloc (nxI_own w W3 gn own0 sv HL3.out.size) _ (OwnFrom.alloc (nxI_own w W3 gn own0 sv HL3.out.size) _ hNx)) ⟨W.heap.size, W.heap.size + 1, blk_alloc (blk_new W _) _, h2, rfl⟩
                      case body =>
                        rintro lp pre ⟨⟨x, y⟩, hxy⟩ a' W hl hrr ⟨v, ns, hbx, hR, hns, hin, hkp, hbl, hfar⟩ ⟨B1, B2, hb1, hb2, rfl⟩ hlt
                        dsimp only at hb1 hb2
                        obtain ⟨Av, cv, ev⟩ := Kd.R_slice hR
                        subst ev
                        obtain ⟨nl, hnl⟩ : ∃ nl, (sv ++ ns).length = nl := ⟨_, rfl⟩
                        rw [hnl] at hR hbx
                        have hIx : InAt W x := ((HI.out.hvI x hxy.1).below HB3.out).kp hkp (Nat.le_refl _) ⟨_, HGN3.out⟩ (fun k e => (HOT.out k e).2.2)
                        have hIy : InAt W y := ((HI.out.hvI y hxy.2).below HB3.out).kp hkp (Nat.le_refl _) ⟨_, HGN3.out⟩ (fun k e => (HOT.out k e).2.2)
                        have hbx1 := HI.out.bnd x hxy.1
                        have hby1 := HI.out.bnd y hxy.2
                        have hpj : 2 ^ j ≤ 32768 := (Nat.pow_le_pow_right (n := 2) (by omega) (show j ≤ 15 by have := HJ.out; have := HM.out; omega) : 2 ^ j ≤ 2 ^ 15)
                        have hpz : ((2 : Int) ^ j) ≤ 32768 := by have h_ := Int.ofNat_le.2 hpj; rw [Int.natCast_pow] at h_; exact h_
                        have hadd : wrap64 (x.f0 + y.f0) = x.f0 + y.f0 := wrap64_id (by omega) (by omega)
                        have hadd2 : IntKind.i64.wrap (x.f0 + y.f0) = x.f0 + y.f0 := (i64_w _).trans hadd
                        have HLL2 := Aside0.mk (show x.l.length + y.l.length ≤ 1000000 by omega)
                        have HNL := Aside0.mk hnl
                        have HNSL := Aside0.mk (show nl ≤ 1000 by have h1 := congrArg List.length hns; rw [List.length_map, List.length_map, List.length_map] at h1; have := HI.out.len; have := HSVL.out; rw [List.length_append] at hnl; omega)
                        have HNS2 := Aside0.mk hns
                        have HFA := Aside0.mk hfar
                        clear hfar hnl hns hbx1 hby1 hpj hpz hlt hrr hl
                        gi_wp2
                        have HO := Aside0.mk (Kd.R_drew hR)
                        have BG := Aside0.mk (blk_drew hbx)
                        have BB1 := Aside0.mk (blk_drew hb1)
                        have BB2 := Aside0.mk (blk_drew hb2)
                        have HIN := Aside0.mk (show InAll W.drew ns from hin)
                        have HIX := Aside0.mk (show InAt W.drew x from hIx)
                        have HIY := Aside0.mk (show InAt W.drew y from hIy)
                        have HKP := Aside0.mk (show KpN W3.heap.size gn own0 W3 W.drew from hkp.trans (KpN.drew W))
                        have HKW := Aside0.mk (show KpN W3.heap.size gn own0 W W.drew from KpN.drew W)
                        have HBL := Aside0.mk (below_drew1 hbl)
                        have HKF := Aside0.mk (show KeepsFrom W3.heap.size W W.drew from (KeepsOthers.drew W).from _)
                        clear hR hbx hb1 hb2 hin hIx hIy hkp hbl
                        refine start_in (n := 16) (S := fun w' => w'.cell? ⟨gn, 0, none⟩ = some (.slice Av nl cv) ∧ w'.cell? ⟨B1, 0, none⟩ = some (.int .i64 x.f0) ∧ w'.cell? ⟨B1, 1, none⟩ = some (.slice x.A x.n x.c) ∧ w'.cell? ⟨B2, 0, none⟩ = some (.int .i64 y.f0) ∧ w'.cell? ⟨B2, 1, none⟩ = some (.slice y.A y.n y.c)) (ds := [14, 15]) #[false, false, false, false, false, false, false, false, false, false, false, false, false, false, false, false] (fun ⟨_, _, h⟩ => h) (by kernel_rfl) (by kernel_rfl) rfl rfl ⟨(blk_cell BG.out 0).trans rfl, (blk_cell BB1.out 0).trans rfl, (blk_cell BB1.out 1).trans rfl, (blk_cell BB2.out 0).trans rfl, (blk_cell BB2.out 1).trans rfl⟩ (fun hHeld => ?_)
                        generalize W.drew = wd at HO BG BB1 BB2 HIN HKP HKW HBL HKF HIX HIY hHeld ⊢
                        refine pure_ (i := 1) (N := some 85) (v := ?_) (a' := ?_) #[false, true, false, false, false, false, false, false, false, false, false, false, false, false, false, false] rfl rfl (by kernel_rfl) (fun _ _ _ h => h) (Or.inl ⟨by rfl, ?_⟩) ?_ ?_
                        rotate_left
                        · intro w'
                          go_simp
                          with_reducible rfl
                        rotate_left
                        · simp only [Act.put, List.setIfInBounds_toArray, List.set_cons_zero, List.set_cons_succ, i64_w, i32_w, u8_w]
                          rfl
                        refine pure_ (i := 3) (N := some 87) (v := ?_) (a' := ?_) #[false, true, false, true, false, false, false, false, false, false, false, false, false, false, false, false] rfl rfl (by kernel_rfl) (fun _ _ _ h => h) (Or.inl ⟨by rfl, ?_⟩) ?_ ?_
                        rotate_left
                        · intro w'
                          go_simp
                          with_reducible rfl
                        rotate_left
                        · simp only [Act.put, List.setIfInBounds_toArray, List.set_cons_zero, List.set_cons_succ, i64_w, i32_w, u8_w]
                          rfl
                        refine pure_ (i := 6) (N := some 90) (v := ?_) (a' := ?_) #[false, true, false, true, false, false, true, false, false, false, false, false, false, false, false, false] rfl rfl (by kernel_rfl) (fun _ _ _ h => h) (Or.inl ⟨by rfl, ?_⟩) ?_ ?_
                        rotate_left
                        · intro w'
                          go_simp
                          with_reducible rfl
                        rotate_left
                        · simp only [Act.put, List.setIfInBounds_toArray, List.set_cons_zero, List.set_cons_succ, i64_w, i32_w, u8_w]
                          rfl
                        refine pure_ (i := 8) (N := some 92) (v := ?_) (a' := ?_) #[false, true, false, true, false, false, true, false, true, false, false, false, false, false, false, false] rfl rfl (by kernel_rfl) (fun _ _ _ h => h) (Or.inl ⟨by rfl, ?_⟩) ?_ ?_
                        rotate_left
                        · intro w'
                          go_simp
                          with_reducible rfl
                        rotate_left
                        · simp only [Act.put, List.setIfInBounds_toArray, List.set_cons_zero, List.set_cons_succ, i64_w, i32_w, u8_w]
                          rfl
                        refine take_ (i := 0) (N := some 84) (v := ?_) (a' := ?_) #[true, true, false, true, false, false, true, false, true, false, false, false, false, false, false, false] rfl rfl (by kernel_rfl) (fun _ _ _ h => h) (Or.inl ⟨by rfl, ?_⟩) hHeld ?_ ?_
                        rotate_left
                        · rintro w' ⟨s0, s1, s2, s3, s4⟩
                          go_simp
                          with_reducible rfl
                        rotate_left
                        · simp only [Act.put, List.setIfInBounds_toArray, List.set_cons_zero, List.set_cons_succ, i64_w, i32_w, u8_w]
                          rfl
                        refine take_ (i := 2) (N := some 86) (v := ?_) (a' := ?_) #[true, true, true, true, false, false, true, false, true, false, false, false, false, false, false, false] rfl rfl (by kernel_rfl) (fun _ _ _ h => h) (Or.inl ⟨by rfl, ?_⟩) hHeld ?_ ?_
                        rotate_left
                        · rintro w' ⟨s0, s1, s2, s3, s4⟩
                          go_simp
                          with_reducible rfl
                        rotate_left
                        · simp only [Act.put, List.setIfInBounds_toArray, List.set_cons_zero, List.set_cons_succ, i64_w, i32_w, u8_w]
                          rfl
                        refine take_ (i := 4) (N := some 88) (v := ?_) (a' := ?_) #[true, true, true, true, true, false, true, false, true, false, false, false, false, false, false, false] rfl rfl (by kernel_rfl) (fun _ _ _ h => h) (Or.inl ⟨by rfl, ?_⟩) hHeld ?_ ?_
                        rotate_left
                        · rintro w' ⟨s0, s1, s2, s3, s4⟩
                          go_simp
                          with_reducible rfl
                        rotate_left
                        · simp only [Act.put, List.setIfInBounds_toArray, List.set_cons_zero, List.set_cons_succ, i64_w, i32_w, u8_w]
                          rfl
                        refine pure_ (i := 5) (N := some 89) (v := ?_) (a' := ?_) #[true, true, true, true, true, true, true, false, true, false, false, false, false, false, false, false] rfl rfl (by kernel_rfl) (fun _ _ _ h => h) (Or.inl ⟨by rfl, ?_⟩) ?_ ?_
                        rotate_left
                        · intro w'
                          go_simp
                          with_reducible rfl
                        rotate_left
                        · simp only [Act.put, List.setIfInBounds_toArray, List.set_cons_zero, List.set_cons_succ, i64_w, i32_w, u8_w]
                          rfl
                        refine take_ (i := 7) (N := some 91) (v := ?_) (a' := ?_) #[true, true, true, true, true, true, true, true, true, false, false, false, false, false, false, false] rfl rfl (by kernel_rfl) (fun _ _ _ h => h) (Or.inl ⟨by rfl, ?_⟩) hHeld ?_ ?_
                        rotate_left
                        · rintro w' ⟨s0, s1, s2, s3, s4⟩
                          go_simp
                          with_reducible rfl
                        rotate_left
                        · simp only [Act.put, List.setIfInBounds_toArray, List.set_cons_zero, List.set_cons_succ, i64_w, i32_w, u8_w]
                          rfl
                        refine take_ (i := 9) (N := some 93) (v := ?_) (a' := ?_) #[true, true, true, true, true, true, true, true, true, true, false, false, false, false, false, false] rfl rfl (by kernel_rfl) (fun _ _ _ h => h) (Or.inl ⟨by rfl, ?_⟩) hHeld ?_ ?_
                        rotate_left
                        · rintro w' ⟨s0, s1, s2, s3, s4⟩
                          go_simp
                          with_reducible rfl
                        rotate_left
                        · simp only [Act.put, List.setIfInBounds_toArray, List.set_cons_zero, List.set_cons_succ, i64_w, i32_w, u8_w]
                          rfl
                        refine one_ (i := 10) (N := some 94) #[true, true, true, true, true, true, true, true, true, true, true, false, false, false, false, false] rfl rfl (by kernel_rfl) (by decide) (fun K hK => ?_)
                        refine value_ (w1 := ?_) (v := ?_) (by rfl) rfl ?_ ?_
                        rotate_left 2
                        · go_simp
                          constructor
                          · rfl
                          · rfl
                        have hb := below_alloc (Below.refl wd.heap.size wd) (.cells #[.slice x.A x.n x.c, .slice y.A y.n y.c] 22 (0, 0))
                        have hrow := blk_new wd (.cells #[.slice x.A x.n x.c, .slice y.A y.n y.c] 22 (0, 0))
                        obtain ⟨r0, hr0⟩ : ∃ r0, wd.heap.size = r0 := ⟨_, rfl⟩
                        rw [hr0] at hrow ⊢
                        generalize wd.alloc (.cells #[.slice x.A x.n x.c, .slice y.A y.n y.c] 22 (0, 0)) = w5 at hb hrow ⊢
                        have n0 := Aside0.mk (Kd.R_below HO.out hb)
                        have n1 := Aside0.mk (blk_below BG.out hb)
                        have n2 := Aside0.mk (blk_below BB1.out hb)
                        have n3 := Aside0.mk (blk_below BB2.out hb)
                        have n4 := Aside0.mk (HIN.out.below hb)
                        have n5 := Aside0.mk (HKP.out.below hb)
                        have n6 := Aside0.mk (HKW.out.below hb)
                        have n7 := Aside0.mk (below_then HBL.out HBL.out.size hb)
                        have n8 := Aside0.mk (keeps_below HKF.out hb)
                        have n9 := Aside0.mk (hrow)
                        have n10 := Aside0.mk (HIX.out.below hb)
                        have n11 := Aside0.mk (HIY.out.below hb)
                        clear HO BG BB1 BB2 HIN HKP HKW HBL HKF HIX HIY
                        have HO := n0
                        have BG := n1
                        have BB1 := n2
                        have BB2 := n3
                        have HIN := n4
                        have HKP := n5
                        have HKW := n6
                        have HBL := n7
                        have HKF := n8
                        have HROW := n9
                        have HIX := n10
                        have HIY := n11
                        clear n0 n1 n2 n3 n4 n5 n6 n7 n8 n9 n10 n11
                        clear hb hrow hr0
                        refine hK.out _ _ ⟨(blk_cell BG.out 0).trans rfl, (blk_cell BB1.out 0).trans rfl, (blk_cell BB1.out 1).trans rfl, (blk_cell BB2.out 0).trans rfl, (blk_cell BB2.out 1).trans rfl⟩ (fun hHeld => ?_)
                        clear hK K
                        refine norm_ (a' := ?_) ?_ ?_
                        rotate_left
                        · show Act.put _ (some 94) _ = _
                          simp only [Act.put, List.setIfInBounds_toArray, List.set_cons_zero, List.set_cons_succ, i64_w, i32_w, u8_w]
                          rfl
                        refine one_ (i := 11) (N := some 95) #[true, true, true, true, true, true, true, true, true, true, true, true, false, false, false, false] rfl rfl (by kernel_rfl) (by decide) (fun K hK => ?_)
                        refine goes_ Try.func23 (by kernel_rfl) rfl #[.slice (some ⟨r0, 0, none⟩) 2 2] (by rfl) rfl rfl (by simp only [List.map_toArray, List.map_cons, List.map_nil]; rfl) ?_
                        with_reducible refine (concat2_calls ⟨r0, 0, none⟩ 2 x.A y.A x.c y.c x.l y.l _ (two_at0 HIX.out HIY.out HROW.out).1 (two_at0 HIX.out HIY.out HROW.out).2 HIX.out.row HIY.out.row HLL2.out).mono ?_
                        rintro e_ w6 ⟨v6, rfl, ho, hb⟩
                        refine ⟨_, rfl, ?_⟩
                        obtain ⟨A7, c7, ev7⟩ := Kd.R_slice ho
                        subst ev7
                        obtain ⟨ln, hln⟩ : ∃ ln, (x.l ++ y.l).length = ln := ⟨_, rfl⟩
                        have hnew : InAt w6 ⟨x.f0 + y.f0, A7, ln, c7, x.l ++ y.l⟩ := ⟨hln.symm, (Kd.R_reads' ho).2.2, fun ad e => Kd.R_typed ho ad.block (by rw [show A7 = some ad from e]; rfl)⟩
                        rw [hln]
                        have n0 := Aside0.mk (Kd.R_below HO.out hb)
                        have n1 := Aside0.mk (blk_below BG.out hb)
                        have n2 := Aside0.mk (blk_below BB1.out hb)
                        have n3 := Aside0.mk (blk_below BB2.out hb)
                        have n4 := Aside0.mk (HIN.out.below hb)
                        have n5 := Aside0.mk (HKP.out.below hb)
                        have n6 := Aside0.mk (HKW.out.below hb)
                        have n7 := Aside0.mk (below_then HBL.out HBL.out.size hb)
                        have n8 := Aside0.mk (keeps_below HKF.out hb)
                        have n9 := Aside0.mk (hnew)
                        have n10 := Aside0.mk ((fun ad e => Nat.le_trans HKP.out.1 (Kd.R_base ho ad.block (by rw [show A7 = some ad from e]; rfl)) : ∀ ad, A7 = some ad → W3.heap.size ≤ ad.block))
                        clear HO BG BB1 BB2 HIN HKP HKW HBL HKF HIX HIY HROW
                        have HO := n0
                        have BG := n1
                        have BB1 := n2
                        have BB2 := n3
                        have HIN := n4
                        have HKP := n5
                        have HKW := n6
                        have HBL := n7
                        have HKF := n8
                        have HNEW := n9
                        have HFN := n10
                        clear n0 n1 n2 n3 n4 n5 n6 n7 n8 n9 n10
                        clear hb ho hnew hln
                        refine hK.out _ _ ⟨(blk_cell BG.out 0).trans rfl, (blk_cell BB1.out 0).trans rfl, (blk_cell BB1.out 1).trans rfl, (blk_cell BB2.out 0).trans rfl, (blk_cell BB2.out 1).trans rfl⟩ (fun hHeld => ?_)
                        clear hK K
                        refine norm_ (a' := ?_) ?_ ?_
                        rotate_left
                        · show Act.put _ (some 95) _ = _
                          simp only [Act.put, List.setIfInBounds_toArray, List.set_cons_zero, List.set_cons_succ, i64_w, i32_w, u8_w]
                          rfl
                        refine pure_ (i := 12) (N := some 96) (v := ?_) (a' := ?_) #[true, true, true, true, true, true, true, true, true, true, true, true, true, false, false, false] rfl rfl (by kernel_rfl) (fun _ _ _ h => h) (Or.inl ⟨by rfl, ?_⟩) ?_ ?_
                        rotate_left
                        · intro w'
                          go_simp
                          with_reducible rfl
                        rotate_left
                        · simp only [Act.put, List.setIfInBounds_toArray, List.set_cons_zero, List.set_cons_succ, i64_w, i32_w, u8_w]
                          rfl
                        refine one_ (i := 13) (N := some 97) #[true, true, true, true, true, true, true, true, true, true, true, true, true, true, false, false] rfl rfl (by kernel_rfl) (by decide) (fun K hK => ?_)
                        refine Kd.R_lit_step kG _ 44 ?hg (N := 97) ?hd (xs := ([(⟨x.f0 + y.f0, A7, ln, c7, x.l ++ y.l⟩ : G44)] : List G44)) (inner := [.int .i64 (x.f0 + y.f0), .slice A7 ln c7]) (ok := fun _ => True) (okp := fun _ => True) ?hr ?hp (fun _ hk => hk) trivial (Below.refl _ _) (Nat.le_refl _) (show 1 ≤ 9223372036854775807 by omega) ?_; (case hd => rfl); (case hg => rfl); (case hr => (go_simp; first | done | rfl)); (case hp => exact (Reps.snoc (Reps.none _ _) (kG_mkM _ _ _ (⟨x.f0 + y.f0, A7, ln, c7, x.l ++ y.l⟩ : G44)) rfl))
                        intro v8 w8 ho8 hb hg_ hnew_
                        obtain ⟨A8, c8, eo8⟩ := Kd.R_slice ho8
                        subst eo8
                        have n0 := Aside0.mk (Kd.R_below HO.out hb)
                        have n1 := Aside0.mk (blk_below BG.out hb)
                        have n2 := Aside0.mk (blk_below BB1.out hb)
                        have n3 := Aside0.mk (blk_below BB2.out hb)
                        have n4 := Aside0.mk (HIN.out.below hb)
                        have n5 := Aside0.mk (HKP.out.below hb)
                        have n6 := Aside0.mk (HKW.out.below hb)
                        have n7 := Aside0.mk (below_then HBL.out HBL.out.size hb)
                        have n8 := Aside0.mk (keeps_below HKF.out hb)
                        have n9 := Aside0.mk ((Kd.R_reads' ho8).2.2)
                        have n10 := Aside0.mk (HNEW.out.below hb)
                        clear HO BG BB1 BB2 HIN HKP HKW HBL HKF HNEW
                        have HO := n0
                        have BG := n1
                        have BB1 := n2
                        have BB2 := n3
                        have HIN := n4
                        have HKP := n5
                        have HKW := n6
                        have HBL := n7
                        have HKF := n8
                        have HC8 := n9
                        have HNEW := n10
                        clear n0 n1 n2 n3 n4 n5 n6 n7 n8 n9 n10
                        clear hb hg_ hnew_ ho8
                        refine hK.out _ _ ⟨(blk_cell BG.out 0).trans rfl, (blk_cell BB1.out 0).trans rfl, (blk_cell BB1.out 1).trans rfl, (blk_cell BB2.out 0).trans rfl, (blk_cell BB2.out 1).trans rfl⟩ (fun hHeld => ?_)
                        clear hK K
                        refine norm_ (a' := ?_) ?_ ?_
                        rotate_left
                        · show Act.put _ (some 97) _ = _
                          simp only [Act.put, List.setIfInBounds_toArray, List.set_cons_zero, List.set_cons_succ, i64_w, i32_w, u8_w]
                          rfl
                        refine last_ (i := 14) (N := some 98) #[true, true, true, true, true, true, true, true, true, true, true, true, true, true, true, false] rfl rfl (by kernel_rfl) (by decide) (fun K hK => ?_)
                        refine Kd.R_append_rows_step kG (w0 := w) w.heap.size (by rfl) (.tmp 84) (.tmp 97) 42 44 (.agg #[(.int .i64 0), (.slice none 0 0)]) 32 rfl Try.underlying42 info44 rfl (by decide) (by omega) (.slice Av nl cv) (sv ++ ns) [(⟨x.f0 + y.f0, A7, ln, c7, x.l ++ y.l⟩ : G44)] _ _ _ (fun k => some k = own0 ∨ W3.heap.size ≤ k) (fun _ => False) rfl rfl HO.out HC8.out (fun _ _ h => h) (fun _ h => h.elim) (fun k hk => .inr (Nat.le_trans HKP.out.1 hk)) HBL.out HBL.out.size ?aL ?_
                        (case aL => have := HNSL.out; have h_ := HNL.out; rw [List.length_append] at h_ ⊢; simp only [List.length_cons, List.length_nil]; omega)
                        intro v9 w9 ho hb hg hat
                        have hty := Kd.R_typed HO.out
                        have hown := HO.out.1
                        have hne := Kd.R_ne HO.out BG.out (by decide)
                        have n0 := Aside0.mk (HKP.out.grown hg (fun k e => by rcases hown k e with h | h; exact .inr (.inr h); exact .inl h))
                        have n1 := Aside0.mk (HKW.out.grown hg (fun k e => by rcases hown k e with h | h; exact .inr (.inr h); exact .inl h))
                        have n2 := Aside0.mk (keeps_grown HKF.out hg hty)
                        have n3 := Aside0.mk (blk_grown BG.out hg hne)
                        have n4 := Aside0.mk (HIN.out.grown hg hty)
                        have n5 := Aside0.mk (HNEW.out.grown hg hty)
                        have n6 := Aside0.mk (ho)
                        have n7 := Aside0.mk (hb)
                        clear HKP HKW HKF BG HIN HNEW HO HBL BB1 BB2 HC8
                        have HKP := n0
                        have HKW := n1
                        have HKF := n2
                        have BG := n3
                        have HIN := n4
                        have HNEW := n5
                        have HO := n6
                        have HBL := n7
                        clear n0 n1 n2 n3 n4 n5 n6 n7
                        clear ho hb hg hat hty hown hne
                        obtain ⟨A9, c9', eo9⟩ := Kd.R_slice HO.out
                        subst eo9
                        refine hK.out _ _ ?_
                        clear hK K
                        refine norm_ (a' := ?_) ?_ ?_
                        rotate_left
                        · show Act.put _ (some 98) _ = _
                          simp only [Act.put, List.setIfInBounds_toArray, List.set_cons_zero, List.set_cons_succ, i64_w, i32_w, u8_w]
                          rfl
                        refine last_ (i := 15) (N := none) #[true, true, true, true, true, true, true, true, true, true, true, true, true, true, true, true] rfl rfl (by kernel_rfl) (by decide) (fun K hK => ?_)
                        have hz : w9.cell? ⟨gn, 0, none⟩ = some (.slice Av nl cv) := (blk_cell BG.out 0).trans rfl
                        have hf := blk_frozen BG.out 0
                        refine skip_ (w1 := ?_) (by rfl) rfl ?_ ?_
                        rotate_left
                        · go_simp
                          rfl
                        refine hK.out _ _ ?_
                        clear hK K
                        refine done_ (by kernel_rfl) ?_
                        gi_wp2
                        exact ⟨HKF.out.trans ((KeepsOthers.setCell _ _ _).from _), HKW.out.grown (grownBy_set gn 0 _) (fun k e => .inr (.inl (by injection e with e; exact e.symm))), _, ns ++ [(⟨x.f0 + y.f0, A7, ln, c7, x.l ++ y.l⟩ : G44)], blk_set BG.out 0 _, by rw [← List.append_assoc]; have ho_ := HO.out; rw [List.length_append, List.length_append, List.length_singleton, Nat.add_assoc] at ho_; exact Kd.R_mono (Kd.R_far (p := ⟨gn, 0, none⟩) (Kd.R_types ho_ BG.out (by decide)) (fun _ hk => hk.2) _) (fun _ hk => hk.1), by rw [List.map_append, List.map_append, List.map_append, HNS2.out]; rfl, fun g hg => by rcases List.mem_append.1 hg with hg | hg; exact (HIN.out g hg).set42 BG.out _ _; rw [List.mem_singleton] at hg; subst hg; exact HNEW.out.set42 BG.out _ _, HKP.out.grown (grownBy_set gn 0 _) (fun k e => .inr (.inl (by injection e with e; exact e.symm))), below_set HBL.out (Nat.le_trans HWR.out HGS.out.1), fun g hg => by rcases List.mem_append.1 hg with hg | hg; exact HFA.out g hg; rw [List.mem_singleton] at hg; subst hg; exact HFN.out⟩
                      case done =>
                        rintro D xs W hD hxs ⟨v, ns, hbx, hR, hns, hin, hkp, hbl, hfar⟩ hDm
                        obtain ⟨gx, cx, ev, _, _, _⟩ := Kd.R_form hR (by rw [List.length_append]; have := HN2'.out; omega)
                        subst ev
                        have hz : W.cell? ⟨gn, 0, none⟩ = some (.slice (some ⟨gx, 0, none⟩) (sv ++ ns).length cx) := (blk_cell hbx 0).trans rfl
                        have HNSL := Aside0.mk (show (sv ++ ns).length ≤ 1048576 by have h1 := congrArg List.length hns; rw [List.length_map, List.length_map, hxs, prsL_len] at h1; have := HI.out.len; have := HSVL.out; rw [List.length_append]; omega)
                        have HR := Aside0.mk hR
                        obtain ⟨nl, hnl⟩ : ∃ nl, (sv ++ ns).length = nl := ⟨_, rfl⟩
                        rw [hnl] at hz
                        have HNL0 := Aside0.mk hnl
                        clear hnl
                        have HNS2 := Aside0.mk hns
                        have HIN := Aside0.mk hin
                        have HKP := Aside0.mk hkp
                        have HBL := Aside0.mk hbl
                        have HFA := Aside0.mk hfar
                        have HDM2 := Aside0.mk hDm
                        have HDD := Aside0.mk hD
                        have HXS := Aside0.mk hxs
                        clear hR hns hin hkp hbl hfar hDm hD hxs hbx
                        go_wp2_with (go_at_call 20; go_loud (have hcc := sorted_calls gx cx w.heap.size _ (sv ++ ns) _ HR.out (next_dm (by have := HJ.out; have := HM.out; omega) HNS2.out HI.out.bnd HSB.out) HNSL.out; rw [HNL0.out] at hcc; refine hcc.mono ?_; clear hcc; rintro e_ w5 ⟨rfl, ⟨Z, hs1, hs2, hro⟩, hg⟩; have hzl := hs2.len.trans HNL0.out; rw [← hzl] at hro; rw [← hzl]; have hn := LevI.next HI.out HJ.out HSB.out HWR.out HB3.out HGN3.out HGS.out.1 HOT.out HDD.out HXS.out HNS2.out HIN.out HKP.out HBL.out HFA.out HDM2.out (Kd.R_base HR.out gx rfl) (HR.out.1 gx rfl) (Kd.R_typed HR.out gx rfl) hs1 hs2 hro hg; have HN5 := Aside0.mk hn; clear hn hro hs1 hs2 hg hzl))
                        rw [val_next j (by have := HJ.out; have := HM.out; omega)]
                        exact ⟨⟨_, _, _, _, _, _, _, _, _, _, j + 1, Z, _, _, HN5.out, rfl⟩, by show m + 1 - (intOf (Value.int .i64 ((j + 1 : Nat) : Int))).toNat < m + 1 - (intOf (Value.int .i64 (j : Int))).toNat; simp only [intOf, Int.toNat_natCast]; have := HJ.out; omega⟩
                      case stop =>
                        rintro D c_ pre W _ _ h _
                        exact h.elim
                    · obtain rfl : j = m := by have := HI.out.le; omega
                      have q0 := eq_false hjm
                      have q0' := eq_false (show ¬ (j : Int) < (j : Int) by omega)
                      clear hjm
                      obtain ⟨n2, hn2⟩ : ∃ n2, 2 * sv.length - 2 = n2 := ⟨_, rfl⟩
                      have HN22 := Aside0.mk hn2
                      have hw2 : wrap64 (wrap64 (2 * (sv.length : Int)) - 2) = (n2 : Int) := by have := HN2'.out; have := HSVL.out; rw [wrap64_id (n := 2 * (sv.length : Int)) (by omega) (by omega), wrap64_id (by omega) (by omega)]; omega
                      have hhl : n2 ≤ hv.length := by have h_ := have_m HI.out.rel (by rw [List.length_map, HNS.out, ← HSL.out]; exact HLE.out); rw [List.length_map, List.length_map] at h_; omega
                      have hcap := (Kd.R_reads' HI.out.hvR).2.1
                      have hn0 : 2 ≤ n2 := by have := HN2'.out; omega
                      clear hn2
                      obtain ⟨gh, ch, evh, _, _, _⟩ := Kd.R_form HI.out.hvR (by omega)
                      injection evh with e1_ _ e2_
                      subst e1_
                      subst e2_
                      have q1 := eq_true (show (n2 : Int) ≤ (c10 : Int) by omega)
                      have q2 := eq_true (show (0 : Int) ≤ (n2 : Int) by omega)
                      have q3 := eq_false (show ¬ c10 = 0 by omega)
                      have HHL := Aside0.mk (show n2 ≤ hv.length ∧ hv.length ≤ c10 ∧ 2 ≤ n2 from ⟨hhl, hcap, hn0⟩)
                      clear hhl hcap hn0
                      have HOI := Aside0.mk (show OutI w go c9 gh c10 l hv ds (outK hv 0 l) wr from ⟨HI.out.outR, HI.out.hvR, HI.out.hvI, fun g hg => HI.out.far g (.inl hg), HI.out.marks, HI.out.below⟩)
                      have HSY := Aside0.mk (show ∀ g ∈ hv, ∀ s ∈ g.l, 0 ≤ s ∧ s < l.length from fun g hg s hs => have_all (P := fun s => 0 ≤ s ∧ s < l.length) (fun p hp s hs => by rcases List.mem_map.1 hp with ⟨q, hq, rfl⟩; have hq2 : pl q ∈ singL l l.length := (by rw [← HS.out]; exact List.mem_map.2 ⟨q, (HS2.out.mem q).1 hq, rfl⟩); obtain ⟨t, ht, e, _⟩ := singL_mem hq2; rw [e] at hs; rw [List.mem_singleton] at hs; subst hs; omega) HI.out.rel (pl g) (List.mem_map.2 ⟨g, hg, rfl⟩) s hs)
                      have hpj : 2 ^ j ≤ 32768 := (Nat.pow_le_pow_right (n := 2) (by omega) (show j ≤ 15 by have := HM.out; omega) : 2 ^ j ≤ 2 ^ 15)
                      have HGL := Aside0.mk (show ∀ g ∈ hv, g.l.length ≤ 32768 from fun g hg => Nat.le_trans (HI.out.bnd g hg).2.2 hpj)
                      have HHN := Aside0.mk (show hv.length ≤ 576 by have := HI.out.len; have := HSVL.out; omega)
                      clear hpj
                      have HIJ := HI
                      clear HI
                      go_wp2
                      go_loopw [109] (fun x109 w' => ∃ k : Nat, k ≤ n2 ∧ x109 = .int .i64 (k : Int) ∧ Aside0 (OutI w go c9 gh c10 l hv ds (outK hv k l) w')) (fun x109 _ => n2 + 1 - (intOf x109).toNat)
                      case atStart => exact ⟨0, by omega, rfl, HOI⟩
                      case round =>
                        clear HOI
                        obtain ⟨k, hk, rfl, HOI⟩ := hrel
                        by_cases hlt : k < n2
                        · have hrow := row_at HOI.out.hvR k (by have := HHL.out; omega)
                          have hmem : rd_T44 hv (k : Int) ∈ hv := by have := HHL.out; unfold rd_T44; rw [Int.toNat_natCast, List.getD_eq_getElem?_getD, List.getElem?_eq_getElem (by omega)]; exact List.getElem_mem _
                          have HOS := Aside0.mk (outK_succ (hv := hv) (k := k) (by have := HHL.out; omega) l)
                          have HBK := Aside0.mk (InB.outK HGL.out k (by have := HHL.out; omega) l)
                          obtain ⟨G, hG⟩ : ∃ G, rd_T44 hv (k : Int) = G := ⟨_, rfl⟩
                          rw [hG] at hrow hmem HOS
                          have HG := Aside0.mk hmem
                          obtain ⟨⟨hr0, hr1⟩, _, _⟩ := hrow
                          have hgn := (HOI.out.hvI G hmem).1
                          clear hG hmem
                          obtain ⟨gw, gA, gn_, gc, gl⟩ := G
                          dsimp only at hr0 hr1 hgn HOS
                          subst hgn
                          have p0 := eq_true (show (k : Int) < (n2 : Int) by omega)
                          have p1 := eq_true (show (0 : Int) ≤ (k : Int) by omega)
                          have p2 := eq_true hlt
                          have HKN := Aside0.mk (show k < n2 ∧ n2 ≤ 576 by have := HHL.out; have := HHN.out; omega)
                          clear hk hlt
                          go_upto_region 33 with fail
                          have HOI2 := Aside0.mk (HOI.out.ahead (below_alloc (Below.refl wr.heap.size wr) (.cells #[.int .i64 gw, .slice gA gl.length gc] 44 (0, 0))))
                          generalize wr.alloc (.cells #[.int .i64 gw, .slice gA gl.length gc] 44 (0, 0)) = wb2 at HOI2 ⊢
                          clear HOI
                          have HOI := HOI2
                          clear HOI2
                          go_loopw [116] (fun x116 w' => ∃ i : Nat, i ≤ gl.length ∧ x116 = .int .i64 (i : Int) ∧ Aside0 (OutI w go c9 gh c10 l hv ds (bumps (outK hv k l) (gl.take i)) w')) (fun x116 _ => gl.length + 1 - (intOf x116).toNat)
                          case atStart => exact ⟨0, by omega, rfl, HOI⟩
                          case round =>
                            clear HOI
                            obtain ⟨i, hi, rfl, HOI⟩ := hrel
                            by_cases hlt : i < gl.length
                            · obtain ⟨ad, ead, hx⟩ := Kd.at_int (HOI.out.hvI _ HG.out).2.1 (i : Int) (by omega) (show (i : Int) < (gl.length : Int) by omega)
                              dsimp only at ead hx
                              subst ead
                              rw [Int.toNat_natCast] at hx
                              have hsm := HSY.out _ HG.out (rd gl (i : Int)) (by unfold rd; rw [Int.toNat_natCast, List.getD_eq_getElem?_getD, List.getElem?_eq_getElem hlt]; exact List.getElem_mem _)
                              have hbs := bumps_succ (out := outK hv k l) hlt
                              obtain ⟨s, hs⟩ : ∃ s : Nat, rd gl (i : Int) = (s : Int) := ⟨(rd gl (i : Int)).toNat, by omega⟩
                              rw [hs] at hx hbs hsm
                              obtain ⟨hz, hf⟩ := HOI.out.cell (s := s) (by omega)
                              have hb := InB.bumps (gl.take i) HBK.out s
                              obtain ⟨ov, hov⟩ : ∃ ov, (bumps (outK hv k l) (gl.take i)).getD s 0 = ov := ⟨_, rfl⟩
                              rw [hov] at hz hb
                              have hw : wrap64 (ov + 1) = ov + 1 := by have h1 := HGL.out _ HG.out; have h2 := HKN.out; have h3 : (gl.take i).length ≤ gl.length := List.length_take_le' _ _; dsimp only at h1; exact wrap64_id (by omega) (by omega)
                              have HP := Aside0.mk (show OutI w go c9 gh c10 l hv ds (bumps (outK hv k l) (gl.take (i + 1))) (wr.setCell ⟨go, s, none⟩ (.int .i64 (ov + 1))) from by rw [hbs]; unfold bump; rw [Int.toNat_natCast, hov]; exact HOI.out.put s (ov + 1))
                              have r0 := eq_true (show (i : Int) < (gl.length : Int) by omega)
                              have r1 := eq_true (show (0 : Int) ≤ (i : Int) by omega)
                              have r2 := eq_true hlt
                              have r3 := eq_true (show (0 : Int) ≤ (s : Int) by omega)
                              have r4 := eq_true (show (s : Int) < (l.length : Int) by omega)
                              have r5 := eq_true (show s < l.length by omega)
                              have HIL := Aside0.mk (show i < gl.length ∧ gl.length ≤ 32768 from ⟨hlt, HGL.out _ HG.out⟩)
                              clear hi hlt hsm hbs hs hb hov HOI
                              go_wp2
                              go_roundw
                              case rel => exact ⟨i + 1, by have := HIL.out; omega, val_next _ (by have := HIL.out; omega), HP⟩
                              case measure => rw [nat_next _ (by have := HIL.out; omega)]; simp only [intOf, Int.toNat_natCast]; have := HIL.out; omega
                            · obtain rfl : i = gl.length := by omega
                              have r0 := eq_false (show ¬ (gl.length : Int) < (gl.length : Int) by omega)
                              have HOI2 := Aside0.mk (show OutI w go c9 gh c10 l hv ds (outK hv (k + 1) l) _ from by have h_ := HOI.out; rw [List.take_length] at h_; rw [HOS.out]; exact h_)
                              clear HOI
                              go_wp2
                              go_roundw
                              case rel => exact ⟨k + 1, by have := HKN.out; omega, val_next _ (by have := HKN.out; omega), HOI2⟩
                              case measure => rw [nat_next _ (by have := HKN.out; omega)]; simp only [intOf, Int.toNat_natCast]; have := HKN.out; omega
                        · obtain rfl : k = n2 := by omega
                          have q0 := eq_false (show ¬ (k : Int) < (k : Int) by omega)
                          go_wp2
                          show LeavesInM _ _ _ _ _ _ ds .returning _
                          refine leaves_marks ds _ HOI.out.marks (fun W' hk1 hk2 hk3 => ?_)
                          have hn2 := HN22.out
                          have hsn : 2 * (singL l l.length).length - 2 = k := by rw [HSL.out, ← HNS.out]; exact hn2
                          refine ⟨_, results_tmp2 rfl _ _ _, _, _, outK hv k l, rfl, ?_, HOI.out.below.trans (hk3 _ (Nat.le_refl _)), .inr ⟨HOF.out, j, rfl, HM.out.1, HM.out.2, .inr ⟨HLE.out, rfl, .inr (.inr ⟨by rw [HSL.out]; exact HN2.out, sv.map pl, hv.map pl, Srt.map (f := pl) (fun _ => rfl) HS1.out, by have h_ := Stb.map (f := pl) (κ' := wP) (fun _ => rfl) HS2.out; rw [HS.out] at h_; exact h_, HIJ.out.rel, by rw [hsn, List.length_map]; exact HHL.out.1, by rw [hsn]; exact outK_eq hv k l⟩)⟩⟩⟩
                          exact HOI.out.shut hk1
  · have hof2 : oftenS l = false := Bool.eq_false_iff.mpr hof
    go_wp2_with (go_at_call 19; have hcc := often_calls A c l _ HR.out; rw [hof2] at hcc; refine hcc.mono ?_; clear hcc; rintro e_ w3 ⟨rfl, hw3⟩; have hw4 := hw3.symm; subst hw4; clear hw3)
    show LeavesInM _ _ _ _ _ _ [] .returning _
    exact ⟨_, results_tmp2 rfl _ _ _, _, _, [], rfl, Kd.R_nil _ _ _ _ _, Below.refl _ _, lenIs_arg (fun hh => hof hh.1)⟩
end
end Go.Proofs.Ytdgpcjhincgijaa.Pr

-- YtdgpcjhincgijaaLh1
namespace Go.Proofs.Ytdgpcjhincgijaa.Pr
open Go.RowKit Go.Shelf Go.Proofs.YtdgpcjhincgijaaW.PrintWords Go.Proofs.YtdgpcjhincgijaaW.PrintLast Go.Proofs.YtdgpcjhincgijaaW.PrintMore
set_option linter.unusedVariables false
set_option linter.unusedSimpArgs false
/-- What has come when k rounds are over: the used symbols below k, with their lengths. -/
def usedL (zs : List Int) (k : Nat) : List (Nat × Int) := ((List.range k).map fun j => (j, zs[j]?.getD 0)).filter fun x => decide (x.2 ≠ 0)
theorem usedL_succ (zs : List Int) (k : Nat) : usedL zs (k + 1) = if zs[k]?.getD 0 = 0 then usedL zs k else usedL zs k ++ [(k, zs[k]?.getD 0)] := by
  unfold usedL
  rw [List.range_succ, List.map_append, List.filter_append]
  by_cases h : zs[k]?.getD 0 = 0
  · rw [if_pos h]
    simp [h]
  · rw [if_neg h]
    simp [h]
theorem usedL_len (zs : List Int) (k : Nat) : (usedL zs k).length ≤ k := by
  unfold usedL
  refine Nat.le_trans (List.length_filter_le _ _) ?_
  simp
theorem usedL_sub (zs : List Int) {k : Nat} (hk : k ≤ zs.length) : ∀ x ∈ usedL zs k, x ∈ usedL zs zs.length := by
  intro x hx
  unfold usedL at hx ⊢
  rw [List.mem_filter, List.mem_map] at hx ⊢
  obtain ⟨⟨j, hj, rfl⟩, h2⟩ := hx
  rw [List.mem_range] at hj
  exact ⟨⟨j, List.mem_range.2 (by omega), rfl⟩, h2⟩
section
attribute [local go_sem] Oper.semAt_some
set_option maxRecDepth 100000 in
set_option maxHeartbeats 2000000 in
/-- The closure of huff.used: each used symbol, with its length; for every loop body that keeps what lay below n₀. -/
theorem used1_in (F : Fence) (n : Nat) (hF : F.fn 44) (hro : F.round = none) (hn : 1 ≤ n) (l Bs n₀ : Nat) (A : Option Addr) (len cap : Nat) (zs : List Int) (hz : len = zs.length) (hreach : len * 8 ≤ 140737488355328) (hb : ∀ ad, A = some ad → ad.block < n₀) (J Jx : List (Nat × Int) → World → Prop)
    (hY : ∀ pre x W, J pre W → pre.length < len → YieldAt F (n - 1) Try.prog l #[.int .i64 (x.1 : Int), .int .i64 x.2] W fun e W' =>
      (e = .returned (.bool true) ∧ J (pre ++ [x]) W' ∧ Below n₀ W W') ∨ (e = .returned (.bool false) ∧ Jx (pre ++ [x]) W'))
    (W : World) (hBs : W.cell? ⟨Bs, 0, none⟩ = some (.slice A len cap)) (hc : (Kd.int .i64).C W A len zs) (h0 : J [] W) :
    CallsIn F n Try.prog 44 #[.func (.yield l) #[] #[], .pointer (some ⟨Bs, 0, none⟩)] W fun e W' => (∃ v, e = .returned v) ∧
      ((∃ ys, ys = usedL zs len ∧ J ys W') ∨ (∃ pre, (∃ k, k ≤ len ∧ pre = usedL zs k) ∧ Jx pre W')) := by
  refine callsIn_of_wp Try.func44 rfl hF ?_ hro
  simp only [Try.ntmps44, List.size_toArray, List.length_cons, List.length_nil, Nat.reduceAdd, Nat.reduceSub, Array.replicate_succ, Array.replicate_zero, List.push_toArray, List.append_toArray, List.nil_append, List.cons_append]
  gi_wp2
  gi_loopw [7] (fun i wr => ∃ k : Nat, k ≤ len ∧ i = .int .i64 k ∧ J (usedL zs k) wr ∧ Below n₀ W wr)
    (fun i _ => len - (intOf i).toNat)
  case atStart => exact ⟨0, Nat.zero_le _, rfl, h0, Below.refl _ _⟩
  case round =>
    obtain ⟨k, hk, rfl, hJs, hnx⟩ := hrel
    by_cases hlt : k < len
    · obtain ⟨ad, rfl, hx⟩ := Kd.at_int hc (k : Int) (by omega) (by omega)
      rw [Int.toNat_natCast] at hx
      have hcx : wr.cell? (ad.add k) = some (.int .i64 (zs[k]?.getD 0)) := (hnx.cell (p := ad.add k) (show (ad.add k).block < n₀ by rw [show (ad.add k).block = ad.block by unfold Addr.add; split <;> rfl]; exact hb ad rfl)).trans (by rw [hx]; unfold rd; rw [Int.toNat_natCast, List.getD_eq_getElem?_getD])
      clear hx
      obtain ⟨v, hv⟩ : ∃ v, zs[k]?.getD 0 = v := ⟨_, rfl⟩
      have hs := usedL_succ zs k
      rw [hv] at hcx hs
      by_cases h0v : v = 0
      · rw [if_pos h0v] at hs
        have hq := eq_true h0v
        have hqb : (v != 0) = false := bne_eq_false_iff_eq.mpr h0v
        have hqc : (v == 0) = true := beq_iff_eq.mpr h0v
        clear hv

        gi_wp2

        refine ⟨fun _ h => (by cases h), ?_⟩
        gi_wp2
        go_roundw
        case rel => exact ⟨k + 1, by omega, by simp, by rw [hs]; exact hJs, hnx⟩
        case measure => simp [intOf]; omega
      · rw [if_neg h0v] at hs
        have hqb : (v != 0) = true := bne_iff_ne.mpr h0v
        have hqc : (v == 0) = false := beq_eq_false_iff_ne.mpr h0v
        clear hv
        obtain ⟨fn, tmps, assign, body, hy, hR⟩ := hY _ (k, v) wr hJs (Nat.lt_of_le_of_lt (usedL_len zs k) hlt)
        dsimp only at hy
        gi_wp2
        refine hR.mono ?_
        rintro e W3 (⟨rfl, hJ3, hk3⟩ | ⟨rfl, hJx3⟩)
        · gi_wp2
          go_roundw
          case rel => exact ⟨k + 1, by omega, by simp, by rw [hs]; exact hJ3, hnx.trans hk3⟩
          case measure => simp [intOf]; omega
        · gi_wp2
          refine bodyPost_ret (results_none rfl _ _ _) rfl ?_
          exact ⟨⟨_, rfl⟩, .inr ⟨_, ⟨k + 1, by omega, hs.symm⟩, hJx3⟩⟩
    · obtain rfl : k = len := by omega
      gi_wp2
      go_end0
      exact ⟨⟨_, rfl⟩, .inl ⟨_, rfl, hJs⟩⟩
end
theorem used_stops (F : Fence) (n : Nat) (hF : F.fn 44) (hro : F.round = none) (hn : 1 ≤ n) (Bs n₀ : Nat) (A : Option Addr) (len cap : Nat) (zs : List Int) (hz : len = zs.length) (hreach : len * 8 ≤ 140737488355328) (hb : ∀ ad, A = some ad → ad.block < n₀) (w : World) (hBs : Bs < w.heap.size) (hn₀ : n₀ ≤ w.heap.size)
    (hc : w.cell? ⟨Bs, 0, none⟩ = some (.slice A len cap)) (hI : (Kd.int .i64).C w A len zs) :
    SeqStopsK F n Try.prog 44 #[.pointer (some ⟨Bs, 0, none⟩)] (fun x : Nat × Int => #[Value.int .i64 (x.1 : Int), Value.int .i64 x.2]) (Below n₀) (fun ys => ys = usedL zs zs.length)
      (fun pre => ∃ k, k ≤ zs.length ∧ pre = usedL zs k) zs.length w := fun l J Jx W hW _ _ hY h0 => by
  subst hz
  exact used1_in F n hF hro hn l Bs n₀ A zs.length cap zs rfl hreach hb J Jx hY W ((hW.cell (p := ⟨Bs, 0, none⟩) hBs).trans hc) (Kd.C_below hI hW) h0
section
attribute [local go_sem] Oper.semAt_some
set_option maxHeartbeats 1000000 in
/-- huff.used: the slice is boxed; the function value has caught the box. -/
theorem used_in (F : Fence) (n : Nat) (hF : F.fn 41) (hro : F.round = none) (a : Option Addr) (len cap : Nat) (w : World) :
    CallsIn F n Try.prog 41 #[.slice a len cap] w fun e w' => e = .returned (.func (.func 44) #[] #[.pointer (some ⟨w.heap.size, 0, none⟩)]) ∧ w' = w.alloc (.cells #[.slice a len cap] 22) := by
  refine callsIn_of_wp Try.func41 rfl hF ?_ hro
  simp only [Try.ntmps41, List.size_toArray, List.length_cons, List.length_nil, Nat.reduceAdd, Nat.reduceSub, Array.replicate_succ, Array.replicate_zero, List.push_toArray, List.append_toArray, List.nil_append, List.cons_append]
  gi_wp2
  go_ret
  exact ⟨rfl, rfl⟩
end
def cntStep (c : List Int) (x : Nat × Int) : List Int := c.set x.2.toNat (wrap64 (rd c x.2 + 1))
def cntL (pre : List (Nat × Int)) : List Int := pre.foldl cntStep (List.replicate 16 0)
theorem cntL_snoc (pre : List (Nat × Int)) (x : Nat × Int) : cntL (pre ++ [x]) = cntStep (cntL pre) x := by unfold cntL; rw [List.foldl_append]; rfl
theorem cntL_len (pre : List (Nat × Int)) : (cntL pre).length = 16 := by
  have : ∀ (c : List Int), c.length = 16 → (pre.foldl cntStep c).length = 16 := by
    induction pre with
    | nil => intro c h; exact h
    | cons x pre ih => intro c h; exact ih _ (by unfold cntStep; rw [List.length_set]; exact h)
  exact this _ (by simp)
def Lok (x : Int) : Prop := 0 ≤ x ∧ x ≤ 15
instance (x : Int) : Decidable (Lok x) := by unfold Lok; infer_instance
def zero16 : List Int := List.replicate 16 0
/-- What counted tells. -/
def countedS (zs : List Int) : List Int × Bool := if zs.length < 1 ∨ 288 < zs.length then (zero16, false) else if (usedL zs zs.length).all (fun x => decide (Lok x.2)) then (cntL (usedL zs zs.length), true) else (zero16, false)
def agg16 (c : List Int) : Value := .agg (c.map (Value.int .i64)).toArray
def CountedPost (zs : List Int) (w : World) (e : Ending) (w' : World) : Prop := e = .returned (.tuple #[agg16 (countedS zs).1, .bool (countedS zs).2]) ∧ Below w.heap.size w w'
end Go.Proofs.Ytdgpcjhincgijaa.Pr

-- YtdgpcjhincgijaaLh2
namespace Go.Proofs.Ytdgpcjhincgijaa.Pr
open Go.RowKit Go.Shelf Go.Proofs.YtdgpcjhincgijaaW.PrintWords Go.Proofs.YtdgpcjhincgijaaW.PrintLast Go.Proofs.YtdgpcjhincgijaaW.PrintMore
set_option linter.unusedVariables false
set_option linter.unusedSimpArgs false
def vec16 (c : List Int) : Array Value := (c.map (Value.int .i64)).toArray
theorem blk_own {β : Type} (g : β → Nat) (t : β → TypeId) (cs : β → Array Value) : Own (fun (s : β) W => W.heap[g s]? = some (.cells (cs s) (t s) (0, 0))) := fun s A B row hs hg hr => (hg.block (g s) (blk_lt hs) (fun e => by
  obtain ⟨o, ho, hn⟩ := hr (g s) e.symm
  rw [hs] at ho
  injection ho with ho
  rw [← ho] at hn
  cases hn)).trans hs
/-- Results: an array in cells, and a bool in a cell. -/
theorem results_arr_bool {fn : Func} {p q : Tmp} (h : fn.results = #[.cell p 62, .cell q 4]) (tmps : Array Value) (w : World) (g : Nat) (t : TypeId) (cs : Array Value) (fr : Nat × Nat) (g2 : Nat) (b : Bool)
    (hp : tmps.getD p undef = .pointer (some ⟨g, 0, none⟩)) (hg : w.heap[g]? = some (.cells cs t fr))
    (hi : (Try.prog.info? 62).map (·.size) = some cs.size)
    (hq : tmps.getD q undef = .pointer (some ⟨g2, 0, none⟩)) (hb : w.cell? ⟨g2, 0, none⟩ = some (.bool b)) :
    (results fn tmps).run Try.prog w = .ok (.tuple #[.agg cs, .bool b]) w := by
  have hp' : tmps[p]?.getD undef = .pointer (some ⟨g, 0, none⟩) := by simpa using hp
  have hq' : tmps[q]?.getD undef = .pointer (some ⟨g2, 0, none⟩) := by simpa using hq
  have e1 := run_loadVar_row w g t 62 cs fr _ hg Try.underlying62 rfl hi
  have e2 : (loadVar 4 ⟨g2, 0, none⟩).run Try.prog w = .ok (.bool b) w := by
    have hu4 := Try.underlying4
    simp [loadVar, go_sem, hb]
  simp [results, h, hp', hq', asAddr, e1, e2]
/-- Sixteen cells are written, one by one. -/
theorem set16 {W : World} {g t : Nat} {c0 c1 c2 c3 c4 c5 c6 c7 c8 c9 c10 c11 c12 c13 c14 c15 : Value} (h : W.heap[g]? = some (.cells #[c0, c1, c2, c3, c4, c5, c6, c7, c8, c9, c10, c11, c12, c13, c14, c15] t (0, 0))) (v0 v1 v2 v3 v4 v5 v6 v7 v8 v9 v10 v11 v12 v13 v14 v15 : Value) :
    ((((((((((((((((W.setCell ⟨g, 0, none⟩ (v0)).setCell ⟨g, 1, none⟩ (v1)).setCell ⟨g, 2, none⟩ (v2)).setCell ⟨g, 3, none⟩ (v3)).setCell ⟨g, 4, none⟩ (v4)).setCell ⟨g, 5, none⟩ (v5)).setCell ⟨g, 6, none⟩ (v6)).setCell ⟨g, 7, none⟩ (v7)).setCell ⟨g, 8, none⟩ (v8)).setCell ⟨g, 9, none⟩ (v9)).setCell ⟨g, 10, none⟩ (v10)).setCell ⟨g, 11, none⟩ (v11)).setCell ⟨g, 12, none⟩ (v12)).setCell ⟨g, 13, none⟩ (v13)).setCell ⟨g, 14, none⟩ (v14)).setCell ⟨g, 15, none⟩ (v15)).heap[g]? = some (.cells #[v0, v1, v2, v3, v4, v5, v6, v7, v8, v9, v10, v11, v12, v13, v14, v15] t (0, 0)) := by
  have h := blk_put h 0 v0 (cs' := #[v0, c1, c2, c3, c4, c5, c6, c7, c8, c9, c10, c11, c12, c13, c14, c15]) rfl
  have h := blk_put h 1 v1 (cs' := #[v0, v1, c2, c3, c4, c5, c6, c7, c8, c9, c10, c11, c12, c13, c14, c15]) rfl
  have h := blk_put h 2 v2 (cs' := #[v0, v1, v2, c3, c4, c5, c6, c7, c8, c9, c10, c11, c12, c13, c14, c15]) rfl
  have h := blk_put h 3 v3 (cs' := #[v0, v1, v2, v3, c4, c5, c6, c7, c8, c9, c10, c11, c12, c13, c14, c15]) rfl
  have h := blk_put h 4 v4 (cs' := #[v0, v1, v2, v3, v4, c5, c6, c7, c8, c9, c10, c11, c12, c13, c14, c15]) rfl
  have h := blk_put h 5 v5 (cs' := #[v0, v1, v2, v3, v4, v5, c6, c7, c8, c9, c10, c11, c12, c13, c14, c15]) rfl
  have h := blk_put h 6 v6 (cs' := #[v0, v1, v2, v3, v4, v5, v6, c7, c8, c9, c10, c11, c12, c13, c14, c15]) rfl
  have h := blk_put h 7 v7 (cs' := #[v0, v1, v2, v3, v4, v5, v6, v7, c8, c9, c10, c11, c12, c13, c14, c15]) rfl
  have h := blk_put h 8 v8 (cs' := #[v0, v1, v2, v3, v4, v5, v6, v7, v8, c9, c10, c11, c12, c13, c14, c15]) rfl
  have h := blk_put h 9 v9 (cs' := #[v0, v1, v2, v3, v4, v5, v6, v7, v8, v9, c10, c11, c12, c13, c14, c15]) rfl
  have h := blk_put h 10 v10 (cs' := #[v0, v1, v2, v3, v4, v5, v6, v7, v8, v9, v10, c11, c12, c13, c14, c15]) rfl
  have h := blk_put h 11 v11 (cs' := #[v0, v1, v2, v3, v4, v5, v6, v7, v8, v9, v10, v11, c12, c13, c14, c15]) rfl
  have h := blk_put h 12 v12 (cs' := #[v0, v1, v2, v3, v4, v5, v6, v7, v8, v9, v10, v11, v12, c13, c14, c15]) rfl
  have h := blk_put h 13 v13 (cs' := #[v0, v1, v2, v3, v4, v5, v6, v7, v8, v9, v10, v11, v12, v13, c14, c15]) rfl
  have h := blk_put h 14 v14 (cs' := #[v0, v1, v2, v3, v4, v5, v6, v7, v8, v9, v10, v11, v12, v13, v14, c15]) rfl
  have h := blk_put h 15 v15 (cs' := #[v0, v1, v2, v3, v4, v5, v6, v7, v8, v9, v10, v11, v12, v13, v14, v15]) rfl
  exact h
theorem set16_keeps (W : World) (g : Nat) (v0 v1 v2 v3 v4 v5 v6 v7 v8 v9 v10 v11 v12 v13 v14 v15 : Value) : KeepsOthers W ((((((((((((((((W.setCell ⟨g, 0, none⟩ (v0)).setCell ⟨g, 1, none⟩ (v1)).setCell ⟨g, 2, none⟩ (v2)).setCell ⟨g, 3, none⟩ (v3)).setCell ⟨g, 4, none⟩ (v4)).setCell ⟨g, 5, none⟩ (v5)).setCell ⟨g, 6, none⟩ (v6)).setCell ⟨g, 7, none⟩ (v7)).setCell ⟨g, 8, none⟩ (v8)).setCell ⟨g, 9, none⟩ (v9)).setCell ⟨g, 10, none⟩ (v10)).setCell ⟨g, 11, none⟩ (v11)).setCell ⟨g, 12, none⟩ (v12)).setCell ⟨g, 13, none⟩ (v13)).setCell ⟨g, 14, none⟩ (v14)).setCell ⟨g, 15, none⟩ (v15)) := by
  refine KeepsOthers.trans ?_ (KeepsOthers.setCell _ _ _)
  refine KeepsOthers.trans ?_ (KeepsOthers.setCell _ _ _)
  refine KeepsOthers.trans ?_ (KeepsOthers.setCell _ _ _)
  refine KeepsOthers.trans ?_ (KeepsOthers.setCell _ _ _)
  refine KeepsOthers.trans ?_ (KeepsOthers.setCell _ _ _)
  refine KeepsOthers.trans ?_ (KeepsOthers.setCell _ _ _)
  refine KeepsOthers.trans ?_ (KeepsOthers.setCell _ _ _)
  refine KeepsOthers.trans ?_ (KeepsOthers.setCell _ _ _)
  refine KeepsOthers.trans ?_ (KeepsOthers.setCell _ _ _)
  refine KeepsOthers.trans ?_ (KeepsOthers.setCell _ _ _)
  refine KeepsOthers.trans ?_ (KeepsOthers.setCell _ _ _)
  refine KeepsOthers.trans ?_ (KeepsOthers.setCell _ _ _)
  refine KeepsOthers.trans ?_ (KeepsOthers.setCell _ _ _)
  refine KeepsOthers.trans ?_ (KeepsOthers.setCell _ _ _)
  refine KeepsOthers.trans ?_ (KeepsOthers.setCell _ _ _)
  exact KeepsOthers.setCell _ _ _
theorem set16_below {W w : World} {n₀ g : Nat} (h : Below n₀ w W) (hg : n₀ ≤ g) (v0 v1 v2 v3 v4 v5 v6 v7 v8 v9 v10 v11 v12 v13 v14 v15 : Value) : Below n₀ w ((((((((((((((((W.setCell ⟨g, 0, none⟩ (v0)).setCell ⟨g, 1, none⟩ (v1)).setCell ⟨g, 2, none⟩ (v2)).setCell ⟨g, 3, none⟩ (v3)).setCell ⟨g, 4, none⟩ (v4)).setCell ⟨g, 5, none⟩ (v5)).setCell ⟨g, 6, none⟩ (v6)).setCell ⟨g, 7, none⟩ (v7)).setCell ⟨g, 8, none⟩ (v8)).setCell ⟨g, 9, none⟩ (v9)).setCell ⟨g, 10, none⟩ (v10)).setCell ⟨g, 11, none⟩ (v11)).setCell ⟨g, 12, none⟩ (v12)).setCell ⟨g, 13, none⟩ (v13)).setCell ⟨g, 14, none⟩ (v14)).setCell ⟨g, 15, none⟩ (v15)) := by
  have h := Below.setCell (p := ⟨g, 0, none⟩) h hg v0
  have h := Below.setCell (p := ⟨g, 1, none⟩) h hg v1
  have h := Below.setCell (p := ⟨g, 2, none⟩) h hg v2
  have h := Below.setCell (p := ⟨g, 3, none⟩) h hg v3
  have h := Below.setCell (p := ⟨g, 4, none⟩) h hg v4
  have h := Below.setCell (p := ⟨g, 5, none⟩) h hg v5
  have h := Below.setCell (p := ⟨g, 6, none⟩) h hg v6
  have h := Below.setCell (p := ⟨g, 7, none⟩) h hg v7
  have h := Below.setCell (p := ⟨g, 8, none⟩) h hg v8
  have h := Below.setCell (p := ⟨g, 9, none⟩) h hg v9
  have h := Below.setCell (p := ⟨g, 10, none⟩) h hg v10
  have h := Below.setCell (p := ⟨g, 11, none⟩) h hg v11
  have h := Below.setCell (p := ⟨g, 12, none⟩) h hg v12
  have h := Below.setCell (p := ⟨g, 13, none⟩) h hg v13
  have h := Below.setCell (p := ⟨g, 14, none⟩) h hg v14
  have h := Below.setCell (p := ⟨g, 15, none⟩) h hg v15
  exact h
theorem set16_far {W : World} {g g' t : Nat} {cs : Array Value} (h : W.heap[g']? = some (.cells cs t (0, 0))) (hg : g' ≠ g) (v0 v1 v2 v3 v4 v5 v6 v7 v8 v9 v10 v11 v12 v13 v14 v15 : Value) : ((((((((((((((((W.setCell ⟨g, 0, none⟩ (v0)).setCell ⟨g, 1, none⟩ (v1)).setCell ⟨g, 2, none⟩ (v2)).setCell ⟨g, 3, none⟩ (v3)).setCell ⟨g, 4, none⟩ (v4)).setCell ⟨g, 5, none⟩ (v5)).setCell ⟨g, 6, none⟩ (v6)).setCell ⟨g, 7, none⟩ (v7)).setCell ⟨g, 8, none⟩ (v8)).setCell ⟨g, 9, none⟩ (v9)).setCell ⟨g, 10, none⟩ (v10)).setCell ⟨g, 11, none⟩ (v11)).setCell ⟨g, 12, none⟩ (v12)).setCell ⟨g, 13, none⟩ (v13)).setCell ⟨g, 14, none⟩ (v14)).setCell ⟨g, 15, none⟩ (v15)).heap[g']? = some (.cells cs t (0, 0)) := by
  have h := blk_far (p := ⟨g, 0, none⟩) h hg v0
  have h := blk_far (p := ⟨g, 1, none⟩) h hg v1
  have h := blk_far (p := ⟨g, 2, none⟩) h hg v2
  have h := blk_far (p := ⟨g, 3, none⟩) h hg v3
  have h := blk_far (p := ⟨g, 4, none⟩) h hg v4
  have h := blk_far (p := ⟨g, 5, none⟩) h hg v5
  have h := blk_far (p := ⟨g, 6, none⟩) h hg v6
  have h := blk_far (p := ⟨g, 7, none⟩) h hg v7
  have h := blk_far (p := ⟨g, 8, none⟩) h hg v8
  have h := blk_far (p := ⟨g, 9, none⟩) h hg v9
  have h := blk_far (p := ⟨g, 10, none⟩) h hg v10
  have h := blk_far (p := ⟨g, 11, none⟩) h hg v11
  have h := blk_far (p := ⟨g, 12, none⟩) h hg v12
  have h := blk_far (p := ⟨g, 13, none⟩) h hg v13
  have h := blk_far (p := ⟨g, 14, none⟩) h hg v14
  have h := blk_far (p := ⟨g, 15, none⟩) h hg v15
  exact h
section
attribute [local go_sem] Oper.semAt_some
set_option maxRecDepth 100000 in
set_option maxHeartbeats 4000000 in
theorem counted_in (F : Fence) (n : Nat) (hF : F.fn 37) (h26 : F.fn 41) (h41 : F.fn 44) (hro : F.round = none) (hn : 3 ≤ n) (A : Option Addr) (cap : Nat) (zs : List Int) (w : World) (hr : (Kd.int .i64).C w A zs.length zs) (hs : ¬ (zs.length < 1 ∨ 288 < zs.length)) (hbl : ∀ ad, A = some ad → ad.block < w.heap.size) :
    CallsIn F n Try.prog 37 #[.slice A zs.length cap] w (CountedPost zs w) := by
  have h1 : 1 ≤ n := by omega
  refine callsIn_of_wp_marks Try.func37 rfl hF ?_ hro
  simp only [Try.ntmps37, List.size_toArray, List.length_cons, List.length_nil, Nat.reduceAdd, Nat.reduceSub, Array.replicate_succ, Array.replicate_zero, List.push_toArray, List.append_toArray, List.nil_append, List.cons_append]
  have c1 := eq_false (show ¬ (zs.length : Int) < 1 by omega)
  have c2 := eq_false (show ¬ (zs.length : Int) > 288 by omega)
  obtain ⟨len, hl⟩ : ∃ m : Nat, zs.length = m := ⟨_, rfl⟩
  have d1 : decide ((zs.length : Int) < 1) = false := decide_eq_false (by omega)
  have d2 : decide ((288 : Int) < (zs.length : Int)) = false := decide_eq_false (by omega)
  have d3 := eq_false (show ¬ zs.length < 1 by omega)
  have d4 := eq_false (show ¬ 288 < zs.length by omega)
  clear hl
  gi_wp2_with (gi_at_call 41; refine (used_in F (n - 1) h26 hro _ _ _ _).mono ?_; rintro e w' ⟨rfl, rfl⟩)
  have bR2 := blk_alloc (blk_alloc (blk_alloc (blk_new w (.cells #[Value.int IntKind.i64 0, Value.int IntKind.i64 0, Value.int IntKind.i64 0, Value.int IntKind.i64 0, Value.int IntKind.i64 0, Value.int IntKind.i64 0, Value.int IntKind.i64 0, Value.int IntKind.i64 0, Value.int IntKind.i64 0, Value.int IntKind.i64 0, Value.int IntKind.i64 0, Value.int IntKind.i64 0, Value.int IntKind.i64 0, Value.int IntKind.i64 0, Value.int IntKind.i64 0, Value.int IntKind.i64 0] 62 (0, 0))) (.cells #[.bool false] 4 (0, 0))) (.cells #[Value.int IntKind.i64 0, Value.int IntKind.i64 0, Value.int IntKind.i64 0, Value.int IntKind.i64 0, Value.int IntKind.i64 0, Value.int IntKind.i64 0, Value.int IntKind.i64 0, Value.int IntKind.i64 0, Value.int IntKind.i64 0, Value.int IntKind.i64 0, Value.int IntKind.i64 0, Value.int IntKind.i64 0, Value.int IntKind.i64 0, Value.int IntKind.i64 0, Value.int IntKind.i64 0, Value.int IntKind.i64 0] 62 (0, 0))) (.cells #[.slice A zs.length cap] 22 (0, 0))
  have bR3 := blk_alloc (blk_alloc (blk_new (w.alloc (.cells #[Value.int IntKind.i64 0, Value.int IntKind.i64 0, Value.int IntKind.i64 0, Value.int IntKind.i64 0, Value.int IntKind.i64 0, Value.int IntKind.i64 0, Value.int IntKind.i64 0, Value.int IntKind.i64 0, Value.int IntKind.i64 0, Value.int IntKind.i64 0, Value.int IntKind.i64 0, Value.int IntKind.i64 0, Value.int IntKind.i64 0, Value.int IntKind.i64 0, Value.int IntKind.i64 0, Value.int IntKind.i64 0] 62 (0, 0))) (.cells #[.bool false] 4 (0, 0))) (.cells #[Value.int IntKind.i64 0, Value.int IntKind.i64 0, Value.int IntKind.i64 0, Value.int IntKind.i64 0, Value.int IntKind.i64 0, Value.int IntKind.i64 0, Value.int IntKind.i64 0, Value.int IntKind.i64 0, Value.int IntKind.i64 0, Value.int IntKind.i64 0, Value.int IntKind.i64 0, Value.int IntKind.i64 0, Value.int IntKind.i64 0, Value.int IntKind.i64 0, Value.int IntKind.i64 0, Value.int IntKind.i64 0] 62 (0, 0))) (.cells #[.slice A zs.length cap] 22 (0, 0))
  have bC := blk_alloc (blk_new ((w.alloc (.cells #[Value.int IntKind.i64 0, Value.int IntKind.i64 0, Value.int IntKind.i64 0, Value.int IntKind.i64 0, Value.int IntKind.i64 0, Value.int IntKind.i64 0, Value.int IntKind.i64 0, Value.int IntKind.i64 0, Value.int IntKind.i64 0, Value.int IntKind.i64 0, Value.int IntKind.i64 0, Value.int IntKind.i64 0, Value.int IntKind.i64 0, Value.int IntKind.i64 0, Value.int IntKind.i64 0, Value.int IntKind.i64 0] 62 (0, 0))).alloc (.cells #[.bool false] 4 (0, 0))) (.cells #[Value.int IntKind.i64 0, Value.int IntKind.i64 0, Value.int IntKind.i64 0, Value.int IntKind.i64 0, Value.int IntKind.i64 0, Value.int IntKind.i64 0, Value.int IntKind.i64 0, Value.int IntKind.i64 0, Value.int IntKind.i64 0, Value.int IntKind.i64 0, Value.int IntKind.i64 0, Value.int IntKind.i64 0, Value.int IntKind.i64 0, Value.int IntKind.i64 0, Value.int IntKind.i64 0, Value.int IntKind.i64 0] 62 (0, 0))) (.cells #[.slice A zs.length cap] 22 (0, 0))
  have bB := blk_new (((w.alloc (.cells #[Value.int IntKind.i64 0, Value.int IntKind.i64 0, Value.int IntKind.i64 0, Value.int IntKind.i64 0, Value.int IntKind.i64 0, Value.int IntKind.i64 0, Value.int IntKind.i64 0, Value.int IntKind.i64 0, Value.int IntKind.i64 0, Value.int IntKind.i64 0, Value.int IntKind.i64 0, Value.int IntKind.i64 0, Value.int IntKind.i64 0, Value.int IntKind.i64 0, Value.int IntKind.i64 0, Value.int IntKind.i64 0] 62 (0, 0))).alloc (.cells #[.bool false] 4 (0, 0))).alloc (.cells #[Value.int IntKind.i64 0, Value.int IntKind.i64 0, Value.int IntKind.i64 0, Value.int IntKind.i64 0, Value.int IntKind.i64 0, Value.int IntKind.i64 0, Value.int IntKind.i64 0, Value.int IntKind.i64 0, Value.int IntKind.i64 0, Value.int IntKind.i64 0, Value.int IntKind.i64 0, Value.int IntKind.i64 0, Value.int IntKind.i64 0, Value.int IntKind.i64 0, Value.int IntKind.i64 0, Value.int IntKind.i64 0] 62 (0, 0))) (.cells #[.slice A zs.length cap] 22 (0, 0))
  simp only [World.size_alloc] at bR3 bC bB
  have hB0 : Below w.heap.size w ((((w.alloc (.cells #[Value.int IntKind.i64 0, Value.int IntKind.i64 0, Value.int IntKind.i64 0, Value.int IntKind.i64 0, Value.int IntKind.i64 0, Value.int IntKind.i64 0, Value.int IntKind.i64 0, Value.int IntKind.i64 0, Value.int IntKind.i64 0, Value.int IntKind.i64 0, Value.int IntKind.i64 0, Value.int IntKind.i64 0, Value.int IntKind.i64 0, Value.int IntKind.i64 0, Value.int IntKind.i64 0, Value.int IntKind.i64 0] 62 (0, 0))).alloc (.cells #[.bool false] 4 (0, 0))).alloc (.cells #[Value.int IntKind.i64 0, Value.int IntKind.i64 0, Value.int IntKind.i64 0, Value.int IntKind.i64 0, Value.int IntKind.i64 0, Value.int IntKind.i64 0, Value.int IntKind.i64 0, Value.int IntKind.i64 0, Value.int IntKind.i64 0, Value.int IntKind.i64 0, Value.int IntKind.i64 0, Value.int IntKind.i64 0, Value.int IntKind.i64 0, Value.int IntKind.i64 0, Value.int IntKind.i64 0, Value.int IntKind.i64 0] 62 (0, 0))).alloc (.cells #[.slice A zs.length cap] 22 (0, 0))) := below_alloc (below_alloc (below_alloc (below_alloc (Below.refl _ _) _) _) _) _
  have hsz : ((((w.alloc (.cells #[Value.int IntKind.i64 0, Value.int IntKind.i64 0, Value.int IntKind.i64 0, Value.int IntKind.i64 0, Value.int IntKind.i64 0, Value.int IntKind.i64 0, Value.int IntKind.i64 0, Value.int IntKind.i64 0, Value.int IntKind.i64 0, Value.int IntKind.i64 0, Value.int IntKind.i64 0, Value.int IntKind.i64 0, Value.int IntKind.i64 0, Value.int IntKind.i64 0, Value.int IntKind.i64 0, Value.int IntKind.i64 0] 62 (0, 0))).alloc (.cells #[.bool false] 4 (0, 0))).alloc (.cells #[Value.int IntKind.i64 0, Value.int IntKind.i64 0, Value.int IntKind.i64 0, Value.int IntKind.i64 0, Value.int IntKind.i64 0, Value.int IntKind.i64 0, Value.int IntKind.i64 0, Value.int IntKind.i64 0, Value.int IntKind.i64 0, Value.int IntKind.i64 0, Value.int IntKind.i64 0, Value.int IntKind.i64 0, Value.int IntKind.i64 0, Value.int IntKind.i64 0, Value.int IntKind.i64 0, Value.int IntKind.i64 0] 62 (0, 0))).alloc (.cells #[.slice A zs.length cap] 22 (0, 0))).heap.size = w.heap.size + 4 := by simp only [World.size_alloc]
  generalize ((((w.alloc (.cells #[Value.int IntKind.i64 0, Value.int IntKind.i64 0, Value.int IntKind.i64 0, Value.int IntKind.i64 0, Value.int IntKind.i64 0, Value.int IntKind.i64 0, Value.int IntKind.i64 0, Value.int IntKind.i64 0, Value.int IntKind.i64 0, Value.int IntKind.i64 0, Value.int IntKind.i64 0, Value.int IntKind.i64 0, Value.int IntKind.i64 0, Value.int IntKind.i64 0, Value.int IntKind.i64 0, Value.int IntKind.i64 0] 62 (0, 0))).alloc (.cells #[.bool false] 4 (0, 0))).alloc (.cells #[Value.int IntKind.i64 0, Value.int IntKind.i64 0, Value.int IntKind.i64 0, Value.int IntKind.i64 0, Value.int IntKind.i64 0, Value.int IntKind.i64 0, Value.int IntKind.i64 0, Value.int IntKind.i64 0, Value.int IntKind.i64 0, Value.int IntKind.i64 0, Value.int IntKind.i64 0, Value.int IntKind.i64 0, Value.int IntKind.i64 0, Value.int IntKind.i64 0, Value.int IntKind.i64 0, Value.int IntKind.i64 0] 62 (0, 0))).alloc (.cells #[.slice A zs.length cap] 22 (0, 0))) = W0 at bR2 bR3 bC bB hB0 hsz ⊢
  have o1 : ∀ (g t : Nat) (cs : Array Value), OwnFrom (β := List (Nat × Int)) W0.heap.size (fun _ W => W.heap[g]? = some (.cells cs t (0, 0))) := fun g t cs => Own.from (blk_own (β := List (Nat × Int)) (fun _ => g) (fun _ => t) (fun _ => cs)) _
  have o2 : OwnFrom (β := List (Nat × Int)) W0.heap.size (fun pre W => W.heap[w.heap.size + 1 + 1]? = some (.cells (vec16 (cntL pre)) 62 (0, 0))) := Own.from (blk_own (fun _ => w.heap.size + 1 + 1) (fun _ => 62) (fun pre => vec16 (cntL pre))) _
  have o3 : OwnFrom (β := List (Nat × Int)) W0.heap.size (fun _ W => Below w.heap.size w W) := ownFrom_below (Nat.le_refl _) (by omega)
  refine wpIn_rangeFunc_ownG hro h1 (gf := 44) (lb := #[.pointer (some ⟨w.heap.size + 1 + 1 + 1, 0, none⟩)]) rfl h41 (enters_of Try.func44 (by kernel_rfl) rfl)
    (used_stops F (n - 1) h41 hro (by omega) (w.heap.size + 1 + 1 + 1) w.heap.size A zs.length cap zs rfl (by omega) hbl W0 (blk_lt bB) (by omega) ((blk_cell bB 0).trans rfl) (Kd.C_below hr hB0)) belowK_t (belowK_b (by omega)) (Below.refl _ _) (fun _ => rfl)
    (fun pre W => (∀ p ∈ pre, Lok p.2) ∧ W.heap[w.heap.size + 1 + 1]? = some (.cells (vec16 (cntL pre)) 62 (0, 0)) ∧ W.heap[w.heap.size]? = some (.cells #[Value.int IntKind.i64 0, Value.int IntKind.i64 0, Value.int IntKind.i64 0, Value.int IntKind.i64 0, Value.int IntKind.i64 0, Value.int IntKind.i64 0, Value.int IntKind.i64 0, Value.int IntKind.i64 0, Value.int IntKind.i64 0, Value.int IntKind.i64 0, Value.int IntKind.i64 0, Value.int IntKind.i64 0, Value.int IntKind.i64 0, Value.int IntKind.i64 0, Value.int IntKind.i64 0, Value.int IntKind.i64 0] 62 (0, 0)) ∧ W.heap[w.heap.size + 1]? = some (.cells #[.bool false] 4 (0, 0)) ∧ Below w.heap.size w W)
    (fun c pre W => (c = .ret ∧ ∃ ini last, pre = ini ++ [last] ∧ ¬ Lok last.2) ∧ W.heap[w.heap.size]? = some (.cells #[Value.int IntKind.i64 0, Value.int IntKind.i64 0, Value.int IntKind.i64 0, Value.int IntKind.i64 0, Value.int IntKind.i64 0, Value.int IntKind.i64 0, Value.int IntKind.i64 0, Value.int IntKind.i64 0, Value.int IntKind.i64 0, Value.int IntKind.i64 0, Value.int IntKind.i64 0, Value.int IntKind.i64 0, Value.int IntKind.i64 0, Value.int IntKind.i64 0, Value.int IntKind.i64 0, Value.int IntKind.i64 0] 62 (0, 0)) ∧ W.heap[w.heap.size + 1]? = some (.cells #[.bool false] 4 (0, 0)) ∧ Below w.heap.size w W)
    (OwnFrom.and (ownFrom_pure _ _) (OwnFrom.and o2 (OwnFrom.and (o1 _ _ _) (OwnFrom.and (o1 _ _ _) o3))))
    (fun c => OwnFrom.and (ownFrom_pure _ _) (OwnFrom.and (o1 _ _ _) (OwnFrom.and (o1 _ _ _) o3)))
    ⟨by simp, bC, bR2, bR3, hB0⟩
    (fun x => { tmps := #[.slice A zs.length cap, undef, .pointer (some ⟨w.heap.size, 0, none⟩), .pointer (some ⟨w.heap.size + 1, 0, none⟩), .pointer (some ⟨w.heap.size + 1 + 1, 0, none⟩), undef, .int .i64 x.2, .slice A zs.length cap, .int .i64 zs.length, .bool false, .bool false, .slice A zs.length cap, .int .i64 zs.length, .bool false, .bool false, undef, .slice A zs.length cap, .func (.func 44) #[] #[.pointer (some ⟨w.heap.size + 1 + 1 + 1, 0, none⟩)], .int .i64 (x.1 : Int), .int .i64 x.2, undef, undef, undef, undef, undef, undef, undef, undef, undef, undef, undef, undef, undef], defers := [] }) ?assign ?body ?done ?stop
  case assign =>
    intro l x W K hK
    gi_wp2
    exact hK
  case body =>
    rintro l pre x W ⟨hp, hC, hR2, hR3, hB⟩ _
    by_cases hx : Lok x.2
    · have q1 := eq_false (show ¬ x.2 < 0 from by have := hx.1; omega)
      have q2 := eq_false (show ¬ x.2 > 15 from by have := hx.2; omega)
      have q3 := eq_false (show ¬ 15 < x.2 from by have := hx.2; omega)
      obtain ⟨h0, h15⟩ := hx
      have hcl := cntL_len pre
      have hc : W.cell? ⟨w.heap.size + 1 + 1, x.2.toNat, none⟩ = some (.int .i64 (rd (cntL pre) x.2)) := by
        rw [blk_cell hC]
        unfold vec16 rd
        rw [List.getElem?_toArray, List.getElem?_map, List.getD_eq_getElem?_getD, List.getElem?_eq_getElem (show x.2.toNat < (cntL pre).length by omega)]
        rfl
      have hf := blk_frozen hC x.2.toNat
      have hi0 := eq_true h0
      have hi1 := eq_true (show x.2 < 16 by omega)
      have hi2 := eq_true (show x.2.toNat < 16 by omega)
      gi_wp2
      refine ⟨(KeepsOthers.setCell _ _ _).from _, (Below.refl w.heap.size W).setCell (p := ⟨w.heap.size + 1 + 1, x.2.toNat, none⟩) (show w.heap.size ≤ w.heap.size + 1 + 1 by omega) _, ⟨fun p hp' => (List.mem_append.1 hp').elim (hp p) (fun e => by simp at e; subst e; exact ⟨h0, h15⟩), ?_, blk_far (p := ⟨w.heap.size + 1 + 1, x.2.toNat, none⟩) hR2 (show w.heap.size ≠ w.heap.size + 1 + 1 by omega) _, blk_far (p := ⟨w.heap.size + 1 + 1, x.2.toNat, none⟩) hR3 (show w.heap.size + 1 ≠ w.heap.size + 1 + 1 by omega) _, hB.setCell (p := ⟨w.heap.size + 1 + 1, x.2.toNat, none⟩) (show w.heap.size ≤ w.heap.size + 1 + 1 by omega) _⟩⟩
      refine blk_put hC x.2.toNat _ ?_
      rw [cntL_snoc]
      unfold vec16 cntStep
      rw [List.setIfInBounds_toArray, List.map_set]
    · by_cases hneg : x.2 < 0
      · have q1 := eq_true hneg
        have hc0 : W.cell? ⟨w.heap.size, 0, none⟩ = some (.int .i64 0) := (blk_cell hR2 0).trans rfl
        have hf0 := blk_frozen hR2 0
        have hc1 : W.cell? ⟨w.heap.size, 1, none⟩ = some (.int .i64 0) := (blk_cell hR2 1).trans rfl
        have hf1 := blk_frozen hR2 1
        have hc2 : W.cell? ⟨w.heap.size, 2, none⟩ = some (.int .i64 0) := (blk_cell hR2 2).trans rfl
        have hf2 := blk_frozen hR2 2
        have hc3 : W.cell? ⟨w.heap.size, 3, none⟩ = some (.int .i64 0) := (blk_cell hR2 3).trans rfl
        have hf3 := blk_frozen hR2 3
        have hc4 : W.cell? ⟨w.heap.size, 4, none⟩ = some (.int .i64 0) := (blk_cell hR2 4).trans rfl
        have hf4 := blk_frozen hR2 4
        have hc5 : W.cell? ⟨w.heap.size, 5, none⟩ = some (.int .i64 0) := (blk_cell hR2 5).trans rfl
        have hf5 := blk_frozen hR2 5
        have hc6 : W.cell? ⟨w.heap.size, 6, none⟩ = some (.int .i64 0) := (blk_cell hR2 6).trans rfl
        have hf6 := blk_frozen hR2 6
        have hc7 : W.cell? ⟨w.heap.size, 7, none⟩ = some (.int .i64 0) := (blk_cell hR2 7).trans rfl
        have hf7 := blk_frozen hR2 7
        have hc8 : W.cell? ⟨w.heap.size, 8, none⟩ = some (.int .i64 0) := (blk_cell hR2 8).trans rfl
        have hf8 := blk_frozen hR2 8
        have hc9 : W.cell? ⟨w.heap.size, 9, none⟩ = some (.int .i64 0) := (blk_cell hR2 9).trans rfl
        have hf9 := blk_frozen hR2 9
        have hc10 : W.cell? ⟨w.heap.size, 10, none⟩ = some (.int .i64 0) := (blk_cell hR2 10).trans rfl
        have hf10 := blk_frozen hR2 10
        have hc11 : W.cell? ⟨w.heap.size, 11, none⟩ = some (.int .i64 0) := (blk_cell hR2 11).trans rfl
        have hf11 := blk_frozen hR2 11
        have hc12 : W.cell? ⟨w.heap.size, 12, none⟩ = some (.int .i64 0) := (blk_cell hR2 12).trans rfl
        have hf12 := blk_frozen hR2 12
        have hc13 : W.cell? ⟨w.heap.size, 13, none⟩ = some (.int .i64 0) := (blk_cell hR2 13).trans rfl
        have hf13 := blk_frozen hR2 13
        have hc14 : W.cell? ⟨w.heap.size, 14, none⟩ = some (.int .i64 0) := (blk_cell hR2 14).trans rfl
        have hf14 := blk_frozen hR2 14
        have hc15 : W.cell? ⟨w.heap.size, 15, none⟩ = some (.int .i64 0) := (blk_cell hR2 15).trans rfl
        have hf15 := blk_frozen hR2 15
        have hcb : W.cell? ⟨w.heap.size + 1, 0, none⟩ = some (.bool false) := (blk_cell hR3 0).trans rfl
        have hfb := blk_frozen hR3 0
        gi_wp2
        refine ⟨((set16_keeps W w.heap.size _ _ _ _ _ _ _ _ _ _ _ _ _ _ _ _).trans (KeepsOthers.setCell _ _ _)).from _, ⟨⟨rfl, by first | exact ⟨pre, x, rfl, hx⟩ | exact ⟨pre, x.1, x.2, rfl, hx⟩⟩, blk_far (p := ⟨w.heap.size + 1, 0, none⟩) (set16 hR2 _ _ _ _ _ _ _ _ _ _ _ _ _ _ _ _) (show w.heap.size ≠ w.heap.size + 1 by omega) _, blk_put (set16_far hR3 (show w.heap.size + 1 ≠ w.heap.size by omega) _ _ _ _ _ _ _ _ _ _ _ _ _ _ _ _) 0 _ rfl, (set16_below hB (Nat.le_refl _) _ _ _ _ _ _ _ _ _ _ _ _ _ _ _ _).setCell (p := ⟨w.heap.size + 1, 0, none⟩) (show w.heap.size ≤ w.heap.size + 1 by omega) _⟩⟩
      · have q1 := eq_false hneg
        have q2 := eq_true (show x.2 > 15 by unfold Lok at hx; omega)
        have q3 := eq_true (show 15 < x.2 by unfold Lok at hx; omega)
        have hc0 : W.cell? ⟨w.heap.size, 0, none⟩ = some (.int .i64 0) := (blk_cell hR2 0).trans rfl
        have hf0 := blk_frozen hR2 0
        have hc1 : W.cell? ⟨w.heap.size, 1, none⟩ = some (.int .i64 0) := (blk_cell hR2 1).trans rfl
        have hf1 := blk_frozen hR2 1
        have hc2 : W.cell? ⟨w.heap.size, 2, none⟩ = some (.int .i64 0) := (blk_cell hR2 2).trans rfl
        have hf2 := blk_frozen hR2 2
        have hc3 : W.cell? ⟨w.heap.size, 3, none⟩ = some (.int .i64 0) := (blk_cell hR2 3).trans rfl
        have hf3 := blk_frozen hR2 3
        have hc4 : W.cell? ⟨w.heap.size, 4, none⟩ = some (.int .i64 0) := (blk_cell hR2 4).trans rfl
        have hf4 := blk_frozen hR2 4
        have hc5 : W.cell? ⟨w.heap.size, 5, none⟩ = some (.int .i64 0) := (blk_cell hR2 5).trans rfl
        have hf5 := blk_frozen hR2 5
        have hc6 : W.cell? ⟨w.heap.size, 6, none⟩ = some (.int .i64 0) := (blk_cell hR2 6).trans rfl
        have hf6 := blk_frozen hR2 6
        have hc7 : W.cell? ⟨w.heap.size, 7, none⟩ = some (.int .i64 0) := (blk_cell hR2 7).trans rfl
        have hf7 := blk_frozen hR2 7
        have hc8 : W.cell? ⟨w.heap.size, 8, none⟩ = some (.int .i64 0) := (blk_cell hR2 8).trans rfl
        have hf8 := blk_frozen hR2 8
        have hc9 : W.cell? ⟨w.heap.size, 9, none⟩ = some (.int .i64 0) := (blk_cell hR2 9).trans rfl
        have hf9 := blk_frozen hR2 9
        have hc10 : W.cell? ⟨w.heap.size, 10, none⟩ = some (.int .i64 0) := (blk_cell hR2 10).trans rfl
        have hf10 := blk_frozen hR2 10
        have hc11 : W.cell? ⟨w.heap.size, 11, none⟩ = some (.int .i64 0) := (blk_cell hR2 11).trans rfl
        have hf11 := blk_frozen hR2 11
        have hc12 : W.cell? ⟨w.heap.size, 12, none⟩ = some (.int .i64 0) := (blk_cell hR2 12).trans rfl
        have hf12 := blk_frozen hR2 12
        have hc13 : W.cell? ⟨w.heap.size, 13, none⟩ = some (.int .i64 0) := (blk_cell hR2 13).trans rfl
        have hf13 := blk_frozen hR2 13
        have hc14 : W.cell? ⟨w.heap.size, 14, none⟩ = some (.int .i64 0) := (blk_cell hR2 14).trans rfl
        have hf14 := blk_frozen hR2 14
        have hc15 : W.cell? ⟨w.heap.size, 15, none⟩ = some (.int .i64 0) := (blk_cell hR2 15).trans rfl
        have hf15 := blk_frozen hR2 15
        have hcb : W.cell? ⟨w.heap.size + 1, 0, none⟩ = some (.bool false) := (blk_cell hR3 0).trans rfl
        have hfb := blk_frozen hR3 0
        gi_wp2
        refine ⟨((set16_keeps W w.heap.size _ _ _ _ _ _ _ _ _ _ _ _ _ _ _ _).trans (KeepsOthers.setCell _ _ _)).from _, ⟨⟨rfl, by first | exact ⟨pre, x, rfl, hx⟩ | exact ⟨pre, x.1, x.2, rfl, hx⟩⟩, blk_far (p := ⟨w.heap.size + 1, 0, none⟩) (set16 hR2 _ _ _ _ _ _ _ _ _ _ _ _ _ _ _ _) (show w.heap.size ≠ w.heap.size + 1 by omega) _, blk_put (set16_far hR3 (show w.heap.size + 1 ≠ w.heap.size by omega) _ _ _ _ _ _ _ _ _ _ _ _ _ _ _ _) 0 _ rfl, (set16_below hB (Nat.le_refl _) _ _ _ _ _ _ _ _ _ _ _ _ _ _ _ _).setCell (p := ⟨w.heap.size + 1, 0, none⟩) (show w.heap.size ≤ w.heap.size + 1 by omega) _⟩⟩
  case done =>
    rintro D ys W hD rfl ⟨hp, hC, hR2, hR3, hB⟩ hK
    have hall : (countedS zs) = (cntL (usedL zs zs.length), true) := by
      unfold countedS
      rw [if_neg hs, if_pos (List.all_eq_true.2 fun p hp' => decide_eq_true (hp p hp'))]
    have hlen := cntL_len (usedL zs zs.length)
    generalize cntL (usedL zs zs.length) = cl at hC hlen hall
    obtain ⟨x0, cl, rfl⟩ := List.exists_cons_of_length_pos (l := cl) (by omega)
    obtain ⟨x1, cl, rfl⟩ := List.exists_cons_of_length_pos (l := cl) (by simp only [List.length_cons] at hlen; omega)
    obtain ⟨x2, cl, rfl⟩ := List.exists_cons_of_length_pos (l := cl) (by simp only [List.length_cons] at hlen; omega)
    obtain ⟨x3, cl, rfl⟩ := List.exists_cons_of_length_pos (l := cl) (by simp only [List.length_cons] at hlen; omega)
    obtain ⟨x4, cl, rfl⟩ := List.exists_cons_of_length_pos (l := cl) (by simp only [List.length_cons] at hlen; omega)
    obtain ⟨x5, cl, rfl⟩ := List.exists_cons_of_length_pos (l := cl) (by simp only [List.length_cons] at hlen; omega)
    obtain ⟨x6, cl, rfl⟩ := List.exists_cons_of_length_pos (l := cl) (by simp only [List.length_cons] at hlen; omega)
    obtain ⟨x7, cl, rfl⟩ := List.exists_cons_of_length_pos (l := cl) (by simp only [List.length_cons] at hlen; omega)
    obtain ⟨x8, cl, rfl⟩ := List.exists_cons_of_length_pos (l := cl) (by simp only [List.length_cons] at hlen; omega)
    obtain ⟨x9, cl, rfl⟩ := List.exists_cons_of_length_pos (l := cl) (by simp only [List.length_cons] at hlen; omega)
    obtain ⟨x10, cl, rfl⟩ := List.exists_cons_of_length_pos (l := cl) (by simp only [List.length_cons] at hlen; omega)
    obtain ⟨x11, cl, rfl⟩ := List.exists_cons_of_length_pos (l := cl) (by simp only [List.length_cons] at hlen; omega)
    obtain ⟨x12, cl, rfl⟩ := List.exists_cons_of_length_pos (l := cl) (by simp only [List.length_cons] at hlen; omega)
    obtain ⟨x13, cl, rfl⟩ := List.exists_cons_of_length_pos (l := cl) (by simp only [List.length_cons] at hlen; omega)
    obtain ⟨x14, cl, rfl⟩ := List.exists_cons_of_length_pos (l := cl) (by simp only [List.length_cons] at hlen; omega)
    obtain ⟨x15, cl, rfl⟩ := List.exists_cons_of_length_pos (l := cl) (by simp only [List.length_cons] at hlen; omega)
    obtain rfl : cl = [] := List.eq_nil_of_length_eq_zero (by simp only [List.length_cons] at hlen; omega)
    replace hC : W.heap[w.heap.size + 1 + 1]? = some (.cells #[Value.int .i64 x0, Value.int .i64 x1, Value.int .i64 x2, Value.int .i64 x3, Value.int .i64 x4, Value.int .i64 x5, Value.int .i64 x6, Value.int .i64 x7, Value.int .i64 x8, Value.int .i64 x9, Value.int .i64 x10, Value.int .i64 x11, Value.int .i64 x12, Value.int .i64 x13, Value.int .i64 x14, Value.int .i64 x15] 62 (0, 0)) := hC
    have hx0 : W.cell? ⟨w.heap.size + 1 + 1, 0, none⟩ = some (Value.int .i64 x0) := (blk_cell hC 0).trans rfl
    have hx1 : W.cell? ⟨w.heap.size + 1 + 1, 1, none⟩ = some (Value.int .i64 x1) := (blk_cell hC 1).trans rfl
    have hx2 : W.cell? ⟨w.heap.size + 1 + 1, 2, none⟩ = some (Value.int .i64 x2) := (blk_cell hC 2).trans rfl
    have hx3 : W.cell? ⟨w.heap.size + 1 + 1, 3, none⟩ = some (Value.int .i64 x3) := (blk_cell hC 3).trans rfl
    have hx4 : W.cell? ⟨w.heap.size + 1 + 1, 4, none⟩ = some (Value.int .i64 x4) := (blk_cell hC 4).trans rfl
    have hx5 : W.cell? ⟨w.heap.size + 1 + 1, 5, none⟩ = some (Value.int .i64 x5) := (blk_cell hC 5).trans rfl
    have hx6 : W.cell? ⟨w.heap.size + 1 + 1, 6, none⟩ = some (Value.int .i64 x6) := (blk_cell hC 6).trans rfl
    have hx7 : W.cell? ⟨w.heap.size + 1 + 1, 7, none⟩ = some (Value.int .i64 x7) := (blk_cell hC 7).trans rfl
    have hx8 : W.cell? ⟨w.heap.size + 1 + 1, 8, none⟩ = some (Value.int .i64 x8) := (blk_cell hC 8).trans rfl
    have hx9 : W.cell? ⟨w.heap.size + 1 + 1, 9, none⟩ = some (Value.int .i64 x9) := (blk_cell hC 9).trans rfl
    have hx10 : W.cell? ⟨w.heap.size + 1 + 1, 10, none⟩ = some (Value.int .i64 x10) := (blk_cell hC 10).trans rfl
    have hx11 : W.cell? ⟨w.heap.size + 1 + 1, 11, none⟩ = some (Value.int .i64 x11) := (blk_cell hC 11).trans rfl
    have hx12 : W.cell? ⟨w.heap.size + 1 + 1, 12, none⟩ = some (Value.int .i64 x12) := (blk_cell hC 12).trans rfl
    have hx13 : W.cell? ⟨w.heap.size + 1 + 1, 13, none⟩ = some (Value.int .i64 x13) := (blk_cell hC 13).trans rfl
    have hx14 : W.cell? ⟨w.heap.size + 1 + 1, 14, none⟩ = some (Value.int .i64 x14) := (blk_cell hC 14).trans rfl
    have hx15 : W.cell? ⟨w.heap.size + 1 + 1, 15, none⟩ = some (Value.int .i64 x15) := (blk_cell hC 15).trans rfl
    have hz0 : W.cell? ⟨w.heap.size, 0, none⟩ = some (Value.int .i64 0) := (blk_cell hR2 0).trans rfl
    have hz1 : W.cell? ⟨w.heap.size, 1, none⟩ = some (Value.int .i64 0) := (blk_cell hR2 1).trans rfl
    have hz2 : W.cell? ⟨w.heap.size, 2, none⟩ = some (Value.int .i64 0) := (blk_cell hR2 2).trans rfl
    have hz3 : W.cell? ⟨w.heap.size, 3, none⟩ = some (Value.int .i64 0) := (blk_cell hR2 3).trans rfl
    have hz4 : W.cell? ⟨w.heap.size, 4, none⟩ = some (Value.int .i64 0) := (blk_cell hR2 4).trans rfl
    have hz5 : W.cell? ⟨w.heap.size, 5, none⟩ = some (Value.int .i64 0) := (blk_cell hR2 5).trans rfl
    have hz6 : W.cell? ⟨w.heap.size, 6, none⟩ = some (Value.int .i64 0) := (blk_cell hR2 6).trans rfl
    have hz7 : W.cell? ⟨w.heap.size, 7, none⟩ = some (Value.int .i64 0) := (blk_cell hR2 7).trans rfl
    have hz8 : W.cell? ⟨w.heap.size, 8, none⟩ = some (Value.int .i64 0) := (blk_cell hR2 8).trans rfl
    have hz9 : W.cell? ⟨w.heap.size, 9, none⟩ = some (Value.int .i64 0) := (blk_cell hR2 9).trans rfl
    have hz10 : W.cell? ⟨w.heap.size, 10, none⟩ = some (Value.int .i64 0) := (blk_cell hR2 10).trans rfl
    have hz11 : W.cell? ⟨w.heap.size, 11, none⟩ = some (Value.int .i64 0) := (blk_cell hR2 11).trans rfl
    have hz12 : W.cell? ⟨w.heap.size, 12, none⟩ = some (Value.int .i64 0) := (blk_cell hR2 12).trans rfl
    have hz13 : W.cell? ⟨w.heap.size, 13, none⟩ = some (Value.int .i64 0) := (blk_cell hR2 13).trans rfl
    have hz14 : W.cell? ⟨w.heap.size, 14, none⟩ = some (Value.int .i64 0) := (blk_cell hR2 14).trans rfl
    have hz15 : W.cell? ⟨w.heap.size, 15, none⟩ = some (Value.int .i64 0) := (blk_cell hR2 15).trans rfl
    have hf0 := blk_frozen hR2 0
    have hf1 := blk_frozen hR2 1
    have hf2 := blk_frozen hR2 2
    have hf3 := blk_frozen hR2 3
    have hf4 := blk_frozen hR2 4
    have hf5 := blk_frozen hR2 5
    have hf6 := blk_frozen hR2 6
    have hf7 := blk_frozen hR2 7
    have hf8 := blk_frozen hR2 8
    have hf9 := blk_frozen hR2 9
    have hf10 := blk_frozen hR2 10
    have hf11 := blk_frozen hR2 11
    have hf12 := blk_frozen hR2 12
    have hf13 := blk_frozen hR2 13
    have hf14 := blk_frozen hR2 14
    have hf15 := blk_frozen hR2 15
    have hcb : W.cell? ⟨w.heap.size + 1, 0, none⟩ = some (.bool false) := (blk_cell hR3 0).trans rfl
    have hfb := blk_frozen hR3 0
    have HA := Aside0.mk hall
    clear hall hlen
    gi_wp2
    have hKf := ((set16_keeps W w.heap.size (Value.int .i64 x0) (Value.int .i64 x1) (Value.int .i64 x2) (Value.int .i64 x3) (Value.int .i64 x4) (Value.int .i64 x5) (Value.int .i64 x6) (Value.int .i64 x7) (Value.int .i64 x8) (Value.int .i64 x9) (Value.int .i64 x10) (Value.int .i64 x11) (Value.int .i64 x12) (Value.int .i64 x13) (Value.int .i64 x14) (Value.int .i64 x15)).trans (KeepsOthers.setCell _ ⟨w.heap.size + 1, 0, none⟩ (.bool true))).same D _ hK rfl
    have hb2 := blk_far (p := ⟨w.heap.size + 1, 0, none⟩) (set16 hR2 (Value.int .i64 x0) (Value.int .i64 x1) (Value.int .i64 x2) (Value.int .i64 x3) (Value.int .i64 x4) (Value.int .i64 x5) (Value.int .i64 x6) (Value.int .i64 x7) (Value.int .i64 x8) (Value.int .i64 x9) (Value.int .i64 x10) (Value.int .i64 x11) (Value.int .i64 x12) (Value.int .i64 x13) (Value.int .i64 x14) (Value.int .i64 x15)) (show w.heap.size ≠ w.heap.size + 1 by omega) (.bool true)
    have hb3 := blk_put (set16_far hR3 (show w.heap.size + 1 ≠ w.heap.size by omega) (Value.int .i64 x0) (Value.int .i64 x1) (Value.int .i64 x2) (Value.int .i64 x3) (Value.int .i64 x4) (Value.int .i64 x5) (Value.int .i64 x6) (Value.int .i64 x7) (Value.int .i64 x8) (Value.int .i64 x9) (Value.int .i64 x10) (Value.int .i64 x11) (Value.int .i64 x12) (Value.int .i64 x13) (Value.int .i64 x14) (Value.int .i64 x15)) 0 (.bool true) (cs' := #[.bool true]) rfl
    have hBf := (set16_below hB (Nat.le_refl _) (Value.int .i64 x0) (Value.int .i64 x1) (Value.int .i64 x2) (Value.int .i64 x3) (Value.int .i64 x4) (Value.int .i64 x5) (Value.int .i64 x6) (Value.int .i64 x7) (Value.int .i64 x8) (Value.int .i64 x9) (Value.int .i64 x10) (Value.int .i64 x11) (Value.int .i64 x12) (Value.int .i64 x13) (Value.int .i64 x14) (Value.int .i64 x15)).setCell (p := ⟨w.heap.size + 1, 0, none⟩) (show w.heap.size ≤ w.heap.size + 1 by omega) (.bool true)
    generalize (((((((((((((((((W.setCell ⟨w.heap.size, 0, none⟩ (Value.int .i64 x0)).setCell ⟨w.heap.size, 1, none⟩ (Value.int .i64 x1)).setCell ⟨w.heap.size, 2, none⟩ (Value.int .i64 x2)).setCell ⟨w.heap.size, 3, none⟩ (Value.int .i64 x3)).setCell ⟨w.heap.size, 4, none⟩ (Value.int .i64 x4)).setCell ⟨w.heap.size, 5, none⟩ (Value.int .i64 x5)).setCell ⟨w.heap.size, 6, none⟩ (Value.int .i64 x6)).setCell ⟨w.heap.size, 7, none⟩ (Value.int .i64 x7)).setCell ⟨w.heap.size, 8, none⟩ (Value.int .i64 x8)).setCell ⟨w.heap.size, 9, none⟩ (Value.int .i64 x9)).setCell ⟨w.heap.size, 10, none⟩ (Value.int .i64 x10)).setCell ⟨w.heap.size, 11, none⟩ (Value.int .i64 x11)).setCell ⟨w.heap.size, 12, none⟩ (Value.int .i64 x12)).setCell ⟨w.heap.size, 13, none⟩ (Value.int .i64 x13)).setCell ⟨w.heap.size, 14, none⟩ (Value.int .i64 x14)).setCell ⟨w.heap.size, 15, none⟩ (Value.int .i64 x15)).setCell ⟨w.heap.size + 1, 0, none⟩ (.bool true)) = Wf at hKf hb2 hb3 hBf ⊢
    have e2 := ((grownBy_putObj' Wf D (.deferred none)).block w.heap.size (blk_lt hb2) (by intro e; injection e with e; omega)).trans hb2
    have e3 := ((grownBy_putObj' Wf D (.deferred none)).block (w.heap.size + 1) (blk_lt hb3) (by intro e; injection e with e; omega)).trans hb3
    refine ⟨by simp, .inl ⟨_, _, rfl, run_takeDeferred hKf, ?_⟩⟩
    have yb := (blk_cell e3 0).trans (show _ = some (Value.bool true) from rfl)
    refine ⟨.tuple #[agg16 [x0, x1, x2, x3, x4, x5, x6, x7, x8, x9, x10, x11, x12, x13, x14, x15], .bool true], ?_, by rw [HA.out], hBf.trans (belowK_b (w := w) (Nat.le_refl _) Wf D _ _ (by omega) hKf rfl rfl)⟩
    exact results_arr_bool rfl _ _ w.heap.size 62 _ (0, 0) (w.heap.size + 1) _ rfl e2 (by kernel_rfl) rfl yb
  case stop =>
    rintro D c pre W hD ⟨k, hk, rfl⟩ ⟨⟨rfl, ini, last, e1, e2⟩, hR2, hR3, hB⟩ hK
    have hall : countedS zs = (zero16, false) := by
      unfold countedS
      rw [if_neg hs, if_neg]
      intro h
      have hm : last ∈ usedL zs zs.length := usedL_sub zs hk last (by rw [e1]; simp)
      exact e2 (of_decide_eq_true (List.all_eq_true.1 h last hm))
    have HA := Aside0.mk hall
    clear hall e1 e2
    gi_wp2
    have e2 := ((grownBy_putObj' W D (.deferred none)).block w.heap.size (blk_lt hR2) (by intro e; injection e with e; omega)).trans hR2
    have e3 := ((grownBy_putObj' W D (.deferred none)).block (w.heap.size + 1) (blk_lt hR3) (by intro e; injection e with e; omega)).trans hR3
    refine ⟨by simp, .inl ⟨_, _, rfl, run_takeDeferred hK, ?_⟩⟩
    have yb := (blk_cell e3 0).trans (show _ = some (Value.bool false) from rfl)
    refine ⟨.tuple #[agg16 zero16, .bool false], ?_, by rw [HA.out], hB.trans (belowK_b (w := w) (Nat.le_refl _) W D _ _ (by omega) hK rfl rfl)⟩
    exact results_arr_bool rfl _ _ w.heap.size 62 _ (0, 0) (w.heap.size + 1) _ rfl e2 (by kernel_rfl) rfl yb
end
end Go.Proofs.Ytdgpcjhincgijaa.Pr

-- YtdgpcjhincgijaaLh3
namespace Go.Proofs.Ytdgpcjhincgijaa.Pr
open Go.RowKit Go.Shelf Go.Proofs.YtdgpcjhincgijaaW.PrintWords Go.Proofs.YtdgpcjhincgijaaW.PrintLast Go.Proofs.YtdgpcjhincgijaaW.PrintMore
set_option linter.unusedVariables false
set_option linter.unusedSimpArgs false
section
attribute [local go_sem] Oper.semAt_some
set_option maxRecDepth 100000 in
set_option maxHeartbeats 4000000 in
theorem counted_short (F : Fence) (n : Nat) (hF : F.fn 37) (hro : F.round = none) (A : Option Addr) (cap : Nat) (zs : List Int) (w : World) (hs : zs.length < 1 ∨ 288 < zs.length) :
    CallsIn F n Try.prog 37 #[.slice A zs.length cap] w (CountedPost zs w) := by
  have hall : countedS zs = (zero16, false) := by unfold countedS; rw [if_pos hs]
  have HA := Aside0.mk hall
  clear hall
  refine callsIn_of_wp Try.func37 rfl hF ?_ hro
  simp only [Try.ntmps37, List.size_toArray, List.length_cons, List.length_nil, Nat.reduceAdd, Nat.reduceSub, Array.replicate_succ, Array.replicate_zero, List.push_toArray, List.append_toArray, List.nil_append, List.cons_append]
  have bR2 := blk_alloc (blk_alloc (blk_new w (.cells #[Value.int IntKind.i64 0, Value.int IntKind.i64 0, Value.int IntKind.i64 0, Value.int IntKind.i64 0, Value.int IntKind.i64 0, Value.int IntKind.i64 0, Value.int IntKind.i64 0, Value.int IntKind.i64 0, Value.int IntKind.i64 0, Value.int IntKind.i64 0, Value.int IntKind.i64 0, Value.int IntKind.i64 0, Value.int IntKind.i64 0, Value.int IntKind.i64 0, Value.int IntKind.i64 0, Value.int IntKind.i64 0] 62 (0, 0))) (.cells #[.bool false] 4 (0, 0))) (.cells #[Value.int IntKind.i64 0, Value.int IntKind.i64 0, Value.int IntKind.i64 0, Value.int IntKind.i64 0, Value.int IntKind.i64 0, Value.int IntKind.i64 0, Value.int IntKind.i64 0, Value.int IntKind.i64 0, Value.int IntKind.i64 0, Value.int IntKind.i64 0, Value.int IntKind.i64 0, Value.int IntKind.i64 0, Value.int IntKind.i64 0, Value.int IntKind.i64 0, Value.int IntKind.i64 0, Value.int IntKind.i64 0] 62 (0, 0))
  have bR3 := blk_alloc (blk_new (w.alloc (.cells #[Value.int IntKind.i64 0, Value.int IntKind.i64 0, Value.int IntKind.i64 0, Value.int IntKind.i64 0, Value.int IntKind.i64 0, Value.int IntKind.i64 0, Value.int IntKind.i64 0, Value.int IntKind.i64 0, Value.int IntKind.i64 0, Value.int IntKind.i64 0, Value.int IntKind.i64 0, Value.int IntKind.i64 0, Value.int IntKind.i64 0, Value.int IntKind.i64 0, Value.int IntKind.i64 0, Value.int IntKind.i64 0] 62 (0, 0))) (.cells #[.bool false] 4 (0, 0))) (.cells #[Value.int IntKind.i64 0, Value.int IntKind.i64 0, Value.int IntKind.i64 0, Value.int IntKind.i64 0, Value.int IntKind.i64 0, Value.int IntKind.i64 0, Value.int IntKind.i64 0, Value.int IntKind.i64 0, Value.int IntKind.i64 0, Value.int IntKind.i64 0, Value.int IntKind.i64 0, Value.int IntKind.i64 0, Value.int IntKind.i64 0, Value.int IntKind.i64 0, Value.int IntKind.i64 0, Value.int IntKind.i64 0] 62 (0, 0))
  simp only [World.size_alloc] at bR3
  have hB0 : Below w.heap.size w (((w.alloc (.cells #[Value.int IntKind.i64 0, Value.int IntKind.i64 0, Value.int IntKind.i64 0, Value.int IntKind.i64 0, Value.int IntKind.i64 0, Value.int IntKind.i64 0, Value.int IntKind.i64 0, Value.int IntKind.i64 0, Value.int IntKind.i64 0, Value.int IntKind.i64 0, Value.int IntKind.i64 0, Value.int IntKind.i64 0, Value.int IntKind.i64 0, Value.int IntKind.i64 0, Value.int IntKind.i64 0, Value.int IntKind.i64 0] 62 (0, 0))).alloc (.cells #[.bool false] 4 (0, 0))).alloc (.cells #[Value.int IntKind.i64 0, Value.int IntKind.i64 0, Value.int IntKind.i64 0, Value.int IntKind.i64 0, Value.int IntKind.i64 0, Value.int IntKind.i64 0, Value.int IntKind.i64 0, Value.int IntKind.i64 0, Value.int IntKind.i64 0, Value.int IntKind.i64 0, Value.int IntKind.i64 0, Value.int IntKind.i64 0, Value.int IntKind.i64 0, Value.int IntKind.i64 0, Value.int IntKind.i64 0, Value.int IntKind.i64 0] 62 (0, 0))) := below_alloc (below_alloc (below_alloc (Below.refl _ _) _) _) _
  have H2 := Aside0.mk bR2
  have H3 := Aside0.mk bR3
  have HB := Aside0.mk hB0
  clear bR2 bR3 hB0
  rcases hs with hs | hs
  · have h1 := eq_true (show (zs.length : Int) < 1 by omega)
    have h2 := eq_true (show zs.length < 1 by omega)
    clear hs
    gi_wp2
    refine bodyPost_ret (results_arr_bool rfl _ _ w.heap.size 62 _ (0, 0) (w.heap.size + 1) _ rfl H2.out (by kernel_rfl) rfl ((blk_cell H3.out 0).trans rfl)) rfl ?_
    exact ⟨by rw [HA.out]; rfl, HB.out⟩
  · have h1 := eq_false (show ¬ (zs.length : Int) < 1 by omega)
    have h2 := eq_false (show ¬ zs.length < 1 by omega)
    have h3 := eq_true (show (288 : Int) < (zs.length : Int) by omega)
    have h4 := eq_true (show 288 < zs.length by omega)
    clear hs
    gi_wp2
    refine bodyPost_ret (results_arr_bool rfl _ _ w.heap.size 62 _ (0, 0) (w.heap.size + 1) _ rfl H2.out (by kernel_rfl) rfl ((blk_cell H3.out 0).trans rfl)) rfl ?_
    exact ⟨by rw [HA.out]; rfl, HB.out⟩
end
end Go.Proofs.Ytdgpcjhincgijaa.Pr

-- YtdgpcjhincgijaaLh4
namespace Go.Proofs.Ytdgpcjhincgijaa.Pr
open Go.RowKit Go.Shelf Go.Proofs.YtdgpcjhincgijaaW.PrintWords Go.Proofs.YtdgpcjhincgijaaW.PrintLast Go.Proofs.YtdgpcjhincgijaaW.PrintMore
set_option linter.unusedVariables false
set_option linter.unusedSimpArgs false
theorem huff_counted.calls (A : Option Addr) (c : Nat) (zs : List Int) (w : World) (hr : (Kd.int .i64).C w A zs.length zs) : Calls Try.prog 37 #[.slice A zs.length c] w (CountedPost zs w) := by
  refine (callsIn_wide (n := 3)).1 ?_
  by_cases hs : zs.length < 1 ∨ 288 < zs.length
  · exact counted_short _ _ trivial rfl A c zs w hs
  · refine counted_in _ _ trivial trivial trivial rfl (Nat.le_refl _) A c zs w hr hs (fun ad e => ?_)
    subst e
    obtain ⟨ad', e, hx⟩ := Kd.at_int hr 0 (by omega) (by omega)
    injection e with e
    subst e
    exact World.block_lt_of_cell? w _ hx
/-- What is left of a code's room, d lengths being left. -/
def roomF (c : List Int) : Nat → Int → Int
  | 0, left => left
  | d + 1, left => if wrap64 (wrap64 (2 * left) - rd c ((15 - d : Nat) : Int)) < 0 then wrap64 (wrap64 (2 * left) - rd c ((15 - d : Nat) : Int)) else roomF c d (wrap64 (wrap64 (2 * left) - rd c ((15 - d : Nat) : Int)))
def roomS (c : List Int) : Int := roomF c 15 1
section
attribute [local go_sem] Oper.semAt_some
set_option maxRecDepth 100000 in
set_option maxHeartbeats 4000000 in
theorem room_in (F : Fence) (n : Nat) (hF : F.fn 38) (hro : F.round = none) (g : Nat) (c : List Int) (hl : c.length = 16) (w : World) (hb : w.heap[g]? = some (.cells (vec16 c) 62 (0, 0))) :
    CallsIn F n Try.prog 38 #[.pointer (some ⟨g, 0, none⟩)] w fun e w' => e = .returned (.int .i64 (roomS c)) ∧ w' = w := by
  refine callsIn_of_wp Try.func38 rfl hF ?_ hro
  simp only [Try.ntmps38, List.size_toArray, List.length_cons, List.length_nil, Nat.reduceAdd, Nat.reduceSub, Array.replicate_succ, Array.replicate_zero, List.push_toArray, List.append_toArray, List.nil_append, List.cons_append]
  obtain ⟨rS, hS⟩ : ∃ r, roomS c = r := ⟨_, rfl⟩
  rw [hS]
  have HC : ∀ i : Nat, i < 16 → w.cell? ⟨g, i, none⟩ = some (.int .i64 (rd c (i : Int))) := fun i hi => by
    rw [blk_cell hb]
    unfold vec16 rd
    rw [List.getElem?_toArray, List.getElem?_map, List.getD_eq_getElem?_getD, Int.toNat_natCast, List.getElem?_eq_getElem (show i < c.length by omega)]
    rfl
  have HCA := Aside0.mk HC
  clear HC
  gi_wp2
  gi_loopw [3, 4] (fun x l wr => ∃ (d : Nat) (left : Int), d ≤ 15 ∧ x = .int .i64 left ∧ l = .int .i64 ((16 - d : Nat) : Int) ∧ roomF c d left = rS ∧ wr = w)
    (fun _ l _ => 16 - (intOf l).toNat)
  case atStart => exact ⟨15, 1, by omega, rfl, rfl, hS, rfl⟩
  case round =>
    obtain ⟨d, left, hd, rfl, rfl, hr, rfl⟩ := hrel
    cases d with
    | zero =>
      have q := eq_false (show ¬ ((16 - 0 : Nat) : Int) ≤ 15 by omega)
      simp only [roomF] at hr
      subst hr
      gi_wp2
      go_ret
      exact ⟨rfl, rfl⟩
    | succ d =>
      obtain ⟨m, hm⟩ : ∃ m : Nat, 16 - (d + 1) = m := ⟨_, rfl⟩
      rw [hm]
      have hm2 : 15 - d = m := by omega
      simp only [roomF, hm2] at hr
      have q := eq_true (show (m : Int) ≤ 15 by omega)
      have q0 := eq_true (show (0 : Int) ≤ (m : Int) by omega)
      have q1 := eq_true (show (m : Int) < 16 by omega)
      have q2 := eq_true (show m < 16 by omega)
      have q3 := eq_true (show m ≤ 15 by omega)
      have hc := HCA.out m (by omega)
      obtain ⟨y, hy⟩ : ∃ y, wrap64 (wrap64 (2 * left) - rd c (m : Int)) = y := ⟨_, rfl⟩
      rw [hy] at hr
      by_cases hneg : y < 0
      · rw [if_pos hneg] at hr
        subst hr
        have q4 := eq_true hneg
        gi_wp2
        go_ret
        exact ⟨by rw [← hy]; rfl, rfl⟩
      · rw [if_neg hneg] at hr
        have q4 := eq_false hneg
        gi_wp2
        go_roundw
        case rel => exact ⟨d, y, by omega, by first | rfl | (simp [hy]; done) | (rw [← hy]), by first | rfl | (congr 1; omega) | (simp; omega), hr, by first | rfl | trivial⟩
        case measure => simp [intOf]; omega
end
theorem room.calls (g : Nat) (c : List Int) (hl : c.length = 16) (w : World) (hb : w.heap[g]? = some (.cells (vec16 c) 62 (0, 0))) : Calls Try.prog 38 #[.pointer (some ⟨g, 0, none⟩)] w fun e w' => e = .returned (.int .i64 (roomS c)) ∧ w' = w :=
  (callsIn_wide (n := 3)).1 (room_in _ _ trivial rfl g c hl w hb)
end Go.Proofs.Ytdgpcjhincgijaa.Pr

-- YtdgpcjhincgijaaLh5
namespace Go.Proofs.Ytdgpcjhincgijaa.Pr
open Go.RowKit Go.Shelf Go.Proofs.YtdgpcjhincgijaaW.PrintWords Go.Proofs.YtdgpcjhincgijaaW.PrintLast Go.Proofs.YtdgpcjhincgijaaW.PrintMore
set_option linter.unusedVariables false
set_option linter.unusedSimpArgs false
def checkS (zs : List Int) : Int := if (countedS zs).2 = false then 2 else if roomS (countedS zs).1 < 0 then 11 else if roomS (countedS zs).1 > 0 then 12 else 0
theorem countedS_len (zs : List Int) : (countedS zs).1.length = 16 := by
  unfold countedS
  split
  · rfl
  · split
    · exact cntL_len _
    · rfl
set_option maxRecDepth 100000 in
set_option maxHeartbeats 4000000 in
theorem huff_Check_in (A : Option Addr) (c : Nat) (l : List Int) (w : World) (hr : (Kd.int .i64).C w A l.length l) : Calls Try.prog 30 #[.slice A l.length c] w fun e w' => e = .returned (.int .i64 (checkS l)) ∧ Below w.heap.size w w' := by
  have hlen := countedS_len l
  have K := huff_counted.calls A c l w hr
  unfold CountedPost at K
  unfold checkS
  generalize countedS l = cs at hlen K ⊢
  obtain ⟨cl, ok⟩ := cs
  dsimp only at hlen K ⊢
  obtain ⟨x0, cl, rfl⟩ := List.exists_cons_of_length_pos (l := cl) (by omega)
  obtain ⟨x1, cl, rfl⟩ := List.exists_cons_of_length_pos (l := cl) (by simp only [List.length_cons] at hlen; omega)
  obtain ⟨x2, cl, rfl⟩ := List.exists_cons_of_length_pos (l := cl) (by simp only [List.length_cons] at hlen; omega)
  obtain ⟨x3, cl, rfl⟩ := List.exists_cons_of_length_pos (l := cl) (by simp only [List.length_cons] at hlen; omega)
  obtain ⟨x4, cl, rfl⟩ := List.exists_cons_of_length_pos (l := cl) (by simp only [List.length_cons] at hlen; omega)
  obtain ⟨x5, cl, rfl⟩ := List.exists_cons_of_length_pos (l := cl) (by simp only [List.length_cons] at hlen; omega)
  obtain ⟨x6, cl, rfl⟩ := List.exists_cons_of_length_pos (l := cl) (by simp only [List.length_cons] at hlen; omega)
  obtain ⟨x7, cl, rfl⟩ := List.exists_cons_of_length_pos (l := cl) (by simp only [List.length_cons] at hlen; omega)
  obtain ⟨x8, cl, rfl⟩ := List.exists_cons_of_length_pos (l := cl) (by simp only [List.length_cons] at hlen; omega)
  obtain ⟨x9, cl, rfl⟩ := List.exists_cons_of_length_pos (l := cl) (by simp only [List.length_cons] at hlen; omega)
  obtain ⟨x10, cl, rfl⟩ := List.exists_cons_of_length_pos (l := cl) (by simp only [List.length_cons] at hlen; omega)
  obtain ⟨x11, cl, rfl⟩ := List.exists_cons_of_length_pos (l := cl) (by simp only [List.length_cons] at hlen; omega)
  obtain ⟨x12, cl, rfl⟩ := List.exists_cons_of_length_pos (l := cl) (by simp only [List.length_cons] at hlen; omega)
  obtain ⟨x13, cl, rfl⟩ := List.exists_cons_of_length_pos (l := cl) (by simp only [List.length_cons] at hlen; omega)
  obtain ⟨x14, cl, rfl⟩ := List.exists_cons_of_length_pos (l := cl) (by simp only [List.length_cons] at hlen; omega)
  obtain ⟨x15, cl, rfl⟩ := List.exists_cons_of_length_pos (l := cl) (by simp only [List.length_cons] at hlen; omega)
  obtain rfl : cl = [] := List.eq_nil_of_length_eq_zero (by simp only [List.length_cons] at hlen; omega)
  have K2 := Aside0.mk K
  clear K hlen
  cases ok with
  | false =>
    go_enter Try.func30, Try.ntmps30
    go_wp2_with (first
        | (go_at_call 37; refine (K2.out).mono ?_; rintro e_ w3 ⟨rfl, hb⟩; have HB := Aside0.mk hb; clear hb; simp only [agg16, List.map_cons, List.map_nil])
        | ((with_reducible refine gate_dst (N := 3) rfl ?_); refine box_event ?hg (N := 3) ?hd (cs := #[.int .i64 0, .int .i64 0, .int .i64 0, .int .i64 0, .int .i64 0, .int .i64 0, .int .i64 0, .int .i64 0, .int .i64 0, .int .i64 0, .int .i64 0, .int .i64 0, .int .i64 0, .int .i64 0, .int .i64 0, .int .i64 0]) (t := 62) ?hr ?_; (case hd => rfl); (case hg => rfl); (case hr => first | (go_simp; done) | (go_simp; rfl)); intro g3 hg w4 hbox hb; have B3 := Aside0.mk hbox; have G3 := Aside0.mk (show w.heap.size ≤ g3 by rw [hg]; exact HB.out.size); have H4 := Aside0.mk (below_then HB.out HB.out.size hb); clear hg hbox hb; have hc0 : w4.cell? ⟨g3, 0, none⟩ = some (.int .i64 0) := (blk_cell B3.out 0).trans rfl; have hf0 := blk_frozen B3.out 0; have hc1 : w4.cell? ⟨g3, 1, none⟩ = some (.int .i64 0) := (blk_cell B3.out 1).trans rfl; have hf1 := blk_frozen B3.out 1; have hc2 : w4.cell? ⟨g3, 2, none⟩ = some (.int .i64 0) := (blk_cell B3.out 2).trans rfl; have hf2 := blk_frozen B3.out 2; have hc3 : w4.cell? ⟨g3, 3, none⟩ = some (.int .i64 0) := (blk_cell B3.out 3).trans rfl; have hf3 := blk_frozen B3.out 3; have hc4 : w4.cell? ⟨g3, 4, none⟩ = some (.int .i64 0) := (blk_cell B3.out 4).trans rfl; have hf4 := blk_frozen B3.out 4; have hc5 : w4.cell? ⟨g3, 5, none⟩ = some (.int .i64 0) := (blk_cell B3.out 5).trans rfl; have hf5 := blk_frozen B3.out 5; have hc6 : w4.cell? ⟨g3, 6, none⟩ = some (.int .i64 0) := (blk_cell B3.out 6).trans rfl; have hf6 := blk_frozen B3.out 6; have hc7 : w4.cell? ⟨g3, 7, none⟩ = some (.int .i64 0) := (blk_cell B3.out 7).trans rfl; have hf7 := blk_frozen B3.out 7; have hc8 : w4.cell? ⟨g3, 8, none⟩ = some (.int .i64 0) := (blk_cell B3.out 8).trans rfl; have hf8 := blk_frozen B3.out 8; have hc9 : w4.cell? ⟨g3, 9, none⟩ = some (.int .i64 0) := (blk_cell B3.out 9).trans rfl; have hf9 := blk_frozen B3.out 9; have hc10 : w4.cell? ⟨g3, 10, none⟩ = some (.int .i64 0) := (blk_cell B3.out 10).trans rfl; have hf10 := blk_frozen B3.out 10; have hc11 : w4.cell? ⟨g3, 11, none⟩ = some (.int .i64 0) := (blk_cell B3.out 11).trans rfl; have hf11 := blk_frozen B3.out 11; have hc12 : w4.cell? ⟨g3, 12, none⟩ = some (.int .i64 0) := (blk_cell B3.out 12).trans rfl; have hf12 := blk_frozen B3.out 12; have hc13 : w4.cell? ⟨g3, 13, none⟩ = some (.int .i64 0) := (blk_cell B3.out 13).trans rfl; have hf13 := blk_frozen B3.out 13; have hc14 : w4.cell? ⟨g3, 14, none⟩ = some (.int .i64 0) := (blk_cell B3.out 14).trans rfl; have hf14 := blk_frozen B3.out 14; have hc15 : w4.cell? ⟨g3, 15, none⟩ = some (.int .i64 0) := (blk_cell B3.out 15).trans rfl; have hf15 := blk_frozen B3.out 15)
        )
    go_ret
    exact ⟨rfl, set16_below H4.out G3.out _ _ _ _ _ _ _ _ _ _ _ _ _ _ _ _⟩
  | true =>
    obtain ⟨y, hy⟩ : ∃ y, roomS [x0, x1, x2, x3, x4, x5, x6, x7, x8, x9, x10, x11, x12, x13, x14, x15] = y := ⟨_, rfl⟩
    rw [hy]
    simp only [Bool.true_eq_false, if_false]
    by_cases h1 : y < 0
    · rw [if_pos h1]
      have q1 := eq_true h1
      go_enter Try.func30, Try.ntmps30
      go_wp2_with (first
          | (go_at_call 37; refine (K2.out).mono ?_; rintro e_ w3 ⟨rfl, hb⟩; have HB := Aside0.mk hb; clear hb; simp only [agg16, List.map_cons, List.map_nil])
          | ((with_reducible refine gate_dst (N := 3) rfl ?_); refine box_event ?hg (N := 3) ?hd (cs := #[.int .i64 0, .int .i64 0, .int .i64 0, .int .i64 0, .int .i64 0, .int .i64 0, .int .i64 0, .int .i64 0, .int .i64 0, .int .i64 0, .int .i64 0, .int .i64 0, .int .i64 0, .int .i64 0, .int .i64 0, .int .i64 0]) (t := 62) ?hr ?_; (case hd => rfl); (case hg => rfl); (case hr => first | (go_simp; done) | (go_simp; rfl)); intro g3 hg w4 hbox hb; have B3 := Aside0.mk hbox; have G3 := Aside0.mk (show w.heap.size ≤ g3 by rw [hg]; exact HB.out.size); have H4 := Aside0.mk (below_then HB.out HB.out.size hb); clear hg hbox hb; have hc0 : w4.cell? ⟨g3, 0, none⟩ = some (.int .i64 0) := (blk_cell B3.out 0).trans rfl; have hf0 := blk_frozen B3.out 0; have hc1 : w4.cell? ⟨g3, 1, none⟩ = some (.int .i64 0) := (blk_cell B3.out 1).trans rfl; have hf1 := blk_frozen B3.out 1; have hc2 : w4.cell? ⟨g3, 2, none⟩ = some (.int .i64 0) := (blk_cell B3.out 2).trans rfl; have hf2 := blk_frozen B3.out 2; have hc3 : w4.cell? ⟨g3, 3, none⟩ = some (.int .i64 0) := (blk_cell B3.out 3).trans rfl; have hf3 := blk_frozen B3.out 3; have hc4 : w4.cell? ⟨g3, 4, none⟩ = some (.int .i64 0) := (blk_cell B3.out 4).trans rfl; have hf4 := blk_frozen B3.out 4; have hc5 : w4.cell? ⟨g3, 5, none⟩ = some (.int .i64 0) := (blk_cell B3.out 5).trans rfl; have hf5 := blk_frozen B3.out 5; have hc6 : w4.cell? ⟨g3, 6, none⟩ = some (.int .i64 0) := (blk_cell B3.out 6).trans rfl; have hf6 := blk_frozen B3.out 6; have hc7 : w4.cell? ⟨g3, 7, none⟩ = some (.int .i64 0) := (blk_cell B3.out 7).trans rfl; have hf7 := blk_frozen B3.out 7; have hc8 : w4.cell? ⟨g3, 8, none⟩ = some (.int .i64 0) := (blk_cell B3.out 8).trans rfl; have hf8 := blk_frozen B3.out 8; have hc9 : w4.cell? ⟨g3, 9, none⟩ = some (.int .i64 0) := (blk_cell B3.out 9).trans rfl; have hf9 := blk_frozen B3.out 9; have hc10 : w4.cell? ⟨g3, 10, none⟩ = some (.int .i64 0) := (blk_cell B3.out 10).trans rfl; have hf10 := blk_frozen B3.out 10; have hc11 : w4.cell? ⟨g3, 11, none⟩ = some (.int .i64 0) := (blk_cell B3.out 11).trans rfl; have hf11 := blk_frozen B3.out 11; have hc12 : w4.cell? ⟨g3, 12, none⟩ = some (.int .i64 0) := (blk_cell B3.out 12).trans rfl; have hf12 := blk_frozen B3.out 12; have hc13 : w4.cell? ⟨g3, 13, none⟩ = some (.int .i64 0) := (blk_cell B3.out 13).trans rfl; have hf13 := blk_frozen B3.out 13; have hc14 : w4.cell? ⟨g3, 14, none⟩ = some (.int .i64 0) := (blk_cell B3.out 14).trans rfl; have hf14 := blk_frozen B3.out 14; have hc15 : w4.cell? ⟨g3, 15, none⟩ = some (.int .i64 0) := (blk_cell B3.out 15).trans rfl; have hf15 := blk_frozen B3.out 15)
          | (go_at_call 38; refine (room.calls g3 [x0, x1, x2, x3, x4, x5, x6, x7, x8, x9, x10, x11, x12, x13, x14, x15] rfl _ (set16 B3.out _ _ _ _ _ _ _ _ _ _ _ _ _ _ _ _)).mono ?_; rintro e_ w5 ⟨rfl, rfl⟩; rw [hy])
          )
      go_ret
      exact ⟨rfl, set16_below H4.out G3.out _ _ _ _ _ _ _ _ _ _ _ _ _ _ _ _⟩
    · rw [if_neg h1]
      by_cases h2 : y > 0
      · rw [if_pos h2]
        have q1 := eq_false h1
        have q2 := eq_true h2
        have q3 := eq_true (show 0 < y from h2)
        go_enter Try.func30, Try.ntmps30
        go_wp2_with (first
            | (go_at_call 37; refine (K2.out).mono ?_; rintro e_ w3 ⟨rfl, hb⟩; have HB := Aside0.mk hb; clear hb; simp only [agg16, List.map_cons, List.map_nil])
            | ((with_reducible refine gate_dst (N := 3) rfl ?_); refine box_event ?hg (N := 3) ?hd (cs := #[.int .i64 0, .int .i64 0, .int .i64 0, .int .i64 0, .int .i64 0, .int .i64 0, .int .i64 0, .int .i64 0, .int .i64 0, .int .i64 0, .int .i64 0, .int .i64 0, .int .i64 0, .int .i64 0, .int .i64 0, .int .i64 0]) (t := 62) ?hr ?_; (case hd => rfl); (case hg => rfl); (case hr => first | (go_simp; done) | (go_simp; rfl)); intro g3 hg w4 hbox hb; have B3 := Aside0.mk hbox; have G3 := Aside0.mk (show w.heap.size ≤ g3 by rw [hg]; exact HB.out.size); have H4 := Aside0.mk (below_then HB.out HB.out.size hb); clear hg hbox hb; have hc0 : w4.cell? ⟨g3, 0, none⟩ = some (.int .i64 0) := (blk_cell B3.out 0).trans rfl; have hf0 := blk_frozen B3.out 0; have hc1 : w4.cell? ⟨g3, 1, none⟩ = some (.int .i64 0) := (blk_cell B3.out 1).trans rfl; have hf1 := blk_frozen B3.out 1; have hc2 : w4.cell? ⟨g3, 2, none⟩ = some (.int .i64 0) := (blk_cell B3.out 2).trans rfl; have hf2 := blk_frozen B3.out 2; have hc3 : w4.cell? ⟨g3, 3, none⟩ = some (.int .i64 0) := (blk_cell B3.out 3).trans rfl; have hf3 := blk_frozen B3.out 3; have hc4 : w4.cell? ⟨g3, 4, none⟩ = some (.int .i64 0) := (blk_cell B3.out 4).trans rfl; have hf4 := blk_frozen B3.out 4; have hc5 : w4.cell? ⟨g3, 5, none⟩ = some (.int .i64 0) := (blk_cell B3.out 5).trans rfl; have hf5 := blk_frozen B3.out 5; have hc6 : w4.cell? ⟨g3, 6, none⟩ = some (.int .i64 0) := (blk_cell B3.out 6).trans rfl; have hf6 := blk_frozen B3.out 6; have hc7 : w4.cell? ⟨g3, 7, none⟩ = some (.int .i64 0) := (blk_cell B3.out 7).trans rfl; have hf7 := blk_frozen B3.out 7; have hc8 : w4.cell? ⟨g3, 8, none⟩ = some (.int .i64 0) := (blk_cell B3.out 8).trans rfl; have hf8 := blk_frozen B3.out 8; have hc9 : w4.cell? ⟨g3, 9, none⟩ = some (.int .i64 0) := (blk_cell B3.out 9).trans rfl; have hf9 := blk_frozen B3.out 9; have hc10 : w4.cell? ⟨g3, 10, none⟩ = some (.int .i64 0) := (blk_cell B3.out 10).trans rfl; have hf10 := blk_frozen B3.out 10; have hc11 : w4.cell? ⟨g3, 11, none⟩ = some (.int .i64 0) := (blk_cell B3.out 11).trans rfl; have hf11 := blk_frozen B3.out 11; have hc12 : w4.cell? ⟨g3, 12, none⟩ = some (.int .i64 0) := (blk_cell B3.out 12).trans rfl; have hf12 := blk_frozen B3.out 12; have hc13 : w4.cell? ⟨g3, 13, none⟩ = some (.int .i64 0) := (blk_cell B3.out 13).trans rfl; have hf13 := blk_frozen B3.out 13; have hc14 : w4.cell? ⟨g3, 14, none⟩ = some (.int .i64 0) := (blk_cell B3.out 14).trans rfl; have hf14 := blk_frozen B3.out 14; have hc15 : w4.cell? ⟨g3, 15, none⟩ = some (.int .i64 0) := (blk_cell B3.out 15).trans rfl; have hf15 := blk_frozen B3.out 15)
            | (go_at_call 38; refine (room.calls g3 [x0, x1, x2, x3, x4, x5, x6, x7, x8, x9, x10, x11, x12, x13, x14, x15] rfl _ (set16 B3.out _ _ _ _ _ _ _ _ _ _ _ _ _ _ _ _)).mono ?_; rintro e_ w5 ⟨rfl, rfl⟩; rw [hy])
            )
        go_ret
        exact ⟨rfl, set16_below H4.out G3.out _ _ _ _ _ _ _ _ _ _ _ _ _ _ _ _⟩
      · rw [if_neg h2]
        have q1 := eq_false h1
        have q2 := eq_false h2
        have q3 := eq_false (show ¬ 0 < y from h2)
        go_enter Try.func30, Try.ntmps30
        go_wp2_with (first
            | (go_at_call 37; refine (K2.out).mono ?_; rintro e_ w3 ⟨rfl, hb⟩; have HB := Aside0.mk hb; clear hb; simp only [agg16, List.map_cons, List.map_nil])
            | ((with_reducible refine gate_dst (N := 3) rfl ?_); refine box_event ?hg (N := 3) ?hd (cs := #[.int .i64 0, .int .i64 0, .int .i64 0, .int .i64 0, .int .i64 0, .int .i64 0, .int .i64 0, .int .i64 0, .int .i64 0, .int .i64 0, .int .i64 0, .int .i64 0, .int .i64 0, .int .i64 0, .int .i64 0, .int .i64 0]) (t := 62) ?hr ?_; (case hd => rfl); (case hg => rfl); (case hr => first | (go_simp; done) | (go_simp; rfl)); intro g3 hg w4 hbox hb; have B3 := Aside0.mk hbox; have G3 := Aside0.mk (show w.heap.size ≤ g3 by rw [hg]; exact HB.out.size); have H4 := Aside0.mk (below_then HB.out HB.out.size hb); clear hg hbox hb; have hc0 : w4.cell? ⟨g3, 0, none⟩ = some (.int .i64 0) := (blk_cell B3.out 0).trans rfl; have hf0 := blk_frozen B3.out 0; have hc1 : w4.cell? ⟨g3, 1, none⟩ = some (.int .i64 0) := (blk_cell B3.out 1).trans rfl; have hf1 := blk_frozen B3.out 1; have hc2 : w4.cell? ⟨g3, 2, none⟩ = some (.int .i64 0) := (blk_cell B3.out 2).trans rfl; have hf2 := blk_frozen B3.out 2; have hc3 : w4.cell? ⟨g3, 3, none⟩ = some (.int .i64 0) := (blk_cell B3.out 3).trans rfl; have hf3 := blk_frozen B3.out 3; have hc4 : w4.cell? ⟨g3, 4, none⟩ = some (.int .i64 0) := (blk_cell B3.out 4).trans rfl; have hf4 := blk_frozen B3.out 4; have hc5 : w4.cell? ⟨g3, 5, none⟩ = some (.int .i64 0) := (blk_cell B3.out 5).trans rfl; have hf5 := blk_frozen B3.out 5; have hc6 : w4.cell? ⟨g3, 6, none⟩ = some (.int .i64 0) := (blk_cell B3.out 6).trans rfl; have hf6 := blk_frozen B3.out 6; have hc7 : w4.cell? ⟨g3, 7, none⟩ = some (.int .i64 0) := (blk_cell B3.out 7).trans rfl; have hf7 := blk_frozen B3.out 7; have hc8 : w4.cell? ⟨g3, 8, none⟩ = some (.int .i64 0) := (blk_cell B3.out 8).trans rfl; have hf8 := blk_frozen B3.out 8; have hc9 : w4.cell? ⟨g3, 9, none⟩ = some (.int .i64 0) := (blk_cell B3.out 9).trans rfl; have hf9 := blk_frozen B3.out 9; have hc10 : w4.cell? ⟨g3, 10, none⟩ = some (.int .i64 0) := (blk_cell B3.out 10).trans rfl; have hf10 := blk_frozen B3.out 10; have hc11 : w4.cell? ⟨g3, 11, none⟩ = some (.int .i64 0) := (blk_cell B3.out 11).trans rfl; have hf11 := blk_frozen B3.out 11; have hc12 : w4.cell? ⟨g3, 12, none⟩ = some (.int .i64 0) := (blk_cell B3.out 12).trans rfl; have hf12 := blk_frozen B3.out 12; have hc13 : w4.cell? ⟨g3, 13, none⟩ = some (.int .i64 0) := (blk_cell B3.out 13).trans rfl; have hf13 := blk_frozen B3.out 13; have hc14 : w4.cell? ⟨g3, 14, none⟩ = some (.int .i64 0) := (blk_cell B3.out 14).trans rfl; have hf14 := blk_frozen B3.out 14; have hc15 : w4.cell? ⟨g3, 15, none⟩ = some (.int .i64 0) := (blk_cell B3.out 15).trans rfl; have hf15 := blk_frozen B3.out 15)
            | (go_at_call 38; refine (room.calls g3 [x0, x1, x2, x3, x4, x5, x6, x7, x8, x9, x10, x11, x12, x13, x14, x15] rfl _ (set16 B3.out _ _ _ _ _ _ _ _ _ _ _ _ _ _ _ _)).mono ?_; rintro e_ w5 ⟨rfl, rfl⟩; rw [hy])
            )
        go_ret
        exact ⟨rfl, set16_below H4.out G3.out _ _ _ _ _ _ _ _ _ _ _ _ _ _ _ _⟩
end Go.Proofs.Ytdgpcjhincgijaa.Pr

