-- A text by hand (wip/locks).
import Derived.RangeFuncNested
import Derived.RangeFuncBound
import Derived.RangeFuncCalls
import Derived.RangeFuncLeaves
import Derived.RangeFuncBox
import Derived.Shelf.Abstract
import Derived.Shelf.RegionOpen
import Derived.OwnWalkIn
import Derived.TacticsInMore
import Derived.LoopNIn
import Derived.LoopIn
import Derived.Test.YtdhabfjfpbdjfaaPr0
import Derived.Test.YtdhabfjfpbdjfaaLk19
namespace Go.Proofs.Ytdhabfjfpbdjfaa.Pr
open Go.RowKit Go.Shelf Go.Proofs.YtdhabfjfpbdjfaaW.PrintWords Go.Proofs.YtdhabfjfpbdjfaaW.PrintLast Go.Proofs.YtdhabfjfpbdjfaaW.PrintMore
set_option linter.unusedVariables false
set_option linter.unusedSimpArgs false
section
attribute [local go_sem] Oper.semAt_some
namespace Law
theorem val_next (k : Nat) (h : k < 1000000) : Value.int .i64 (wrap64 ((k : Int) + 1)) = Value.int .i64 ((k + 1 : Nat) : Int) := by
  rw [wrap64_id (by omega) (by omega), show (k : Int) + 1 = ((k + 1 : Nat) : Int) by omega]
theorem nat_next (k : Nat) (h : k < 1000000) : (intOf (Value.int .i64 (wrap64 ((k : Int) + 1)))).toNat = k + 1 := by
  rw [val_next k h]
  exact Int.toNat_natCast _
/-- An act's cells. -/
theorem act_at {w W : World} {ad : Addr} {l : List S30} (hr : Kd.C k30 w (some ad) l.length l) (hB : Below w.heap.size w W) (i : Nat) (hi : i < l.length) {a : S30} (ha : rd_T30 l (i : Int) = a) : W.cell? (ad.add (i * 4)) = some (.bool a.f0) ∧ W.cell? ⟨(ad.add (i * 4)).block, (ad.add (i * 4)).off + 1, none⟩ = some (.int .i64 a.f1) ∧ W.cell? ⟨(ad.add (i * 4)).block, (ad.add (i * 4)).off + 2, none⟩ = some (.string a.f2) ∧ W.cell? ⟨(ad.add (i * 4)).block, (ad.add (i * 4)).off + 3, none⟩ = some (.bool a.f3) := by
  obtain ⟨ad2, e, h0, h1, h2, h3⟩ := at_T30 (Kd.C_below hr hB) (i : Int) (by omega) (by omega)
  injection e with e
  subst e
  rw [Int.toNat_natCast, ha] at h0 h1 h2 h3
  exact ⟨h0, h1, h2, h3⟩
theorem nodup_rd {l : List Int} (h : l.Nodup) {k p : Nat} (hk : k < p) (hp : p < l.length) : ¬ rd l (k : Int) = rd l (p : Int) := by
  unfold rd
  rw [Int.toNat_natCast, Int.toNat_natCast, List.getD_eq_getElem?_getD, List.getD_eq_getElem?_getD, List.getElem?_eq_getElem hp, List.getElem?_eq_getElem (by omega)]
  exact List.pairwise_iff_getElem.1 h k p (by omega) hp hk
end Law
open Law
set_option maxHeartbeats 8000000 in
set_option maxRecDepth 100000 in
theorem LocksApart.walk (A0 : Option Addr) (c0 : Nat) (l0 : List S30) (w : World) (r0 : Kd.C k30 w A0 l0.length l0) (q0 : l0.length ≤ c0) (m0 : l0.length ≤ maxLen) (w0 : ∀ a ∈ l0, ActOk a) :
    Calls Try.prog 5 #[.slice A0 l0.length c0] w fun e w' => e = .returned (.bool true) ∧ Below w.heap.size w w' := by
  have HR := Aside0.mk r0
  have HC := Aside0.mk q0
  have HB := Aside0.mk (Below.refl w.heap.size w)
  obtain ⟨rf, hf1, hf2⟩ := few_l0 (l := l0) 102 0 (by omega) (by omega) (by omega)
  have HF := Aside0.mk (show valiselaw18_few.f 102 l0 = some rf from hf1)
  cases rf with
  | false =>
    clear r0 q0 hf1 hf2 m0 w0
    go_enter Try.func5, Try.ntmps5
    go_wp2_with (first
        | (go_at_call 8; refine (New_calls w _ HB.out).mono ?_; rintro e_ w1 ⟨rfl, hL', hB'⟩; have n0 := Aside0.mk hB'; have HL := Aside0.mk hL'; clear HB hB' hL'; have HB := n0; clear n0)
        | (go_at_call 9; refine (valiselaw18_few.calls 102 A0 c0 l0 false _ (Kd.C_below HR.out HB.out) HC.out HF.out).mono ?_; rintro e_ w2 ⟨rfl, hd⟩; have hb := hd.below; clear hd; have hB' := below_then HB.out HB.out.size hb; have hL' := LA.below HL.out hb; have ho := off_below hb; clear hb; have n0 := Aside0.mk (hB'); have n1 := Aside0.mk (hL'); clear HB HL; have HB := n0; have HL := n1; clear n0 n1; clear hB' hL' ho)
        | (go_at_call 10; refine (lives_calls _).mono ?_; rintro e_ w9 ⟨rfl, hb⟩; have hB' := below_then HB.out HB.out.size hb; have hL' := LA.below HL.out hb; have ho := off_below hb; clear hb; have n0 := Aside0.mk (hB'); have n1 := Aside0.mk (hL'); clear HB HL; have HB := n0; have HL := n1; clear n0 n1; clear hB' hL' ho)
        )
    go_ret
    exact ⟨rfl, HB.out⟩
  | true =>
    have HFEW := Aside0.mk (show Few l0 from ⟨(hf2 rfl).1, fun j hj => (hf2 rfl).2 j (by omega) hj⟩)
    have HW := Aside0.mk w0
    clear r0 q0 hf1 hf2 m0 w0
    go_enter Try.func5, Try.ntmps5
    go_wp2_with (first
        | (go_at_call 8; refine (New_calls w _ HB.out).mono ?_; rintro e_ w1 ⟨rfl, hL', hB'⟩; have n0 := Aside0.mk hB'; have HL := Aside0.mk hL'; clear HB hB' hL'; have HB := n0; clear n0)
        | (go_at_call 9; refine (valiselaw18_few.calls 102 A0 c0 l0 true _ (Kd.C_below HR.out HB.out) HC.out HF.out).mono ?_; rintro e_ w2 ⟨rfl, hd⟩; have hb := hd.below; clear hd; have hB' := below_then HB.out HB.out.size hb; have hL' := LA.below HL.out hb; have ho := off_below hb; clear hb; have n0 := Aside0.mk (hB'); have n1 := Aside0.mk (hL'); clear HB HL; have HB := n0; have HL := n1; clear n0 n1; clear hB' hL' ho)
        )
    obtain ⟨gl, hgl⟩ : ∃ gl, w.heap.size + 1 = gl := ⟨_, rfl⟩
    rw [hgl] at HL ⊢
    clear hgl
    go_loopw [4] (fun x4 w' => ∃ (i : Nat) (P : LP), i ≤ l0.length ∧ x4 = .int .i64 (i : Int) ∧ Aside0 (Inv P) ∧ Aside0 (LA w' w.heap.size gl P) ∧ Aside0 (Below w.heap.size w w')) (fun x4 _ => l0.length + 1 - (intOf x4).toNat)
    case atStart => exact ⟨0, [], by omega, rfl, ⟨inv_nil⟩, HL, HB⟩
    case round =>
      clear HL HB
      obtain ⟨i, P, hil, rfl, HI, HL, HB⟩ := hrel
      by_cases hlt : i < l0.length
      · obtain ⟨a, hx⟩ : ∃ x, rd_T30 l0 (i : Int) = x := ⟨_, rfl⟩
        obtain ⟨ad, ead, _⟩ := at_T30 HR.out (i : Int) (by omega) (by omega)
        subst ead
        have HX := Aside0.mk hx
        have HLT := Aside0.mk hlt
        obtain ⟨hx0, hx1, hx2, hx3⟩ := act_at HR.out HB.out i hlt hx
        have q0 := eq_true (show (i : Int) < (l0.length : Int) by omega)
        have q1 := eq_true (show (0 : Int) ≤ (i : Int) by omega)
        have q2 := eq_true hlt
        have hu30 := Try.underlying30
        obtain ⟨P', hP'⟩ : ∃ P', doP a P = P' := ⟨_, rfl⟩
        have hI' := do_inv HI.out a
        rw [hP'] at hI'
        obtain ⟨⟨hs, hw⟩, hhs⟩ : ∃ x, holdsP a.f2 P' = x := ⟨_, rfl⟩
        obtain ⟨ws, hws⟩ : ∃ ws, waitsP a.f2 P' = ws := ⟨_, rfl⟩
        have hap := apart_of hI' a.f2
        rw [hhs, hws] at hap
        dsimp only at hap
        have HP := Aside0.mk hP'
        have HI' := Aside0.mk hI'
        have HHS := Aside0.mk hhs
        have HWS := Aside0.mk hws
        have HAP := Aside0.mk hap
        clear hx hlt hP' hI' hhs hws hap
        go_upto_region 10 with (first
        | (go_at_call 19; have hc := do_calls gl a P w _ HL.out HB.out HI.out; rw [HP.out] at hc; refine hc.mono ?_; clear hc; rintro e_ w2 ⟨rfl, hL', hB', ho⟩; have n0 := Aside0.mk (hB'); have n1 := Aside0.mk (hL'); clear HB HL; have HB := n0; have HL := n1; clear n0 n1; clear hB' hL' ho; clear hx0 hx1 hx2 hx3; obtain ⟨hx0, hx1, hx2, hx3⟩ := act_at HR.out HB.out i HLT.out HX.out)
        | (go_at_call 17; have hc := Holds_la gl a.f2 P' _ _ HL.out HI'.out.small; rw [HHS.out] at hc; dsimp only at hc; refine hc.mono ?_; clear hc; rintro e_ w3 ⟨v_, rfl, ho_, hb⟩; obtain ⟨AH, cAH, ev_⟩ := Kd.R_slice ho_; subst ev_; have hB' := below_then HB.out HB.out.size hb; have hL' := LA.below HL.out hb; have ho := off_below hb; clear hb; have n0 := Aside0.mk (hB'); have n1 := Aside0.mk (hL'); have n2 := Aside0.mk (ho_); clear HB HL; have HB := n0; have HL := n1; have RH := n2; clear n0 n1 n2; clear hB' hL' ho; clear ho_; clear hx0 hx1 hx2 hx3; obtain ⟨hx0, hx1, hx2, hx3⟩ := act_at HR.out HB.out i HLT.out HX.out)
        | (go_at_call 11; have hc := Waits_la gl a.f2 P' _ _ HL.out HI'.out.small; rw [HWS.out] at hc; refine hc.mono ?_; clear hc; rintro e_ w4 ⟨v_, rfl, ho_, hb⟩; obtain ⟨AW, cAW, ev_⟩ := Kd.R_slice ho_; subst ev_; have hB' := below_then HB.out HB.out.size hb; have hL' := LA.below HL.out hb; have ho := off_below hb; clear hb; have n0 := Aside0.mk (hB'); have n1 := Aside0.mk (hL'); have n2 := Aside0.mk (ints_off RH.out ho); have n3 := Aside0.mk (ho_); clear HB HL RH; have HB := n0; have HL := n1; have RH := n2; have RW := n3; clear n0 n1 n2 n3; clear hB' hL' ho; clear ho_; clear hx0 hx1 hx2 hx3; obtain ⟨hx0, hx1, hx2, hx3⟩ := act_at HR.out HB.out i HLT.out HX.out)
        )
        have hap := HAP.out
        have CH := Aside0.mk (Kd.R_reads' RH.out).2.2
        have CW := Aside0.mk (Kd.R_reads' RW.out).2.2
        clear RH RW hx0 hx1 hx2 hx3
        have HND := Aside0.mk hap.2.2.1
        have HAPL := Aside0.mk hap.2.2.2
        rcases hw with _ | _
        · by_cases hz : hs.length = 0
          · as_aux_lemma =>
              have hz0 := hap.2.1 hz
              have e1 : (hs.length : Int) = 0 := by omega
              have e2 : (ws.length : Int) = 0 := by omega
              clear hz hz0
              clear hap
              obtain ⟨all, hall⟩ : ∃ all, hs ++ ws = all := ⟨_, rfl⟩
              rw [hall] at HND HAPL
              go_wp2_with (first
        | ((with_reducible refine gate_dst (N := 69) rfl ?_); (try (refine gate_guard (by rfl) ?_; dsimp only)); refine Kd.R_lit (Kd.int .i64) _ 3 ?hg (N := 69) ?hd (xs := ([] : List Int)) (inner := []) (ok := fun _ => True) (okp := fun _ => True) ?hr ?hp (fun _ hk => hk) trivial (Below.refl _ _) (Nat.le_refl _) (by simp) ?_; (case hd => rfl); (case hg => rfl); (case hr => first | (go_simp; done) | (go_simp; rfl)); (case hp => exact (Reps.none _ _)); intro v_ w_ ho_ hb hg_ hnew_; clear hg_ hnew_; obtain ⟨A1, d1, ev_⟩ := Kd.R_slice ho_; subst ev_; have n0 := Aside0.mk (hb); have n1 := Aside0.mk (ho_); have HD := n0; have HO1 := n1; clear n0 n1; clear hb ho_)
        | ((with_reducible refine gate_builtin (b := .append) (xs := #[.tmp 69, .tmp 70]) rfl ?_); at_builtin; refine Kd.R_append_rows (Kd.int .i64) (w0 := w4) w4.heap.size rfl (.tmp 69) (.tmp 70) 27 3 (.int .i64 0) 8 rfl Try.underlying27 info3 rfl (by decide) (by omega) (.slice A1 (([] : List Int).length) d1) [] hs AH _ _ (fun _ => True) (fun _ => False) rfl rfl ?aO ?aR (fun _ _ h => h) (fun _ h => h.elim) ?aF ?aB ?aS ?aL ?_; (case aR => exact Kd.C_below CH.out HD.out); (case aB => exact HD.out); (case aF => exact fun _ _ => trivial); (case aO => exact HO1.out); (case aS => exact (HD.out).size); (case aL => have := HAP.out.2.2.2; rw [List.length_append] at this; simp only [List.length_nil, List.nil_append, List.length_append]; omega); intro v_ w_ ho_ hb hg_ hat_; clear hg_ hat_; obtain ⟨A2, d2, ev_⟩ := Kd.R_slice ho_; subst ev_; have n0 := Aside0.mk (hb); have n1 := Aside0.mk (ho_); clear HD HO1; have HD := n0; have HO1 := n1; clear n0 n1; clear hb ho_)
        | ((with_reducible refine gate_builtin (b := .append) (xs := #[.tmp 71, .tmp 72]) rfl ?_); at_builtin; refine Kd.R_append_rows (Kd.int .i64) (w0 := w4) w4.heap.size rfl (.tmp 71) (.tmp 72) 27 3 (.int .i64 0) 8 rfl Try.underlying27 info3 rfl (by decide) (by omega) (.slice A2 (([] ++ hs : List Int).length) d2) ([] ++ hs) ws AW _ _ (fun _ => True) (fun _ => False) rfl rfl ?aO ?aR (fun _ _ h => h) (fun _ h => h.elim) ?aF ?aB ?aS ?aL ?_; (case aR => exact Kd.C_below CW.out HD.out); (case aB => exact HD.out); (case aF => exact fun _ _ => trivial); (case aO => exact HO1.out); (case aS => exact (HD.out).size); (case aL => have := HAP.out.2.2.2; rw [List.length_append] at this; simp only [List.length_nil, List.nil_append, List.length_append]; omega); intro v_ w_ ho_ hb hg_ hat_; clear hg_ hat_; rw [List.nil_append, hall] at ho_; obtain ⟨AL, d3, ev_⟩ := Kd.R_slice ho_; subst ev_; clear hall; have n0 := Aside0.mk (hb); have n1 := Aside0.mk (ho_); clear HD HO1; have HD := n0; have HO1 := n1; clear n0 n1; clear hb ho_)
        )
              have CA := Aside0.mk (Kd.R_reads' HO1.out).2.2
              have hB' := below_then HB.out HB.out.size HD.out
              have hL' := LA.below HL.out HD.out
              have n0 := Aside0.mk hB'
              have n1 := Aside0.mk hL'
              clear HB HL hB' hL' HD HO1 CH CW
              have HB := n0
              have HL := n1
              clear n0 n1
              go_loopw [9] (fun x9 w' => ∃ p : Nat, p ≤ all.length ∧ x9 = .int .i64 (p : Int) ∧ Aside0 (LA w' w.heap.size gl P') ∧ Aside0 (Below w.heap.size w w') ∧ Aside0 (Kd.C (Kd.int .i64) w' AL all.length all)) (fun x9 _ => all.length + 1 - (intOf x9).toNat)
              case atStart => exact ⟨0, by omega, rfl, HL, HB, CA⟩
              case round =>
                clear HL HB CA
                obtain ⟨p, hp, rfl, HL, HB, CA⟩ := hrel
                by_cases hpl : p < all.length
                · have p0 := eq_true (show (p : Int) < (all.length : Int) by omega)
                  have HPL := Aside0.mk hpl
                  clear hp hpl
                  go_wp2
                  go_loopw [10] (fun x10 w' => ∃ k : Nat, k ≤ p ∧ x10 = .int .i64 (k : Int) ∧ Aside0 (LA w' w.heap.size gl P') ∧ Aside0 (Below w.heap.size w w') ∧ Aside0 (Kd.C (Kd.int .i64) w' AL all.length all)) (fun x10 _ => p + 1 - (intOf x10).toNat)
                  case atStart => exact ⟨0, by omega, rfl, HL, HB, CA⟩
                  case round =>
                    clear HL HB CA
                    obtain ⟨k, hk, rfl, HL, HB, CA⟩ := hrel
                    by_cases hkp : k < p
                    · have hpl := HPL.out
                      obtain ⟨adk, eak, hck⟩ := Kd.at_int CA.out (k : Int) (by omega) (by omega)
                      subst eak
                      rw [Int.toNat_natCast] at hck
                      obtain ⟨adp, eap, hcp⟩ := Kd.at_int CA.out (p : Int) (by omega) (by omega)
                      injection eap with eap
                      subst eap
                      rw [Int.toNat_natCast] at hcp
                      have hne := nodup_rd HND.out (show k < p from hkp) hpl
                      obtain ⟨y, hy⟩ : ∃ y, rd all (k : Int) = y := ⟨_, rfl⟩
                      obtain ⟨z, hz⟩ : ∃ z, rd all (p : Int) = z := ⟨_, rfl⟩
                      rw [hy] at hck hne
                      rw [hz] at hcp hne
                      clear hy hz
                      have he : (y == z) = false := beq_eq_false_iff_ne.mpr hne
                      have n0 := eq_true (show (k : Int) < (p : Int) by omega)
                      have n1 := eq_true (show (k : Int) < (all.length : Int) by omega)
                      have n2 := eq_true (show (0 : Int) ≤ (k : Int) by omega)
                      have n3 := eq_true (show (0 : Int) ≤ (p : Int) by omega)
                      have n4 := eq_true (show k < all.length by omega)
                      have n5 := eq_true (show p < all.length by omega)
                      have n6 := eq_false hne
                      have HKP := Aside0.mk hkp
                      clear hk hkp hpl hne
                      go_wp2
                      have hb := below_drew1 (Below.refl wr.heap.size wr)
                      have n0 := Aside0.mk (below_then HB.out HB.out.size hb)
                      have n1 := Aside0.mk (LA.below HL.out hb)
                      have n2 := Aside0.mk (Kd.C_below CA.out hb)
                      clear HB HL CA
                      have HB := n0
                      have HL := n1
                      have CA := n2
                      clear n0 n1 n2
                      replace hck := pw_cell_below hb hck
                      replace hcp := pw_cell_below hb hcp
                      clear hb
                      refine start_ (n := 9) (S := fun w' => w'.cell? (adk.add k) = some (.int .i64 y) ∧ w'.cell? (adk.add p) = some (.int .i64 z)) (ds := []) #[false, false, false, false, false, false, false, false, false] (by kernel_rfl) rfl rfl ⟨hck, hcp⟩ (fun hHeld => ?_)
                      generalize wr.drew = wd at HB HL CA hck hcp hHeld ⊢
                      refine pure_ (i := 0) (N := some 85) (v := ?_) (a' := ?_) #[true, false, false, false, false, false, false, false, false] rfl rfl (by kernel_rfl) (fun _ _ _ h => h) (Or.inl ⟨by rfl, ?_⟩) ?_ ?_
                      rotate_left
                      · intro w'
                        go_simp
                        with_reducible rfl
                      rotate_left
                      · simp only [Act.put, List.setIfInBounds_toArray, List.set_cons_zero, List.set_cons_succ, i64_w, i32_w, u8_w]
                        rfl
                      refine pure_ (i := 1) (N := some 86) (v := ?_) (a' := ?_) #[true, true, false, false, false, false, false, false, false] rfl rfl (by kernel_rfl) (fun _ _ _ h => h) (Or.inl ⟨by rfl, ?_⟩) ?_ ?_
                      rotate_left
                      · intro w'
                        go_simp
                        with_reducible rfl
                      rotate_left
                      · simp only [Act.put, List.setIfInBounds_toArray, List.set_cons_zero, List.set_cons_succ, i64_w, i32_w, u8_w]
                        rfl
                      refine pure_ (i := 2) (N := some 87) (v := ?_) (a' := ?_) #[true, true, true, false, false, false, false, false, false] rfl rfl (by kernel_rfl) (fun _ _ _ h => h) (Or.inl ⟨by rfl, ?_⟩) ?_ ?_
                      rotate_left
                      · intro w'
                        go_simp
                        with_reducible rfl
                      rotate_left
                      · simp only [Act.put, List.setIfInBounds_toArray, List.set_cons_zero, List.set_cons_succ, i64_w, i32_w, u8_w]
                        rfl
                      refine pure_ (i := 4) (N := some 89) (v := ?_) (a' := ?_) #[true, true, true, false, true, false, false, false, false] rfl rfl (by kernel_rfl) (fun _ _ _ h => h) (Or.inl ⟨by rfl, ?_⟩) ?_ ?_
                      rotate_left
                      · intro w'
                        go_simp
                        with_reducible rfl
                      rotate_left
                      · simp only [Act.put, List.setIfInBounds_toArray, List.set_cons_zero, List.set_cons_succ, i64_w, i32_w, u8_w]
                        rfl
                      refine pure_ (i := 5) (N := some 90) (v := ?_) (a' := ?_) #[true, true, true, false, true, true, false, false, false] rfl rfl (by kernel_rfl) (fun _ _ _ h => h) (Or.inl ⟨by rfl, ?_⟩) ?_ ?_
                      rotate_left
                      · intro w'
                        go_simp
                        with_reducible rfl
                      rotate_left
                      · simp only [Act.put, List.setIfInBounds_toArray, List.set_cons_zero, List.set_cons_succ, i64_w, i32_w, u8_w]
                        rfl
                      refine pure_ (i := 6) (N := some 91) (v := ?_) (a' := ?_) #[true, true, true, false, true, true, true, false, false] rfl rfl (by kernel_rfl) (fun _ _ _ h => h) (Or.inl ⟨by rfl, ?_⟩) ?_ ?_
                      rotate_left
                      · intro w'
                        go_simp
                        with_reducible rfl
                      rotate_left
                      · simp only [Act.put, List.setIfInBounds_toArray, List.set_cons_zero, List.set_cons_succ, i64_w, i32_w, u8_w]
                        rfl
                      refine take_ (i := 3) (N := some 88) (v := ?_) (a' := ?_) #[true, true, true, true, true, true, true, false, false] rfl rfl (by kernel_rfl) (fun _ _ _ h => h) (Or.inl ⟨by rfl, ?_⟩) hHeld ?_ ?_
                      rotate_left
                      · rintro w' ⟨s0, s1⟩
                        go_simp
                        with_reducible rfl
                      rotate_left
                      · simp only [Act.put, List.setIfInBounds_toArray, List.set_cons_zero, List.set_cons_succ, i64_w, i32_w, u8_w]
                        rfl
                      refine take_ (i := 7) (N := some 92) (v := ?_) (a' := ?_) #[true, true, true, true, true, true, true, true, false] rfl rfl (by kernel_rfl) (fun _ _ _ h => h) (Or.inl ⟨by rfl, ?_⟩) hHeld ?_ ?_
                      rotate_left
                      · rintro w' ⟨s0, s1⟩
                        go_simp
                        with_reducible rfl
                      rotate_left
                      · simp only [Act.put, List.setIfInBounds_toArray, List.set_cons_zero, List.set_cons_succ, i64_w, i32_w, u8_w]
                        rfl
                      refine pure_ (i := 8) (N := some 93) (v := ?_) (a' := ?_) #[true, true, true, true, true, true, true, true, true] rfl rfl (by kernel_rfl) (fun _ _ _ h => h) (Or.inl ⟨by rfl, ?_⟩) ?_ ?_
                      rotate_left
                      · intro w'
                        go_simp
                        with_reducible rfl
                      rotate_left
                      · simp only [Act.put, List.setIfInBounds_toArray, List.set_cons_zero, List.set_cons_succ, i64_w, i32_w, u8_w]
                        rfl
                      refine done_ (by kernel_rfl) ?_
                      go_wp2
                      go_roundw
                      case rel => have b3 := HPL.out; have b4 := HAPL.out; have b5 := HKP.out; exact ⟨k + 1, by omega, val_next _ (by omega), HL, HB, CA⟩
                      case measure => have b3 := HPL.out; have b4 := HAPL.out; have b5 := HKP.out; rw [nat_next _ (by omega)]; simp only [intOf, Int.toNat_natCast]; omega
                    · have n0 := eq_false (show ¬ (k : Int) < (p : Int) by omega)
                      clear hk hkp
                      go_wp2
                      go_roundw
                      case rel => have b3 := HPL.out; have b4 := HAPL.out; exact ⟨p + 1, by omega, val_next _ (by omega), HL, HB, CA⟩
                      case measure => have b3 := HPL.out; have b4 := HAPL.out; rw [nat_next _ (by omega)]; simp only [intOf, Int.toNat_natCast]; omega
                · have p0 := eq_false (show ¬ (p : Int) < (all.length : Int) by omega)
                  clear hp hpl
                  go_wp2
                  go_roundw
                  case rel => have b1 := HFEW.out.1; have b2 := HLT.out; exact ⟨i + 1, P', by omega, val_next _ (by omega), HI', HL, HB⟩
                  case measure => have b1 := HFEW.out.1; have b2 := HLT.out; rw [nat_next _ (by omega)]; simp only [intOf, Int.toNat_natCast]; omega
          · as_aux_lemma =>
              have e1 := eq_false (show ¬ (hs.length : Int) = 0 by omega)
              have e2 : ((hs.length : Int) == 0) = false := beq_eq_false_iff_ne.mpr (by omega)
              have e3 := eq_false hz
              clear hz
              clear hap
              obtain ⟨all, hall⟩ : ∃ all, hs ++ ws = all := ⟨_, rfl⟩
              rw [hall] at HND HAPL
              go_wp2_with (first
        | ((with_reducible refine gate_dst (N := 69) rfl ?_); (try (refine gate_guard (by rfl) ?_; dsimp only)); refine Kd.R_lit (Kd.int .i64) _ 3 ?hg (N := 69) ?hd (xs := ([] : List Int)) (inner := []) (ok := fun _ => True) (okp := fun _ => True) ?hr ?hp (fun _ hk => hk) trivial (Below.refl _ _) (Nat.le_refl _) (by simp) ?_; (case hd => rfl); (case hg => rfl); (case hr => first | (go_simp; done) | (go_simp; rfl)); (case hp => exact (Reps.none _ _)); intro v_ w_ ho_ hb hg_ hnew_; clear hg_ hnew_; obtain ⟨A1, d1, ev_⟩ := Kd.R_slice ho_; subst ev_; have n0 := Aside0.mk (hb); have n1 := Aside0.mk (ho_); have HD := n0; have HO1 := n1; clear n0 n1; clear hb ho_)
        | ((with_reducible refine gate_builtin (b := .append) (xs := #[.tmp 69, .tmp 70]) rfl ?_); at_builtin; refine Kd.R_append_rows (Kd.int .i64) (w0 := w4) w4.heap.size rfl (.tmp 69) (.tmp 70) 27 3 (.int .i64 0) 8 rfl Try.underlying27 info3 rfl (by decide) (by omega) (.slice A1 (([] : List Int).length) d1) [] hs AH _ _ (fun _ => True) (fun _ => False) rfl rfl ?aO ?aR (fun _ _ h => h) (fun _ h => h.elim) ?aF ?aB ?aS ?aL ?_; (case aR => exact Kd.C_below CH.out HD.out); (case aB => exact HD.out); (case aF => exact fun _ _ => trivial); (case aO => exact HO1.out); (case aS => exact (HD.out).size); (case aL => have := HAP.out.2.2.2; rw [List.length_append] at this; simp only [List.length_nil, List.nil_append, List.length_append]; omega); intro v_ w_ ho_ hb hg_ hat_; clear hg_ hat_; obtain ⟨A2, d2, ev_⟩ := Kd.R_slice ho_; subst ev_; have n0 := Aside0.mk (hb); have n1 := Aside0.mk (ho_); clear HD HO1; have HD := n0; have HO1 := n1; clear n0 n1; clear hb ho_)
        | ((with_reducible refine gate_builtin (b := .append) (xs := #[.tmp 71, .tmp 72]) rfl ?_); at_builtin; refine Kd.R_append_rows (Kd.int .i64) (w0 := w4) w4.heap.size rfl (.tmp 71) (.tmp 72) 27 3 (.int .i64 0) 8 rfl Try.underlying27 info3 rfl (by decide) (by omega) (.slice A2 (([] ++ hs : List Int).length) d2) ([] ++ hs) ws AW _ _ (fun _ => True) (fun _ => False) rfl rfl ?aO ?aR (fun _ _ h => h) (fun _ h => h.elim) ?aF ?aB ?aS ?aL ?_; (case aR => exact Kd.C_below CW.out HD.out); (case aB => exact HD.out); (case aF => exact fun _ _ => trivial); (case aO => exact HO1.out); (case aS => exact (HD.out).size); (case aL => have := HAP.out.2.2.2; rw [List.length_append] at this; simp only [List.length_nil, List.nil_append, List.length_append]; omega); intro v_ w_ ho_ hb hg_ hat_; clear hg_ hat_; rw [List.nil_append, hall] at ho_; obtain ⟨AL, d3, ev_⟩ := Kd.R_slice ho_; subst ev_; clear hall; have n0 := Aside0.mk (hb); have n1 := Aside0.mk (ho_); clear HD HO1; have HD := n0; have HO1 := n1; clear n0 n1; clear hb ho_)
        )
              have CA := Aside0.mk (Kd.R_reads' HO1.out).2.2
              have hB' := below_then HB.out HB.out.size HD.out
              have hL' := LA.below HL.out HD.out
              have n0 := Aside0.mk hB'
              have n1 := Aside0.mk hL'
              clear HB HL hB' hL' HD HO1 CH CW
              have HB := n0
              have HL := n1
              clear n0 n1
              go_loopw [9] (fun x9 w' => ∃ p : Nat, p ≤ all.length ∧ x9 = .int .i64 (p : Int) ∧ Aside0 (LA w' w.heap.size gl P') ∧ Aside0 (Below w.heap.size w w') ∧ Aside0 (Kd.C (Kd.int .i64) w' AL all.length all)) (fun x9 _ => all.length + 1 - (intOf x9).toNat)
              case atStart => exact ⟨0, by omega, rfl, HL, HB, CA⟩
              case round =>
                clear HL HB CA
                obtain ⟨p, hp, rfl, HL, HB, CA⟩ := hrel
                by_cases hpl : p < all.length
                · have p0 := eq_true (show (p : Int) < (all.length : Int) by omega)
                  have HPL := Aside0.mk hpl
                  clear hp hpl
                  go_wp2
                  go_loopw [10] (fun x10 w' => ∃ k : Nat, k ≤ p ∧ x10 = .int .i64 (k : Int) ∧ Aside0 (LA w' w.heap.size gl P') ∧ Aside0 (Below w.heap.size w w') ∧ Aside0 (Kd.C (Kd.int .i64) w' AL all.length all)) (fun x10 _ => p + 1 - (intOf x10).toNat)
                  case atStart => exact ⟨0, by omega, rfl, HL, HB, CA⟩
                  case round =>
                    clear HL HB CA
                    obtain ⟨k, hk, rfl, HL, HB, CA⟩ := hrel
                    by_cases hkp : k < p
                    · have hpl := HPL.out
                      obtain ⟨adk, eak, hck⟩ := Kd.at_int CA.out (k : Int) (by omega) (by omega)
                      subst eak
                      rw [Int.toNat_natCast] at hck
                      obtain ⟨adp, eap, hcp⟩ := Kd.at_int CA.out (p : Int) (by omega) (by omega)
                      injection eap with eap
                      subst eap
                      rw [Int.toNat_natCast] at hcp
                      have hne := nodup_rd HND.out (show k < p from hkp) hpl
                      obtain ⟨y, hy⟩ : ∃ y, rd all (k : Int) = y := ⟨_, rfl⟩
                      obtain ⟨z, hz⟩ : ∃ z, rd all (p : Int) = z := ⟨_, rfl⟩
                      rw [hy] at hck hne
                      rw [hz] at hcp hne
                      clear hy hz
                      have he : (y == z) = false := beq_eq_false_iff_ne.mpr hne
                      have n0 := eq_true (show (k : Int) < (p : Int) by omega)
                      have n1 := eq_true (show (k : Int) < (all.length : Int) by omega)
                      have n2 := eq_true (show (0 : Int) ≤ (k : Int) by omega)
                      have n3 := eq_true (show (0 : Int) ≤ (p : Int) by omega)
                      have n4 := eq_true (show k < all.length by omega)
                      have n5 := eq_true (show p < all.length by omega)
                      have n6 := eq_false hne
                      have HKP := Aside0.mk hkp
                      clear hk hkp hpl hne
                      go_wp2
                      have hb := below_drew1 (Below.refl wr.heap.size wr)
                      have n0 := Aside0.mk (below_then HB.out HB.out.size hb)
                      have n1 := Aside0.mk (LA.below HL.out hb)
                      have n2 := Aside0.mk (Kd.C_below CA.out hb)
                      clear HB HL CA
                      have HB := n0
                      have HL := n1
                      have CA := n2
                      clear n0 n1 n2
                      replace hck := pw_cell_below hb hck
                      replace hcp := pw_cell_below hb hcp
                      clear hb
                      refine start_ (n := 9) (S := fun w' => w'.cell? (adk.add k) = some (.int .i64 y) ∧ w'.cell? (adk.add p) = some (.int .i64 z)) (ds := []) #[false, false, false, false, false, false, false, false, false] (by kernel_rfl) rfl rfl ⟨hck, hcp⟩ (fun hHeld => ?_)
                      generalize wr.drew = wd at HB HL CA hck hcp hHeld ⊢
                      refine pure_ (i := 0) (N := some 85) (v := ?_) (a' := ?_) #[true, false, false, false, false, false, false, false, false] rfl rfl (by kernel_rfl) (fun _ _ _ h => h) (Or.inl ⟨by rfl, ?_⟩) ?_ ?_
                      rotate_left
                      · intro w'
                        go_simp
                        with_reducible rfl
                      rotate_left
                      · simp only [Act.put, List.setIfInBounds_toArray, List.set_cons_zero, List.set_cons_succ, i64_w, i32_w, u8_w]
                        rfl
                      refine pure_ (i := 1) (N := some 86) (v := ?_) (a' := ?_) #[true, true, false, false, false, false, false, false, false] rfl rfl (by kernel_rfl) (fun _ _ _ h => h) (Or.inl ⟨by rfl, ?_⟩) ?_ ?_
                      rotate_left
                      · intro w'
                        go_simp
                        with_reducible rfl
                      rotate_left
                      · simp only [Act.put, List.setIfInBounds_toArray, List.set_cons_zero, List.set_cons_succ, i64_w, i32_w, u8_w]
                        rfl
                      refine pure_ (i := 2) (N := some 87) (v := ?_) (a' := ?_) #[true, true, true, false, false, false, false, false, false] rfl rfl (by kernel_rfl) (fun _ _ _ h => h) (Or.inl ⟨by rfl, ?_⟩) ?_ ?_
                      rotate_left
                      · intro w'
                        go_simp
                        with_reducible rfl
                      rotate_left
                      · simp only [Act.put, List.setIfInBounds_toArray, List.set_cons_zero, List.set_cons_succ, i64_w, i32_w, u8_w]
                        rfl
                      refine pure_ (i := 4) (N := some 89) (v := ?_) (a' := ?_) #[true, true, true, false, true, false, false, false, false] rfl rfl (by kernel_rfl) (fun _ _ _ h => h) (Or.inl ⟨by rfl, ?_⟩) ?_ ?_
                      rotate_left
                      · intro w'
                        go_simp
                        with_reducible rfl
                      rotate_left
                      · simp only [Act.put, List.setIfInBounds_toArray, List.set_cons_zero, List.set_cons_succ, i64_w, i32_w, u8_w]
                        rfl
                      refine pure_ (i := 5) (N := some 90) (v := ?_) (a' := ?_) #[true, true, true, false, true, true, false, false, false] rfl rfl (by kernel_rfl) (fun _ _ _ h => h) (Or.inl ⟨by rfl, ?_⟩) ?_ ?_
                      rotate_left
                      · intro w'
                        go_simp
                        with_reducible rfl
                      rotate_left
                      · simp only [Act.put, List.setIfInBounds_toArray, List.set_cons_zero, List.set_cons_succ, i64_w, i32_w, u8_w]
                        rfl
                      refine pure_ (i := 6) (N := some 91) (v := ?_) (a' := ?_) #[true, true, true, false, true, true, true, false, false] rfl rfl (by kernel_rfl) (fun _ _ _ h => h) (Or.inl ⟨by rfl, ?_⟩) ?_ ?_
                      rotate_left
                      · intro w'
                        go_simp
                        with_reducible rfl
                      rotate_left
                      · simp only [Act.put, List.setIfInBounds_toArray, List.set_cons_zero, List.set_cons_succ, i64_w, i32_w, u8_w]
                        rfl
                      refine take_ (i := 3) (N := some 88) (v := ?_) (a' := ?_) #[true, true, true, true, true, true, true, false, false] rfl rfl (by kernel_rfl) (fun _ _ _ h => h) (Or.inl ⟨by rfl, ?_⟩) hHeld ?_ ?_
                      rotate_left
                      · rintro w' ⟨s0, s1⟩
                        go_simp
                        with_reducible rfl
                      rotate_left
                      · simp only [Act.put, List.setIfInBounds_toArray, List.set_cons_zero, List.set_cons_succ, i64_w, i32_w, u8_w]
                        rfl
                      refine take_ (i := 7) (N := some 92) (v := ?_) (a' := ?_) #[true, true, true, true, true, true, true, true, false] rfl rfl (by kernel_rfl) (fun _ _ _ h => h) (Or.inl ⟨by rfl, ?_⟩) hHeld ?_ ?_
                      rotate_left
                      · rintro w' ⟨s0, s1⟩
                        go_simp
                        with_reducible rfl
                      rotate_left
                      · simp only [Act.put, List.setIfInBounds_toArray, List.set_cons_zero, List.set_cons_succ, i64_w, i32_w, u8_w]
                        rfl
                      refine pure_ (i := 8) (N := some 93) (v := ?_) (a' := ?_) #[true, true, true, true, true, true, true, true, true] rfl rfl (by kernel_rfl) (fun _ _ _ h => h) (Or.inl ⟨by rfl, ?_⟩) ?_ ?_
                      rotate_left
                      · intro w'
                        go_simp
                        with_reducible rfl
                      rotate_left
                      · simp only [Act.put, List.setIfInBounds_toArray, List.set_cons_zero, List.set_cons_succ, i64_w, i32_w, u8_w]
                        rfl
                      refine done_ (by kernel_rfl) ?_
                      go_wp2
                      go_roundw
                      case rel => have b3 := HPL.out; have b4 := HAPL.out; have b5 := HKP.out; exact ⟨k + 1, by omega, val_next _ (by omega), HL, HB, CA⟩
                      case measure => have b3 := HPL.out; have b4 := HAPL.out; have b5 := HKP.out; rw [nat_next _ (by omega)]; simp only [intOf, Int.toNat_natCast]; omega
                    · have n0 := eq_false (show ¬ (k : Int) < (p : Int) by omega)
                      clear hk hkp
                      go_wp2
                      go_roundw
                      case rel => have b3 := HPL.out; have b4 := HAPL.out; exact ⟨p + 1, by omega, val_next _ (by omega), HL, HB, CA⟩
                      case measure => have b3 := HPL.out; have b4 := HAPL.out; rw [nat_next _ (by omega)]; simp only [intOf, Int.toNat_natCast]; omega
                · have p0 := eq_false (show ¬ (p : Int) < (all.length : Int) by omega)
                  clear hp hpl
                  go_wp2
                  go_roundw
                  case rel => have b1 := HFEW.out.1; have b2 := HLT.out; exact ⟨i + 1, P', by omega, val_next _ (by omega), HI', HL, HB⟩
                  case measure => have b1 := HFEW.out.1; have b2 := HLT.out; rw [nat_next _ (by omega)]; simp only [intOf, Int.toNat_natCast]; omega
        · as_aux_lemma =>
            have hz := hap.1 rfl
            have e1 : (hs.length : Int) = 1 := by omega
            clear hz
            clear hap
            obtain ⟨all, hall⟩ : ∃ all, hs ++ ws = all := ⟨_, rfl⟩
            rw [hall] at HND HAPL
            go_wp2_with (first
        | ((with_reducible refine gate_dst (N := 69) rfl ?_); (try (refine gate_guard (by rfl) ?_; dsimp only)); refine Kd.R_lit (Kd.int .i64) _ 3 ?hg (N := 69) ?hd (xs := ([] : List Int)) (inner := []) (ok := fun _ => True) (okp := fun _ => True) ?hr ?hp (fun _ hk => hk) trivial (Below.refl _ _) (Nat.le_refl _) (by simp) ?_; (case hd => rfl); (case hg => rfl); (case hr => first | (go_simp; done) | (go_simp; rfl)); (case hp => exact (Reps.none _ _)); intro v_ w_ ho_ hb hg_ hnew_; clear hg_ hnew_; obtain ⟨A1, d1, ev_⟩ := Kd.R_slice ho_; subst ev_; have n0 := Aside0.mk (hb); have n1 := Aside0.mk (ho_); have HD := n0; have HO1 := n1; clear n0 n1; clear hb ho_)
        | ((with_reducible refine gate_builtin (b := .append) (xs := #[.tmp 69, .tmp 70]) rfl ?_); at_builtin; refine Kd.R_append_rows (Kd.int .i64) (w0 := w4) w4.heap.size rfl (.tmp 69) (.tmp 70) 27 3 (.int .i64 0) 8 rfl Try.underlying27 info3 rfl (by decide) (by omega) (.slice A1 (([] : List Int).length) d1) [] hs AH _ _ (fun _ => True) (fun _ => False) rfl rfl ?aO ?aR (fun _ _ h => h) (fun _ h => h.elim) ?aF ?aB ?aS ?aL ?_; (case aR => exact Kd.C_below CH.out HD.out); (case aB => exact HD.out); (case aF => exact fun _ _ => trivial); (case aO => exact HO1.out); (case aS => exact (HD.out).size); (case aL => have := HAP.out.2.2.2; rw [List.length_append] at this; simp only [List.length_nil, List.nil_append, List.length_append]; omega); intro v_ w_ ho_ hb hg_ hat_; clear hg_ hat_; obtain ⟨A2, d2, ev_⟩ := Kd.R_slice ho_; subst ev_; have n0 := Aside0.mk (hb); have n1 := Aside0.mk (ho_); clear HD HO1; have HD := n0; have HO1 := n1; clear n0 n1; clear hb ho_)
        | ((with_reducible refine gate_builtin (b := .append) (xs := #[.tmp 71, .tmp 72]) rfl ?_); at_builtin; refine Kd.R_append_rows (Kd.int .i64) (w0 := w4) w4.heap.size rfl (.tmp 71) (.tmp 72) 27 3 (.int .i64 0) 8 rfl Try.underlying27 info3 rfl (by decide) (by omega) (.slice A2 (([] ++ hs : List Int).length) d2) ([] ++ hs) ws AW _ _ (fun _ => True) (fun _ => False) rfl rfl ?aO ?aR (fun _ _ h => h) (fun _ h => h.elim) ?aF ?aB ?aS ?aL ?_; (case aR => exact Kd.C_below CW.out HD.out); (case aB => exact HD.out); (case aF => exact fun _ _ => trivial); (case aO => exact HO1.out); (case aS => exact (HD.out).size); (case aL => have := HAP.out.2.2.2; rw [List.length_append] at this; simp only [List.length_nil, List.nil_append, List.length_append]; omega); intro v_ w_ ho_ hb hg_ hat_; clear hg_ hat_; rw [List.nil_append, hall] at ho_; obtain ⟨AL, d3, ev_⟩ := Kd.R_slice ho_; subst ev_; clear hall; have n0 := Aside0.mk (hb); have n1 := Aside0.mk (ho_); clear HD HO1; have HD := n0; have HO1 := n1; clear n0 n1; clear hb ho_)
        )
            have CA := Aside0.mk (Kd.R_reads' HO1.out).2.2
            have hB' := below_then HB.out HB.out.size HD.out
            have hL' := LA.below HL.out HD.out
            have n0 := Aside0.mk hB'
            have n1 := Aside0.mk hL'
            clear HB HL hB' hL' HD HO1 CH CW
            have HB := n0
            have HL := n1
            clear n0 n1
            go_loopw [9] (fun x9 w' => ∃ p : Nat, p ≤ all.length ∧ x9 = .int .i64 (p : Int) ∧ Aside0 (LA w' w.heap.size gl P') ∧ Aside0 (Below w.heap.size w w') ∧ Aside0 (Kd.C (Kd.int .i64) w' AL all.length all)) (fun x9 _ => all.length + 1 - (intOf x9).toNat)
            case atStart => exact ⟨0, by omega, rfl, HL, HB, CA⟩
            case round =>
              clear HL HB CA
              obtain ⟨p, hp, rfl, HL, HB, CA⟩ := hrel
              by_cases hpl : p < all.length
              · have p0 := eq_true (show (p : Int) < (all.length : Int) by omega)
                have HPL := Aside0.mk hpl
                clear hp hpl
                go_wp2
                go_loopw [10] (fun x10 w' => ∃ k : Nat, k ≤ p ∧ x10 = .int .i64 (k : Int) ∧ Aside0 (LA w' w.heap.size gl P') ∧ Aside0 (Below w.heap.size w w') ∧ Aside0 (Kd.C (Kd.int .i64) w' AL all.length all)) (fun x10 _ => p + 1 - (intOf x10).toNat)
                case atStart => exact ⟨0, by omega, rfl, HL, HB, CA⟩
                case round =>
                  clear HL HB CA
                  obtain ⟨k, hk, rfl, HL, HB, CA⟩ := hrel
                  by_cases hkp : k < p
                  · have hpl := HPL.out
                    obtain ⟨adk, eak, hck⟩ := Kd.at_int CA.out (k : Int) (by omega) (by omega)
                    subst eak
                    rw [Int.toNat_natCast] at hck
                    obtain ⟨adp, eap, hcp⟩ := Kd.at_int CA.out (p : Int) (by omega) (by omega)
                    injection eap with eap
                    subst eap
                    rw [Int.toNat_natCast] at hcp
                    have hne := nodup_rd HND.out (show k < p from hkp) hpl
                    obtain ⟨y, hy⟩ : ∃ y, rd all (k : Int) = y := ⟨_, rfl⟩
                    obtain ⟨z, hz⟩ : ∃ z, rd all (p : Int) = z := ⟨_, rfl⟩
                    rw [hy] at hck hne
                    rw [hz] at hcp hne
                    clear hy hz
                    have he : (y == z) = false := beq_eq_false_iff_ne.mpr hne
                    have n0 := eq_true (show (k : Int) < (p : Int) by omega)
                    have n1 := eq_true (show (k : Int) < (all.length : Int) by omega)
                    have n2 := eq_true (show (0 : Int) ≤ (k : Int) by omega)
                    have n3 := eq_true (show (0 : Int) ≤ (p : Int) by omega)
                    have n4 := eq_true (show k < all.length by omega)
                    have n5 := eq_true (show p < all.length by omega)
                    have n6 := eq_false hne
                    have HKP := Aside0.mk hkp
                    clear hk hkp hpl hne
                    go_wp2
                    have hb := below_drew1 (Below.refl wr.heap.size wr)
                    have n0 := Aside0.mk (below_then HB.out HB.out.size hb)
                    have n1 := Aside0.mk (LA.below HL.out hb)
                    have n2 := Aside0.mk (Kd.C_below CA.out hb)
                    clear HB HL CA
                    have HB := n0
                    have HL := n1
                    have CA := n2
                    clear n0 n1 n2
                    replace hck := pw_cell_below hb hck
                    replace hcp := pw_cell_below hb hcp
                    clear hb
                    refine start_ (n := 9) (S := fun w' => w'.cell? (adk.add k) = some (.int .i64 y) ∧ w'.cell? (adk.add p) = some (.int .i64 z)) (ds := []) #[false, false, false, false, false, false, false, false, false] (by kernel_rfl) rfl rfl ⟨hck, hcp⟩ (fun hHeld => ?_)
                    generalize wr.drew = wd at HB HL CA hck hcp hHeld ⊢
                    refine pure_ (i := 0) (N := some 85) (v := ?_) (a' := ?_) #[true, false, false, false, false, false, false, false, false] rfl rfl (by kernel_rfl) (fun _ _ _ h => h) (Or.inl ⟨by rfl, ?_⟩) ?_ ?_
                    rotate_left
                    · intro w'
                      go_simp
                      with_reducible rfl
                    rotate_left
                    · simp only [Act.put, List.setIfInBounds_toArray, List.set_cons_zero, List.set_cons_succ, i64_w, i32_w, u8_w]
                      rfl
                    refine pure_ (i := 1) (N := some 86) (v := ?_) (a' := ?_) #[true, true, false, false, false, false, false, false, false] rfl rfl (by kernel_rfl) (fun _ _ _ h => h) (Or.inl ⟨by rfl, ?_⟩) ?_ ?_
                    rotate_left
                    · intro w'
                      go_simp
                      with_reducible rfl
                    rotate_left
                    · simp only [Act.put, List.setIfInBounds_toArray, List.set_cons_zero, List.set_cons_succ, i64_w, i32_w, u8_w]
                      rfl
                    refine pure_ (i := 2) (N := some 87) (v := ?_) (a' := ?_) #[true, true, true, false, false, false, false, false, false] rfl rfl (by kernel_rfl) (fun _ _ _ h => h) (Or.inl ⟨by rfl, ?_⟩) ?_ ?_
                    rotate_left
                    · intro w'
                      go_simp
                      with_reducible rfl
                    rotate_left
                    · simp only [Act.put, List.setIfInBounds_toArray, List.set_cons_zero, List.set_cons_succ, i64_w, i32_w, u8_w]
                      rfl
                    refine pure_ (i := 4) (N := some 89) (v := ?_) (a' := ?_) #[true, true, true, false, true, false, false, false, false] rfl rfl (by kernel_rfl) (fun _ _ _ h => h) (Or.inl ⟨by rfl, ?_⟩) ?_ ?_
                    rotate_left
                    · intro w'
                      go_simp
                      with_reducible rfl
                    rotate_left
                    · simp only [Act.put, List.setIfInBounds_toArray, List.set_cons_zero, List.set_cons_succ, i64_w, i32_w, u8_w]
                      rfl
                    refine pure_ (i := 5) (N := some 90) (v := ?_) (a' := ?_) #[true, true, true, false, true, true, false, false, false] rfl rfl (by kernel_rfl) (fun _ _ _ h => h) (Or.inl ⟨by rfl, ?_⟩) ?_ ?_
                    rotate_left
                    · intro w'
                      go_simp
                      with_reducible rfl
                    rotate_left
                    · simp only [Act.put, List.setIfInBounds_toArray, List.set_cons_zero, List.set_cons_succ, i64_w, i32_w, u8_w]
                      rfl
                    refine pure_ (i := 6) (N := some 91) (v := ?_) (a' := ?_) #[true, true, true, false, true, true, true, false, false] rfl rfl (by kernel_rfl) (fun _ _ _ h => h) (Or.inl ⟨by rfl, ?_⟩) ?_ ?_
                    rotate_left
                    · intro w'
                      go_simp
                      with_reducible rfl
                    rotate_left
                    · simp only [Act.put, List.setIfInBounds_toArray, List.set_cons_zero, List.set_cons_succ, i64_w, i32_w, u8_w]
                      rfl
                    refine take_ (i := 3) (N := some 88) (v := ?_) (a' := ?_) #[true, true, true, true, true, true, true, false, false] rfl rfl (by kernel_rfl) (fun _ _ _ h => h) (Or.inl ⟨by rfl, ?_⟩) hHeld ?_ ?_
                    rotate_left
                    · rintro w' ⟨s0, s1⟩
                      go_simp
                      with_reducible rfl
                    rotate_left
                    · simp only [Act.put, List.setIfInBounds_toArray, List.set_cons_zero, List.set_cons_succ, i64_w, i32_w, u8_w]
                      rfl
                    refine take_ (i := 7) (N := some 92) (v := ?_) (a' := ?_) #[true, true, true, true, true, true, true, true, false] rfl rfl (by kernel_rfl) (fun _ _ _ h => h) (Or.inl ⟨by rfl, ?_⟩) hHeld ?_ ?_
                    rotate_left
                    · rintro w' ⟨s0, s1⟩
                      go_simp
                      with_reducible rfl
                    rotate_left
                    · simp only [Act.put, List.setIfInBounds_toArray, List.set_cons_zero, List.set_cons_succ, i64_w, i32_w, u8_w]
                      rfl
                    refine pure_ (i := 8) (N := some 93) (v := ?_) (a' := ?_) #[true, true, true, true, true, true, true, true, true] rfl rfl (by kernel_rfl) (fun _ _ _ h => h) (Or.inl ⟨by rfl, ?_⟩) ?_ ?_
                    rotate_left
                    · intro w'
                      go_simp
                      with_reducible rfl
                    rotate_left
                    · simp only [Act.put, List.setIfInBounds_toArray, List.set_cons_zero, List.set_cons_succ, i64_w, i32_w, u8_w]
                      rfl
                    refine done_ (by kernel_rfl) ?_
                    go_wp2
                    go_roundw
                    case rel => have b3 := HPL.out; have b4 := HAPL.out; have b5 := HKP.out; exact ⟨k + 1, by omega, val_next _ (by omega), HL, HB, CA⟩
                    case measure => have b3 := HPL.out; have b4 := HAPL.out; have b5 := HKP.out; rw [nat_next _ (by omega)]; simp only [intOf, Int.toNat_natCast]; omega
                  · have n0 := eq_false (show ¬ (k : Int) < (p : Int) by omega)
                    clear hk hkp
                    go_wp2
                    go_roundw
                    case rel => have b3 := HPL.out; have b4 := HAPL.out; exact ⟨p + 1, by omega, val_next _ (by omega), HL, HB, CA⟩
                    case measure => have b3 := HPL.out; have b4 := HAPL.out; rw [nat_next _ (by omega)]; simp only [intOf, Int.toNat_natCast]; omega
              · have p0 := eq_false (show ¬ (p : Int) < (all.length : Int) by omega)
                clear hp hpl
                go_wp2
                go_roundw
                case rel => have b1 := HFEW.out.1; have b2 := HLT.out; exact ⟨i + 1, P', by omega, val_next _ (by omega), HI', HL, HB⟩
                case measure => have b1 := HFEW.out.1; have b2 := HLT.out; rw [nat_next _ (by omega)]; simp only [intOf, Int.toNat_natCast]; omega
      · have qe := eq_false (show ¬ (i : Int) < (l0.length : Int) by omega)
        go_wp2_with (first
        | (go_at_call 10; refine (lives_calls _).mono ?_; rintro e_ w9 ⟨rfl, hb⟩; have hB' := below_then HB.out HB.out.size hb; have hL' := LA.below HL.out hb; have ho := off_below hb; clear hb; have n0 := Aside0.mk (hB'); have n1 := Aside0.mk (hL'); clear HB HL; have HB := n0; have HL := n1; clear n0 n1; clear hB' hL' ho)
        )
        go_ret
        exact ⟨rfl, HB.out⟩
end
end Go.Proofs.Ytdhabfjfpbdjfaa.Pr
