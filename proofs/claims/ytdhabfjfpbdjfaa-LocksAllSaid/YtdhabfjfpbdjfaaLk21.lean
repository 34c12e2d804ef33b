-- A text by hand (wip/locks).
import Derived.RangeFuncNested
import Derived.RangeFuncBound
import Derived.RangeFuncCalls
import Derived.RangeFuncLeaves
import Derived.RangeFuncBox
import Derived.Shelf.Abstract
import Derived.Shelf.RegionOpen
import Derived.OwnWalkIn
import Derived.TacticsInMore
import Derived.LoopNIn
import Derived.LoopIn
import Derived.Test.YtdhabfjfpbdjfaaPr0
import Derived.Test.YtdhabfjfpbdjfaaLk20
namespace Go.Proofs.Ytdhabfjfpbdjfaa.Pr
open Go.RowKit Go.Shelf Go.Proofs.YtdhabfjfpbdjfaaW.PrintWords Go.Proofs.YtdhabfjfpbdjfaaW.PrintLast Go.Proofs.YtdhabfjfpbdjfaaW.PrintMore
set_option linter.unusedVariables false
set_option linter.unusedSimpArgs false
section
attribute [local go_sem] Oper.semAt_some
open Law

theorem notF_len {l : List S63} {who : Int} (hn : (l.map (·.f0)).Nodup) (hm : ∃ a ∈ l, a.f0 = who) : (notF l who).length + 1 = l.length := by
  induction l with
  | nil => obtain ⟨a, ha, _⟩ := hm; cases ha
  | cons b t ih =>
    rw [List.map_cons, List.nodup_cons] at hn
    unfold notF at ih ⊢
    by_cases e : b.f0 = who
    · have ht : t.filter (fun a => decide (a.f0 ≠ who)) = t := List.filter_eq_self.2 fun x hx => by
        have : x.f0 ≠ who := fun e2 => hn.1 (List.mem_map.2 ⟨x, hx, e2.trans e.symm⟩)
        simp [this]
      rw [List.filter_cons_of_neg (by simp [e]), ht, List.length_cons]
    · rw [List.filter_cons_of_pos (by simp [e]), List.length_cons, List.length_cons]
      have := ih hn.2 (by
        obtain ⟨a, ha, hw⟩ := hm
        rcases List.mem_cons.1 ha with rfl | ha
        · exact absurd hw e
        · exact ⟨a, ha, hw⟩)
      omega
theorem all_step {P : LP} (hI : Inv P) (key : ByteArray) (hz : (holdsP key P).1.length ≠ 0) : ∃ P' now, freeP (rd (holdsP key P).1 0) key P = (P', now, 0) ∧ Inv P' ∧ now ++ waitsP key P' = waitsP key P ∧ (holdsP key P').1.length + (waitsP key P').length + 1 = (holdsP key P).1.length + (waitsP key P).length := by
  have hI' := fun who => free_inv hI who key
  have ht := fun who => turns_free hI who key
  cases hl : lookP key P with
  | none => rw [holds_no hl] at hz; exact absurd rfl hz
  | some x =>
    obtain ⟨h, w⟩ := x
    have hr := hI.look hl
    rw [holds_of hl] at hz ⊢
    dsimp only at hz ⊢
    obtain ⟨a, t, rfl⟩ : ∃ a t, h = a :: t := by
      cases h with
      | nil => exact absurd rfl hz
      | cons a t => exact ⟨a, t, rfl⟩
    have e0 : rd (whoL (a :: t)) 0 = a.f0 := rfl
    rw [e0]
    have hok : okC a.f0 := hr.2.1.2 a (by simp)
    have hn : ((a :: t).map (·.f0)).Nodup := by
      have := hr.2.1.1
      rw [List.map_append] at this
      exact (List.nodup_append.1 this).1
    have hlen := notF_len (who := a.f0) hn ⟨a, by simp, rfl⟩
    have hh : hasF (a :: t) a.f0 = true := by unfold hasF; simp
    have h1 := hI' a.f0
    have h2 := ht a.f0
    rcases free_cases hI a.f0 key with ⟨hc, _⟩ | ⟨_, hx, _⟩ | ⟨_, h', w', g, w2, hl', hh', hg, hgr, ⟨he, hw, e⟩ | ⟨hr', e⟩⟩
    · exact absurd hok hc
    · rcases hx with hx | ⟨h', w', hx, hf⟩
      · rw [hl] at hx; cases hx
      · rw [hl] at hx
        injection hx with hx
        injection hx with hx1 hx2
        subst hx1
        rw [hh] at hf; cases hf
    · rw [hl] at hl'
      injection hl' with hx
      injection hx with hx1 hx2
      subst hx1; subst hx2
      rw [e] at h1 h2 ⊢
      refine ⟨_, _, rfl, h1, h2, ?_⟩
      rw [holds_no (look_del hI.1), waits_no (look_del hI.1), waits_of hl, hw]
      have := (List.append_eq_nil_iff.1 he).1
      rw [this] at hlen
      unfold whoL
      simp only [List.length_map, List.length_nil] at hlen ⊢
      omega
    · rw [hl] at hl'
      injection hl' with hx
      injection hx with hx1 hx2
      subst hx1; subst hx2
      rw [e] at h1 h2 ⊢
      refine ⟨_, _, rfl, h1, h2, ?_⟩
      rw [holds_of (look_set (by rw [hl]; simp)), waits_of (look_set (by rw [hl]; simp)), waits_of hl]
      have := congrArg List.length hg
      unfold whoL
      simp only [List.length_map, List.length_append] at this hlen ⊢
      omega
theorem all_len {P : LP} (hI : Inv P) (key : ByteArray) : (holdsP key P).1.length + (waitsP key P).length ≤ 8 ∧ ((holdsP key P).1.length = 0 → (waitsP key P).length = 0) := by
  have h := apart_of hI key
  have h2 := h.2.2.2
  rw [List.length_append] at h2
  exact ⟨h2, h.2.1⟩
theorem rd_drop {l : List Int} {m k : Nat} : rd (l.drop m) (k : Int) = rd l ((m + k : Nat) : Int) := by
  unfold rd
  rw [Int.toNat_natCast, Int.toNat_natCast, List.getD_eq_getElem?_getD, List.getD_eq_getElem?_getD, List.getElem?_drop]
theorem drop_drop_app {l a b : List Int} {m : Nat} (h : a ++ b = l.drop m) : l.drop (m + a.length) = b := by
  rw [← List.drop_drop, ← h, List.drop_left]
theorem drop_len {l b : List Int} {m : Nat} (h : l.drop m = b) (hm : m ≤ l.length) : m + b.length = l.length := by
  rw [← h, List.length_drop]
  omega
set_option maxHeartbeats 8000000 in
set_option maxRecDepth 100000 in
theorem LocksAll.walk (A0 : Option Addr) (c0 : Nat) (l0 : List S30) (a1 : ByteArray) (w : World) (r0 : Kd.C k30 w A0 l0.length l0) (q0 : l0.length ≤ c0) (m0 : l0.length ≤ maxLen) (w0 : ∀ a ∈ l0, ActOk a) (w1 : a1.size ≤ 140737488351232) :
    Calls Try.prog 6 #[.slice A0 l0.length c0, .string a1] w fun e w' => e = .returned (.bool true) ∧ Below w.heap.size w w' := by
  have HR := Aside0.mk r0
  have HC := Aside0.mk q0
  have HB := Aside0.mk (Below.refl w.heap.size w)
  obtain ⟨rf, hf1, hf2⟩ := few_l0 (l := l0) 102 0 (by omega) (by omega) (by omega)
  have HF := Aside0.mk (show valiselaw18_few.f 102 l0 = some rf from hf1)
  cases rf with
  | false =>
    clear r0 q0 hf1 hf2 m0 w0
    go_enter Try.func6, Try.ntmps6
    go_wp2_with (first
        | (go_at_call 8; refine (New_calls w _ HB.out).mono ?_; rintro e_ w1 ⟨rfl, hL', hB'⟩; have n0 := Aside0.mk hB'; have HL := Aside0.mk hL'; clear HB hB' hL'; have HB := n0; clear n0)
        | (go_at_call 9; refine (valiselaw18_few.calls 102 A0 c0 l0 false _ (Kd.C_below HR.out HB.out) HC.out HF.out).mono ?_; rintro e_ w2 ⟨rfl, hd⟩; have hb := hd.below; clear hd; have hB' := below_then HB.out HB.out.size hb; have hL' := LA.below HL.out hb; have ho := off_below hb; clear hb; have n0 := Aside0.mk (hB'); have n1 := Aside0.mk (hL'); clear HB HL; have HB := n0; have HL := n1; clear n0 n1; clear hB' hL' ho)
        | (go_at_call 10; refine (lives_calls _).mono ?_; rintro e_ w9 ⟨rfl, hb⟩; have hB' := below_then HB.out HB.out.size hb; have hL' := LA.below HL.out hb; have ho := off_below hb; clear hb; have n0 := Aside0.mk (hB'); have n1 := Aside0.mk (hL'); clear HB HL; have HB := n0; have HL := n1; clear n0 n1; clear hB' hL' ho)
        )
    go_ret
    exact ⟨rfl, HB.out⟩
  | true =>
    have HFEW := Aside0.mk (show Few l0 from ⟨(hf2 rfl).1, fun j hj => (hf2 rfl).2 j (by omega) hj⟩)
    have HW := Aside0.mk w0
    clear r0 q0 hf1 hf2 m0 w0
    by_cases hk : a1.size ≤ 100
    · have k0 := eq_false (show ¬ (a1.size : Int) > 100 by omega)
      have k1 := eq_false (show ¬ (100 : Int) < (a1.size : Int) by omega)
      have k2 := eq_false (show ¬ 100 < a1.size by omega)
      clear w1
      go_enter Try.func6, Try.ntmps6
      go_wp2_with (first
        | (go_at_call 8; refine (New_calls w _ HB.out).mono ?_; rintro e_ w1 ⟨rfl, hL', hB'⟩; have n0 := Aside0.mk hB'; have HL := Aside0.mk hL'; clear HB hB' hL'; have HB := n0; clear n0)
        | (go_at_call 9; refine (valiselaw18_few.calls 102 A0 c0 l0 true _ (Kd.C_below HR.out HB.out) HC.out HF.out).mono ?_; rintro e_ w2 ⟨rfl, hd⟩; have hb := hd.below; clear hd; have hB' := below_then HB.out HB.out.size hb; have hL' := LA.below HL.out hb; have ho := off_below hb; clear hb; have n0 := Aside0.mk (hB'); have n1 := Aside0.mk (hL'); clear HB HL; have HB := n0; have HL := n1; clear n0 n1; clear hB' hL' ho)
        | (go_at_call 10; refine (lives_calls _).mono ?_; rintro e_ w9 ⟨rfl, hb⟩; have hB' := below_then HB.out HB.out.size hb; have hL' := LA.below HL.out hb; have ho := off_below hb; clear hb; have n0 := Aside0.mk (hB'); have n1 := Aside0.mk (hL'); clear HB HL; have HB := n0; have HL := n1; clear n0 n1; clear hB' hL' ho)
        )
      obtain ⟨gl, hgl⟩ : ∃ gl, w.heap.size + 1 = gl := ⟨_, rfl⟩
      rw [hgl] at HL ⊢
      clear hgl hk
      go_loopw [6] (fun x4 w' => ∃ (i : Nat) (P : LP), i ≤ l0.length ∧ x4 = .int .i64 (i : Int) ∧ Aside0 (Inv P) ∧ Aside0 (LA w' w.heap.size gl P) ∧ Aside0 (Below w.heap.size w w')) (fun x4 _ => l0.length + 1 - (intOf x4).toNat)
      case atStart => exact ⟨0, [], by omega, rfl, ⟨inv_nil⟩, HL, HB⟩
      case round =>
        clear HL HB
        obtain ⟨i, P, hil, rfl, HI, HL, HB⟩ := hrel
        by_cases hlt : i < l0.length
        · obtain ⟨a, hx⟩ : ∃ x, rd_T30 l0 (i : Int) = x := ⟨_, rfl⟩
          obtain ⟨ad, ead, _⟩ := at_T30 HR.out (i : Int) (by omega) (by omega)
          subst ead
          have HX := Aside0.mk hx
          have HLT := Aside0.mk hlt
          obtain ⟨hx0, hx1, hx2, hx3⟩ := act_at HR.out HB.out i hlt hx
          have q0 := eq_true (show (i : Int) < (l0.length : Int) by omega)
          have q1 := eq_true (show (0 : Int) ≤ (i : Int) by omega)
          have q2 := eq_true hlt
          have hu30 := Try.underlying30
          obtain ⟨P', hP'⟩ : ∃ P', doP a P = P' := ⟨_, rfl⟩
          have hI' := do_inv HI.out a
          rw [hP'] at hI'
          have HP := Aside0.mk hP'
          have HI' := Aside0.mk hI'
          clear hx hlt hP' hI'
          go_wp2_with (first
        | (go_at_call 19; have hc := do_calls gl a P w _ HL.out HB.out HI.out; rw [HP.out] at hc; refine hc.mono ?_; clear hc; rintro e_ w2 ⟨rfl, hL', hB', ho⟩; have n0 := Aside0.mk (hB'); have n1 := Aside0.mk (hL'); clear HB HL; have HB := n0; have HL := n1; clear n0 n1; clear hB' hL' ho; clear hx0 hx1 hx2 hx3; obtain ⟨hx0, hx1, hx2, hx3⟩ := act_at HR.out HB.out i HLT.out HX.out)
        )
          go_roundw
          case rel => have b1 := HFEW.out.1; have b2 := HLT.out; exact ⟨i + 1, P', by omega, val_next _ (by omega), HI', HL, HB⟩
          case measure => have b1 := HFEW.out.1; have b2 := HLT.out; rw [nat_next _ (by omega)]; simp only [intOf, Int.toNat_natCast]; omega
        · have qe := eq_false (show ¬ (i : Int) < (l0.length : Int) by omega)
          obtain ⟨⟨hs, hw⟩, hhs⟩ : ∃ x, holdsP a1 P = x := ⟨_, rfl⟩
          obtain ⟨was, hwas⟩ : ∃ was, waitsP a1 P = was := ⟨_, rfl⟩
          have hal := (all_len HI.out a1).1
          rw [hhs, hwas] at hal
          dsimp only at hal
          have HAL := Aside0.mk hal
          have HHS := Aside0.mk hhs
          have HWAS := Aside0.mk hwas
          clear hal hhs hwas hil hlt
          go_wp2_with (first
        | (go_at_call 17; have hc := Holds_la gl a1 P _ _ HL.out HI.out.small; rw [HHS.out] at hc; dsimp only at hc; refine hc.mono ?_; clear hc; have HBS := Aside0.mk HB.out.size; rintro e_ w3 ⟨v_, rfl, ho_, hb⟩; obtain ⟨AH, cAH, ev_⟩ := Kd.R_slice ho_; subst ev_; have hB' := below_then HB.out HB.out.size hb; have hL' := LA.below HL.out hb; have ho := off_below hb; clear hb; have n0 := Aside0.mk (hB'); have n1 := Aside0.mk (hL'); have n2 := Aside0.mk (ho_); clear HB HL; have HB := n0; have HL := n1; have RH := n2; clear n0 n1 n2; clear hB' hL' ho; clear ho_)
        | (go_at_call 11; have hc := Waits_la gl a1 P _ _ HL.out HI.out.small; rw [HWAS.out] at hc; refine hc.mono ?_; clear hc; have HBS2 := Aside0.mk HB.out.size; rintro e_ w4 ⟨v_, rfl, ho_, hb⟩; obtain ⟨AW, cAW, ev_⟩ := Kd.R_slice ho_; subst ev_; have hB' := below_then HB.out HB.out.size hb; have hL' := LA.below HL.out hb; have ho := off_below hb; clear hb; have n0 := Aside0.mk (hB'); have n1 := Aside0.mk (hL'); have n2 := Aside0.mk (ints_off RH.out ho); have n3 := Aside0.mk (ho_); clear HB HL RH; have HB := n0; have HL := n1; have RH := n2; have RW := n3; clear n0 n1 n2 n3; clear hB' hL' ho; clear ho_)
        )
          have HWL := Aside0.mk (show was.length ≤ 8 by have := HAL.out; omega)
          have RH2 := Aside0.mk (show Kd.R (Kd.int .i64) 3 _ w.heap.size (fun _ => True) (.slice AH hs.length cAH) hs from Kd.R_lower RH.out HBS.out)
          have RW2 := Aside0.mk (show Kd.R (Kd.int .i64) 3 _ w.heap.size (fun _ => True) (.slice AW was.length cAW) was from Kd.R_lower RW.out HBS2.out)
          clear RH RW
          go_loopw [7, 10, 11] (fun x7 x10 x11 w' => ∃ (P : LP) (hs : List Int) (A : Option Addr) (c n m : Nat), x7 = .slice A hs.length c ∧ x10 = .int .i64 (m : Int) ∧ x11 = .int .i64 (n : Int) ∧ m ≤ was.length ∧ n + hs.length + (was.length - m) ≤ 8 ∧ Aside0 (Inv P) ∧ Aside0 ((holdsP a1 P).1 = hs) ∧ Aside0 (was.drop m = waitsP a1 P) ∧ Aside0 (LA w' w.heap.size gl P) ∧ Aside0 (Below w.heap.size w w') ∧ Aside0 (Kd.R (Kd.int .i64) 3 w' w.heap.size (fun _ => True) (.slice A hs.length c) hs) ∧ Aside0 (Kd.R (Kd.int .i64) 3 w' w.heap.size (fun _ => True) (.slice AW was.length cAW) was)) (fun x7 x10 x11 _ => 21 - (intOf x11).toNat)
          case atStart => exact ⟨P, hs, AH, cAH, 0, 0, rfl, rfl, rfl, by omega, by have := HAL.out; omega, HI, ⟨by rw [HHS.out]⟩, ⟨by rw [HWAS.out]; rfl⟩, HL, HB, RH2, RW2⟩
          case round =>
            clear HL HB RH2 RW2 HI HHS HWAS HAL
            obtain ⟨P, hs, AH, cAH, n, m, rfl, rfl, rfl, hm, hn, HI, HHS, HDR, HL, HB, RH, RW⟩ := hrel
            by_cases hz : hs.length = 0
            · as_aux_lemma =>
                have hwl : (waitsP a1 P).length = 0 := (all_len HI.out a1).2 (by rw [HHS.out]; exact hz)
                have hml := drop_len HDR.out hm
                have em : m = was.length := by omega
                subst em
                obtain ⟨left, hleft⟩ : ∃ left, waitsP a1 P = left := ⟨_, rfl⟩
                rw [hleft] at hwl
                have HLF := Aside0.mk hleft
                have e1 : (hs.length : Int) = 0 := by omega
                have e2 : (left.length : Int) = 0 := by omega
                clear hm hn hml hleft hz hwl
                go_wp2_with (first
        | (go_at_call 11; have hc := Waits_la gl a1 P _ _ HL.out HI.out.small; rw [HLF.out] at hc; refine hc.mono ?_; clear hc; rintro e_ w5 ⟨v_, rfl, ho_, hb⟩; obtain ⟨AL, cAL, ev_⟩ := Kd.R_slice ho_; subst ev_; have hB' := below_then HB.out HB.out.size hb; have hL' := LA.below HL.out hb; have ho := off_below hb; clear hb; have n0 := Aside0.mk (hB'); have n1 := Aside0.mk (hL'); have n2 := Aside0.mk (ho_); clear HB HL; have HB := n0; have HL := n1; have RL := n2; clear n0 n1 n2; clear hB' hL' ho; clear ho_)
        | (go_at_call 10; refine (lives_calls _).mono ?_; rintro e_ w9 ⟨rfl, hb⟩; have hB' := below_then HB.out HB.out.size hb; have hL' := LA.below HL.out hb; have ho := off_below hb; clear hb; have n0 := Aside0.mk (hB'); have n1 := Aside0.mk (hL'); clear HB HL; have HB := n0; have HL := n1; clear n0 n1; clear hB' hL' ho)
        )
                go_ret
                exact ⟨rfl, HB.out⟩
            · as_aux_lemma =>
                obtain ⟨P', now, hfr, hI', htu, hcnt⟩ := all_step HI.out a1 (by rw [HHS.out]; exact hz)
                rw [HHS.out] at hfr hcnt
                rw [← HDR.out] at htu hcnt
                rw [List.length_drop] at hcnt
                obtain ⟨ah, eah, hc0⟩ := Kd.at_int (Kd.R_reads' RH.out).2.2 (0 : Int) (by omega) (by omega)
                subst eah
                rw [show ((0 : Int)).toNat = 0 from rfl, Addr.add_zero'] at hc0
                obtain ⟨h0, hh0⟩ : ∃ h0, rd hs 0 = h0 := ⟨_, rfl⟩
                rw [hh0] at hc0 hfr
                obtain ⟨⟨hs2, hw2⟩, hhs2⟩ : ∃ x, holdsP a1 P' = x := ⟨_, rfl⟩
                rw [hhs2] at hcnt
                dsimp only at hcnt
                have HHS2 := Aside0.mk hhs2
                have HFR := Aside0.mk hfr
                have HI' := Aside0.mk hI'
                have HTU := Aside0.mk htu
                have htl := congrArg List.length htu
                rw [List.length_append, List.length_drop] at htl
                have p0 := eq_true (show (hs.length : Int) > 0 by omega)
                have p1 := eq_true (show (0 : Int) < (hs.length : Int) by omega)
                have p2 := eq_true (show 0 < hs.length by omega)
                have p3 := eq_false (show ¬ (n : Int) > 20 by omega)
                have p4 := eq_false (show ¬ (20 : Int) < (n : Int) by omega)
                have p5 := eq_false (show ¬ 20 < n by omega)
                have HN := Aside0.mk (show n + 1 + hs2.length + (was.length - (m + now.length)) ≤ 8 ∧ m + now.length ≤ was.length by omega)
                clear hz hm hn hfr hI' htu hcnt hhs2 htl hh0
                go_wp2_with (first
        | (go_at_call 12; have hc := Free_off gl h0 a1 P w _ HL.out HB.out HI.out.small; rw [HFR.out] at hc; refine hc.mono ?_; clear hc; rintro e_ w3 ⟨v_, rfl, ho_, hL', hB', ho⟩; obtain ⟨AN, cAN, ev_⟩ := Kd.R_slice ho_; subst ev_; have n0 := Aside0.mk (hB'); have n1 := Aside0.mk (hL'); have n2 := Aside0.mk (ints_off RW.out ho); have n3 := Aside0.mk (ho_); clear HB HL RW; have HB := n0; have HL := n1; have RW := n2; have RN0 := n3; clear n0 n1 n2 n3; clear hB' hL' ho; clear ho_; clear RH hc0)
        )
                have RN := Aside0.mk (show Kd.R (Kd.int .i64) 3 _ w.heap.size (fun _ => True) (.slice AN now.length cAN) now from Kd.R_mono (Kd.R_lower RN0.out (Nat.le_refl _)) (fun _ _ => trivial))
                clear RN0
                go_loopw [10, 14] (fun x10 x14 w' => ∃ (k : Nat), x14 = .int .i64 (k : Int) ∧ x10 = .int .i64 ((m + k : Nat) : Int) ∧ k ≤ now.length ∧ Aside0 (LA w' w.heap.size gl P') ∧ Aside0 (Below w.heap.size w w') ∧ Aside0 (Kd.R (Kd.int .i64) 3 w' w.heap.size (fun _ => True) (.slice AW was.length cAW) was) ∧ Aside0 (Kd.R (Kd.int .i64) 3 w' w.heap.size (fun _ => True) (.slice AN now.length cAN) now)) (fun x10 x14 _ => now.length + 1 - (intOf x14).toNat)
                case atStart => exact ⟨0, rfl, rfl, by omega, HL, HB, RW, RN⟩
                case round =>
                  clear HL HB RW RN
                  obtain ⟨k, rfl, rfl, hk, HL, HB, RW, RN⟩ := hrel
                  have CW := Aside0.mk (Kd.R_reads' RW.out).2.2
                  have CN := Aside0.mk (Kd.R_reads' RN.out).2.2
                  by_cases hkn : k < now.length
                  · have hmk := HN.out.2
                    obtain ⟨adw, eaw, hcw⟩ := Kd.at_int CW.out ((m + k : Nat) : Int) (by omega) (by omega)
                    subst eaw
                    rw [Int.toNat_natCast] at hcw
                    obtain ⟨adn, ean, hcn⟩ := Kd.at_int CN.out (k : Int) (by omega) (by omega)
                    subst ean
                    rw [Int.toNat_natCast] at hcn
                    obtain ⟨y, hy⟩ : ∃ y, rd now (k : Int) = y := ⟨_, rfl⟩
                    have hy2 : rd was ((m + k : Nat) : Int) = y := by rw [← rd_drop, ← HTU.out, rd_left hkn]; exact hy
                    rw [hy] at hcn
                    rw [hy2] at hcw
                    clear hy hy2
                    obtain ⟨mk, hmkv⟩ : ∃ mk, m + k = mk := ⟨_, rfl⟩
                    rw [hmkv] at hcw ⊢
                    have n0 := eq_true (show (k : Int) < (now.length : Int) by omega)
                    have n1 := eq_true (show (0 : Int) ≤ (k : Int) by omega)
                    have n2 := eq_true hkn
                    have n3 := eq_true (show (mk : Int) < (was.length : Int) by omega)
                    have n4 := eq_true (show mk < was.length by omega)
                    have n5 := eq_true (show (0 : Int) ≤ (mk : Int) by omega)
                    have n6 := eq_false (show ¬ (mk : Int) ≥ (was.length : Int) by omega)
                    have n7 := eq_false (show ¬ (was.length : Int) ≤ (mk : Int) by omega)
                    have n8 := eq_false (show ¬ was.length ≤ mk by omega)
                    have HMK := Aside0.mk hmkv
                    have HKN := Aside0.mk hkn
                    clear hk hkn hmk hmkv CW CN
                    go_wp2
                    have hbd := below_drew1 (Below.refl wr.heap.size wr)
                    replace hcw := pw_cell_below hbd hcw
                    replace hcn := pw_cell_below hbd hcn
                    clear hbd
                    have hb := below_drew1 (Below.refl wr.heap.size wr)
                    have hB' := below_then HB.out HB.out.size hb
                    have hL' := LA.below HL.out hb
                    have ho := off_below hb
                    clear hb
                    have n0 := Aside0.mk (hB')
                    have n1 := Aside0.mk (hL')
                    have n2 := Aside0.mk (ints_off RW.out ho)
                    have n3 := Aside0.mk (ints_off RN.out ho)
                    clear HB HL RW RN
                    have HB := n0
                    have HL := n1
                    have RW := n2
                    have RN := n3
                    clear n0 n1 n2 n3
                    clear hB' hL' ho
                    refine start_ (n := 15) (S := fun w' => w'.cell? (adn.add k) = some (.int .i64 y) ∧ w'.cell? (adw.add mk) = some (.int .i64 y)) (ds := []) #[false, false, false, false, false, false, false, false, false, false, false, false, false, false, false] (by kernel_rfl) rfl rfl ⟨hcn, hcw⟩ (fun hHeld => ?_)
                    generalize wr.drew = wd at HB HL RW RN hcn hcw hHeld ⊢
                    refine pure_ (i := 0) (N := some 78) (v := ?_) (a' := ?_) #[true, false, false, false, false, false, false, false, false, false, false, false, false, false, false] rfl rfl (by kernel_rfl) (fun _ _ _ h => h) (Or.inl ⟨by rfl, ?_⟩) ?_ ?_
                    rotate_left
                    · intro w'
                      go_simp
                      with_reducible rfl
                    rotate_left
                    · simp only [Act.put, List.setIfInBounds_toArray, List.set_cons_zero, List.set_cons_succ, i64_w, i32_w, u8_w]
                      rfl
                    refine pure_ (i := 1) (N := some 79) (v := ?_) (a' := ?_) #[true, true, false, false, false, false, false, false, false, false, false, false, false, false, false] rfl rfl (by kernel_rfl) (fun _ _ _ h => h) (Or.inl ⟨by rfl, ?_⟩) ?_ ?_
                    rotate_left
                    · intro w'
                      go_simp
                      with_reducible rfl
                    rotate_left
                    · simp only [Act.put, List.setIfInBounds_toArray, List.set_cons_zero, List.set_cons_succ, i64_w, i32_w, u8_w]
                      rfl
                    refine pure_ (i := 2) (N := some 80) (v := ?_) (a' := ?_) #[true, true, true, false, false, false, false, false, false, false, false, false, false, false, false] rfl rfl (by kernel_rfl) (fun _ _ _ h => h) (Or.inl ⟨by rfl, ?_⟩) ?_ ?_
                    rotate_left
                    · intro w'
                      go_simp
                      with_reducible rfl
                    rotate_left
                    · simp only [Act.put, List.setIfInBounds_toArray, List.set_cons_zero, List.set_cons_succ, i64_w, i32_w, u8_w]
                      rfl
                    refine pure_ (i := 3) (N := some 81) (v := ?_) (a' := ?_) #[true, true, true, true, false, false, false, false, false, false, false, false, false, false, false] rfl rfl (by kernel_rfl) (fun _ _ _ h => h) (Or.inl ⟨by rfl, ?_⟩) ?_ ?_
                    rotate_left
                    · intro w'
                      go_simp
                      with_reducible rfl
                    rotate_left
                    · simp only [Act.put, List.setIfInBounds_toArray, List.set_cons_zero, List.set_cons_succ, i64_w, i32_w, u8_w]
                      rfl
                    refine pure_ (i := 4) (N := some 82) (v := ?_) (a' := ?_) #[true, true, true, true, true, false, false, false, false, false, false, false, false, false, false] rfl rfl (by kernel_rfl) (fun _ _ _ h => h) (Or.inl ⟨by rfl, ?_⟩) ?_ ?_
                    rotate_left
                    · intro w'
                      go_simp
                      with_reducible rfl
                    rotate_left
                    · simp only [Act.put, List.setIfInBounds_toArray, List.set_cons_zero, List.set_cons_succ, i64_w, i32_w, u8_w]
                      rfl
                    refine pure_ (i := 5) (N := some 83) (v := ?_) (a' := ?_) #[true, true, true, true, true, true, false, false, false, false, false, false, false, false, false] rfl rfl (by kernel_rfl) (fun _ _ _ h => h) (Or.inl ⟨by rfl, ?_⟩) ?_ ?_
                    rotate_left
                    · intro w'
                      go_simp
                      with_reducible rfl
                    rotate_left
                    · simp only [Act.put, List.setIfInBounds_toArray, List.set_cons_zero, List.set_cons_succ, i64_w, i32_w, u8_w]
                      rfl
                    refine pure_ (i := 6) (N := some 84) (v := ?_) (a' := ?_) #[true, true, true, true, true, true, true, false, false, false, false, false, false, false, false] rfl rfl (by kernel_rfl) (fun _ _ _ h => h) (Or.inl ⟨by rfl, ?_⟩) ?_ ?_
                    rotate_left
                    · intro w'
                      go_simp
                      with_reducible rfl
                    rotate_left
                    · simp only [Act.put, List.setIfInBounds_toArray, List.set_cons_zero, List.set_cons_succ, i64_w, i32_w, u8_w]
                      rfl
                    refine pure_ (i := 7) (N := some 85) (v := ?_) (a' := ?_) #[true, true, true, true, true, true, true, true, false, false, false, false, false, false, false] rfl rfl (by kernel_rfl) (fun _ _ _ h => h) (Or.inl ⟨by rfl, ?_⟩) ?_ ?_
                    rotate_left
                    · intro w'
                      go_simp
                      with_reducible rfl
                    rotate_left
                    · simp only [Act.put, List.setIfInBounds_toArray, List.set_cons_zero, List.set_cons_succ, i64_w, i32_w, u8_w]
                      rfl
                    refine pure_ (i := 9) (N := some 87) (v := ?_) (a' := ?_) #[true, true, true, true, true, true, true, true, false, true, false, false, false, false, false] rfl rfl (by kernel_rfl) (fun _ _ _ h => h) (Or.inl ⟨by rfl, ?_⟩) ?_ ?_
                    rotate_left
                    · intro w'
                      go_simp
                      with_reducible rfl
                    rotate_left
                    · simp only [Act.put, List.setIfInBounds_toArray, List.set_cons_zero, List.set_cons_succ, i64_w, i32_w, u8_w]
                      rfl
                    refine pure_ (i := 10) (N := some 88) (v := ?_) (a' := ?_) #[true, true, true, true, true, true, true, true, false, true, true, false, false, false, false] rfl rfl (by kernel_rfl) (fun _ _ _ h => h) (Or.inl ⟨by rfl, ?_⟩) ?_ ?_
                    rotate_left
                    · intro w'
                      go_simp
                      with_reducible rfl
                    rotate_left
                    · simp only [Act.put, List.setIfInBounds_toArray, List.set_cons_zero, List.set_cons_succ, i64_w, i32_w, u8_w]
                      rfl
                    refine pure_ (i := 11) (N := some 89) (v := ?_) (a' := ?_) #[true, true, true, true, true, true, true, true, false, true, true, true, false, false, false] rfl rfl (by kernel_rfl) (fun _ _ _ h => h) (Or.inl ⟨by rfl, ?_⟩) ?_ ?_
                    rotate_left
                    · intro w'
                      go_simp
                      with_reducible rfl
                    rotate_left
                    · simp only [Act.put, List.setIfInBounds_toArray, List.set_cons_zero, List.set_cons_succ, i64_w, i32_w, u8_w]
                      rfl
                    refine take_ (i := 8) (N := some 86) (v := ?_) (a' := ?_) #[true, true, true, true, true, true, true, true, true, true, true, true, false, false, false] rfl rfl (by kernel_rfl) (fun _ _ _ h => h) (Or.inl ⟨by rfl, ?_⟩) hHeld ?_ ?_
                    rotate_left
                    · rintro w' ⟨s0, s1⟩
                      go_simp
                      with_reducible rfl
                    rotate_left
                    · simp only [Act.put, List.setIfInBounds_toArray, List.set_cons_zero, List.set_cons_succ, i64_w, i32_w, u8_w]
                      rfl
                    refine take_ (i := 12) (N := some 90) (v := ?_) (a' := ?_) #[true, true, true, true, true, true, true, true, true, true, true, true, true, false, false] rfl rfl (by kernel_rfl) (fun _ _ _ h => h) (Or.inl ⟨by rfl, ?_⟩) hHeld ?_ ?_
                    rotate_left
                    · rintro w' ⟨s0, s1⟩
                      go_simp
                      with_reducible rfl
                    rotate_left
                    · simp only [Act.put, List.setIfInBounds_toArray, List.set_cons_zero, List.set_cons_succ, i64_w, i32_w, u8_w]
                      rfl
                    refine pure_ (i := 13) (N := some 91) (v := ?_) (a' := ?_) #[true, true, true, true, true, true, true, true, true, true, true, true, true, true, false] rfl rfl (by kernel_rfl) (fun _ _ _ h => h) (Or.inl ⟨by rfl, ?_⟩) ?_ ?_
                    rotate_left
                    · intro w'
                      go_simp
                      with_reducible rfl
                    rotate_left
                    · simp only [Act.put, List.setIfInBounds_toArray, List.set_cons_zero, List.set_cons_succ, i64_w, i32_w, u8_w]
                      rfl
                    refine pure_ (i := 14) (N := some 92) (v := ?_) (a' := ?_) #[true, true, true, true, true, true, true, true, true, true, true, true, true, true, true] rfl rfl (by kernel_rfl) (fun _ _ _ h => h) (Or.inl ⟨by rfl, ?_⟩) ?_ ?_
                    rotate_left
                    · intro w'
                      go_simp
                      with_reducible rfl
                    rotate_left
                    · simp only [Act.put, List.setIfInBounds_toArray, List.set_cons_zero, List.set_cons_succ, i64_w, i32_w, u8_w]
                      rfl
                    refine done_ (by kernel_rfl) ?_
                    go_wp2
                    go_roundw
                    case rel => have b3 := HN.out; have b6 := HWL.out; have b4 := HMK.out; have b5 := HKN.out; exact ⟨k + 1, val_next _ (by omega), (val_next mk (by omega)).trans (by rw [← b4]; rfl), by omega, HL, HB, RW, RN⟩
                    case measure => have b3 := HN.out; have b6 := HWL.out; have b5 := HKN.out; rw [nat_next _ (by omega)]; simp only [intOf, Int.toNat_natCast]; omega
                  · obtain rfl : k = now.length := by omega
                    have n0 := eq_false (show ¬ (now.length : Int) < (now.length : Int) by omega)
                    clear hk hkn CW CN RN
                    go_wp2_with (first
        | (go_at_call 17; have hc := Holds_la gl a1 P' _ _ HL.out HI'.out.small; rw [HHS2.out] at hc; dsimp only at hc; refine hc.mono ?_; clear hc; rintro e_ w6 ⟨v_, rfl, ho_, hb⟩; obtain ⟨AH2, cAH2, ev_⟩ := Kd.R_slice ho_; subst ev_; have hB' := below_then HB.out HB.out.size hb; have hL' := LA.below HL.out hb; have ho := off_below hb; clear hb; have n0 := Aside0.mk (hB'); have n1 := Aside0.mk (hL'); have n2 := Aside0.mk (ints_off RW.out ho); have n3 := Aside0.mk (ho_); have n4 := Aside0.mk (HB.out.size); clear HB HL RW; have HB := n0; have HL := n1; have RW := n2; have RH2 := n3; have HBS := n4; clear n0 n1 n2 n3 n4; clear hB' hL' ho; clear ho_)
        )
                    go_roundw
                    case rel => exact ⟨P', hs2, AH2, cAH2, n + 1, m + now.length, rfl, rfl, val_next _ (by have := HN.out; have b6 := HWL.out; omega), HN.out.2, by have := HN.out.1; omega, HI', ⟨by rw [HHS2.out]⟩, ⟨drop_drop_app HTU.out⟩, HL, HB, ⟨Kd.R_lower RH2.out HBS.out⟩, RW⟩
                    case measure => have b3 := HN.out; have b6 := HWL.out; rw [nat_next _ (by omega)]; simp only [intOf, Int.toNat_natCast]; omega
    · have k0 := eq_true (show (a1.size : Int) > 100 by omega)
      have k1 := eq_true (show (100 : Int) < (a1.size : Int) by omega)
      have k2 := eq_true (show 100 < a1.size by omega)
      clear w1 hk
      go_enter Try.func6, Try.ntmps6
      go_wp2_with (first
        | (go_at_call 8; refine (New_calls w _ HB.out).mono ?_; rintro e_ w1 ⟨rfl, hL', hB'⟩; have n0 := Aside0.mk hB'; have HL := Aside0.mk hL'; clear HB hB' hL'; have HB := n0; clear n0)
        | (go_at_call 9; refine (valiselaw18_few.calls 102 A0 c0 l0 true _ (Kd.C_below HR.out HB.out) HC.out HF.out).mono ?_; rintro e_ w2 ⟨rfl, hd⟩; have hb := hd.below; clear hd; have hB' := below_then HB.out HB.out.size hb; have hL' := LA.below HL.out hb; have ho := off_below hb; clear hb; have n0 := Aside0.mk (hB'); have n1 := Aside0.mk (hL'); clear HB HL; have HB := n0; have HL := n1; clear n0 n1; clear hB' hL' ho)
        | (go_at_call 10; refine (lives_calls _).mono ?_; rintro e_ w9 ⟨rfl, hb⟩; have hB' := below_then HB.out HB.out.size hb; have hL' := LA.below HL.out hb; have ho := off_below hb; clear hb; have n0 := Aside0.mk (hB'); have n1 := Aside0.mk (hL'); clear HB HL; have HB := n0; have HL := n1; clear n0 n1; clear hB' hL' ho)
        )
      go_ret
      exact ⟨rfl, HB.out⟩
end
end Go.Proofs.Ytdhabfjfpbdjfaa.Pr
