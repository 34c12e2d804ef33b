-- Texts by hand and by programs of this session, joined (wip/tool/merge.py).
import Derived.Shelf.Abstract
import Derived.Shelf.RegionOpen
import Derived.OwnWalkIn
import Derived.TacticsInMore
import Derived.LoopNIn
import Derived.LoopIn
import Derived.Test.YtgflkkjhckcipaaDoorMIA12
-- YtgflkkjhckcipaaDoorIf12
namespace Go.Proofs.YtgflkkjhckcipaaDoor.Pr
open Go.RowKit Go.Shelf Go.Proofs.YtgflkkjhckcipaaDoorW.PrintWords Go.Proofs.YtgflkkjhckcipaaDoorW.PrintLast Go.Proofs.YtgflkkjhckcipaaDoorW.PrintMore
set_option linter.unusedVariables false
set_option linter.unusedSimpArgs false
theorem CodeIn.same {w w' : World} {pv : Value} {t : Option (List Int)} (h : CodeIn w pv t) (hk : ∀ gt cl ss, TabIn w gt cl ss → TabIn w' gt cl ss) : CodeIn w' pv t := by
  unfold CodeIn at h ⊢
  split at h
  · trivial
  · exact ⟨h.1, h.2.1, hk _ _ _ h.2.2⟩
  · exact h
theorem CodeIn.on {w w' : World} {pv : Value} {t : Option (List Int)} (h : CodeIn w pv t) (hb : Below w.heap.size w w') : CodeIn w' pv t := h.same fun _ _ _ hT => hT.on hb
theorem CodeIn.moved {w0 w w' : World} {g c : Nat} {A : Option Addr} {l : List Int} {N at_ : Int} {v v' : Value} {out : List Int} {most : Int} {pv : Value} {t : Option (List Int)} (h : CodeIn w pv t) (H : RdrAt w0 w g A c l N at_ v out most) (hm : Moved w w' g v v') : CodeIn w' pv t := h.same fun _ _ _ hT => hT.moved H hm
theorem copyL_len (out : List Int) (far : Nat) : ∀ n, (copyL out far n).length = out.length + n
  | 0 => rfl
  | n + 1 => by
    show (copyL out far n ++ [_]).length = _
    rw [List.length_append, copyL_len out far n, List.length_singleton]
    omega
theorem val_next (k : Nat) (h : k < 1000000000) : Value.int .i64 (wrap64 ((k : Int) + 1)) = Value.int .i64 ((k + 1 : Nat) : Int) := by
  rw [wrap64_id (by omega) (by omega), show (k : Int) + 1 = ((k + 1 : Nat) : Int) by omega]
theorem nat_next (k : Nat) (h : k < 1000000000) : (intOf (Value.int .i64 (wrap64 ((k : Int) + 1)))).toNat = k + 1 := by
  rw [val_next k h]
  rfl
section
attribute [local go_sem] Oper.semAt_some
theorem rsym_any {w0 : World} {A : Option Addr} {c : Nat} {l : List Int} (hr : RowOk w0 A c l) (w : World) (g p : Nat) (pv : Value) (t : Option (List Int)) (v : Value) (out : List Int) (most : Int) (H : RdrAt w0 w g A c l (NN l) (p : Int) v out most) (hp : p ≤ 8 * l.length) (hT : CodeIn w pv t) :
    Calls Tryd.prog 42 #[.pointer (some ⟨g, 0, none⟩), pv] w fun e w' => ToldV w0 w g A c l v out most e w' (symM l t p) := by
  unfold CodeIn at hT
  split at hT
  · exact rsym_none hr w g p v out most H
  · next a z =>
    obtain ⟨h1, h2, h3⟩ := hT
    have := rsym_told hr w g p a.block z v out most H hp h1 h3
    rw [← h2] at this
    exact this
  · exact hT.elim
set_option maxHeartbeats 16000000 in
set_option maxRecDepth 1000000 in
theorem copied_told {w0 : World} {A : Option Addr} {c : Nat} {l : List Int} (hr : RowOk w0 A c l) (w : World) (g p : Nat) (v : Value) (out : List Int) (most : Int) (pv : Value) (dist : Option (List Int)) (H : RdrAt w0 w g A c l (NN l) (p : Int) v out most) (hp : p ≤ 8 * l.length) (hm0 : (out.length : Int) ≤ most) (hm1 : most ≤ 65536) (hD : CodeIn w pv dist) (s : Int) (hs0 : 0 ≤ s) (hs1 : s < 288) (hdz : ∀ z, dist = some z → OKL z) :
    Calls Tryd.prog 43 #[.pointer (some ⟨g, 0, none⟩), .int .i64 s, pv] w fun e w' => ToldO w0 w g A c l v most e w' (copiedM l most dist s p out) := by
  obtain ⟨Ao, co, rfl⟩ := Kd.R_slice H.row
  have hlb := lenBits_eq hs0 hs1
  unfold copiedM
  have HR := Aside0.mk hr
  have HX := Aside0.mk H
  have AT := Aside0.mk H
  have MV := Aside0.mk (Moved.of_below g (.slice Ao out.length co) (Below.refl w.heap.size w))
  have HP := Aside0.mk hp
  have huR := Tryd.underlying51
  have huB := Tryd.underlying35
  have HD := Aside0.mk hD
  have HM0 := Aside0.mk hm0
  have HM1 := Aside0.mk hm1
  clear H hp hD hm0 hm1 hr
  cases hlp : lenP s with
  | none =>
    rw [hlp] at hlb
    have HLB := Aside0.mk hlb
    clear hlb hlp
    go_enter Tryd.func43, Tryd.ntmps43
    go_wp2_with (first
        | (go_at_call 51; refine (symbol_LenBits.calls 60 s 0 13 _ HLB.out).mono ?_; rintro e w' ⟨rfl, hb⟩; have AT_ := Aside0.mk (AT.out.on hb); have MV_ := Aside0.mk (MV.out.trans (Moved.of_below g _ hb)); have HD_ := Aside0.mk (HD.out.on hb); clear AT MV HD hb; have AT := AT_; have MV := MV_; have HD := HD_; clear AT_ MV_ HD_; clear HLB)
        | (go_at_call 35; refine (must_else 13 (by decide) _).mono ?_; rintro e w' ⟨pp, rfl, hfa, hb⟩)
        )
    exact ⟨rfl, pp, rfl, hfa, (HX.out.between AT.out MV.out.size).trans (hb.mono AT.out.below.size)⟩
  | some kb =>
    obtain ⟨k, base⟩ := kb
    rw [hlp] at hlb
    have HLB := Aside0.mk hlb
    have hk5 : k ≤ 5 := (lenOf_eq hs0 hs1 hlp (v := 0) (Int.le_refl _) (pow_pos2 k)).2.1
    have hb3 := (lenOf_eq hs0 hs1 hlp (v := 0) (Int.le_refl _) (pow_pos2 k)).2.2
    have HK := Aside0.mk hk5
    clear hlb
    dsimp only
    cases h1 : bitsM l p k with
    | error er =>
      have H1 := Aside0.mk h1
      clear h1 hlp hk5 hb3
      go_enter Tryd.func43, Tryd.ntmps43
      go_wp2_with (first
        | (go_at_call 51; refine (symbol_LenBits.calls 60 s (k : Int) 0 _ HLB.out).mono ?_; rintro e w' ⟨rfl, hb⟩; have AT_ := Aside0.mk (AT.out.on hb); have MV_ := Aside0.mk (MV.out.trans (Moved.of_below g _ hb)); have HD_ := Aside0.mk (HD.out.on hb); clear AT MV HD hb; have AT := AT_; have MV := MV_; have HD := HD_; clear AT_ MV_ HD_; clear HLB)
        | (go_at_call 35; refine (must_zero _).mono ?_; rintro e w' ⟨rfl, hw_⟩; subst hw_)
        | (go_at_call 26; have hcc := rbits_told HR.out _ g p k (.slice Ao out.length co) out most AT.out HP.out (by have := HK.out; omega); rw [H1.out] at hcc; refine hcc.mono ?_; clear hcc; rintro e w' ⟨pp, rfl, hfa, hb⟩)
        )
      exact ⟨rfl, pp, rfl, hfa, (HX.out.between AT.out MV.out.size).trans hb⟩
    | ok r1 =>
      obtain ⟨x, p1⟩ := r1
      obtain ⟨hxv, hp1, hp1b⟩ := bitsM_ok h1
      have hxr := getV_range l p k
      rw [← hxv] at hxr
      obtain ⟨n, hn⟩ : ∃ n, n = base + x.toNat := ⟨_, rfl⟩
      have hnI : (base : Int) + x = (n : Int) := by omega
      have hlo := (lenOf_eq hs0 hs1 hlp hxr.1 hxr.2).1
      rw [hnI] at hlo
      have HLO := Aside0.mk hlo
      clear hlo
      have HP1 := Aside0.mk (show p1 ≤ 8 * l.length by omega)
      have HXB := Aside0.mk (show n ≤ 258 ∧ 3 ≤ n from by
        have h2 : ((2 ^ k : Nat) : Int) = (2 : Int) ^ k := by simp
        have h3 := hb3.2
        omega)
      have H1 := Aside0.mk h1
      dsimp only
      rw [← hn]
      clear h1 hxv hp1 hp1b hxr hlp hk5 hb3 hnI hn
      cases h2 : symM l dist p1 with
      | error er =>
        have H2 := Aside0.mk h2
        clear h2
        go_enter Tryd.func43, Tryd.ntmps43
        go_wp2_with (first
        | (go_at_call 51; refine (symbol_LenBits.calls 60 s (k : Int) 0 _ HLB.out).mono ?_; rintro e w' ⟨rfl, hb⟩; have AT_ := Aside0.mk (AT.out.on hb); have MV_ := Aside0.mk (MV.out.trans (Moved.of_below g _ hb)); have HD_ := Aside0.mk (HD.out.on hb); clear AT MV HD hb; have AT := AT_; have MV := MV_; have HD := HD_; clear AT_ MV_ HD_; clear HLB)
        | (go_at_call 35; refine (must_zero _).mono ?_; rintro e w' ⟨rfl, hw_⟩; subst hw_)
        | (go_at_call 26; have hcc := rbits_told HR.out _ g p k (.slice Ao out.length co) out most AT.out HP.out (by have := HK.out; omega); rw [H1.out] at hcc; refine hcc.mono ?_; clear hcc; rintro e w' ⟨rfl, hq_, hat_, hm_⟩; have AT_ := Aside0.mk hat_; have MV_ := Aside0.mk (MV.out.trans hm_); have HP_ := Aside0.mk hq_; have HD_ := Aside0.mk (HD.out.moved AT.out hm_); clear AT MV HP HD hat_ hm_ hq_; have AT := AT_; have MV := MV_; have HP := HP_; have HD := HD_; clear AT_ MV_ HP_ HD_; clear H1)
        | (go_at_call 52; refine (symbol_LenOf.calls 60 s x (n : Int) 0 _ HLO.out).mono ?_; rintro e w' ⟨rfl, hb⟩; have AT_ := Aside0.mk (AT.out.on hb); have MV_ := Aside0.mk (MV.out.trans (Moved.of_below g _ hb)); have HD_ := Aside0.mk (HD.out.on hb); clear AT MV HD hb; have AT := AT_; have MV := MV_; have HD := HD_; clear AT_ MV_ HD_; clear HLO)
        | (go_at_call 42; have hcc := rsym_any HR.out _ g p1 pv dist (.slice Ao out.length co) out most AT.out HP.out HD.out; rw [H2.out] at hcc; refine hcc.mono ?_; clear hcc; rintro e w' ⟨pp, rfl, hfa, hb⟩)
        )
        exact ⟨rfl, pp, rfl, hfa, (HX.out.between AT.out MV.out.size).trans hb⟩
      | ok r2 =>
        obtain ⟨d, p2⟩ := r2
        obtain ⟨hd0, hd1⟩ : 0 ≤ d ∧ d < 288 := by
          cases hdi : dist with
          | none => rw [hdi] at h2; cases h2
          | some z =>
            rw [hdi] at h2
            have := symM_ok (hdz z hdi) HP1.out h2
            omega
        have hdb := distBits_eq hd0 hd1
        have H2 := Aside0.mk h2
        clear h2
        dsimp only
        cases hdp : distP d with
        | none =>
          rw [hdp] at hdb
          have HDB := Aside0.mk hdb
          clear hdb hdp
          go_enter Tryd.func43, Tryd.ntmps43
          go_wp2_with (first
        | (go_at_call 51; refine (symbol_LenBits.calls 60 s (k : Int) 0 _ HLB.out).mono ?_; rintro e w' ⟨rfl, hb⟩; have AT_ := Aside0.mk (AT.out.on hb); have MV_ := Aside0.mk (MV.out.trans (Moved.of_below g _ hb)); have HD_ := Aside0.mk (HD.out.on hb); clear AT MV HD hb; have AT := AT_; have MV := MV_; have HD := HD_; clear AT_ MV_ HD_; clear HLB)
        | (go_at_call 35; refine (must_zero _).mono ?_; rintro e w' ⟨rfl, hw_⟩; subst hw_)
        | (go_at_call 26; have hcc := rbits_told HR.out _ g p k (.slice Ao out.length co) out most AT.out HP.out (by have := HK.out; omega); rw [H1.out] at hcc; refine hcc.mono ?_; clear hcc; rintro e w' ⟨rfl, hq_, hat_, hm_⟩; have AT_ := Aside0.mk hat_; have MV_ := Aside0.mk (MV.out.trans hm_); have HP_ := Aside0.mk hq_; have HD_ := Aside0.mk (HD.out.moved AT.out hm_); clear AT MV HP HD hat_ hm_ hq_; have AT := AT_; have MV := MV_; have HP := HP_; have HD := HD_; clear AT_ MV_ HP_ HD_; clear H1)
        | (go_at_call 52; refine (symbol_LenOf.calls 60 s x (n : Int) 0 _ HLO.out).mono ?_; rintro e w' ⟨rfl, hb⟩; have AT_ := Aside0.mk (AT.out.on hb); have MV_ := Aside0.mk (MV.out.trans (Moved.of_below g _ hb)); have HD_ := Aside0.mk (HD.out.on hb); clear AT MV HD hb; have AT := AT_; have MV := MV_; have HD := HD_; clear AT_ MV_ HD_; clear HLO)
        | (go_at_call 42; have hcc := rsym_any HR.out _ g p1 pv dist (.slice Ao out.length co) out most AT.out HP.out HD.out; rw [H2.out] at hcc; refine hcc.mono ?_; clear hcc; rintro e w' ⟨rfl, hq_, hat_, hm_⟩; have AT_ := Aside0.mk hat_; have MV_ := Aside0.mk (MV.out.trans hm_); have HP_ := Aside0.mk hq_; have HD_ := Aside0.mk (HD.out.moved AT.out hm_); clear AT MV HP HD hat_ hm_ hq_; have AT := AT_; have MV := MV_; have HP := HP_; have HD := HD_; clear AT_ MV_ HP_ HD_; clear H2)
        | (go_at_call 53; refine (symbol_DistBits.calls 60 d 0 13 _ HDB.out).mono ?_; rintro e w' ⟨rfl, hb⟩; have AT_ := Aside0.mk (AT.out.on hb); have MV_ := Aside0.mk (MV.out.trans (Moved.of_below g _ hb)); have HD_ := Aside0.mk (HD.out.on hb); clear AT MV HD hb; have AT := AT_; have MV := MV_; have HD := HD_; clear AT_ MV_ HD_; clear HDB)
        | (go_at_call 35; refine (must_else 13 (by decide) _).mono ?_; rintro e w' ⟨pp, rfl, hfa, hb⟩)
        )
          exact ⟨rfl, pp, rfl, hfa, (HX.out.between AT.out MV.out.size).trans (hb.mono AT.out.below.size)⟩
        | some kb2 =>
          obtain ⟨kd, bd⟩ := kb2
          rw [hdp] at hdb
          have HDB := Aside0.mk hdb
          have hkd := (distOf_eq hd0 hd1 hdp (v := 0) (Int.le_refl _) (pow_pos2 kd)).2.1
          have hbd := (distOf_eq hd0 hd1 hdp (v := 0) (Int.le_refl _) (pow_pos2 kd)).2.2
          have HKD := Aside0.mk hkd
          clear hdb
          dsimp only
          cases h3 : bitsM l p2 kd with
          | error er =>
            have H3 := Aside0.mk h3
            clear h3 hdp hkd hbd
            go_enter Tryd.func43, Tryd.ntmps43
            go_wp2_with (first
        | (go_at_call 51; refine (symbol_LenBits.calls 60 s (k : Int) 0 _ HLB.out).mono ?_; rintro e w' ⟨rfl, hb⟩; have AT_ := Aside0.mk (AT.out.on hb); have MV_ := Aside0.mk (MV.out.trans (Moved.of_below g _ hb)); have HD_ := Aside0.mk (HD.out.on hb); clear AT MV HD hb; have AT := AT_; have MV := MV_; have HD := HD_; clear AT_ MV_ HD_; clear HLB)
        | (go_at_call 35; refine (must_zero _).mono ?_; rintro e w' ⟨rfl, hw_⟩; subst hw_)
        | (go_at_call 26; have hcc := rbits_told HR.out _ g p k (.slice Ao out.length co) out most AT.out HP.out (by have := HK.out; omega); rw [H1.out] at hcc; refine hcc.mono ?_; clear hcc; rintro e w' ⟨rfl, hq_, hat_, hm_⟩; have AT_ := Aside0.mk hat_; have MV_ := Aside0.mk (MV.out.trans hm_); have HP_ := Aside0.mk hq_; have HD_ := Aside0.mk (HD.out.moved AT.out hm_); clear AT MV HP HD hat_ hm_ hq_; have AT := AT_; have MV := MV_; have HP := HP_; have HD := HD_; clear AT_ MV_ HP_ HD_; clear H1)
        | (go_at_call 52; refine (symbol_LenOf.calls 60 s x (n : Int) 0 _ HLO.out).mono ?_; rintro e w' ⟨rfl, hb⟩; have AT_ := Aside0.mk (AT.out.on hb); have MV_ := Aside0.mk (MV.out.trans (Moved.of_below g _ hb)); have HD_ := Aside0.mk (HD.out.on hb); clear AT MV HD hb; have AT := AT_; have MV := MV_; have HD := HD_; clear AT_ MV_ HD_; clear HLO)
        | (go_at_call 42; have hcc := rsym_any HR.out _ g p1 pv dist (.slice Ao out.length co) out most AT.out HP.out HD.out; rw [H2.out] at hcc; refine hcc.mono ?_; clear hcc; rintro e w' ⟨rfl, hq_, hat_, hm_⟩; have AT_ := Aside0.mk hat_; have MV_ := Aside0.mk (MV.out.trans hm_); have HP_ := Aside0.mk hq_; have HD_ := Aside0.mk (HD.out.moved AT.out hm_); clear AT MV HP HD hat_ hm_ hq_; have AT := AT_; have MV := MV_; have HP := HP_; have HD := HD_; clear AT_ MV_ HP_ HD_; clear H2)
        | (go_at_call 53; refine (symbol_DistBits.calls 60 d (kd : Int) 0 _ HDB.out).mono ?_; rintro e w' ⟨rfl, hb⟩; have AT_ := Aside0.mk (AT.out.on hb); have MV_ := Aside0.mk (MV.out.trans (Moved.of_below g _ hb)); have HD_ := Aside0.mk (HD.out.on hb); clear AT MV HD hb; have AT := AT_; have MV := MV_; have HD := HD_; clear AT_ MV_ HD_; clear HDB)
        | (go_at_call 26; have hcc := rbits_told HR.out _ g p2 kd (.slice Ao out.length co) out most AT.out HP.out (by have := HKD.out; omega); rw [H3.out] at hcc; refine hcc.mono ?_; clear hcc; rintro e w' ⟨pp, rfl, hfa, hb⟩)
        )
            exact ⟨rfl, pp, rfl, hfa, (HX.out.between AT.out MV.out.size).trans hb⟩
          | ok r3 =>
            obtain ⟨y, p3⟩ := r3
            obtain ⟨hyv, hp3, hp3b⟩ := bitsM_ok h3
            have hyr := getV_range l p2 kd
            rw [← hyv] at hyr
            obtain ⟨far, hfar⟩ : ∃ far, far = bd + y.toNat := ⟨_, rfl⟩
            have hfI : (bd : Int) + y = (far : Int) := by omega
            have hdo := (distOf_eq hd0 hd1 hdp hyr.1 hyr.2).1
            rw [hfI] at hdo
            have HDO := Aside0.mk hdo
            have HP3 := Aside0.mk (show p3 ≤ 8 * l.length by omega)
            have HFB := Aside0.mk (show far ≤ 32768 ∧ 1 ≤ far from by
              have h2 : ((2 ^ kd : Nat) : Int) = (2 : Int) ^ kd := by simp
              have h3 := hbd.2
              omega)
            have H3 := Aside0.mk h3
            dsimp only
            rw [← hfar]
            clear h3 hyv hp3 hp3b hyr hdp hkd hbd hfI hfar hdo
            by_cases hfo : far > out.length
            · rw [if_pos hfo]
              have q9 := eq_true (show (out.length : Int) < (far : Int) by omega)
              have q9b := eq_true (show out.length < far by omega)
              clear hfo
              go_enter Tryd.func43, Tryd.ntmps43
              go_wp2_with (first
        | (go_at_call 51; refine (symbol_LenBits.calls 60 s (k : Int) 0 _ HLB.out).mono ?_; rintro e w' ⟨rfl, hb⟩; have AT_ := Aside0.mk (AT.out.on hb); have MV_ := Aside0.mk (MV.out.trans (Moved.of_below g _ hb)); have HD_ := Aside0.mk (HD.out.on hb); clear AT MV HD hb; have AT := AT_; have MV := MV_; have HD := HD_; clear AT_ MV_ HD_; clear HLB)
        | (go_at_call 35; refine (must_zero _).mono ?_; rintro e w' ⟨rfl, hw_⟩; subst hw_)
        | (go_at_call 26; have hcc := rbits_told HR.out _ g p k (.slice Ao out.length co) out most AT.out HP.out (by have := HK.out; omega); rw [H1.out] at hcc; refine hcc.mono ?_; clear hcc; rintro e w' ⟨rfl, hq_, hat_, hm_⟩; have AT_ := Aside0.mk hat_; have MV_ := Aside0.mk (MV.out.trans hm_); have HP_ := Aside0.mk hq_; have HD_ := Aside0.mk (HD.out.moved AT.out hm_); clear AT MV HP HD hat_ hm_ hq_; have AT := AT_; have MV := MV_; have HP := HP_; have HD := HD_; clear AT_ MV_ HP_ HD_; clear H1)
        | (go_at_call 52; refine (symbol_LenOf.calls 60 s x (n : Int) 0 _ HLO.out).mono ?_; rintro e w' ⟨rfl, hb⟩; have AT_ := Aside0.mk (AT.out.on hb); have MV_ := Aside0.mk (MV.out.trans (Moved.of_below g _ hb)); have HD_ := Aside0.mk (HD.out.on hb); clear AT MV HD hb; have AT := AT_; have MV := MV_; have HD := HD_; clear AT_ MV_ HD_; clear HLO)
        | (go_at_call 42; have hcc := rsym_any HR.out _ g p1 pv dist (.slice Ao out.length co) out most AT.out HP.out HD.out; rw [H2.out] at hcc; refine hcc.mono ?_; clear hcc; rintro e w' ⟨rfl, hq_, hat_, hm_⟩; have AT_ := Aside0.mk hat_; have MV_ := Aside0.mk (MV.out.trans hm_); have HP_ := Aside0.mk hq_; have HD_ := Aside0.mk (HD.out.moved AT.out hm_); clear AT MV HP HD hat_ hm_ hq_; have AT := AT_; have MV := MV_; have HP := HP_; have HD := HD_; clear AT_ MV_ HP_ HD_; clear H2)
        | (go_at_call 53; refine (symbol_DistBits.calls 60 d (kd : Int) 0 _ HDB.out).mono ?_; rintro e w' ⟨rfl, hb⟩; have AT_ := Aside0.mk (AT.out.on hb); have MV_ := Aside0.mk (MV.out.trans (Moved.of_below g _ hb)); have HD_ := Aside0.mk (HD.out.on hb); clear AT MV HD hb; have AT := AT_; have MV := MV_; have HD := HD_; clear AT_ MV_ HD_; clear HDB)
        | (go_at_call 26; have hcc := rbits_told HR.out _ g p2 kd (.slice Ao out.length co) out most AT.out HP.out (by have := HKD.out; omega); rw [H3.out] at hcc; refine hcc.mono ?_; clear hcc; rintro e w' ⟨rfl, hq_, hat_, hm_⟩; have AT_ := Aside0.mk hat_; have MV_ := Aside0.mk (MV.out.trans hm_); have HP_ := Aside0.mk hq_; have HD_ := Aside0.mk (HD.out.moved AT.out hm_); clear AT MV HP HD hat_ hm_ hq_; have AT := AT_; have MV := MV_; have HP := HP_; have HD := HD_; clear AT_ MV_ HP_ HD_; clear H3)
        | (go_at_call 54; refine (symbol_DistOf.calls 60 d y (far : Int) 0 _ HDO.out).mono ?_; rintro e w' ⟨rfl, hb⟩; have AT_ := Aside0.mk (AT.out.on hb); have MV_ := Aside0.mk (MV.out.trans (Moved.of_below g _ hb)); have HD_ := Aside0.mk (HD.out.on hb); clear AT MV HD hb; have AT := AT_; have MV := MV_; have HD := HD_; clear AT_ MV_ HD_; clear HDO; have hc3 : w'.cell? ⟨g, 3, none⟩ = some (.slice Ao out.length co) := (blk_cell AT.out.blk 3).trans rfl)
        | (go_at_call 30; refine (stop_calls 14 _).mono ?_; rintro e w' ⟨pp, rfl, hfa, hb⟩)
        )
              exact ⟨rfl, pp, rfl, hfa, (HX.out.between AT.out MV.out.size).trans (hb.mono AT.out.below.size)⟩
            · rw [if_neg hfo]
              have HFO := Aside0.mk (show far ≤ out.length by omega)
              have q9 := eq_false (show ¬ (out.length : Int) < (far : Int) by omega)
              have q9b := eq_false (show ¬ out.length < far by omega)
              clear hfo
              by_cases hrm : (n : Int) > most - (out.length : Int)
              · rw [if_pos hrm]
                have HRm := Aside0.mk hrm
                clear hrm
                go_enter Tryd.func43, Tryd.ntmps43
                go_wp2_with (first
        | (go_at_call 51; refine (symbol_LenBits.calls 60 s (k : Int) 0 _ HLB.out).mono ?_; rintro e w' ⟨rfl, hb⟩; have AT_ := Aside0.mk (AT.out.on hb); have MV_ := Aside0.mk (MV.out.trans (Moved.of_below g _ hb)); have HD_ := Aside0.mk (HD.out.on hb); clear AT MV HD hb; have AT := AT_; have MV := MV_; have HD := HD_; clear AT_ MV_ HD_; clear HLB)
        | (go_at_call 35; refine (must_zero _).mono ?_; rintro e w' ⟨rfl, hw_⟩; subst hw_)
        | (go_at_call 26; have hcc := rbits_told HR.out _ g p k (.slice Ao out.length co) out most AT.out HP.out (by have := HK.out; omega); rw [H1.out] at hcc; refine hcc.mono ?_; clear hcc; rintro e w' ⟨rfl, hq_, hat_, hm_⟩; have AT_ := Aside0.mk hat_; have MV_ := Aside0.mk (MV.out.trans hm_); have HP_ := Aside0.mk hq_; have HD_ := Aside0.mk (HD.out.moved AT.out hm_); clear AT MV HP HD hat_ hm_ hq_; have AT := AT_; have MV := MV_; have HP := HP_; have HD := HD_; clear AT_ MV_ HP_ HD_; clear H1)
        | (go_at_call 52; refine (symbol_LenOf.calls 60 s x (n : Int) 0 _ HLO.out).mono ?_; rintro e w' ⟨rfl, hb⟩; have AT_ := Aside0.mk (AT.out.on hb); have MV_ := Aside0.mk (MV.out.trans (Moved.of_below g _ hb)); have HD_ := Aside0.mk (HD.out.on hb); clear AT MV HD hb; have AT := AT_; have MV := MV_; have HD := HD_; clear AT_ MV_ HD_; clear HLO)
        | (go_at_call 42; have hcc := rsym_any HR.out _ g p1 pv dist (.slice Ao out.length co) out most AT.out HP.out HD.out; rw [H2.out] at hcc; refine hcc.mono ?_; clear hcc; rintro e w' ⟨rfl, hq_, hat_, hm_⟩; have AT_ := Aside0.mk hat_; have MV_ := Aside0.mk (MV.out.trans hm_); have HP_ := Aside0.mk hq_; have HD_ := Aside0.mk (HD.out.moved AT.out hm_); clear AT MV HP HD hat_ hm_ hq_; have AT := AT_; have MV := MV_; have HP := HP_; have HD := HD_; clear AT_ MV_ HP_ HD_; clear H2)
        | (go_at_call 53; refine (symbol_DistBits.calls 60 d (kd : Int) 0 _ HDB.out).mono ?_; rintro e w' ⟨rfl, hb⟩; have AT_ := Aside0.mk (AT.out.on hb); have MV_ := Aside0.mk (MV.out.trans (Moved.of_below g _ hb)); have HD_ := Aside0.mk (HD.out.on hb); clear AT MV HD hb; have AT := AT_; have MV := MV_; have HD := HD_; clear AT_ MV_ HD_; clear HDB)
        | (go_at_call 26; have hcc := rbits_told HR.out _ g p2 kd (.slice Ao out.length co) out most AT.out HP.out (by have := HKD.out; omega); rw [H3.out] at hcc; refine hcc.mono ?_; clear hcc; rintro e w' ⟨rfl, hq_, hat_, hm_⟩; have AT_ := Aside0.mk hat_; have MV_ := Aside0.mk (MV.out.trans hm_); have HP_ := Aside0.mk hq_; have HD_ := Aside0.mk (HD.out.moved AT.out hm_); clear AT MV HP HD hat_ hm_ hq_; have AT := AT_; have MV := MV_; have HP := HP_; have HD := HD_; clear AT_ MV_ HP_ HD_; clear H3)
        | (go_at_call 54; refine (symbol_DistOf.calls 60 d y (far : Int) 0 _ HDO.out).mono ?_; rintro e w' ⟨rfl, hb⟩; have AT_ := Aside0.mk (AT.out.on hb); have MV_ := Aside0.mk (MV.out.trans (Moved.of_below g _ hb)); have HD_ := Aside0.mk (HD.out.on hb); clear AT MV HD hb; have AT := AT_; have MV := MV_; have HD := HD_; clear AT_ MV_ HD_; clear HDO; have hc3 : w'.cell? ⟨g, 3, none⟩ = some (.slice Ao out.length co) := (blk_cell AT.out.blk 3).trans rfl)
        | (go_at_call 36; refine (room_full HR.out _ g _ (.slice Ao out.length co) out most (n : Int) AT.out HM0.out HM1.out HRm.out).mono ?_; rintro e w' ⟨pp, rfl, hfa, hb⟩)
        )
                exact ⟨rfl, pp, rfl, hfa, (HX.out.between AT.out MV.out.size).trans hb⟩
              · rw [if_neg hrm]
                have HRm := Aside0.mk (show ¬ (n : Int) > most - (out.length : Int) from hrm)
                have HRn := Aside0.mk (show (n : Int) ≤ most - (out.length : Int) by omega)
                clear hrm
                go_enter Tryd.func43, Tryd.ntmps43
                go_wp2_with (first
        | (go_at_call 51; refine (symbol_LenBits.calls 60 s (k : Int) 0 _ HLB.out).mono ?_; rintro e w' ⟨rfl, hb⟩; have AT_ := Aside0.mk (AT.out.on hb); have MV_ := Aside0.mk (MV.out.trans (Moved.of_below g _ hb)); have HD_ := Aside0.mk (HD.out.on hb); clear AT MV HD hb; have AT := AT_; have MV := MV_; have HD := HD_; clear AT_ MV_ HD_; clear HLB)
        | (go_at_call 35; refine (must_zero _).mono ?_; rintro e w' ⟨rfl, hw_⟩; subst hw_)
        | (go_at_call 26; have hcc := rbits_told HR.out _ g p k (.slice Ao out.length co) out most AT.out HP.out (by have := HK.out; omega); rw [H1.out] at hcc; refine hcc.mono ?_; clear hcc; rintro e w' ⟨rfl, hq_, hat_, hm_⟩; have AT_ := Aside0.mk hat_; have MV_ := Aside0.mk (MV.out.trans hm_); have HP_ := Aside0.mk hq_; have HD_ := Aside0.mk (HD.out.moved AT.out hm_); clear AT MV HP HD hat_ hm_ hq_; have AT := AT_; have MV := MV_; have HP := HP_; have HD := HD_; clear AT_ MV_ HP_ HD_; clear H1)
        | (go_at_call 52; refine (symbol_LenOf.calls 60 s x (n : Int) 0 _ HLO.out).mono ?_; rintro e w' ⟨rfl, hb⟩; have AT_ := Aside0.mk (AT.out.on hb); have MV_ := Aside0.mk (MV.out.trans (Moved.of_below g _ hb)); have HD_ := Aside0.mk (HD.out.on hb); clear AT MV HD hb; have AT := AT_; have MV := MV_; have HD := HD_; clear AT_ MV_ HD_; clear HLO)
        | (go_at_call 42; have hcc := rsym_any HR.out _ g p1 pv dist (.slice Ao out.length co) out most AT.out HP.out HD.out; rw [H2.out] at hcc; refine hcc.mono ?_; clear hcc; rintro e w' ⟨rfl, hq_, hat_, hm_⟩; have AT_ := Aside0.mk hat_; have MV_ := Aside0.mk (MV.out.trans hm_); have HP_ := Aside0.mk hq_; have HD_ := Aside0.mk (HD.out.moved AT.out hm_); clear AT MV HP HD hat_ hm_ hq_; have AT := AT_; have MV := MV_; have HP := HP_; have HD := HD_; clear AT_ MV_ HP_ HD_; clear H2)
        | (go_at_call 53; refine (symbol_DistBits.calls 60 d (kd : Int) 0 _ HDB.out).mono ?_; rintro e w' ⟨rfl, hb⟩; have AT_ := Aside0.mk (AT.out.on hb); have MV_ := Aside0.mk (MV.out.trans (Moved.of_below g _ hb)); have HD_ := Aside0.mk (HD.out.on hb); clear AT MV HD hb; have AT := AT_; have MV := MV_; have HD := HD_; clear AT_ MV_ HD_; clear HDB)
        | (go_at_call 26; have hcc := rbits_told HR.out _ g p2 kd (.slice Ao out.length co) out most AT.out HP.out (by have := HKD.out; omega); rw [H3.out] at hcc; refine hcc.mono ?_; clear hcc; rintro e w' ⟨rfl, hq_, hat_, hm_⟩; have AT_ := Aside0.mk hat_; have MV_ := Aside0.mk (MV.out.trans hm_); have HP_ := Aside0.mk hq_; have HD_ := Aside0.mk (HD.out.moved AT.out hm_); clear AT MV HP HD hat_ hm_ hq_; have AT := AT_; have MV := MV_; have HP := HP_; have HD := HD_; clear AT_ MV_ HP_ HD_; clear H3)
        | (go_at_call 54; refine (symbol_DistOf.calls 60 d y (far : Int) 0 _ HDO.out).mono ?_; rintro e w' ⟨rfl, hb⟩; have AT_ := Aside0.mk (AT.out.on hb); have MV_ := Aside0.mk (MV.out.trans (Moved.of_below g _ hb)); have HD_ := Aside0.mk (HD.out.on hb); clear AT MV HD hb; have AT := AT_; have MV := MV_; have HD := HD_; clear AT_ MV_ HD_; clear HDO; have hc3 : w'.cell? ⟨g, 3, none⟩ = some (.slice Ao out.length co) := (blk_cell AT.out.blk 3).trans rfl)
        | (go_at_call 36; refine (room_ok HR.out _ g _ (.slice Ao out.length co) out most (n : Int) AT.out HM0.out HM1.out (by have := HRm.out; omega)).mono ?_; rintro e w' ⟨rfl, hb⟩; have AT_ := Aside0.mk (AT.out.on hb); have MV_ := Aside0.mk (MV.out.trans (Moved.of_below g _ hb)); have HD_ := Aside0.mk (HD.out.on hb); clear AT MV HD hb; have AT := AT_; have MV := MV_; have HD := HD_; clear AT_ MV_ HD_; clear HRm)
        )
                go_loopw [60] (fun x60 w' => ∃ (i : Nat) (v' : Value), i ≤ n ∧ x60 = .int .i64 (i : Int) ∧ Aside0 (RdrAt w0 w' g A c l (NN l) (p3 : Int) v' (copyL out far i) most) ∧ Aside0 (Moved w w' g (.slice Ao out.length co) v')) (fun x60 _ => n + 1 - (intOf x60).toNat)
                case atStart => exact ⟨0, _, by omega, rfl, AT, MV⟩
                case round =>
                  clear AT MV HD
                  obtain ⟨i, v1, hi, rfl, AT, MV⟩ := hrel
                  have hlen := copyL_len out far i
                  obtain ⟨ys, hys⟩ : ∃ ys, ys = copyL out far i := ⟨_, rfl⟩
                  rw [← hys] at AT hlen
                  obtain ⟨A1, c1, rfl⟩ := Kd.R_slice AT.out.row
                  by_cases hlt : i < n
                  · have hf1 := HFO.out
                    have hf2 := HFB.out
                    have hx1 := HXB.out
                    have hr1 := HRn.out
                    have hm1' := HM1.out
                    obtain ⟨j, hj⟩ : ∃ j, j = ys.length - far := ⟨_, rfl⟩
                    obtain ⟨ad, ead, hcell⟩ := Kd.at_int (Kd.R_reads' AT.out.row).2.2 ((j : Nat) : Int) (by omega) (by omega)
                    subst ead
                    rw [Int.toNat_natCast, rd_nat] at hcell
                    obtain ⟨b, hb0⟩ : ∃ b, b = ys.getD j 0 := ⟨_, rfl⟩
                    rw [← hb0] at hcell
                    have HC := Aside0.mk hcell
                    have hwj : wrap64 ((ys.length : Int) - (far : Int)) = (j : Int) := by rw [wrap64_id (by omega) (by omega)]; omega
                    have pj := eq_true (show 0 ≤ (j : Int) by omega)
                    have qj := eq_true (show (j : Int) < (ys.length : Int) by omega)
                    have q0 := eq_true (show (i : Int) < (n : Int) by omega)
                    have q0b := eq_true hlt
                    have hstep : copyL out far (i + 1) = ys ++ [b] := by
                      show copyL out far i ++ [(copyL out far i).getD ((copyL out far i).length - far) 0] = _
                      rw [← hys, hb0, hj]
                    have HST := Aside0.mk hstep
                    have HLEN := Aside0.mk (show ys.length ≤ 70000 by omega)
                    have HI := Aside0.mk (show i < n ∧ n ≤ 258 by omega)
                    clear hf1 hf2 hx1 hr1 hm1' hj hcell hb0 hlt hi hlen hstep hys
                    go_upto_region 14 with (fail)
                    have AT_ := Aside0.mk (AT.out.on (below_drew (Below.refl _ _)))
                    have MV_ := Aside0.mk (MV.out.trans (Moved.of_below g _ (below_drew (Below.refl _ _))))
                    clear AT MV
                    have AT := AT_
                    have MV := MV_
                    clear AT_ MV_
                    have BG := Aside0.mk AT.out.blk
                    have HC_ := Aside0.mk (show wr.drew.cell? (ad.add j) = some (.int .u8 b) from HC.out)
                    clear HC
                    have HC := HC_
                    clear HC_
                    refine start_ (n := 23) (S := fun w' => w'.cell? ⟨g, 3, none⟩ = some (.slice (some ad) ys.length c1) ∧ w'.cell? (ad.add j) = some (.int .u8 b)) (ds := [19, 22]) #[false, false, false, false, false, false, false, false, false, false, false, false, false, false, false, false, false, false, false, false, false, false, false] (by kernel_rfl) rfl rfl ⟨(blk_cell BG.out 3).trans rfl, HC.out⟩ (fun hHeld => ?_)
                    generalize wr.drew = we at AT MV BG HC hHeld ⊢
                    refine pure_ (i := 0) (N := some 62) (v := ?_) (a' := ?_) #[true, false, false, false, false, false, false, false, false, false, false, false, false, false, false, false, false, false, false, false, false, false, false] rfl rfl (by kernel_rfl) (fun _ _ _ h => h) (Or.inl ⟨by rfl, ?_⟩) ?_ ?_
                    rotate_left
                    · intro w'
                      go_simp
                      with_reducible rfl
                    rotate_left
                    · simp only [Act.put, List.setIfInBounds_toArray, List.set_cons_zero, List.set_cons_succ, i64_w, i32_w, u8_w]
                      rfl
                    refine pure_ (i := 1) (N := some 63) (v := ?_) (a' := ?_) #[true, true, false, false, false, false, false, false, false, false, false, false, false, false, false, false, false, false, false, false, false, false, false] rfl rfl (by kernel_rfl) (fun _ _ _ h => h) (Or.inl ⟨by rfl, ?_⟩) ?_ ?_
                    rotate_left
                    · intro w'
                      go_simp
                      with_reducible rfl
                    rotate_left
                    · simp only [Act.put, List.setIfInBounds_toArray, List.set_cons_zero, List.set_cons_succ, i64_w, i32_w, u8_w]
                      rfl
                    refine pure_ (i := 2) (N := some 64) (v := ?_) (a' := ?_) #[true, true, true, false, false, false, false, false, false, false, false, false, false, false, false, false, false, false, false, false, false, false, false] rfl rfl (by kernel_rfl) (fun _ _ _ h => h) (Or.inl ⟨by rfl, ?_⟩) ?_ ?_
                    rotate_left
                    · intro w'
                      go_simp
                      with_reducible rfl
                    rotate_left
                    · simp only [Act.put, List.setIfInBounds_toArray, List.set_cons_zero, List.set_cons_succ, i64_w, i32_w, u8_w]
                      rfl
                    refine pure_ (i := 3) (N := some 65) (v := ?_) (a' := ?_) #[true, true, true, true, false, false, false, false, false, false, false, false, false, false, false, false, false, false, false, false, false, false, false] rfl rfl (by kernel_rfl) (fun _ _ _ h => h) (Or.inl ⟨by rfl, ?_⟩) ?_ ?_
                    rotate_left
                    · intro w'
                      go_simp
                      with_reducible rfl
                    rotate_left
                    · simp only [Act.put, List.setIfInBounds_toArray, List.set_cons_zero, List.set_cons_succ, i64_w, i32_w, u8_w]
                      rfl
                    refine pure_ (i := 5) (N := some 67) (v := ?_) (a' := ?_) #[true, true, true, true, false, true, false, false, false, false, false, false, false, false, false, false, false, false, false, false, false, false, false] rfl rfl (by kernel_rfl) (fun _ _ _ h => h) (Or.inl ⟨by rfl, ?_⟩) ?_ ?_
                    rotate_left
                    · intro w'
                      go_simp
                      with_reducible rfl
                    rotate_left
                    · simp only [Act.put, List.setIfInBounds_toArray, List.set_cons_zero, List.set_cons_succ, i64_w, i32_w, u8_w]
                      rfl
                    refine pure_ (i := 6) (N := some 68) (v := ?_) (a' := ?_) #[true, true, true, true, false, true, true, false, false, false, false, false, false, false, false, false, false, false, false, false, false, false, false] rfl rfl (by kernel_rfl) (fun _ _ _ h => h) (Or.inl ⟨by rfl, ?_⟩) ?_ ?_
                    rotate_left
                    · intro w'
                      go_simp
                      with_reducible rfl
                    rotate_left
                    · simp only [Act.put, List.setIfInBounds_toArray, List.set_cons_zero, List.set_cons_succ, i64_w, i32_w, u8_w]
                      rfl
                    refine pure_ (i := 7) (N := some 69) (v := ?_) (a' := ?_) #[true, true, true, true, false, true, true, true, false, false, false, false, false, false, false, false, false, false, false, false, false, false, false] rfl rfl (by kernel_rfl) (fun _ _ _ h => h) (Or.inl ⟨by rfl, ?_⟩) ?_ ?_
                    rotate_left
                    · intro w'
                      go_simp
                      with_reducible rfl
                    rotate_left
                    · simp only [Act.put, List.setIfInBounds_toArray, List.set_cons_zero, List.set_cons_succ, i64_w, i32_w, u8_w]
                      rfl
                    refine pure_ (i := 9) (N := some 71) (v := ?_) (a' := ?_) #[true, true, true, true, false, true, true, true, false, true, false, false, false, false, false, false, false, false, false, false, false, false, false] rfl rfl (by kernel_rfl) (fun _ _ _ h => h) (Or.inl ⟨by rfl, ?_⟩) ?_ ?_
                    rotate_left
                    · intro w'
                      go_simp
                      with_reducible rfl
                    rotate_left
                    · simp only [Act.put, List.setIfInBounds_toArray, List.set_cons_zero, List.set_cons_succ, i64_w, i32_w, u8_w]
                      rfl
                    refine pure_ (i := 10) (N := some 72) (v := ?_) (a' := ?_) #[true, true, true, true, false, true, true, true, false, true, true, false, false, false, false, false, false, false, false, false, false, false, false] rfl rfl (by kernel_rfl) (fun _ _ _ h => h) (Or.inl ⟨by rfl, ?_⟩) ?_ ?_
                    rotate_left
                    · intro w'
                      go_simp
                      with_reducible rfl
                    rotate_left
                    · simp only [Act.put, List.setIfInBounds_toArray, List.set_cons_zero, List.set_cons_succ, i64_w, i32_w, u8_w]
                      rfl
                    refine pure_ (i := 11) (N := some 73) (v := ?_) (a' := ?_) #[true, true, true, true, false, true, true, true, false, true, true, true, false, false, false, false, false, false, false, false, false, false, false] rfl rfl (by kernel_rfl) (fun _ _ _ h => h) (Or.inl ⟨by rfl, ?_⟩) ?_ ?_
                    rotate_left
                    · intro w'
                      go_simp
                      with_reducible rfl
                    rotate_left
                    · simp only [Act.put, List.setIfInBounds_toArray, List.set_cons_zero, List.set_cons_succ, i64_w, i32_w, u8_w]
                      rfl
                    refine pure_ (i := 14) (N := some 76) (v := ?_) (a' := ?_) #[true, true, true, true, false, true, true, true, false, true, true, true, false, false, true, false, false, false, false, false, false, false, false] rfl rfl (by kernel_rfl) (fun _ _ _ h => h) (Or.inl ⟨by rfl, ?_⟩) ?_ ?_
                    rotate_left
                    · intro w'
                      go_simp
                      with_reducible rfl
                    rotate_left
                    · simp only [Act.put, List.setIfInBounds_toArray, List.set_cons_zero, List.set_cons_succ, i64_w, i32_w, u8_w]
                      rfl
                    refine take_ (i := 4) (N := some 66) (v := ?_) (a' := ?_) #[true, true, true, true, true, true, true, true, false, true, true, true, false, false, true, false, false, false, false, false, false, false, false] rfl rfl (by kernel_rfl) (fun _ _ _ h => h) (Or.inl ⟨by rfl, ?_⟩) hHeld ?_ ?_
                    rotate_left
                    · rintro w' ⟨s0, s1⟩
                      go_simp
                      with_reducible rfl
                    rotate_left
                    · simp only [Act.put, List.setIfInBounds_toArray, List.set_cons_zero, List.set_cons_succ, i64_w, i32_w, u8_w]
                      rfl
                    refine take_ (i := 8) (N := some 70) (v := ?_) (a' := ?_) #[true, true, true, true, true, true, true, true, true, true, true, true, false, false, true, false, false, false, false, false, false, false, false] rfl rfl (by kernel_rfl) (fun _ _ _ h => h) (Or.inl ⟨by rfl, ?_⟩) hHeld ?_ ?_
                    rotate_left
                    · rintro w' ⟨s0, s1⟩
                      go_simp
                      with_reducible rfl
                    rotate_left
                    · simp only [Act.put, List.setIfInBounds_toArray, List.set_cons_zero, List.set_cons_succ, i64_w, i32_w, u8_w]
                      rfl
                    refine take_ (i := 12) (N := some 74) (v := ?_) (a' := ?_) #[true, true, true, true, true, true, true, true, true, true, true, true, true, false, true, false, false, false, false, false, false, false, false] rfl rfl (by kernel_rfl) (fun _ _ _ h => h) (Or.inl ⟨by rfl, ?_⟩) hHeld ?_ ?_
                    rotate_left
                    · rintro w' ⟨s0, s1⟩
                      go_simp
                      with_reducible rfl
                    rotate_left
                    · simp only [Act.put, List.setIfInBounds_toArray, List.set_cons_zero, List.set_cons_succ, i64_w, i32_w, u8_w]
                      rfl
                    refine pure_ (i := 13) (N := some 75) (v := ?_) (a' := ?_) #[true, true, true, true, true, true, true, true, true, true, true, true, true, true, true, false, false, false, false, false, false, false, false] rfl rfl (by kernel_rfl) (fun _ _ _ h => h) (Or.inl ⟨by rfl, ?_⟩) ?_ ?_
                    rotate_left
                    · intro w'
                      go_simp
                      with_reducible rfl
                    rotate_left
                    · simp only [Act.put, List.setIfInBounds_toArray, List.set_cons_zero, List.set_cons_succ, i64_w, i32_w, u8_w]
                      rfl
                    refine pure_ (i := 15) (N := some 77) (v := ?_) (a' := ?_) #[true, true, true, true, true, true, true, true, true, true, true, true, true, true, true, true, false, false, false, false, false, false, false] rfl rfl (by kernel_rfl) (fun _ _ _ h => h) (Or.inl ⟨by rfl, ?_⟩) ?_ ?_
                    rotate_left
                    · intro w'
                      go_simp
                      with_reducible rfl
                    rotate_left
                    · simp only [Act.put, List.setIfInBounds_toArray, List.set_cons_zero, List.set_cons_succ, i64_w, i32_w, u8_w]
                      rfl
                    refine pure_ (i := 16) (N := some 78) (v := ?_) (a' := ?_) #[true, true, true, true, true, true, true, true, true, true, true, true, true, true, true, true, true, false, false, false, false, false, false] rfl rfl (by kernel_rfl) (fun _ _ _ h => h) (Or.inl ⟨by rfl, ?_⟩) ?_ ?_
                    rotate_left
                    · intro w'
                      go_simp
                      with_reducible rfl
                    rotate_left
                    · simp only [Act.put, List.setIfInBounds_toArray, List.set_cons_zero, List.set_cons_succ, i64_w, i32_w, u8_w]
                      rfl
                    refine take_ (i := 17) (N := some 79) (v := ?_) (a' := ?_) #[true, true, true, true, true, true, true, true, true, true, true, true, true, true, true, true, true, true, false, false, false, false, false] rfl rfl (by kernel_rfl) (fun _ _ _ h => h) (Or.inl ⟨by rfl, ?_⟩) hHeld ?_ ?_
                    rotate_left
                    · rintro w' ⟨s0, s1⟩
                      go_simp
                      with_reducible rfl
                    rotate_left
                    · simp only [Act.put, List.setIfInBounds_toArray, List.set_cons_zero, List.set_cons_succ, i64_w, i32_w, u8_w]
                      rfl
                    refine one_ (i := 18) (N := some 80) #[true, true, true, true, true, true, true, true, true, true, true, true, true, true, true, true, true, true, true, false, false, false, false] rfl rfl (by kernel_rfl) (by decide) (fun K hK => ?_)
                    refine Kd.R_lit_step (Kd.int .u8) _ 5 ?hg (N := 80) ?hd (xs := ([b] : List Int)) (inner := [.int .u8 b]) (ok := fun _ => True) (okp := fun _ => True) ?hr ?hp (fun _ hk => hk) trivial (Below.refl _ _) (Nat.le_refl _) (by simp) ?_; (case hd => rfl); (case hg => rfl); (case hr => first | (go_simp; done) | (go_simp; rfl)); (case hp => exact (Reps.snoc (Reps.none _ _) rfl rfl))
                    intro v2 w2 ho1 hb hg_ hnew_
                    obtain ⟨A2, c2, eo1⟩ := Kd.R_slice ho1
                    subst eo1
                    have n0 := Aside0.mk ((Kd.R_reads' ho1).2.2)
                    have n1 := Aside0.mk (AT.out.on hb)
                    have n2 := Aside0.mk (MV.out.trans (Moved.of_below g _ hb))
                    have n3 := Aside0.mk (blk_below BG.out hb)
                    have n4 := Aside0.mk (pw_cell_below hb HC.out)
                    clear AT MV BG HC
                    have HL1 := n0
                    have AT := n1
                    have MV := n2
                    have BG := n3
                    have HC := n4
                    clear n0 n1 n2 n3 n4
                    clear hb hg_ hnew_ ho1
                    refine hK.out _ _ ⟨(blk_cell BG.out 3).trans rfl, HC.out⟩ (fun hHeld => ?_)
                    clear hK K
                    refine norm_ (a' := ?_) ?_ ?_
                    rotate_left
                    · show Act.put _ (some 80) _ = _
                      simp only [Act.put, List.setIfInBounds_toArray, List.set_cons_zero, List.set_cons_succ, i64_w, i32_w, u8_w]
                      rfl
                    refine last_ (i := 19) (N := some 81) #[true, true, true, true, true, true, true, true, true, true, true, true, true, true, true, true, true, true, true, true, false, false, false] rfl rfl (by kernel_rfl) (by decide) (fun K hK => ?_)
                    refine Kd.R_append_rows_step (Kd.int .u8) (w0 := w0) w0.heap.size (by rfl) (.tmp 66) (.tmp 80) 22 5 (.int .u8 0) 1 rfl Tryd.underlying22 Hu.info5 rfl (by decide) (by omega) (.slice (some ad) ys.length c1) ys [b] _ _ _ (fun _ => True) (fun _ => False) rfl rfl AT.out.row HL1.out (fun _ _ h => h) (fun _ h => h.elim) (fun _ _ => trivial) AT.out.below AT.out.below.size ?aL ?_
                    (case aL => have h1_ := HLEN.out; simp only [List.length_cons, List.length_nil]; omega)
                    intro v3 w6 ho hb hg hat
                    obtain ⟨zs, hzs⟩ : ∃ zs, zs = ys ++ [b] := ⟨_, rfl⟩
                    rw [← hzs] at ho
                    have HZS := Aside0.mk hzs
                    clear hzs
                    obtain ⟨A3, c3, ev⟩ := Kd.R_slice ho
                    subst ev
                    have hap := AT.out.appended ho hb hg hat
                    have hbg := blk_grown BG.out hg (Kd.R_ne AT.out.row AT.out.blk (by decide))
                    have n0 := Aside0.mk (hbg)
                    have n1 := Aside0.mk (hap)
                    clear BG HC HL1
                    have BG := n0
                    have AP := n1
                    clear n0 n1
                    clear hbg hap ho hb hg hat
                    refine hK.out _ _ ?_
                    clear hK K
                    refine norm_ (a' := ?_) ?_ ?_
                    rotate_left
                    · show Act.put _ (some 81) _ = _
                      simp only [Act.put, List.setIfInBounds_toArray, List.set_cons_zero, List.set_cons_succ, i64_w, i32_w, u8_w]
                      rfl
                    refine pure_ (i := 20) (N := some 82) (v := ?_) (a' := ?_) #[true, true, true, true, true, true, true, true, true, true, true, true, true, true, true, true, true, true, true, true, true, false, false] rfl rfl (by kernel_rfl) (fun _ _ _ h => h) (Or.inl ⟨by rfl, ?_⟩) ?_ ?_
                    rotate_left
                    · intro w'
                      go_simp
                      with_reducible rfl
                    rotate_left
                    · simp only [Act.put, List.setIfInBounds_toArray, List.set_cons_zero, List.set_cons_succ, i64_w, i32_w, u8_w]
                      rfl
                    refine pure_ (i := 21) (N := some 83) (v := ?_) (a' := ?_) #[true, true, true, true, true, true, true, true, true, true, true, true, true, true, true, true, true, true, true, true, true, true, false] rfl rfl (by kernel_rfl) (fun _ _ _ h => h) (Or.inl ⟨by rfl, ?_⟩) ?_ ?_
                    rotate_left
                    · intro w'
                      go_simp
                      with_reducible rfl
                    rotate_left
                    · simp only [Act.put, List.setIfInBounds_toArray, List.set_cons_zero, List.set_cons_succ, i64_w, i32_w, u8_w]
                      rfl
                    refine last_ (i := 22) (N := none) #[true, true, true, true, true, true, true, true, true, true, true, true, true, true, true, true, true, true, true, true, true, true, true] rfl rfl (by kernel_rfl) (by decide) (fun K hK => ?_)
                    have hz := ((blk_cell BG.out 3).trans rfl : w6.cell? ⟨g, 3, none⟩ = some (.slice (some ad) ys.length c1))
                    have hf := blk_frozen BG.out 3
                    refine skip_ (w1 := ?_) (by rfl) rfl ?_ ?_
                    rotate_left
                    · go_simp
                      rfl
                    refine hK.out _ _ ?_
                    clear hK K
                    refine done_ (by kernel_rfl) ?_
                    clear hz hf hHeld BG
                    generalize w6.setCell ⟨g, 3, none⟩ (.slice A3 zs.length c3) = w7 at AP ⊢
                    go_wp2
                    go_roundw
                    case rel => exact ⟨i + 1, _, by have := HI.out; omega, val_next _ (by have := HI.out; omega), ⟨by rw [HST.out, ← HZS.out]; exact AP.out.1⟩, ⟨MV.out.trans AP.out.2⟩⟩
                    case measure => rw [nat_next _ (by have := HI.out; omega)]; simp only [intOf, Int.toNat_natCast]; have := HI.out; omega
                  · obtain rfl : i = n := by omega
                    have q0 := eq_false (show ¬ (i : Int) < (i : Int) by omega)
                    have HYS := Aside0.mk hys
                    clear hys hlen hi hlt
                    go_wp2
                    go_end0
                    exact ⟨rfl, HP3.out, _, by rw [← HYS.out]; exact AT.out, MV.out⟩
end
end Go.Proofs.YtgflkkjhckcipaaDoor.Pr

-- YtgflkkjhckcipaaDoorIf13
namespace Go.Proofs.YtgflkkjhckcipaaDoor.Pr
open Go.RowKit Go.Shelf Go.Proofs.YtgflkkjhckcipaaDoorW.PrintWords Go.Proofs.YtgflkkjhckcipaaDoorW.PrintLast Go.Proofs.YtgflkkjhckcipaaDoorW.PrintMore
set_option linter.unusedVariables false
set_option linter.unusedSimpArgs false
theorem copiedM_ok {l : List Int} {most : Int} {dist : Option (List Int)} {s : Int} {p : Nat} {out : List Int} {p2 : Nat} {out2 : List Int} (hdz : ∀ z, dist = some z → OKL z) (h : copiedM l most dist s p out = .ok (p2, out2)) : p ≤ p2 ∧ p2 ≤ 8 * l.length ∧ (out2.length : Int) ≤ most := by
  unfold copiedM at h
  split at h
  · cases h
  · split at h
    · cases h
    · next k base _ x p1 h1 =>
      obtain ⟨_, e1, b1⟩ := bitsM_ok h1
      split at h
      · cases h
      · next d p1' h2 =>
        have hs : p1 < p1' := by
          cases hd : dist with
          | none => rw [hd] at h2; cases h2
          | some z =>
            rw [hd] at h2
            have := symM_ok (hdz z hd) (by omega) h2
            omega
        split at h
        · cases h
        · split at h
          · cases h
          · next y p3 h3 =>
            obtain ⟨_, e3, b3⟩ := bitsM_ok h3
            split at h
            · cases h
            · split at h
              · cases h
              · next hr =>
                injection h with h
                injection h with h4 h5
                subst h4 h5
                rw [copyL_len]
                omega
section
attribute [local go_sem] Oper.semAt_some
set_option maxHeartbeats 16000000 in
set_option maxRecDepth 1000000 in
theorem symbols_told {w0 : World} {A : Option Addr} {c : Nat} {l : List Int} (hr : RowOk w0 A c l) (w : World) (g p : Nat) (v : Value) (out : List Int) (most : Int) (pl : Value) (lit : List Int) (pd : Value) (dist : Option (List Int)) (H : RdrAt w0 w g A c l (NN l) (p : Int) v out most) (hp : p ≤ 8 * l.length) (hm0 : (out.length : Int) ≤ most) (hm1 : most ≤ 65536) (hL : CodeIn w pl (some lit)) (hD : CodeIn w pd dist) (hlz : OKL lit) (hdz : ∀ z, dist = some z → OKL z) (k : Nat) (hk : 8 * l.length - p < k) :
    Calls Tryd.prog 37 #[.pointer (some ⟨g, 0, none⟩), pl, pd] w fun e w' => ToldO w0 w g A c l v most e w' (symbolsM l most lit dist k p out) := by
  have HR := Aside0.mk hr
  have HX := Aside0.mk H
  have huR := Tryd.underlying51
  have huB := Tryd.underlying35
  have HM1 := Aside0.mk hm1
  have HDZ := Aside0.mk hdz
  have HLZ := Aside0.mk hlz
  have AT := Aside0.mk H
  have MV := Aside0.mk (Moved.of_below g v (Below.refl w.heap.size w))
  have HP := Aside0.mk hp
  have HL := Aside0.mk hL
  have HD := Aside0.mk hD
  have HM0 := Aside0.mk hm0
  obtain ⟨R, hR⟩ : ∃ R, symbolsM l most lit dist k p out = R := ⟨_, rfl⟩
  rw [hR]
  have HRR := Aside0.mk hR
  have HK := Aside0.mk hk
  clear H hr hp hm0 hm1 hL hD hlz hdz hk hR
  go_enter Tryd.func37, Tryd.ntmps37
  go_wp2
  go_loopg [] k (fun kq w' => ∃ (p' : Nat) (ys : List Int) (v1 : Value), Aside0 (RdrAt w0 w' g A c l (NN l) (p' : Int) v1 ys most) ∧ Aside0 (Moved w w' g v v1) ∧ Aside0 (CodeIn w' pl (some lit)) ∧ Aside0 (CodeIn w' pd dist) ∧ Aside0 (p' ≤ 8 * l.length) ∧ Aside0 ((ys.length : Int) ≤ most) ∧ Aside0 (symbolsM l most lit dist kq p' ys = R) ∧ Aside0 (8 * l.length - p' < kq))
  case atStart => exact ⟨p, out, v, AT, MV, HL, HD, HP, HM0, HRR, HK⟩
  case round =>
    clear AT MV HL HD HP HM0 HRR HK
    obtain ⟨p0, ys, v1, AT, MV, HL, HD, HP, HM0, HRR, HK⟩ := hrel
    obtain ⟨A1, c1, rfl⟩ := Kd.R_slice AT.out.row
    have hRR := HRR.out
    clear HRR
    cases gk with
    | zero => exact absurd HK.out (by omega)
    | succ k1 =>
      rw [symbolsM] at hRR
      cases h1 : symM l (some lit) p0 with
      | error er =>
        rw [h1] at hRR
        have H1 := Aside0.mk h1
        have HRR := Aside0.mk hRR.symm
        clear h1 hRR
        go_wp2_with (go_at_call 42; have hcc := rsym_any HR.out _ g p0 pl (some lit) (.slice A1 ys.length c1) ys most AT.out HP.out HL.out; rw [H1.out] at hcc; refine hcc.mono ?_; clear hcc; rintro e w' ⟨pp, rfl, hfa, hb⟩)
        exact ⟨rfl, by rw [HRR.out]; exact ⟨pp, rfl, hfa, (HX.out.between AT.out MV.out.size).trans hb⟩⟩
      | ok r1 =>
        obtain ⟨s, p1⟩ := r1
        have hsb := symM_ok HLZ.out HP.out h1
        rw [h1] at hRR
        dsimp only at hRR
        have H1 := Aside0.mk h1
        have HSB := Aside0.mk hsb
        have HKK := HK.out
        clear h1
        by_cases hs : s = 256
        · rw [if_pos hs] at hRR
          have HRR := Aside0.mk hRR.symm
          have q0 := eq_true hs
          have q0b : (s == 256) = true := by rw [hs]; rfl
          subst hs
          clear hRR hsb HKK
          go_wp2_with (go_at_call 42; have hcc := rsym_any HR.out _ g p0 pl (some lit) (.slice A1 ys.length c1) ys most AT.out HP.out HL.out; rw [H1.out] at hcc; refine hcc.mono ?_; clear hcc; rintro e w' ⟨rfl, hq_, hat_, hm_⟩; have AT_ := Aside0.mk hat_; have MV_ := Aside0.mk (MV.out.trans hm_); have HP_ := Aside0.mk hq_; have HL_ := Aside0.mk (HL.out.moved AT.out hm_); have HD_ := Aside0.mk (HD.out.moved AT.out hm_); clear AT MV HP HL HD hat_ hm_ hq_; have AT := AT_; have MV := MV_; have HP := HP_; have HL := HL_; have HD := HD_; clear AT_ MV_ HP_ HL_ HD_; clear H1)
          refine bodyPost_ret (results_none rfl _ _ _) rfl ?_
          rw [HRR.out]
          exact ⟨rfl, HP.out, _, AT.out, MV.out⟩
        · rw [if_neg hs] at hRR
          have q0 := eq_false hs
          have q0b : (s == 256) = false := beq_eq_false_iff_ne.mpr hs
          by_cases hg : s > 256
          · rw [if_pos hg] at hRR
            have q1 := eq_true (show (256 : Int) < s from hg)
            have q1b : decide ((256 : Int) < s) = true := decide_eq_true hg
            have HS := Aside0.mk (And.intro hsb.1 hsb.2.1)
            cases h2 : copiedM l most dist s p1 ys with
            | error er =>
              rw [h2] at hRR
              have HRR := Aside0.mk hRR.symm
              have H2 := Aside0.mk h2
              clear h2 hRR hsb HKK hs hg
              go_wp2_with (first
        | (go_at_call 42; have hcc := rsym_any HR.out _ g p0 pl (some lit) (.slice A1 ys.length c1) ys most AT.out HP.out HL.out; rw [H1.out] at hcc; refine hcc.mono ?_; clear hcc; rintro e w' ⟨rfl, hq_, hat_, hm_⟩; have AT_ := Aside0.mk hat_; have MV_ := Aside0.mk (MV.out.trans hm_); have HP_ := Aside0.mk hq_; have HL_ := Aside0.mk (HL.out.moved AT.out hm_); have HD_ := Aside0.mk (HD.out.moved AT.out hm_); clear AT MV HP HL HD hat_ hm_ hq_; have AT := AT_; have MV := MV_; have HP := HP_; have HL := HL_; have HD := HD_; clear AT_ MV_ HP_ HL_ HD_; clear H1)
        | (go_at_call 43; have hcc := copied_told HR.out _ g p1 (.slice A1 ys.length c1) ys most pd dist AT.out HP.out HM0.out HM1.out HD.out s HS.out.1 HS.out.2 HDZ.out; rw [H2.out] at hcc; refine hcc.mono ?_; clear hcc; rintro e w' ⟨pp, rfl, hfa, hb⟩)
        )
              exact ⟨rfl, by rw [HRR.out]; exact ⟨pp, rfl, hfa, (HX.out.between AT.out MV.out.size).trans hb⟩⟩
            | ok r2 =>
              obtain ⟨p2, zs⟩ := r2
              have hcb := copiedM_ok HDZ.out h2
              rw [h2] at hRR
              dsimp only at hRR
              have HRR := Aside0.mk hRR
              have HCB := Aside0.mk hcb
              have HKN := Aside0.mk (show 8 * l.length - p2 < k1 by omega)
              have H2 := Aside0.mk h2
              clear h2 hRR hsb HKK hs hg hcb
              go_wp2_with (first
        | (go_at_call 42; have hcc := rsym_any HR.out _ g p0 pl (some lit) (.slice A1 ys.length c1) ys most AT.out HP.out HL.out; rw [H1.out] at hcc; refine hcc.mono ?_; clear hcc; rintro e w' ⟨rfl, hq_, hat_, hm_⟩; have AT_ := Aside0.mk hat_; have MV_ := Aside0.mk (MV.out.trans hm_); have HP_ := Aside0.mk hq_; have HL_ := Aside0.mk (HL.out.moved AT.out hm_); have HD_ := Aside0.mk (HD.out.moved AT.out hm_); clear AT MV HP HL HD hat_ hm_ hq_; have AT := AT_; have MV := MV_; have HP := HP_; have HL := HL_; have HD := HD_; clear AT_ MV_ HP_ HL_ HD_; clear H1)
        | (go_at_call 43; have hcc := copied_told HR.out _ g p1 (.slice A1 ys.length c1) ys most pd dist AT.out HP.out HM0.out HM1.out HD.out s HS.out.1 HS.out.2 HDZ.out; rw [H2.out] at hcc; refine hcc.mono ?_; clear hcc; rintro e w' ⟨rfl, hq_, v2, hat_, hm_⟩; have AT_ := Aside0.mk hat_; have MV_ := Aside0.mk (MV.out.trans hm_); have HP_ := Aside0.mk hq_; have HL_ := Aside0.mk (HL.out.moved AT.out hm_); have HD_ := Aside0.mk (HD.out.moved AT.out hm_); clear AT MV HP HL HD hat_ hm_ hq_; have AT := AT_; have MV := MV_; have HP := HP_; have HL := HL_; have HD := HD_; clear AT_ MV_ HP_ HL_ HD_; clear H2)
        )
              go_roundg k1
              case measure => omega
              case rel => exact ⟨p2, zs, _, AT, MV, HL, HD, HP, ⟨HCB.out.2.2⟩, HRR, HKN⟩
          · rw [if_neg hg] at hRR
            have q1 := eq_false (show ¬ (256 : Int) < s from hg)
            have q1b : decide ((256 : Int) < s) = false := decide_eq_false hg
            by_cases hrm : 1 > most - (ys.length : Int)
            · rw [if_pos hrm] at hRR
              have HRR := Aside0.mk hRR.symm
              have HRm := Aside0.mk hrm
              clear hRR hsb HKK hs hg hrm
              go_wp2_with (first
        | (go_at_call 42; have hcc := rsym_any HR.out _ g p0 pl (some lit) (.slice A1 ys.length c1) ys most AT.out HP.out HL.out; rw [H1.out] at hcc; refine hcc.mono ?_; clear hcc; rintro e w' ⟨rfl, hq_, hat_, hm_⟩; have AT_ := Aside0.mk hat_; have MV_ := Aside0.mk (MV.out.trans hm_); have HP_ := Aside0.mk hq_; have HL_ := Aside0.mk (HL.out.moved AT.out hm_); have HD_ := Aside0.mk (HD.out.moved AT.out hm_); clear AT MV HP HL HD hat_ hm_ hq_; have AT := AT_; have MV := MV_; have HP := HP_; have HL := HL_; have HD := HD_; clear AT_ MV_ HP_ HL_ HD_; clear H1)
        | (go_at_call 36; refine (room_full HR.out _ g _ (.slice A1 ys.length c1) ys most 1 AT.out HM0.out HM1.out HRm.out).mono ?_; rintro e w' ⟨pp, rfl, hfa, hb⟩)
        )
              exact ⟨rfl, by rw [HRR.out]; exact ⟨pp, rfl, hfa, (HX.out.between AT.out MV.out.size).trans hb⟩⟩
            · rw [if_neg hrm] at hRR
              have HRR := Aside0.mk hRR
              have HRm := Aside0.mk (show ¬ (1 : Int) > most - (ys.length : Int) from hrm)
              have hu8 : IntKind.u8.wrap s = s := by rw [IntKind.wrap_u8]; omega
              have hu8b : s % 256 = s := by omega
              have HKN := Aside0.mk (show 8 * l.length - p1 < k1 by omega)
              have HM2 := Aside0.mk (show ((ys ++ [s]).length : Int) ≤ most by rw [List.length_append, List.length_singleton]; omega)
              have HYL := Aside0.mk (show ys.length ≤ 70000 by have := HM0.out; have := HM1.out; omega)
              clear hRR hsb HKK hs hg hrm
              go_wp2_with (first
        | (go_at_call 42; have hcc := rsym_any HR.out _ g p0 pl (some lit) (.slice A1 ys.length c1) ys most AT.out HP.out HL.out; rw [H1.out] at hcc; refine hcc.mono ?_; clear hcc; rintro e w' ⟨rfl, hq_, hat_, hm_⟩; have AT_ := Aside0.mk hat_; have MV_ := Aside0.mk (MV.out.trans hm_); have HP_ := Aside0.mk hq_; have HL_ := Aside0.mk (HL.out.moved AT.out hm_); have HD_ := Aside0.mk (HD.out.moved AT.out hm_); clear AT MV HP HL HD hat_ hm_ hq_; have AT := AT_; have MV := MV_; have HP := HP_; have HL := HL_; have HD := HD_; clear AT_ MV_ HP_ HL_ HD_; clear H1)
        | (go_at_call 36; refine (room_ok HR.out _ g _ (.slice A1 ys.length c1) ys most 1 AT.out HM0.out HM1.out (by have := HRm.out; omega)).mono ?_; rintro e w' ⟨rfl, hb⟩; have AT_ := Aside0.mk (AT.out.on hb); have MV_ := Aside0.mk (MV.out.trans (Moved.of_below g _ hb)); have HL_ := Aside0.mk (HL.out.on hb); have HD_ := Aside0.mk (HD.out.on hb); clear AT MV HL HD hb; have AT := AT_; have MV := MV_; have HL := HL_; have HD := HD_; clear AT_ MV_ HL_ HD_; clear HRm; have hc3 : w'.cell? ⟨g, 3, none⟩ = some (.slice A1 ys.length c1) := (blk_cell AT.out.blk 3).trans rfl; have hf3 := blk_frozen AT.out.blk 3)
        | ((with_reducible refine gate_builtin (b := .append) (xs := #[.tmp 16, .tmp 19]) rfl ?_); at_builtin; refine Kd.R_append (Kd.int .u8) (w0 := w0) w0.heap.size rfl (.tmp 16) (.tmp 19) 22 5 (.int .u8 0) 1 rfl Tryd.underlying22 Hu.info5 rfl (by decide) (by omega) (.slice A1 ys.length c1) ys s [.int .u8 s] (fun _ => True) (fun _ => False) rfl rfl ?aP (fun _ hk => hk.elim) ?aF ?aO ?aB ?aS ?aL ?_; (case aP => exact rfl); (case aF => exact (fun _ _ => trivial)); (case aO => exact AT.out.row); (case aB => exact AT.out.below); (case aS => exact AT.out.below.size); (case aL => have := HYL.out; omega); intro v3 w6 ho hb hg hat; obtain ⟨zs, hzs⟩ : ∃ zs, zs = ys ++ [s] := ⟨_, rfl⟩; rw [← hzs] at ho; have HZS := Aside0.mk hzs; clear hzs; obtain ⟨A3, c3, ev⟩ := Kd.R_slice ho; subst ev; have hap0 := AT.out.appended ho hb hg hat; have AP := Aside0.mk hap0; have hc3b : w6.cell? ⟨g, 3, none⟩ = some (.slice A1 ys.length c1) := (blk_cell (blk_grown AT.out.blk hg (Kd.R_ne AT.out.row AT.out.blk (by decide))) 3).trans rfl; have hf3b := blk_frozen (blk_grown AT.out.blk hg (Kd.R_ne AT.out.row AT.out.blk (by decide))) 3; clear hap0 ho hb hg hat hc3 hf3)
        )
              go_roundg k1
              case measure => omega
              case rel => exact ⟨p1, zs, _, ⟨AP.out.1⟩, ⟨MV.out.trans AP.out.2⟩, ⟨HL.out.moved AT.out AP.out.2⟩, ⟨HD.out.moved AT.out AP.out.2⟩, HP, ⟨by rw [HZS.out]; exact HM2.out⟩, ⟨by rw [HZS.out]; exact HRR.out⟩, HKN⟩
end
end Go.Proofs.YtgflkkjhckcipaaDoor.Pr

-- YtgflkkjhckcipaaDoorIf14
namespace Go.Proofs.YtgflkkjhckcipaaDoor.Pr
open Go.RowKit Go.Shelf Go.Proofs.YtgflkkjhckcipaaDoorW.PrintWords Go.Proofs.YtgflkkjhckcipaaDoorW.PrintLast Go.Proofs.YtgflkkjhckcipaaDoorW.PrintMore
set_option linter.unusedVariables false
set_option linter.unusedSimpArgs false
def fixL (i : Nat) : Int := if 144 ≤ i ∧ i < 256 then 9 else if 256 ≤ i ∧ i < 280 then 7 else 8
def fixUp (i : Nat) : List Int := (List.range 288).map fun j => if j < i then fixL j else 0
def fixLit : List Int := (List.range 288).map fixL
def fixDistUp (i : Nat) : List Int := List.replicate i 5 ++ List.replicate (32 - i) 0
def fixDist : List Int := List.replicate 32 5
theorem fixUp_len (i : Nat) : (fixUp i).length = 288 := by unfold fixUp; rw [List.length_map, List.length_range]
theorem fixUp_zero : fixUp 0 = List.replicate 288 0 := by decide +kernel
theorem fixUp_all : fixUp 288 = fixLit := by decide +kernel
theorem fixUp_set {i : Nat} (h : i < 288) : (fixUp i).set i (fixL i) = fixUp (i + 1) := by
  apply List.ext_getElem?
  intro j
  rw [List.getElem?_set, fixUp_len]
  unfold fixUp
  rw [List.getElem?_map, List.getElem?_map]
  by_cases hj : j < 288
  · rw [List.getElem?_range hj]
    simp only [Option.map_some]
    by_cases e : i = j
    · subst e
      rw [if_pos rfl, if_pos hj, if_pos (by omega)]
    · rw [if_neg e]
      by_cases e2 : j < i
      · rw [if_pos e2, if_pos (by omega)]
      · rw [if_neg e2, if_neg (by omega)]
  · rw [if_neg (by omega), List.getElem?_eq_none (by rw [List.length_range]; omega)]
    rfl
theorem fixDist_all : fixDistUp 32 = fixDist := rfl
theorem fixDist_all_ : ∀ i : Fin 32, (fixDistUp i.val).set i.val 5 = fixDistUp (i.val + 1) := by decide
theorem fixDist_set {i : Nat} (h : i < 32) : (fixDistUp i).set i 5 = fixDistUp (i + 1) := fixDist_all_ ⟨i, h⟩
theorem fixLit_new : Hu.newS fixLit = 0 := by decide +kernel
theorem fixDist_new : Hu.newS fixDist = 0 := by decide +kernel
theorem okl_new {z : List Int} (h : Hu.newS z = 0) : OKL z := (tbl_of_new h).1
def fixedM (l : List Int) (most : Int) (k p : Nat) (out : List Int) : Except Int (Nat × List Int) := symbolsM l most fixLit (some fixDist) k p out
theorem R_apart {W : World} {base e gl gd n c : Nat} {xs : List Int} (h : Kd.R (Kd.int .i64) e W base (fun _ => True) (.slice (some ⟨gd, 0, none⟩) n c) xs) (hne : gl ≠ gd) (i : Nat) (u : Value) : Kd.R (Kd.int .i64) e (W.setCell ⟨gl, i, none⟩ u) base (fun _ => True) (.slice (some ⟨gd, 0, none⟩) n c) xs :=
  Kd.R_of_own (own_setCell (Kd.own_of_R h) (fun e => hne (by injection e)) u) (fun _ _ => trivial)
theorem fixLit_len : fixLit.length = 288 := by decide +kernel
theorem fixDist_len_ : fixDist.length = 32 := by decide +kernel
theorem table_ok (A : Option Addr) (c n : Nat) (z : List Int) (w : World) (hn : z.length = n) (hr : (Kd.int .i64).C w A z.length z) (hz : Hu.newS z = 0) :
    Calls Tryd.prog 38 #[.slice A n c] w fun e w' => ∃ gt, e = .returned (.pointer (some ⟨gt, 0, none⟩)) ∧ CodeIn w' (.pointer (some ⟨gt, 0, none⟩)) (some z) ∧ Below w.heap.size w w' := by
  subst hn
  refine (table_calls A c z w hr).mono ?_
  rintro e w' (⟨_, gt, he, hT, hb⟩ | ⟨h0, _⟩)
  · exact ⟨gt, he, ⟨okl_new hz, rfl, hT⟩, hb⟩
  · exact absurd hz h0
theorem ToldO.from {w0 w w1 w' : World} {g c : Nat} {A : Option Addr} {l : List Int} {N at_ : Int} {v v1 : Value} {out : List Int} {most : Int} {e : Ending} {R : Except Int (Nat × List Int)} (H : RdrAt w0 w g A c l N at_ v out most) {N1 at1 : Int} {out1 : List Int} (H1 : RdrAt w0 w1 g A c l N1 at1 v1 out1 most) (hm : Moved w w1 g v v1) (h : ToldO w0 w1 g A c l v1 most e w' R) : ToldO w0 w g A c l v most e w' R := by
  cases R with
  | ok r =>
    obtain ⟨h1, h2, v', h3, h4⟩ := h
    exact ⟨h1, h2, v', h3, hm.trans h4⟩
  | error er => exact Gives.from h (H.between H1 hm.size) (Nat.le_refl _)
section
attribute [local go_sem] Oper.semAt_some
set_option maxHeartbeats 16000000 in
set_option maxRecDepth 1000000 in
theorem fixed_told {w0 : World} {A : Option Addr} {c : Nat} {l : List Int} (hr : RowOk w0 A c l) (w : World) (g p : Nat) (v : Value) (out : List Int) (most : Int) (H : RdrAt w0 w g A c l (NN l) (p : Int) v out most) (hp : p ≤ 8 * l.length) (hm0 : (out.length : Int) ≤ most) (hm1 : most ≤ 65536) (k : Nat) (hk : 8 * l.length - p < k) :
    Calls Tryd.prog 28 #[.pointer (some ⟨g, 0, none⟩)] w fun e w' => ToldO w0 w g A c l v most e w' (fixedM l most k p out) := by
  have HR := Aside0.mk hr
  have HX := Aside0.mk H
  have HP := Aside0.mk hp
  have HM0 := Aside0.mk hm0
  have HM1 := Aside0.mk hm1
  have HK := Aside0.mk hk
  have HB := Aside0.mk (Below.refl w.heap.size w)
  clear hr H hp hm0 hm1 hk
  unfold fixedM
  obtain ⟨R, hR⟩ : ∃ R, symbolsM l most fixLit (some fixDist) k p out = R := ⟨_, rfl⟩
  rw [hR]
  have HRR := Aside0.mk hR
  clear hR
  go_enter Tryd.func28, Tryd.ntmps28
  go_upto_region 0 with (fail)
  have HB_ := Aside0.mk (below_drew1 HB.out)
  clear HB
  have HB := HB_
  clear HB_
  refine start_ (n := 4) (S := fun w' => True) (ds := []) #[false, false, false, false] (by kernel_rfl) rfl rfl trivial (fun hHeld => ?_)
  generalize w.drew = wd at HB hHeld ⊢
  refine join_ (σ := Nat × Nat × Nat × Nat) 1 #[true, true, true, false] (fun s => [(6, .slice (some ⟨s.1, 0, none⟩) 288 s.2.1), (7, .slice (some ⟨s.2.2.1, 0, none⟩) 32 s.2.2.2), (2, .slice (some ⟨s.1, 0, none⟩) 288 s.2.1)]) (fun s w' => (Kd.R (Kd.int .i64) 3 w' w.heap.size (fun _ => True) (.slice (some ⟨s.1, 0, none⟩) 288 s.2.1) (List.replicate 288 0) ∧ Kd.R (Kd.int .i64) 3 w' w.heap.size (fun _ => True) (.slice (some ⟨s.2.2.1, 0, none⟩) 32 s.2.2.2) (List.replicate 32 0) ∧ s.1 ≠ s.2.2.1 ∧ w.heap.size ≤ s.1 ∧ w.heap.size ≤ s.2.2.1 ∧ Below w.heap.size w w') ∧ True) ?_ ?_
  rotate_left
  · intro hCont
    refine two_ (i := 0) (j := 1) (Ni := some 6) (Nj := some 7) #[true, false, false, false] #[false, true, false, false] rfl rfl rfl rfl (by kernel_rfl) (by decide) (by decide) (fun K hK => ?_) (fun K hK => ?_)
    · skip
      refine Kd.R_make_step (Kd.int .i64) (w0 := w) w.heap.size 3 (by rfl) (N := 6) rfl 32 (.const (.int .i64 288)) (.const (.int .i64 288)) rfl 288 rfl rfl Tryd.underlying32 (.int .i64 0) 8 Hu.info3 rfl (by decide) (by omega) (0 : Int) (ok := fun _ => True) (okp := fun _ => False) rfl (fun _ h => h.elim) trivial (by decide) (by decide) HB.out HB.out.size ?_
      intro v0_ w4 ho hb hg hat
      replace ho : Kd.R (Kd.int .i64) 3 w4 w.heap.size (fun _ => True) v0_ (List.replicate 288 0) := ho
      obtain ⟨gl, cl, ev, hgb, hgl_, cells_, hcells_⟩ := Kd.R_form ho (by rw [List.length_replicate]; decide)
      rw [List.length_replicate] at ev
      subst ev
      have n0 := Aside0.mk (hb)
      have n1 := Aside0.mk (ho)
      clear HB
      have HB := n0
      have HL := n1
      clear n0 n1
      clear hb hg hat hgb hgl_ hcells_ ho
      refine hK.out _ _ trivial (fun hHeld => ?_)
      clear hK K
      refine norm_ (a' := ?_) ?_ ?_
      rotate_left
      · show Act.put _ (some 6) _ = _
        simp only [Act.put, List.setIfInBounds_toArray, List.set_cons_zero, List.set_cons_succ, i64_w, i32_w, u8_w]
        rfl
      refine pure_ (i := 2) (N := some 2) (v := ?_) (a' := ?_) #[true, false, true, false] rfl rfl (by kernel_rfl) (fun _ _ _ h => h) (Or.inl ⟨by rfl, ?_⟩) ?_ ?_
      rotate_left
      · intro w'
        go_simp
        with_reducible rfl
      rotate_left
      · simp only [Act.put, List.setIfInBounds_toArray, List.set_cons_zero, List.set_cons_succ, i64_w, i32_w, u8_w]
        rfl
      refine one_ (i := 1) (N := some 7) #[true, true, true, false] rfl rfl (by kernel_rfl) (by decide) (fun K hK => ?_)
      refine Kd.R_make_step (Kd.int .i64) (w0 := w) w.heap.size 3 (by rfl) (N := 7) rfl 32 (.const (.int .i64 32)) (.const (.int .i64 32)) rfl 32 rfl rfl Tryd.underlying32 (.int .i64 0) 8 Hu.info3 rfl (by decide) (by omega) (0 : Int) (ok := fun _ => True) (okp := fun _ => False) rfl (fun _ h => h.elim) trivial (by decide) (by decide) HB.out HB.out.size ?_
      intro v1_ w5 ho hb hg hat
      replace ho : Kd.R (Kd.int .i64) 3 w5 w.heap.size (fun _ => True) v1_ (List.replicate 32 0) := ho
      obtain ⟨gd, cd, ev, hgb, hgl_, cells_, hcells_⟩ := Kd.R_form ho (by rw [List.length_replicate]; decide)
      rw [List.length_replicate] at ev
      subst ev
      have hne : gd ≠ gl := (by have hlt := Kd.R_lt HL.out gl rfl; obtain ⟨b, hb1, hb2⟩ := hat; simp [Value.ownBlock] at hb1; omega)
      have HNE := Aside0.mk (show gl ≠ gd from fun e => hne e.symm)
      clear hne
      have n0 := Aside0.mk (hb)
      have n1 := Aside0.mk (ho)
      have n2 := Aside0.mk (Kd.R_grown HL.out hg (fun k _ => by simp))
      clear HB HL
      have HB := n0
      have HD := n1
      have HL := n2
      clear n0 n1 n2
      clear hb hg hat hgb hgl_ hcells_ ho
      refine hK.out _ _ trivial (fun hHeld => ?_)
      clear hK K
      refine norm_ (a' := ?_) ?_ ?_
      rotate_left
      · show Act.put _ (some 7) _ = _
        simp only [Act.put, List.setIfInBounds_toArray, List.set_cons_zero, List.set_cons_succ, i64_w, i32_w, u8_w]
        rfl
      exact norm_ (by simp only [putAll, Act.put, List.setIfInBounds_toArray, List.set_cons_zero, List.set_cons_succ]) (hCont (gl, cl, gd, cd) _ ⟨⟨HL.out, HD.out, HNE.out, Kd.R_base HL.out gl rfl, Kd.R_base HD.out gd rfl, HB.out⟩, trivial⟩)
    · skip
      refine Kd.R_make_step (Kd.int .i64) (w0 := w) w.heap.size 3 (by rfl) (N := 7) rfl 32 (.const (.int .i64 32)) (.const (.int .i64 32)) rfl 32 rfl rfl Tryd.underlying32 (.int .i64 0) 8 Hu.info3 rfl (by decide) (by omega) (0 : Int) (ok := fun _ => True) (okp := fun _ => False) rfl (fun _ h => h.elim) trivial (by decide) (by decide) HB.out HB.out.size ?_
      intro v1_ w4 ho hb hg hat
      replace ho : Kd.R (Kd.int .i64) 3 w4 w.heap.size (fun _ => True) v1_ (List.replicate 32 0) := ho
      obtain ⟨gd, cd, ev, hgb, hgl_, cells_, hcells_⟩ := Kd.R_form ho (by rw [List.length_replicate]; decide)
      rw [List.length_replicate] at ev
      subst ev
      have n0 := Aside0.mk (hb)
      have n1 := Aside0.mk (ho)
      clear HB
      have HB := n0
      have HD := n1
      clear n0 n1
      clear hb hg hat hgb hgl_ hcells_ ho
      refine hK.out _ _ trivial (fun hHeld => ?_)
      clear hK K
      refine norm_ (a' := ?_) ?_ ?_
      rotate_left
      · show Act.put _ (some 7) _ = _
        simp only [Act.put, List.setIfInBounds_toArray, List.set_cons_zero, List.set_cons_succ, i64_w, i32_w, u8_w]
        rfl
      refine one_ (i := 0) (N := some 6) #[true, true, false, false] rfl rfl (by kernel_rfl) (by decide) (fun K hK => ?_)
      refine Kd.R_make_step (Kd.int .i64) (w0 := w) w.heap.size 3 (by rfl) (N := 6) rfl 32 (.const (.int .i64 288)) (.const (.int .i64 288)) rfl 288 rfl rfl Tryd.underlying32 (.int .i64 0) 8 Hu.info3 rfl (by decide) (by omega) (0 : Int) (ok := fun _ => True) (okp := fun _ => False) rfl (fun _ h => h.elim) trivial (by decide) (by decide) HB.out HB.out.size ?_
      intro v0_ w5 ho hb hg hat
      replace ho : Kd.R (Kd.int .i64) 3 w5 w.heap.size (fun _ => True) v0_ (List.replicate 288 0) := ho
      obtain ⟨gl, cl, ev, hgb, hgl_, cells_, hcells_⟩ := Kd.R_form ho (by rw [List.length_replicate]; decide)
      rw [List.length_replicate] at ev
      subst ev
      have hne : gl ≠ gd := (by have hlt := Kd.R_lt HD.out gd rfl; obtain ⟨b, hb1, hb2⟩ := hat; simp [Value.ownBlock] at hb1; omega)
      have HNE := Aside0.mk (show gl ≠ gd from hne)
      clear hne
      have n0 := Aside0.mk (hb)
      have n1 := Aside0.mk (ho)
      have n2 := Aside0.mk (Kd.R_grown HD.out hg (fun k _ => by simp))
      clear HB HD
      have HB := n0
      have HL := n1
      have HD := n2
      clear n0 n1 n2
      clear hb hg hat hgb hgl_ hcells_ ho
      refine hK.out _ _ trivial (fun hHeld => ?_)
      clear hK K
      refine norm_ (a' := ?_) ?_ ?_
      rotate_left
      · show Act.put _ (some 6) _ = _
        simp only [Act.put, List.setIfInBounds_toArray, List.set_cons_zero, List.set_cons_succ, i64_w, i32_w, u8_w]
        rfl
      refine pure_ (i := 2) (N := some 2) (v := ?_) (a' := ?_) #[true, true, true, false] rfl rfl (by kernel_rfl) (fun _ _ _ h => h) (Or.inl ⟨by rfl, ?_⟩) ?_ ?_
      rotate_left
      · intro w'
        go_simp
        with_reducible rfl
      rotate_left
      · simp only [Act.put, List.setIfInBounds_toArray, List.set_cons_zero, List.set_cons_succ, i64_w, i32_w, u8_w]
        rfl
      exact norm_ (by simp only [putAll, Act.put, List.setIfInBounds_toArray, List.set_cons_zero, List.set_cons_succ]) (hCont (gl, cl, gd, cd) _ ⟨⟨HL.out, HD.out, HNE.out, Kd.R_base HL.out gl rfl, Kd.R_base HD.out gd rfl, HB.out⟩, trivial⟩)
  rintro ⟨gl, cl, gd, cd⟩ w9 ⟨⟨hL, hD, hne, hgel, hged, hB⟩, hHeld⟩
  have HGE := Aside0.mk hgel
  have HGD := Aside0.mk hged
  have HL := Aside0.mk hL
  have HD := Aside0.mk hD
  have HNE := Aside0.mk hne
  have HB := Aside0.mk hB
  clear hL hD hne hB hgel hged
  refine norm_ (a' := ?_) ?_ ?_
  rotate_left
  · simp only [putAll, Act.put, List.setIfInBounds_toArray, List.set_cons_zero, List.set_cons_succ]
    rfl
  refine pure_ (i := 3) (N := some 3) (v := ?_) (a' := ?_) #[true, true, true, true] rfl rfl (by kernel_rfl) (fun _ _ _ h => h) (Or.inl ⟨by rfl, ?_⟩) ?_ ?_
  rotate_left
  · intro w'
    go_simp
    with_reducible rfl
  rotate_left
  · simp only [Act.put, List.setIfInBounds_toArray, List.set_cons_zero, List.set_cons_succ, i64_w, i32_w, u8_w]
    rfl
  refine done_ (by kernel_rfl) ?_
  clear hHeld
  have HL_ := Aside0.mk (show Kd.R (Kd.int .i64) 3 w9 w.heap.size (fun _ => True) (.slice (some ⟨gl, 0, none⟩) 288 cl) (fixUp 0) from by rw [fixUp_zero]; exact HL.out)
  clear HL
  have HL := HL_
  clear HL_
  go_wp2
  go_loopw [10] (fun x10 w' => ∃ i : Nat, i ≤ 288 ∧ x10 = .int .i64 (i : Int) ∧ Aside0 (Kd.R (Kd.int .i64) 3 w' w.heap.size (fun _ => True) (.slice (some ⟨gl, 0, none⟩) 288 cl) (fixUp i)) ∧ Aside0 (Kd.R (Kd.int .i64) 3 w' w.heap.size (fun _ => True) (.slice (some ⟨gd, 0, none⟩) 32 cd) (List.replicate 32 0)) ∧ Aside0 (Below w.heap.size w w')) (fun x10 _ => 289 - (intOf x10).toNat)
  case atStart => exact ⟨0, by omega, rfl, HL, HD, HB⟩
  case round =>
    clear HL HD HB
    obtain ⟨i, hi, rfl, HL, HD, HB⟩ := hrel
    by_cases hlt : i < 288
    · by_cases h9 : 144 ≤ i ∧ i < 256
      · have q0 := eq_true (show (144 : Int) ≤ (i : Int) by omega)
        have q0n := eq_true (show 144 ≤ i by omega)
        have q1 := eq_true (show (i : Int) < 256 by omega)
        have q1n := eq_true (show i < 256 by omega)
        have hcv := (Hu.row_at HL.out i hlt).1
        have hfv := (Hu.row_at HL.out i hlt).2
        have HI := Aside0.mk hlt
        have HFX := Aside0.mk (show fixL i = 9 from by unfold fixL; rw [if_pos (by omega)])
        have q10 := eq_true (show (i : Int) < 288 by omega)
        have q11 := eq_true hlt
        have q12 := eq_true (show (0 : Int) ≤ (i : Int) by omega)
        clear hlt hi
        go_wp2
        go_roundw
        case rel => exact ⟨i + 1, by have := HI.out; omega, (by first | exact val_next _ (by have := HI.out; omega) | (congr 1)), ⟨by rw [← fixUp_set HI.out, HFX.out]; exact (Hu.row_put HL.out i 9).1⟩, ⟨R_apart HD.out HNE.out _ _⟩, ⟨HB.out.setCell (p := ⟨gl, i, none⟩) HGE.out _⟩⟩
        case measure => first | (rw [nat_next _ (by have := HI.out; omega)]; simp only [intOf, Int.toNat_natCast]; have := HI.out; omega) | (simp only [intOf]; have := HI.out; omega)
      · by_cases h7 : 256 ≤ i ∧ i < 280
        · have q0 := eq_true (show (144 : Int) ≤ (i : Int) by omega)
          have q0n := eq_true (show 144 ≤ i by omega)
          have q1 := eq_false (show ¬ (i : Int) < 256 by omega)
          have q1n := eq_false (show ¬ i < 256 by omega)
          have q2 := eq_true (show (256 : Int) ≤ (i : Int) by omega)
          have q2n := eq_true (show 256 ≤ i by omega)
          have q3 := eq_true (show (i : Int) < 280 by omega)
          have q3n := eq_true (show i < 280 by omega)
          have hcv := (Hu.row_at HL.out i hlt).1
          have hfv := (Hu.row_at HL.out i hlt).2
          have HI := Aside0.mk hlt
          have HFX := Aside0.mk (show fixL i = 7 from by unfold fixL; rw [if_neg (by omega), if_pos (by omega)])
          have q10 := eq_true (show (i : Int) < 288 by omega)
          have q11 := eq_true hlt
          have q12 := eq_true (show (0 : Int) ≤ (i : Int) by omega)
          clear hlt hi
          go_wp2
          go_roundw
          case rel => exact ⟨i + 1, by have := HI.out; omega, (by first | exact val_next _ (by have := HI.out; omega) | (congr 1)), ⟨by rw [← fixUp_set HI.out, HFX.out]; exact (Hu.row_put HL.out i 7).1⟩, ⟨R_apart HD.out HNE.out _ _⟩, ⟨HB.out.setCell (p := ⟨gl, i, none⟩) HGE.out _⟩⟩
          case measure => first | (rw [nat_next _ (by have := HI.out; omega)]; simp only [intOf, Int.toNat_natCast]; have := HI.out; omega) | (simp only [intOf]; have := HI.out; omega)
        · rcases (by omega : i < 144 ∨ 280 ≤ i) with h8 | h8
          · have q0 := eq_false (show ¬ (144 : Int) ≤ (i : Int) by omega)
            have q0n := eq_false (show ¬ 144 ≤ i by omega)
            have q2 := eq_false (show ¬ (256 : Int) ≤ (i : Int) by omega)
            have q2n := eq_false (show ¬ 256 ≤ i by omega)
            have hcv := (Hu.row_at HL.out i hlt).1
            have hfv := (Hu.row_at HL.out i hlt).2
            have HI := Aside0.mk hlt
            have HFX := Aside0.mk (show fixL i = 8 from by unfold fixL; rw [if_neg (by omega), if_neg (by omega)])
            have q10 := eq_true (show (i : Int) < 288 by omega)
            have q11 := eq_true hlt
            have q12 := eq_true (show (0 : Int) ≤ (i : Int) by omega)
            clear hlt hi
            go_wp2
            go_roundw
            case rel => exact ⟨i + 1, by have := HI.out; omega, (by first | exact val_next _ (by have := HI.out; omega) | (congr 1)), ⟨by rw [← fixUp_set HI.out, HFX.out]; exact (Hu.row_put HL.out i 8).1⟩, ⟨R_apart HD.out HNE.out _ _⟩, ⟨HB.out.setCell (p := ⟨gl, i, none⟩) HGE.out _⟩⟩
            case measure => first | (rw [nat_next _ (by have := HI.out; omega)]; simp only [intOf, Int.toNat_natCast]; have := HI.out; omega) | (simp only [intOf]; have := HI.out; omega)
          · have q0 := eq_true (show (144 : Int) ≤ (i : Int) by omega)
            have q0n := eq_true (show 144 ≤ i by omega)
            have q1 := eq_false (show ¬ (i : Int) < 256 by omega)
            have q1n := eq_false (show ¬ i < 256 by omega)
            have q2 := eq_true (show (256 : Int) ≤ (i : Int) by omega)
            have q2n := eq_true (show 256 ≤ i by omega)
            have q3 := eq_false (show ¬ (i : Int) < 280 by omega)
            have q3n := eq_false (show ¬ i < 280 by omega)
            have hcv := (Hu.row_at HL.out i hlt).1
            have hfv := (Hu.row_at HL.out i hlt).2
            have HI := Aside0.mk hlt
            have HFX := Aside0.mk (show fixL i = 8 from by unfold fixL; rw [if_neg (by omega), if_neg (by omega)])
            have q10 := eq_true (show (i : Int) < 288 by omega)
            have q11 := eq_true hlt
            have q12 := eq_true (show (0 : Int) ≤ (i : Int) by omega)
            clear hlt hi
            go_wp2
            go_roundw
            case rel => exact ⟨i + 1, by have := HI.out; omega, (by first | exact val_next _ (by have := HI.out; omega) | (congr 1)), ⟨by rw [← fixUp_set HI.out, HFX.out]; exact (Hu.row_put HL.out i 8).1⟩, ⟨R_apart HD.out HNE.out _ _⟩, ⟨HB.out.setCell (p := ⟨gl, i, none⟩) HGE.out _⟩⟩
            case measure => first | (rw [nat_next _ (by have := HI.out; omega)]; simp only [intOf, Int.toNat_natCast]; have := HI.out; omega) | (simp only [intOf]; have := HI.out; omega)
    · obtain rfl : i = 288 := by omega
      have HL_ := Aside0.mk (show Kd.R (Kd.int .i64) 3 wr w.heap.size (fun _ => True) (.slice (some ⟨gl, 0, none⟩) 288 cl) fixLit from by rw [← fixUp_all]; exact HL.out)
      clear HL hi hlt
      have HL := HL_
      clear HL_
      have HD_ := Aside0.mk (show Kd.R (Kd.int .i64) 3 wr w.heap.size (fun _ => True) (.slice (some ⟨gd, 0, none⟩) 32 cd) (fixDistUp 0) from HD.out)
      clear HD
      have HD := HD_
      clear HD_
      go_wp2
      go_loopw [39] (fun x39 w' => ∃ i : Nat, i ≤ 32 ∧ x39 = .int .i64 (i : Int) ∧ Aside0 (Kd.R (Kd.int .i64) 3 w' w.heap.size (fun _ => True) (.slice (some ⟨gl, 0, none⟩) 288 cl) fixLit) ∧ Aside0 (Kd.R (Kd.int .i64) 3 w' w.heap.size (fun _ => True) (.slice (some ⟨gd, 0, none⟩) 32 cd) (fixDistUp i)) ∧ Aside0 (Below w.heap.size w w')) (fun x39 _ => 33 - (intOf x39).toNat)
      case atStart => exact ⟨0, by omega, rfl, HL, HD, HB⟩
      case round =>
        clear HL HD HB
        obtain ⟨i, hi, rfl, HL, HD, HB⟩ := hrel
        by_cases hlt : i < 32
        · have hcv := (Hu.row_at HD.out i hlt).1
          have hfv := (Hu.row_at HD.out i hlt).2
          have HI := Aside0.mk hlt
          have q10 := eq_true (show (i : Int) < 32 by omega)
          have q11 := eq_true hlt
          have q12 := eq_true (show (0 : Int) ≤ (i : Int) by omega)
          clear hlt hi
          go_wp2
          go_roundw
          case rel => exact ⟨i + 1, by have := HI.out; omega, (by first | exact val_next _ (by have := HI.out; omega) | (congr 1)), ⟨R_apart HL.out HNE.out.symm _ _⟩, ⟨by rw [← fixDist_set HI.out]; exact (Hu.row_put HD.out i 5).1⟩, ⟨HB.out.setCell (p := ⟨gd, i, none⟩) HGD.out _⟩⟩
          case measure => first | (rw [nat_next _ (by have := HI.out; omega)]; simp only [intOf, Int.toNat_natCast]; have := HI.out; omega) | (simp only [intOf]; have := HI.out; omega)
        · obtain rfl : i = 32 := by omega
          have HD_ := Aside0.mk (show Kd.R (Kd.int .i64) 3 wr w.heap.size (fun _ => True) (.slice (some ⟨gd, 0, none⟩) 32 cd) fixDist from by rw [← fixDist_all]; exact HD.out)
          clear HD hi hlt
          have HD := HD_
          clear HD_
          cases R with
          | error er =>
            go_wp2_with (first
        | (go_at_call 38; refine (table_ok (some ⟨gl, 0, none⟩) cl 288 fixLit _ fixLit_len (Kd.R_reads' HL.out).2.2 fixLit_new).mono ?_; rintro e w' ⟨gt, rfl, hT, hb⟩; have n0 := Aside0.mk (hT); have n1 := Aside0.mk (Kd.R_below HD.out hb); have n2 := Aside0.mk (below_then HB.out HB.out.size hb); clear HD HB HL; have C1 := n0; have HD := n1; have HB := n2; clear n0 n1 n2; clear hT hb)
        | (go_at_call 38; refine (table_ok (some ⟨gd, 0, none⟩) cd 32 fixDist _ fixDist_len_ (Kd.R_reads' HD.out).2.2 fixDist_new).mono ?_; rintro e w' ⟨gt2, rfl, hT, hb⟩; have n0 := Aside0.mk (hT); have n1 := Aside0.mk (C1.out.on hb); have n2 := Aside0.mk (below_then HB.out HB.out.size hb); clear C1 HB HD; have C2 := n0; have C1 := n1; have HB := n2; clear n0 n1 n2; clear hT hb)
        | (go_at_call 37; have hcc := symbols_told HR.out _ g p v out most _ fixLit _ (some fixDist) (HX.out.on HB.out) HP.out HM0.out HM1.out C1.out C2.out (okl_new fixLit_new) (fun z hz => by injection hz with hz; subst hz; exact okl_new fixDist_new) k HK.out; rw [HRR.out] at hcc; refine hcc.mono ?_; clear hcc; rintro e w' ⟨pp, rfl, hfa, hb⟩)
        )
            exact ⟨rfl, pp, rfl, hfa, (HX.out.between (HX.out.on HB.out) HB.out.size).trans hb⟩
          | ok r =>
            obtain ⟨p2, ys⟩ := r
            go_wp2_with (first
        | (go_at_call 38; refine (table_ok (some ⟨gl, 0, none⟩) cl 288 fixLit _ fixLit_len (Kd.R_reads' HL.out).2.2 fixLit_new).mono ?_; rintro e w' ⟨gt, rfl, hT, hb⟩; have n0 := Aside0.mk (hT); have n1 := Aside0.mk (Kd.R_below HD.out hb); have n2 := Aside0.mk (below_then HB.out HB.out.size hb); clear HD HB HL; have C1 := n0; have HD := n1; have HB := n2; clear n0 n1 n2; clear hT hb)
        | (go_at_call 38; refine (table_ok (some ⟨gd, 0, none⟩) cd 32 fixDist _ fixDist_len_ (Kd.R_reads' HD.out).2.2 fixDist_new).mono ?_; rintro e w' ⟨gt2, rfl, hT, hb⟩; have n0 := Aside0.mk (hT); have n1 := Aside0.mk (C1.out.on hb); have n2 := Aside0.mk (below_then HB.out HB.out.size hb); clear C1 HB HD; have C2 := n0; have C1 := n1; have HB := n2; clear n0 n1 n2; clear hT hb)
        | (go_at_call 37; have hcc := symbols_told HR.out _ g p v out most _ fixLit _ (some fixDist) (HX.out.on HB.out) HP.out HM0.out HM1.out C1.out C2.out (okl_new fixLit_new) (fun z hz => by injection hz with hz; subst hz; exact okl_new fixDist_new) k HK.out; rw [HRR.out] at hcc; refine hcc.mono ?_; clear hcc; rintro e w' ⟨rfl, hq, v', hat, hm⟩)
        )
            go_end0
            exact ⟨rfl, hq, v', hat, (Moved.of_below g v HB.out).trans hm⟩
end
end Go.Proofs.YtgflkkjhckcipaaDoor.Pr

