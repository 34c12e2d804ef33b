-- Texts by hand and by programs of this session, joined (wip/tool/merge.py).
import Derived.Shelf.Abstract
import Derived.Shelf.RegionOpen
import Derived.OwnWalkIn
import Derived.TacticsInMore
import Derived.LoopNIn
import Derived.LoopIn
import Derived.Test.YtgflkkjhckcipaaDoorMIA16
-- YtgflkkjhckcipaaDoorIf23
namespace Go.Proofs.YtgflkkjhckcipaaDoor.Pr
open Go.RowKit Go.Shelf Go.Proofs.YtgflkkjhckcipaaDoorW.PrintWords Go.Proofs.YtgflkkjhckcipaaDoorW.PrintLast Go.Proofs.YtgflkkjhckcipaaDoorW.PrintMore
set_option linter.unusedVariables false
set_option linter.unusedSimpArgs false
def typedM (l : List Int) (most : Int) (k p : Nat) (out : List Int) (t : Int) : Except Int (Nat × List Int) := if t = 0 then storedM l most p out else if t = 1 then fixedM l most k p out else if t = 2 then dynamicM l most k p out else .error 13
def blockM (l : List Int) (most : Int) (k p : Nat) (out : List Int) : Except Int (Bool × Nat × List Int) :=
  match bitsM l p 1 with
  | .error e => .error e
  | .ok (b, p1) => match bitsM l p1 2 with
    | .error e => .error e
    | .ok (t, p2) => match typedM l most k p2 out t with
      | .error e => .error e
      | .ok (p3, ys) => .ok (b == 1, p3, ys)
def ToldB (w0 w : World) (g : Nat) (A : Option Addr) (c : Nat) (l : List Int) (v : Value) (most : Int) (e : Ending) (w' : World) : Except Int (Bool × Nat × List Int) → Prop
  | .ok (b, p', out') => e = .returned (.bool b) ∧ p' ≤ 8 * l.length ∧ ∃ v', RdrAt w0 w' g A c l (NN l) ((p' : Nat) : Int) v' out' most ∧ Moved w w' g v v'
  | .error er => Gives w0.heap.size w w' er e
section
attribute [local go_sem] Oper.semAt_some
set_option maxHeartbeats 16000000 in
set_option maxRecDepth 1000000 in
theorem block_told {w0 : World} {A : Option Addr} {c : Nat} {l : List Int} (hr : RowOk w0 A c l) (w : World) (g p : Nat) (v : Value) (out : List Int) (most : Int) (H : RdrAt w0 w g A c l (NN l) (p : Int) v out most) (hp : p ≤ 8 * l.length) (hm0 : (out.length : Int) ≤ most) (hm1 : most ≤ 65536) (k : Nat) (hk : 8 * l.length < k) :
    Calls Tryd.prog 15 #[.pointer (some ⟨g, 0, none⟩)] w fun e w' => ToldB w0 w g A c l v most e w' (blockM l most k p out) := by
  have HR := Aside0.mk hr
  have HX := Aside0.mk H
  have AT := Aside0.mk H
  have MV := Aside0.mk (Moved.of_below g v (Below.refl w.heap.size w))
  have HP := Aside0.mk hp
  have huR := Tryd.underlying51
  have huB := Tryd.underlying35
  have HM0 := Aside0.mk hm0
  have HM1 := Aside0.mk hm1
  have HK := Aside0.mk hk
  clear hr H hp hm0 hm1 hk
  obtain ⟨R, hR⟩ : ∃ R, blockM l most k p out = R := ⟨_, rfl⟩
  rw [hR]
  have hRR := hR
  clear hR
  unfold blockM at hRR
  have hmf : ∀ (fn : Fn) (first cap : Array Value) (w : World), (Instr.makeFunc fn first cap).run Tryd.prog w = .ok (.func fn first cap) w := fun _ _ _ _ => rfl
  cases h1 : bitsM l p 1 with
  | error er =>
    rw [h1] at hRR
    have HRR := Aside0.mk hRR.symm
    have H1 := Aside0.mk h1
    clear hRR h1
    go_enter Tryd.func15, Tryd.ntmps15
    go_wp2_with (go_at_call 26; have hcc := rbits_told' HR.out _ g _ 1 1 rfl v out most AT.out HP.out (by decide); rw [H1.out] at hcc; refine hcc.mono ?_; clear hcc; rintro e w' ⟨pp, rfl, hfa, hb⟩)
    exact ⟨rfl, by rw [HRR.out]; exact ⟨pp, rfl, hfa, (HX.out.between AT.out MV.out.size).trans hb⟩⟩
  | ok r1 =>
    obtain ⟨b, p1⟩ := r1
    rw [h1] at hRR
    dsimp only at hRR
    have H1 := Aside0.mk h1
    clear h1
    cases h2 : bitsM l p1 2 with
    | error er =>
      rw [h2] at hRR
      have HRR := Aside0.mk hRR.symm
      have H2 := Aside0.mk h2
      clear hRR h2
      go_enter Tryd.func15, Tryd.ntmps15
      go_wp2_with (first
        | (go_at_call 26; have hcc := rbits_told' HR.out _ g _ 1 1 rfl v out most AT.out HP.out (by decide); rw [H1.out] at hcc; refine hcc.mono ?_; clear hcc; rintro e w' ⟨rfl, hq_, hat_, hm_⟩; have AT_ := Aside0.mk hat_; have MV_ := Aside0.mk (MV.out.trans hm_); have HP_ := Aside0.mk hq_; clear AT MV HP hat_ hm_ hq_; have AT := AT_; have MV := MV_; have HP := HP_; clear AT_ MV_ HP_; clear H1)
        | (go_at_call 26; have hcc := rbits_told' HR.out _ g _ 2 2 rfl v out most AT.out HP.out (by decide); rw [H2.out] at hcc; refine hcc.mono ?_; clear hcc; rintro e w' ⟨pp, rfl, hfa, hb⟩)
        )
      exact ⟨rfl, by rw [HRR.out]; exact ⟨pp, rfl, hfa, (HX.out.between AT.out MV.out.size).trans hb⟩⟩
    | ok r2 =>
      obtain ⟨t, p2⟩ := r2
      rw [h2] at hRR
      dsimp only at hRR
      have H2 := Aside0.mk h2
      clear h2
      by_cases ht0 : t = 0
      · subst ht0
        cases hs : typedM l most k p2 out 0 with
        | error er =>
          rw [hs] at hRR
          dsimp only at hRR
          have HRR := Aside0.mk hRR.symm
          have HS := Aside0.mk (show storedM l most p2 out = _ from hs)
          clear hRR hs
          go_enter Tryd.func15, Tryd.ntmps15
          go_wp2_with (first
        | (go_at_call 26; have hcc := rbits_told' HR.out _ g _ 1 1 rfl v out most AT.out HP.out (by decide); rw [H1.out] at hcc; refine hcc.mono ?_; clear hcc; rintro e w' ⟨rfl, hq_, hat_, hm_⟩; have AT_ := Aside0.mk hat_; have MV_ := Aside0.mk (MV.out.trans hm_); have HP_ := Aside0.mk hq_; clear AT MV HP hat_ hm_ hq_; have AT := AT_; have MV := MV_; have HP := HP_; clear AT_ MV_ HP_; clear H1)
        | (go_at_call 26; have hcc := rbits_told' HR.out _ g _ 2 2 rfl v out most AT.out HP.out (by decide); rw [H2.out] at hcc; refine hcc.mono ?_; clear hcc; rintro e w' ⟨rfl, hq_, hat_, hm_⟩; have AT_ := Aside0.mk hat_; have MV_ := Aside0.mk (MV.out.trans hm_); have HP_ := Aside0.mk hq_; clear AT MV HP hat_ hm_ hq_; have AT := AT_; have MV := MV_; have HP := HP_; clear AT_ MV_ HP_; clear H2)
        | (go_at_call 27; have hcc := stored_told HR.out _ g p2 v out most AT.out HP.out HM0.out HM1.out; rw [HS.out] at hcc; refine hcc.mono ?_; clear hcc; rintro e w' ⟨pp, rfl, hfa, hb⟩)
        )
          exact ⟨rfl, by rw [HRR.out]; exact ⟨pp, rfl, hfa, (HX.out.between AT.out MV.out.size).trans hb⟩⟩
        | ok r3 =>
          obtain ⟨p3, ys⟩ := r3
          rw [hs] at hRR
          dsimp only at hRR
          have HRR := Aside0.mk hRR.symm
          have HS := Aside0.mk (show storedM l most p2 out = _ from hs)
          clear hRR hs
          go_enter Tryd.func15, Tryd.ntmps15
          go_wp2_with (first
        | (go_at_call 26; have hcc := rbits_told' HR.out _ g _ 1 1 rfl v out most AT.out HP.out (by decide); rw [H1.out] at hcc; refine hcc.mono ?_; clear hcc; rintro e w' ⟨rfl, hq_, hat_, hm_⟩; have AT_ := Aside0.mk hat_; have MV_ := Aside0.mk (MV.out.trans hm_); have HP_ := Aside0.mk hq_; clear AT MV HP hat_ hm_ hq_; have AT := AT_; have MV := MV_; have HP := HP_; clear AT_ MV_ HP_; clear H1)
        | (go_at_call 26; have hcc := rbits_told' HR.out _ g _ 2 2 rfl v out most AT.out HP.out (by decide); rw [H2.out] at hcc; refine hcc.mono ?_; clear hcc; rintro e w' ⟨rfl, hq_, hat_, hm_⟩; have AT_ := Aside0.mk hat_; have MV_ := Aside0.mk (MV.out.trans hm_); have HP_ := Aside0.mk hq_; clear AT MV HP hat_ hm_ hq_; have AT := AT_; have MV := MV_; have HP := HP_; clear AT_ MV_ HP_; clear H2)
        | (go_at_call 27; have hcc := stored_told HR.out _ g p2 v out most AT.out HP.out HM0.out HM1.out; rw [HS.out] at hcc; refine hcc.mono ?_; clear hcc; rintro e w' ⟨rfl, hq, v', hat, hm⟩)
        )
          go_ret
          rw [HRR.out]
          exact ⟨rfl, hq, v', hat, MV.out.trans hm⟩
      · have q0 := eq_false ht0
        have qb0 : (t == 0) = false := beq_eq_false_iff_ne.mpr ht0
        by_cases ht1 : t = 1
        · subst ht1
          cases hs : typedM l most k p2 out 1 with
          | error er =>
            rw [hs] at hRR
            dsimp only at hRR
            have HRR := Aside0.mk hRR.symm
            have HS := Aside0.mk (show fixedM l most k p2 out = _ from hs)
            clear hRR hs
            go_enter Tryd.func15, Tryd.ntmps15
            go_wp2_with (first
        | (go_at_call 26; have hcc := rbits_told' HR.out _ g _ 1 1 rfl v out most AT.out HP.out (by decide); rw [H1.out] at hcc; refine hcc.mono ?_; clear hcc; rintro e w' ⟨rfl, hq_, hat_, hm_⟩; have AT_ := Aside0.mk hat_; have MV_ := Aside0.mk (MV.out.trans hm_); have HP_ := Aside0.mk hq_; clear AT MV HP hat_ hm_ hq_; have AT := AT_; have MV := MV_; have HP := HP_; clear AT_ MV_ HP_; clear H1)
        | (go_at_call 26; have hcc := rbits_told' HR.out _ g _ 2 2 rfl v out most AT.out HP.out (by decide); rw [H2.out] at hcc; refine hcc.mono ?_; clear hcc; rintro e w' ⟨rfl, hq_, hat_, hm_⟩; have AT_ := Aside0.mk hat_; have MV_ := Aside0.mk (MV.out.trans hm_); have HP_ := Aside0.mk hq_; clear AT MV HP hat_ hm_ hq_; have AT := AT_; have MV := MV_; have HP := HP_; clear AT_ MV_ HP_; clear H2)
        | (go_at_call 28; have hcc := fixed_told HR.out _ g p2 v out most AT.out HP.out HM0.out HM1.out k (by have := HK.out; omega); rw [HS.out] at hcc; refine hcc.mono ?_; clear hcc; rintro e w' ⟨pp, rfl, hfa, hb⟩)
        )
            exact ⟨rfl, by rw [HRR.out]; exact ⟨pp, rfl, hfa, (HX.out.between AT.out MV.out.size).trans hb⟩⟩
          | ok r3 =>
            obtain ⟨p3, ys⟩ := r3
            rw [hs] at hRR
            dsimp only at hRR
            have HRR := Aside0.mk hRR.symm
            have HS := Aside0.mk (show fixedM l most k p2 out = _ from hs)
            clear hRR hs
            go_enter Tryd.func15, Tryd.ntmps15
            go_wp2_with (first
        | (go_at_call 26; have hcc := rbits_told' HR.out _ g _ 1 1 rfl v out most AT.out HP.out (by decide); rw [H1.out] at hcc; refine hcc.mono ?_; clear hcc; rintro e w' ⟨rfl, hq_, hat_, hm_⟩; have AT_ := Aside0.mk hat_; have MV_ := Aside0.mk (MV.out.trans hm_); have HP_ := Aside0.mk hq_; clear AT MV HP hat_ hm_ hq_; have AT := AT_; have MV := MV_; have HP := HP_; clear AT_ MV_ HP_; clear H1)
        | (go_at_call 26; have hcc := rbits_told' HR.out _ g _ 2 2 rfl v out most AT.out HP.out (by decide); rw [H2.out] at hcc; refine hcc.mono ?_; clear hcc; rintro e w' ⟨rfl, hq_, hat_, hm_⟩; have AT_ := Aside0.mk hat_; have MV_ := Aside0.mk (MV.out.trans hm_); have HP_ := Aside0.mk hq_; clear AT MV HP hat_ hm_ hq_; have AT := AT_; have MV := MV_; have HP := HP_; clear AT_ MV_ HP_; clear H2)
        | (go_at_call 28; have hcc := fixed_told HR.out _ g p2 v out most AT.out HP.out HM0.out HM1.out k (by have := HK.out; omega); rw [HS.out] at hcc; refine hcc.mono ?_; clear hcc; rintro e w' ⟨rfl, hq, v', hat, hm⟩)
        )
            go_ret
            rw [HRR.out]
            exact ⟨rfl, hq, v', hat, MV.out.trans hm⟩
        · have q1 := eq_false ht1
          have qb1 : (t == 1) = false := beq_eq_false_iff_ne.mpr ht1
          by_cases ht2 : t = 2
          · subst ht2
            cases hs : typedM l most k p2 out 2 with
            | error er =>
              rw [hs] at hRR
              dsimp only at hRR
              have HRR := Aside0.mk hRR.symm
              have HS := Aside0.mk (show dynamicM l most k p2 out = _ from hs)
              clear hRR hs
              go_enter Tryd.func15, Tryd.ntmps15
              go_wp2_with (first
        | (go_at_call 26; have hcc := rbits_told' HR.out _ g _ 1 1 rfl v out most AT.out HP.out (by decide); rw [H1.out] at hcc; refine hcc.mono ?_; clear hcc; rintro e w' ⟨rfl, hq_, hat_, hm_⟩; have AT_ := Aside0.mk hat_; have MV_ := Aside0.mk (MV.out.trans hm_); have HP_ := Aside0.mk hq_; clear AT MV HP hat_ hm_ hq_; have AT := AT_; have MV := MV_; have HP := HP_; clear AT_ MV_ HP_; clear H1)
        | (go_at_call 26; have hcc := rbits_told' HR.out _ g _ 2 2 rfl v out most AT.out HP.out (by decide); rw [H2.out] at hcc; refine hcc.mono ?_; clear hcc; rintro e w' ⟨rfl, hq_, hat_, hm_⟩; have AT_ := Aside0.mk hat_; have MV_ := Aside0.mk (MV.out.trans hm_); have HP_ := Aside0.mk hq_; clear AT MV HP hat_ hm_ hq_; have AT := AT_; have MV := MV_; have HP := HP_; clear AT_ MV_ HP_; clear H2)
        | (go_at_call 29; have hcc := dynamic_told HR.out _ g p2 v out most AT.out HP.out HM0.out HM1.out k HK.out; rw [HS.out] at hcc; refine hcc.mono ?_; clear hcc; rintro e w' ⟨pp, rfl, hfa, hb⟩)
        )
              exact ⟨rfl, by rw [HRR.out]; exact ⟨pp, rfl, hfa, (HX.out.between AT.out MV.out.size).trans hb⟩⟩
            | ok r3 =>
              obtain ⟨p3, ys⟩ := r3
              rw [hs] at hRR
              dsimp only at hRR
              have HRR := Aside0.mk hRR.symm
              have HS := Aside0.mk (show dynamicM l most k p2 out = _ from hs)
              clear hRR hs
              go_enter Tryd.func15, Tryd.ntmps15
              go_wp2_with (first
        | (go_at_call 26; have hcc := rbits_told' HR.out _ g _ 1 1 rfl v out most AT.out HP.out (by decide); rw [H1.out] at hcc; refine hcc.mono ?_; clear hcc; rintro e w' ⟨rfl, hq_, hat_, hm_⟩; have AT_ := Aside0.mk hat_; have MV_ := Aside0.mk (MV.out.trans hm_); have HP_ := Aside0.mk hq_; clear AT MV HP hat_ hm_ hq_; have AT := AT_; have MV := MV_; have HP := HP_; clear AT_ MV_ HP_; clear H1)
        | (go_at_call 26; have hcc := rbits_told' HR.out _ g _ 2 2 rfl v out most AT.out HP.out (by decide); rw [H2.out] at hcc; refine hcc.mono ?_; clear hcc; rintro e w' ⟨rfl, hq_, hat_, hm_⟩; have AT_ := Aside0.mk hat_; have MV_ := Aside0.mk (MV.out.trans hm_); have HP_ := Aside0.mk hq_; clear AT MV HP hat_ hm_ hq_; have AT := AT_; have MV := MV_; have HP := HP_; clear AT_ MV_ HP_; clear H2)
        | (go_at_call 29; have hcc := dynamic_told HR.out _ g p2 v out most AT.out HP.out HM0.out HM1.out k HK.out; rw [HS.out] at hcc; refine hcc.mono ?_; clear hcc; rintro e w' ⟨rfl, hq, v', hat, hm⟩)
        )
              go_ret
              rw [HRR.out]
              exact ⟨rfl, hq, v', hat, MV.out.trans hm⟩
          · have q2 := eq_false ht2
            have qb2 : (t == 2) = false := beq_eq_false_iff_ne.mpr ht2
            rw [show typedM l most k p2 out t = .error 13 from by unfold typedM; rw [if_neg ht0, if_neg ht1, if_neg ht2]] at hRR
            have HRR := Aside0.mk hRR.symm
            clear hRR ht0 ht1 ht2
            go_enter Tryd.func15, Tryd.ntmps15
            go_wp2_with (first
        | (go_at_call 26; have hcc := rbits_told' HR.out _ g _ 1 1 rfl v out most AT.out HP.out (by decide); rw [H1.out] at hcc; refine hcc.mono ?_; clear hcc; rintro e w' ⟨rfl, hq_, hat_, hm_⟩; have AT_ := Aside0.mk hat_; have MV_ := Aside0.mk (MV.out.trans hm_); have HP_ := Aside0.mk hq_; clear AT MV HP hat_ hm_ hq_; have AT := AT_; have MV := MV_; have HP := HP_; clear AT_ MV_ HP_; clear H1)
        | (go_at_call 26; have hcc := rbits_told' HR.out _ g _ 2 2 rfl v out most AT.out HP.out (by decide); rw [H2.out] at hcc; refine hcc.mono ?_; clear hcc; rintro e w' ⟨rfl, hq_, hat_, hm_⟩; have AT_ := Aside0.mk hat_; have MV_ := Aside0.mk (MV.out.trans hm_); have HP_ := Aside0.mk hq_; clear AT MV HP hat_ hm_ hq_; have AT := AT_; have MV := MV_; have HP := HP_; clear AT_ MV_ HP_; clear H2)
        | (go_at_call 30; refine (stop_calls 13 _).mono ?_; rintro e w' ⟨pp, rfl, hfa, hb⟩)
        )
            exact ⟨rfl, by rw [HRR.out]; exact ⟨pp, rfl, hfa, (HX.out.between AT.out MV.out.size).trans (hb.mono AT.out.below.size)⟩⟩
end
end Go.Proofs.YtgflkkjhckcipaaDoor.Pr

-- YtgflkkjhckcipaaDoorIf26
namespace Go.Proofs.YtgflkkjhckcipaaDoor.Pr
open Go.RowKit Go.Shelf Go.Proofs.YtgflkkjhckcipaaDoorW.PrintWords Go.Proofs.YtgflkkjhckcipaaDoorW.PrintLast Go.Proofs.YtgflkkjhckcipaaDoorW.PrintMore
set_option linter.unusedVariables false
set_option linter.unusedSimpArgs false
def bnd {α β : Type} (r : Except Int α) (k : α → Except Int β) : Except Int β := match r with | .error e => .error e | .ok x => k x
def Lim {α : Type} (B er : Int) (sh : Prop) (p : Nat) (pl : α → Nat) (r r' : Except Int α) : Prop :=
  ∀ x, r = .ok x → p ≤ pl x ∧ ((p : Int) ≤ B → (((pl x : Nat) : Int) ≤ B → r' = .ok x) ∧ (B < ((pl x : Nat) : Int) → sh → r' = .error er))
theorem Lim.bnd {α β : Type} {B er : Int} {sh : Prop} {p : Nat} {pl : α → Nat} {pl2 : β → Nat} {r r' : Except Int α} {k k' : α → Except Int β} (h : Lim B er sh p pl r r') (hk : ∀ x, r = .ok x → Lim B er sh (pl x) pl2 (k x) (k' x)) : Lim B er sh p pl2 (bnd r k) (bnd r' k') := by
  intro y hy
  cases hr : r with
  | error e => rw [hr] at hy; cases hy
  | ok x =>
    rw [hr] at hy
    have h1 := h x hr
    have h2 := hk x hr y hy
    refine ⟨Nat.le_trans h1.1 h2.1, fun hp => ?_⟩
    have h3 := h1.2 hp
    by_cases hx : ((pl x : Nat) : Int) ≤ B
    · rw [h3.1 hx]; exact h2.2 hx
    · have h4 := h2.1
      refine ⟨fun hy2 => absurd hy2 (by omega), fun _ hs => ?_⟩
      rw [h3.2 (by omega) hs]
      rfl
theorem Lim.same {α : Type} (B er : Int) (sh : Prop) (p : Nat) (r : Except Int α) : Lim B er sh p (fun _ => p) r r := fun x hx => ⟨Nat.le_refl _, fun hp => ⟨fun _ => hx, fun h => absurd hp (by dsimp only at h; omega)⟩⟩
theorem Lim.err {α : Type} (B er : Int) (sh : Prop) (p : Nat) (pl : α → Nat) (e : Int) (r' : Except Int α) : Lim B er sh p pl (.error e) r' := fun x hx => by cases hx
theorem Lim.ret {α : Type} (B er : Int) (sh : Prop) (p : Nat) (pl : α → Nat) (x : α) (h : pl x = p) : Lim B er sh p pl (.ok x) (.ok x) := fun y hy => by
  injection hy with hy
  subst hy
  exact ⟨by omega, fun hp => ⟨fun _ => rfl, fun h2 => absurd hp (by omega)⟩⟩
theorem Lim.cond {α : Type} {B er : Int} {sh : Prop} {p : Nat} {pl : α → Nat} {c : Prop} [Decidable c] {a b a' b' : Except Int α} (ha : c → Lim B er sh p pl a a') (hb : ¬ c → Lim B er sh p pl b b') : Lim B er sh p pl (if c then a else b) (if c then a' else b') := by
  by_cases h : c
  · rw [if_pos h, if_pos h]; exact ha h
  · rw [if_neg h, if_neg h]; exact hb h
def Bad {α : Type} (r : Except Int α) : Prop := ∀ er, r = .error er → er ≠ 0
theorem Bad.bnd {α β : Type} {r : Except Int α} {k : α → Except Int β} (h : Bad r) (hk : ∀ x, r = .ok x → Bad (k x)) : Bad (bnd r k) := by
  intro er he
  cases hr : r with
  | error e =>
    rw [hr] at he
    injection he with he
    subst he
    exact h e hr
  | ok x => rw [hr] at he; exact hk x hr er he
theorem Bad.ok {α : Type} (x : α) : Bad (.ok x : Except Int α) := fun er h => by cases h
theorem Bad.err {α : Type} {e : Int} (h : e ≠ 0) : Bad (.error e : Except Int α) := fun er h2 => by injection h2 with h2; omega
theorem Bad.cond {α : Type} {c : Prop} [Decidable c] {a b : Except Int α} (ha : c → Bad a) (hb : ¬ c → Bad b) : Bad (if c then a else b) := by
  by_cases h : c
  · rw [if_pos h]; exact ha h
  · rw [if_neg h]; exact hb h
def Tells {α : Type} (r : Except Int α) (T : α → Prop) : Prop := ∀ x, r = .ok x → T x
theorem Tells.bnd {α β : Type} {r : Except Int α} {k : α → Except Int β} {T : α → Prop} {T2 : β → Prop} (h : Tells r T) (hk : ∀ x, T x → Tells (k x) T2) : Tells (bnd r k) T2 := by
  intro y hy
  cases hr : r with
  | error e => rw [hr] at hy; cases hy
  | ok x => rw [hr] at hy; exact hk x (h x hr) y hy
theorem Tells.err {α : Type} {e : Int} {T : α → Prop} : Tells (.error e : Except Int α) T := fun x h => by cases h
theorem Tells.ok {α : Type} {x : α} {T : α → Prop} (h : T x) : Tells (.ok x) T := fun y e => by injection e with e; subst e; exact h
theorem Tells.cond {α : Type} {c : Prop} [Decidable c] {a b : Except Int α} {T : α → Prop} (ha : c → Tells a T) (hb : ¬ c → Tells b T) : Tells (if c then a else b) T := by
  by_cases h : c
  · rw [if_pos h]; exact ha h
  · rw [if_neg h]; exact hb h
theorem storedM_b (l : List Int) (most : Int) (p : Nat) (out : List Int) : storedM l most p out = bnd (bitsM l ((p + 7) / 8 * 8) 16) fun r1 => bnd (bitsM l r1.2 16) fun r2 => if r2.1 ≠ 65535 - r1.1 then .error 5 else if r1.1 > most - (out.length : Int) then .error 3 else if ((8 * l.length - r2.2) / 8 : Nat) < r1.1.toNat then .error 4 else .ok (r2.2 + 8 * r1.1.toNat, out ++ (l.drop (r2.2 / 8)).take r1.1.toNat) := by
  unfold storedM bnd
  cases bitsM l ((p + 7) / 8 * 8) 16 with
  | error e => rfl
  | ok r1 =>
    obtain ⟨n, p1⟩ := r1
    dsimp only
    cases bitsM l p1 16 with
    | error e => rfl
    | ok r2 => rfl
theorem copiedM_b (l : List Int) (most : Int) (dist : Option (List Int)) (s : Int) (p : Nat) (out : List Int) : copiedM l most dist s p out = match lenP s with
    | none => .error 13
    | some kb => bnd (bitsM l p kb.1) fun r1 => bnd (symM l dist r1.2) fun r2 => match distP r2.1 with
      | none => .error 13
      | some db => bnd (bitsM l r2.2 db.1) fun r3 => if db.2 + r3.1.toNat > out.length then .error 14 else if ((kb.2 + r1.1.toNat : Nat) : Int) > most - (out.length : Int) then .error 3 else .ok (r3.2, copyL out (db.2 + r3.1.toNat) (kb.2 + r1.1.toNat)) := by
  unfold copiedM
  cases lenP s with
  | none => rfl
  | some kb =>
    obtain ⟨k, base⟩ := kb
    dsimp only
    unfold bnd
    cases bitsM l p k with
    | error e => rfl
    | ok r1 =>
      obtain ⟨x, p1⟩ := r1
      dsimp only
      cases symM l dist p1 with
      | error e => rfl
      | ok r2 =>
        obtain ⟨d, p2⟩ := r2
        dsimp only
        cases distP d with
        | none => rfl
        | some db =>
          obtain ⟨kd, bd⟩ := db
          dsimp only
          cases bitsM l p2 kd with
          | error e => rfl
          | ok r3 => rfl
theorem symbolsM_b (l : List Int) (most : Int) (lit : List Int) (dist : Option (List Int)) (k p : Nat) (out : List Int) : symbolsM l most lit dist (k + 1) p out = bnd (symM l (some lit) p) fun r1 => if r1.1 = 256 then .ok (r1.2, out) else if r1.1 > 256 then bnd (copiedM l most dist r1.1 r1.2 out) fun r2 => symbolsM l most lit dist k r2.1 r2.2 else if 1 > most - (out.length : Int) then .error 3 else symbolsM l most lit dist k r1.2 (out ++ [r1.1]) := by
  rw [symbolsM]
  unfold bnd
  cases symM l (some lit) p with
  | error e => rfl
  | ok r1 =>
    obtain ⟨s, p1⟩ := r1
    dsimp only
    split
    · rfl
    · split
      · cases copiedM l most dist s p1 out with
        | error e => rfl
        | ok r2 => rfl
      · rfl
theorem codesM_b (l : List Int) (d i p : Nat) (lens : List Int) : codesM l (d + 1) i p lens = bnd (bitsM l p 3) fun r1 => codesM l d (i + 1) r1.2 (lens.set (orderL.getD i 0) r1.1) := by
  rw [codesM]
  unfold bnd
  cases bitsM l p 3 with
  | error e => rfl
  | ok r1 => rfl
theorem lengthsM_b (l z : List Int) (n k p : Nat) (out : List Int) : lengthsM l z n (k + 1) p out = if out.length < n then bnd (symM l (some z) p) fun r1 => bnd (bitsM l r1.2 (extraN r1.1)) fun r2 => bnd (takeM out r1.1 r2.1 n) fun out2 => lengthsM l z n k r2.2 out2 else .ok (out, p) := by
  rw [lengthsM]
  split
  · unfold bnd
    cases symM l (some z) p with
    | error e => rfl
    | ok r1 =>
      obtain ⟨s, p1⟩ := r1
      dsimp only
      cases bitsM l p1 (extraN s) with
      | error e => rfl
      | ok r2 =>
        obtain ⟨x, p2⟩ := r2
        dsimp only
        cases takeM out s x n with
        | error e => rfl
        | ok o => rfl
  · rfl
theorem headerM_b (l : List Int) (k p : Nat) : headerM l k p = bnd (bitsM l p 5) fun r1 => bnd (bitsM l r1.2 5) fun r2 => if 257 + r1.1 > 286 ∨ 1 + r2.1 > 30 then .error 3 else bnd (bitsM l r2.2 4) fun r3 => bnd (codesM l (4 + r3.1.toNat) 0 r3.2 (List.replicate 19 0)) fun r4 => bnd (lengthsM l r4.1 (257 + r1.1.toNat + (1 + r2.1.toNat)) k r4.2 []) fun r5 => .ok (r5.1.take (257 + r1.1.toNat), r5.1.drop (257 + r1.1.toNat), r5.2) := by
  unfold headerM bnd
  cases bitsM l p 5 with
  | error e => rfl
  | ok r1 =>
    obtain ⟨x, p1⟩ := r1
    dsimp only
    cases bitsM l p1 5 with
    | error e => rfl
    | ok r2 =>
      obtain ⟨y, p2⟩ := r2
      dsimp only
      split
      · rfl
      · cases bitsM l p2 4 with
        | error e => rfl
        | ok r3 =>
          obtain ⟨q, p3⟩ := r3
          dsimp only
          cases codesM l (4 + q.toNat) 0 p3 (List.replicate 19 0) with
          | error e => rfl
          | ok r4 =>
            obtain ⟨z, p4⟩ := r4
            dsimp only
            cases lengthsM l z (257 + x.toNat + (1 + y.toNat)) k p4 [] with
            | error e => rfl
            | ok r5 => rfl
theorem dynamicM_b (l : List Int) (most : Int) (k p : Nat) (out : List Int) : dynamicM l most k p out = bnd (headerM l k p) fun r1 => if r1.1.getD 256 0 = 0 then .error 13 else if Hu.newS r1.1 ≠ 0 then .error (Hu.newS r1.1) else if r1.2.1.all (· == 0) then symbolsM l most r1.1 none k r1.2.2 out else if Hu.newS r1.2.1 ≠ 0 then .error (Hu.newS r1.2.1) else symbolsM l most r1.1 (some r1.2.1) k r1.2.2 out := by
  unfold dynamicM bnd
  cases headerM l k p with
  | error e => rfl
  | ok r1 => rfl
theorem blockM_b (l : List Int) (most : Int) (k p : Nat) (out : List Int) : blockM l most k p out = bnd (bitsM l p 1) fun r1 => bnd (bitsM l r1.2 2) fun r2 => bnd (typedM l most k r2.2 out r2.1) fun r3 => .ok (r1.1 == 1, r3.1, r3.2) := by
  unfold blockM bnd
  cases bitsM l p 1 with
  | error e => rfl
  | ok r1 =>
    obtain ⟨x, p1⟩ := r1
    dsimp only
    cases bitsM l p1 2 with
    | error e => rfl
    | ok r2 =>
      obtain ⟨y, p2⟩ := r2
      dsimp only
      cases typedM l most k p2 out y with
      | error e => rfl
      | ok r3 => rfl
def decodeM (l : List Int) (most : Int) (k : Nat) : Nat → Nat → List Int → Except Int (Nat × List Int)
  | 0, _, _ => .error 0
  | d + 1, p, out => bnd (blockM l most k p out) fun r => if r.1 then .ok r.2 else decodeM l most k d r.2.1 r.2.2
structure Alike (l l' : List Int) (m : Nat) : Prop where
  take : l.take m = l'.take m
  le : m ≤ l.length
  le' : m ≤ l'.length
theorem Alike.get {l l' : List Int} {m : Nat} (h : Alike l l' m) {i : Nat} (hi : i < m) : l.getD i 0 = l'.getD i 0 := by
  have h1 : (l.take m).getD i 0 = (l'.take m).getD i 0 := by rw [h.take]
  have h2 := h.le
  have h3 := h.le'
  rw [List.getD_eq_getElem?_getD, List.getD_eq_getElem?_getD, List.getElem?_take_of_lt hi, List.getElem?_take_of_lt hi] at h1
  rw [List.getD_eq_getElem?_getD, List.getD_eq_getElem?_getD]
  exact h1
theorem Alike.bat {l l' : List Int} {m : Nat} (h : Alike l l' m) {k : Nat} (hk : k < 8 * m) : bat l k = bat l' k := by
  unfold Pr.bat
  rw [h.get (by omega)]
theorem Alike.getV {l l' : List Int} {m : Nat} (h : Alike l l' m) {p : Nat} : ∀ {n : Nat}, p + n ≤ 8 * m → getV l p n = getV l' p n
  | 0, _ => rfl
  | n + 1, hn => by
    rw [Pr.getV, Pr.getV, h.getV (n := n) (by omega), h.bat (by omega)]
theorem Alike.slice {l l' : List Int} {m : Nat} (h : Alike l l' m) {a n : Nat} (hn : a + n ≤ m) : (l.drop a).take n = (l'.drop a).take n := by
  have e : ∀ x : List Int, (x.drop a).take n = (((x.take m).drop a).take n) := fun x => by
    rw [List.drop_take, List.take_take, Nat.min_eq_left (by omega)]
  rw [e l, e l', h.take]
abbrev Cut {α : Type} (m : Nat) (l' : List Int) (p : Nat) (pl : α → Nat) (r r' : Except Int α) : Prop := Lim ((8 * m : Nat) : Int) 4 (l'.length = m) p pl r r'
theorem bits_cut {l l' : List Int} {m : Nat} (h : Alike l l' m) (p n : Nat) : Cut m l' p Prod.snd (bitsM l p n) (bitsM l' p n) := by
  intro x hx
  have h1 := h.le'
  unfold bitsM at hx
  split at hx
  · injection hx with hx
    subst hx
    dsimp only
    refine ⟨by omega, fun hp => ⟨fun hx => ?_, fun hx hs => ?_⟩⟩
    · unfold bitsM
      rw [if_pos (by omega), h.getV (by omega)]
    · unfold bitsM
      rw [if_neg (by omega)]
  · cases hx
theorem scan_cut {l l' : List Int} {m : Nat} (h : Alike l l' m) (z : List Int) : ∀ d p v, (scan z l (8 * l.length) d p v).2.2 = 0 → ∃ q : Nat, (scan z l (8 * l.length) d p v).2.1 = (q : Int) ∧ p < q ∧ (q ≤ 8 * m → scan z l' (8 * l'.length) d p v = scan z l (8 * l.length) d p v) ∧ (p ≤ 8 * m → 8 * m < q → l'.length = m → (scan z l' (8 * l'.length) d p v).2.2 = 4)
  | 0, p, v, h0 => by simp [scan] at h0
  | d + 1, p, v, h0 => by
    have hle := h.le
    have hle' := h.le'
    by_cases hp : 8 * l.length ≤ p
    · rw [scan, if_pos hp] at h0
      exact absurd h0 (by decide)
    · by_cases hm : p < 8 * m
      · have e := h.bat hm
        rw [scan, if_neg hp, e] at h0 ⊢
        rw [scan, if_neg (show ¬ 8 * l'.length ≤ p by omega)]
        split at h0
        · next c => rw [if_pos c, if_pos c]; exact ⟨p + 1, rfl, by omega, fun _ => rfl, fun _ hq => by omega⟩
        · next c =>
          rw [if_neg c, if_neg c]
          split at h0
          · exact absurd h0 (by decide)
          · next c2 =>
            rw [if_neg c2, if_neg c2]
            obtain ⟨q, h1, h2, h3, h4⟩ := scan_cut h z d (p + 1) _ h0
            exact ⟨q, h1, by omega, h3, fun _ => h4 (by omega)⟩
      · have hq : ∃ q : Nat, (scan z l (8 * l.length) (d + 1) p v).2.1 = (q : Int) ∧ p < q := by
          rw [scan, if_neg hp] at h0 ⊢
          split at h0
          · next c => rw [if_pos c]; exact ⟨p + 1, rfl, by omega⟩
          · next c =>
            rw [if_neg c]
            split at h0
            · exact absurd h0 (by decide)
            · next c2 =>
              rw [if_neg c2]
              obtain ⟨q, h1, h2, _⟩ := scan_cut h z d (p + 1) _ h0
              exact ⟨q, h1, by omega⟩
        obtain ⟨q, h1, h2⟩ := hq
        refine ⟨q, h1, h2, fun h3 => by omega, fun _ _ hs => ?_⟩
        rw [scan, if_pos (by omega)]
theorem sym_cut {l l' : List Int} {m : Nat} (h : Alike l l' m) (t : Option (List Int)) (p : Nat) : Lim ((8 * m : Nat) : Int) 4 (l'.length = m) p Prod.snd (symM l t p) (symM l' t p) := by
  intro x hx
  cases t with
  | none => cases hx
  | some z =>
    unfold symM at hx ⊢
    dsimp only at hx ⊢
    split at hx
    · next h0 =>
      obtain ⟨q, h1, h2, h3, h4⟩ := scan_cut h z 15 p 0 h0
      injection hx with hx
      subst hx
      rw [h1]
      dsimp only
      rw [Int.toNat_natCast]
      refine ⟨by omega, fun hp => ⟨fun hq => ?_, fun hq hs => ?_⟩⟩
      · rw [h3 (by omega), if_pos h0, h1, Int.toNat_natCast]
      · have h5 := h4 (by omega) (by omega) hs
        rw [h5, if_neg (by decide)]
    · cases hx
theorem sym_more {l : List Int} {t : Option (List Int)} {p : Nat} {r : Int × Nat} (h : symM l t p = .ok r) : p < r.2 := by
  cases t with
  | none => cases h
  | some z =>
    unfold symM at h
    dsimp only at h
    split at h
    · next h0 =>
      obtain ⟨q, h1, h2, _⟩ := scan_cut (l := l) (l' := l) (m := l.length) ⟨rfl, Nat.le_refl _, Nat.le_refl _⟩ z 15 p 0 h0
      injection h with h
      subst h
      rw [h1]
      dsimp only
      omega
    · cases h
theorem stored_cut {l l' : List Int} {m : Nat} (h : Alike l l' m) (most : Int) (p : Nat) (out : List Int) : Cut m l' p Prod.fst (storedM l most p out) (storedM l' most p out) := by
  rw [storedM_b, storedM_b]
  have hle := h.le
  have hle' := h.le'
  have hal : Cut m l' p Prod.snd (bitsM l ((p + 7) / 8 * 8) 16) (bitsM l' ((p + 7) / 8 * 8) 16) := by
    intro x hx
    have h1 := bits_cut h ((p + 7) / 8 * 8) 16 x hx
    exact ⟨by omega, fun hp => h1.2 (by omega)⟩
  refine hal.bnd fun r1 h1 => (bits_cut h r1.2 16).bnd fun r2 h2 => ?_
  obtain ⟨n, p1⟩ := r1
  obtain ⟨x, p2⟩ := r2
  have o1 := bitsM_ok h1
  have o2 := bitsM_ok h2
  have n1 := getV_range l ((p + 7) / 8 * 8) 16
  dsimp only at *
  refine .cond (fun _ => .err _ _ _ _ _ _ _) fun _ => .cond (fun _ => .err _ _ _ _ _ _ _) fun _ => ?_
  intro y hy
  split at hy
  · cases hy
  · next hs =>
    injection hy with hy
    subst hy
    dsimp only
    refine ⟨by omega, fun hp => ⟨fun hq => ?_, fun hq hs => ?_⟩⟩
    · rw [if_neg (by omega), h.slice (by omega)]
    · rw [if_pos (by omega)]
theorem copied_cut {l l' : List Int} {m : Nat} (h : Alike l l' m) (most : Int) (dist : Option (List Int)) (s : Int) (p : Nat) (out : List Int) : Cut m l' p Prod.fst (copiedM l most dist s p out) (copiedM l' most dist s p out) := by
  rw [copiedM_b, copiedM_b]
  cases lenP s with
  | none => exact .err _ _ _ _ _ _ _
  | some kb =>
    refine (bits_cut h p kb.1).bnd fun r1 _ => (sym_cut h dist r1.2).bnd fun r2 _ => ?_
    cases distP r2.1 with
    | none => exact .err _ _ _ _ _ _ _
    | some db => exact (bits_cut h r2.2 db.1).bnd fun r3 _ => .cond (fun _ => .err _ _ _ _ _ _ _) fun _ => .cond (fun _ => .err _ _ _ _ _ _ _) fun _ => .ret _ _ _ _ _ _ rfl
theorem Lim.beyond {α : Type} {B er : Int} {sh : Prop} {p : Nat} {pl : α → Nat} {r r1 : Except Int α} (h : Lim B er sh p pl r r1) (hB : B < (p : Int)) (r2 : Except Int α) : Lim B er sh p pl r r2 := fun x hx => ⟨(h x hx).1, fun hp => absurd hp (by omega)⟩
theorem symbols_cut {l l' : List Int} {m : Nat} (h : Alike l l' m) (most : Int) (lit : List Int) (dist : Option (List Int)) (k : Nat) : ∀ k' p out, (p ≤ 8 * m → 8 * l'.length < k' + p) → Cut m l' p Prod.fst (symbolsM l most lit dist k p out) (symbolsM l' most lit dist k' p out) := by
  induction k with
  | zero => exact fun k' p out hk => .err _ _ _ _ _ _ _
  | succ k ih =>
    have main : ∀ k' p out, (p ≤ 8 * m → 8 * l'.length < k' + 1 + p) → Cut m l' p Prod.fst (symbolsM l most lit dist (k + 1) p out) (symbolsM l' most lit dist (k' + 1) p out) := by
      intro k' p out hk
      rw [symbolsM_b, symbolsM_b]
      refine (sym_cut h (some lit) p).bnd fun r1 h1 => ?_
      have h2 := sym_more h1
      refine .cond (fun _ => .ret _ _ _ _ _ _ rfl) fun _ => .cond (fun _ => ?_) fun _ => .cond (fun _ => .err _ _ _ _ _ _ _) fun _ => ih k' r1.2 _ (fun h3 => by have := hk (by omega); omega)
      refine (copied_cut h most dist r1.1 r1.2 out).bnd fun r2 h4 => ih k' r2.1 _ (fun h3 => ?_)
      have h5 := (copied_cut h most dist r1.1 r1.2 out r2 h4).1
      have := hk (by omega)
      omega
    intro k' p out hk
    cases k' with
    | zero =>
      have hle' := h.le'
      exact (main (8 * l'.length) p out (fun _ => by omega)).beyond (by apply Int.ofNat_lt.mpr; apply Nat.lt_of_not_le; intro hp; have := hk hp; omega) _
    | succ k' => exact main k' p out hk
theorem codes_cut {l l' : List Int} {m : Nat} (h : Alike l l' m) : ∀ d i p lens, Cut m l' p Prod.snd (codesM l d i p lens) (codesM l' d i p lens)
  | 0, i, p, lens => by
    rw [codesM, codesM]
    exact .cond (fun _ => .ret _ _ _ _ _ _ rfl) fun _ => .err _ _ _ _ _ _ _
  | d + 1, i, p, lens => by
    rw [codesM_b, codesM_b]
    exact (bits_cut h p 3).bnd fun r1 _ => codes_cut h d (i + 1) r1.2 _
theorem lengths_cut {l l' : List Int} {m : Nat} (h : Alike l l' m) (z : List Int) (n k : Nat) : ∀ k' p out, (p ≤ 8 * m → 8 * l'.length < k' + p) → Cut m l' p Prod.snd (lengthsM l z n k p out) (lengthsM l' z n k' p out) := by
  induction k with
  | zero => exact fun k' p out hk => .err _ _ _ _ _ _ _
  | succ k ih =>
    have main : ∀ k' p out, (p ≤ 8 * m → 8 * l'.length < k' + 1 + p) → Cut m l' p Prod.snd (lengthsM l z n (k + 1) p out) (lengthsM l' z n (k' + 1) p out) := by
      intro k' p out hk
      rw [lengthsM_b, lengthsM_b]
      refine .cond (fun _ => (sym_cut h (some z) p).bnd fun r1 h1 => ?_) fun _ => .ret _ _ _ _ _ _ rfl
      have h2 := sym_more h1
      refine (bits_cut h r1.2 (extraN r1.1)).bnd fun r2 h4 => ?_
      have h5 := (bits_cut h r1.2 (extraN r1.1) r2 h4).1
      exact (Lim.same _ _ _ r2.2 (takeM out r1.1 r2.1 n)).bnd fun out2 _ => ih k' r2.2 _ (fun h3 => by have := hk (by omega); omega)
    intro k' p out hk
    cases k' with
    | zero =>
      have hle' := h.le'
      exact (main (8 * l'.length) p out (fun _ => by omega)).beyond (by apply Int.ofNat_lt.mpr; apply Nat.lt_of_not_le; intro hp; have := hk hp; omega) _
    | succ k' => exact main k' p out hk
theorem header_cut {l l' : List Int} {m : Nat} (h : Alike l l' m) (k k' p : Nat) (hk : 8 * l'.length < k') : Cut m l' p (fun r => r.2.2) (headerM l k p) (headerM l' k' p) := by
  rw [headerM_b, headerM_b]
  refine (bits_cut h p 5).bnd fun r1 _ => (bits_cut h r1.2 5).bnd fun r2 _ => .cond (fun _ => .err _ _ _ _ _ _ _) fun _ => (bits_cut h r2.2 4).bnd fun r3 _ => (codes_cut h _ 0 r3.2 _).bnd fun r4 _ => (lengths_cut h r4.1 _ k k' r4.2 [] (fun _ => by omega)).bnd fun r5 _ => .ret _ _ _ _ _ _ rfl
theorem typed_cut {l l' : List Int} {m : Nat} (h : Alike l l' m) (most : Int) (k k' p : Nat) (out : List Int) (t : Int) (hk : 8 * l'.length < k') : Cut m l' p Prod.fst (typedM l most k p out t) (typedM l' most k' p out t) := by
  unfold typedM
  refine .cond (fun _ => stored_cut h most p out) fun _ => .cond (fun _ => symbols_cut h most _ _ k k' p out (fun _ => by omega)) fun _ => .cond (fun _ => ?_) fun _ => .err _ _ _ _ _ _ _
  rw [dynamicM_b, dynamicM_b]
  exact (header_cut h k k' p hk).bnd fun r1 _ => .cond (fun _ => .err _ _ _ _ _ _ _) fun _ => .cond (fun _ => .err _ _ _ _ _ _ _) fun _ => .cond (fun _ => symbols_cut h most _ _ k k' _ out (fun _ => by omega)) fun _ => .cond (fun _ => .err _ _ _ _ _ _ _) fun _ => symbols_cut h most _ _ k k' _ out (fun _ => by omega)
theorem block_cut {l l' : List Int} {m : Nat} (h : Alike l l' m) (most : Int) (k k' p : Nat) (out : List Int) (hk : 8 * l'.length < k') : Cut m l' p (fun r => r.2.1) (blockM l most k p out) (blockM l' most k' p out) := by
  rw [blockM_b, blockM_b]
  exact (bits_cut h p 1).bnd fun r1 _ => (bits_cut h r1.2 2).bnd fun r2 _ => (typed_cut h most k k' r2.2 out r2.1 hk).bnd fun r3 _ => .ret _ _ _ _ _ _ rfl
theorem block_more {l : List Int} {most : Int} {k p : Nat} {out : List Int} {r : Bool × Nat × List Int} (h : blockM l most k p out = .ok r) : p < r.2.1 := by
  have ha : Alike l l l.length := ⟨rfl, Nat.le_refl _, Nat.le_refl _⟩
  rw [blockM_b] at h
  have hT : Tells (blockM l most k p out) (fun r => p < r.2.1) := by
    rw [blockM_b]
    refine Tells.bnd (T := fun r1 => p < r1.2) (fun x hx => by have := bitsM_ok hx; omega) fun r1 h1 => Tells.bnd (T := fun r2 => p < r2.2) (fun x hx => by have := bitsM_ok hx; omega) fun r2 h2 => ?_
    refine Tells.bnd (T := fun r3 => p < r3.1) (fun x hx => ?_) fun r3 h3 => Tells.ok h3
    have := (typed_cut ha most k (8 * l.length + 1) r2.2 out r2.1 (by omega) x hx).1
    omega
  exact hT r (by rw [blockM_b]; exact h)
theorem decode_cut {l l' : List Int} {m : Nat} (h : Alike l l' m) (most : Int) (k k' : Nat) (hk : 8 * l'.length < k') (d : Nat) : ∀ d' p out, (p ≤ 8 * m → 8 * l'.length < d' + p) → Cut m l' p Prod.fst (decodeM l most k d p out) (decodeM l' most k' d' p out) := by
  induction d with
  | zero => exact fun d' p out hd => .err _ _ _ _ _ _ _
  | succ d ih =>
    have main : ∀ d' p out, (p ≤ 8 * m → 8 * l'.length < d' + 1 + p) → Cut m l' p Prod.fst (decodeM l most k (d + 1) p out) (decodeM l' most k' (d' + 1) p out) := by
      intro d' p out hd
      rw [decodeM, decodeM]
      refine (block_cut h most k k' p out hk).bnd fun r1 h1 => ?_
      have h2 := block_more h1
      exact .cond (fun _ => .ret _ _ _ _ _ _ rfl) fun _ => ih d' r1.2.1 _ (fun h3 => by have := hd (by omega); omega)
    intro d' p out hd
    cases d' with
    | zero =>
      have hle' := h.le'
      exact (main (8 * l'.length) p out (fun _ => by omega)).beyond (by apply Int.ofNat_lt.mpr; apply Nat.lt_of_not_le; intro hp; have := hd hp; omega) _
    | succ d' => exact main d' p out hd
abbrev Few {α : Type} (most' : Int) (n : Nat) (ln : α → Nat) (r r' : Except Int α) : Prop := Lim most' 3 True n ln r r'
theorem stored_few (l : List Int) (most most' : Int) (p : Nat) (out : List Int) : Few most' out.length (fun r => r.2.length) (storedM l most p out) (storedM l most' p out) := by
  rw [storedM_b, storedM_b]
  refine (Lim.same _ _ _ _ _).bnd fun r1 h1 => (Lim.same _ _ _ _ _).bnd fun r2 h2 => ?_
  obtain ⟨n, p1⟩ := r1
  obtain ⟨x, p2⟩ := r2
  have o1 := bitsM_ok h1
  have o2 := bitsM_ok h2
  have n1 := getV_range l ((p + 7) / 8 * 8) 16
  dsimp only at *
  refine .cond (fun _ => .err _ _ _ _ _ _ _) fun _ => ?_
  intro y hy
  split at hy
  · cases hy
  · split at hy
    · cases hy
    · next hr hs =>
      injection hy with hy
      subst hy
      dsimp only
      rw [List.length_append, List.length_take, List.length_drop]
      refine ⟨by omega, fun hp => ⟨fun hq => ?_, fun hq hs => ?_⟩⟩
      · rw [if_neg (by omega), if_neg (by omega)]
      · rw [if_pos (by omega)]
theorem copied_few (l : List Int) (most most' : Int) (dist : Option (List Int)) (s : Int) (p : Nat) (out : List Int) : Few most' out.length (fun r => r.2.length) (copiedM l most dist s p out) (copiedM l most' dist s p out) := by
  rw [copiedM_b, copiedM_b]
  cases lenP s with
  | none => exact .err _ _ _ _ _ _ _
  | some kb =>
    refine (Lim.same _ _ _ _ _).bnd fun r1 _ => (Lim.same _ _ _ _ _).bnd fun r2 _ => ?_
    cases distP r2.1 with
    | none => exact .err _ _ _ _ _ _ _
    | some db =>
      refine (Lim.same _ _ _ _ _).bnd fun r3 _ => .cond (fun _ => .err _ _ _ _ _ _ _) fun _ => ?_
      intro y hy
      split at hy
      · cases hy
      · next hr =>
        injection hy with hy
        subst hy
        dsimp only
        rw [copyL_len]
        refine ⟨by omega, fun hp => ⟨fun hq => ?_, fun hq hs => ?_⟩⟩
        · rw [if_neg (by omega)]
        · rw [if_pos (by omega)]
theorem symbols_few (l : List Int) (most most' : Int) (lit : List Int) (dist : Option (List Int)) : ∀ k p out, Few most' out.length (fun r => r.2.length) (symbolsM l most lit dist k p out) (symbolsM l most' lit dist k p out)
  | 0, p, out => .err _ _ _ _ _ _ _
  | k + 1, p, out => by
    rw [symbolsM_b, symbolsM_b]
    refine (Lim.same _ _ _ _ _).bnd fun r1 h1 => ?_
    refine .cond (fun _ => .ret _ _ _ _ _ _ rfl) fun _ => .cond (fun _ => (copied_few l most most' dist r1.1 r1.2 out).bnd fun r2 h4 => symbols_few l most most' lit dist k r2.1 r2.2) fun _ => ?_
    intro y hy
    split at hy
    · cases hy
    · next hr =>
      have h2 := symbols_few l most most' lit dist k r1.2 (out ++ [r1.1]) y hy
      rw [List.length_append, List.length_singleton] at h2
      refine ⟨by omega, fun hp => ?_⟩
      by_cases hq : (1 : Int) > most' - (out.length : Int)
      · rw [if_pos hq]
        exact ⟨fun h3 => by omega, fun _ _ => rfl⟩
      · rw [if_neg hq]
        exact h2.2 (by omega)
theorem typed_few (l : List Int) (most most' : Int) (k p : Nat) (out : List Int) (t : Int) : Few most' out.length (fun r => r.2.length) (typedM l most k p out t) (typedM l most' k p out t) := by
  unfold typedM
  refine .cond (fun _ => stored_few l most most' p out) fun _ => .cond (fun _ => symbols_few l most most' _ _ k p out) fun _ => .cond (fun _ => ?_) fun _ => .err _ _ _ _ _ _ _
  rw [dynamicM_b, dynamicM_b]
  exact (Lim.same _ _ _ _ _).bnd fun r1 _ => .cond (fun _ => .err _ _ _ _ _ _ _) fun _ => .cond (fun _ => .err _ _ _ _ _ _ _) fun _ => .cond (fun _ => symbols_few l most most' _ _ k _ out) fun _ => .cond (fun _ => .err _ _ _ _ _ _ _) fun _ => symbols_few l most most' _ _ k _ out
theorem block_few (l : List Int) (most most' : Int) (k p : Nat) (out : List Int) : Few most' out.length (fun r => r.2.2.length) (blockM l most k p out) (blockM l most' k p out) := by
  rw [blockM_b, blockM_b]
  exact (Lim.same _ _ _ _ _).bnd fun r1 _ => (Lim.same _ _ _ _ _).bnd fun r2 _ => (typed_few l most most' k r2.2 out r2.1).bnd fun r3 _ => .ret _ _ _ _ _ _ rfl
theorem decode_few (l : List Int) (most most' : Int) (k : Nat) : ∀ d p out, Few most' out.length (fun r => r.2.length) (decodeM l most k d p out) (decodeM l most' k d p out)
  | 0, p, out => .err _ _ _ _ _ _ _
  | d + 1, p, out => by
    rw [decodeM, decodeM]
    exact (block_few l most most' k p out).bnd fun r1 _ => .cond (fun _ => .ret _ _ _ _ _ _ rfl) fun _ => decode_few l most most' k d r1.2.1 r1.2.2
abbrev Fits {α : Type} (most : Int) (out : List Int) (ys : α → List Int) (r : Except Int α) : Prop := (out.length : Int) ≤ most → Tells r fun x => ((ys x).length : Int) ≤ most
theorem stored_fits (l : List Int) (most : Int) (p : Nat) (out : List Int) : Fits most out Prod.snd (storedM l most p out) := by
  intro ho
  rw [storedM_b]
  refine Tells.bnd (T := fun r => 0 ≤ r.1) (fun x hx => by have h1 := bitsM_ok hx; have h2 := getV_range l ((p + 7) / 8 * 8) 16; omega) fun r1 h1 => Tells.bnd (T := fun _ => True) (fun _ _ => trivial) fun r2 _ => .cond (fun _ => .err) fun _ => .cond (fun _ => .err) fun hr => .cond (fun _ => .err) fun _ => .ok ?_
  dsimp only
  rw [List.length_append, List.length_take]
  omega
theorem copied_fits (l : List Int) (most : Int) (dist : Option (List Int)) (s : Int) (p : Nat) (out : List Int) : Fits most out Prod.snd (copiedM l most dist s p out) := by
  intro ho
  rw [copiedM_b]
  cases lenP s with
  | none => exact .err
  | some kb =>
    refine Tells.bnd (T := fun _ => True) (fun _ _ => trivial) fun r1 _ => Tells.bnd (T := fun _ => True) (fun _ _ => trivial) fun r2 _ => ?_
    cases distP r2.1 with
    | none => exact .err
    | some db =>
      refine Tells.bnd (T := fun _ => True) (fun _ _ => trivial) fun r3 _ => .cond (fun _ => .err) fun _ => .cond (fun _ => .err) fun hr => .ok ?_
      dsimp only
      rw [copyL_len]
      omega
theorem symbols_fits (l : List Int) (most : Int) (lit : List Int) (dist : Option (List Int)) : ∀ k p out, Fits most out Prod.snd (symbolsM l most lit dist k p out)
  | 0, p, out => fun _ => .err
  | k + 1, p, out => by
    intro ho
    rw [symbolsM_b]
    refine Tells.bnd (T := fun _ => True) (fun _ _ => trivial) fun r1 _ => .cond (fun _ => .ok ho) fun _ => .cond (fun _ => Tells.bnd (copied_fits l most dist r1.1 r1.2 out ho) fun r2 h2 => symbols_fits l most lit dist k r2.1 r2.2 h2) fun _ => .cond (fun _ => .err) fun hr => symbols_fits l most lit dist k r1.2 _ ?_
    rw [List.length_append, List.length_singleton]
    omega
theorem typed_fits (l : List Int) (most : Int) (k p : Nat) (out : List Int) (t : Int) : Fits most out Prod.snd (typedM l most k p out t) := by
  intro ho
  unfold typedM
  refine .cond (fun _ => stored_fits l most p out ho) fun _ => .cond (fun _ => symbols_fits l most _ _ k p out ho) fun _ => .cond (fun _ => ?_) fun _ => .err
  rw [dynamicM_b]
  exact Tells.bnd (T := fun _ => True) (fun _ _ => trivial) fun r1 _ => .cond (fun _ => .err) fun _ => .cond (fun _ => .err) fun _ => .cond (fun _ => symbols_fits l most _ _ k _ out ho) fun _ => .cond (fun _ => .err) fun _ => symbols_fits l most _ _ k _ out ho
theorem block_fits (l : List Int) (most : Int) (k p : Nat) (out : List Int) : Fits most out (fun r => r.2.2) (blockM l most k p out) := by
  intro ho
  rw [blockM_b]
  exact Tells.bnd (T := fun _ => True) (fun _ _ => trivial) fun r1 _ => Tells.bnd (T := fun _ => True) (fun _ _ => trivial) fun r2 _ => Tells.bnd (typed_fits l most k r2.2 out r2.1 ho) fun r3 h3 => .ok h3
theorem decode_fits (l : List Int) (most : Int) (k : Nat) : ∀ d p out, Fits most out Prod.snd (decodeM l most k d p out)
  | 0, p, out => fun _ => .err
  | d + 1, p, out => by
    intro ho
    rw [decodeM]
    exact Tells.bnd (block_fits l most k p out ho) fun r1 h1 => .cond (fun _ => .ok h1) fun _ => decode_fits l most k d r1.2.1 r1.2.2 h1
abbrev In {α : Type} (l : List Int) (p : Nat) (pl : α → Nat) (r : Except Int α) : Prop := p ≤ 8 * l.length → Tells r fun x => pl x ≤ 8 * l.length
theorem bits_in (l : List Int) (p n : Nat) : Tells (bitsM l p n) fun x => x.2 ≤ 8 * l.length := fun x hx => by have := bitsM_ok hx; omega
theorem sym_in (l : List Int) (t : Option (List Int)) (p : Nat) : In l p Prod.snd (symM l t p) := by
  intro hp x hx
  cases t with
  | none => cases hx
  | some z =>
    unfold symM at hx
    dsimp only at hx
    split at hx
    · next h0 =>
      obtain ⟨q, h1, h2, h3⟩ := scan_place z l (8 * l.length) 15 p 0 (by omega) hp h0
      injection hx with hx
      subst hx
      rw [h1]
      dsimp only
      omega
    · cases hx
theorem stored_in (l : List Int) (most : Int) (p : Nat) (out : List Int) : Tells (storedM l most p out) fun x => x.1 ≤ 8 * l.length := by
  rw [storedM_b]
  refine Tells.bnd (T := fun _ => True) (fun _ _ => trivial) fun r1 _ => Tells.bnd (bits_in l r1.2 16) fun r2 h2 => .cond (fun _ => .err) fun _ => .cond (fun _ => .err) fun _ => .cond (fun _ => .err) fun _ => .ok ?_
  dsimp only at *
  omega
theorem copied_in (l : List Int) (most : Int) (dist : Option (List Int)) (s : Int) (p : Nat) (out : List Int) : Tells (copiedM l most dist s p out) fun x => x.1 ≤ 8 * l.length := by
  rw [copiedM_b]
  cases lenP s with
  | none => exact .err
  | some kb =>
    refine Tells.bnd (T := fun _ => True) (fun _ _ => trivial) fun r1 _ => Tells.bnd (T := fun _ => True) (fun _ _ => trivial) fun r2 _ => ?_
    cases distP r2.1 with
    | none => exact .err
    | some db => exact Tells.bnd (bits_in l r2.2 db.1) fun r3 h3 => .cond (fun _ => .err) fun _ => .cond (fun _ => .err) fun _ => .ok h3
theorem symbols_in (l : List Int) (most : Int) (lit : List Int) (dist : Option (List Int)) : ∀ k p out, In l p Prod.fst (symbolsM l most lit dist k p out)
  | 0, p, out => fun _ => .err
  | k + 1, p, out => by
    intro hp
    rw [symbolsM_b]
    exact Tells.bnd (sym_in l (some lit) p hp) fun r1 h1 => .cond (fun _ => .ok h1) fun _ => .cond (fun _ => Tells.bnd (copied_in l most dist r1.1 r1.2 out) fun r2 h2 => symbols_in l most lit dist k r2.1 r2.2 h2) fun _ => .cond (fun _ => .err) fun _ => symbols_in l most lit dist k r1.2 _ h1
theorem codes_in (l : List Int) : ∀ d i p lens, In l p Prod.snd (codesM l d i p lens)
  | 0, i, p, lens => fun hp => by
    rw [codesM]
    exact .cond (fun _ => .ok hp) fun _ => .err
  | d + 1, i, p, lens => fun hp => by
    rw [codesM_b]
    exact Tells.bnd (bits_in l p 3) fun r1 h1 => codes_in l d (i + 1) r1.2 _ h1
theorem lengths_in (l z : List Int) (n : Nat) : ∀ k p out, In l p Prod.snd (lengthsM l z n k p out)
  | 0, p, out => fun _ => .err
  | k + 1, p, out => by
    intro hp
    rw [lengthsM_b]
    exact .cond (fun _ => Tells.bnd (sym_in l (some z) p hp) fun r1 h1 => Tells.bnd (bits_in l r1.2 (extraN r1.1)) fun r2 h2 => Tells.bnd (T := fun _ => True) (fun _ _ => trivial) fun o _ => lengths_in l z n k r2.2 o h2) fun _ => .ok hp
theorem header_in (l : List Int) (k p : Nat) : Tells (headerM l k p) fun x => x.2.2 ≤ 8 * l.length := by
  rw [headerM_b]
  exact Tells.bnd (T := fun _ => True) (fun _ _ => trivial) fun r1 _ => Tells.bnd (T := fun _ => True) (fun _ _ => trivial) fun r2 _ => .cond (fun _ => .err) fun _ => Tells.bnd (bits_in l r2.2 4) fun r3 h3 => Tells.bnd (codes_in l _ 0 r3.2 _ h3) fun r4 h4 => Tells.bnd (lengths_in l r4.1 _ k r4.2 [] h4) fun r5 h5 => .ok h5
theorem typed_in (l : List Int) (most : Int) (k p : Nat) (out : List Int) (t : Int) : In l p Prod.fst (typedM l most k p out t) := by
  intro hp
  unfold typedM
  refine .cond (fun _ => stored_in l most p out) fun _ => .cond (fun _ => symbols_in l most _ _ k p out hp) fun _ => .cond (fun _ => ?_) fun _ => .err
  rw [dynamicM_b]
  exact Tells.bnd (header_in l k p) fun r1 h1 => .cond (fun _ => .err) fun _ => .cond (fun _ => .err) fun _ => .cond (fun _ => symbols_in l most _ _ k _ out h1) fun _ => .cond (fun _ => .err) fun _ => symbols_in l most _ _ k _ out h1
theorem block_in (l : List Int) (most : Int) (k p : Nat) (out : List Int) : Tells (blockM l most k p out) fun x => x.2.1 ≤ 8 * l.length := by
  rw [blockM_b]
  exact Tells.bnd (T := fun _ => True) (fun _ _ => trivial) fun r1 _ => Tells.bnd (bits_in l r1.2 2) fun r2 h2 => Tells.bnd (typed_in l most k r2.2 out r2.1 h2) fun r3 h3 => .ok h3
theorem decode_in (l : List Int) (most : Int) (k : Nat) : ∀ d p out, Tells (decodeM l most k d p out) fun x => x.1 ≤ 8 * l.length
  | 0, p, out => .err
  | d + 1, p, out => by
    rw [decodeM]
    exact Tells.bnd (block_in l most k p out) fun r1 h1 => .cond (fun _ => .ok h1) fun _ => decode_in l most k d _ _
theorem bits_bad (l : List Int) (p n : Nat) : Bad (bitsM l p n) := by
  unfold bitsM
  exact .cond (fun _ => .ok _) fun _ => .err (by decide)
theorem sym_bad (l : List Int) (t : Option (List Int)) (p : Nat) : Bad (symM l t p) := by
  cases t with
  | none => exact .err (by decide)
  | some z => exact .cond (fun _ => .ok _) fun h => .err h
theorem stored_bad (l : List Int) (most : Int) (p : Nat) (out : List Int) : Bad (storedM l most p out) := by
  rw [storedM_b]
  exact (bits_bad _ _ _).bnd fun r1 _ => (bits_bad _ _ _).bnd fun r2 _ => .cond (fun _ => .err (by decide)) fun _ => .cond (fun _ => .err (by decide)) fun _ => .cond (fun _ => .err (by decide)) fun _ => .ok _
theorem copied_bad (l : List Int) (most : Int) (dist : Option (List Int)) (s : Int) (p : Nat) (out : List Int) : Bad (copiedM l most dist s p out) := by
  rw [copiedM_b]
  cases lenP s with
  | none => exact .err (by decide)
  | some kb =>
    refine (bits_bad _ _ _).bnd fun r1 _ => (sym_bad _ _ _).bnd fun r2 _ => ?_
    cases distP r2.1 with
    | none => exact .err (by decide)
    | some db => exact (bits_bad _ _ _).bnd fun r3 _ => .cond (fun _ => .err (by decide)) fun _ => .cond (fun _ => .err (by decide)) fun _ => .ok _
theorem alike_self (l : List Int) : Alike l l l.length := ⟨rfl, Nat.le_refl _, Nat.le_refl _⟩
theorem symbols_bad (l : List Int) (most : Int) (lit : List Int) (dist : Option (List Int)) : ∀ k p out, p ≤ 8 * l.length → 8 * l.length < k + p → Bad (symbolsM l most lit dist k p out)
  | 0, p, out => fun _ _ => by omega
  | k + 1, p, out => by
    intro hp hk
    rw [symbolsM_b]
    refine (sym_bad _ _ _).bnd fun r1 h1 => ?_
    have h2 := sym_more h1
    have h3 := sym_in l (some lit) p hp r1 h1
    refine .cond (fun _ => .ok _) fun _ => .cond (fun _ => (copied_bad l most dist r1.1 r1.2 out).bnd fun r2 h4 => ?_) fun _ => .cond (fun _ => .err (by decide)) fun _ => symbols_bad l most lit dist k r1.2 _ h3 (by omega)
    have h5 := (copied_cut (alike_self l) most dist r1.1 r1.2 out r2 h4).1
    exact symbols_bad l most lit dist k r2.1 _ (copied_in l most dist r1.1 r1.2 out r2 h4) (by omega)
theorem codes_bad (l : List Int) : ∀ d i p lens, Bad (codesM l d i p lens)
  | 0, i, p, lens => by
    rw [codesM]
    exact .cond (fun _ => .ok _) fun h => .err h
  | d + 1, i, p, lens => by
    rw [codesM_b]
    exact (bits_bad _ _ _).bnd fun r1 _ => codes_bad l d (i + 1) r1.2 _
theorem takes_bad (out : List Int) (s x : Int) (n : Nat) : Bad (takeM out s x n) := by
  unfold takeM
  exact .cond (fun _ => .err (by decide)) fun _ => .cond (fun _ => .err (by decide)) fun _ => .ok _
theorem lengths_bad (l z : List Int) (n : Nat) : ∀ k p out, p ≤ 8 * l.length → 8 * l.length < k + p → Bad (lengthsM l z n k p out)
  | 0, p, out => fun _ _ => by omega
  | k + 1, p, out => by
    intro hp hk
    rw [lengthsM_b]
    refine .cond (fun _ => (sym_bad _ _ _).bnd fun r1 h1 => (bits_bad _ _ _).bnd fun r2 h3 => (takes_bad _ _ _ _).bnd fun o _ => ?_) fun _ => .ok _
    have h2 := sym_more h1
    have h4 := bitsM_ok h3
    exact lengths_bad l z n k r2.2 o (by omega) (by omega)
theorem headers_bad (l : List Int) (k p : Nat) (hk : 8 * l.length < k) : Bad (headerM l k p) := by
  rw [headerM_b]
  refine (bits_bad _ _ _).bnd fun r1 _ => (bits_bad _ _ _).bnd fun r2 _ => .cond (fun _ => .err (by decide)) fun _ => (bits_bad _ _ _).bnd fun r3 h3 => (codes_bad _ _ _ _ _).bnd fun r4 h4 => (lengths_bad l r4.1 _ k r4.2 [] (codes_in l _ 0 r3.2 _ (bits_in l _ _ r3 h3) r4 h4) (by omega)).bnd fun r5 _ => .ok _
theorem typed_bad (l : List Int) (most : Int) (k p : Nat) (out : List Int) (t : Int) (hp : p ≤ 8 * l.length) (hk : 8 * l.length < k) : Bad (typedM l most k p out t) := by
  unfold typedM
  refine .cond (fun _ => stored_bad l most p out) fun _ => .cond (fun _ => symbols_bad l most _ _ k p out hp (by omega)) fun _ => .cond (fun _ => ?_) fun _ => .err (by decide)
  rw [dynamicM_b]
  exact (headers_bad l k p hk).bnd fun r1 h1 => .cond (fun _ => .err (by decide)) fun _ => .cond (fun h => .err h) fun _ => .cond (fun _ => symbols_bad l most _ _ k _ out (header_in l k p r1 h1) (by omega)) fun _ => .cond (fun h => .err h) fun _ => symbols_bad l most _ _ k _ out (header_in l k p r1 h1) (by omega)
theorem block_bad (l : List Int) (most : Int) (k p : Nat) (out : List Int) (hk : 8 * l.length < k) : Bad (blockM l most k p out) := by
  rw [blockM_b]
  exact (bits_bad _ _ _).bnd fun r1 _ => (bits_bad _ _ _).bnd fun r2 h2 => (typed_bad l most k r2.2 out r2.1 (bits_in l _ _ r2 h2) hk).bnd fun r3 _ => .ok _
theorem decode_bad (l : List Int) (most : Int) (k : Nat) (hk : 8 * l.length < k) : ∀ d p out, p ≤ 8 * l.length → 8 * l.length < d + p → Bad (decodeM l most k d p out)
  | 0, p, out => fun _ _ => by omega
  | d + 1, p, out => by
    intro hp hd
    rw [decodeM]
    refine (block_bad l most k p out hk).bnd fun r1 h1 => ?_
    have h2 := block_more h1
    exact .cond (fun _ => .ok _) fun _ => decode_bad l most k hk d _ _ (block_in l most k p out r1 h1) (by omega)
def inflM (l : List Int) (most : Int) : Except Int (Nat × List Int) := if most < 0 ∨ most > 65536 then .error 2 else bnd (decodeM l most (8 * l.length + 1) (8 * l.length + 1) 0 []) fun r => .ok ((r.1 + 7) / 8, r.2)
theorem infl_bad (l : List Int) (most : Int) : Bad (inflM l most) :=
  .cond (fun _ => .err (by decide)) fun _ => (decode_bad l most _ (Nat.lt_succ_self _) _ 0 [] (Nat.zero_le _) (by omega)).bnd fun r _ => .ok _
theorem infl_ok {l : List Int} {most : Int} {n : Nat} {ys : List Int} (h : inflM l most = .ok (n, ys)) : 0 ≤ most ∧ most ≤ 65536 ∧ (ys.length : Int) ≤ most ∧ ∃ p, decodeM l most (8 * l.length + 1) (8 * l.length + 1) 0 [] = .ok (p, ys) ∧ 0 < p ∧ p ≤ 8 * l.length ∧ n = (p + 7) / 8 := by
  unfold inflM at h
  split at h
  · cases h
  · next hm =>
    cases hd : decodeM l most (8 * l.length + 1) (8 * l.length + 1) 0 [] with
    | error e => rw [hd] at h; cases h
    | ok r =>
      obtain ⟨p, zs⟩ := r
      rw [hd] at h
      unfold bnd at h
      dsimp only at h
      injection h with h
      injection h with h1 h2
      subst h1 h2
      refine ⟨by omega, by omega, decode_fits l most _ _ 0 [] (by simp; omega) _ hd, p, rfl, ?_, decode_in l most _ _ 0 [] _ hd, rfl⟩
      have h3 : Tells (decodeM l most (8 * l.length + 1) (8 * l.length + 1) 0 []) fun x => 0 < x.1 := by
        rw [decodeM]
        refine Tells.bnd (T := fun r1 => 0 < r1.2.1) (fun x hx => by have := block_more hx; omega) fun r1 h1 => .cond (fun _ => .ok h1) fun _ x hx => ?_
        have h4 := (decode_cut (alike_self l) most (8 * l.length + 1) (8 * l.length + 1) (by omega) _ (8 * l.length + 1) r1.2.1 r1.2.2 (by omega) x hx).1
        omega
      exact h3 _ hd
theorem infl_same {l l' : List Int} {most : Int} {n : Nat} {ys : List Int} (h : inflM l most = .ok (n, ys)) (ha : Alike l l' n) : inflM l' most = .ok (n, ys) := by
  obtain ⟨h0, h1, h2, p, h3, h4, h5, rfl⟩ := infl_ok h
  have hc := (decode_cut ha most (8 * l.length + 1) (8 * l'.length + 1) (by omega) _ (8 * l'.length + 1) 0 [] (by omega) _ h3).2 (by omega)
  unfold inflM
  rw [if_neg (by omega), hc.1 (by dsimp only; omega)]
  rfl
theorem infl_short {l l' : List Int} {most : Int} {n : Nat} {ys : List Int} (h : inflM l most = .ok (n, ys)) {m : Nat} (ha : Alike l l' m) (hm : m < n) (hl : l'.length = m) : inflM l' most = .error 4 := by
  obtain ⟨h0, h1, h2, p, h3, h4, h5, rfl⟩ := infl_ok h
  have hc := (decode_cut ha most (8 * l.length + 1) (8 * l'.length + 1) (by omega) _ (8 * l'.length + 1) 0 [] (by omega) _ h3).2 (by omega)
  unfold inflM
  rw [if_neg (by omega), hc.2 (by dsimp only; omega) hl]
  rfl
theorem infl_used {l : List Int} {most : Int} {n : Nat} {ys : List Int} (h : inflM l most = .ok (n, ys)) : 1 ≤ n ∧ n ≤ l.length := by
  obtain ⟨h0, h1, h2, p, h3, h4, h5, rfl⟩ := infl_ok h
  omega
theorem infl_behind {l : List Int} {most : Int} {n : Nat} {ys : List Int} (h : inflM l most = .ok (n, ys)) (more : List Int) : inflM (l.take n ++ more) most = .ok (n, ys) := by
  have hn := infl_used h
  refine infl_same h ⟨?_, hn.2, ?_⟩
  · rw [List.take_append_of_le_length (by rw [List.length_take]; omega), List.take_take, Nat.min_self]
  · rw [List.length_append, List.length_take]; omega
theorem infl_less {l : List Int} {most : Int} {n : Nat} {ys : List Int} (h : inflM l most = .ok (n, ys)) : inflM (l.take (n - 1)) most = .error 4 := by
  have hn := infl_used h
  refine infl_short h (m := n - 1) ⟨?_, by omega, ?_⟩ (by omega) ?_
  · rw [List.take_take, Nat.min_self]
  · rw [List.length_take]; omega
  · rw [List.length_take]; omega
theorem infl_room {l : List Int} {most : Int} {n : Nat} {ys : List Int} (h : inflM l most = .ok (n, ys)) (most' : Int) (h0 : 0 ≤ most') (h1 : most' ≤ 65536) : ((ys.length : Int) ≤ most' → inflM l most' = .ok (n, ys)) ∧ (most' < (ys.length : Int) → inflM l most' = .error 3) := by
  obtain ⟨_, _, h2, p, h3, h4, h5, rfl⟩ := infl_ok h
  have hc := (decode_few l most most' (8 * l.length + 1) _ 0 [] _ h3).2 (by simp; omega)
  unfold inflM
  rw [if_neg (by omega)]
  exact ⟨fun h6 => by rw [hc.1 h6]; rfl, fun h6 => by rw [hc.2 h6 trivial]; rfl⟩
theorem bat_at (l : List Int) (a i : Nat) (hi : i < 8) : bat l (8 * a + i) = l.getD a 0 / 2 ^ i % 2 := by
  unfold bat
  rw [show (8 * a + i) / 8 = a by omega, show (8 * a + i) % 8 = i by omega]
theorem getV_8 (l : List Int) (a : Nat) (h0 : 0 ≤ l.getD a 0) (h1 : l.getD a 0 < 256) : getV l (8 * a) 8 = l.getD a 0 := by
  simp only [getV]
  have e0 : bat l (8 * a + 0) = l.getD a 0 / 1 % 2 := bat_at l a 0 (by omega)
  have e1 : bat l (8 * a + 1) = l.getD a 0 / 2 % 2 := bat_at l a 1 (by omega)
  have e2 : bat l (8 * a + 2) = l.getD a 0 / 4 % 2 := bat_at l a 2 (by omega)
  have e3 : bat l (8 * a + 3) = l.getD a 0 / 8 % 2 := bat_at l a 3 (by omega)
  have e4 : bat l (8 * a + 4) = l.getD a 0 / 16 % 2 := bat_at l a 4 (by omega)
  have e5 : bat l (8 * a + 5) = l.getD a 0 / 32 % 2 := bat_at l a 5 (by omega)
  have e6 : bat l (8 * a + 6) = l.getD a 0 / 64 % 2 := bat_at l a 6 (by omega)
  have e7 : bat l (8 * a + 7) = l.getD a 0 / 128 % 2 := bat_at l a 7 (by omega)
  rw [e0, e1, e2, e3, e4, e5, e6, e7]
  omega
theorem getV_add (l : List Int) (p a : Nat) : ∀ b, getV l p (a + b) = getV l p a + getV l (p + a) b * 2 ^ a
  | 0 => by simp [getV]
  | b + 1 => by
    rw [← Nat.add_assoc, getV, getV_add l p a b, getV, Int.add_mul, Nat.add_assoc p a b, Int.pow_add, Int.mul_assoc (bat l _), Int.mul_comm (2 ^ b : Int) (2 ^ a)]
    omega
theorem getV_16 (l : List Int) (a : Nat) (h0 : 0 ≤ l.getD a 0) (h1 : l.getD a 0 < 256) (h2 : 0 ≤ l.getD (a + 1) 0) (h3 : l.getD (a + 1) 0 < 256) : getV l (8 * a) 16 = l.getD a 0 + 256 * l.getD (a + 1) 0 := by
  rw [getV_add l (8 * a) 8 8, getV_8 l a h0 h1, show 8 * a + 8 = 8 * (a + 1) by omega, getV_8 l (a + 1) h2 h3]
  omega
def blockB (f : Int) (xs : List Int) : List Int := [f, (xs.length : Int) % 256, (xs.length : Int) / 256 % 256, 255 - (xs.length : Int) % 256, 255 - (xs.length : Int) / 256 % 256] ++ xs
theorem getD_mid {pre mid post : List Int} {i : Nat} (hi : i < mid.length) : (pre ++ mid ++ post).getD (pre.length + i) 0 = mid.getD i 0 := by
  rw [List.getD_eq_getElem?_getD, List.getD_eq_getElem?_getD, List.append_assoc, List.getElem?_append_right (by omega), Nat.add_sub_cancel_left, List.getElem?_append_left hi]
theorem block_stored (pre xs post out : List Int) (f : Int) (hf : f = 0 ∨ f = 1) (most : Int) (k : Nat) (hx : xs.length ≤ 60000) (hm : ((out.length + xs.length : Nat) : Int) ≤ most) :
    blockM (pre ++ blockB f xs ++ post) most k (8 * pre.length) out = .ok (f == 1, 8 * (pre.length + (blockB f xs).length), out ++ xs) := by
  have hl : (blockB f xs).length = 5 + xs.length := by simp [blockB]; omega
  have hL : (pre ++ blockB f xs ++ post).length = pre.length + (5 + xs.length) + post.length := by rw [List.length_append, List.length_append, hl]
  have g0 : (pre ++ blockB f xs ++ post).getD pre.length 0 = f := (getD_mid (i := 0) (by omega)).trans rfl
  have g1 : (pre ++ blockB f xs ++ post).getD (pre.length + 1) 0 = (xs.length : Int) % 256 := (getD_mid (i := 1) (by omega)).trans rfl
  have g2 : (pre ++ blockB f xs ++ post).getD (pre.length + 1 + 1) 0 = (xs.length : Int) / 256 % 256 := (getD_mid (i := 2) (by omega)).trans rfl
  have g3 : (pre ++ blockB f xs ++ post).getD (pre.length + 3) 0 = 255 - (xs.length : Int) % 256 := (getD_mid (i := 3) (by omega)).trans rfl
  have g4 : (pre ++ blockB f xs ++ post).getD (pre.length + 3 + 1) 0 = 255 - (xs.length : Int) / 256 % 256 := (getD_mid (i := 4) (by omega)).trans rfl
  have gs : ((pre ++ blockB f xs ++ post).drop (pre.length + 5)).take xs.length = xs := by
    rw [List.append_assoc, ← List.drop_drop, List.drop_left]
    show (xs ++ post).take xs.length = xs
    exact List.take_left
  generalize pre ++ blockB f xs ++ post = b at *
  have v1 : getV b (8 * pre.length) 1 = f := by
    have e := bat_at b pre.length 0 (by omega)
    rw [g0] at e
    simp only [getV]
    rw [e]
    rcases hf with rfl | rfl <;> decide
  have v2 : getV b (8 * pre.length + 1) 2 = 0 := by
    have e := bat_at b pre.length 1 (by omega)
    have e' := bat_at b pre.length 2 (by omega)
    rw [g0] at e e'
    simp only [getV]
    rw [show 8 * pre.length + 1 + 0 = 8 * pre.length + 1 by omega, e, show 8 * pre.length + 1 + 1 = 8 * pre.length + 2 by omega, e']
    rcases hf with rfl | rfl <;> decide
  have v3 := getV_16 b (pre.length + 1) (by rw [g1]; omega) (by rw [g1]; omega) (by rw [g2]; omega) (by rw [g2]; omega)
  have v4 := getV_16 b (pre.length + 3) (by rw [g3]; omega) (by rw [g3]; omega) (by rw [g4]; omega) (by rw [g4]; omega)
  rw [g1, g2, show (xs.length : Int) % 256 + 256 * ((xs.length : Int) / 256 % 256) = (xs.length : Int) by omega] at v3
  rw [g3, g4, show 255 - (xs.length : Int) % 256 + 256 * (255 - (xs.length : Int) / 256 % 256) = 65535 - (xs.length : Int) by omega] at v4
  have b1 : bitsM b (8 * pre.length) 1 = .ok (f, 8 * pre.length + 1) := by unfold bitsM; rw [if_pos (by omega), v1]
  have b2 : bitsM b (8 * pre.length + 1) 2 = .ok (0, 8 * pre.length + 3) := by unfold bitsM; rw [if_pos (by omega), v2]
  have b3 : bitsM b (8 * (pre.length + 1)) 16 = .ok ((xs.length : Int), 8 * (pre.length + 3)) := by unfold bitsM; rw [if_pos (by omega), v3]; congr 2; 
  have b4 : bitsM b (8 * (pre.length + 3)) 16 = .ok (65535 - (xs.length : Int), 8 * (pre.length + 5)) := by unfold bitsM; rw [if_pos (by omega), v4]; congr 2; 
  have b5 : storedM b most (8 * pre.length + 3) out = .ok (8 * (pre.length + 5) + 8 * xs.length, out ++ xs) := by
    rw [storedM_b, show (8 * pre.length + 3 + 7) / 8 * 8 = 8 * (pre.length + 1) by omega, b3]
    unfold bnd
    dsimp only
    rw [b4]
    dsimp only
    rw [if_neg (by omega), if_neg (by omega), Int.toNat_natCast, if_neg (by omega), show 8 * (pre.length + 5) / 8 = pre.length + 5 by omega, gs]
  rw [blockM_b, b1]
  unfold bnd
  dsimp only
  rw [b2]
  dsimp only
  unfold typedM
  rw [if_pos rfl, b5]
  dsimp only
  rw [hl, show 8 * (pre.length + 5) + 8 * xs.length = 8 * (pre.length + (5 + xs.length)) by omega]
def stP (rows : List (List Int)) (k : Nat) : Nat → List Int
  | 0 => []
  | i + 1 => stP rows k i ++ blockB (if i + 1 = k then 1 else 0) (rows.getD i [])
def allP (rows : List (List Int)) : Nat → List Int
  | 0 => []
  | i + 1 => allP rows i ++ rows.getD i []
theorem stP_pre (rows : List (List Int)) (k : Nat) {i : Nat} : ∀ d, ∃ post, stP rows k (i + d) = stP rows k i ++ post
  | 0 => ⟨[], by simp⟩
  | d + 1 => by
    obtain ⟨post, h⟩ := stP_pre rows k (i := i) d
    exact ⟨post ++ blockB (if i + d + 1 = k then 1 else 0) (rows.getD (i + d) []), by rw [← Nat.add_assoc, stP, h, List.append_assoc]⟩
theorem allP_le (rows : List (List Int)) (h : ∀ i, (rows.getD i []).length ≤ 3000) : ∀ i, (allP rows i).length ≤ 3000 * i
  | 0 => by simp [allP]
  | i + 1 => by
    have := h i
    have := allP_le rows h i
    rw [allP, List.length_append]
    omega
theorem stP_le (rows : List (List Int)) (k : Nat) : ∀ i, 5 * i ≤ (stP rows k i).length
  | 0 => by simp
  | i + 1 => by
    have := stP_le rows k i
    rw [stP, List.length_append]
    have : (blockB (if i + 1 = k then 1 else 0) (rows.getD i [])).length = 5 + (rows.getD i []).length := by simp [blockB]; omega
    omega
theorem decode_stored (rows : List (List Int)) (h : ∀ i, (rows.getD i []).length ≤ 3000) (k : Nat) (hk : k ≤ 12) (K : Nat) : ∀ j i d, i + (j + 1) = k → j + 1 ≤ d → decodeM (stP rows k k) 65536 K d (8 * (stP rows k i).length) (allP rows i) = .ok (8 * (stP rows k k).length, allP rows k)
  | j, i, 0, hi, hd => by omega
  | j, i, d + 1, hi, hd => by
    have hb := block_stored (stP rows k i) (rows.getD i [])
    obtain ⟨post, hp⟩ := stP_pre rows k (i := i + 1) j
    rw [show i + 1 + j = k by omega] at hp
    have ha := allP_le rows h i
    have hr := h i
    have hb := block_stored (stP rows k i) (rows.getD i []) post (allP rows i) (if i + 1 = k then 1 else 0) (by split <;> simp) 65536 K (by omega) (by omega)
    have hs : stP rows k (i + 1) = stP rows k i ++ blockB (if i + 1 = k then 1 else 0) (rows.getD i []) := rfl
    rw [← hs, ← hp, ← List.length_append, ← hs] at hb
    rw [decodeM, hb]
    unfold bnd
    dsimp only
    by_cases hl : i + 1 = k
    · rw [if_pos hl]
      rw [if_pos (by rfl), ← hl]
      rfl
    · rw [if_neg hl]
      rw [if_neg (by decide)]
      cases j with
      | zero => omega
      | succ j => exact decode_stored rows h k hk K j (i + 1) d (by omega) (by omega)
theorem infl_stored (rows : List (List Int)) (h : ∀ i, (rows.getD i []).length ≤ 3000) (k : Nat) (hk : k ≤ 12) (h1 : 1 ≤ k) : inflM (stP rows k k) 65536 = .ok ((stP rows k k).length, allP rows k) := by
  have hs := stP_le rows k k
  have hd := decode_stored rows h k hk (8 * (stP rows k k).length + 1) (k - 1) 0 (8 * (stP rows k k).length + 1) (by omega) (by omega)
  unfold inflM
  rw [if_neg (by omega), show decodeM (stP rows k k) 65536 (8 * (stP rows k k).length + 1) (8 * (stP rows k k).length + 1) 0 [] = _ from hd]
  unfold bnd
  dsimp only
  rw [show (8 * (stP rows k k).length + 7) / 8 = (stP rows k k).length by omega]
end Go.Proofs.YtgflkkjhckcipaaDoor.Pr

