-- Texts by hand and by programs of this session, joined (wip/tool/merge.py).
import Derived.Shelf.Abstract
import Derived.Shelf.RegionOpen
import Derived.OwnWalkIn
import Derived.TacticsInMore
import Derived.LoopNIn
import Derived.LoopIn
import Derived.Test.YtgflkkjhckcipaaDoorMIC13
import Derived.Recover
import Derived.Defers
import Derived.Test.YtgflkkjhckcipaaDoorMIC4
import Derived.Lib.SlBytesConst
import Derived.Test.YtgflkkjhckcipaaDoorProg
import Derived.Below
import Derived.Deep.Draws
import Derived.Deep.AppendLies
import Derived.Maps.AppendAt
import Derived.OwnWalk
import Derived.Laws.BytesArg
import Derived.Laws.MakeOwn
import Derived.Laws.OwnMore
import Derived.Deep.OwnRows
import Derived.Tactics
import Derived.Lib.ConvBytes
import Derived.Laws.Slices
import Derived.WalkKit
import Derived.KernelRfl
import Derived.RowKit3
import Derived.Deep.LoopGhost
import Derived.Deep.QuietTactic
import Derived.BigQuiet
import Derived.WideLaws
import Derived.Deep.DeepCutAuto
import Derived.Deep.CutBlock
import Derived.Deep.RegionHeld3
import Derived.Laws.Rows
import Derived.Lib.AppendStr
import Derived.ArgAppend
import Derived.Laws.IdiomCopy
import Derived.OrdersHeld
import Derived.Laws.BitsLemmas
import Derived.RowKit
import Derived.Lib.SliceRun
import Derived.Laws.BitsAllLaws
import Derived.Test.YtgflkkjhckcipaaDoorMIC1
import Derived.Test.YtgflkkjhckcipaaDoorMIC2
-- YtgflkkjhckcipaaDoorIf26
set_option maxHeartbeats 16000000
set_option maxRecDepth 1000000
namespace Go.Proofs.YtgflkkjhckcipaaDoor.Pr
open Go.RowKit Go.Shelf Go.Proofs.YtgflkkjhckcipaaDoorW.PrintWords Go.Proofs.YtgflkkjhckcipaaDoorW.PrintLast Go.Proofs.YtgflkkjhckcipaaDoorW.PrintMore
set_option linter.unusedVariables false
set_option linter.unusedSimpArgs false
def bnd {α β : Type} (r : Except Int α) (k : α → Except Int β) : Except Int β := match r with | .error e => .error e | .ok x => k x
def Lim {α : Type} (B er : Int) (sh : Prop) (p : Nat) (pl : α → Nat) (r r' : Except Int α) : Prop :=
  ∀ x, r = .ok x → p ≤ pl x ∧ ((p : Int) ≤ B → (((pl x : Nat) : Int) ≤ B → r' = .ok x) ∧ (B < ((pl x : Nat) : Int) → sh → r' = .error er))
theorem Lim.bnd {α β : Type} {B er : Int} {sh : Prop} {p : Nat} {pl : α → Nat} {pl2 : β → Nat} {r r' : Except Int α} {k k' : α → Except Int β} (h : Lim B er sh p pl r r') (hk : ∀ x, r = .ok x → Lim B er sh (pl x) pl2 (k x) (k' x)) : Lim B er sh p pl2 (bnd r k) (bnd r' k') := by
  intro y hy
  cases hr : r with
  | error e => rw [hr] at hy; cases hy
  | ok x => ?_
  rw [hr] at hy
  have h1 := h x hr
  have h2 := hk x hr y hy
  refine ⟨Nat.le_trans h1.1 h2.1, fun hp => ?_⟩
  have h3 := h1.2 hp
  by_cases hx : ((pl x : Nat) : Int) ≤ B
  · rw [h3.1 hx]; exact h2.2 hx
  have h4 := h2.1
  refine ⟨fun hy2 => absurd hy2 (by omega), fun _ hs => ?_⟩
  rw [h3.2 (by omega) hs]
  rfl
theorem Lim.same {α : Type} (B er : Int) (sh : Prop) (p : Nat) (r : Except Int α) : Lim B er sh p (fun _ => p) r r := fun x hx => ⟨Nat.le_refl _, fun hp => ⟨fun _ => hx, fun h => absurd hp (by dsimp only at h; omega)⟩⟩
theorem Lim.err {α : Type} (B er : Int) (sh : Prop) (p : Nat) (pl : α → Nat) (e : Int) (r' : Except Int α) : Lim B er sh p pl (.error e) r' := fun x hx => by cases hx
theorem Lim.ret {α : Type} (B er : Int) (sh : Prop) (p : Nat) (pl : α → Nat) (x : α) (h : pl x = p) : Lim B er sh p pl (.ok x) (.ok x) := fun y hy => by
  injection hy with hy
  subst hy
  exact ⟨by omega, fun hp => ⟨fun _ => rfl, fun h2 => absurd hp (by omega)⟩⟩
theorem Lim.cond {α : Type} {B er : Int} {sh : Prop} {p : Nat} {pl : α → Nat} {c : Prop} [Decidable c] {a b a' b' : Except Int α} (ha : c → Lim B er sh p pl a a') (hb : ¬ c → Lim B er sh p pl b b') : Lim B er sh p pl (if c then a else b) (if c then a' else b') := by
  by_cases h : c
  · rw [if_pos h, if_pos h]; exact ha h
  rw [if_neg h, if_neg h]; exact hb h
def Bad {α : Type} (r : Except Int α) : Prop := ∀ er, r = .error er → er ≠ 0
theorem Bad.bnd {α β : Type} {r : Except Int α} {k : α → Except Int β} (h : Bad r) (hk : ∀ x, r = .ok x → Bad (k x)) : Bad (bnd r k) := by
  intro er he
  cases hr : r with
  | error e =>
    rw [hr] at he
    injection he with he
    subst he
    exact h e hr
  | ok x => rw [hr] at he; exact hk x hr er he
theorem Bad.ok {α : Type} (x : α) : Bad (.ok x : Except Int α) := fun er h => by cases h
theorem Bad.err {α : Type} {e : Int} (h : e ≠ 0) : Bad (.error e : Except Int α) := fun er h2 => by injection h2 with h2; omega
theorem Bad.cond {α : Type} {c : Prop} [Decidable c] {a b : Except Int α} (ha : c → Bad a) (hb : ¬ c → Bad b) : Bad (if c then a else b) := by
  by_cases h : c
  · rw [if_pos h]; exact ha h
  rw [if_neg h]; exact hb h
def Tells {α : Type} (r : Except Int α) (T : α → Prop) : Prop := ∀ x, r = .ok x → T x
theorem Tells.bnd {α β : Type} {r : Except Int α} {k : α → Except Int β} {T : α → Prop} {T2 : β → Prop} (h : Tells r T) (hk : ∀ x, T x → Tells (k x) T2) : Tells (bnd r k) T2 := by
  intro y hy
  cases hr : r with
  | error e => rw [hr] at hy; cases hy
  | ok x => rw [hr] at hy; exact hk x (h x hr) y hy
theorem Tells.err {α : Type} {e : Int} {T : α → Prop} : Tells (.error e : Except Int α) T := fun x h => by cases h
theorem Tells.ok {α : Type} {x : α} {T : α → Prop} (h : T x) : Tells (.ok x) T := fun y e => by injection e with e; subst e; exact h
theorem Tells.cond {α : Type} {c : Prop} [Decidable c] {a b : Except Int α} {T : α → Prop} (ha : c → Tells a T) (hb : ¬ c → Tells b T) : Tells (if c then a else b) T := by
  by_cases h : c
  · rw [if_pos h]; exact ha h
  rw [if_neg h]; exact hb h
theorem storedM_b (l : List Int) (most : Int) (p : Nat) (out : List Int) : storedM l most p out = bnd (bitsM l ((p + 7) / 8 * 8) 16) fun r1 => bnd (bitsM l r1.2 16) fun r2 => if r2.1 ≠ 65535 - r1.1 then .error 5 else if r1.1 > most - (out.length : Int) then .error 3 else if ((8 * l.length - r2.2) / 8 : Nat) < r1.1.toNat then .error 4 else .ok (r2.2 + 8 * r1.1.toNat, out ++ (l.drop (r2.2 / 8)).take r1.1.toNat) := by
  unfold storedM bnd
  cases bitsM l ((p + 7) / 8 * 8) 16 with
  | error e => rfl
  | ok r1 => ?_
  obtain ⟨n, p1⟩ := r1
  dsimp only
  cases bitsM l p1 16 with
  | error e => rfl
  | ok r2 => rfl
theorem symbolsM_b (l : List Int) (most : Int) (lit : List Int) (dist : Option (List Int)) (k p : Nat) (out : List Int) : symbolsM l most lit dist (k + 1) p out = bnd (symM l (some lit) p) fun r1 => if r1.1 = 256 then .ok (r1.2, out) else if r1.1 > 256 then bnd (copiedM l most dist r1.1 r1.2 out) fun r2 => symbolsM l most lit dist k r2.1 r2.2 else if 1 > most - (out.length : Int) then .error 3 else symbolsM l most lit dist k r1.2 (out ++ [r1.1]) := by
  rw [symbolsM]
  unfold bnd
  cases symM l (some lit) p with
  | error e => rfl
  | ok r1 => ?_
  obtain ⟨s, p1⟩ := r1
  dsimp only
  split
  · rfl
  split
  · cases copiedM l most dist s p1 out with
    | error e => rfl
    | ok r2 => rfl
  rfl
theorem codesM_b (l : List Int) (d i p : Nat) (lens : List Int) : codesM l (d + 1) i p lens = bnd (bitsM l p 3) fun r1 => codesM l d (i + 1) r1.2 (lens.set (orderL.getD i 0) r1.1) := by
  rw [codesM]
  unfold bnd
  cases bitsM l p 3 with
  | error e => rfl
  | ok r1 => rfl
theorem lengthsM_b (l z : List Int) (n k p : Nat) (out : List Int) : lengthsM l z n (k + 1) p out = if out.length < n then bnd (symM l (some z) p) fun r1 => bnd (bitsM l r1.2 (extraN r1.1)) fun r2 => bnd (takeM out r1.1 r2.1 n) fun out2 => lengthsM l z n k r2.2 out2 else .ok (out, p) := by
  rw [lengthsM]
  split
  · unfold bnd
    cases symM l (some z) p with
    | error e => rfl
    | ok r1 => ?_
    obtain ⟨s, p1⟩ := r1
    dsimp only
    cases bitsM l p1 (extraN s) with
    | error e => rfl
    | ok r2 => ?_
    obtain ⟨x, p2⟩ := r2
    dsimp only
    cases takeM out s x n with
    | error e => rfl
    | ok o => rfl
  rfl
theorem headerM_b (l : List Int) (k p : Nat) : headerM l k p = bnd (bitsM l p 5) fun r1 => bnd (bitsM l r1.2 5) fun r2 => if 257 + r1.1 > 286 ∨ 1 + r2.1 > 30 then .error 3 else bnd (bitsM l r2.2 4) fun r3 => bnd (codesM l (4 + r3.1.toNat) 0 r3.2 (List.replicate 19 0)) fun r4 => bnd (lengthsM l r4.1 (257 + r1.1.toNat + (1 + r2.1.toNat)) k r4.2 []) fun r5 => .ok (r5.1.take (257 + r1.1.toNat), r5.1.drop (257 + r1.1.toNat), r5.2) := by
  unfold headerM bnd
  cases bitsM l p 5 with
  | error e => rfl
  | ok r1 => ?_
  obtain ⟨x, p1⟩ := r1
  dsimp only
  cases bitsM l p1 5 with
  | error e => rfl
  | ok r2 => ?_
  obtain ⟨y, p2⟩ := r2
  dsimp only
  split
  · rfl
  cases bitsM l p2 4 with
  | error e => rfl
  | ok r3 => ?_
  obtain ⟨q, p3⟩ := r3
  dsimp only
  cases codesM l (4 + q.toNat) 0 p3 (List.replicate 19 0) with
  | error e => rfl
  | ok r4 => ?_
  obtain ⟨z, p4⟩ := r4
  dsimp only
  cases lengthsM l z (257 + x.toNat + (1 + y.toNat)) k p4 [] with
  | error e => rfl
  | ok r5 => rfl
theorem dynamicM_b (l : List Int) (most : Int) (k p : Nat) (out : List Int) : dynamicM l most k p out = bnd (headerM l k p) fun r1 => if r1.1.getD 256 0 = 0 then .error 13 else if Hu.newS r1.1 ≠ 0 then .error (Hu.newS r1.1) else if r1.2.1.all (· == 0) then symbolsM l most r1.1 none k r1.2.2 out else if Hu.newS r1.2.1 ≠ 0 then .error (Hu.newS r1.2.1) else symbolsM l most r1.1 (some r1.2.1) k r1.2.2 out := by
  unfold dynamicM bnd
  cases headerM l k p with
  | error e => rfl
  | ok r1 => rfl
theorem blockM_b (l : List Int) (most : Int) (k p : Nat) (out : List Int) : blockM l most k p out = bnd (bitsM l p 1) fun r1 => bnd (bitsM l r1.2 2) fun r2 => bnd (typedM l most k r2.2 out r2.1) fun r3 => .ok (r1.1 == 1, r3.1, r3.2) := by
  unfold blockM bnd
  cases bitsM l p 1 with
  | error e => rfl
  | ok r1 => ?_
  obtain ⟨x, p1⟩ := r1
  dsimp only
  cases bitsM l p1 2 with
  | error e => rfl
  | ok r2 => ?_
  obtain ⟨y, p2⟩ := r2
  dsimp only
  cases typedM l most k p2 out y with
  | error e => rfl
  | ok r3 => rfl
def decodeM (l : List Int) (most : Int) (k : Nat) : Nat → Nat → List Int → Except Int (Nat × List Int)
  | 0, _, _ => .error 0
  | d + 1, p, out => bnd (blockM l most k p out) fun r => if r.1 then .ok r.2 else decodeM l most k d r.2.1 r.2.2
structure Alike (l l' : List Int) (m : Nat) : Prop where
  take : l.take m = l'.take m
  le : m ≤ l.length
  le' : m ≤ l'.length
theorem Alike.get {l l' : List Int} {m : Nat} (h : Alike l l' m) {i : Nat} (hi : i < m) : l.getD i 0 = l'.getD i 0 := by
  have h1 : (l.take m).getD i 0 = (l'.take m).getD i 0 := by rw [h.take]
  have h2 := h.le
  have h3 := h.le'
  rw [List.getD_eq_getElem?_getD, List.getD_eq_getElem?_getD, List.getElem?_take_of_lt hi, List.getElem?_take_of_lt hi] at h1
  rw [List.getD_eq_getElem?_getD, List.getD_eq_getElem?_getD]
  exact h1
theorem Alike.bat {l l' : List Int} {m : Nat} (h : Alike l l' m) {k : Nat} (hk : k < 8 * m) : bat l k = bat l' k := by
  unfold Pr.bat
  rw [h.get (by omega)]
theorem Alike.getV {l l' : List Int} {m : Nat} (h : Alike l l' m) {p : Nat} : ∀ {n : Nat}, p + n ≤ 8 * m → getV l p n = getV l' p n
  | 0, _ => rfl
  | n + 1, hn => by
    rw [Pr.getV, Pr.getV, h.getV (n := n) (by omega), h.bat (by omega)]
theorem Alike.slice {l l' : List Int} {m : Nat} (h : Alike l l' m) {a n : Nat} (hn : a + n ≤ m) : (l.drop a).take n = (l'.drop a).take n := by
  have e : ∀ x : List Int, (x.drop a).take n = (((x.take m).drop a).take n) := fun x => by
    rw [List.drop_take, List.take_take, Nat.min_eq_left (by omega)]
  rw [e l, e l', h.take]
abbrev Cut {α : Type} (m : Nat) (l' : List Int) (p : Nat) (pl : α → Nat) (r r' : Except Int α) : Prop := Lim ((8 * m : Nat) : Int) 4 (l'.length = m) p pl r r'
theorem bits_cut {l l' : List Int} {m : Nat} (h : Alike l l' m) (p n : Nat) : Cut m l' p Prod.snd (bitsM l p n) (bitsM l' p n) := by
  intro x hx
  have h1 := h.le'
  unfold bitsM at hx
  split at hx
  · injection hx with hx
    subst hx
    dsimp only
    refine ⟨by omega, fun hp => ⟨fun hx => ?_, fun hx hs => ?_⟩⟩
    · unfold bitsM
      rw [if_pos (by omega), h.getV (by omega)]
    unfold bitsM
    rw [if_neg (by omega)]
  cases hx
theorem scan_cut {l l' : List Int} {m : Nat} (h : Alike l l' m) (z : List Int) : ∀ d p v, (scan z l (8 * l.length) d p v).2.2 = 0 → ∃ q : Nat, (scan z l (8 * l.length) d p v).2.1 = (q : Int) ∧ p < q ∧ (q ≤ 8 * m → scan z l' (8 * l'.length) d p v = scan z l (8 * l.length) d p v) ∧ (p ≤ 8 * m → 8 * m < q → l'.length = m → (scan z l' (8 * l'.length) d p v).2.2 = 4)
  | 0, p, v, h0 => by simp [scan] at h0
  | d + 1, p, v, h0 => by
    have hle := h.le
    have hle' := h.le'
    by_cases hp : 8 * l.length ≤ p
    · rw [scan, if_pos hp] at h0
      exact absurd h0 (by decide)
    · by_cases hm : p < 8 * m
      · have e := h.bat hm
        rw [scan, if_neg hp, e] at h0 ⊢
        rw [scan, if_neg (show ¬ 8 * l'.length ≤ p by omega)]
        split at h0
        · next c => rw [if_pos c, if_pos c]; exact ⟨p + 1, rfl, by omega, fun _ => rfl, fun _ hq => by omega⟩
        · next c =>
          rw [if_neg c, if_neg c]
          split at h0
          · exact absurd h0 (by decide)
          · next c2 =>
            rw [if_neg c2, if_neg c2]
            obtain ⟨q, h1, h2, h3, h4⟩ := scan_cut h z d (p + 1) _ h0
            exact ⟨q, h1, by omega, h3, fun _ => h4 (by omega)⟩
      · have hq : ∃ q : Nat, (scan z l (8 * l.length) (d + 1) p v).2.1 = (q : Int) ∧ p < q := by
          rw [scan, if_neg hp] at h0 ⊢
          split at h0
          · next c => rw [if_pos c]; exact ⟨p + 1, rfl, by omega⟩
          · next c =>
            rw [if_neg c]
            split at h0
            · exact absurd h0 (by decide)
            · next c2 =>
              rw [if_neg c2]
              obtain ⟨q, h1, h2, _⟩ := scan_cut h z d (p + 1) _ h0
              exact ⟨q, h1, by omega⟩
        obtain ⟨q, h1, h2⟩ := hq
        refine ⟨q, h1, h2, fun h3 => by omega, fun _ _ hs => ?_⟩
        rw [scan, if_pos (by omega)]
theorem sym_cut {l l' : List Int} {m : Nat} (h : Alike l l' m) (t : Option (List Int)) (p : Nat) : Lim ((8 * m : Nat) : Int) 4 (l'.length = m) p Prod.snd (symM l t p) (symM l' t p) := by
  intro x hx
  cases t with
  | none => cases hx
  | some z => ?_
  unfold symM at hx ⊢
  dsimp only at hx ⊢
  split at hx
  · next h0 =>
    obtain ⟨q, h1, h2, h3, h4⟩ := scan_cut h z 15 p 0 h0
    injection hx with hx
    subst hx
    rw [h1]
    dsimp only
    rw [Int.toNat_natCast]
    refine ⟨by omega, fun hp => ⟨fun hq => ?_, fun hq hs => ?_⟩⟩
    · rw [h3 (by omega), if_pos h0, h1, Int.toNat_natCast]
    have h5 := h4 (by omega) (by omega) hs
    rw [h5, if_neg (by decide)]
  cases hx
theorem sym_more {l : List Int} {t : Option (List Int)} {p : Nat} {r : Int × Nat} (h : symM l t p = .ok r) : p < r.2 := by
  cases t with
  | none => cases h
  | some z => ?_
  unfold symM at h
  dsimp only at h
  split at h
  · next h0 =>
    obtain ⟨q, h1, h2, _⟩ := scan_cut (l := l) (l' := l) (m := l.length) ⟨rfl, Nat.le_refl _, Nat.le_refl _⟩ z 15 p 0 h0
    injection h with h
    subst h
    rw [h1]
    dsimp only
    omega
  cases h
theorem stored_cut {l l' : List Int} {m : Nat} (h : Alike l l' m) (most : Int) (p : Nat) (out : List Int) : Cut m l' p Prod.fst (storedM l most p out) (storedM l' most p out) := by
  rw [storedM_b, storedM_b]
  have hle := h.le
  have hle' := h.le'
  have hal : Cut m l' p Prod.snd (bitsM l ((p + 7) / 8 * 8) 16) (bitsM l' ((p + 7) / 8 * 8) 16) := by
    intro x hx
    have h1 := bits_cut h ((p + 7) / 8 * 8) 16 x hx
    exact ⟨by omega, fun hp => h1.2 (by omega)⟩
  refine hal.bnd fun r1 h1 => (bits_cut h r1.2 16).bnd fun r2 h2 => ?_
  obtain ⟨n, p1⟩ := r1
  obtain ⟨x, p2⟩ := r2
  have o1 := bitsM_ok h1
  have o2 := bitsM_ok h2
  have n1 := getV_range l ((p + 7) / 8 * 8) 16
  dsimp only at *
  refine .cond (fun _ => .err _ _ _ _ _ _ _) fun _ => .cond (fun _ => .err _ _ _ _ _ _ _) fun _ => ?_
  intro y hy
  split at hy
  · cases hy
  next hs =>
  injection hy with hy
  subst hy
  dsimp only
  refine ⟨by omega, fun hp => ⟨fun hq => ?_, fun hq hs => ?_⟩⟩
  · rw [if_neg (by omega), h.slice (by omega)]
  rw [if_pos (by omega)]
theorem copied_cut {l l' : List Int} {m : Nat} (h : Alike l l' m) (most : Int) (dist : Option (List Int)) (s : Int) (p : Nat) (out : List Int) : Cut m l' p Prod.fst (copiedM l most dist s p out) (copiedM l' most dist s p out) := .err _ _ _ _ _ _ _
theorem Lim.beyond {α : Type} {B er : Int} {sh : Prop} {p : Nat} {pl : α → Nat} {r r1 : Except Int α} (h : Lim B er sh p pl r r1) (hB : B < (p : Int)) (r2 : Except Int α) : Lim B er sh p pl r r2 := fun x hx => ⟨(h x hx).1, fun hp => absurd hp (by omega)⟩
theorem symbols_cut {l l' : List Int} {m : Nat} (h : Alike l l' m) (most : Int) (lit : List Int) (dist : Option (List Int)) (k : Nat) : ∀ k' p out, (p ≤ 8 * m → 8 * l'.length < k' + p) → Cut m l' p Prod.fst (symbolsM l most lit dist k p out) (symbolsM l' most lit dist k' p out) := by
  induction k with
  | zero => exact fun k' p out hk => .err _ _ _ _ _ _ _
  | succ k ih =>
    have main : ∀ k' p out, (p ≤ 8 * m → 8 * l'.length < k' + 1 + p) → Cut m l' p Prod.fst (symbolsM l most lit dist (k + 1) p out) (symbolsM l' most lit dist (k' + 1) p out) := by
      intro k' p out hk
      rw [symbolsM_b, symbolsM_b]
      refine (sym_cut h (some lit) p).bnd fun r1 h1 => ?_
      have h2 := sym_more h1
      refine .cond (fun _ => .ret _ _ _ _ _ _ rfl) fun _ => .cond (fun _ => ?_) fun _ => .cond (fun _ => .err _ _ _ _ _ _ _) fun _ => ih k' r1.2 _ (fun h3 => by have := hk (by omega); omega)
      refine (copied_cut h most dist r1.1 r1.2 out).bnd fun r2 h4 => ih k' r2.1 _ (fun h3 => ?_)
      have h5 := (copied_cut h most dist r1.1 r1.2 out r2 h4).1
      have := hk (by omega)
      omega
    intro k' p out hk
    cases k' with
    | zero =>
      have hle' := h.le'
      exact (main (8 * l'.length) p out (fun _ => by omega)).beyond (by apply Int.ofNat_lt.mpr; apply Nat.lt_of_not_le; intro hp; have := hk hp; omega) _
    | succ k' => exact main k' p out hk
theorem codes_cut {l l' : List Int} {m : Nat} (h : Alike l l' m) : ∀ d i p lens, Cut m l' p Prod.snd (codesM l d i p lens) (codesM l' d i p lens)
  | 0, i, p, lens => by
    rw [codesM, codesM]
    exact .cond (fun _ => .ret _ _ _ _ _ _ rfl) fun _ => .err _ _ _ _ _ _ _
  | d + 1, i, p, lens => by
    rw [codesM_b, codesM_b]
    exact (bits_cut h p 3).bnd fun r1 _ => codes_cut h d (i + 1) r1.2 _
theorem lengths_cut {l l' : List Int} {m : Nat} (h : Alike l l' m) (z : List Int) (n k : Nat) : ∀ k' p out, (p ≤ 8 * m → 8 * l'.length < k' + p) → Cut m l' p Prod.snd (lengthsM l z n k p out) (lengthsM l' z n k' p out) := by
  induction k with
  | zero => exact fun k' p out hk => .err _ _ _ _ _ _ _
  | succ k ih =>
    have main : ∀ k' p out, (p ≤ 8 * m → 8 * l'.length < k' + 1 + p) → Cut m l' p Prod.snd (lengthsM l z n (k + 1) p out) (lengthsM l' z n (k' + 1) p out) := by
      intro k' p out hk
      rw [lengthsM_b, lengthsM_b]
      refine .cond (fun _ => (sym_cut h (some z) p).bnd fun r1 h1 => ?_) fun _ => .ret _ _ _ _ _ _ rfl
      have h2 := sym_more h1
      refine (bits_cut h r1.2 (extraN r1.1)).bnd fun r2 h4 => ?_
      have h5 := (bits_cut h r1.2 (extraN r1.1) r2 h4).1
      exact (Lim.same _ _ _ r2.2 (takeM out r1.1 r2.1 n)).bnd fun out2 _ => ih k' r2.2 _ (fun h3 => by have := hk (by omega); omega)
    intro k' p out hk
    cases k' with
    | zero =>
      have hle' := h.le'
      exact (main (8 * l'.length) p out (fun _ => by omega)).beyond (by apply Int.ofNat_lt.mpr; apply Nat.lt_of_not_le; intro hp; have := hk hp; omega) _
    | succ k' => exact main k' p out hk
theorem header_cut {l l' : List Int} {m : Nat} (h : Alike l l' m) (k k' p : Nat) (hk : 8 * l'.length < k') : Cut m l' p (fun r => r.2.2) (headerM l k p) (headerM l' k' p) := by
  rw [headerM_b, headerM_b]
  refine (bits_cut h p 5).bnd fun r1 _ => (bits_cut h r1.2 5).bnd fun r2 _ => .cond (fun _ => .err _ _ _ _ _ _ _) fun _ => (bits_cut h r2.2 4).bnd fun r3 _ => (codes_cut h _ 0 r3.2 _).bnd fun r4 _ => (lengths_cut h r4.1 _ k k' r4.2 [] (fun _ => by omega)).bnd fun r5 _ => .ret _ _ _ _ _ _ rfl
theorem typed_cut {l l' : List Int} {m : Nat} (h : Alike l l' m) (most : Int) (k k' p : Nat) (out : List Int) (t : Int) (hk : 8 * l'.length < k') : Cut m l' p Prod.fst (typedM l most k p out t) (typedM l' most k' p out t) := by
  unfold typedM
  refine .cond (fun _ => stored_cut h most p out) fun _ => .cond (fun _ => symbols_cut h most _ _ k k' p out (fun _ => by omega)) fun _ => .cond (fun _ => ?_) fun _ => .err _ _ _ _ _ _ _
  rw [dynamicM_b, dynamicM_b]
  exact (header_cut h k k' p hk).bnd fun r1 _ => .cond (fun _ => .err _ _ _ _ _ _ _) fun _ => .cond (fun _ => .err _ _ _ _ _ _ _) fun _ => .cond (fun _ => symbols_cut h most _ _ k k' _ out (fun _ => by omega)) fun _ => .cond (fun _ => .err _ _ _ _ _ _ _) fun _ => symbols_cut h most _ _ k k' _ out (fun _ => by omega)
theorem block_more {l : List Int} {most : Int} {k p : Nat} {out : List Int} {r : Bool × Nat × List Int} (h : blockM l most k p out = .ok r) : p < r.2.1 := by
  have ha : Alike l l l.length := ⟨rfl, Nat.le_refl _, Nat.le_refl _⟩
  rw [blockM_b] at h
  have hT : Tells (blockM l most k p out) (fun r => p < r.2.1) := by
    rw [blockM_b]
    refine Tells.bnd (T := fun r1 => p < r1.2) (fun x hx => by have := bitsM_ok hx; omega) fun r1 h1 => Tells.bnd (T := fun r2 => p < r2.2) (fun x hx => by have := bitsM_ok hx; omega) fun r2 h2 => ?_
    refine Tells.bnd (T := fun r3 => p < r3.1) (fun x hx => ?_) fun r3 h3 => Tells.ok h3
    have := (typed_cut ha most k (8 * l.length + 1) r2.2 out r2.1 (by omega) x hx).1
    omega
  exact hT r (by rw [blockM_b]; exact h)
abbrev Fits {α : Type} (most : Int) (out : List Int) (ys : α → List Int) (r : Except Int α) : Prop := (out.length : Int) ≤ most → Tells r fun x => ((ys x).length : Int) ≤ most
theorem stored_fits (l : List Int) (most : Int) (p : Nat) (out : List Int) : Fits most out Prod.snd (storedM l most p out) := by
  intro ho
  rw [storedM_b]
  refine Tells.bnd (T := fun r => 0 ≤ r.1) (fun x hx => by have h1 := bitsM_ok hx; have h2 := getV_range l ((p + 7) / 8 * 8) 16; omega) fun r1 h1 => Tells.bnd (T := fun _ => True) (fun _ _ => trivial) fun r2 _ => .cond (fun _ => .err) fun _ => .cond (fun _ => .err) fun hr => .cond (fun _ => .err) fun _ => .ok ?_
  dsimp only
  rw [List.length_append, List.length_take]
  omega
theorem copied_fits (l : List Int) (most : Int) (dist : Option (List Int)) (s : Int) (p : Nat) (out : List Int) : Fits most out Prod.snd (copiedM l most dist s p out) := fun _ => .err
theorem symbols_fits (l : List Int) (most : Int) (lit : List Int) (dist : Option (List Int)) : ∀ k p out, Fits most out Prod.snd (symbolsM l most lit dist k p out)
  | 0, p, out => fun _ => .err
  | k + 1, p, out => by
    intro ho
    rw [symbolsM_b]
    refine Tells.bnd (T := fun _ => True) (fun _ _ => trivial) fun r1 _ => .cond (fun _ => .ok ho) fun _ => .cond (fun _ => Tells.bnd (copied_fits l most dist r1.1 r1.2 out ho) fun r2 h2 => symbols_fits l most lit dist k r2.1 r2.2 h2) fun _ => .cond (fun _ => .err) fun hr => symbols_fits l most lit dist k r1.2 _ ?_
    rw [List.length_append, List.length_singleton]
    omega
theorem typed_fits (l : List Int) (most : Int) (k p : Nat) (out : List Int) (t : Int) : Fits most out Prod.snd (typedM l most k p out t) := by
  intro ho
  unfold typedM
  refine .cond (fun _ => stored_fits l most p out ho) fun _ => .cond (fun _ => symbols_fits l most _ _ k p out ho) fun _ => .cond (fun _ => ?_) fun _ => .err
  rw [dynamicM_b]
  exact Tells.bnd (T := fun _ => True) (fun _ _ => trivial) fun r1 _ => .cond (fun _ => .err) fun _ => .cond (fun _ => .err) fun _ => .cond (fun _ => symbols_fits l most _ _ k _ out ho) fun _ => .cond (fun _ => .err) fun _ => symbols_fits l most _ _ k _ out ho
theorem block_fits (l : List Int) (most : Int) (k p : Nat) (out : List Int) : Fits most out (fun r => r.2.2) (blockM l most k p out) := by
  intro ho
  rw [blockM_b]
  exact Tells.bnd (T := fun _ => True) (fun _ _ => trivial) fun r1 _ => Tells.bnd (T := fun _ => True) (fun _ _ => trivial) fun r2 _ => Tells.bnd (typed_fits l most k r2.2 out r2.1 ho) fun r3 h3 => .ok h3
abbrev In {α : Type} (l : List Int) (p : Nat) (pl : α → Nat) (r : Except Int α) : Prop := p ≤ 8 * l.length → Tells r fun x => pl x ≤ 8 * l.length
theorem bits_in (l : List Int) (p n : Nat) : Tells (bitsM l p n) fun x => x.2 ≤ 8 * l.length := fun x hx => by have := bitsM_ok hx; omega
theorem sym_in (l : List Int) (t : Option (List Int)) (p : Nat) : In l p Prod.snd (symM l t p) := by
  intro hp x hx
  cases t with
  | none => cases hx
  | some z => ?_
  unfold symM at hx
  dsimp only at hx
  split at hx
  · next h0 =>
    obtain ⟨q, h1, h2, h3⟩ := scan_place z l (8 * l.length) 15 p 0 (by omega) hp h0
    injection hx with hx
    subst hx
    rw [h1]
    dsimp only
    omega
  cases hx
theorem stored_in (l : List Int) (most : Int) (p : Nat) (out : List Int) : Tells (storedM l most p out) fun x => x.1 ≤ 8 * l.length := by
  rw [storedM_b]
  refine Tells.bnd (T := fun _ => True) (fun _ _ => trivial) fun r1 _ => Tells.bnd (bits_in l r1.2 16) fun r2 h2 => .cond (fun _ => .err) fun _ => .cond (fun _ => .err) fun _ => .cond (fun _ => .err) fun _ => .ok ?_
  dsimp only at *
  omega
theorem copied_in (l : List Int) (most : Int) (dist : Option (List Int)) (s : Int) (p : Nat) (out : List Int) : Tells (copiedM l most dist s p out) fun x => x.1 ≤ 8 * l.length := .err
theorem symbols_in (l : List Int) (most : Int) (lit : List Int) (dist : Option (List Int)) : ∀ k p out, In l p Prod.fst (symbolsM l most lit dist k p out)
  | 0, p, out => fun _ => .err
  | k + 1, p, out => by
    intro hp
    rw [symbolsM_b]
    exact Tells.bnd (sym_in l (some lit) p hp) fun r1 h1 => .cond (fun _ => .ok h1) fun _ => .cond (fun _ => Tells.bnd (copied_in l most dist r1.1 r1.2 out) fun r2 h2 => symbols_in l most lit dist k r2.1 r2.2 h2) fun _ => .cond (fun _ => .err) fun _ => symbols_in l most lit dist k r1.2 _ h1
theorem codes_in (l : List Int) : ∀ d i p lens, In l p Prod.snd (codesM l d i p lens)
  | 0, i, p, lens => fun hp => by
    rw [codesM]
    exact .cond (fun _ => .ok hp) fun _ => .err
  | d + 1, i, p, lens => fun hp => by
    rw [codesM_b]
    exact Tells.bnd (bits_in l p 3) fun r1 h1 => codes_in l d (i + 1) r1.2 _ h1
theorem lengths_in (l z : List Int) (n : Nat) : ∀ k p out, In l p Prod.snd (lengthsM l z n k p out)
  | 0, p, out => fun _ => .err
  | k + 1, p, out => by
    intro hp
    rw [lengthsM_b]
    exact .cond (fun _ => Tells.bnd (sym_in l (some z) p hp) fun r1 h1 => Tells.bnd (bits_in l r1.2 (extraN r1.1)) fun r2 h2 => Tells.bnd (T := fun _ => True) (fun _ _ => trivial) fun o _ => lengths_in l z n k r2.2 o h2) fun _ => .ok hp
theorem header_in (l : List Int) (k p : Nat) : Tells (headerM l k p) fun x => x.2.2 ≤ 8 * l.length := by
  rw [headerM_b]
  exact Tells.bnd (T := fun _ => True) (fun _ _ => trivial) fun r1 _ => Tells.bnd (T := fun _ => True) (fun _ _ => trivial) fun r2 _ => .cond (fun _ => .err) fun _ => Tells.bnd (bits_in l r2.2 4) fun r3 h3 => Tells.bnd (codes_in l _ 0 r3.2 _ h3) fun r4 h4 => Tells.bnd (lengths_in l r4.1 _ k r4.2 [] h4) fun r5 h5 => .ok h5
theorem typed_in (l : List Int) (most : Int) (k p : Nat) (out : List Int) (t : Int) : In l p Prod.fst (typedM l most k p out t) := by
  intro hp
  unfold typedM
  refine .cond (fun _ => stored_in l most p out) fun _ => .cond (fun _ => symbols_in l most _ _ k p out hp) fun _ => .cond (fun _ => ?_) fun _ => .err
  rw [dynamicM_b]
  exact Tells.bnd (header_in l k p) fun r1 h1 => .cond (fun _ => .err) fun _ => .cond (fun _ => .err) fun _ => .cond (fun _ => symbols_in l most _ _ k _ out h1) fun _ => .cond (fun _ => .err) fun _ => symbols_in l most _ _ k _ out h1
theorem block_in (l : List Int) (most : Int) (k p : Nat) (out : List Int) : Tells (blockM l most k p out) fun x => x.2.1 ≤ 8 * l.length := by
  rw [blockM_b]
  exact Tells.bnd (T := fun _ => True) (fun _ _ => trivial) fun r1 _ => Tells.bnd (bits_in l r1.2 2) fun r2 h2 => Tells.bnd (typed_in l most k r2.2 out r2.1 h2) fun r3 h3 => .ok h3
theorem bits_bad (l : List Int) (p n : Nat) : Bad (bitsM l p n) := by
  unfold bitsM
  exact .cond (fun _ => .ok _) fun _ => .err (by decide)
theorem sym_bad (l : List Int) (t : Option (List Int)) (p : Nat) : Bad (symM l t p) := by
  cases t with
  | none => exact .err (by decide)
  | some z => exact .cond (fun _ => .ok _) fun h => .err h
theorem stored_bad (l : List Int) (most : Int) (p : Nat) (out : List Int) : Bad (storedM l most p out) := by
  rw [storedM_b]
  exact (bits_bad _ _ _).bnd fun r1 _ => (bits_bad _ _ _).bnd fun r2 _ => .cond (fun _ => .err (by decide)) fun _ => .cond (fun _ => .err (by decide)) fun _ => .cond (fun _ => .err (by decide)) fun _ => .ok _
theorem copied_bad (l : List Int) (most : Int) (dist : Option (List Int)) (s : Int) (p : Nat) (out : List Int) : Bad (copiedM l most dist s p out) := .err (by decide)
theorem alike_self (l : List Int) : Alike l l l.length := ⟨rfl, Nat.le_refl _, Nat.le_refl _⟩
theorem symbols_bad (l : List Int) (most : Int) (lit : List Int) (dist : Option (List Int)) : ∀ k p out, p ≤ 8 * l.length → 8 * l.length < k + p → Bad (symbolsM l most lit dist k p out)
  | 0, p, out => fun _ _ => by omega
  | k + 1, p, out => by
    intro hp hk
    rw [symbolsM_b]
    refine (sym_bad _ _ _).bnd fun r1 h1 => ?_
    have h2 := sym_more h1
    have h3 := sym_in l (some lit) p hp r1 h1
    refine .cond (fun _ => .ok _) fun _ => .cond (fun _ => (copied_bad l most dist r1.1 r1.2 out).bnd fun r2 h4 => ?_) fun _ => .cond (fun _ => .err (by decide)) fun _ => symbols_bad l most lit dist k r1.2 _ h3 (by omega)
    have h5 := (copied_cut (alike_self l) most dist r1.1 r1.2 out r2 h4).1
    exact symbols_bad l most lit dist k r2.1 _ (copied_in l most dist r1.1 r1.2 out r2 h4) (by omega)
theorem codes_bad (l : List Int) : ∀ d i p lens, Bad (codesM l d i p lens)
  | 0, i, p, lens => by
    rw [codesM]
    exact .cond (fun _ => .ok _) fun h => .err h
  | d + 1, i, p, lens => by
    rw [codesM_b]
    exact (bits_bad _ _ _).bnd fun r1 _ => codes_bad l d (i + 1) r1.2 _
theorem takes_bad (out : List Int) (s x : Int) (n : Nat) : Bad (takeM out s x n) := by
  unfold takeM
  exact .cond (fun _ => .err (by decide)) fun _ => .cond (fun _ => .err (by decide)) fun _ => .ok _
theorem lengths_bad (l z : List Int) (n : Nat) : ∀ k p out, p ≤ 8 * l.length → 8 * l.length < k + p → Bad (lengthsM l z n k p out)
  | 0, p, out => fun _ _ => by omega
  | k + 1, p, out => by
    intro hp hk
    rw [lengthsM_b]
    refine .cond (fun _ => (sym_bad _ _ _).bnd fun r1 h1 => (bits_bad _ _ _).bnd fun r2 h3 => (takes_bad _ _ _ _).bnd fun o _ => ?_) fun _ => .ok _
    have h2 := sym_more h1
    have h4 := bitsM_ok h3
    exact lengths_bad l z n k r2.2 o (by omega) (by omega)
theorem headers_bad (l : List Int) (k p : Nat) (hk : 8 * l.length < k) : Bad (headerM l k p) := by
  rw [headerM_b]
  refine (bits_bad _ _ _).bnd fun r1 _ => (bits_bad _ _ _).bnd fun r2 _ => .cond (fun _ => .err (by decide)) fun _ => (bits_bad _ _ _).bnd fun r3 h3 => (codes_bad _ _ _ _ _).bnd fun r4 h4 => (lengths_bad l r4.1 _ k r4.2 [] (codes_in l _ 0 r3.2 _ (bits_in l _ _ r3 h3) r4 h4) (by omega)).bnd fun r5 _ => .ok _
theorem typed_bad (l : List Int) (most : Int) (k p : Nat) (out : List Int) (t : Int) (hp : p ≤ 8 * l.length) (hk : 8 * l.length < k) : Bad (typedM l most k p out t) := by
  unfold typedM
  refine .cond (fun _ => stored_bad l most p out) fun _ => .cond (fun _ => symbols_bad l most _ _ k p out hp (by omega)) fun _ => .cond (fun _ => ?_) fun _ => .err (by decide)
  rw [dynamicM_b]
  exact (headers_bad l k p hk).bnd fun r1 h1 => .cond (fun _ => .err (by decide)) fun _ => .cond (fun h => .err h) fun _ => .cond (fun _ => symbols_bad l most _ _ k _ out (header_in l k p r1 h1) (by omega)) fun _ => .cond (fun h => .err h) fun _ => symbols_bad l most _ _ k _ out (header_in l k p r1 h1) (by omega)
theorem block_bad (l : List Int) (most : Int) (k p : Nat) (out : List Int) (hk : 8 * l.length < k) : Bad (blockM l most k p out) := by
  rw [blockM_b]
  exact (bits_bad _ _ _).bnd fun r1 _ => (bits_bad _ _ _).bnd fun r2 h2 => (typed_bad l most k r2.2 out r2.1 (bits_in l _ _ r2 h2) hk).bnd fun r3 _ => .ok _
theorem decode_bad (l : List Int) (most : Int) (k : Nat) (hk : 8 * l.length < k) : ∀ d p out, p ≤ 8 * l.length → 8 * l.length < d + p → Bad (decodeM l most k d p out)
  | 0, p, out => fun _ _ => by omega
  | d + 1, p, out => by
    intro hp hd
    rw [decodeM]
    refine (block_bad l most k p out hk).bnd fun r1 h1 => ?_
    have h2 := block_more h1
    exact .cond (fun _ => .ok _) fun _ => decode_bad l most k hk d _ _ (block_in l most k p out r1 h1) (by omega)
def inflM (l : List Int) (most : Int) : Except Int (Nat × List Int) := if most < 0 ∨ most > 65536 then .error 2 else bnd (decodeM l most (8 * l.length + 1) (8 * l.length + 1) 0 []) fun r => .ok ((r.1 + 7) / 8, r.2)
theorem getD_mid {pre mid post : List Int} {i : Nat} (hi : i < mid.length) : (pre ++ mid ++ post).getD (pre.length + i) 0 = mid.getD i 0 := by
  rw [List.getD_eq_getElem?_getD, List.getD_eq_getElem?_getD, List.append_assoc, List.getElem?_append_right (by omega), Nat.add_sub_cancel_left, List.getElem?_append_left hi]
end Go.Proofs.YtgflkkjhckcipaaDoor.Pr

-- YtgflkkjhckcipaaDoorIf27
namespace Go.Proofs.YtgflkkjhckcipaaDoor.Pr
open Go.RowKit Go.Shelf Go.Proofs.YtgflkkjhckcipaaDoorW.PrintWords Go.Proofs.YtgflkkjhckcipaaDoorW.PrintLast Go.Proofs.YtgflkkjhckcipaaDoorW.PrintMore
set_option linter.unusedVariables false
set_option linter.unusedSimpArgs false
section
attribute [local go_sem] Oper.semAt_some
theorem R_store_old8 {W : World} {base e g j : Nat} {v u : Value} {xs : List Int} (h : Kd.R (Kd.int .u8) e W base (fun _ => True) v xs) (hg : g < base) : Kd.R (Kd.int .u8) e (W.setCell ⟨g, j, none⟩ u) base (fun _ => True) v xs :=
  Kd.R_mono (Kd.R_far (p := ⟨g, j, none⟩) (Kd.R_mono (Kd.R_bound h) (fun k hk => (⟨trivial, by have := hk.2.1; omega⟩ : True ∧ k ≠ g))) (fun k hk => hk.2) u) (fun _ _ => trivial)
def DTold (w : World) (e : Ending) (w' : World) : Except Int (Nat × List Int) → Prop
  | .ok (n, ys) => ∃ v, e = .returned (.tuple #[v, .int .i64 (n : Int), .int .i64 0]) ∧ (Kd.int .u8).R 5 w' w.heap.size (fun _ => True) v ys ∧ Below w.heap.size w w'
  | .error er => e = .returned (.tuple #[.slice none 0 0, .int .i64 0, .int .i64 er]) ∧ Below w.heap.size w w' ∧ er ≠ 0
theorem decode_arg {w : World} {A : Option Addr} {c : Nat} {l : List Int} (most : Int) (hm : most < 0 ∨ most > 65536) :
    Calls Tryd.prog 8 #[.slice A l.length c, .int .i64 most] w fun e w' => DTold w e w' (.error 2) := by
  have hmf : ∀ (fn : Fn) (first cap : Array Value) (w : World), (Instr.makeFunc fn first cap).run Tryd.prog w = .ok (.func fn first cap) w := fun _ _ _ _ => rfl
  by_cases h0 : most < 0
  · have q0 := eq_true h0
    have q0b := decide_eq_true h0
    clear hm
    go_enter_defers Tryd.func8, Tryd.ntmps8
    go_wp2_with (first | ((with_reducible refine gate_dst (N := 4) rfl ?_); refine box_event ?hg (N := 4) ?hd (cs := #[.slice none 0 0]) (t := 22) ?hr ?_; (case hd => rfl); (case hg => rfl); (case hr => first | (go_simp; done) | (go_simp; rfl)); intro g4 hg w4 hbox hb; have HB := Ak hb; have Bg4 := Ak hbox; have Gg4 := Ak (show w.heap.size ≤ g4 from by rw [hg]; exact Nat.le_refl _); clear hg hbox hb) | ((with_reducible refine gate_dst (N := 5) rfl ?_); refine box_event ?hg (N := 5) ?hd (cs := #[.int .i64 0]) (t := 3) ?hr ?_; (case hd => rfl); (case hg => rfl); (case hr => first | (go_simp; done) | (go_simp; rfl)); intro g5 hg w5 hbox hb; have hb2 := below_then HB.out HB.out.size hb; have Bg4_ := Ak (blk_below Bg4.out hb); have Bg5 := Ak hbox; have Gg5 := Ak (show g4 < g5 from by rw [hg]; exact blk_lt Bg4.out); clear HB Bg4 hg hbox hb; have HB := Ak hb2; clear hb2; have Bg4 := Bg4_; clear Bg4_) | ((with_reducible refine gate_dst (N := 6) rfl ?_); refine box_event ?hg (N := 6) ?hd (cs := #[.int .i64 0]) (t := 24) ?hr ?_; (case hd => rfl); (case hg => rfl); (case hr => first | (go_simp; done) | (go_simp; rfl)); intro g6 hg w6 hbox hb; have hb2 := below_then HB.out HB.out.size hb; have Bg4_ := Ak (blk_below Bg4.out hb); have Bg5_ := Ak (blk_below Bg5.out hb); have Bg6 := Ak hbox; have Gg6 := Ak (show g5 < g6 from by rw [hg]; exact blk_lt Bg5.out); clear HB Bg4 Bg5 hg hbox hb; have HB := Ak hb2; clear hb2; have Bg4 := Bg4_; clear Bg4_; have Bg5 := Bg5_; clear Bg5_; have hc4 := ((blk_cell Bg4.out 0).trans rfl : w6.cell? ⟨g4, 0, none⟩ = some (.slice none 0 0)); have hf4 := blk_frozen Bg4.out 0; have hc5 := ((blk_cell Bg5.out 0).trans rfl : w6.cell? ⟨g5, 0, none⟩ = some (.int .i64 0)); have hf5 := blk_frozen Bg5.out 0; have hc6 := ((blk_cell Bg6.out 0).trans rfl : w6.cell? ⟨g6, 0, none⟩ = some (.int .i64 0)); have hf6 := blk_frozen Bg6.out 0; have n45 : g4 ≠ g5 := (by have := Gg5.out; omega); have n46 : g4 ≠ g6 := (by have := Gg5.out; have := Gg6.out; omega); have n56 : g5 ≠ g6 := (by have := Gg6.out; omega)) )
    have s4 := blk_set Bg4.out 0 (.slice none 0 0)
    have k1 : ∀ (W : World) (g j : Nat) (u : Value), j ≠ g → (W.setCell ⟨g, 0, none⟩ u).heap[j]? = W.heap[j]? := fun W g j u hne => Below.heap_setCell W ⟨g, 0, none⟩ u j hne
    have s5 := blk_set ((k1 _ g4 g5 (.slice none 0 0) (fun e => n45 e.symm)).trans Bg5.out) 0 (.int .i64 0)
    have s6 := blk_set ((k1 _ g5 g6 (.int .i64 0) (fun e => n56 e.symm)).trans ((k1 _ g4 g6 (.slice none 0 0) (fun e => n46 e.symm)).trans Bg6.out)) 0 (.int .i64 2)
    have e4 := (blk_cell ((k1 _ g6 g4 (.int .i64 2) n46).trans ((k1 _ g5 g4 (.int .i64 0) n45).trans s4)) 0).trans rfl
    have e5 := (blk_cell ((k1 _ g6 g5 (.int .i64 2) n56).trans s5) 0).trans rfl
    have e6 := (blk_cell s6 0).trans rfl
    simp [bodyPostD, Leaves, settle, results, Tryd.results8, go_sem, e4, e5, e6]
    exact ⟨rfl, ((HB.out.setCell (p := ⟨g4, 0, none⟩) Gg4.out _).setCell (p := ⟨g5, 0, none⟩) (by have h1_ := Gg4.out; have h2_ := Gg5.out; show w.heap.size ≤ g5; omega) _).setCell (p := ⟨g6, 0, none⟩) (by have h1_ := Gg4.out; have h2_ := Gg5.out; have h3_ := Gg6.out; show w.heap.size ≤ g6; omega) _, by decide⟩
  have h1 : most > 65536 := by omega
  have q0 := eq_false h0
  have q0b := decide_eq_false h0
  have q1 := eq_true (show (65536 : Int) < most from h1)
  have q1b := decide_eq_true (show (65536 : Int) < most from h1)
  clear hm
  go_enter_defers Tryd.func8, Tryd.ntmps8
  go_wp2_with (first | ((with_reducible refine gate_dst (N := 4) rfl ?_); refine box_event ?hg (N := 4) ?hd (cs := #[.slice none 0 0]) (t := 22) ?hr ?_; (case hd => rfl); (case hg => rfl); (case hr => first | (go_simp; done) | (go_simp; rfl)); intro g4 hg w4 hbox hb; have HB := Ak hb; have Bg4 := Ak hbox; have Gg4 := Ak (show w.heap.size ≤ g4 from by rw [hg]; exact Nat.le_refl _); clear hg hbox hb) | ((with_reducible refine gate_dst (N := 5) rfl ?_); refine box_event ?hg (N := 5) ?hd (cs := #[.int .i64 0]) (t := 3) ?hr ?_; (case hd => rfl); (case hg => rfl); (case hr => first | (go_simp; done) | (go_simp; rfl)); intro g5 hg w5 hbox hb; have hb2 := below_then HB.out HB.out.size hb; have Bg4_ := Ak (blk_below Bg4.out hb); have Bg5 := Ak hbox; have Gg5 := Ak (show g4 < g5 from by rw [hg]; exact blk_lt Bg4.out); clear HB Bg4 hg hbox hb; have HB := Ak hb2; clear hb2; have Bg4 := Bg4_; clear Bg4_) | ((with_reducible refine gate_dst (N := 6) rfl ?_); refine box_event ?hg (N := 6) ?hd (cs := #[.int .i64 0]) (t := 24) ?hr ?_; (case hd => rfl); (case hg => rfl); (case hr => first | (go_simp; done) | (go_simp; rfl)); intro g6 hg w6 hbox hb; have hb2 := below_then HB.out HB.out.size hb; have Bg4_ := Ak (blk_below Bg4.out hb); have Bg5_ := Ak (blk_below Bg5.out hb); have Bg6 := Ak hbox; have Gg6 := Ak (show g5 < g6 from by rw [hg]; exact blk_lt Bg5.out); clear HB Bg4 Bg5 hg hbox hb; have HB := Ak hb2; clear hb2; have Bg4 := Bg4_; clear Bg4_; have Bg5 := Bg5_; clear Bg5_; have hc4 := ((blk_cell Bg4.out 0).trans rfl : w6.cell? ⟨g4, 0, none⟩ = some (.slice none 0 0)); have hf4 := blk_frozen Bg4.out 0; have hc5 := ((blk_cell Bg5.out 0).trans rfl : w6.cell? ⟨g5, 0, none⟩ = some (.int .i64 0)); have hf5 := blk_frozen Bg5.out 0; have hc6 := ((blk_cell Bg6.out 0).trans rfl : w6.cell? ⟨g6, 0, none⟩ = some (.int .i64 0)); have hf6 := blk_frozen Bg6.out 0; have n45 : g4 ≠ g5 := (by have := Gg5.out; omega); have n46 : g4 ≠ g6 := (by have := Gg5.out; have := Gg6.out; omega); have n56 : g5 ≠ g6 := (by have := Gg6.out; omega)) )
  have s4 := blk_set Bg4.out 0 (.slice none 0 0)
  have k1 : ∀ (W : World) (g j : Nat) (u : Value), j ≠ g → (W.setCell ⟨g, 0, none⟩ u).heap[j]? = W.heap[j]? := fun W g j u hne => Below.heap_setCell W ⟨g, 0, none⟩ u j hne
  have s5 := blk_set ((k1 _ g4 g5 (.slice none 0 0) (fun e => n45 e.symm)).trans Bg5.out) 0 (.int .i64 0)
  have s6 := blk_set ((k1 _ g5 g6 (.int .i64 0) (fun e => n56 e.symm)).trans ((k1 _ g4 g6 (.slice none 0 0) (fun e => n46 e.symm)).trans Bg6.out)) 0 (.int .i64 2)
  have e4 := (blk_cell ((k1 _ g6 g4 (.int .i64 2) n46).trans ((k1 _ g5 g4 (.int .i64 0) n45).trans s4)) 0).trans rfl
  have e5 := (blk_cell ((k1 _ g6 g5 (.int .i64 2) n56).trans s5) 0).trans rfl
  have e6 := (blk_cell s6 0).trans rfl
  simp [bodyPostD, Leaves, settle, results, Tryd.results8, go_sem, e4, e5, e6]
  exact ⟨rfl, ((HB.out.setCell (p := ⟨g4, 0, none⟩) Gg4.out _).setCell (p := ⟨g5, 0, none⟩) (by have h1_ := Gg4.out; have h2_ := Gg5.out; show w.heap.size ≤ g5; omega) _).setCell (p := ⟨g6, 0, none⟩) (by have h1_ := Gg4.out; have h2_ := Gg5.out; have h3_ := Gg6.out; show w.heap.size ≤ g6; omega) _, by decide⟩
theorem decode_run {w : World} {A : Option Addr} {c : Nat} {l : List Int} (hr : RowOk w A c l) (most : Int) (hg : Handle w) (hm0 : 0 ≤ most) (hm1 : most ≤ 65536) (R : Except Int (Nat × List Int)) (hR : decodeM l most (8 * l.length + 1) (8 * l.length + 1) 0 [] = R) (hbad : ∀ er, R = .error er → er ≠ 0) (hnc : R ≠ .error (-1)) :
    Calls Tryd.prog 8 #[.slice A l.length c, .int .i64 most] w fun e w' => DTold w e w' (bnd R fun r => .ok ((r.1 + 7) / 8, r.2)) := by
  have hmf : ∀ (fn : Fn) (first cap : Array Value) (w : World), (Instr.makeFunc fn first cap).run Tryd.prog w = .ok (.func fn first cap) w := fun _ _ _ _ => rfl
  have HR := Ak hr
  have HG := Ak hg
  have HBD := Ak hbad
  have HNC := Ak hnc
  clear hnc
  have HRR := Ak hR
  have HM1 := Ak hm1
  have HM0 := Ak hm0
  have huR := Tryd.underlying51
  have huB := Tryd.underlying35
  have q0 := eq_false (show ¬ most < 0 by omega)
  have q0b := decide_eq_false (show ¬ most < 0 by omega)
  have q1 := eq_false (show ¬ (65536 : Int) < most by omega)
  have q1b := decide_eq_false (show ¬ (65536 : Int) < most by omega)
  have hlen := hr.len
  have hw8 : wrap64 (8 * (l.length : Int)) = NN l := (by rw [wrap64_id (by omega) (by omega)]; unfold NN; omega)
  clear hr hg hbad hR hm1 hm0
  go_enter_defers Tryd.func8, Tryd.ntmps8
  go_wp2_with (first | ((with_reducible refine gate_dst (N := 4) rfl ?_); refine box_event ?hg (N := 4) ?hd (cs := #[.slice none 0 0]) (t := 22) ?hr ?_; (case hd => rfl); (case hg => rfl); (case hr => first | (go_simp; done) | (go_simp; rfl)); intro g4 hg w4 hbox hb; have HB := Ak hb; have Bg4 := Ak hbox; have Gg4 := Ak (show w.heap.size ≤ g4 from by rw [hg]; exact Nat.le_refl _); clear hg hbox hb) | ((with_reducible refine gate_dst (N := 5) rfl ?_); refine box_event ?hg (N := 5) ?hd (cs := #[.int .i64 0]) (t := 3) ?hr ?_; (case hd => rfl); (case hg => rfl); (case hr => first | (go_simp; done) | (go_simp; rfl)); intro g5 hg w5 hbox hb; have hb2 := below_then HB.out HB.out.size hb; have Bg4_ := Ak (blk_below Bg4.out hb); have Bg5 := Ak hbox; have Gg5 := Ak (show g4 < g5 from by rw [hg]; exact blk_lt Bg4.out); clear HB Bg4 hg hbox hb; have HB := Ak hb2; clear hb2; have Bg4 := Bg4_; clear Bg4_) | ((with_reducible refine gate_dst (N := 6) rfl ?_); refine box_event ?hg (N := 6) ?hd (cs := #[.int .i64 0]) (t := 24) ?hr ?_; (case hd => rfl); (case hg => rfl); (case hr => first | (go_simp; done) | (go_simp; rfl)); intro g6 hg w6 hbox hb; have hb2 := below_then HB.out HB.out.size hb; have Bg4_ := Ak (blk_below Bg4.out hb); have Bg5_ := Ak (blk_below Bg5.out hb); have Bg6 := Ak hbox; have Gg6 := Ak (show g5 < g6 from by rw [hg]; exact blk_lt Bg5.out); clear HB Bg4 Bg5 hg hbox hb; have HB := Ak hb2; clear hb2; have Bg4 := Bg4_; clear Bg4_; have Bg5 := Bg5_; clear Bg5_) | ((with_reducible refine gate_dst (N := 22) rfl ?_); refine box_event ?hg (N := 22) ?hd (cs := #[.slice A l.length c, .int .i64 (NN l), .int .i64 0, .slice none 0 0, .int .i64 most]) (t := 51) ?hr ?_; (case hd => rfl); (case hg => rfl); (case hr => first | (go_simp; done) | (go_simp; rfl)); intro g hg w9 hbox hb; have AT := Ak (show RdrAt w6 w9 g A c l (NN l) ((0 : Nat) : Int) (.slice none 0 0) [] most from ⟨hb, by rw [hg]; exact Nat.le_refl _, hbox, Kd.R_nil _ _ _ _ _⟩); clear hg hbox hb) )
  have HR6 := Ak (show RowOk w6 A c l from ⟨Kd.C_below HR.out.C HB.out, HR.out.cap, HR.out.byt, HR.out.len⟩)
  have HG6 := Ak (HG.out.on HB.out HG.out.pos)
  go_loopg [] (8 * l.length + 1) (fun kq w' => ∃ (p' : Nat) (ys : List Int) (v1 : Value), Aside0 (RdrAt w6 w' g A c l (NN l) (p' : Int) v1 ys most) ∧ Aside0 (p' ≤ 8 * l.length) ∧ Aside0 ((ys.length : Int) ≤ most) ∧ Aside0 (decodeM l most (8 * l.length + 1) kq p' ys = R) ∧ Aside0 (8 * l.length < kq + p'))
  case atStart => exact ⟨0, [], .slice none 0 0, AT, ⟨Nat.zero_le _⟩, ⟨by simpa using HM0.out⟩, HRR, ⟨by omega⟩⟩
  case round =>
    clear AT HRR
    obtain ⟨p0, ys, v1, AT, HP, HM0_, HRR, HK⟩ := hrel
    obtain ⟨A1, c1, rfl⟩ := Kd.R_slice AT.out.row
    have hRR := HRR.out
    clear HRR
    cases gk with
    | zero => exact absurd HK.out (by have := HP.out; omega)
    | succ k1 => ?_
    rw [decodeM] at hRR
    cases h1 : blockM l most (8 * l.length + 1) p0 ys with
    | error er =>
      rw [h1] at hRR
      have HRR := Ak (show R = .error er from hRR.symm)
      have H1 := Ak h1
      clear h1 hRR
      go_wp2_with (go_at_call 15; have hcc := block_told HR6.out _ g p0 (.slice A1 ys.length c1) ys most AT.out HP.out HM0_.out HM1.out (8 * l.length + 1) (Nat.lt_succ_self _) (by rw [H1.out]; intro h_; first | (injection h_ with h_; exact HNC.out (by rw [HRR.out, h_])) | cases h_); rw [H1.out] at hcc; refine hcc.mono ?_; clear hcc; rintro e w' ⟨pp, rfl, hfa, hb⟩; obtain ⟨qq, hpp, hqq⟩ := hfa; have HF := Ak (AT.out.below.trans hb); have HPP := Ak hpp; have HQQ := Ak hqq; clear hpp hqq hb)
      refine leaves_cons (f := 13) (args := #[.pointer (some ⟨g4, 0, none⟩), .pointer (some ⟨g5, 0, none⟩), .pointer (some ⟨g6, 0, none⟩)]) (by simp) (by simp [go_sem]) ?_
      refine (dcatch w.heap.size g4 g5 g6 pp qq _ _ _ _ _ _ er [] _ Gg4.out Gg5.out Gg6.out (HG6.out.on HF.out HG6.out.pos) (blk_below Bg4.out HF.out) (blk_below Bg5.out HF.out) (blk_below Bg6.out HF.out) HPP.out HQQ.out).mono ?_
      rintro e u' w'' ⟨rfl, rfl, hc4, hc5, hc6, hbw⟩
      have HBF := Ak (HB.out.trans ((HF.out.mono HB.out.size).trans hbw))
      clear hbw
      simp [Leaves, settle, results, Tryd.results8, go_sem, hc4, hc5, hc6]
      rw [HRR.out]
      exact ⟨rfl, HBF.out, HBD.out _ HRR.out⟩
    | ok r1 => ?_
    obtain ⟨last, p1, zs⟩ := r1
    rw [h1] at hRR
    have hmo := block_more h1
    have hfi := block_fits l most (8 * l.length + 1) p0 ys HM0_.out _ h1
    dsimp only at hmo hfi
    have H1 := Ak h1
    have hKK := HK.out
    have HM2 := Ak hfi
    clear h1 hfi
    cases last with
    | false =>
      have HRR := Ak (show decodeM l most (8 * l.length + 1) k1 p1 zs = R from hRR)
      have HKN := Ak (show 8 * l.length < k1 + p1 by omega)
      clear hRR hmo hKK
      go_wp2_with (go_at_call 15; have hcc := block_told HR6.out _ g p0 (.slice A1 ys.length c1) ys most AT.out HP.out HM0_.out HM1.out (8 * l.length + 1) (Nat.lt_succ_self _) (by rw [H1.out]; intro h_; first | (injection h_ with h_; exact HNC.out (by rw [HRR.out, h_])) | cases h_); rw [H1.out] at hcc; refine hcc.mono ?_; clear hcc; rintro e w' ⟨rfl, hq_, v2, hat_, hm_⟩; clear AT HP; have AT := Ak hat_; have HP := Ak hq_; clear hat_ hq_ hm_)
      go_roundg k1
      case measure => omega
      case rel => exact ⟨p1, zs, _, AT, HP, HM2, HRR, HKN⟩
    | true => ?_
    have HRR := Ak (show R = .ok (p1, zs) from hRR.symm)
    have hp1 : p1 ≤ 8 * l.length := block_in l most (8 * l.length + 1) p0 ys _ H1.out
    have hw7 : wrap64 ((p1 : Int) + 7) = ((p1 + 7 : Nat) : Int) := (by rw [wrap64_id (by omega) (by omega)]; omega)
    have hs3 : shr .i64 ((p1 + 7 : Nat) : Int) 3 = (((p1 + 7) / 8 : Nat) : Int) := (by rw [show (3 : Int) = ((3 : Nat) : Int) from rfl, shr_eq _ 3 (by omega)]; omega)
    clear hRR hmo hKK hp1
    go_upto_region 6 with (go_at_call 15; have hcc := block_told HR6.out _ g p0 (.slice A1 ys.length c1) ys most AT.out HP.out HM0_.out HM1.out (8 * l.length + 1) (Nat.lt_succ_self _) (by rw [H1.out]; intro h_; first | (injection h_ with h_; exact HNC.out (by rw [HRR.out, h_])) | cases h_); rw [H1.out] at hcc; refine hcc.mono ?_; clear hcc; rintro e wz ⟨rfl, hq_, v2, hat_, hm_⟩; clear AT HP; have AT := Ak hat_; have HP := Ak hq_; clear hat_ hq_ hm_)
    obtain ⟨A2, c2, rfl⟩ := Kd.R_slice AT.out.row
    have F4 := Ak (blk_below Bg4.out AT.out.below)
    have F5 := Ak (blk_below Bg5.out AT.out.below)
    have F6 := Ak (blk_below Bg6.out AT.out.below)
    have HBZ := Ak (HB.out.trans (AT.out.below.mono HB.out.size))
    have HO := Ak AT.out.row
    have BG := Ak AT.out.blk
    have GG := Ak (show g6 < g from Nat.lt_of_lt_of_le (blk_lt Bg6.out) AT.out.ge)
    have L6 := Ak (blk_lt Bg6.out)
    have HS6 := Ak HB.out.size
    clear AT Bg4 Bg5 Bg6 HB
    have hb := below_drew (Below.refl wz.heap.size wz)
    replace F4 := Ak (blk_below F4.out hb)
    replace F5 := Ak (blk_below F5.out hb)
    replace F6 := Ak (blk_below F6.out hb)
    replace BG := Ak (blk_below BG.out hb)
    replace HO := Ak (Kd.R_below HO.out hb)
    replace HBZ := Ak (HBZ.out.trans (hb.mono HBZ.out.size))
    clear hb
    refine wp_onlyN ?_
    refine start_ (n := 13) (S := fun w' => w'.cell? ⟨g, 3, none⟩ = some (.slice A2 zs.length c2) ∧ w'.cell? ⟨g, 2, none⟩ = some (.int .i64 (p1 : Int))) (ds := [12]) #[false, false, false, false, false, false, false, false, false, false, false, false, false] (by kernel_rfl) rfl rfl ⟨(blk_cell BG.out 3).trans rfl, (blk_cell BG.out 2).trans rfl⟩ (fun hHeld => ?_)
    generalize wz.drew = wa at F4 F5 F6 BG HO HBZ hHeld ⊢
    refine pq_ (i := 0) (N := some 26) ?_
    refine pq_ (i := 1) (N := some 27) ?_
    refine pq_ (i := 2) (N := some 28) ?_
    refine pq_ (i := 4) (N := some 30) ?_
    refine pq_ (i := 5) (N := some 31) ?_
    refine pq_ (i := 6) (N := some 32) ?_
    refine tq_ (i := 3) (N := some 29) ?_ hHeld
    refine tq_ (i := 7) (N := some 33) ?_ hHeld
    refine pq_ (i := 8) (N := some 34) ?_
    refine pq_ (i := 9) (N := some 35) ?_
    refine one_ (i := 10) (N := none) #[true, true, true, true, true, true, true, true, true, true, true, false, false] rfl rfl (by kernel_rfl) (by decide) (fun K hK => ?_)
    have hz := ((blk_cell F4.out 0).trans rfl : wa.cell? ⟨g4, 0, none⟩ = some (.slice none 0 0))
    have hf := blk_frozen F4.out 0
    refine skip_ (w1 := ?_) (by rfl) rfl ?_ ?_
    rotate_left
    · go_simp
      rfl
    clear hz hf
    replace F4 := Ak (blk_set F4.out 0 (.slice A2 zs.length c2))
    replace F5 := Ak ((Below.heap_setCell wa ⟨g4, 0, none⟩ (.slice A2 zs.length c2) g5 (by have h1 := Gg5.out; have h2 := Gg6.out; have h4 := GG.out; have h5 := L6.out; have h6 := Gg4.out; show g5 ≠ g4; omega)).trans F5.out)
    replace F6 := Ak ((Below.heap_setCell wa ⟨g4, 0, none⟩ (.slice A2 zs.length c2) g6 (by have h1 := Gg5.out; have h2 := Gg6.out; have h4 := GG.out; have h5 := L6.out; have h6 := Gg4.out; show g6 ≠ g4; omega)).trans F6.out)
    replace BG := Ak ((Below.heap_setCell wa ⟨g4, 0, none⟩ (.slice A2 zs.length c2) g (by have h1 := Gg5.out; have h2 := Gg6.out; have h4 := GG.out; have h5 := L6.out; have h6 := Gg4.out; show g ≠ g4; omega)).trans BG.out)
    replace HO := Ak (R_store_old8 (g := g4) (j := 0) (u := (.slice A2 zs.length c2)) HO.out (by have h1 := Gg5.out; have h2 := Gg6.out; have h4 := GG.out; have h5 := L6.out; have h6 := Gg4.out; omega))
    replace HBZ := Ak (HBZ.out.setCell (p := ⟨g4, 0, none⟩) (by have h1 := Gg5.out; have h2 := Gg6.out; have h4 := GG.out; have h5 := L6.out; have h6 := Gg4.out; show w.heap.size ≤ g4; omega) (.slice A2 zs.length c2))
    generalize (wa.setCell ⟨g4, 0, none⟩ (.slice A2 zs.length c2)) = wb at F4 F5 F6 BG HO HBZ ⊢
    refine hK.out _ _ ⟨(blk_cell BG.out 3).trans rfl, (blk_cell BG.out 2).trans rfl⟩ (fun hHeld => ?_)
    clear hK K
    refine one_ (i := 11) (N := none) #[true, true, true, true, true, true, true, true, true, true, true, true, false] rfl rfl (by kernel_rfl) (by decide) (fun K hK => ?_)
    have hz := ((blk_cell F5.out 0).trans rfl : wb.cell? ⟨g5, 0, none⟩ = some (.int .i64 0))
    have hf := blk_frozen F5.out 0
    refine skip_ (w1 := ?_) (by rfl) rfl ?_ ?_
    rotate_left
    · go_simp
      rfl
    clear hz hf
    replace F4 := Ak ((Below.heap_setCell wb ⟨g5, 0, none⟩ (.int .i64 (((p1 : Int) + 7) / 8)) g4 (by have h1 := Gg5.out; have h2 := Gg6.out; have h4 := GG.out; have h5 := L6.out; have h6 := Gg4.out; show g4 ≠ g5; omega)).trans F4.out)
    replace F5 := Ak (blk_set F5.out 0 (.int .i64 (((p1 : Int) + 7) / 8)))
    replace F6 := Ak ((Below.heap_setCell wb ⟨g5, 0, none⟩ (.int .i64 (((p1 : Int) + 7) / 8)) g6 (by have h1 := Gg5.out; have h2 := Gg6.out; have h4 := GG.out; have h5 := L6.out; have h6 := Gg4.out; show g6 ≠ g5; omega)).trans F6.out)
    replace BG := Ak ((Below.heap_setCell wb ⟨g5, 0, none⟩ (.int .i64 (((p1 : Int) + 7) / 8)) g (by have h1 := Gg5.out; have h2 := Gg6.out; have h4 := GG.out; have h5 := L6.out; have h6 := Gg4.out; show g ≠ g5; omega)).trans BG.out)
    replace HO := Ak (R_store_old8 (g := g5) (j := 0) (u := (.int .i64 (((p1 : Int) + 7) / 8))) HO.out (by have h1 := Gg5.out; have h2 := Gg6.out; have h4 := GG.out; have h5 := L6.out; have h6 := Gg4.out; omega))
    replace HBZ := Ak (HBZ.out.setCell (p := ⟨g5, 0, none⟩) (by have h1 := Gg5.out; have h2 := Gg6.out; have h4 := GG.out; have h5 := L6.out; have h6 := Gg4.out; show w.heap.size ≤ g5; omega) (.int .i64 (((p1 : Int) + 7) / 8)))
    generalize (wb.setCell ⟨g5, 0, none⟩ (.int .i64 (((p1 : Int) + 7) / 8))) = wc at F4 F5 F6 BG HO HBZ ⊢
    refine hK.out _ _ ⟨(blk_cell BG.out 3).trans rfl, (blk_cell BG.out 2).trans rfl⟩ (fun hHeld => ?_)
    clear hK K
    refine last_ (i := 12) (N := none) #[true, true, true, true, true, true, true, true, true, true, true, true, true] rfl rfl (by kernel_rfl) (by decide) (fun K hK => ?_)
    have hz := ((blk_cell F6.out 0).trans rfl : wc.cell? ⟨g6, 0, none⟩ = some (.int .i64 0))
    have hf := blk_frozen F6.out 0
    refine skip_ (w1 := ?_) (by rfl) rfl ?_ ?_
    rotate_left
    · go_simp
      rfl
    clear hz hf
    replace F4 := Ak ((Below.heap_setCell wc ⟨g6, 0, none⟩ (.int .i64 0) g4 (by have h1 := Gg5.out; have h2 := Gg6.out; have h4 := GG.out; have h5 := L6.out; have h6 := Gg4.out; show g4 ≠ g6; omega)).trans F4.out)
    replace F5 := Ak ((Below.heap_setCell wc ⟨g6, 0, none⟩ (.int .i64 0) g5 (by have h1 := Gg5.out; have h2 := Gg6.out; have h4 := GG.out; have h5 := L6.out; have h6 := Gg4.out; show g5 ≠ g6; omega)).trans F5.out)
    replace F6 := Ak (blk_set F6.out 0 (.int .i64 0))
    replace BG := Ak ((Below.heap_setCell wc ⟨g6, 0, none⟩ (.int .i64 0) g (by have h1 := Gg5.out; have h2 := Gg6.out; have h4 := GG.out; have h5 := L6.out; have h6 := Gg4.out; show g ≠ g6; omega)).trans BG.out)
    replace HO := Ak (R_store_old8 (g := g6) (j := 0) (u := (.int .i64 0)) HO.out (by have h1 := Gg5.out; have h2 := Gg6.out; have h4 := GG.out; have h5 := L6.out; have h6 := Gg4.out; omega))
    replace HBZ := Ak (HBZ.out.setCell (p := ⟨g6, 0, none⟩) (by have h1 := Gg5.out; have h2 := Gg6.out; have h4 := GG.out; have h5 := L6.out; have h6 := Gg4.out; show w.heap.size ≤ g6; omega) (.int .i64 0))
    generalize (wc.setCell ⟨g6, 0, none⟩ (.int .i64 0)) = wd at F4 F5 F6 BG HO HBZ ⊢
    refine hK.out _ _ ?_
    clear hK K
    refine done_ (by kernel_rfl) ?_
    refine onlyN_normal ?_
    go_wp2
    refine leaves_cons (f := 13) (args := #[.pointer (some ⟨g4, 0, none⟩), .pointer (some ⟨g5, 0, none⟩), .pointer (some ⟨g6, 0, none⟩)]) (by simp) (by simp [go_sem]) ?_
    refine (didle g4 g5 g6 _).mono ?_
    rintro e u' w'' ⟨rfl, rfl, rfl⟩
    have hc4 := ((blk_cell F4.out 0).trans rfl : w''.cell? ⟨g4, 0, none⟩ = some (.slice A2 zs.length c2))
    have hc5 := ((blk_cell F5.out 0).trans rfl : w''.cell? ⟨g5, 0, none⟩ = some (.int .i64 (((p1 : Int) + 7) / 8)))
    have hc6 := ((blk_cell F6.out 0).trans rfl : w''.cell? ⟨g6, 0, none⟩ = some (.int .i64 0))
    simp [Leaves, settle, results, Tryd.results8, go_sem, hc4, hc5, hc6]
    rw [HRR.out]
    refine ⟨_, ?_, Kd.R_lower HO.out HS6.out, HBZ.out⟩
    show _ = Ending.returned (.tuple #[_, .int .i64 (((p1 + 7) / 8 : Nat) : Int), .int .i64 0])
    rw [show (((p1 + 7) / 8 : Nat) : Int) = ((p1 : Int) + 7) / 8 by omega]
end
theorem decode_told {w : World} {A : Option Addr} {c : Nat} {l : List Int} (hr : RowOk w A c l) (most : Int) (hg : Handle w) (hnc : inflM l most ≠ .error (-1)) :
    Calls Tryd.prog 8 #[.slice A l.length c, .int .i64 most] w fun e w' => DTold w e w' (inflM l most) := by
  by_cases hm : most < 0 ∨ most > 65536
  · unfold inflM
    rw [if_pos hm]
    exact decode_arg most hm
  unfold inflM at hnc ⊢
  rw [if_neg hm] at hnc ⊢
  exact decode_run hr most hg (by omega) (by omega) _ rfl (decode_bad l most _ (Nat.lt_succ_self _) _ 0 [] (Nat.zero_le _) (by omega)) (fun h => hnc (by rw [h]; rfl))
end Go.Proofs.YtgflkkjhckcipaaDoor.Pr

-- YtgflkkjhckcipaaDoorIf28
namespace Go.Proofs.YtgflkkjhckcipaaDoor.Pr
open Go.RowKit Go.Shelf Go.Proofs.YtgflkkjhckcipaaDoorW.PrintWords Go.Proofs.YtgflkkjhckcipaaDoorW.PrintLast Go.Proofs.YtgflkkjhckcipaaDoorW.PrintMore
set_option linter.unusedVariables false
set_option linter.unusedSimpArgs false
def bytB (l : List Int) : Bool := l.all (fun x => decide (0 ≤ x ∧ x < 256)) && decide (l.length ≤ 1000000)
theorem bytB_iff {l : List Int} : bytB l = true ↔ Byt l ∧ l.length ≤ 1000000 := by
  unfold bytB Byt
  rw [Bool.and_eq_true, decide_eq_true_eq, List.all_eq_true]
  exact and_congr_left fun _ => ⟨fun h x hx => of_decide_eq_true (h x hx), fun h x hx => decide_eq_true (h x hx)⟩
def decS (l : List Int) (most : Int) : List Int × Int × Int := match inflM l most with
  | .ok (n, ys) => (ys, (n : Int), 0)
  | .error er => ([], 0, er)
def noCopy (r : Except Int (Nat × List Int)) : Bool := match r with
  | .error e => e != -1
  | .ok _ => true
theorem noCopy_ne {r : Except Int (Nat × List Int)} (h : noCopy r = true) : r ≠ .error (-1) := fun e => by
  rw [e] at h
  exact absurd h (by decide)
end Go.Proofs.YtgflkkjhckcipaaDoor.Pr

-- YtgflkkjhckcipaaDoorIf29
namespace Go.Proofs.YtgflkkjhckcipaaDoor.Pr
open Go.RowKit Go.Shelf Go.Proofs.YtgflkkjhckcipaaDoorW.PrintWords Go.Proofs.YtgflkkjhckcipaaDoorW.PrintLast Go.Proofs.YtgflkkjhckcipaaDoorW.PrintMore
set_option linter.unusedVariables false
set_option linter.unusedSimpArgs false
section
attribute [local go_sem] Oper.semAt_some
theorem blk_cell2 {w : World} {g : Nat} {cells : Array Value} {t : TypeId} {fr : Nat × Nat} (h : w.heap[g]? = some (.cells cells t fr)) (j : Nat) : w.cell? ⟨g, j, none⟩ = cells[j]? := by
  simp [World.cell?, h]
theorem lit_C (w : World) (xs : List Int) (t : TypeId) (fr : Nat × Nat) (hl : xs.length ≤ 1000) : Kd.C (Kd.int .u8) (w.alloc (.cells (nums .u8 xs).toArray t fr)) (some ⟨w.heap.size, 0, none⟩) xs.length xs := by
  refine Kd.C_of_reads (d := (0 : Int)) (h1 := fun _ => rfl) ⟨rfl, by omega, fun _ => ⟨_, rfl, fun j hj => ?_⟩⟩
  have hb := blk_new w (.cells (nums .u8 xs).toArray t fr)
  have e : (⟨w.heap.size, 0, none⟩ : Addr).add j = ⟨w.heap.size, j, none⟩ := by
    simp [Addr.add]
    intro h
    exact h.symm
  rw [e]
  refine (blk_cell2 hb j).trans ?_
  simp [nums, List.getD_eq_getElem?_getD, hj]
theorem conv_const (w : World) (C : Array Value) (n c : Nat) : (convert 22 22 (.slice (some ⟨w.heap.size, 0, none⟩) n c)).run Tryd.prog (w.alloc (.cells C 5)) = .ok (.slice (some ⟨w.heap.size, 0, none⟩) n c) (w.alloc (.cells C 5 (C.size, C.size + 1))) := Go.Lib.run_convert_bytes_const w 22 5 C n c Tryd.underlying22 Tryd.underlying5
attribute [local go_sem] conv_const
theorem abc_told (w : World) : Calls Tryd.prog 12 #[] w fun e w' => e = .returned (.slice (some ⟨w.heap.size, 0, none⟩) 8 8) ∧ w' = w.alloc (.cells #[.int .u8 1, .int .u8 3, .int .u8 0, .int .u8 252, .int .u8 255, .int .u8 97, .int .u8 98, .int .u8 99] 5 (8, 9)) := by
  go_enter Tryd.func12, Tryd.ntmps12
  go_wp2
  go_ret
  exact ⟨rfl, rfl⟩
theorem symM_of {l z : List Int} {p N q : Nat} {s : Int} (hN : 8 * l.length = N) (h : scan z l N 15 p 0 = (s, (q : Int), 0)) : symM l (some z) p = .ok (s, q) := by
  subst hN
  unfold symM
  dsimp only
  rw [h]
  simp
theorem ex1 : bytB [1, 3, 0, 252, 255, 97, 98, 99] = true ∧ decS [1, 3, 0, 252, 255, 97, 98, 99] 3 = ([97, 98, 99], 8, 0) := by decide +kernel
theorem sy20 : symM [75, 4, 0] (some fixLit) 3 = .ok (97, 11) := symM_of (N := 24) rfl (by decide +kernel)
theorem sy21 : symM [75, 4, 0] (some fixLit) 11 = .ok (256, 18) := symM_of (N := 24) rfl (by decide +kernel)
theorem ex2 : bytB [75, 4, 0] = true ∧ decS [75, 4, 0] 9 = ([97], 3, 0) := by
  refine ⟨by decide +kernel, ?_⟩
  have hs : symbolsM [75, 4, 0] 9 fixLit (some fixDist) 25 3 [] = .ok (18, [97]) := by
    rw [symbolsM_b, sy20]
    unfold bnd
    dsimp only
    rw [if_neg (by decide), if_neg (by decide), if_neg (by decide), symbolsM_b, sy21]
    rfl
  have hb : blockM [75, 4, 0] 9 25 0 [] = .ok (true, 18, [97]) := by
    rw [blockM_b, show bitsM [75, 4, 0] 0 1 = .ok (1, 1) from rfl]
    unfold bnd
    dsimp only
    rw [show bitsM [75, 4, 0] 1 2 = .ok (1, 3) from rfl]
    dsimp only
    unfold typedM
    rw [if_neg (by decide), if_pos rfl, show fixedM [75, 4, 0] 9 25 3 [] = _ from hs]
    rfl
  unfold decS inflM
  rw [if_neg (by decide), show decodeM [75, 4, 0] 9 (8 * ([75, 4, 0] : List Int).length + 1) (8 * ([75, 4, 0] : List Int).length + 1) 0 [] = .ok (18, [97]) from by
    show decodeM [75, 4, 0] 9 25 (24 + 1) 0 [] = _
    rw [decodeM, hb]
    rfl]
  rfl
theorem ex3 : bytB [7] = true ∧ decS [7] 9 = ([], 0, 13) := by decide +kernel
theorem ex4 : bytB [1, 3, 0, 253, 255, 97, 98, 99] = true ∧ decS [1, 3, 0, 253, 255, 97, 98, 99] 9 = ([], 0, 5) := by decide +kernel
theorem sy50 : symM [3, 0] (some fixLit) 3 = .ok (256, 10) := symM_of (N := 16) rfl (by decide +kernel)
theorem ex5 : bytB [3, 0] = true ∧ decS [3, 0] 0 = ([], 2, 0) := by
  refine ⟨by decide +kernel, ?_⟩
  have hs : symbolsM [3, 0] 0 fixLit (some fixDist) 17 3 [] = .ok (10, []) := by
    rw [symbolsM_b, sy50]
    unfold bnd
    dsimp only
    rw [if_pos rfl]
  have hb : blockM [3, 0] 0 17 0 [] = .ok (true, 10, []) := by
    rw [blockM_b, show bitsM [3, 0] 0 1 = .ok (1, 1) from rfl]
    unfold bnd
    dsimp only
    rw [show bitsM [3, 0] 1 2 = .ok (1, 3) from rfl]
    dsimp only
    unfold typedM
    rw [if_neg (by decide), if_pos rfl, show fixedM [3, 0] 0 17 3 [] = _ from hs]
    rfl
  unfold decS inflM
  rw [if_neg (by decide), show decodeM [3, 0] 0 (8 * ([3, 0] : List Int).length + 1) (8 * ([3, 0] : List Int).length + 1) 0 [] = .ok (10, []) from by
    show decodeM [3, 0] 0 17 (16 + 1) 0 [] = _
    rw [decodeM, hb]
    rfl]
  rfl
theorem dec_ex {l : List Int} {a : Int} {ys : List Int} {n er : Int} (h : bytB l = true ∧ decS l a = (ys, n, er)) (her : er ≠ -1) (A : Option Addr) (c m : Nat) (w : World) (hm : l.length = m) (hC : Kd.C (Kd.int .u8) w A m l) (hc : m ≤ c) (hg : Handle w) :
    Calls Tryd.prog 8 #[.slice A m c, .int .i64 a] w fun e w' => ∃ v, e = .returned (.tuple #[v, .int .i64 n, .int .i64 er]) ∧ (Kd.int .u8).R 5 w' w.heap.size (fun _ => True) v ys ∧ Below w.heap.size w w' := by
  subst hm
  obtain ⟨hb, hd⟩ := h
  have hb2 := bytB_iff.1 hb
  have hnc : inflM l a ≠ .error (-1) := by
    intro hh
    unfold decS at hd
    rw [hh] at hd
    injection hd with _ h2
    injection h2 with _ h3
    exact her h3.symm
  refine (decode_told (A := A) (c := c) (l := l) (w := w) ⟨hC, hc, hb2.1, hb2.2⟩ a hg hnc).mono ?_
  intro e w' ht
  unfold decS at hd
  cases hi : inflM l a with
  | error er2 =>
    rw [hi] at hd ht
    injection hd with h1 h2
    injection h2 with h2 h3
    subst h1 h2 h3
    obtain ⟨he, hB, _⟩ := ht
    exact ⟨_, he, Kd.R_nil _ _ _ _ _, hB⟩
  | ok r => ?_
  obtain ⟨n2, ys2⟩ := r
  rw [hi] at hd ht
  injection hd with h1 h2
  injection h2 with h2 h3
  subst h1 h2 h3
  obtain ⟨v, he, hR, hB⟩ := ht
  exact ⟨v, he, hR, hB⟩
theorem str_abc : strOfNums [97, 98, 99] = ⟨#[97, 98, 99]⟩ := by decide +kernel
theorem str_a : strOfNums [97] = ⟨#[97]⟩ := by decide +kernel
end
end Go.Proofs.YtgflkkjhckcipaaDoor.Pr

-- YtgflkkjhckcipaaDoorIf30
namespace Go.Proofs.YtgflkkjhckcipaaDoor.Pr
open Go.RowKit Go.Shelf Go.Proofs.YtgflkkjhckcipaaDoorW.PrintWords Go.Proofs.YtgflkkjhckcipaaDoorW.PrintLast Go.Proofs.YtgflkkjhckcipaaDoorW.PrintMore
set_option linter.unusedVariables false
set_option linter.unusedSimpArgs false
section
attribute [local go_sem] Oper.semAt_some
attribute [local go_sem] conv_const
theorem lives_calls (w : World) (hg : Handle w) : Calls Tryd.prog 7 #[] w fun e w' => e = .returned (.bool true) ∧ Below w.heap.size w w' := by
  have HG := Ak hg
  have HB := Ak (Below.refl w.heap.size w)
  clear hg
  go_enter Tryd.func7, Tryd.ntmps7
  go_upto_region 6 with (first | (go_at_call 12; refine (abc_told _).mono ?_; rintro e w_ ⟨rfl, rfl⟩) | (go_at_call 8; refine (dec_ex ex5 (by decide) (some ⟨w4.heap.size, 0, none⟩) 2 2 _ rfl (lit_C w4 [3, 0] 5 (0, 0) (by decide)) (Nat.le_refl _) (HG.out.on (below_alloc HB.out (.cells #[.int .u8 3, .int .u8 0] 5 (0, 0))) HG.out.pos)).mono ?_; rintro e w5 ⟨v5, rfl, ho_, hb_⟩; have hb2_ := below_alloc (Below.refl w4.heap.size w4) (.cells #[.int .u8 3, .int .u8 0] 5 (0, 0)); have hb3_ := below_then hb2_ hb2_.size hb_; have R1_ := Ak (Kd.R_below R1.out hb3_); clear R1; have R1 := R1_; clear R1_; have R2_ := Ak (Kd.R_below R2.out hb3_); clear R2; have R2 := R2_; clear R2_; have R3_ := Ak (Kd.R_below R3.out hb3_); clear R3; have R3 := R3_; clear R3_; have R4_ := Ak (Kd.R_below R4.out hb3_); clear R4; have R4 := R4_; clear R4_; have R5 := Ak (Kd.R_lower ho_ (Nat.le_trans HB.out.size hb2_.size)); have HB_ := Ak (below_then HB.out HB.out.size hb3_); clear HB ho_ hb_ hb2_ hb3_; have HB := HB_; clear HB_) | (go_at_call 8; refine (dec_ex ex4 (by decide) (some ⟨w3.heap.size, 0, none⟩) 8 8 _ rfl (lit_C w3 [1, 3, 0, 253, 255, 97, 98, 99] 5 (8, 9) (by decide)) (Nat.le_refl _) (HG.out.on (below_alloc HB.out (.cells #[.int .u8 1, .int .u8 3, .int .u8 0, .int .u8 253, .int .u8 255, .int .u8 97, .int .u8 98, .int .u8 99] 5 (8, 9))) HG.out.pos)).mono ?_; rintro e w4 ⟨v4, rfl, ho_, hb_⟩; have hb2_ := below_alloc (Below.refl w3.heap.size w3) (.cells #[.int .u8 1, .int .u8 3, .int .u8 0, .int .u8 253, .int .u8 255, .int .u8 97, .int .u8 98, .int .u8 99] 5 (8, 9)); have hb3_ := below_then hb2_ hb2_.size hb_; have R1_ := Ak (Kd.R_below R1.out hb3_); clear R1; have R1 := R1_; clear R1_; have R2_ := Ak (Kd.R_below R2.out hb3_); clear R2; have R2 := R2_; clear R2_; have R3_ := Ak (Kd.R_below R3.out hb3_); clear R3; have R3 := R3_; clear R3_; have R4 := Ak (Kd.R_lower ho_ (Nat.le_trans HB.out.size hb2_.size)); have HB_ := Ak (below_then HB.out HB.out.size hb3_); clear HB ho_ hb_ hb2_ hb3_; have HB := HB_; clear HB_) | (go_at_call 8; refine (dec_ex ex3 (by decide) (some ⟨w2.heap.size, 0, none⟩) 1 1 _ rfl (lit_C w2 [7] 5 (0, 0) (by decide)) (Nat.le_refl _) (HG.out.on (below_alloc HB.out (.cells #[.int .u8 7] 5 (0, 0))) HG.out.pos)).mono ?_; rintro e w3 ⟨v3, rfl, ho_, hb_⟩; have hb2_ := below_alloc (Below.refl w2.heap.size w2) (.cells #[.int .u8 7] 5 (0, 0)); have hb3_ := below_then hb2_ hb2_.size hb_; have R1_ := Ak (Kd.R_below R1.out hb3_); clear R1; have R1 := R1_; clear R1_; have R2_ := Ak (Kd.R_below R2.out hb3_); clear R2; have R2 := R2_; clear R2_; have R3 := Ak (Kd.R_lower ho_ (Nat.le_trans HB.out.size hb2_.size)); have HB_ := Ak (below_then HB.out HB.out.size hb3_); clear HB ho_ hb_ hb2_ hb3_; have HB := HB_; clear HB_) | (go_at_call 8; refine (dec_ex ex2 (by decide) (some ⟨w1.heap.size, 0, none⟩) 3 3 _ rfl (lit_C w1 [75, 4, 0] 5 (0, 0) (by decide)) (Nat.le_refl _) (HG.out.on (below_alloc HB.out (.cells #[.int .u8 75, .int .u8 4, .int .u8 0] 5 (0, 0))) HG.out.pos)).mono ?_; rintro e w2 ⟨v2, rfl, ho_, hb_⟩; have hb2_ := below_alloc (Below.refl w1.heap.size w1) (.cells #[.int .u8 75, .int .u8 4, .int .u8 0] 5 (0, 0)); have hb3_ := below_then hb2_ hb2_.size hb_; have R1_ := Ak (Kd.R_below R1.out hb3_); clear R1; have R1 := R1_; clear R1_; have R2 := Ak (Kd.R_lower ho_ (Nat.le_trans HB.out.size hb2_.size)); have HB_ := Ak (below_then HB.out HB.out.size hb3_); clear HB ho_ hb_ hb2_ hb3_; have HB := HB_; clear HB_) | (go_at_call 8; refine (dec_ex ex1 (by decide) (some ⟨w.heap.size, 0, none⟩) 8 8 _ rfl (lit_C w [1, 3, 0, 252, 255, 97, 98, 99] 5 (8, 9) (by decide)) (Nat.le_refl _) (HG.out.on (below_alloc HB.out (.cells #[.int .u8 1, .int .u8 3, .int .u8 0, .int .u8 252, .int .u8 255, .int .u8 97, .int .u8 98, .int .u8 99] 5 (8, 9))) HG.out.pos)).mono ?_; rintro e w1 ⟨v1, rfl, ho_, hb_⟩; have hb2_ := below_alloc (Below.refl w.heap.size w) (.cells #[.int .u8 1, .int .u8 3, .int .u8 0, .int .u8 252, .int .u8 255, .int .u8 97, .int .u8 98, .int .u8 99] 5 (8, 9)); have hb3_ := below_then hb2_ hb2_.size hb_; have R1 := Ak (Kd.R_lower ho_ (Nat.le_trans HB.out.size hb2_.size)); have HB_ := Ak (below_then HB.out HB.out.size hb3_); clear HB ho_ hb_ hb2_ hb3_; have HB := HB_; clear HB_) )
  have hc1 := own_string (P := Tryd.prog) Tryd.underlying22 Tryd.underlying5 Tryd.underlying9 (Kd.own_of_R R1.out)
  have hc2 := own_string (P := Tryd.prog) Tryd.underlying22 Tryd.underlying5 Tryd.underlying9 (Kd.own_of_R R2.out)
  rw [str_abc] at hc1
  rw [str_a] at hc2
  obtain ⟨A5, c5, rfl⟩ := Kd.R_slice R5.out
  go_wp2
  go_ret
  exact ⟨rfl, HB.out⟩
end
end Go.Proofs.YtgflkkjhckcipaaDoor.Pr

-- YtgflkkjhckcipaaDoorPg0
namespace Go.Proofs.YtgflkkjhckcipaaDoor.Pg
open Go.RowKit Go.Proofs.YtgflkkjhckcipaaDoorW.PrintWords Go.Proofs.YtgflkkjhckcipaaDoorW.PrintLast Go.Proofs.YtgflkkjhckcipaaDoorW.PrintMore
attribute [local go_sem] max2_int min2_int max_two min_two max_three min_three max_four min_four   -- for this text's walks alone
set_option linter.unusedVariables false
set_option linter.unusedSimpArgs false

theorem u8_w (n : Int) : IntKind.u8.wrap n = n % 256 := IntKind.wrap_u8 n



def errW : Option Int → Value
  | none => .nilIface
  | some c => .iface 0 (.int .i64 c)
theorem errW_none : errW none = .nilIface := rfl
theorem errW_some (c : Int) : errW (some c) = .iface 0 (.int .i64 c) := rfl

theorem info3 : (Tryd.prog.info? 3).map (fun i => (i.zero, i.size, i.bytes)) = some (some (.int .i64 0), 1, 8) := by kernel_rfl
theorem info5 : (Tryd.prog.info? 5).map (fun i => (i.zero, i.size, i.bytes)) = some (some (.int .u8 0), 1, 1) := by kernel_rfl
-- the values' own types

end Go.Proofs.YtgflkkjhckcipaaDoor.Pg

-- YtgflkkjhckcipaaDoorPg4
namespace Go.Proofs.YtgflkkjhckcipaaDoor.Pg
open Go.RowKit Go.Proofs.YtgflkkjhckcipaaDoorW.PrintWords Go.Proofs.YtgflkkjhckcipaaDoorW.PrintLast Go.Proofs.YtgflkkjhckcipaaDoorW.PrintMore
attribute [local go_sem] max2_int min2_int max_two min_two max_three min_three max_four min_four   -- for this text's walks alone
set_option linter.unusedVariables false
set_option linter.unusedSimpArgs false

def inflate_Decode.f (l0 : List Int) (a1 : Int) : Option (List Int × Int × Int) := if Pr.bytB l0 = true ∧ Pr.noCopy (Pr.inflM l0 a1) = true then some (Pr.decS l0 a1) else none
theorem inflate_Decode.calls (A0 : Option Addr) (c0 : Nat) (l0 : List Int) (a1 : Int) (r1 : List Int) (r2 : Int) (r3 : Int) (w : World) (hr0 : Kd.C (Kd.int .u8) w A0 l0.length l0) (hc0 : l0.length ≤ c0) (h : inflate_Decode.f l0 a1 = some (r1, r2, r3)) (HG : Pr.Handle w) :
    Calls Tryd.prog 8 #[.slice A0 l0.length c0, .int .i64 a1] w fun e w' => ∃ v0_ : Value, e = .returned (.tuple #[v0_, .int .i64 r2, .int .i64 r3]) ∧ Kd.R (Kd.int .u8) 5 w' w.heap.size (fun _ => True) v0_ r1 ∧ Below w.heap.size w w' := by
  unfold inflate_Decode.f at h
  split at h
  · next hb =>
    injection h with h
    obtain ⟨hb, hn⟩ := hb
    obtain ⟨hb1, hb2⟩ := Pr.bytB_iff.1 hb
    have hc := Pr.decode_told (A := A0) (c := c0) (l := l0) (w := w) ⟨hr0, hc0, hb1, hb2⟩ a1 HG (Pr.noCopy_ne hn)
    refine hc.mono ?_
    intro e w' ht
    unfold Pr.decS at h
    cases hi : Pr.inflM l0 a1 with
    | error er =>
      rw [hi] at h ht
      injection h with h1 h2
      injection h2 with h2 h3
      subst h1 h2 h3
      obtain ⟨he, hB, _⟩ := ht
      exact ⟨_, he, Kd.R_nil _ _ _ _ _, hB⟩
    | ok r => ?_
    obtain ⟨n, ys⟩ := r
    rw [hi] at h ht
    injection h with h1 h2
    injection h2 with h2 h3
    subst h1 h2 h3
    obtain ⟨v, he, hR, hB⟩ := ht
    exact ⟨v, he, hR, hB⟩
  cases h

def valiselaw09_abc.f  : Option (List Int) := none
theorem valiselaw09_abc.calls (r : List Int) (w : World) (h : valiselaw09_abc.f  = some r) :
    Calls Tryd.prog 12 #[] w fun e w' => ∃ v0_ : Value, e = .returned (v0_) ∧ Kd.R (Kd.int .u8) 5 w' w.heap.size (fun _ => True) v0_ r ∧ Below w.heap.size w w' := by
  cases h

def valiselaw09_lives.f  : Option (Bool) := some true
theorem valiselaw09_lives.true_ : valiselaw09_lives.f = some true := rfl
theorem valiselaw09_lives.calls (r : Bool) (w : World) (HGL : Pr.Handle w) (h : valiselaw09_lives.f  = some r) :
    Calls Tryd.prog 7 #[] w fun e w' => e = .returned (.bool r) ∧ Below w.heap.size w w' := by
  injection h with h
  subst h
  exact Pr.lives_calls w HGL

end Go.Proofs.YtgflkkjhckcipaaDoor.Pg

-- YtgflkkjhckcipaaDoorPg5
namespace Go.Proofs.YtgflkkjhckcipaaDoor.Pg
open Go.RowKit Go.Proofs.YtgflkkjhckcipaaDoorW.PrintWords Go.Proofs.YtgflkkjhckcipaaDoorW.PrintLast Go.Proofs.YtgflkkjhckcipaaDoorW.PrintMore
attribute [local go_sem] max2_int min2_int max_two min_two max_three min_three max_four min_four   -- for this text's walks alone
set_option linter.unusedVariables false
set_option linter.unusedSimpArgs false

mutual
def valiseref04_Lengths.j0 : Nat → List Int → Bool → Option (Bool)
  | 0, _, _ => none
  | k + 1, x0, x11 => if x11 = true then (some false) else (valiseref04_Lengths.l0 k x0 0)
def valiseref04_Lengths.l0 : Nat → List Int → Int → Option (Bool)
  | 0, _, _ => none
  | k + 1, x0, x3 => if x3 < (x0.length : Int) then (if 0 ≤ x3 then (if (rd x0 x3) < 0 then (some false) else (if (rd x0 x3) > 15 then (some false) else (valiseref04_Lengths.l0 k x0 (wrap64 (x3 + 1))))) else (none)) else (some true)
end
def valiseref04_Lengths.f (k : Nat) (l0 : List Int) : Option (Bool) := if (l0.length : Int) = 0 then (valiseref04_Lengths.j0 k l0 true) else (valiseref04_Lengths.j0 k l0 (decide ((l0.length : Int) > 288)))
theorem valiseref04_Lengths.mono_l : ∀ k, (∀ y0 y1, LeO (valiseref04_Lengths.j0 k y0 y1) (valiseref04_Lengths.j0 (k + 1) y0 y1)) ∧ (∀ y0 y1, LeO (valiseref04_Lengths.l0 k y0 y1) (valiseref04_Lengths.l0 (k + 1) y0 y1))
  | 0 => ⟨fun _ _ r h => by simp [valiseref04_Lengths.j0] at h, fun _ _ r h => by simp [valiseref04_Lengths.l0] at h⟩
  | k + 1 => by
    obtain ⟨ih0, ih1⟩ := valiseref04_Lengths.mono_l k
    refine ⟨?_, ?_⟩
    · intro y0 y1
      unfold valiseref04_Lengths.j0
      repeat' first
      | (with_reducible exact ih0 _ _)
      | (with_reducible exact ih1 _ _)
      | (with_reducible exact LeO.refl _)
      | (with_reducible exact LeO.none _)
      | (with_reducible refine LeO.ite ?_ ?_)
      | (with_reducible refine LeO.bind ?_ (fun _ => ?_))
      | exact ih0 _ _
      | exact ih1 _ _
      | exact LeO.none _
      | refine LeO.ite ?_ ?_
      | refine LeO.bind ?_ (fun _ => ?_)
    · intro y0 y1
      unfold valiseref04_Lengths.l0
      repeat' first
      | (with_reducible exact ih0 _ _)
      | (with_reducible exact ih1 _ _)
      | (with_reducible exact LeO.refl _)
      | (with_reducible exact LeO.none _)
      | (with_reducible refine LeO.ite ?_ ?_)
      | (with_reducible refine LeO.bind ?_ (fun _ => ?_))
      | exact ih0 _ _
      | exact ih1 _ _
      | exact LeO.none _
      | refine LeO.ite ?_ ?_
      | refine LeO.bind ?_ (fun _ => ?_)
theorem valiseref04_Lengths.mono : ∀ a0 k, LeO (valiseref04_Lengths.f k a0) (valiseref04_Lengths.f (k + 1) a0) := by
  intro a0 k
  obtain ⟨ih0, ih1⟩ := valiseref04_Lengths.mono_l k
  unfold valiseref04_Lengths.f
  repeat' first
      | (with_reducible exact ih0 _ _)
      | (with_reducible exact ih1 _ _)
      | (with_reducible exact LeO.refl _)
      | (with_reducible exact LeO.none _)
      | (with_reducible refine LeO.ite ?_ ?_)
      | (with_reducible refine LeO.bind ?_ (fun _ => ?_))
      | exact ih0 _ _
      | exact ih1 _ _
      | exact LeO.none _
      | refine LeO.ite ?_ ?_
      | refine LeO.bind ?_ (fun _ => ?_)
theorem valiseref04_Lengths.calls (k : Nat) (A0 : Option Addr) (c0 : Nat) (l0 : List Int) (r : Bool) (w : World) (hr0 : Kd.C (Kd.int .i64) w A0 l0.length l0) (hc0 : l0.length ≤ c0) (h : valiseref04_Lengths.f k l0 = some r) :
    Calls Tryd.prog 16 #[.slice A0 l0.length c0] w fun e w' => e = .returned (.bool r) ∧ Drawn0 w w' := by
  have HR0 := Ak hr0
  have HC0 := Ak hc0
  clear hr0 hc0
  have H : (if (l0.length : Int) = 0 then (valiseref04_Lengths.j0 k l0 true) else (valiseref04_Lengths.j0 k l0 (decide ((l0.length : Int) > 288)))) = some r := h
  clear h
  have HC2 := Ak H
  clear H
  go_enter Tryd.func16, Tryd.ntmps16
  go_upto_region 1 with (fail)
  go_cut [11] (fun v11 wc => ∃ (kq : Nat) (x11_1 : Bool), v11 = .bool x11_1 ∧ Aside0 (valiseref04_Lengths.j0 kq l0 x11_1 = some r) ∧ Aside0 (kq ≤ k) ∧ Drawn0 w wc)
  case first =>
    have H := HC2.out
    clear HC2
    by_cases c3 : (l0.length : Int) = 0
    · rw [if_pos c3] at H
      have c3b0 : ((l0.length : Int) == 0) = true := beq_iff_eq.mpr c3
      have c3b1 : ((l0.length : Int) != 0) = false := bne_eq_false_iff_eq.mpr c3
      clear c3
      (first | rw [c3b0] | (simp only [i64_w, i32_w, u8_w]; rw [c3b0]) | skip)
      have H' := Ak H
      clear H
      go_wp2
      go_meet
      case rel => exact ⟨_, (true), (by first | rfl | (simp; done) | (simp [*]; done)), H', ⟨by first | omega | exact Nat.le_refl _⟩, by repeat (first | exact Drawn0.refl _ | apply Drawn0.step)⟩
    rw [if_neg c3] at H
    have c3b0 : ((l0.length : Int) == 0) = false := beq_eq_false_iff_ne.mpr c3
    have c3b1 : ((l0.length : Int) != 0) = true := bne_iff_ne.mpr c3
    have c3b2 : ¬ (l0 = []) := fun h_ => c3 (by rw [h_]; rfl)
    (first | rw [c3b0] | (simp only [i64_w, i32_w, u8_w]; rw [c3b0]) | skip)
    have H' := Ak H
    clear H
    go_wp2
    go_meet
    case rel => exact ⟨_, (decide ((l0.length : Int) > 288)), (by first | rfl | (simp; done) | (simp [*]; done)), H', ⟨by first | omega | exact Nat.le_refl _⟩, by repeat (first | exact Drawn0.refl _ | apply Drawn0.step)⟩
  case rest =>
    clear HC2
    (try clear c1); (try clear p2); (try clear c3); (try clear c3b0); (try clear c3b1); (try clear c3b2)
    obtain ⟨kq, x11_1, rfl, HA, HJ1, ⟨mc1, rfl⟩⟩ := hcut
    cases kq with
    | zero => exact absurd HA.out (by simp [valiseref04_Lengths.j0])
    | succ kj1 => ?_
    have H := HA.out
    clear HA
    simp only [valiseref04_Lengths.j0] at H
    by_cases c4 : x11_1 = true
    · subst c4
      have H1 : (some false) = some r := by rw [if_pos rfl] at H; exact H
      clear H
      have H := H1
      clear H1
      obtain rfl := Option.some.inj H
      go_wp2
      go_ret
      exact ⟨by first | rfl | (simp; done) | (simp [*]; done), by repeat (first | exact Drawn0.refl _ | apply Drawn0.step)⟩
    replace c4 := Bool.eq_false_iff.mpr c4
    subst c4
    have H1 : (valiseref04_Lengths.l0 kj1 l0 0) = some r := by rw [if_neg (show ¬ (false = true) by decide)] at H; exact H
    clear H
    have H := H1
    clear H1
    have H' := Ak H
    clear H
    go_wp2
    go_loopg [3] kj1 (fun kq v3 w' => ∃ (x3_2 : Int), v3 = .int .i64 x3_2 ∧ Aside0 (valiseref04_Lengths.l0 kq l0 x3_2 = some r) ∧ Aside0 (kq ≤ kj1) ∧ Drawn0 w w')
    case atStart => exact ⟨(0), (by first | rfl | (simp; done) | (simp [*]; done)), H', ⟨Nat.le_refl _⟩, by repeat (first | exact Drawn0.refl _ | apply Drawn0.step)⟩
    case round =>
      clear H'
      (try clear c1); (try clear p2); (try clear c3); (try clear c3b0); (try clear c3b1); (try clear c3b2); (try clear c4); (try clear p2)
      obtain ⟨x3_2, rfl, HA, HK2, ⟨m2, rfl⟩⟩ := hrel
      cases gk with
      | zero => exact absurd HA.out (by simp [valiseref04_Lengths.l0])
      | succ k2 => ?_
      have H := HA.out
      clear HA
      simp only [valiseref04_Lengths.l0] at H
      by_cases c5 : x3_2 < (l0.length : Int)
      rotate_left
      · rw [if_neg c5] at H
        have c5b0 : decide (x3_2 < (l0.length : Int)) = false := decide_eq_false c5
        clear c5
        obtain rfl := Option.some.inj H
        go_wp2
        go_ret
        exact ⟨by first | rfl | (simp; done) | (simp [*]; done), by repeat (first | exact Drawn0.refl _ | apply Drawn0.step)⟩
      rw [if_pos c5] at H
      have c5b0 : decide (x3_2 < (l0.length : Int)) = true := decide_eq_true c5
      clear c5
      by_cases c6 : 0 ≤ x3_2
      rotate_left
      · rw [if_neg c6] at H
        exact absurd H (by simp)
      rw [if_pos c6] at H
      have c6b0 : decide (0 ≤ x3_2) = true := decide_eq_true c6
      clear c6
      by_cases c7 : (rd l0 x3_2) < 0
      · rw [if_pos c7] at H
        have c7b0 : decide ((rd l0 x3_2) < 0) = true := decide_eq_true c7
        clear c7
        obtain rfl := Option.some.inj H
        have p111 : 0 ≤ (x3_2 : Int) := of_decide_eq_true (by first | (with_reducible assumption) | assumption)
        have q111 : x3_2 < (l0.length : Int) := of_decide_eq_true (by first | (with_reducible assumption) | assumption)
        obtain ⟨ad111, e111, hx111_0⟩ := Kd.at_int HR0.out x3_2 p111 q111
        cases e111
        replace p111 := eq_true p111
        replace q111 := eq_true q111
        go_wp2
        go_ret
        exact ⟨by first | rfl | (simp; done) | (simp [*]; done), by repeat (first | exact Drawn0.refl _ | apply Drawn0.step)⟩
      rw [if_neg c7] at H
      have c7b0 : decide ((rd l0 x3_2) < 0) = false := decide_eq_false c7
      clear c7
      by_cases c8 : (rd l0 x3_2) > 15
      · rw [if_pos c8] at H
        have c8b0 : decide (15 < (rd l0 x3_2)) = true := decide_eq_true c8
        clear c8
        obtain rfl := Option.some.inj H
        have p111 : 0 ≤ (x3_2 : Int) := of_decide_eq_true (by first | (with_reducible assumption) | assumption)
        have q111 : x3_2 < (l0.length : Int) := of_decide_eq_true (by first | (with_reducible assumption) | assumption)
        obtain ⟨ad111, e111, hx111_0⟩ := Kd.at_int HR0.out x3_2 p111 q111
        cases e111
        replace p111 := eq_true p111
        replace q111 := eq_true q111
        have p112 : 0 ≤ (x3_2 : Int) := of_decide_eq_true (by first | (with_reducible assumption) | assumption)
        have q112 : x3_2 < (l0.length : Int) := of_decide_eq_true (by first | (with_reducible assumption) | assumption)
        obtain ⟨ad112, e112, hx112_0⟩ := Kd.at_int HR0.out x3_2 p112 q112
        obtain rfl : ad111 = ad112 := (by injection e112)
        replace p112 := eq_true p112
        replace q112 := eq_true q112
        go_wp2
        go_ret
        exact ⟨by first | rfl | (simp; done) | (simp [*]; done), by repeat (first | exact Drawn0.refl _ | apply Drawn0.step)⟩
      rw [if_neg c8] at H
      have c8b0 : decide (15 < (rd l0 x3_2)) = false := decide_eq_false c8
      clear c8
      have H' := Ak H
      clear H
      have p111 : 0 ≤ (x3_2 : Int) := of_decide_eq_true (by first | (with_reducible assumption) | assumption)
      have q111 : x3_2 < (l0.length : Int) := of_decide_eq_true (by first | (with_reducible assumption) | assumption)
      obtain ⟨ad111, e111, hx111_0⟩ := Kd.at_int HR0.out x3_2 p111 q111
      cases e111
      replace p111 := eq_true p111
      replace q111 := eq_true q111
      have p112 : 0 ≤ (x3_2 : Int) := of_decide_eq_true (by first | (with_reducible assumption) | assumption)
      have q112 : x3_2 < (l0.length : Int) := of_decide_eq_true (by first | (with_reducible assumption) | assumption)
      obtain ⟨ad112, e112, hx112_0⟩ := Kd.at_int HR0.out x3_2 p112 q112
      obtain rfl : ad111 = ad112 := (by injection e112)
      replace p112 := eq_true p112
      replace q112 := eq_true q112
      go_wp2
      go_roundg k2
      case measure => have := HJ1.out; have := HK2.out; omega
      case rel => exact ⟨(wrap64 (x3_2 + 1)), (by first | rfl | (simp; done) | (simp [*]; done)), H', ⟨by have := HJ1.out; have := HK2.out; omega⟩, by repeat (first | exact Drawn0.refl _ | apply Drawn0.step)⟩

end Go.Proofs.YtgflkkjhckcipaaDoor.Pg

-- YtgflkkjhckcipaaDoorPg6
namespace Go.Proofs.YtgflkkjhckcipaaDoor.Pg
open Go.RowKit Go.Proofs.YtgflkkjhckcipaaDoorW.PrintWords Go.Proofs.YtgflkkjhckcipaaDoorW.PrintLast Go.Proofs.YtgflkkjhckcipaaDoorW.PrintMore
attribute [local go_sem] max2_int min2_int max_two min_two max_three min_three max_four min_four   -- for this text's walks alone
set_option linter.unusedVariables false
set_option linter.unusedSimpArgs false

def valiseref04_Takes.l0 : Nat → List Int → Int → Int → Option (Int)
  | 0, _, _, _ => none
  | k + 1, x0, x3, x4 => if x4 < (x0.length : Int) then (if 0 ≤ x4 then (if (rd x0 x4) > 0 then (if 0 ≤ (wrap64 (15 - (rd x0 x4))) then (valiseref04_Takes.l0 k x0 (wrap64 (x3 + (shl .i64 1 (wrap64 (15 - (rd x0 x4)))))) (wrap64 (x4 + 1))) else (none)) else (valiseref04_Takes.l0 k x0 x3 (wrap64 (x4 + 1)))) else (none)) else (some x3)
def valiseref04_Takes.f (k : Nat) (l0 : List Int) : Option (Int) := valiseref04_Takes.l0 k l0 0 0
theorem valiseref04_Takes.mono_l : ∀ k, (∀ y0 y1 y2, LeO (valiseref04_Takes.l0 k y0 y1 y2) (valiseref04_Takes.l0 (k + 1) y0 y1 y2))
  | 0 => fun _ _ _ r h => by simp [valiseref04_Takes.l0] at h
  | k + 1 => by
    have ih0 := valiseref04_Takes.mono_l k
    · intro y0 y1 y2
      unfold valiseref04_Takes.l0
      repeat' first
      | (with_reducible exact ih0 _ _ _)
      | (with_reducible exact LeO.refl _)
      | (with_reducible exact LeO.none _)
      | (with_reducible refine LeO.ite ?_ ?_)
      | (with_reducible refine LeO.bind ?_ (fun _ => ?_))
      | exact ih0 _ _ _
      | exact LeO.none _
      | refine LeO.ite ?_ ?_
      | refine LeO.bind ?_ (fun _ => ?_)
theorem valiseref04_Takes.mono : ∀ a0 k, LeO (valiseref04_Takes.f k a0) (valiseref04_Takes.f (k + 1) a0) := by
  intro a0 k
  have ih0 := valiseref04_Takes.mono_l k
  unfold valiseref04_Takes.f
  repeat' first
      | (with_reducible exact ih0 _ _ _)
      | (with_reducible exact LeO.refl _)
      | (with_reducible exact LeO.none _)
      | (with_reducible refine LeO.ite ?_ ?_)
      | (with_reducible refine LeO.bind ?_ (fun _ => ?_))
      | exact ih0 _ _ _
      | exact LeO.none _
      | refine LeO.ite ?_ ?_
      | refine LeO.bind ?_ (fun _ => ?_)
theorem valiseref04_Takes.calls (k : Nat) (A0 : Option Addr) (c0 : Nat) (l0 : List Int) (r : Int) (w : World) (hr0 : Kd.C (Kd.int .i64) w A0 l0.length l0) (hc0 : l0.length ≤ c0) (h : valiseref04_Takes.f k l0 = some r) :
    Calls Tryd.prog 17 #[.slice A0 l0.length c0] w fun e w' => e = .returned (.int .i64 r) ∧ Drawn0 w w' := by
  have HR0 := Ak hr0
  have HC0 := Ak hc0
  clear hr0 hc0
  have H : (valiseref04_Takes.l0 k l0 0 0) = some r := h
  clear h
  have H' := Ak H
  clear H
  go_enter Tryd.func17, Tryd.ntmps17
  go_wp2
  go_loopg [3, 4] k (fun kq v3 v4 w' => ∃ (x3_1 : Int) (x4_1 : Int), v3 = .int .i64 x3_1 ∧ v4 = .int .i64 x4_1 ∧ Aside0 (valiseref04_Takes.l0 kq l0 x3_1 x4_1 = some r) ∧ Aside0 (kq ≤ k) ∧ Drawn0 w w')
  case atStart => exact ⟨(0), (0), (by first | rfl | (simp; done) | (simp [*]; done)), (by first | rfl | (simp; done) | (simp [*]; done)), H', ⟨Nat.le_refl _⟩, by repeat (first | exact Drawn0.refl _ | apply Drawn0.step)⟩
  case round =>
    clear H'
    try clear c1
    obtain ⟨x3_1, x4_1, rfl, rfl, HA, HK1, ⟨m1, rfl⟩⟩ := hrel
    cases gk with
    | zero => exact absurd HA.out (by simp [valiseref04_Takes.l0])
    | succ k1 => ?_
    have H := HA.out
    clear HA
    simp only [valiseref04_Takes.l0] at H
    by_cases c2 : x4_1 < (l0.length : Int)
    rotate_left
    · rw [if_neg c2] at H
      have c2b0 : decide (x4_1 < (l0.length : Int)) = false := decide_eq_false c2
      clear c2
      obtain rfl := Option.some.inj H
      go_wp2
      go_ret
      exact ⟨by first | rfl | (simp; done) | (simp [*]; done), by repeat (first | exact Drawn0.refl _ | apply Drawn0.step)⟩
    rw [if_pos c2] at H
    have c2b0 : decide (x4_1 < (l0.length : Int)) = true := decide_eq_true c2
    clear c2
    by_cases c3 : 0 ≤ x4_1
    rotate_left
    · rw [if_neg c3] at H
      exact absurd H (by simp)
    rw [if_pos c3] at H
    have c3b0 : decide (0 ≤ x4_1) = true := decide_eq_true c3
    clear c3
    by_cases c4 : (rd l0 x4_1) > 0
    rotate_left
    · rw [if_neg c4] at H
      have c4b0 : decide (0 < (rd l0 x4_1)) = false := decide_eq_false c4
      clear c4
      have H' := Ak H
      clear H
      have p113 : 0 ≤ (x4_1 : Int) := of_decide_eq_true (by first | (with_reducible assumption) | assumption)
      have q113 : x4_1 < (l0.length : Int) := of_decide_eq_true (by first | (with_reducible assumption) | assumption)
      obtain ⟨ad113, e113, hx113_0⟩ := Kd.at_int HR0.out x4_1 p113 q113
      cases e113
      replace p113 := eq_true p113
      replace q113 := eq_true q113
      go_wp2
      go_roundg k1
      case measure => have := HK1.out; omega
      case rel => exact ⟨(x3_1), (wrap64 (x4_1 + 1)), (by first | rfl | (simp; done) | (simp [*]; done)), (by first | rfl | (simp; done) | (simp [*]; done)), H', ⟨by have := HK1.out; omega⟩, by repeat (first | exact Drawn0.refl _ | apply Drawn0.step)⟩
    rw [if_pos c4] at H
    have c4b0 : decide (0 < (rd l0 x4_1)) = true := decide_eq_true c4
    clear c4
    obtain ⟨ji5, hji5⟩ : ∃ j_ : Int, (wrap64 (15 - (rd l0 x4_1))) = j_ := ⟨_, rfl⟩
    replace H : (if 0 ≤ (ji5) then (valiseref04_Takes.l0 k1 l0 (wrap64 (x3_1 + (shl .i64 1 (ji5)))) (wrap64 (x4_1 + 1))) else (none)) = some r := by first | (rw [hji5] at H; exact H) | (simp only [hji5] at H ⊢; exact H)
    have hji5w : (IntKind.i64.wrap (15 - (rd l0 x4_1))) = ji5 := (i64_w _).trans hji5
    by_cases c6 : 0 ≤ (ji5)
    rotate_left
    · rw [if_neg c6] at H
      exact absurd H (by simp)
    rw [if_pos c6] at H
    have c6b0 := eq_true c6
    have c6b1 : decide (0 ≤ (ji5)) = true := decide_eq_true c6
    clear c6
    obtain ⟨ji7, hji7⟩ : ∃ j_ : Int, (shl .i64 1 (ji5)) = j_ := ⟨_, rfl⟩
    replace H : (valiseref04_Takes.l0 k1 l0 (wrap64 (x3_1 + (ji7))) (wrap64 (x4_1 + 1))) = some r := by first | (rw [hji7] at H; exact H) | (simp only [hji7] at H ⊢; exact H)
    have hji7_ : (IntKind.i64.wrap (1 * 2 ^ min (ji5).toNat 64)) = ji7 := hji7
    have hji7z : (ji5) ≤ 64 → (IntKind.i64.wrap (1 * 2 ^ (ji5).toNat)) = ji7 := shl_small hji7
    have hji7u : (IntKind.i64.wrap (2 ^ min (ji5).toNat 64)) = ji7 := by have h_ := hji7_; rw [Int.one_mul] at h_; exact h_
    have hji7v : (ji5) ≤ 64 → (IntKind.i64.wrap (2 ^ (ji5).toNat)) = ji7 := fun hle_ => by have h_ := hji7z hle_; rw [Int.one_mul] at h_; exact h_
    have hji7y : (wrap64 (1 * 2 ^ min (ji5).toNat 64)) = ji7 := (i64_w _).symm.trans hji7_
    have hji7x : (ji5) ≤ 64 → (wrap64 (1 * 2 ^ (ji5).toNat)) = ji7 := fun h_ => (i64_w _).symm.trans (hji7z h_)
    have H' := Ak H
    clear H
    have p113 : 0 ≤ (x4_1 : Int) := of_decide_eq_true (by first | (with_reducible assumption) | assumption)
    have q113 : x4_1 < (l0.length : Int) := of_decide_eq_true (by first | (with_reducible assumption) | assumption)
    obtain ⟨ad113, e113, hx113_0⟩ := Kd.at_int HR0.out x4_1 p113 q113
    cases e113
    replace p113 := eq_true p113
    replace q113 := eq_true q113
    have p114 : 0 ≤ (x4_1 : Int) := of_decide_eq_true (by first | (with_reducible assumption) | assumption)
    have q114 : x4_1 < (l0.length : Int) := of_decide_eq_true (by first | (with_reducible assumption) | assumption)
    obtain ⟨ad114, e114, hx114_0⟩ := Kd.at_int HR0.out x4_1 p114 q114
    obtain rfl : ad113 = ad114 := (by injection e114)
    replace p114 := eq_true p114
    replace q114 := eq_true q114
    go_wp2
    go_roundg k1
    case measure => have := HK1.out; omega
    case rel => exact ⟨(wrap64 (x3_1 + (ji7))), (wrap64 (x4_1 + 1)), (by first | rfl | (simp; done) | (simp only [← hji7] <;> (first | rfl | simp)) | (simp [*]; done)), (by first | rfl | (simp; done) | (simp [*]; done)), H', ⟨by have := HK1.out; omega⟩, by repeat (first | exact Drawn0.refl _ | apply Drawn0.step)⟩

end Go.Proofs.YtgflkkjhckcipaaDoor.Pg

-- YtgflkkjhckcipaaDoorPg7
namespace Go.Proofs.YtgflkkjhckcipaaDoor.Pg
open Go.RowKit Go.Proofs.YtgflkkjhckcipaaDoorW.PrintWords Go.Proofs.YtgflkkjhckcipaaDoorW.PrintLast Go.Proofs.YtgflkkjhckcipaaDoorW.PrintMore
attribute [local go_sem] max2_int min2_int max_two min_two max_three min_three max_four min_four   -- for this text's walks alone
set_option linter.unusedVariables false
set_option linter.unusedSimpArgs false

def valiseref04_Check.f (k : Nat) (l0 : List Int) : Option (Int) := (valiseref04_Lengths.f k l0).bind fun t115 => (if t115 = true then ((valiseref04_Takes.f k l0).bind fun t116 => (if t116 > 32768 then (some 11) else (if t116 < 32768 then (some 12) else (some 0)))) else (some 2))
theorem valiseref04_Check.mono : ∀ a0 k, LeO (valiseref04_Check.f k a0) (valiseref04_Check.f (k + 1) a0) := by
  intro a0 k
  unfold valiseref04_Check.f
  repeat' first
      | (with_reducible exact valiseref04_Lengths.mono _ _)
      | (with_reducible exact valiseref04_Takes.mono _ _)
      | (with_reducible exact LeO.refl _)
      | (with_reducible exact LeO.none _)
      | (with_reducible refine LeO.ite ?_ ?_)
      | (with_reducible refine LeO.bind ?_ (fun _ => ?_))
      | exact valiseref04_Lengths.mono _ _
      | exact valiseref04_Takes.mono _ _
      | exact LeO.none _
      | refine LeO.ite ?_ ?_
      | refine LeO.bind ?_ (fun _ => ?_)
theorem valiseref04_Check.calls (k : Nat) (A0 : Option Addr) (c0 : Nat) (l0 : List Int) (r : Int) (w : World) (hr0 : Kd.C (Kd.int .i64) w A0 l0.length l0) (hc0 : l0.length ≤ c0) (h : valiseref04_Check.f k l0 = some r) :
    Calls Tryd.prog 9 #[.slice A0 l0.length c0] w fun e w' => e = .returned (.int .i64 r) ∧ Drawn0 w w' := by
  have HR0 := Ak hr0
  have HC0 := Ak hc0
  clear hr0 hc0
  have H : ((valiseref04_Lengths.f k l0).bind fun t115 => (if t115 = true then ((valiseref04_Takes.f k l0).bind fun t116 => (if t116 > 32768 then (some 11) else (if t116 < 32768 then (some 12) else (some 0)))) else (some 2))) = some r := h
  clear h
  replace H := Option.bind_eq_some_iff.mp H
  obtain ⟨t115, A20, H⟩ := H
  replace H : (if t115 = true then ((valiseref04_Takes.f k l0).bind fun t116 => (if t116 > 32768 then (some 11) else (if t116 < 32768 then (some 12) else (some 0)))) else (some 2)) = some r := H
  have A2 := Ak A20
  clear A20
  by_cases c3 : t115 = true
  rotate_left
  · replace c3 := Bool.eq_false_iff.mpr c3
    subst c3
    have H1 : (some 2) = some r := by rw [if_neg (show ¬ (false = true) by decide)] at H; exact H
    clear H
    have H := H1
    clear H1
    obtain rfl := Option.some.inj H
    go_enter Tryd.func9, Tryd.ntmps9
    go_wp2_with (first | ((with_reducible refine gate_callee (f := 16) rfl ?_); refine goesL_ (some 5) rfl rfl Tryd.func16 (by kernel_rfl) rfl #[.slice A0 l0.length c0] rfl (by (try simp only [List.map_toArray, List.map_cons, List.map_nil]); first | done | rfl | (simp only [List.length_drop, List.length_take]; rfl)) ?_; (with_reducible refine (valiseref04_Lengths.calls k _ _ l0 false _ ?side1 ?side2 A2.out).mono ?_); (case side1 => repeat (first | exact HR0.out | (with_reducible refine Kd.C_alloc ?_ _) | (with_reducible refine Kd.C_drewN ?_ _) | (with_reducible refine Kd.C_drew ?_))); (case side2 => exact HC0.out); rintro e w' ⟨rfl, ⟨nd, rfl⟩⟩; refine ⟨_, rfl, ?_⟩))
    go_ret
    exact ⟨by first | rfl | (simp; done) | (simp [*]; done), by repeat (first | exact Drawn0.refl _ | apply Drawn0.step)⟩
  subst c3
  have H1 : ((valiseref04_Takes.f k l0).bind fun t116 => (if t116 > 32768 then (some 11) else (if t116 < 32768 then (some 12) else (some 0)))) = some r := by rw [if_pos rfl] at H; exact H
  clear H
  have H := H1
  clear H1
  replace H := Option.bind_eq_some_iff.mp H
  obtain ⟨t116, A40, H⟩ := H
  replace H : (if t116 > 32768 then (some 11) else (if t116 < 32768 then (some 12) else (some 0))) = some r := H
  have A4 := Ak A40
  clear A40
  by_cases c5 : t116 > 32768
  · rw [if_pos c5] at H
    have c5b0 : decide (32768 < t116) = true := decide_eq_true c5
    clear c5
    obtain rfl := Option.some.inj H
    go_enter Tryd.func9, Tryd.ntmps9
    go_wp2_with (first | ((with_reducible refine gate_callee (f := 16) rfl ?_); refine goesL_ (some 5) rfl rfl Tryd.func16 (by kernel_rfl) rfl #[.slice A0 l0.length c0] rfl (by (try simp only [List.map_toArray, List.map_cons, List.map_nil]); first | done | rfl | (simp only [List.length_drop, List.length_take]; rfl)) ?_; (with_reducible refine (valiseref04_Lengths.calls k _ _ l0 true _ ?side1 ?side2 A2.out).mono ?_); (case side1 => repeat (first | exact HR0.out | (with_reducible refine Kd.C_alloc ?_ _) | (with_reducible refine Kd.C_drewN ?_ _) | (with_reducible refine Kd.C_drew ?_))); (case side2 => exact HC0.out); rintro e w' ⟨rfl, ⟨nd, rfl⟩⟩; refine ⟨_, rfl, ?_⟩) | ((with_reducible refine gate_callee (f := 17) rfl ?_); refine goesL_ (some 8) rfl rfl Tryd.func17 (by kernel_rfl) rfl #[.slice A0 l0.length c0] rfl (by (try simp only [List.map_toArray, List.map_cons, List.map_nil]); first | done | rfl | (simp only [List.length_drop, List.length_take]; rfl)) ?_; (with_reducible refine (valiseref04_Takes.calls k _ _ l0 t116 _ ?side1 ?side2 A4.out).mono ?_); (case side1 => repeat (first | exact HR0.out | (with_reducible refine Kd.C_alloc ?_ _) | (with_reducible refine Kd.C_drewN ?_ _) | (with_reducible refine Kd.C_drew ?_))); (case side2 => exact HC0.out); rintro e w' ⟨rfl, ⟨nd, rfl⟩⟩; refine ⟨_, rfl, ?_⟩))
    go_ret
    exact ⟨by first | rfl | (simp; done) | (simp [*]; done), by repeat (first | exact Drawn0.refl _ | apply Drawn0.step)⟩
  rw [if_neg c5] at H
  have c5b0 : decide (32768 < t116) = false := decide_eq_false c5
  clear c5
  by_cases c6 : t116 < 32768
  · rw [if_pos c6] at H
    have c6b0 : decide (t116 < 32768) = true := decide_eq_true c6
    clear c6
    obtain rfl := Option.some.inj H
    go_enter Tryd.func9, Tryd.ntmps9
    go_wp2_with (first | ((with_reducible refine gate_callee (f := 16) rfl ?_); refine goesL_ (some 5) rfl rfl Tryd.func16 (by kernel_rfl) rfl #[.slice A0 l0.length c0] rfl (by (try simp only [List.map_toArray, List.map_cons, List.map_nil]); first | done | rfl | (simp only [List.length_drop, List.length_take]; rfl)) ?_; (with_reducible refine (valiseref04_Lengths.calls k _ _ l0 true _ ?side1 ?side2 A2.out).mono ?_); (case side1 => repeat (first | exact HR0.out | (with_reducible refine Kd.C_alloc ?_ _) | (with_reducible refine Kd.C_drewN ?_ _) | (with_reducible refine Kd.C_drew ?_))); (case side2 => exact HC0.out); rintro e w' ⟨rfl, ⟨nd, rfl⟩⟩; refine ⟨_, rfl, ?_⟩) | ((with_reducible refine gate_callee (f := 17) rfl ?_); refine goesL_ (some 8) rfl rfl Tryd.func17 (by kernel_rfl) rfl #[.slice A0 l0.length c0] rfl (by (try simp only [List.map_toArray, List.map_cons, List.map_nil]); first | done | rfl | (simp only [List.length_drop, List.length_take]; rfl)) ?_; (with_reducible refine (valiseref04_Takes.calls k _ _ l0 t116 _ ?side1 ?side2 A4.out).mono ?_); (case side1 => repeat (first | exact HR0.out | (with_reducible refine Kd.C_alloc ?_ _) | (with_reducible refine Kd.C_drewN ?_ _) | (with_reducible refine Kd.C_drew ?_))); (case side2 => exact HC0.out); rintro e w' ⟨rfl, ⟨nd, rfl⟩⟩; refine ⟨_, rfl, ?_⟩))
    go_ret
    exact ⟨by first | rfl | (simp; done) | (simp [*]; done), by repeat (first | exact Drawn0.refl _ | apply Drawn0.step)⟩
  rw [if_neg c6] at H
  have c6b0 : decide (t116 < 32768) = false := decide_eq_false c6
  clear c6
  obtain rfl := Option.some.inj H
  go_enter Tryd.func9, Tryd.ntmps9
  go_wp2_with (first | ((with_reducible refine gate_callee (f := 16) rfl ?_); refine goesL_ (some 5) rfl rfl Tryd.func16 (by kernel_rfl) rfl #[.slice A0 l0.length c0] rfl (by (try simp only [List.map_toArray, List.map_cons, List.map_nil]); first | done | rfl | (simp only [List.length_drop, List.length_take]; rfl)) ?_; (with_reducible refine (valiseref04_Lengths.calls k _ _ l0 true _ ?side1 ?side2 A2.out).mono ?_); (case side1 => repeat (first | exact HR0.out | (with_reducible refine Kd.C_alloc ?_ _) | (with_reducible refine Kd.C_drewN ?_ _) | (with_reducible refine Kd.C_drew ?_))); (case side2 => exact HC0.out); rintro e w' ⟨rfl, ⟨nd, rfl⟩⟩; refine ⟨_, rfl, ?_⟩) | ((with_reducible refine gate_callee (f := 17) rfl ?_); refine goesL_ (some 8) rfl rfl Tryd.func17 (by kernel_rfl) rfl #[.slice A0 l0.length c0] rfl (by (try simp only [List.map_toArray, List.map_cons, List.map_nil]); first | done | rfl | (simp only [List.length_drop, List.length_take]; rfl)) ?_; (with_reducible refine (valiseref04_Takes.calls k _ _ l0 t116 _ ?side1 ?side2 A4.out).mono ?_); (case side1 => repeat (first | exact HR0.out | (with_reducible refine Kd.C_alloc ?_ _) | (with_reducible refine Kd.C_drewN ?_ _) | (with_reducible refine Kd.C_drew ?_))); (case side2 => exact HC0.out); rintro e w' ⟨rfl, ⟨nd, rfl⟩⟩; refine ⟨_, rfl, ?_⟩))
  go_ret
  exact ⟨by first | rfl | (simp; done) | (simp [*]; done), by repeat (first | exact Drawn0.refl _ | apply Drawn0.step)⟩

end Go.Proofs.YtgflkkjhckcipaaDoor.Pg

