-- A text by hand (wip/locks).
import Derived.RangeFuncNested
import Derived.RangeFuncBound
import Derived.RangeFuncCalls
import Derived.RangeFuncLeaves
import Derived.RangeFuncBox
import Derived.Shelf.Abstract
import Derived.Shelf.RegionOpen
import Derived.OwnWalkIn
import Derived.TacticsInMore
import Derived.LoopNIn
import Derived.LoopIn
import Derived.Test.YtdhabfjfpbdjfaaPr0
import Derived.Test.YtdhabfjfpbdjfaaLk8
namespace Go.Proofs.Ytdhabfjfpbdjfaa.Pr
open Go.RowKit Go.Shelf Go.Proofs.YtdhabfjfpbdjfaaW.PrintWords Go.Proofs.YtdhabfjfpbdjfaaW.PrintLast Go.Proofs.YtdhabfjfpbdjfaaW.PrintMore
set_option linter.unusedVariables false
set_option linter.unusedSimpArgs false

/-! Rows by their keys -/
theorem look_mem {key : ByteArray} {x : List S63 × List S63} : ∀ {P : LP}, lookP key P = some x → (key, x) ∈ P
  | [], h => by cases h
  | p :: P, h => by
    rw [lookP] at h
    by_cases e : key = p.1
    · rw [if_pos e] at h
      injection h with h
      subst h; subst e
      exact List.mem_cons_self
    · rw [if_neg e] at h
      exact List.mem_cons_of_mem _ (look_mem h)
theorem look_not {key : ByteArray} : ∀ {P : LP}, key ∉ P.map (·.1) → lookP key P = none
  | [], _ => rfl
  | p :: P, h => by
    rw [List.map_cons, List.mem_cons, not_or] at h
    rw [lookP, if_neg h.1]
    exact look_not h.2
theorem look_none_not {key : ByteArray} : ∀ {P : LP}, lookP key P = none → key ∉ P.map (·.1)
  | [], _ => by simp
  | p :: P, h => by
    rw [lookP] at h
    by_cases e : key = p.1
    · rw [if_pos e] at h; cases h
    · rw [if_neg e] at h
      rw [List.map_cons, List.mem_cons, not_or]
      exact ⟨e, look_none_not h⟩
theorem set_keys {key : ByteArray} {x : List S63 × List S63} : ∀ {P : LP}, (setP key x P).map (·.1) = P.map (·.1)
  | [] => rfl
  | p :: P => by
    rw [setP]
    by_cases e : key = p.1
    · rw [if_pos e]; rfl
    · rw [if_neg e, List.map_cons, List.map_cons, set_keys]
theorem look_set {key : ByteArray} {x : List S63 × List S63} : ∀ {P : LP}, lookP key P ≠ none → lookP key (setP key x P) = some x
  | [], h => absurd rfl h
  | p :: P, h => by
    rw [lookP] at h
    rw [setP]
    by_cases e : key = p.1
    · rw [if_pos e, lookP, if_pos e]
    · rw [if_neg e] at h
      rw [if_neg e, lookP, if_neg e]
      exact look_set h
theorem look_set_ne {key k2 : ByteArray} (hne : k2 ≠ key) {x : List S63 × List S63} : ∀ {P : LP}, lookP k2 (setP key x P) = lookP k2 P
  | [] => rfl
  | p :: P => by
    rw [setP]
    by_cases e : key = p.1
    · rw [if_pos e, lookP, lookP, if_neg (fun e2 => hne (e2.trans e.symm)), if_neg (fun e2 => hne (e2.trans e.symm))]
    · rw [if_neg e, lookP, lookP, look_set_ne hne]
theorem mem_set {key : ByteArray} {x : List S63 × List S63} {q : ByteArray × List S63 × List S63} : ∀ {P : LP}, q ∈ setP key x P → q ∈ P ∨ q.2 = x
  | [], h => by cases h
  | p :: P, h => by
    rw [setP] at h
    by_cases e : key = p.1
    · rw [if_pos e, List.mem_cons] at h
      rcases h with rfl | h
      · exact .inr rfl
      · exact .inl (List.mem_cons_of_mem _ h)
    · rw [if_neg e, List.mem_cons] at h
      rcases h with rfl | h
      · exact .inl List.mem_cons_self
      · rcases mem_set h with h | h
        · exact .inl (List.mem_cons_of_mem _ h)
        · exact .inr h
theorem del_sub {key : ByteArray} : ∀ {P : LP}, (delP key P).Sublist P
  | [] => List.Sublist.refl _
  | p :: P => by
    rw [delP]
    by_cases e : key = p.1
    · rw [if_pos e]; exact List.sublist_cons_self p P
    · rw [if_neg e]; exact del_sub.cons_cons p
theorem look_del {key : ByteArray} : ∀ {P : LP}, (P.map (·.1)).Nodup → lookP key (delP key P) = none
  | [], _ => rfl
  | p :: P, h => by
    rw [List.map_cons, List.nodup_cons] at h
    rw [delP]
    by_cases e : key = p.1
    · rw [if_pos e]; exact look_not (by rw [e]; exact h.1)
    · rw [if_neg e, lookP, if_neg e]; exact look_del h.2
theorem look_del_ne {key k2 : ByteArray} (hne : k2 ≠ key) : ∀ {P : LP}, lookP k2 (delP key P) = lookP k2 P
  | [] => rfl
  | p :: P => by
    rw [delP]
    by_cases e : key = p.1
    · rw [if_pos e, lookP, if_neg (fun e2 => hne (e2.trans e.symm))]
    · rw [if_neg e, lookP, lookP, look_del_ne hne]
theorem look_add {key k2 : ByteArray} {x : List S63 × List S63} : ∀ {P : LP}, lookP key P = none → lookP k2 (P ++ [(key, x)]) = if k2 = key then some x else lookP k2 P
  | [], _ => by
    show (if k2 = key then some x else lookP k2 []) = _
    rfl
  | p :: P, h => by
    rw [lookP] at h
    by_cases e : key = p.1
    · rw [if_pos e] at h; cases h
    · rw [if_neg e] at h
      rw [List.cons_append, lookP, lookP, look_add h]
      by_cases e2 : k2 = p.1
      · rw [if_pos e2, if_pos e2, if_neg (fun e3 => e (e3.symm.trans e2))]
      · rw [if_neg e2, if_neg e2]
/-! What is true of a row -/
def HOk (h : List S63) : Prop := h.length ≤ 1 ∨ ∀ a ∈ h, a.f1 = false
def WhoOk (l : List S63) : Prop := (l.map (·.f0)).Nodup ∧ ∀ a ∈ l, okC a.f0
def RowOk (h w : List S63) : Prop := h ≠ [] ∧ WhoOk (h ++ w) ∧ HOk h
def Inv (P : LP) : Prop := (P.map (·.1)).Nodup ∧ ∀ p ∈ P, RowOk p.2.1 p.2.2
theorem WhoOk.sub {l l' : List S63} (h : WhoOk l) (hs : l'.Sublist l) : WhoOk l' := ⟨h.1.sublist (hs.map _), fun a ha => h.2 a (hs.subset ha)⟩
theorem WhoOk.snoc {l : List S63} (h : WhoOk l) {a : S63} (hc : okC a.f0) (hn : ∀ b ∈ l, b.f0 ≠ a.f0) : WhoOk (l ++ [a]) := by
  refine ⟨?_, fun b hb => ?_⟩
  · rw [List.map_append, List.nodup_append]
    refine ⟨h.1, by simp, fun x hx y hy => ?_⟩
    rw [List.mem_map] at hx
    obtain ⟨b, hb, rfl⟩ := hx
    simp at hy
    subst hy
    exact hn b hb
  · rw [List.mem_append, List.mem_singleton] at hb
    rcases hb with hb | rfl
    · exact h.2 b hb
    · exact hc
theorem hasF_false {l : List S63} {who : Int} (h : hasF l who = false) : ∀ b ∈ l, b.f0 ≠ who := fun b hb e => by
  unfold hasF at h
  rw [List.any_eq_false] at h
  exact h b hb (beq_iff_eq.mpr e)
theorem hasF_true {l : List S63} {who : Int} (h : hasF l who = true) : ∃ b ∈ l, b.f0 = who := by
  unfold hasF at h
  rw [List.any_eq_true] at h
  obtain ⟨b, hb, e⟩ := h
  exact ⟨b, hb, beq_iff_eq.mp e⟩
theorem HOk.snoc {h : List S63} (ho : HOk h) {a : S63} (hm : mayF h a.f1 = true) : HOk (h ++ [a]) := by
  cases h with
  | nil => exact .inl (by simp)
  | cons b t =>
    have hm2 : a.f1 = false ∧ b.f1 = false := by
      have e : mayF (b :: t) a.f1 = (!a.f1 && !b.f1) := rfl
      rw [e] at hm
      cases h1 : a.f1 <;> cases h2 : b.f1 <;> simp [h1, h2] at hm ⊢
    refine .inr fun x hx => ?_
    rw [List.mem_append, List.mem_singleton] at hx
    rcases hx with hx | rfl
    · rcases ho with hl | hf
      · rw [List.length_cons] at hl
        have : t = [] := List.eq_nil_of_length_eq_zero (by omega)
        subst this
        rw [List.mem_singleton] at hx
        subst hx
        exact hm2.2
      · exact hf x hx
    · exact hm2.1
theorem HOk.filter {h : List S63} (ho : HOk h) (who : Int) : HOk (notF h who) := by
  rcases ho with hl | hf
  · exact .inl (Nat.le_trans (List.length_filter_le _ _) hl)
  · exact .inr fun a ha => hf a (List.mem_filter.1 ha).1
/-- Who comes to hold: the first of those who wait. -/
theorem grant_split : ∀ (w h : List S63), ∃ g, (grantF h w).1 = h ++ g ∧ g ++ (grantF h w).2.1 = w ∧ (grantF h w).2.2 = whoL g
  | [], h => ⟨[], by simp [grantF, whoL]⟩
  | a :: w, h => by
    rw [grantF]
    by_cases hm : mayF h a.f1 = true
    · rw [if_pos hm]
      obtain ⟨g, h1, h2, h3⟩ := grant_split w (h ++ [a])
      refine ⟨a :: g, by rw [h1]; simp, by dsimp only; rw [List.cons_append, h2], ?_⟩
      dsimp only
      rw [h3]
      rfl
    · rw [if_neg hm]
      exact ⟨[], by simp [whoL]⟩
theorem grant_hok : ∀ (w h : List S63), HOk h → HOk (grantF h w).1
  | [], h, ho => ho
  | a :: w, h, ho => by
    rw [grantF]
    by_cases hm : mayF h a.f1 = true
    · rw [if_pos hm]; exact grant_hok w (h ++ [a]) (ho.snoc hm)
    · rw [if_neg hm]; exact ho
theorem grant_nil {w h : List S63} (he : (grantF h w).1 = []) : w = [] := by
  cases w with
  | nil => rfl
  | cons a w =>
    exfalso
    rw [grantF] at he
    by_cases hm : mayF h a.f1 = true
    · rw [if_pos hm] at he
      obtain ⟨g, h1, _, _⟩ := grant_split w (h ++ [a])
      rw [h1] at he
      simp at he
    · rw [if_neg hm] at he
      dsimp only at he
      subst he
      exact hm rfl
theorem inv_nil : Inv [] := ⟨List.nodup_nil, fun _ h => by cases h⟩
theorem Inv.look {P : LP} (hI : Inv P) {key : ByteArray} {h w : List S63} (hl : lookP key P = some (h, w)) : RowOk h w := hI.2 _ (look_mem hl)
theorem Inv.set {P : LP} (hI : Inv P) {key : ByteArray} {h w : List S63} (hr : RowOk h w) : Inv (setP key (h, w) P) := ⟨by rw [set_keys]; exact hI.1, fun p hp => by
  rcases mem_set hp with hp | hp
  · exact hI.2 p hp
  · rw [hp]; exact hr⟩
theorem Inv.add {P : LP} (hI : Inv P) {key : ByteArray} {h w : List S63} (hn : lookP key P = none) (hr : RowOk h w) : Inv (P ++ [(key, h, w)]) := by
  refine ⟨?_, fun p hp => ?_⟩
  · rw [List.map_append, List.nodup_append]
    refine ⟨hI.1, by simp, fun x hx y hy => ?_⟩
    simp at hy
    subst hy
    intro e
    subst e
    exact look_none_not hn hx
  · rw [List.mem_append, List.mem_singleton] at hp
    rcases hp with hp | rfl
    · exact hI.2 p hp
    · exact hr
theorem Inv.del {P : LP} (hI : Inv P) (key : ByteArray) : Inv (delP key P) := ⟨hI.1.sublist (del_sub.map _), fun p hp => hI.2 p (del_sub.subset hp)⟩
/-- Ask, case by case. -/
theorem ask_cases {P : LP} (hI : Inv P) (who : Int) (key : ByteArray) (wr : Bool) :
    (¬ okC who ∧ askP who key wr P = (P, false, 2)) ∨
    (okC who ∧ lookP key P = none ∧ askP who key wr P = (P ++ [(key, [⟨who, wr⟩], [])], true, 0)) ∨
    (okC who ∧ ∃ h w, lookP key P = some (h, w) ∧ RowOk h w ∧
      (((hasF h who = true ∨ hasF w who = true) ∧ askP who key wr P = (P, false, 18)) ∨
       (hasF h who = false ∧ hasF w who = false ∧ w = [] ∧ mayF h wr = true ∧ RowOk (h ++ [⟨who, wr⟩]) w ∧ askP who key wr P = (setP key (h ++ [⟨who, wr⟩], w) P, true, 0)) ∨
       (hasF h who = false ∧ hasF w who = false ∧ ¬ (w = [] ∧ mayF h wr = true) ∧ RowOk h (w ++ [⟨who, wr⟩]) ∧ askP who key wr P = (setP key (h, w ++ [⟨who, wr⟩]) P, false, 0)))) := by
  unfold askP
  by_cases hc : okC who
  · rw [if_pos hc]
    cases hl : lookP key P with
    | none => exact .inr (.inl ⟨hc, rfl, rfl⟩)
    | some x =>
      obtain ⟨h, w⟩ := x
      have hr := hI.look hl
      refine .inr (.inr ⟨hc, h, w, rfl, hr, ?_⟩)
      dsimp only
      by_cases h1 : hasF h who = true
      · rw [if_pos h1]; exact .inl ⟨.inl h1, rfl⟩
      · rw [if_neg h1]
        have h1 := Bool.eq_false_iff.mpr h1
        by_cases h2 : hasF w who = true
        · rw [if_pos h2]; exact .inl ⟨.inr h2, rfl⟩
        · rw [if_neg h2]
          have h2 := Bool.eq_false_iff.mpr h2
          have hn : ∀ b ∈ h ++ w, b.f0 ≠ who := fun b hb => by
            rw [List.mem_append] at hb
            rcases hb with hb | hb
            · exact hasF_false h1 b hb
            · exact hasF_false h2 b hb
          have hs := hr.2.1.snoc (a := ⟨who, wr⟩) hc hn
          by_cases h3 : w.isEmpty && mayF h wr
          · rw [if_pos h3]
            rw [Bool.and_eq_true] at h3
            have h4 : w = [] := List.isEmpty_iff.1 h3.1
            subst h4
            exact .inr (.inl ⟨h1, h2, rfl, h3.2, ⟨by simp, by rw [List.append_nil] at hs ⊢; exact hs, hr.2.2.snoc h3.2⟩, rfl⟩)
          · rw [if_neg h3]
            refine .inr (.inr ⟨h1, h2, fun h4 => h3 (by rw [h4.1, h4.2]; rfl), ⟨hr.1, by rw [← List.append_assoc]; exact hs, hr.2.2⟩, rfl⟩)
  · rw [if_neg hc]; exact .inl ⟨hc, rfl⟩
/-- Free, case by case. -/
theorem free_cases {P : LP} (hI : Inv P) (who : Int) (key : ByteArray) :
    (¬ okC who ∧ freeP who key P = (P, [], 2)) ∨
    (okC who ∧ ((lookP key P = none ∨ ∃ h w, lookP key P = some (h, w) ∧ hasF h who = false) ∧ freeP who key P = (P, [], 9))) ∨
    (okC who ∧ ∃ h w g w2, lookP key P = some (h, w) ∧ hasF h who = true ∧ g ++ w2 = w ∧ grantF (notF h who) w = (notF h who ++ g, w2, whoL g) ∧
      ((notF h who ++ g = [] ∧ w = [] ∧ freeP who key P = (delP key P, [], 0)) ∨
       (RowOk (notF h who ++ g) w2 ∧ freeP who key P = (setP key (notF h who ++ g, w2) P, whoL g, 0)))) := by
  unfold freeP
  by_cases hc : okC who
  · rw [if_pos hc]
    cases hl : lookP key P with
    | none => exact .inr (.inl ⟨hc, .inl rfl, rfl⟩)
    | some x =>
      obtain ⟨h, w⟩ := x
      have hr := hI.look hl
      dsimp only
      by_cases h1 : hasF h who = true
      · rw [if_pos h1]
        obtain ⟨g, e1, e2, e3⟩ := grant_split w (notF h who)
        obtain ⟨w2, hw2⟩ : ∃ w2, (grantF (notF h who) w).2.1 = w2 := ⟨_, rfl⟩
        rw [hw2] at e2
        have hg : grantF (notF h who) w = (notF h who ++ g, w2, whoL g) := by rw [← e1, ← e3, ← hw2]
        refine .inr (.inr ⟨hc, h, w, g, w2, rfl, h1, e2, hg, ?_⟩)
        have hk := grant_hok w (notF h who) (hr.2.2.filter who)
        have hz := fun he => grant_nil (w := w) (h := notF h who) he
        rw [hg] at hk hz ⊢
        dsimp only at hk hz ⊢
        by_cases he : (notF h who ++ g).isEmpty = true
        · rw [if_pos he]
          have he2 := List.isEmpty_iff.1 he
          have hw := hz he2
          have hgn : g = [] := (List.append_eq_nil_iff.1 he2).2
          exact .inl ⟨he2, hw, by rw [hgn]; rfl⟩
        · rw [if_neg he]
          refine .inr ⟨⟨fun e => he (by rw [e]; rfl), ?_, hk⟩, rfl⟩
          rw [List.append_assoc, e2]
          exact hr.2.1.sub (List.filter_sublist.append (List.Sublist.refl _))
      · rw [if_neg h1]; exact .inr (.inl ⟨hc, .inr ⟨h, w, rfl, Bool.eq_false_iff.mpr h1⟩, rfl⟩)
  · rw [if_neg hc]; exact .inl ⟨hc, rfl⟩
theorem ask_inv {P : LP} (hI : Inv P) (who : Int) (key : ByteArray) (wr : Bool) : Inv (askP who key wr P).1 := by
  rcases ask_cases hI who key wr with ⟨_, e⟩ | ⟨hc, hn, e⟩ | ⟨_, h, w, _, _, ⟨_, e⟩ | ⟨_, _, _, _, hr, e⟩ | ⟨_, _, _, hr, e⟩⟩ <;> rw [e]
  · exact hI
  · exact hI.add hn ⟨by simp, ⟨by simp, fun a ha => by simp at ha; subst ha; exact hc⟩, .inl (by simp)⟩
  · exact hI
  · exact hI.set hr
  · exact hI.set hr
theorem free_inv {P : LP} (hI : Inv P) (who : Int) (key : ByteArray) : Inv (freeP who key P).1 := by
  rcases free_cases hI who key with ⟨_, e⟩ | ⟨_, _, e⟩ | ⟨_, h, w, g, w2, _, _, _, _, ⟨_, _, e⟩ | ⟨hr, e⟩⟩ <;> rw [e]
  · exact hI
  · exact hI
  · exact hI.del key
  · exact hI.set hr
theorem nodup_lt : ∀ (n : Nat) (l : List Nat), l.Nodup → (∀ x ∈ l, x < n) → l.length ≤ n
  | 0, l, _, hb => by
    cases l with
    | nil => simp
    | cons a l => have := hb a List.mem_cons_self; omega
  | n + 1, l, hn, hb => by
    have h1 := nodup_lt n (l.erase n) (hn.erase n) (fun x hx => by
      rw [hn.mem_erase_iff] at hx
      have := hb x hx.2
      omega)
    have h2 := List.length_erase (a := n) (l := l)
    by_cases hm : n ∈ l
    · rw [if_pos hm] at h2; omega
    · rw [if_neg hm] at h2; omega
/-- Numbers below eight, no two alike: at most eight. -/
theorem who_len {l : List Int} (hn : l.Nodup) (hb : ∀ x ∈ l, okC x) : l.length ≤ 8 := by
  have h : (l.map Int.toNat).Nodup := by
    rw [List.Nodup, List.pairwise_map]
    refine List.Pairwise.imp_of_mem (fun {a b} ha hb' hne e => hne ?_) hn
    have h1 := hb a ha
    have h2 := hb b hb'
    unfold okC at h1 h2
    omega
  have := nodup_lt 8 _ h (fun x hx => by
    rw [List.mem_map] at hx
    obtain ⟨a, ha, rfl⟩ := hx
    have := hb a ha
    unfold okC at this
    omega)
  simpa using this
theorem RowOk.len {h w : List S63} (hr : RowOk h w) : h.length + w.length ≤ 8 := by
  have := who_len hr.2.1.1 (fun x hx => by
    rw [List.mem_map] at hx
    obtain ⟨a, ha, rfl⟩ := hx
    exact hr.2.1.2 a ha)
  simpa using this
theorem Inv.small {P : LP} (hI : Inv P) : SmallP P := fun p hp => by
  have := (hI.2 p hp).len
  omega
/-! LocksTurns -/
theorem waits_of {P : LP} {key : ByteArray} {h w : List S63} (hl : lookP key P = some (h, w)) : waitsP key P = whoL w := by unfold waitsP; rw [hl]
theorem waits_no {P : LP} {key : ByteArray} (hl : lookP key P = none) : waitsP key P = [] := by unfold waitsP; rw [hl]
theorem holds_of {P : LP} {key : ByteArray} {h w : List S63} (hl : lookP key P = some (h, w)) : holdsP key P = (whoL h, !h.isEmpty && (rd_T63 h 0).f1) := by unfold holdsP; rw [hl]
theorem holds_no {P : LP} {key : ByteArray} (hl : lookP key P = none) : holdsP key P = ([], false) := by unfold holdsP; rw [hl]
theorem whoL_append (a b : List S63) : whoL (a ++ b) = whoL a ++ whoL b := List.map_append
theorem turns_free {P : LP} (hI : Inv P) (who : Int) (key : ByteArray) : (freeP who key P).2.1 ++ waitsP key (freeP who key P).1 = waitsP key P := by
  rcases free_cases hI who key with ⟨_, e⟩ | ⟨_, _, e⟩ | ⟨_, h, w, g, w2, hl, _, hg, _, ⟨_, hw, e⟩ | ⟨hr, e⟩⟩ <;> rw [e]
  · rfl
  · rfl
  · dsimp only
    rw [waits_no (look_del hI.1), waits_of hl, hw]; rfl
  · dsimp only
    rw [waits_of (look_set (by rw [hl]; simp)), waits_of hl, ← hg, whoL_append]
theorem turns_ask {P : LP} (hI : Inv P) (who : Int) (key : ByteArray) (wr : Bool) : waitsP key (askP who key wr P).1 = waitsP key P ++ (if (askP who key wr P).2.2 = 0 ∧ (askP who key wr P).2.1 = false then [who] else []) ∧ ((askP who key wr P).2.1 = true → waitsP key P = []) := by
  rcases ask_cases hI who key wr with ⟨_, e⟩ | ⟨hc, hn, e⟩ | ⟨_, h, w, hl, _, ⟨_, e⟩ | ⟨_, _, hw, _, _, e⟩ | ⟨_, _, _, _, e⟩⟩ <;> rw [e] <;> dsimp only
  · simp
  · rw [waits_of (h := [⟨who, wr⟩]) (w := []) (by rw [look_add hn, if_pos rfl]), waits_no hn]; simp [whoL]
  · simp
  · rw [waits_of (look_set (by rw [hl]; simp)), waits_of hl, hw]; simp [whoL]
  · rw [waits_of (look_set (by rw [hl]; simp)), waits_of hl, whoL_append]; simp [whoL]
theorem free_res {P : LP} (hI : Inv P) (who : Int) (key : ByteArray) : ∃ P' now e, freeP who key P = (P', now, e) ∧ Inv P' ∧ now ++ waitsP key P' = waitsP key P := ⟨(freeP who key P).1, (freeP who key P).2.1, (freeP who key P).2.2, rfl, free_inv hI who key, turns_free hI who key⟩
theorem ask_res {P : LP} (hI : Inv P) (who : Int) (key : ByteArray) (wr : Bool) : ∃ P' b e, askP who key wr P = (P', b, e) ∧ Inv P' ∧ ((b = true ∧ e = 0 ∧ waitsP key P = [] ∧ waitsP key P' = []) ∨ (b = false ∧ e = 0 ∧ waitsP key P' = waitsP key P ++ [who]) ∨ (b = false ∧ (e = 2 ∨ e = 18) ∧ waitsP key P' = waitsP key P)) := by
  refine ⟨(askP who key wr P).1, (askP who key wr P).2.1, (askP who key wr P).2.2, rfl, ask_inv hI who key wr, ?_⟩
  have ht := turns_ask hI who key wr
  rcases ask_cases hI who key wr with ⟨_, e⟩ | ⟨hc, hn, e⟩ | ⟨_, h, w, hl, _, ⟨_, e⟩ | ⟨_, _, hw, _, _, e⟩ | ⟨_, _, _, _, e⟩⟩ <;> rw [e] at ht ⊢ <;> dsimp only at ht ⊢
  · exact .inr (.inr ⟨rfl, .inl rfl, rfl⟩)
  · have h1 := ht.2 rfl
    exact .inl ⟨rfl, rfl, h1, by rw [ht.1, h1]; rfl⟩
  · exact .inr (.inr ⟨rfl, .inr rfl, rfl⟩)
  · have h1 := ht.2 rfl
    exact .inl ⟨rfl, rfl, h1, by rw [ht.1, h1]; rfl⟩
  · exact .inr (.inl ⟨rfl, rfl, by rw [ht.1]; rfl⟩)
theorem waits_le {P : LP} (hI : Inv P) (key : ByteArray) : (waitsP key P).length ≤ 8 := by
  cases hl : lookP key P with
  | none => rw [waits_no hl]; simp
  | some x =>
    obtain ⟨h, w⟩ := x
    rw [waits_of hl]
    have := (hI.look hl).len
    unfold whoL
    rw [List.length_map]
    omega
theorem rd_left {a b : List Int} {k : Nat} (hk : k < a.length) : rd (a ++ b) (k : Int) = rd a (k : Int) := by
  unfold rd
  rw [Int.toNat_natCast, List.getD_eq_getElem?_getD, List.getD_eq_getElem?_getD, List.getElem?_append_left hk]
theorem rd_right {a b : List Int} {k : Nat} (hk : a.length ≤ k) : rd (a ++ b) (k : Int) = rd b ((k - a.length : Nat) : Int) := by
  unfold rd
  rw [Int.toNat_natCast, Int.toNat_natCast, List.getD_eq_getElem?_getD, List.getD_eq_getElem?_getD, List.getElem?_append_right hk]
/-! LocksApart -/
theorem apart_of {P : LP} (hI : Inv P) (key : ByteArray) : ((holdsP key P).2 = true → (holdsP key P).1.length = 1) ∧ ((holdsP key P).1.length = 0 → (waitsP key P).length = 0) ∧ ((holdsP key P).1 ++ waitsP key P).Nodup ∧ ((holdsP key P).1 ++ waitsP key P).length ≤ 8 := by
  cases hl : lookP key P with
  | none => rw [holds_no hl, waits_no hl]; simp
  | some x =>
    obtain ⟨h, w⟩ := x
    have hr := hI.look hl
    rw [holds_of hl, waits_of hl]
    refine ⟨fun hw => ?_, fun h0 => ?_, ?_, ?_⟩
    · dsimp only at hw ⊢
      cases h with
      | nil => exact absurd rfl hr.1
      | cons a t =>
        rw [Bool.and_eq_true] at hw
        have ha : a.f1 = true := hw.2
        rcases hr.2.2 with hk | hk
        · unfold whoL; rw [List.length_map]; rw [List.length_cons] at hk ⊢; omega
        · have := hk a List.mem_cons_self; rw [ha] at this; cases this
    · dsimp only at h0
      unfold whoL at h0
      rw [List.length_map] at h0
      exact absurd (List.eq_nil_of_length_eq_zero h0) hr.1
    · dsimp only
      rw [← whoL_append]
      exact hr.2.1.1
    · dsimp only
      rw [← whoL_append]
      unfold whoL
      rw [List.length_map, List.length_append]
      exact hr.len
end Go.Proofs.Ytdhabfjfpbdjfaa.Pr
