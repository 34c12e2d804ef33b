-- A text by hand (wip/limit).
import Derived.RangeFuncNested
import Derived.RangeFuncBound
import Derived.RangeFuncCalls
import Derived.RangeFuncLeaves
import Derived.RangeFuncBox
import Derived.Shelf.Abstract
import Derived.Shelf.RegionOpen
import Derived.OwnWalkIn
import Derived.TacticsInMore
import Derived.LoopNIn
import Derived.LoopIn
import Derived.Test.YtdgpcjhincgijaaPr0
import Derived.Test.YtdgpcjhincgijaaLm4
namespace Go.Proofs.Ytdgpcjhincgijaa.Pr
open Go.RowKit Go.Shelf Go.Proofs.YtdgpcjhincgijaaW.PrintWords Go.Proofs.YtdgpcjhincgijaaW.PrintLast Go.Proofs.YtdgpcjhincgijaaW.PrintMore
set_option linter.unusedVariables false
set_option linter.unusedSimpArgs false
/-! ### There is one such sort -/
section
variable {α : Type} {κ : α → Int}
theorem srt_unique : ∀ {Z Z' : List α}, Srt κ Z → Srt κ Z' → Stb κ Z Z' → Z = Z'
  | [], Z', _, _, h => (List.eq_nil_of_length_eq_zero (h.len.trans rfl)).symm
  | z :: Z, [], _, _, h => absurd h.len (by simp)
  | z :: Z, z' :: Z', s, s', h => by
    obtain ⟨c, sZ⟩ := List.pairwise_cons.1 s
    obtain ⟨c', sZ'⟩ := List.pairwise_cons.1 s'
    have e : κ z = κ z' := by
      have h1 : κ z ≤ κ z' := by
        rcases List.mem_cons.1 ((h.mem z').1 (List.mem_cons_self ..)) with e | e
        · rw [e]; exact Int.le_refl _
        · exact c _ e
      have h2 : κ z' ≤ κ z := by
        rcases List.mem_cons.1 ((h.mem z).2 (List.mem_cons_self ..)) with e | e
        · rw [e]; exact Int.le_refl _
        · exact c' _ e
      omega
    have hk := h (κ z)
    rw [List.filter_cons, List.filter_cons, if_pos (beq_iff_eq.mpr e.symm), if_pos (beq_iff_eq.mpr rfl)] at hk
    injection hk with ez hk
    subst ez
    congr 1
    refine srt_unique sZ sZ' (fun k => ?_)
    have hk2 := h k
    rw [List.filter_cons, List.filter_cons] at hk2
    by_cases hh : κ z' = k
    · rw [if_pos (beq_iff_eq.mpr hh), if_pos (beq_iff_eq.mpr hh)] at hk2
      injection hk2
    · rw [if_neg (by rw [beq_iff_eq]; exact hh), if_neg (by rw [beq_iff_eq]; exact hh)] at hk2
      exact hk2
/-- The things of d, key by key. -/
def byKey (κ : α → Int) (d : List α) (ks : List Nat) : List α := ks.flatMap fun (k : Nat) => d.filter fun x => κ x == (k : Int)
theorem byKey_mem {d : List α} {ks : List Nat} {x : α} : x ∈ byKey κ d ks ↔ x ∈ d ∧ ∃ k ∈ ks, κ x = ((k : Nat) : Int) := by
  unfold byKey
  rw [List.mem_flatMap]
  constructor
  · rintro ⟨k, hk, hx⟩
    rw [List.mem_filter, beq_iff_eq] at hx
    exact ⟨hx.1, k, hk, hx.2⟩
  · rintro ⟨hx, k, hk, e⟩
    exact ⟨k, hk, List.mem_filter.2 ⟨hx, beq_iff_eq.mpr e⟩⟩
theorem byKey_srt (d : List α) : ∀ (ks : List Nat), ks.Pairwise (· < ·) → Srt κ (byKey κ d ks)
  | [], _ => List.Pairwise.nil
  | k :: ks, h => by
    obtain ⟨c, h'⟩ := List.pairwise_cons.1 h
    unfold byKey
    rw [List.flatMap_cons]
    refine srt_app.2 ⟨?_, byKey_srt d ks h', fun x hx y hy => ?_⟩
    · have he : ∀ x ∈ d.filter (fun x => κ x == (k : Int)), κ x = (k : Int) := fun x hx => beq_iff_eq.mp (List.mem_filter.1 hx).2
      refine List.Pairwise.imp_of_mem (R := fun _ _ => True) (fun ha hb _ => ?_) (List.pairwise_of_forall (fun _ _ => trivial))
      rw [he _ ha, he _ hb]; exact Int.le_refl _
    · obtain ⟨_, j, hj, e⟩ := byKey_mem.1 hy
      have := c j hj
      rw [beq_iff_eq.mp (List.mem_filter.1 hx).2, e]
      omega
theorem byKey_filter (d : List α) : ∀ (ks : List Nat), ks.Pairwise (· < ·) → ∀ j : Int, (byKey κ d ks).filter (fun x => κ x == j) = if ∃ k ∈ ks, ((k : Nat) : Int) = j then d.filter (fun x => κ x == j) else []
  | [], _, j => by rw [if_neg (by rintro ⟨k, hk, _⟩; cases hk)]; rfl
  | k :: ks, h, j => by
    obtain ⟨c, h'⟩ := List.pairwise_cons.1 h
    have ih := byKey_filter d ks h' j
    unfold byKey at ih ⊢
    rw [List.flatMap_cons, List.filter_append, ih]
    by_cases e : (k : Int) = j
    · subst e
      rw [if_neg (by rintro ⟨i, hi, e⟩; have := c i hi; omega), if_pos ⟨k, List.mem_cons_self .., rfl⟩, List.append_nil, List.filter_filter]
      exact List.filter_congr (fun x _ => by cases (κ x == (k : Int)) <;> rfl)
    · have e1 : (d.filter (fun x => κ x == (k : Int))).filter (fun x => κ x == j) = [] := filter_none (fun x hx => by rw [beq_iff_eq.mp (List.mem_filter.1 hx).2]; exact e)
      rw [e1, List.nil_append]
      by_cases hj : ∃ i ∈ ks, ((i : Nat) : Int) = j
      · obtain ⟨i, hi, ei⟩ := hj
        rw [if_pos ⟨i, hi, ei⟩, if_pos ⟨i, List.mem_cons_of_mem _ hi, ei⟩]
      · rw [if_neg hj, if_neg]
        rintro ⟨i, hi, ei⟩
        rcases List.mem_cons.1 hi with rfl | hi
        · exact e ei
        · exact hj ⟨i, hi, ei⟩
theorem byKey_stb (d : List α) (ks : List Nat) (h : ks.Pairwise (· < ·)) (hd : ∀ x ∈ d, ∃ k ∈ ks, κ x = ((k : Nat) : Int)) : Stb κ d (byKey κ d ks) := fun j => by
  rw [byKey_filter d ks h j]
  by_cases hj : ∃ k ∈ ks, ((k : Nat) : Int) = j
  · rw [if_pos hj]
  · rw [if_neg hj]
    exact (filter_none (fun x hx e => by obtain ⟨k, hk, ek⟩ := hd x hx; exact hj ⟨k, hk, ek.symm.trans e⟩)).symm
theorem sorted_is {d Z : List α} {ks : List Nat} (h : ks.Pairwise (· < ·)) (hd : ∀ x ∈ d, ∃ k ∈ ks, κ x = ((k : Nat) : Int)) (s : Srt κ Z) (b : Stb κ d Z) : Z = byKey κ d ks :=
  srt_unique s (byKey_srt d ks h) (fun k => (byKey_stb d ks h hd k).trans (b k).symm)
end
/-! ### Lengths as a function -/
abbrev PK := Int × List Int
def insF (x : PK) : List PK → List PK
  | [] => [x]
  | y :: t => if x.1 ≤ y.1 then x :: y :: t else y :: insF x t
def isortF (L : List PK) : List PK := L.foldr insF []
theorem insF_stb (x : PK) : ∀ Z, Stb wP (x :: Z) (insF x Z)
  | [] => Stb.refl _
  | y :: t => by
    unfold insF
    by_cases h : x.1 ≤ y.1
    · rw [if_pos h]
      exact Stb.refl _
    · rw [if_neg h]
      intro k
      have ih := insF_stb x t k
      rw [List.filter_cons, ih, List.filter_cons, List.filter_cons, List.filter_cons]
      by_cases h1 : (wP y == k) = true
      · have h2 : (wP x == k) = false := by
          rw [beq_iff_eq] at h1
          rw [beq_eq_false_iff_ne]
          unfold wP at h1 ⊢
          omega
        rw [if_pos h1, h2]
        simp [h1]
      · rw [if_neg h1]
        simp [h1]
theorem insF_srt (x : PK) : ∀ Z, Srt wP Z → Srt wP (insF x Z)
  | [], _ => List.pairwise_singleton _ _
  | y :: t, h => by
    obtain ⟨h1, h2⟩ := List.pairwise_cons.1 h
    unfold insF
    by_cases hx : x.1 ≤ y.1
    · rw [if_pos hx]
      refine List.pairwise_cons.2 ⟨fun z hz => ?_, h⟩
      rcases List.mem_cons.1 hz with rfl | hz
      · exact hx
      · exact Int.le_trans (show wP x ≤ wP y from hx) (h1 z hz)
    · rw [if_neg hx]
      refine List.pairwise_cons.2 ⟨fun z hz => ?_, insF_srt x t h2⟩
      rcases List.mem_cons.1 (((insF_stb x t).mem z).1 hz) with rfl | hz
      · unfold wP
        omega
      · exact h1 z hz
theorem isortF_spec : ∀ L : List PK, Srt wP (isortF L) ∧ Stb wP L (isortF L)
  | [] => ⟨List.Pairwise.nil, Stb.refl _⟩
  | x :: L => by
    obtain ⟨h1, h2⟩ := isortF_spec L
    refine ⟨insF_srt x _ h1, fun k => ?_⟩
    have h3 := insF_stb x (isortF L) k
    show (insF x (isortF L)).filter _ = _
    rw [h3, List.filter_cons, List.filter_cons, h2 k]
theorem sorted_isF {L Z : List PK} (s : Srt wP Z) (b : Stb wP L Z) : Z = isortF L :=
  srt_unique s (isortF_spec L).1 (fun k => ((isortF_spec L).2 k).trans (b k).symm)
def haveF (S : List PK) : Nat → List PK
  | 0 => []
  | j + 1 => isortF (S ++ pairP (haveF S j))
theorem have_isF {S : List PK} {j : Nat} {H : List PK} (h : HaveRel S j H) : H = haveF S j := by
  induction h with
  | zero => rfl
  | @succ j Y Z h hs hb ih =>
    subst ih
    exact sorted_isF hs hb
def lenF (l : List Int) (most : Int) : Int × List Int :=
  if ¬ (oftenS l = true ∧ 1 ≤ most ∧ most ≤ 15) then (2, [])
  else if 2 ^ most.toNat < (singL l l.length).length then (11, [])
  else match singL l l.length with
    | [] => (0, zerosL l)
    | [p] => (0, bumps (zerosL l) p.2)
    | s => (0, ((haveF (isortF s) most.toNat).take (2 * s.length - 2)).foldl (fun out p => bumps out p.2) (zerosL l))
theorem lenIs_isF {l : List Int} {most er : Int} {r : List Int} (h : LenIs l most er r) : (er, r) = lenF l most := by
  unfold lenF
  rcases h with ⟨h, rfl, rfl⟩ | ⟨hof, m, rfl, hm1, hm2, h⟩
  · rw [if_pos h]
  · rw [if_neg (by rw [Decidable.not_not]; exact ⟨hof, by omega, by omega⟩), Int.toNat_natCast]
    rcases h with ⟨h, rfl, rfl⟩ | ⟨hle, rfl, h⟩
    · rw [if_pos h]
    · rw [if_neg (by omega)]
      rcases h with ⟨e, rfl⟩ | ⟨x, j, hj, e, rfl⟩ | ⟨h2, S, hs, s1, s2, hh, hl, rfl⟩
      · rw [e]
      · rw [e]
        show _ = ((0 : Int), bump (zerosL l) (j : Int))
        unfold bump zerosL
        rw [Int.toNat_natCast, List.getD_eq_getElem?_getD, List.getElem?_replicate, if_pos hj]
        rfl
      · generalize singL l l.length = s at *
        obtain rfl := sorted_isF s1 s2
        obtain rfl := have_isF hh
        match s, h2 with
        | a :: b :: t, _ => rfl
theorem lenF_1 : lenF [1, 1, 2, 4] 15 = (0, [3, 3, 2, 1]) := by decide +kernel
theorem lenF_2 : lenF [1, 1, 2, 4] 2 = (0, [2, 2, 2, 2]) := by decide +kernel
theorem lenF_3 : lenF [1, 1, 1] 1 = (11, []) := by decide +kernel
end Go.Proofs.Ytdgpcjhincgijaa.Pr
