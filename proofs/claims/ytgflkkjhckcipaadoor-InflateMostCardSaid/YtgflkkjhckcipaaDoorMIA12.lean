-- Texts by hand and by programs of this session, joined (wip/tool/merge.py).
import Derived.Shelf.Abstract
import Derived.Shelf.RegionOpen
import Derived.OwnWalkIn
import Derived.TacticsInMore
import Derived.LoopNIn
import Derived.LoopIn
import Derived.Test.YtgflkkjhckcipaaDoorMIA11
import Derived.Test.YtgflkkjhckcipaaDoorMIA10
-- YtgflkkjhckcipaaDoorIf7
namespace Go.Proofs.YtgflkkjhckcipaaDoor.Pr
open Go.RowKit Go.Shelf Go.Proofs.YtgflkkjhckcipaaDoorW.PrintWords Go.Proofs.YtgflkkjhckcipaaDoorW.PrintLast Go.Proofs.YtgflkkjhckcipaaDoorW.PrintMore
set_option linter.unusedVariables false
set_option linter.unusedSimpArgs false
theorem orTwo (x b : Int) (h0 : 0 ≤ x) (h1 : x ≤ 1099511627776) (hb : b = 0 ∨ b = 1) : Go.bits .or .i64 (wrap64 (x * 2)) b = 2 * x + b := by
  rw [wrapid (by omega) (by omega)]
  obtain ⟨c, rfl⟩ : ∃ c : Nat, x = (c : Int) := ⟨x.toNat, by omega⟩
  obtain ⟨d, rfl⟩ : ∃ d : Nat, b = (d : Int) := ⟨b.toNat, by omega⟩
  have h := Nat.two_pow_add_eq_or_of_lt (i := 1) (b := d) (by omega) c
  rw [show (c : Int) * 2 = ((2 ^ 1 * c : Nat) : Int) by omega, i64orN _ d (by omega) (by omega), ← h]
  omega
def idxs (l : List Int) (a n : Nat) : List Nat := (List.range n).filter fun j => decide (l[j]?.getD 0 = (a : Int))
theorem idxs_succ (l : List Int) (a n : Nat) : idxs l a (n + 1) = idxs l a n ++ if l[n]?.getD 0 = (a : Int) then [n] else [] := by
  unfold idxs
  rw [List.range_succ, List.filter_append, List.filter_cons, List.filter_nil]
  by_cases h : l[n]?.getD 0 = (a : Int)
  · rw [if_pos (decide_eq_true h), if_pos h]
  · rw [if_neg (by rw [decide_eq_false h]; decide), if_neg h]
theorem idxs_len (l : List Int) (a : Nat) : ∀ n, n ≤ l.length → (idxs l a n).length = (l.take n).count (a : Int)
  | 0, _ => by simp [idxs]
  | n + 1, h => by
    rw [idxs_succ, List.length_append, idxs_len l a n (by omega), take_succ_getD l (by omega), List.count_append, List.count_singleton]
    by_cases e : l[n]?.getD 0 = (a : Int)
    · rw [if_pos e, if_pos (beq_iff_eq.mpr e)]; rfl
    · rw [if_neg e, if_neg (by rw [beq_iff_eq]; exact e)]; rfl
def frmC (l : List Int) : Nat → Nat
  | 0 => 0
  | j + 1 => frmC l j + l.count ((j + 1 : Nat) : Int)
theorem frmC_mono (l : List Int) {i j : Nat} (h : i ≤ j) : frmC l i ≤ frmC l j := by
  induction j with
  | zero => rw [show i = 0 by omega]; exact Nat.le_refl _
  | succ j ih =>
    rcases Nat.lt_or_ge i (j + 1) with h2 | h2
    · have := ih (by omega); rw [frmC]; omega
    · rw [show i = j + 1 by omega]; exact Nat.le_refl _
theorem symsL_eq (l : List Int) : Hu.symsL l = ((List.range l.length).filter fun j => decide (l[j]?.getD 0 ≠ 0)).map fun (j : Nat) => (j : Int) := by
  unfold Hu.symsL Hu.usedL
  rw [List.filter_map, List.map_map]
  rfl
theorem key_eq (l : List Int) {a : Nat} (h : 1 ≤ a) : (Hu.symsL l).filter (fun x => rd l x == (a : Int)) = (idxs l a l.length).map fun (j : Nat) => (j : Int) := by
  rw [symsL_eq, List.filter_map, List.filter_filter]
  unfold idxs
  congr 1
  refine List.filter_congr (fun j _ => ?_)
  show ((rd l (j : Int) == (a : Int)) && decide (l[j]?.getD 0 ≠ 0)) = decide (l[j]?.getD 0 = (a : Int))
  rw [rdN]
  by_cases e : l[j]?.getD 0 = (a : Int)
  · rw [e, decide_eq_true (show (a : Int) ≠ 0 by omega)]; simp
  · rw [decide_eq_false e, beq_eq_false_iff_ne.mpr e]; rfl
theorem key_zero (l : List Int) : (Hu.symsL l).filter (fun x => rd l x == ((0 : Nat) : Int)) = [] := by
  rw [symsL_eq, List.filter_map, List.filter_filter]
  rw [List.filter_eq_nil_iff.2 (fun j _ => ?_)]
  · rfl
  · show ¬ ((rd l (j : Int) == ((0 : Nat) : Int)) && decide (l[j]?.getD 0 ≠ 0)) = true
    rw [rdN]
    by_cases e : l[j]?.getD 0 = 0
    · rw [decide_eq_false (by rw [e]; simp)]; simp
    · rw [beq_eq_false_iff_ne.mpr (show l[j]?.getD 0 ≠ ((0 : Nat) : Int) from e)]; simp
theorem keys_len (l : List Int) : ∀ n, (Hu.byKey (rd l) (Hu.symsL l) (List.range (n + 1))).length = frmC l n
  | 0 => by
    unfold Hu.byKey
    show (List.flatMap _ [0]).length = 0
    rw [List.flatMap_cons, List.flatMap_nil, List.append_nil, key_zero]; rfl
  | n + 1 => by
    have ih := keys_len l n
    unfold Hu.byKey at ih ⊢
    rw [List.range_succ, List.flatMap_append, List.length_append, ih, List.flatMap_cons, List.flatMap_nil, List.append_nil, key_eq l (by omega), List.length_map, idxs_len l (n + 1) l.length (Nat.le_refl _), List.take_length]
    rfl
theorem symsS_len (l : List Int) : (Hu.symsS l).length = frmC l 15 := keys_len l 15
def symOf (l : List Int) (a v : Nat) : Int := rd (Hu.symsS l) ((frmC l (a - 1) + (v - firstC l a) : Nat) : Int)
theorem cX_eq (l : List Int) {a : Nat} (h : 1 ≤ a) : cX l a = firstC l a + l.count (a : Int) := by unfold cX; rw [if_neg (by omega)]
theorem firstC_succ (l : List Int) (a : Nat) : firstC l (a + 1) = 2 * cX l a := by
  show (firstC l a + if a = 0 then 0 else l.count (a : Int)) * 2 = _
  unfold cX; omega
theorem bat_nat (b : List Int) (p : Nat) : ((bat b p).toNat : Int) = bat b p := by rcases bat_01 b p with h | h <;> rw [h] <;> rfl
theorem bat_le (b : List Int) (p : Nat) : (bat b p).toNat ≤ 1 := by rcases bat_01 b p with h | h <;> rw [h] <;> decide
def scan (l b : List Int) (m : Nat) : Nat → Nat → Nat → Int × Int × Int
  | 0, _, _ => (0, 0, 13)
  | d + 1, p, v => if m ≤ p then (0, 0, 4) else
      if 2 * v + (bat b p).toNat < cX l (15 - d) then (symOf l (15 - d) (2 * v + (bat b p).toNat), ((p + 1 : Nat) : Int), 0)
      else if frmC l (15 - d) = frmC l 15 then (0, 0, 13) else scan l b m d (p + 1) (2 * v + (bat b p).toNat)
theorem frmC_le (l : List Int) (hl : l.length ≤ 288) : ∀ j, frmC l j ≤ 288 * j
  | 0 => by simp [frmC]
  | j + 1 => by
    have ih := frmC_le l hl j
    have hc : l.count ((j + 1 : Nat) : Int) ≤ 288 := Nat.le_trans List.count_le_length hl
    rw [frmC]; omega
theorem get_one {b : List Int} {m p : Nat} (hb : Rgt b m) (hp : p ≤ m) : getS b (m : Int) (p : Int) 1 = if m ≤ p then (0, 4) else (bat b p, 0) := by
  unfold getS
  rw [okR_nat hb, decide_eq_true (show (0 : Int) ≤ 1 by decide), decide_eq_true (show (1 : Int) ≤ 32 by decide), decide_eq_true (show (0 : Int) ≤ (p : Int) by omega), decide_eq_true (show (p : Int) ≤ (m : Int) by omega), if_pos (by decide)]
  by_cases h : m ≤ p
  · rw [if_pos (by omega), if_pos h]
  · rw [if_neg (by omega), if_neg h, Int.toNat_natCast]
    show ((0 : Int) + bat b (p + 0) * 2 ^ 0, (0 : Int)) = _
    rw [Nat.add_zero, Int.pow_zero, Int.mul_one, Int.zero_add]
theorem w64_add (a b : Nat) (h : a + b ≤ 4611686018427387904) : wrap64 ((a : Int) + (b : Int)) = ((a + b : Nat) : Int) := by rw [wrap64_id (by omega) (by omega)]; omega
theorem w64_succ (a : Nat) (h : a ≤ 4611686018427387904) : wrap64 ((a : Int) + 1) = ((a + 1 : Nat) : Int) := by rw [wrap64_id (by omega) (by omega)]; omega
theorem w64_dbl (a : Nat) (h : a ≤ 2305843009213693952) : wrap64 ((a : Int) * 2) = ((2 * a : Nat) : Int) := by rw [wrap64_id (by omega) (by omega)]; omega
theorem w64_sub (a b : Nat) (h : b ≤ a) (ha : a ≤ 4611686018427387904) : wrap64 ((a : Int) - (b : Int)) = ((a - b : Nat) : Int) := by rw [wrap64_id (by omega) (by omega)]; omega
theorem w64_isub (a b : Nat) (hb : b ≤ 4611686018427387904) (ha : a ≤ 4611686018427387904) : wrap64 ((a : Int) - (b : Int)) = (a : Int) - (b : Int) := wrap64_id (by omega) (by omega)
theorem readL_eq {k : Nat} (hk : 40 ≤ k) {l b : List Int} {m : Nat} (hl : OKL l) (hb : Rgt b m) (hbl : b.length ≤ 140737488355328) :
    ∀ d p v, d ≤ 15 → p ≤ m → cX l (15 - d) ≤ v → v < 2 ^ (15 - d) → readL k (Hu.countedS l).1 (Hu.symsS l) b (m : Int) d (p : Int) (v : Int) ((cX l (15 - d) : Nat) : Int) ((frmC l (15 - d) : Nat) : Int) = some (scan l b m d p v)
  | 0, p, v, _, _, _, _ => rfl
  | d + 1, p, v, hd, hp, h1, h2 => by
    have hm : m ≤ 1125899906842624 := by have := hb.2.1; omega
    obtain ⟨L, hL⟩ : ∃ L, 15 - d = L := ⟨_, rfl⟩
    obtain ⟨M, hM⟩ : ∃ M, 15 - (d + 1) = M := ⟨_, rfl⟩
    have hLM : L = M + 1 := by omega
    have hL15 : L ≤ 15 := by omega
    have hM15 : M < 15 := by omega
    have hfr := frmC_le l hl.2.1 15
    have hmon := frmC_mono l hL15
    have hmon2 : frmC l L = frmC l M + l.count (L : Int) := by subst hLM; rfl
    have hcnt := counted_rd l hl L hL15
    rw [if_neg (show ¬ L = 0 by omega)] at hcnt
    have hfc : firstC l L = 2 * cX l M := by subst hLM; exact firstC_succ l M
    have hcx : cX l L = firstC l L + l.count (L : Int) := cX_eq l (by omega)
    have hcl : l.count (L : Int) ≤ 288 := Nat.le_trans List.count_le_length hl.2.1
    have hfl := firstC_lt l hl.2.1 (show L ≤ 16 by omega)
    rw [hM] at h1 h2 ⊢
    have hv15 : v < 32768 := Nat.lt_of_lt_of_le h2 (Nat.le_trans (Nat.pow_le_pow_right (by omega) (show M ≤ 15 by omega)) (by decide))
    rw [readL, scan, get_eq hk hb.1 hbl (by omega) (by omega), get_one hb hp, hL, hcnt]
    simp only [Option.bind_some]
    by_cases hmp : m ≤ p
    · rw [if_pos hmp, if_pos hmp]
      rfl
    · rw [if_neg hmp, if_neg hmp, if_pos (show ((bat b p, (0 : Int)) : Int × Int).2 = 0 from rfl)]
      show (if wrap64 (Go.bits .or .i64 (wrap64 ((v : Int) * 2)) (bat b p) - wrap64 (((cX l M : Nat) : Int) * 2)) < _ then _ else _) = _
      rw [orTwo _ _ (by omega) (by omega) (bat_01 b p)]
      have hbn := bat_nat b p
      have hbl1 := bat_le b p
      generalize (bat b p).toNat = t at hbn hbl1 ⊢
      rw [← hbn]
      obtain ⟨v', hv'⟩ : ∃ v', 2 * v + t = v' := ⟨_, rfl⟩
      have e1 : (2 * (v : Int) + (t : Int)) = (v' : Int) := by omega
      rw [e1, w64_dbl (cX l M) (by omega), show 2 * cX l M = firstC l L by omega, hv', w64_isub v' (firstC l L) (by omega) (by omega)]
      by_cases hf : v' < cX l L
      · rw [if_pos (by omega), if_pos hf, w64_add (frmC l M) v' (by omega), w64_sub (frmC l M + v') (firstC l L) (by omega) (by omega), show frmC l M + v' - firstC l L = frmC l (L - 1) + (v' - firstC l L) by rw [show L - 1 = M by omega]; omega]
        rw [if_pos (by omega), if_pos (by rw [symsS_len, show L - 1 = M by omega]; omega), w64_succ p (by omega)]
        rfl
      · rw [if_neg (by omega), if_neg hf]
        rw [w64_add (frmC l M) (l.count (L : Int)) (by omega), ← hmon2, w64_add (firstC l L) (l.count (L : Int)) (by omega), ← hcx, symsS_len]
        by_cases ht : frmC l L = frmC l 15
        · rw [if_pos (by omega), if_pos ht]
        · rw [if_neg (by omega), if_neg ht, w64_succ p (by omega)]
          have ih := readL_eq hk hl hb hbl d (p + 1) v' (by omega) (by omega) (by rw [hL]; omega) (by rw [hL, hLM, Nat.pow_succ]; omega)
          rw [hL] at ih
          exact ih
def readS (l b : List Int) (n p : Int) : Int × Int × Int := if okR b n = true ∧ 0 ≤ p ∧ p ≤ n then scan l b n.toNat 15 p.toNat 0 else (0, 0, 2)
theorem readF_eq {k : Nat} (hk : 40 ≤ k) {l b : List Int} {n : Int} (p : Int) (hl : OKL l) (hb : Byt b) (hbl : b.length ≤ 140737488355328) (h0 : -9223372036854775808 ≤ n) (h1 : n ≤ 9223372036854775807) :
    readF k (Hu.countedS l).1 (Hu.symsS l) b n p = some (readS l b n p) := by
  unfold readF readS
  rw [check_eq (by omega) hb hbl h0 h1]
  simp only [Option.bind_some]
  by_cases hok : okR b n = true
  · rw [if_pos hok, if_pos rfl]
    obtain ⟨hn, hr⟩ := (okR_iff hb).1 hok
    by_cases hp : p < 0
    · rw [if_pos hp, if_neg (by omega)]
    · rw [if_neg hp]
      by_cases hp2 : p > n
      · rw [if_pos hp2, if_neg (by omega)]
      · rw [if_neg hp2, if_pos ⟨hok, by omega, by omega⟩]
        obtain ⟨m, rfl⟩ : ∃ m : Nat, n = (m : Int) := ⟨n.toNat, by omega⟩
        obtain ⟨q, rfl⟩ : ∃ q : Nat, p = (q : Int) := ⟨p.toNat, by omega⟩
        rw [Int.toNat_natCast, Int.toNat_natCast]
        rw [Int.toNat_natCast] at hr
        exact readL_eq hk hl hr hbl 15 q 0 (by omega) (by omega) (by simp [cX, firstC]) (by decide)
  · rw [if_neg hok, if_neg (by decide), if_neg (fun h => hok h.1)]
def Tbl (l : List Int) : Prop := OKL l ∧ (Hu.checkS l = 0 ∨ Hu.checkS l = 12) ∧ (cX l 15 = 32768 ∨ frmC l 1 = frmC l 15)
theorem nz_len (l : List Int) : ∀ n, n ≤ l.length → ((List.range n).filter fun j => decide (l[j]?.getD 0 ≠ 0)).length = (l.take n).countP fun x => decide (x ≠ 0)
  | 0, _ => by simp
  | n + 1, h => by
    rw [List.range_succ, List.filter_append, List.length_append, nz_len l n (by omega), take_succ_getD l (by omega), List.countP_append, List.filter_cons, List.filter_nil, List.countP_cons, List.countP_nil]
    by_cases e : l[n]?.getD 0 = 0
    · simp [e]
    · simp [e]
theorem symsL_nz (l : List Int) : (Hu.symsL l).length = l.countP fun x => decide (x ≠ 0) := by
  rw [symsL_eq, List.length_map, nz_len l l.length (Nat.le_refl _), List.take_length]
theorem frmC_countP (l : List Int) : ∀ n, frmC l n = l.countP fun x => decide (1 ≤ x ∧ x ≤ (n : Int))
  | 0 => by
    rw [frmC, eq_comm, List.countP_eq_zero]
    intro x _
    rw [decide_eq_true_eq]; omega
  | n + 1 => by
    rw [frmC, frmC_countP l n]
    induction l with
    | nil => rfl
    | cons x l ih =>
      rw [List.countP_cons, List.countP_cons, List.count_cons, ← ih]
      by_cases h1 : x = ((n + 1 : Nat) : Int)
      · rw [if_neg (by rw [decide_eq_true_eq]; omega), if_pos (beq_iff_eq.mpr h1), if_pos (by rw [decide_eq_true_eq]; omega)]; omega
      · rw [if_neg (show ¬ (x == ((n + 1 : Nat) : Int)) = true by rw [beq_iff_eq]; exact h1)]
        by_cases h2 : 1 ≤ x ∧ x ≤ (n : Int)
        · rw [if_pos (decide_eq_true h2), if_pos (by rw [decide_eq_true_eq]; omega)]; omega
        · rw [if_neg (by rw [decide_eq_true_eq]; exact h2), if_neg (by rw [decide_eq_true_eq]; omega)]; omega
theorem frmC_le_syms (l : List Int) (n : Nat) : frmC l n ≤ (Hu.symsL l).length := by
  rw [frmC_countP, symsL_nz]
  refine List.countP_mono_left (fun x _ h => ?_)
  rw [decide_eq_true_eq] at h ⊢
  omega
theorem tbl_of_new {l : List Int} (h : Hu.newS l = 0) : Tbl l := by
  unfold Hu.newS at h
  by_cases h2 : Hu.checkS l = 2
  · rw [if_pos h2] at h; omega
  · rw [if_neg h2] at h
    by_cases h0 : Hu.checkS l = 0
    · have hl := okl_of_check (.inl h0)
      refine ⟨hl, .inl h0, .inl ?_⟩
      have h3 := checkS_eq l hl
      have h4 := cX_take l 15 (Nat.le_refl _)
      have h5 : takeT l 15 = 32768 := by
        rw [h0] at h3
        by_cases a : takeT l 15 > 32768
        · rw [if_pos a] at h3; omega
        · rw [if_neg a] at h3
          by_cases b : takeT l 15 < 32768
          · rw [if_pos b] at h3; omega
          · omega
      rw [Nat.sub_self, Nat.pow_zero, Nat.mul_one, takeT, h5] at h4
      omega
    · by_cases hc : Hu.checkS l ≠ 0 ∧ (Hu.checkS l ≠ 12 ∨ (Hu.symsL l).length ≠ 1 ∨ rd (Hu.countedS l).1 1 ≠ 1)
      · rw [if_pos hc] at h; exact absurd h h0
      · have h12 : Hu.checkS l = 12 := Decidable.byContradiction fun e => hc ⟨h0, .inl e⟩
        have hs : (Hu.symsL l).length = 1 := Decidable.byContradiction fun e => hc ⟨h0, .inr (.inl e)⟩
        have hr : rd (Hu.countedS l).1 1 = 1 := Decidable.byContradiction fun e => hc ⟨h0, .inr (.inr e)⟩
        have hl := okl_of_check (.inr h12)
        refine ⟨hl, .inr h12, .inr ?_⟩
        have h3 := counted_rd l hl 1 (by decide)
        rw [if_neg (by decide)] at h3
        have h4 := frmC_le_syms l 15
        have h5 := frmC_mono l (show 1 ≤ 15 by decide)
        have h6 : frmC l 1 = l.count ((1 : Nat) : Int) := by show 0 + l.count ((1 : Nat) : Int) = _; omega
        have h7 : rd (Hu.countedS l).1 ((1 : Nat) : Int) = 1 := hr
        omega
end Go.Proofs.YtgflkkjhckcipaaDoor.Pr

-- YtgflkkjhckcipaaDoorIf8
namespace Go.Proofs.YtgflkkjhckcipaaDoor.Pr
open Go.RowKit Go.Shelf Go.Proofs.YtgflkkjhckcipaaDoorW.PrintWords Go.Proofs.YtgflkkjhckcipaaDoorW.PrintLast Go.Proofs.YtgflkkjhckcipaaDoorW.PrintMore
set_option linter.unusedVariables false
set_option linter.unusedSimpArgs false
def bitsM (l : List Int) (p n : Nat) : Except Int (Int × Nat) := if p + n ≤ 8 * l.length then .ok (getV l p n, p + n) else .error 4
def symM (l : List Int) (t : Option (List Int)) (p : Nat) : Except Int (Int × Nat) :=
  match t with
  | none => .error 13
  | some z => if (scan z l (8 * l.length) 15 p 0).2.2 = 0 then .ok ((scan z l (8 * l.length) 15 p 0).1, (scan z l (8 * l.length) 15 p 0).2.1.toNat) else .error (scan z l (8 * l.length) 15 p 0).2.2
def storedM (l : List Int) (most : Int) (p : Nat) (out : List Int) : Except Int (Nat × List Int) :=
  match bitsM l ((p + 7) / 8 * 8) 16 with
  | .error e => .error e
  | .ok (n, p1) => match bitsM l p1 16 with
    | .error e => .error e
    | .ok (m, p2) => if m ≠ 65535 - n then .error 5 else if n > most - (out.length : Int) then .error 3 else if ((8 * l.length - p2) / 8 : Nat) < n.toNat then .error 4 else .ok (p2 + 8 * n.toNat, out ++ (l.drop (p2 / 8)).take n.toNat)
def copyL (out : List Int) (far : Nat) : Nat → List Int
  | 0 => out
  | n + 1 => copyL out far n ++ [(copyL out far n).getD ((copyL out far n).length - far) 0]
def lenP (s : Int) : Option (Nat × Nat) := if s = 285 then some (0, 258) else if 257 ≤ s ∧ s ≤ 264 then some (0, (s - 254).toNat) else if 265 ≤ s ∧ s ≤ 284 then some (((s - 261) / 4).toNat, 2 ^ (((s - 261) / 4).toNat + 2) + 3 + ((s - 265) % 4).toNat * 2 ^ ((s - 261) / 4).toNat) else none
def distP (s : Int) : Option (Nat × Nat) := if 0 ≤ s ∧ s ≤ 3 then some (0, (s + 1).toNat) else if 4 ≤ s ∧ s ≤ 29 then some (((s - 2) / 2).toNat, 2 ^ (((s - 2) / 2).toNat + 1) + 1 + (s % 2).toNat * 2 ^ ((s - 2) / 2).toNat) else none
def copiedM (l : List Int) (most : Int) (dist : Option (List Int)) (s : Int) (p : Nat) (out : List Int) : Except Int (Nat × List Int) :=
  match lenP s with
  | none => .error 13
  | some (k, base) => match bitsM l p k with
    | .error e => .error e
    | .ok (x, p1) => match symM l dist p1 with
      | .error e => .error e
      | .ok (d, p2) => match distP d with
        | none => .error 13
        | some (kd, bd) => match bitsM l p2 kd with
          | .error e => .error e
          | .ok (y, p3) => if bd + y.toNat > out.length then .error 14 else if ((base + x.toNat : Nat) : Int) > most - (out.length : Int) then .error 3 else .ok (p3, copyL out (bd + y.toNat) (base + x.toNat))
def symbolsM (l : List Int) (most : Int) (lit : List Int) (dist : Option (List Int)) : Nat → Nat → List Int → Except Int (Nat × List Int)
  | 0, _, _ => .error 0
  | k + 1, p, out => match symM l (some lit) p with
    | .error e => .error e
    | .ok (s, p1) => if s = 256 then .ok (p1, out) else if s > 256 then (match copiedM l most dist s p1 out with
        | .error e => .error e
        | .ok (p2, out2) => symbolsM l most lit dist k p2 out2)
      else if 1 > most - (out.length : Int) then .error 3 else symbolsM l most lit dist k p1 (out ++ [s])
structure RowOk (w0 : World) (A : Option Addr) (c : Nat) (l : List Int) : Prop where
  C : (Kd.int .u8).C w0 A l.length l
  cap : l.length ≤ c
  byt : Byt l
  len : l.length ≤ 1000000
abbrev NN (l : List Int) : Int := ((8 * l.length : Nat) : Int)
def ToldV (w0 w : World) (g : Nat) (A : Option Addr) (c : Nat) (l : List Int) (v : Value) (out : List Int) (most : Int) (e : Ending) (w' : World) : Except Int (Int × Nat) → Prop
  | .ok (x, p') => e = .returned (.int .i64 x) ∧ p' ≤ 8 * l.length ∧ RdrAt w0 w' g A c l (NN l) ((p' : Nat) : Int) v out most ∧ Moved w w' g v v
  | .error er => Gives w0.heap.size w w' er e
theorem okR_whole {l : List Int} (hb : Byt l) : okR l (NN l) = true := okR_nat (rgt_whole hb)
theorem getS_at {l : List Int} (hb : Byt l) {p n : Nat} (hp : p ≤ 8 * l.length) (hn : n ≤ 32) : getS l (NN l) (p : Int) (n : Int) = if p + n ≤ 8 * l.length then (getV l p n, 0) else (0, 4) := by
  unfold getS NN
  rw [okR_nat (rgt_whole hb), if_pos (by simp only [Bool.true_and, Bool.and_eq_true, decide_eq_true_eq]; omega)]
  by_cases h : p + n ≤ 8 * l.length
  · rw [if_neg (by omega), if_pos h, Int.toNat_natCast, Int.toNat_natCast]
  · rw [if_pos (by omega), if_neg h]
theorem getV_bound (l : List Int) (p n : Nat) (hn : n ≤ 32) : 0 ≤ getV l p n ∧ getV l p n < 4294967296 := by
  have h := getV_range l p n
  have h2 : (2 : Int) ^ n ≤ 2 ^ 32 := pow_le2 hn
  omega
theorem rbits_told {w0 : World} {A : Option Addr} {c : Nat} {l : List Int} (hr : RowOk w0 A c l) (w : World) (g p n : Nat) (v : Value) (out : List Int) (most : Int) (H : RdrAt w0 w g A c l (NN l) (p : Int) v out most) (hp : p ≤ 8 * l.length) (hn : n ≤ 32) :
    Calls Tryd.prog 26 #[.pointer (some ⟨g, 0, none⟩), .int .i64 (n : Int)] w fun e w' => ToldV w0 w g A c l v out most e w' (bitsM l p n) := by
  have hlen := hr.len
  have hf := get_eq (k := 40) (Nat.le_refl _) (l := l) (n := NN l) (a := (p : Int)) (c := (n : Int)) hr.byt (by omega) (by unfold NN; omega) (by unfold NN; omega)
  rw [getS_at hr.byt hp hn] at hf
  unfold bitsM
  by_cases h : p + n ≤ 8 * l.length
  · rw [if_pos h] at hf ⊢
    refine (rbits_calls 40 w0 A c l hr.C hr.cap w g _ _ v out most _ _ _ H hf).mono ?_
    rintro e w' (⟨_, he, hat, hm⟩ | ⟨hne, _⟩)
    · have e1 : wrap64 ((p : Int) + (n : Int)) = ((p + n : Nat) : Int) := by rw [wrap64_id (by omega) (by omega)]; omega
      rw [e1] at hat
      exact ⟨he, h, hat, hm⟩
    · exact absurd rfl hne
  · rw [if_neg h] at hf ⊢
    refine (rbits_calls 40 w0 A c l hr.C hr.cap w g _ _ v out most _ _ _ H hf).mono ?_
    rintro e w' (⟨h0, _⟩ | ⟨_, hg⟩)
    · exact absurd h0 (by decide)
    · exact hg
theorem scan_place (z b : List Int) (m : Nat) : ∀ d p v, d ≤ 15 → p ≤ m → (scan z b m d p v).2.2 = 0 → ∃ q : Nat, (scan z b m d p v).2.1 = (q : Int) ∧ p < q ∧ q ≤ m
  | 0, p, v, _, _, h => by simp [scan] at h
  | d + 1, p, v, hd, hp, h => by
    unfold scan at h ⊢
    split
    · next h1 => rw [if_pos h1] at h; simp at h
    · next h1 =>
      rw [if_neg h1] at h
      split
      · next h2 => exact ⟨p + 1, rfl, by omega, by omega⟩
      · next h2 =>
        rw [if_neg h2] at h
        split
        · next h3 => rw [if_pos h3] at h; simp at h
        · next h3 =>
          rw [if_neg h3] at h
          obtain ⟨q, e, h4, h5⟩ := scan_place z b m d (p + 1) _ (by omega) (by omega) h
          exact ⟨q, e, by omega, h5⟩
theorem rsym_told {w0 : World} {A : Option Addr} {c : Nat} {l : List Int} (hr : RowOk w0 A c l) (w : World) (g p gt : Nat) (z : List Int) (v : Value) (out : List Int) (most : Int) (H : RdrAt w0 w g A c l (NN l) (p : Int) v out most) (hp : p ≤ 8 * l.length) (hz : OKL z) (hT : TabIn w gt (Hu.countedS z).1 (Hu.symsS z)) :
    Calls Tryd.prog 42 #[.pointer (some ⟨g, 0, none⟩), .pointer (some ⟨gt, 0, none⟩)] w fun e w' => ToldV w0 w g A c l v out most e w' (symM l (some z) p) := by
  have hlen := hr.len
  have hf := readF_eq (k := 40) (Nat.le_refl _) (l := z) (b := l) (n := NN l) ((p : Nat) : Int) hz hr.byt (by omega) (by unfold NN; omega) (by unfold NN; omega)
  unfold readS at hf
  rw [if_pos ⟨okR_whole hr.byt, by omega, by unfold NN; omega⟩, Int.toNat_natCast] at hf
  unfold NN at hf
  rw [Int.toNat_natCast] at hf
  have hs := scan_place z l (8 * l.length) 15 p 0 (by omega) hp
  rw [show symM l (some z) p = (if (scan z l (8 * l.length) 15 p 0).2.2 = 0 then .ok ((scan z l (8 * l.length) 15 p 0).1, (scan z l (8 * l.length) 15 p 0).2.1.toNat) else .error (scan z l (8 * l.length) 15 p 0).2.2) from rfl]
  generalize scan z l (8 * l.length) 15 p 0 = r at *
  obtain ⟨r1, r2, r3⟩ := r
  refine (rsym_calls 40 w0 A c l hr.C hr.cap w g _ _ v out most gt _ _ r1 r2 r3 H hT.at_ hf).mono ?_
  rintro e w' (⟨h0, he, hat, hm⟩ | ⟨h0, hg⟩)
  · obtain ⟨q, e2, h4, h5⟩ := hs h0
    dsimp only at e2 ⊢
    rw [if_pos h0]
    subst e2
    exact ⟨he, by rw [Int.toNat_natCast]; exact h5, by rw [Int.toNat_natCast]; exact hat, hm⟩
  · dsimp only
    rw [if_neg h0]
    exact hg
theorem rsym_none {w0 : World} {A : Option Addr} {c : Nat} {l : List Int} (hr : RowOk w0 A c l) (w : World) (g p : Nat) (v : Value) (out : List Int) (most : Int) (H : RdrAt w0 w g A c l (NN l) (p : Int) v out most) :
    Calls Tryd.prog 42 #[.pointer (some ⟨g, 0, none⟩), .pointer none] w fun e w' => ToldV w0 w g A c l v out most e w' (symM l none p) :=
  rsym_nil w0 A c l hr.C hr.cap w g _ _ v out most H
def CodeIn (w : World) : Value → Option (List Int) → Prop
  | .pointer none, none => True
  | .pointer (some a), some z => OKL z ∧ a = ⟨a.block, 0, none⟩ ∧ TabIn w a.block (Hu.countedS z).1 (Hu.symsS z)
  | _, _ => False
end Go.Proofs.YtgflkkjhckcipaaDoor.Pr

-- YtgflkkjhckcipaaDoorIf9
namespace Go.Proofs.YtgflkkjhckcipaaDoor.Pr
open Go.RowKit Go.Shelf Go.Proofs.YtgflkkjhckcipaaDoorW.PrintWords Go.Proofs.YtgflkkjhckcipaaDoorW.PrintLast Go.Proofs.YtgflkkjhckcipaaDoorW.PrintMore
set_option linter.unusedVariables false
set_option linter.unusedSimpArgs false
theorem rbits_told' {w0 : World} {A : Option Addr} {c : Nat} {l : List Int} (hr : RowOk w0 A c l) (w : World) (g p n : Nat) (m : Int) (hm : m = (n : Int)) (v : Value) (out : List Int) (most : Int) (H : RdrAt w0 w g A c l (NN l) (p : Int) v out most) (hp : p ≤ 8 * l.length) (hn : n ≤ 32) :
    Calls Tryd.prog 26 #[.pointer (some ⟨g, 0, none⟩), .int .i64 m] w fun e w' => ToldV w0 w g A c l v out most e w' (bitsM l p n) := by
  subst hm
  exact rbits_told hr w g p n v out most H hp hn
def ToldO (w0 w : World) (g : Nat) (A : Option Addr) (c : Nat) (l : List Int) (v : Value) (most : Int) (e : Ending) (w' : World) : Except Int (Nat × List Int) → Prop
  | .ok (p', out') => e = .returned (.tuple #[]) ∧ p' ≤ 8 * l.length ∧ ∃ v', RdrAt w0 w' g A c l (NN l) ((p' : Nat) : Int) v' out' most ∧ Moved w w' g v v'
  | .error er => Gives w0.heap.size w w' er e
theorem bitsM_ok {l : List Int} {p n : Nat} {x : Int} {p' : Nat} (h : bitsM l p n = .ok (x, p')) : x = getV l p n ∧ p' = p + n ∧ p + n ≤ 8 * l.length := by
  unfold bitsM at h
  split at h
  · injection h with h
    injection h with h1 h2
    exact ⟨h1.symm, h2.symm, by assumption⟩
  · cases h
theorem and_mask8 (x : Nat) (hx : x < 2 ^ 60) : x &&& 18446744073709551608 = x / 8 * 8 := by
  have e : 18446744073709551608 = (2 ^ 61 - 1) <<< 3 := by decide
  have e2 : x / 8 * 8 = (x >>> 3) <<< 3 := by rw [Nat.shiftLeft_eq, Nat.shiftRight_eq_div_pow]
  rw [e, e2]
  apply Nat.eq_of_testBit_eq
  intro i
  rw [Nat.testBit_and, Nat.testBit_shiftLeft, Nat.testBit_shiftLeft, Nat.testBit_shiftRight, Nat.testBit_two_pow_sub_one]
  by_cases h : 3 ≤ i
  · have e3 : 3 + (i - 3) = i := by omega
    rw [e3]
    by_cases h2 : i - 3 < 61
    · simp [h, h2]
    · have : x.testBit i = false := Nat.testBit_lt_two_pow (Nat.lt_of_lt_of_le hx (Nat.pow_le_pow_right (by omega) (by omega)))
      simp [this]
  · simp [h]
theorem andNot7 (p : Nat) (hp : p ≤ 100000000) : Go.bits .andNot .i64 (wrap64 ((p : Int) + 7)) 7 = (((p + 7) / 8 * 8 : Nat) : Int) := by
  rw [wrap64_id (by omega) (by omega), show (p : Int) + 7 = ((p + 7 : Nat) : Int) by omega]
  show IntKind.i64.wrap ((BitVec.ofInt 64 ((p + 7 : Nat) : Int) &&& ~~~BitVec.ofInt 64 7).toNat : Int) = _
  have h7 : (BitVec.ofInt 64 7).toNat = 7 := by decide
  rw [BitVec.toNat_and, BitVec.toNat_not, i64of (p + 7) (by omega), h7, show 2 ^ 64 - 1 - 7 = 18446744073709551608 by decide, and_mask8 (p + 7) (by omega), IntKind.wrap_i64]
  omega
theorem xor16 (x : Int) (h0 : 0 ≤ x) (h1 : x < 65536) : Go.bits .xor .i64 x 65535 = 65535 - x := by
  obtain ⟨n, rfl⟩ : ∃ n : Nat, x = (n : Int) := ⟨x.toNat, by omega⟩
  show IntKind.i64.wrap ((BitVec.ofInt 64 (n : Int) ^^^ BitVec.ofInt 64 65535).toNat : Int) = _
  have h7 : (BitVec.ofInt 64 65535).toNat = 65535 := by decide
  have e : n ^^^ 65535 = 65535 - n := by
    have h := congrArg BitVec.toNat (BitVec.xor_allOnes (x := BitVec.ofNat 16 n))
    rw [BitVec.toNat_xor, BitVec.toNat_not, BitVec.toNat_allOnes, BitVec.toNat_ofNat, Nat.mod_eq_of_lt (by omega)] at h
    exact h
  rw [BitVec.toNat_xor, i64of n (by omega), h7, e, IntKind.wrap_i64]
  omega
theorem RdrAt.between {w0 w w1 : World} {g c c1 : Nat} {A A1 : Option Addr} {l l1 : List Int} {N at_ N1 at1 : Int} {v v1 : Value} {out out1 : List Int} {most most1 : Int} (H : RdrAt w0 w g A c l N at_ v out most) (H1 : RdrAt w0 w1 g A1 c1 l1 N1 at1 v1 out1 most1) (hs : w.heap.size ≤ w1.heap.size) : Below w0.heap.size w w1 :=
  ⟨H1.below.os.trans H.below.os.symm, H1.below.tape.trans H.below.tape.symm, H1.below.output.trans H.below.output.symm, hs, fun k hk => (H1.below.block k hk).trans (H.below.block k hk).symm⟩
theorem rdr_c2 {w0 w : World} {g c : Nat} {A : Option Addr} {l : List Int} {N at_ : Int} {v : Value} {out : List Int} {most : Int} (H : RdrAt w0 w g A c l N at_ v out most) : w.cell? ⟨g, 2, none⟩ = some (.int .i64 at_) ∧ w.frozen? ⟨g, 2, none⟩ = false ∧ w.cell? ⟨g, 3, none⟩ = some v ∧ w.frozen? ⟨g, 3, none⟩ = false := ⟨(blk_cell H.blk 2).trans rfl, blk_frozen H.blk 2, (blk_cell H.blk 3).trans rfl, blk_frozen H.blk 3⟩
theorem RdrAt.appended {w0 w w6 : World} {g c : Nat} {A : Option Addr} {l : List Int} {N at_ : Int} {v v1 : Value} {out ys : List Int} {most : Int} (H : RdrAt w0 w g A c l N at_ v out most) (ho : (Kd.int .u8).R 5 w6 w0.heap.size (fun _ => True) v1 ys) (hb : Below w0.heap.size w0 w6) (hg : w.grownBy w6 v.ownBlock) (hat : v1.ownBlock = v.ownBlock ∨ ∃ b, v1.ownBlock = some b ∧ w.heap.size ≤ b) :
    RdrAt w0 (w6.setCell ⟨g, 3, none⟩ v1) g A c l N at_ v1 ys most ∧ Moved w (w6.setCell ⟨g, 3, none⟩ v1) g v v1 := by
  have hbg := blk_grown H.blk hg (Kd.R_ne H.row H.blk (by decide))
  refine ⟨⟨hb.setCell (p := ⟨g, 3, none⟩) H.ge _, H.ge, blk_set hbg 3 _, Kd.R_set ho hbg (by decide) 3 _⟩, ⟨by simpa [World.setCell] using hg.size, fun k hk hkg ho => (Below.heap_setCell w6 ⟨g, 3, none⟩ v1 k hkg).trans (hg.block k hk ho), ?_⟩⟩
  rcases hat with e | ⟨b, e, hb⟩
  · exact .inl e
  · exact .inr ⟨b, hb, e⟩
theorem room_full {w0 : World} {A : Option Addr} {c : Nat} {l : List Int} (hr : RowOk w0 A c l) (w : World) (g : Nat) (p : Nat) (v : Value) (out : List Int) (most n : Int) (H : RdrAt w0 w g A c l (NN l) (p : Int) v out most) (hm0 : (out.length : Int) ≤ most) (hm1 : most ≤ 65536) (hn : n > most - (out.length : Int)) :
    Calls Tryd.prog 36 #[.pointer (some ⟨g, 0, none⟩), .int .i64 n] w fun e w' => Gives w0.heap.size w w' 3 e := by
  have e : wrap64 (most - (out.length : Int)) = most - (out.length : Int) := wrap64_id (by omega) (by omega)
  refine (room_calls w0 A c l hr.C hr.cap w g _ _ v out most n H).mono ?_
  rw [e]
  rintro e w' (⟨h1, h2⟩ | ⟨h1, h2⟩)
  · exact absurd hn h1
  · exact h2
theorem room_ok {w0 : World} {A : Option Addr} {c : Nat} {l : List Int} (hr : RowOk w0 A c l) (w : World) (g : Nat) (p : Nat) (v : Value) (out : List Int) (most n : Int) (H : RdrAt w0 w g A c l (NN l) (p : Int) v out most) (hm0 : (out.length : Int) ≤ most) (hm1 : most ≤ 65536) (hn : ¬ n > most - (out.length : Int)) :
    Calls Tryd.prog 36 #[.pointer (some ⟨g, 0, none⟩), .int .i64 n] w fun e w' => e = .returned (.tuple #[]) ∧ Below w.heap.size w w' := by
  have e : wrap64 (most - (out.length : Int)) = most - (out.length : Int) := wrap64_id (by omega) (by omega)
  refine (room_calls w0 A c l hr.C hr.cap w g _ _ v out most n H).mono ?_
  rw [e]
  rintro e w' (⟨h1, h2⟩ | ⟨h1, h2⟩)
  · exact h2
  · exact absurd h1 hn
end Go.Proofs.YtgflkkjhckcipaaDoor.Pr

-- YtgflkkjhckcipaaDoorIf10
namespace Go.Proofs.YtgflkkjhckcipaaDoor.Pr
open Go.RowKit Go.Shelf Go.Proofs.YtgflkkjhckcipaaDoorW.PrintWords Go.Proofs.YtgflkkjhckcipaaDoorW.PrintLast Go.Proofs.YtgflkkjhckcipaaDoorW.PrintMore
set_option linter.unusedVariables false
set_option linter.unusedSimpArgs false
section
attribute [local go_sem] Oper.semAt_some
set_option maxHeartbeats 16000000 in
set_option maxRecDepth 1000000 in
theorem stored_told {w0 : World} {A : Option Addr} {c : Nat} {l : List Int} (hr : RowOk w0 A c l) (w : World) (g p : Nat) (v : Value) (out : List Int) (most : Int) (H : RdrAt w0 w g A c l (NN l) (p : Int) v out most) (hp : p ≤ 8 * l.length) (hm0 : (out.length : Int) ≤ most) (hm1 : most ≤ 65536) :
    Calls Tryd.prog 27 #[.pointer (some ⟨g, 0, none⟩)] w fun e w' => ToldO w0 w g A c l v most e w' (storedM l most p out) := by
  have hlen := hr.len
  obtain ⟨Ao, co, rfl⟩ := Kd.R_slice H.row
  have hX := andNot7 p (by omega)
  rw [wrap64_id (by omega) (by omega)] at hX
  have hw7 : wrap64 ((p : Int) + 7) = (p : Int) + 7 := wrap64_id (by omega) (by omega)
  obtain ⟨p1, hp1⟩ : ∃ p1, (p + 7) / 8 * 8 = p1 := ⟨_, rfl⟩
  have hp1b : p1 ≤ 8 * l.length := by omega
  unfold storedM
  rw [hp1] at hX ⊢
  have HR := Aside0.mk hr
  have HX := Aside0.mk H
  have AT := Aside0.mk H
  have MV := Aside0.mk (Moved.of_below g (.slice Ao out.length co) (Below.refl w.heap.size w))
  have huR := Tryd.underlying51
  have huB := Tryd.underlying35
  have HM0 := Aside0.mk hm0
  have HM1 := Aside0.mk hm1
  cases h1 : bitsM l p1 16 with
  | error er =>
    have H1 := Aside0.mk h1
    clear h1
    go_enter Tryd.func27, Tryd.ntmps27
    obtain ⟨hc2, hf2, hc3, hf3⟩ := rdr_c2 AT.out
    clear hc3 hf3
    go_upto_region 1 with (fail)
    have AT_ := Aside0.mk (AT.out.setAt (p1 : Int))
    have MV_ := Aside0.mk (MV.out.set_ 2 (.int .i64 (p1 : Int)))
    clear AT MV hc2 hf2
    have AT := AT_
    have MV := MV_
    clear AT_ MV_
    have HP := Aside0.mk hp1b
    clear hp1b
    generalize w.setCell ⟨g, 2, none⟩ (.int .i64 (p1 : Int)) = w1 at *
    go_wp2_with (go_at_call 26; have hcc := rbits_told' HR.out _ g p1 16 16 rfl (.slice Ao out.length co) out most AT.out HP.out (by decide); rw [H1.out] at hcc; refine hcc.mono ?_; clear hcc; rintro e w' ⟨pp, rfl, hfa, hb⟩)
    exact ⟨rfl, pp, rfl, hfa, (HX.out.between AT.out MV.out.size).trans hb⟩
  | ok r1 =>
    obtain ⟨x, p2⟩ := r1
    dsimp only
    obtain ⟨hxv, hp2, hp2b⟩ := bitsM_ok h1
    have hxb := getV_bound l p1 16 (by decide)
    have hxr := getV_range l p1 16
    rw [← hxv] at hxb hxr
    have hx16 : x < 65536 := hxr.2
    have H1 := Aside0.mk h1
    clear h1 hxv
    cases h2 : bitsM l p2 16 with
    | error er =>
      have H2 := Aside0.mk h2
      clear h2 hxb hxr hx16 hp2 hp2b
      go_enter Tryd.func27, Tryd.ntmps27
      obtain ⟨hc2, hf2, hc3, hf3⟩ := rdr_c2 AT.out
      clear hc3 hf3
      go_upto_region 1 with (fail)
      have AT_ := Aside0.mk (AT.out.setAt (p1 : Int))
      have MV_ := Aside0.mk (MV.out.set_ 2 (.int .i64 (p1 : Int)))
      clear AT MV hc2 hf2
      have AT := AT_
      have MV := MV_
      clear AT_ MV_
      have HP := Aside0.mk hp1b
      clear hp1b
      generalize w.setCell ⟨g, 2, none⟩ (.int .i64 (p1 : Int)) = w1 at *
      go_wp2_with (first
        | (go_at_call 26; have hcc := rbits_told' HR.out _ g p1 16 16 rfl (.slice Ao out.length co) out most AT.out HP.out (by decide); rw [H1.out] at hcc; refine hcc.mono ?_; clear hcc; rintro e w' ⟨rfl, hq_, hat_, hm_⟩; have AT_ := Aside0.mk hat_; have MV_ := Aside0.mk (MV.out.trans hm_); have HP_ := Aside0.mk hq_; clear AT MV HP hat_ hm_ hq_; have AT := AT_; have MV := MV_; have HP := HP_; clear AT_ MV_ HP_; clear H1)
        | (go_at_call 26; have hcc := rbits_told' HR.out _ g p2 16 16 rfl (.slice Ao out.length co) out most AT.out HP.out (by decide); rw [H2.out] at hcc; refine hcc.mono ?_; clear hcc; rintro e w' ⟨pp, rfl, hfa, hb⟩)
        )
      exact ⟨rfl, pp, rfl, hfa, (HX.out.between AT.out MV.out.size).trans hb⟩
    | ok r2 =>
      obtain ⟨y, p3⟩ := r2
      obtain ⟨hyv, hp3, hp3b⟩ := bitsM_ok h2
      have H2 := Aside0.mk h2
      clear h2 hyv
      have hxo := xor16 x hxb.1 hx16
      dsimp only
      by_cases hne : y ≠ 65535 - x
      · rw [if_pos hne]
        have q0 : (y != 65535 - x) = true := bne_iff_ne.2 hne
        clear hxb hxr hx16 hp2 hp2b hp3 hp3b hne
        go_enter Tryd.func27, Tryd.ntmps27
        obtain ⟨hc2, hf2, hc3, hf3⟩ := rdr_c2 AT.out
        clear hc3 hf3
        go_upto_region 1 with (fail)
        have AT_ := Aside0.mk (AT.out.setAt (p1 : Int))
        have MV_ := Aside0.mk (MV.out.set_ 2 (.int .i64 (p1 : Int)))
        clear AT MV hc2 hf2
        have AT := AT_
        have MV := MV_
        clear AT_ MV_
        have HP := Aside0.mk hp1b
        clear hp1b
        generalize w.setCell ⟨g, 2, none⟩ (.int .i64 (p1 : Int)) = w1 at *
        go_wp2_with (first
        | (go_at_call 26; have hcc := rbits_told' HR.out _ g p1 16 16 rfl (.slice Ao out.length co) out most AT.out HP.out (by decide); rw [H1.out] at hcc; refine hcc.mono ?_; clear hcc; rintro e w' ⟨rfl, hq_, hat_, hm_⟩; have AT_ := Aside0.mk hat_; have MV_ := Aside0.mk (MV.out.trans hm_); have HP_ := Aside0.mk hq_; clear AT MV HP hat_ hm_ hq_; have AT := AT_; have MV := MV_; have HP := HP_; clear AT_ MV_ HP_; clear H1)
        | (go_at_call 26; have hcc := rbits_told' HR.out _ g p2 16 16 rfl (.slice Ao out.length co) out most AT.out HP.out (by decide); rw [H2.out] at hcc; refine hcc.mono ?_; clear hcc; rintro e w' ⟨rfl, hq_, hat_, hm_⟩; have AT_ := Aside0.mk hat_; have MV_ := Aside0.mk (MV.out.trans hm_); have HP_ := Aside0.mk hq_; clear AT MV HP hat_ hm_ hq_; have AT := AT_; have MV := MV_; have HP := HP_; clear AT_ MV_ HP_; clear H2)
        | (go_at_call 30; refine (stop_calls 5 _).mono ?_; rintro e w' ⟨pp, rfl, hfa, hb⟩)
        )
        exact ⟨rfl, pp, rfl, hfa, (HX.out.between AT.out MV.out.size).trans (hb.mono AT.out.below.size)⟩
      · rw [if_neg hne]
        have hy : y = 65535 - x := Decidable.not_not.1 hne
        have q0 : (y != 65535 - x) = false := by rw [hy]; exact bne_self_eq_false _
        clear hne
        by_cases hrm : x > most - (out.length : Int)
        · rw [if_pos hrm]
          have HRm := Aside0.mk hrm
          clear hxb hxr hx16 hp2 hp2b hp3 hp3b hrm hy
          go_enter Tryd.func27, Tryd.ntmps27
          obtain ⟨hc2, hf2, hc3, hf3⟩ := rdr_c2 AT.out
          clear hc3 hf3
          go_upto_region 1 with (fail)
          have AT_ := Aside0.mk (AT.out.setAt (p1 : Int))
          have MV_ := Aside0.mk (MV.out.set_ 2 (.int .i64 (p1 : Int)))
          clear AT MV hc2 hf2
          have AT := AT_
          have MV := MV_
          clear AT_ MV_
          have HP := Aside0.mk hp1b
          clear hp1b
          generalize w.setCell ⟨g, 2, none⟩ (.int .i64 (p1 : Int)) = w1 at *
          go_wp2_with (first
        | (go_at_call 26; have hcc := rbits_told' HR.out _ g p1 16 16 rfl (.slice Ao out.length co) out most AT.out HP.out (by decide); rw [H1.out] at hcc; refine hcc.mono ?_; clear hcc; rintro e w' ⟨rfl, hq_, hat_, hm_⟩; have AT_ := Aside0.mk hat_; have MV_ := Aside0.mk (MV.out.trans hm_); have HP_ := Aside0.mk hq_; clear AT MV HP hat_ hm_ hq_; have AT := AT_; have MV := MV_; have HP := HP_; clear AT_ MV_ HP_; clear H1)
        | (go_at_call 26; have hcc := rbits_told' HR.out _ g p2 16 16 rfl (.slice Ao out.length co) out most AT.out HP.out (by decide); rw [H2.out] at hcc; refine hcc.mono ?_; clear hcc; rintro e w' ⟨rfl, hq_, hat_, hm_⟩; have AT_ := Aside0.mk hat_; have MV_ := Aside0.mk (MV.out.trans hm_); have HP_ := Aside0.mk hq_; clear AT MV HP hat_ hm_ hq_; have AT := AT_; have MV := MV_; have HP := HP_; clear AT_ MV_ HP_; clear H2)
        | (go_at_call 36; refine (room_full HR.out _ g _ (.slice Ao out.length co) out most x AT.out HM0.out HM1.out HRm.out).mono ?_; rintro e w' ⟨pp, rfl, hfa, hb⟩)
        )
          exact ⟨rfl, pp, rfl, hfa, (HX.out.between AT.out MV.out.size).trans hb⟩
        · rw [if_neg hrm]
          have HRm := Aside0.mk hrm
          have HP3 := Aside0.mk hp3b
          have HX16 := Aside0.mk (And.intro hxb.1 hx16)
          clear hrm hy
          by_cases hsh : (8 * l.length - p3) / 8 < x.toNat
          · rw [if_pos hsh]
            have q5 := eq_true (show wrap64 (8 * (l.length : Int) - (p3 : Int)) / 8 < x by rw [wrap64_id (by omega) (by omega)]; omega)
            clear hxb hxr hx16 hp2 hp2b hp3 hp3b hsh
            go_enter Tryd.func27, Tryd.ntmps27
            obtain ⟨hc2, hf2, hc3, hf3⟩ := rdr_c2 AT.out
            clear hc3 hf3
            go_upto_region 1 with (fail)
            have AT_ := Aside0.mk (AT.out.setAt (p1 : Int))
            have MV_ := Aside0.mk (MV.out.set_ 2 (.int .i64 (p1 : Int)))
            clear AT MV hc2 hf2
            have AT := AT_
            have MV := MV_
            clear AT_ MV_
            have HP := Aside0.mk hp1b
            clear hp1b
            generalize w.setCell ⟨g, 2, none⟩ (.int .i64 (p1 : Int)) = w1 at *
            go_upto_region 5 with (first
        | (go_at_call 26; have hcc := rbits_told' HR.out _ g p1 16 16 rfl (.slice Ao out.length co) out most AT.out HP.out (by decide); rw [H1.out] at hcc; refine hcc.mono ?_; clear hcc; rintro e w' ⟨rfl, hq_, hat_, hm_⟩; have AT_ := Aside0.mk hat_; have MV_ := Aside0.mk (MV.out.trans hm_); have HP_ := Aside0.mk hq_; clear AT MV HP hat_ hm_ hq_; have AT := AT_; have MV := MV_; have HP := HP_; clear AT_ MV_ HP_; clear H1)
        | (go_at_call 26; have hcc := rbits_told' HR.out _ g p2 16 16 rfl (.slice Ao out.length co) out most AT.out HP.out (by decide); rw [H2.out] at hcc; refine hcc.mono ?_; clear hcc; rintro e w' ⟨rfl, hq_, hat_, hm_⟩; have AT_ := Aside0.mk hat_; have MV_ := Aside0.mk (MV.out.trans hm_); have HP_ := Aside0.mk hq_; clear AT MV HP hat_ hm_ hq_; have AT := AT_; have MV := MV_; have HP := HP_; clear AT_ MV_ HP_; clear H2)
        | (go_at_call 36; refine (room_ok HR.out _ g _ (.slice Ao out.length co) out most x AT.out HM0.out HM1.out (by have := HRm.out; omega)).mono ?_; rintro e w' ⟨rfl, hb⟩; have AT_ := Aside0.mk (AT.out.on hb); have MV_ := Aside0.mk (MV.out.trans (Moved.of_below g _ hb)); clear AT MV hb; have AT := AT_; have MV := MV_; clear AT_ MV_; clear HRm)
        )
            have AT_ := Aside0.mk (AT.out.on (below_drew (Below.refl _ _)))
            have MV_ := Aside0.mk (MV.out.trans (Moved.of_below g _ (below_drew (Below.refl _ _))))
            clear AT MV
            have AT := AT_
            have MV := MV_
            clear AT_ MV_
            refine start_ (n := 13) (S := fun w' => w'.cell? ⟨g, 1, none⟩ = some (.int .i64 (NN l)) ∧ w'.cell? ⟨g, 2, none⟩ = some (.int .i64 (p3 : Int))) (ds := []) #[false, false, false, false, false, false, false, false, false, false, false, false, false] (by kernel_rfl) rfl rfl ⟨(blk_cell AT.out.blk 1).trans rfl, (blk_cell AT.out.blk 2).trans rfl⟩ (fun hHeld => ?_)
            generalize w'.drew = wd at AT MV hHeld ⊢
            refine pure_ (i := 0) (N := some 23) (v := ?_) (a' := ?_) #[true, false, false, false, false, false, false, false, false, false, false, false, false] rfl rfl (by kernel_rfl) (fun _ _ _ h => h) (Or.inl ⟨by rfl, ?_⟩) ?_ ?_
            rotate_left
            · intro w'
              go_simp
              with_reducible rfl
            rotate_left
            · simp only [Act.put, List.setIfInBounds_toArray, List.set_cons_zero, List.set_cons_succ, i64_w, i32_w, u8_w]
              rfl
            refine pure_ (i := 1) (N := some 24) (v := ?_) (a' := ?_) #[true, true, false, false, false, false, false, false, false, false, false, false, false] rfl rfl (by kernel_rfl) (fun _ _ _ h => h) (Or.inl ⟨by rfl, ?_⟩) ?_ ?_
            rotate_left
            · intro w'
              go_simp
              with_reducible rfl
            rotate_left
            · simp only [Act.put, List.setIfInBounds_toArray, List.set_cons_zero, List.set_cons_succ, i64_w, i32_w, u8_w]
              rfl
            refine pure_ (i := 2) (N := some 25) (v := ?_) (a' := ?_) #[true, true, true, false, false, false, false, false, false, false, false, false, false] rfl rfl (by kernel_rfl) (fun _ _ _ h => h) (Or.inl ⟨by rfl, ?_⟩) ?_ ?_
            rotate_left
            · intro w'
              go_simp
              with_reducible rfl
            rotate_left
            · simp only [Act.put, List.setIfInBounds_toArray, List.set_cons_zero, List.set_cons_succ, i64_w, i32_w, u8_w]
              rfl
            refine pure_ (i := 3) (N := some 26) (v := ?_) (a' := ?_) #[true, true, true, true, false, false, false, false, false, false, false, false, false] rfl rfl (by kernel_rfl) (fun _ _ _ h => h) (Or.inl ⟨by rfl, ?_⟩) ?_ ?_
            rotate_left
            · intro w'
              go_simp
              with_reducible rfl
            rotate_left
            · simp only [Act.put, List.setIfInBounds_toArray, List.set_cons_zero, List.set_cons_succ, i64_w, i32_w, u8_w]
              rfl
            refine pure_ (i := 5) (N := some 28) (v := ?_) (a' := ?_) #[true, true, true, true, false, true, false, false, false, false, false, false, false] rfl rfl (by kernel_rfl) (fun _ _ _ h => h) (Or.inl ⟨by rfl, ?_⟩) ?_ ?_
            rotate_left
            · intro w'
              go_simp
              with_reducible rfl
            rotate_left
            · simp only [Act.put, List.setIfInBounds_toArray, List.set_cons_zero, List.set_cons_succ, i64_w, i32_w, u8_w]
              rfl
            refine pure_ (i := 6) (N := some 29) (v := ?_) (a' := ?_) #[true, true, true, true, false, true, true, false, false, false, false, false, false] rfl rfl (by kernel_rfl) (fun _ _ _ h => h) (Or.inl ⟨by rfl, ?_⟩) ?_ ?_
            rotate_left
            · intro w'
              go_simp
              with_reducible rfl
            rotate_left
            · simp only [Act.put, List.setIfInBounds_toArray, List.set_cons_zero, List.set_cons_succ, i64_w, i32_w, u8_w]
              rfl
            refine pure_ (i := 7) (N := some 30) (v := ?_) (a' := ?_) #[true, true, true, true, false, true, true, true, false, false, false, false, false] rfl rfl (by kernel_rfl) (fun _ _ _ h => h) (Or.inl ⟨by rfl, ?_⟩) ?_ ?_
            rotate_left
            · intro w'
              go_simp
              with_reducible rfl
            rotate_left
            · simp only [Act.put, List.setIfInBounds_toArray, List.set_cons_zero, List.set_cons_succ, i64_w, i32_w, u8_w]
              rfl
            refine pure_ (i := 11) (N := some 34) (v := ?_) (a' := ?_) #[true, true, true, true, false, true, true, true, false, false, false, true, false] rfl rfl (by kernel_rfl) (fun _ _ _ h => h) (Or.inl ⟨by rfl, ?_⟩) ?_ ?_
            rotate_left
            · intro w'
              go_simp
              with_reducible rfl
            rotate_left
            · simp only [Act.put, List.setIfInBounds_toArray, List.set_cons_zero, List.set_cons_succ, i64_w, i32_w, u8_w]
              rfl
            refine take_ (i := 4) (N := some 27) (v := ?_) (a' := ?_) #[true, true, true, true, true, true, true, true, false, false, false, true, false] rfl rfl (by kernel_rfl) (fun _ _ _ h => h) (Or.inl ⟨by rfl, ?_⟩) hHeld ?_ ?_
            rotate_left
            · rintro w' ⟨s0, s1⟩
              go_simp
              with_reducible rfl
            rotate_left
            · simp only [Act.put, List.setIfInBounds_toArray, List.set_cons_zero, List.set_cons_succ, i64_w, i32_w, u8_w]
              rfl
            refine take_ (i := 8) (N := some 31) (v := ?_) (a' := ?_) #[true, true, true, true, true, true, true, true, true, false, false, true, false] rfl rfl (by kernel_rfl) (fun _ _ _ h => h) (Or.inl ⟨by rfl, ?_⟩) hHeld ?_ ?_
            rotate_left
            · rintro w' ⟨s0, s1⟩
              go_simp
              with_reducible rfl
            rotate_left
            · simp only [Act.put, List.setIfInBounds_toArray, List.set_cons_zero, List.set_cons_succ, i64_w, i32_w, u8_w]
              rfl
            refine pure_ (i := 9) (N := some 32) (v := ?_) (a' := ?_) #[true, true, true, true, true, true, true, true, true, true, false, true, false] rfl rfl (by kernel_rfl) (fun _ _ _ h => h) (Or.inl ⟨by rfl, ?_⟩) ?_ ?_
            rotate_left
            · intro w'
              go_simp
              with_reducible rfl
            rotate_left
            · simp only [Act.put, List.setIfInBounds_toArray, List.set_cons_zero, List.set_cons_succ, i64_w, i32_w, u8_w]
              rfl
            refine pure_ (i := 10) (N := some 33) (v := ?_) (a' := ?_) #[true, true, true, true, true, true, true, true, true, true, true, true, false] rfl rfl (by kernel_rfl) (fun _ _ _ h => h) (Or.inl ⟨by rfl, ?_⟩) ?_ ?_
            rotate_left
            · intro w'
              go_simp
              with_reducible rfl
            rotate_left
            · simp only [Act.put, List.setIfInBounds_toArray, List.set_cons_zero, List.set_cons_succ, i64_w, i32_w, u8_w]
              rfl
            refine pure_ (i := 12) (N := some 35) (v := ?_) (a' := ?_) #[true, true, true, true, true, true, true, true, true, true, true, true, true] rfl rfl (by kernel_rfl) (fun _ _ _ h => h) (Or.inl ⟨by rfl, ?_⟩) ?_ ?_
            rotate_left
            · intro w'
              go_simp
              with_reducible rfl
            rotate_left
            · simp only [Act.put, List.setIfInBounds_toArray, List.set_cons_zero, List.set_cons_succ, i64_w, i32_w, u8_w]
              rfl
            refine done_ (by kernel_rfl) ?_
            go_wp2_with (go_at_call 30; refine (stop_calls 4 _).mono ?_; rintro e w' ⟨pp, rfl, hfa, hb⟩)
            exact ⟨rfl, pp, rfl, hfa, (HX.out.between AT.out MV.out.size).trans (hb.mono AT.out.below.size)⟩
          · rw [if_neg hsh]
            have q5 := eq_false (show ¬ wrap64 (8 * (l.length : Int) - (p3 : Int)) / 8 < x by rw [wrap64_id (by omega) (by omega)]; omega)
            have hle : p3 / 8 + x.toNat ≤ l.length := by omega
            obtain ⟨i0, hi0, _, hsz0, _⟩ := info_parts Hu.info5
            have hd8 : ((p3 : Int) / 8).toNat = p3 / 8 := by omega
            have hcutA := cut_from (P := Tryd.prog) 22 5 .i64 Tryd.underlying22 hi0 1 hsz0 A l.length c ((p3 : Int) / 8) (by omega) (by omega)
            rw [hd8] at hcutA
            have hcd := Kd.C_drop (m := p3 / 8) (c := c) hr.C (by omega) hr.cap
            have hlt : ((l.drop (p3 / 8)).take x.toNat).length = x.toNat := by rw [List.length_take, List.length_drop]; omega
            have hct := Kd.C_take (m := x.toNat) hcd (by rw [List.length_drop]; omega)
            rw [hlt] at hct
            obtain ⟨A2, hA2⟩ : ∃ A2, A2 = (if c = p3 / 8 then A else A.map (·.add (p3 / 8 * 1))) := ⟨_, rfl⟩
            replace hct : Kd.C (Kd.int .u8) w0 A2 x.toNat ((l.drop (p3 / 8)).take x.toNat) := by rw [hA2]; exact hct
            rw [← hA2] at hcutA
            have hcutB := cut_to (P := Tryd.prog) 22 5 .i64 Tryd.underlying22 hi0 A2 (l.length - p3 / 8) (c - p3 / 8) x (by omega) (by omega) (by have := hr.cap; omega)
            have HC2 := Aside0.mk hct
            obtain ⟨p4, hp4⟩ : ∃ p4, p4 = p3 + 8 * x.toNat := ⟨_, rfl⟩
            rw [← hp4]
            have HX8 := Aside0.mk (show wrap64 ((p3 : Int) + wrap64 (8 * x)) = (p4 : Int) by rw [wrap64_id (x := 8 * x) (by omega) (by omega), wrap64_id (by omega) (by omega)]; omega)
            have HLE := Aside0.mk (show p4 ≤ 8 * l.length by omega)
            clear hxb hxr hx16 hp2 hp2b hp3 hp3b hsh hct hcd hA2 hle hlt hd8 hsz0 hp4
            go_enter Tryd.func27, Tryd.ntmps27
            obtain ⟨hc2, hf2, hc3, hf3⟩ := rdr_c2 AT.out
            clear hc3 hf3
            go_upto_region 1 with (fail)
            have AT_ := Aside0.mk (AT.out.setAt (p1 : Int))
            have MV_ := Aside0.mk (MV.out.set_ 2 (.int .i64 (p1 : Int)))
            clear AT MV hc2 hf2
            have AT := AT_
            have MV := MV_
            clear AT_ MV_
            have HP := Aside0.mk hp1b
            clear hp1b
            generalize w.setCell ⟨g, 2, none⟩ (.int .i64 (p1 : Int)) = w1 at *
            go_upto_region 5 with (first
        | (go_at_call 26; have hcc := rbits_told' HR.out _ g p1 16 16 rfl (.slice Ao out.length co) out most AT.out HP.out (by decide); rw [H1.out] at hcc; refine hcc.mono ?_; clear hcc; rintro e w' ⟨rfl, hq_, hat_, hm_⟩; have AT_ := Aside0.mk hat_; have MV_ := Aside0.mk (MV.out.trans hm_); have HP_ := Aside0.mk hq_; clear AT MV HP hat_ hm_ hq_; have AT := AT_; have MV := MV_; have HP := HP_; clear AT_ MV_ HP_; clear H1)
        | (go_at_call 26; have hcc := rbits_told' HR.out _ g p2 16 16 rfl (.slice Ao out.length co) out most AT.out HP.out (by decide); rw [H2.out] at hcc; refine hcc.mono ?_; clear hcc; rintro e w' ⟨rfl, hq_, hat_, hm_⟩; have AT_ := Aside0.mk hat_; have MV_ := Aside0.mk (MV.out.trans hm_); have HP_ := Aside0.mk hq_; clear AT MV HP hat_ hm_ hq_; have AT := AT_; have MV := MV_; have HP := HP_; clear AT_ MV_ HP_; clear H2)
        | (go_at_call 36; refine (room_ok HR.out _ g _ (.slice Ao out.length co) out most x AT.out HM0.out HM1.out (by have := HRm.out; omega)).mono ?_; rintro e w' ⟨rfl, hb⟩; have AT_ := Aside0.mk (AT.out.on hb); have MV_ := Aside0.mk (MV.out.trans (Moved.of_below g _ hb)); clear AT MV hb; have AT := AT_; have MV := MV_; clear AT_ MV_; clear HRm)
        )
            have AT_ := Aside0.mk (AT.out.on (below_drew (Below.refl _ _)))
            have MV_ := Aside0.mk (MV.out.trans (Moved.of_below g _ (below_drew (Below.refl _ _))))
            clear AT MV
            have AT := AT_
            have MV := MV_
            clear AT_ MV_
            refine start_ (n := 13) (S := fun w' => w'.cell? ⟨g, 1, none⟩ = some (.int .i64 (NN l)) ∧ w'.cell? ⟨g, 2, none⟩ = some (.int .i64 (p3 : Int))) (ds := []) #[false, false, false, false, false, false, false, false, false, false, false, false, false] (by kernel_rfl) rfl rfl ⟨(blk_cell AT.out.blk 1).trans rfl, (blk_cell AT.out.blk 2).trans rfl⟩ (fun hHeld => ?_)
            generalize w'.drew = wd at AT MV hHeld ⊢
            refine pure_ (i := 0) (N := some 23) (v := ?_) (a' := ?_) #[true, false, false, false, false, false, false, false, false, false, false, false, false] rfl rfl (by kernel_rfl) (fun _ _ _ h => h) (Or.inl ⟨by rfl, ?_⟩) ?_ ?_
            rotate_left
            · intro w'
              go_simp
              with_reducible rfl
            rotate_left
            · simp only [Act.put, List.setIfInBounds_toArray, List.set_cons_zero, List.set_cons_succ, i64_w, i32_w, u8_w]
              rfl
            refine pure_ (i := 1) (N := some 24) (v := ?_) (a' := ?_) #[true, true, false, false, false, false, false, false, false, false, false, false, false] rfl rfl (by kernel_rfl) (fun _ _ _ h => h) (Or.inl ⟨by rfl, ?_⟩) ?_ ?_
            rotate_left
            · intro w'
              go_simp
              with_reducible rfl
            rotate_left
            · simp only [Act.put, List.setIfInBounds_toArray, List.set_cons_zero, List.set_cons_succ, i64_w, i32_w, u8_w]
              rfl
            refine pure_ (i := 2) (N := some 25) (v := ?_) (a' := ?_) #[true, true, true, false, false, false, false, false, false, false, false, false, false] rfl rfl (by kernel_rfl) (fun _ _ _ h => h) (Or.inl ⟨by rfl, ?_⟩) ?_ ?_
            rotate_left
            · intro w'
              go_simp
              with_reducible rfl
            rotate_left
            · simp only [Act.put, List.setIfInBounds_toArray, List.set_cons_zero, List.set_cons_succ, i64_w, i32_w, u8_w]
              rfl
            refine pure_ (i := 3) (N := some 26) (v := ?_) (a' := ?_) #[true, true, true, true, false, false, false, false, false, false, false, false, false] rfl rfl (by kernel_rfl) (fun _ _ _ h => h) (Or.inl ⟨by rfl, ?_⟩) ?_ ?_
            rotate_left
            · intro w'
              go_simp
              with_reducible rfl
            rotate_left
            · simp only [Act.put, List.setIfInBounds_toArray, List.set_cons_zero, List.set_cons_succ, i64_w, i32_w, u8_w]
              rfl
            refine pure_ (i := 5) (N := some 28) (v := ?_) (a' := ?_) #[true, true, true, true, false, true, false, false, false, false, false, false, false] rfl rfl (by kernel_rfl) (fun _ _ _ h => h) (Or.inl ⟨by rfl, ?_⟩) ?_ ?_
            rotate_left
            · intro w'
              go_simp
              with_reducible rfl
            rotate_left
            · simp only [Act.put, List.setIfInBounds_toArray, List.set_cons_zero, List.set_cons_succ, i64_w, i32_w, u8_w]
              rfl
            refine pure_ (i := 6) (N := some 29) (v := ?_) (a' := ?_) #[true, true, true, true, false, true, true, false, false, false, false, false, false] rfl rfl (by kernel_rfl) (fun _ _ _ h => h) (Or.inl ⟨by rfl, ?_⟩) ?_ ?_
            rotate_left
            · intro w'
              go_simp
              with_reducible rfl
            rotate_left
            · simp only [Act.put, List.setIfInBounds_toArray, List.set_cons_zero, List.set_cons_succ, i64_w, i32_w, u8_w]
              rfl
            refine pure_ (i := 7) (N := some 30) (v := ?_) (a' := ?_) #[true, true, true, true, false, true, true, true, false, false, false, false, false] rfl rfl (by kernel_rfl) (fun _ _ _ h => h) (Or.inl ⟨by rfl, ?_⟩) ?_ ?_
            rotate_left
            · intro w'
              go_simp
              with_reducible rfl
            rotate_left
            · simp only [Act.put, List.setIfInBounds_toArray, List.set_cons_zero, List.set_cons_succ, i64_w, i32_w, u8_w]
              rfl
            refine pure_ (i := 11) (N := some 34) (v := ?_) (a' := ?_) #[true, true, true, true, false, true, true, true, false, false, false, true, false] rfl rfl (by kernel_rfl) (fun _ _ _ h => h) (Or.inl ⟨by rfl, ?_⟩) ?_ ?_
            rotate_left
            · intro w'
              go_simp
              with_reducible rfl
            rotate_left
            · simp only [Act.put, List.setIfInBounds_toArray, List.set_cons_zero, List.set_cons_succ, i64_w, i32_w, u8_w]
              rfl
            refine take_ (i := 4) (N := some 27) (v := ?_) (a' := ?_) #[true, true, true, true, true, true, true, true, false, false, false, true, false] rfl rfl (by kernel_rfl) (fun _ _ _ h => h) (Or.inl ⟨by rfl, ?_⟩) hHeld ?_ ?_
            rotate_left
            · rintro w' ⟨s0, s1⟩
              go_simp
              with_reducible rfl
            rotate_left
            · simp only [Act.put, List.setIfInBounds_toArray, List.set_cons_zero, List.set_cons_succ, i64_w, i32_w, u8_w]
              rfl
            refine take_ (i := 8) (N := some 31) (v := ?_) (a' := ?_) #[true, true, true, true, true, true, true, true, true, false, false, true, false] rfl rfl (by kernel_rfl) (fun _ _ _ h => h) (Or.inl ⟨by rfl, ?_⟩) hHeld ?_ ?_
            rotate_left
            · rintro w' ⟨s0, s1⟩
              go_simp
              with_reducible rfl
            rotate_left
            · simp only [Act.put, List.setIfInBounds_toArray, List.set_cons_zero, List.set_cons_succ, i64_w, i32_w, u8_w]
              rfl
            refine pure_ (i := 9) (N := some 32) (v := ?_) (a' := ?_) #[true, true, true, true, true, true, true, true, true, true, false, true, false] rfl rfl (by kernel_rfl) (fun _ _ _ h => h) (Or.inl ⟨by rfl, ?_⟩) ?_ ?_
            rotate_left
            · intro w'
              go_simp
              with_reducible rfl
            rotate_left
            · simp only [Act.put, List.setIfInBounds_toArray, List.set_cons_zero, List.set_cons_succ, i64_w, i32_w, u8_w]
              rfl
            refine pure_ (i := 10) (N := some 33) (v := ?_) (a' := ?_) #[true, true, true, true, true, true, true, true, true, true, true, true, false] rfl rfl (by kernel_rfl) (fun _ _ _ h => h) (Or.inl ⟨by rfl, ?_⟩) ?_ ?_
            rotate_left
            · intro w'
              go_simp
              with_reducible rfl
            rotate_left
            · simp only [Act.put, List.setIfInBounds_toArray, List.set_cons_zero, List.set_cons_succ, i64_w, i32_w, u8_w]
              rfl
            refine pure_ (i := 12) (N := some 35) (v := ?_) (a' := ?_) #[true, true, true, true, true, true, true, true, true, true, true, true, true] rfl rfl (by kernel_rfl) (fun _ _ _ h => h) (Or.inl ⟨by rfl, ?_⟩) ?_ ?_
            rotate_left
            · intro w'
              go_simp
              with_reducible rfl
            rotate_left
            · simp only [Act.put, List.setIfInBounds_toArray, List.set_cons_zero, List.set_cons_succ, i64_w, i32_w, u8_w]
              rfl
            refine done_ (by kernel_rfl) ?_
            go_upto_region 7 with (fail)
            have BG := Aside0.mk AT.out.blk
            have AT_ := Aside0.mk (AT.out.on (below_drew (Below.refl _ _)))
            have MV_ := Aside0.mk (MV.out.trans (Moved.of_below g _ (below_drew (Below.refl _ _))))
            clear AT MV
            have AT := AT_
            have MV := MV_
            clear AT_ MV_
            have BG_ := Aside0.mk (blk_drew BG.out)
            clear BG
            have BG := BG_
            clear BG_
            refine start_ (n := 22) (S := fun w' => w'.cell? ⟨g, 0, none⟩ = some (.slice A l.length c) ∧ w'.cell? ⟨g, 2, none⟩ = some (.int .i64 (p3 : Int)) ∧ w'.cell? ⟨g, 3, none⟩ = some ((.slice Ao out.length co))) (ds := [21]) #[false, false, false, false, false, false, false, false, false, false, false, false, false, false, false, false, false, false, false, false, false, false] (by kernel_rfl) rfl rfl ⟨(blk_cell BG.out 0).trans rfl, (blk_cell BG.out 2).trans rfl, (blk_cell BG.out 3).trans rfl⟩ (fun hHeld => ?_)
            generalize wd.drew = we at AT MV BG hHeld ⊢
            refine pure_ (i := 0) (N := some 37) (v := ?_) (a' := ?_) #[true, false, false, false, false, false, false, false, false, false, false, false, false, false, false, false, false, false, false, false, false, false] rfl rfl (by kernel_rfl) (fun _ _ _ h => h) (Or.inl ⟨by rfl, ?_⟩) ?_ ?_
            rotate_left
            · intro w'
              go_simp
              with_reducible rfl
            rotate_left
            · simp only [Act.put, List.setIfInBounds_toArray, List.set_cons_zero, List.set_cons_succ, i64_w, i32_w, u8_w]
              rfl
            refine pure_ (i := 1) (N := some 38) (v := ?_) (a' := ?_) #[true, true, false, false, false, false, false, false, false, false, false, false, false, false, false, false, false, false, false, false, false, false] rfl rfl (by kernel_rfl) (fun _ _ _ h => h) (Or.inl ⟨by rfl, ?_⟩) ?_ ?_
            rotate_left
            · intro w'
              go_simp
              with_reducible rfl
            rotate_left
            · simp only [Act.put, List.setIfInBounds_toArray, List.set_cons_zero, List.set_cons_succ, i64_w, i32_w, u8_w]
              rfl
            refine pure_ (i := 2) (N := some 39) (v := ?_) (a' := ?_) #[true, true, true, false, false, false, false, false, false, false, false, false, false, false, false, false, false, false, false, false, false, false] rfl rfl (by kernel_rfl) (fun _ _ _ h => h) (Or.inl ⟨by rfl, ?_⟩) ?_ ?_
            rotate_left
            · intro w'
              go_simp
              with_reducible rfl
            rotate_left
            · simp only [Act.put, List.setIfInBounds_toArray, List.set_cons_zero, List.set_cons_succ, i64_w, i32_w, u8_w]
              rfl
            refine pure_ (i := 3) (N := some 40) (v := ?_) (a' := ?_) #[true, true, true, true, false, false, false, false, false, false, false, false, false, false, false, false, false, false, false, false, false, false] rfl rfl (by kernel_rfl) (fun _ _ _ h => h) (Or.inl ⟨by rfl, ?_⟩) ?_ ?_
            rotate_left
            · intro w'
              go_simp
              with_reducible rfl
            rotate_left
            · simp only [Act.put, List.setIfInBounds_toArray, List.set_cons_zero, List.set_cons_succ, i64_w, i32_w, u8_w]
              rfl
            refine pure_ (i := 5) (N := some 42) (v := ?_) (a' := ?_) #[true, true, true, true, false, true, false, false, false, false, false, false, false, false, false, false, false, false, false, false, false, false] rfl rfl (by kernel_rfl) (fun _ _ _ h => h) (Or.inl ⟨by rfl, ?_⟩) ?_ ?_
            rotate_left
            · intro w'
              go_simp
              with_reducible rfl
            rotate_left
            · simp only [Act.put, List.setIfInBounds_toArray, List.set_cons_zero, List.set_cons_succ, i64_w, i32_w, u8_w]
              rfl
            refine pure_ (i := 6) (N := some 43) (v := ?_) (a' := ?_) #[true, true, true, true, false, true, true, false, false, false, false, false, false, false, false, false, false, false, false, false, false, false] rfl rfl (by kernel_rfl) (fun _ _ _ h => h) (Or.inl ⟨by rfl, ?_⟩) ?_ ?_
            rotate_left
            · intro w'
              go_simp
              with_reducible rfl
            rotate_left
            · simp only [Act.put, List.setIfInBounds_toArray, List.set_cons_zero, List.set_cons_succ, i64_w, i32_w, u8_w]
              rfl
            refine pure_ (i := 7) (N := some 44) (v := ?_) (a' := ?_) #[true, true, true, true, false, true, true, true, false, false, false, false, false, false, false, false, false, false, false, false, false, false] rfl rfl (by kernel_rfl) (fun _ _ _ h => h) (Or.inl ⟨by rfl, ?_⟩) ?_ ?_
            rotate_left
            · intro w'
              go_simp
              with_reducible rfl
            rotate_left
            · simp only [Act.put, List.setIfInBounds_toArray, List.set_cons_zero, List.set_cons_succ, i64_w, i32_w, u8_w]
              rfl
            refine pure_ (i := 8) (N := some 45) (v := ?_) (a' := ?_) #[true, true, true, true, false, true, true, true, true, false, false, false, false, false, false, false, false, false, false, false, false, false] rfl rfl (by kernel_rfl) (fun _ _ _ h => h) (Or.inl ⟨by rfl, ?_⟩) ?_ ?_
            rotate_left
            · intro w'
              go_simp
              with_reducible rfl
            rotate_left
            · simp only [Act.put, List.setIfInBounds_toArray, List.set_cons_zero, List.set_cons_succ, i64_w, i32_w, u8_w]
              rfl
            refine pure_ (i := 10) (N := some 47) (v := ?_) (a' := ?_) #[true, true, true, true, false, true, true, true, true, false, true, false, false, false, false, false, false, false, false, false, false, false] rfl rfl (by kernel_rfl) (fun _ _ _ h => h) (Or.inl ⟨by rfl, ?_⟩) ?_ ?_
            rotate_left
            · intro w'
              go_simp
              with_reducible rfl
            rotate_left
            · simp only [Act.put, List.setIfInBounds_toArray, List.set_cons_zero, List.set_cons_succ, i64_w, i32_w, u8_w]
              rfl
            refine pure_ (i := 11) (N := some 48) (v := ?_) (a' := ?_) #[true, true, true, true, false, true, true, true, true, false, true, true, false, false, false, false, false, false, false, false, false, false] rfl rfl (by kernel_rfl) (fun _ _ _ h => h) (Or.inl ⟨by rfl, ?_⟩) ?_ ?_
            rotate_left
            · intro w'
              go_simp
              with_reducible rfl
            rotate_left
            · simp only [Act.put, List.setIfInBounds_toArray, List.set_cons_zero, List.set_cons_succ, i64_w, i32_w, u8_w]
              rfl
            refine pure_ (i := 12) (N := some 49) (v := ?_) (a' := ?_) #[true, true, true, true, false, true, true, true, true, false, true, true, true, false, false, false, false, false, false, false, false, false] rfl rfl (by kernel_rfl) (fun _ _ _ h => h) (Or.inl ⟨by rfl, ?_⟩) ?_ ?_
            rotate_left
            · intro w'
              go_simp
              with_reducible rfl
            rotate_left
            · simp only [Act.put, List.setIfInBounds_toArray, List.set_cons_zero, List.set_cons_succ, i64_w, i32_w, u8_w]
              rfl
            refine pure_ (i := 16) (N := some 53) (v := ?_) (a' := ?_) #[true, true, true, true, false, true, true, true, true, false, true, true, true, false, false, false, true, false, false, false, false, false] rfl rfl (by kernel_rfl) (fun _ _ _ h => h) (Or.inl ⟨by rfl, ?_⟩) ?_ ?_
            rotate_left
            · intro w'
              go_simp
              with_reducible rfl
            rotate_left
            · simp only [Act.put, List.setIfInBounds_toArray, List.set_cons_zero, List.set_cons_succ, i64_w, i32_w, u8_w]
              rfl
            refine take_ (i := 4) (N := some 41) (v := ?_) (a' := ?_) #[true, true, true, true, true, true, true, true, true, false, true, true, true, false, false, false, true, false, false, false, false, false] rfl rfl (by kernel_rfl) (fun _ _ _ h => h) (Or.inl ⟨by rfl, ?_⟩) hHeld ?_ ?_
            rotate_left
            · rintro w' ⟨s0, s1, s2⟩
              go_simp
              with_reducible rfl
            rotate_left
            · simp only [Act.put, List.setIfInBounds_toArray, List.set_cons_zero, List.set_cons_succ, i64_w, i32_w, u8_w]
              rfl
            refine take_ (i := 9) (N := some 46) (v := ?_) (a' := ?_) #[true, true, true, true, true, true, true, true, true, true, true, true, true, false, false, false, true, false, false, false, false, false] rfl rfl (by kernel_rfl) (fun _ _ _ h => h) (Or.inl ⟨by rfl, ?_⟩) hHeld ?_ ?_
            rotate_left
            · rintro w' ⟨s0, s1, s2⟩
              go_simp
              with_reducible rfl
            rotate_left
            · simp only [Act.put, List.setIfInBounds_toArray, List.set_cons_zero, List.set_cons_succ, i64_w, i32_w, u8_w]
              rfl
            refine take_ (i := 13) (N := some 50) (v := ?_) (a' := ?_) #[true, true, true, true, true, true, true, true, true, true, true, true, true, true, false, false, true, false, false, false, false, false] rfl rfl (by kernel_rfl) (fun _ _ _ h => h) (Or.inl ⟨by rfl, ?_⟩) hHeld ?_ ?_
            rotate_left
            · rintro w' ⟨s0, s1, s2⟩
              go_simp
              with_reducible rfl
            rotate_left
            · simp only [Act.put, List.setIfInBounds_toArray, List.set_cons_zero, List.set_cons_succ, i64_w, i32_w, u8_w]
              rfl
            refine pure_ (i := 14) (N := some 51) (v := ?_) (a' := ?_) #[true, true, true, true, true, true, true, true, true, true, true, true, true, true, true, false, true, false, false, false, false, false] rfl rfl (by kernel_rfl) (fun _ _ _ h => h) (Or.inl ⟨by rfl, ?_⟩) ?_ ?_
            rotate_left
            · intro w'
              go_simp
              with_reducible rfl
            rotate_left
            · simp only [Act.put, List.setIfInBounds_toArray, List.set_cons_zero, List.set_cons_succ, i64_w, i32_w, u8_w]
              rfl
            refine pure_ (i := 15) (N := some 52) (v := ?_) (a' := ?_) #[true, true, true, true, true, true, true, true, true, true, true, true, true, true, true, true, true, false, false, false, false, false] rfl rfl (by kernel_rfl) (fun _ _ _ h => h) (Or.inl ⟨by rfl, ?_⟩) ?_ ?_
            rotate_left
            · intro w'
              go_simp
              with_reducible rfl
            rotate_left
            · simp only [Act.put, List.setIfInBounds_toArray, List.set_cons_zero, List.set_cons_succ, i64_w, i32_w, u8_w]
              rfl
            refine pure_ (i := 17) (N := some 54) (v := ?_) (a' := ?_) #[true, true, true, true, true, true, true, true, true, true, true, true, true, true, true, true, true, true, false, false, false, false] rfl rfl (by kernel_rfl) (fun _ _ _ h => h) (Or.inl ⟨by rfl, ?_⟩) ?_ ?_
            rotate_left
            · intro w'
              go_simp
              with_reducible rfl
            rotate_left
            · simp only [Act.put, List.setIfInBounds_toArray, List.set_cons_zero, List.set_cons_succ, i64_w, i32_w, u8_w]
              rfl
            refine one_ (i := 18) (N := some 55) #[true, true, true, true, true, true, true, true, true, true, true, true, true, true, true, true, true, true, true, false, false, false] rfl rfl (by kernel_rfl) (by decide) (fun K hK => ?_)
            refine Kd.R_append_rows_step (Kd.int .u8) (w0 := w0) w0.heap.size (by rfl) (.tmp 41) (.tmp 54) 22 5 (.int .u8 0) 1 rfl Tryd.underlying22 Hu.info5 rfl (by decide) (by omega) (.slice Ao out.length co) out ((l.drop (p3 / 8)).take x.toNat) _ _ _ (fun _ => True) (fun _ => False) rfl rfl AT.out.row (Kd.C_below HC2.out AT.out.below) (fun _ _ h => h) (fun _ h => h.elim) (fun _ _ => trivial) AT.out.below AT.out.below.size ?aL ?_
            (case aL => have h1_ := HM0.out; have h2_ := HM1.out; have h3_ := HX16.out; omega)
            intro v1 w6 ho hb hg hat
            obtain ⟨ys, hys⟩ : ∃ ys, ys = out ++ (l.drop (p3 / 8)).take x.toNat := ⟨_, rfl⟩
            rw [← hys] at ho
            have HYS := Aside0.mk hys
            clear hys
            obtain ⟨A1, c1, ev⟩ := Kd.R_slice ho
            subst ev
            have hap := AT.out.appended ho hb hg hat
            have hbg := blk_grown BG.out hg (Kd.R_ne AT.out.row AT.out.blk (by decide))
            have n0 := Aside0.mk (hbg)
            have n1 := Aside0.mk (hap)
            clear BG
            have BG := n0
            have AP := n1
            clear n0 n1
            clear hbg hap ho hb hg hat
            refine hK.out _ _ ⟨(blk_cell BG.out 0).trans rfl, (blk_cell BG.out 2).trans rfl, (blk_cell BG.out 3).trans rfl⟩ (fun hHeld => ?_)
            clear hK K
            refine norm_ (a' := ?_) ?_ ?_
            rotate_left
            · show Act.put _ (some 55) _ = _
              simp only [Act.put, List.setIfInBounds_toArray, List.set_cons_zero, List.set_cons_succ, i64_w, i32_w, u8_w]
              rfl
            refine pure_ (i := 19) (N := some 56) (v := ?_) (a' := ?_) #[true, true, true, true, true, true, true, true, true, true, true, true, true, true, true, true, true, true, true, true, false, false] rfl rfl (by kernel_rfl) (fun _ _ _ h => h) (Or.inl ⟨by rfl, ?_⟩) ?_ ?_
            rotate_left
            · intro w'
              go_simp
              with_reducible rfl
            rotate_left
            · simp only [Act.put, List.setIfInBounds_toArray, List.set_cons_zero, List.set_cons_succ, i64_w, i32_w, u8_w]
              rfl
            refine pure_ (i := 20) (N := some 57) (v := ?_) (a' := ?_) #[true, true, true, true, true, true, true, true, true, true, true, true, true, true, true, true, true, true, true, true, true, false] rfl rfl (by kernel_rfl) (fun _ _ _ h => h) (Or.inl ⟨by rfl, ?_⟩) ?_ ?_
            rotate_left
            · intro w'
              go_simp
              with_reducible rfl
            rotate_left
            · simp only [Act.put, List.setIfInBounds_toArray, List.set_cons_zero, List.set_cons_succ, i64_w, i32_w, u8_w]
              rfl
            refine last_ (i := 21) (N := none) #[true, true, true, true, true, true, true, true, true, true, true, true, true, true, true, true, true, true, true, true, true, true] rfl rfl (by kernel_rfl) (by decide) (fun K hK => ?_)
            have hz := ((blk_cell BG.out 3).trans rfl : w6.cell? ⟨g, 3, none⟩ = some (.slice Ao out.length co))
            have hf := blk_frozen BG.out 3
            refine skip_ (w1 := ?_) (by rfl) rfl ?_ ?_
            rotate_left
            · go_simp
              rfl
            refine hK.out _ _ ?_
            clear hK K
            refine done_ (by kernel_rfl) ?_
            clear hz hf hHeld BG
            generalize w6.setCell ⟨g, 3, none⟩ (.slice A1 ys.length c1) = w7 at AP ⊢
            obtain ⟨hc2, hf2, hc3, hf3⟩ := rdr_c2 AP.out.1
            clear hc3 hf3
            have hx8 := HX8.out
            go_wp2
            go_end0
            rw [← HYS.out]
            exact ⟨rfl, HLE.out, _, AP.out.1.setAt _, (MV.out.trans AP.out.2).set_ 2 _⟩
end
end Go.Proofs.YtgflkkjhckcipaaDoor.Pr

-- YtgflkkjhckcipaaDoorIf11
namespace Go.Proofs.YtgflkkjhckcipaaDoor.Pr
open Go.RowKit Go.Shelf Go.Proofs.YtgflkkjhckcipaaDoorW.PrintWords Go.Proofs.YtgflkkjhckcipaaDoorW.PrintLast Go.Proofs.YtgflkkjhckcipaaDoorW.PrintMore
set_option linter.unusedVariables false
set_option linter.unusedSimpArgs false
theorem lenBits_all : ∀ i : Fin 288, symbol_LenBits.f 60 (i.val : Int) = some (match lenP (i.val : Int) with | some (k, _) => ((k : Int), 0) | none => (0, 13)) := by decide +kernel
theorem distBits_all : ∀ i : Fin 288, symbol_DistBits.f 60 (i.val : Int) = some (match distP (i.val : Int) with | some (k, _) => ((k : Int), 0) | none => (0, 13)) := by decide +kernel
theorem lenBits_eq {s : Int} (h0 : 0 ≤ s) (h1 : s < 288) : symbol_LenBits.f 60 s = some (match lenP s with | some (k, _) => ((k : Int), 0) | none => (0, 13)) := by
  have h := lenBits_all ⟨s.toNat, by omega⟩
  rwa [show ((s.toNat : Nat) : Int) = s by omega] at h
theorem distBits_eq {s : Int} (h0 : 0 ≤ s) (h1 : s < 288) : symbol_DistBits.f 60 s = some (match distP s with | some (k, _) => ((k : Int), 0) | none => (0, 13)) := by
  have h := distBits_all ⟨s.toNat, by omega⟩
  rwa [show ((s.toNat : Nat) : Int) = s by omega] at h
def lenOfOk (s : Int) : Bool := match lenP s with
  | none => true
  | some (k, b) => decide (k ≤ 5) && decide (3 ≤ b) && decide (b + 2 ^ k ≤ 259) && (if s = 285 then decide (k = 0) && decide (b = 258) && (symbol_kind_place.f 60 257 8 4 5 3 s).isSome && (symbol_kind_top.f 257 8 4 5 3 s == some true) else (symbol_kind_place.f 60 257 8 4 5 3 s == some ((k : Int), (b : Int), true)) && (symbol_kind_top.f 257 8 4 5 3 s == some false))
def distOfOk (s : Int) : Bool := match distP s with
  | none => true
  | some (k, b) => decide (k ≤ 13) && decide (1 ≤ b) && decide (b + 2 ^ k ≤ 32769) && (symbol_kind_place.f 60 0 4 2 13 1 s == some ((k : Int), (b : Int), true)) && (symbol_kind_top.f 0 4 2 13 1 s == some false)
theorem lenOf_all : ∀ i : Fin 288, lenOfOk (i.val : Int) = true := by decide +kernel
theorem distOf_all : ∀ i : Fin 288, distOfOk (i.val : Int) = true := by decide +kernel
theorem kind_j0 {k b : Nat} {v : Int} (hk : k ≤ 13) (hb : b ≤ 40000) (h0 : 0 ≤ v) (h1 : v < 2 ^ k) (z : Int × Int × Bool) (hz : z = ((k : Int), (b : Int), true)) : symbol_kind_of.j0 60 v z.1 z.2.1 z.2.2 = some ((b : Int) + v, 0) := by
  subst hz
  have h2 : (2 : Int) ^ k ≤ 2 ^ 13 := pow_le2 hk
  show symbol_kind_of.j0 (59 + 1) v (k : Int) (b : Int) true = _
  rw [symbol_kind_of.j0, if_pos rfl, if_neg (by omega), if_pos (by omega), shr_eq v k (by omega), if_pos (div_small h0 h1), wrap64_id (by omega) (by omega)]
theorem lenOf_eq {s : Int} {k b : Nat} {v : Int} (h0 : 0 ≤ s) (h1 : s < 288) (hp : lenP s = some (k, b)) (hv0 : 0 ≤ v) (hv1 : v < 2 ^ k) : symbol_LenOf.f 60 s v = some ((b : Int) + v, 0) ∧ k ≤ 5 ∧ 3 ≤ b ∧ b + 2 ^ k ≤ 259 := by
  have h := lenOf_all ⟨s.toNat, by omega⟩
  rw [show ((s.toNat : Nat) : Int) = s by omega] at h
  unfold lenOfOk at h
  rw [hp] at h
  simp only [Bool.and_eq_true, decide_eq_true_eq] at h
  obtain ⟨⟨⟨h2, h3⟩, h4⟩, h5⟩ := h
  refine ⟨?_, h2, h3, h4⟩
  unfold symbol_LenOf.f symbol_lens.f symbol_kind_of.f
  simp only [Option.bind_some]
  by_cases e : s = 285
  · rw [if_pos e] at h5
    simp only [Bool.and_eq_true, decide_eq_true_eq, beq_iff_eq] at h5
    obtain ⟨⟨⟨rfl, rfl⟩, h6⟩, h7⟩ := h5
    obtain ⟨q, hq⟩ := Option.isSome_iff_exists.1 h6
    rw [hq, h7]
    simp only [Option.bind_some]
    rw [if_pos trivial]
    have := kind_j0 (k := 0) (b := 258) (by omega) (by omega) hv0 hv1 (0, 258, true) rfl
    dsimp only at this
    rw [this]
    rfl
  · rw [if_neg e] at h5
    simp only [Bool.and_eq_true, beq_iff_eq] at h5
    rw [h5.1, h5.2]
    simp only [Option.bind_some]
    rw [if_neg (by decide)]
    have hb : b ≤ 40000 := Nat.le_trans (Nat.le_trans (Nat.le_add_right b _) h4) (by decide)
    have := kind_j0 (k := k) (b := b) (by omega) hb hv0 hv1 _ rfl
    dsimp only at this
    rw [this]
    rfl
theorem distOf_eq {s : Int} {k b : Nat} {v : Int} (h0 : 0 ≤ s) (h1 : s < 288) (hp : distP s = some (k, b)) (hv0 : 0 ≤ v) (hv1 : v < 2 ^ k) : symbol_DistOf.f 60 s v = some ((b : Int) + v, 0) ∧ k ≤ 13 ∧ 1 ≤ b ∧ b + 2 ^ k ≤ 32769 := by
  have h := distOf_all ⟨s.toNat, by omega⟩
  rw [show ((s.toNat : Nat) : Int) = s by omega] at h
  unfold distOfOk at h
  rw [hp] at h
  simp only [Bool.and_eq_true, decide_eq_true_eq, beq_iff_eq] at h
  obtain ⟨⟨⟨⟨h2, h3⟩, h4⟩, h5⟩, h6⟩ := h
  refine ⟨?_, h2, h3, h4⟩
  unfold symbol_DistOf.f symbol_dists.f symbol_kind_of.f
  simp only [Option.bind_some]
  rw [h5, h6]
  simp only [Option.bind_some]
  rw [if_neg (by decide)]
  have hb : b ≤ 40000 := Nat.le_trans (Nat.le_trans (Nat.le_add_right b _) h4) (by decide)
  have := kind_j0 (k := k) (b := b) h2 hb hv0 hv1 _ rfl
  dsimp only at this
  rw [this]
  rfl
theorem symsS_bound (z : List Int) (i : Int) (hz : 1 ≤ z.length) : 0 ≤ rd (Hu.symsS z) i ∧ rd (Hu.symsS z) i < (z.length : Int) := by
  unfold rd
  rw [List.getD_eq_getElem?_getD]
  cases h : (Hu.symsS z)[i.toNat]? with
  | none => exact ⟨Int.le_refl _, by show (0 : Int) < _; omega⟩
  | some x =>
    have hm : x ∈ Hu.symsS z := List.mem_of_getElem? h
    have hm2 : x ∈ Hu.symsL z := (Hu.byKey_mem.1 hm).1
    unfold Hu.symsL at hm2
    obtain ⟨y, hy, rfl⟩ := List.mem_map.1 hm2
    have := (Hu.usedL_mem hy).1
    show 0 ≤ (y.1 : Int) ∧ (y.1 : Int) < _
    omega
theorem scan_sym (z b : List Int) (m : Nat) (hz : 1 ≤ z.length) : ∀ d p v, 0 ≤ (scan z b m d p v).1 ∧ (scan z b m d p v).1 < (z.length : Int)
  | 0, p, v => ⟨Int.le_refl _, by show (0 : Int) < _; omega⟩
  | d + 1, p, v => by
    unfold scan
    split
    · exact ⟨Int.le_refl _, by show (0 : Int) < _; omega⟩
    · split
      · exact symsS_bound z _ hz
      · split
        · exact ⟨Int.le_refl _, by show (0 : Int) < _; omega⟩
        · exact scan_sym z b m hz d _ _
theorem symM_ok {l z : List Int} {p : Nat} {s : Int} {p1 : Nat} (hz : OKL z) (hp : p ≤ 8 * l.length) (h : symM l (some z) p = .ok (s, p1)) : 0 ≤ s ∧ s < 288 ∧ s < (z.length : Int) ∧ p < p1 ∧ p1 ≤ 8 * l.length := by
  have h1 := scan_sym z l (8 * l.length) hz.1 15 p 0
  have h2 := scan_place z l (8 * l.length) 15 p 0 (by omega) hp
  have hz2 := hz.2.1
  unfold symM at h
  dsimp only at h
  generalize scan z l (8 * l.length) 15 p 0 = r at *
  split at h
  · next h0 =>
    obtain ⟨q, e, h3, h4⟩ := h2 h0
    injection h with h
    injection h with e1 e2
    rw [e, Int.toNat_natCast] at e2
    subst e1 e2
    omega
  · cases h
end Go.Proofs.YtgflkkjhckcipaaDoor.Pr

