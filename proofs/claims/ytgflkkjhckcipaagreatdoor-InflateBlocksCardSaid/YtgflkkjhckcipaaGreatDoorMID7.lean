-- Texts by hand and by programs of this session, joined (wip/tool/merge.py).
import Derived.Test.YtgflkkjhckcipaaGreatDoorMID6
-- YtgflkkjhckcipaaGreatDoorSo1
set_option maxHeartbeats 16000000
set_option maxRecDepth 1000000
namespace Go.Proofs.YtgflkkjhckcipaaGreatDoor.Hu
open Go.RowKit Go.Shelf Go.Proofs.YtgflkkjhckcipaaGreatDoorW.PrintWords Go.Proofs.YtgflkkjhckcipaaGreatDoorW.PrintLast Go.Proofs.YtgflkkjhckcipaaGreatDoorW.PrintMore
set_option linter.unusedVariables false
set_option linter.unusedSimpArgs false
section
variable {α : Type} (κ : α → Int)
def Srt (l : List α) : Prop := l.Pairwise (fun x y => κ x ≤ κ y)
def Stb (l l' : List α) : Prop := ∀ k : Int, l'.filter (fun x => κ x == k) = l.filter (fun x => κ x == k)
variable {κ}
theorem Stb.refl (l : List α) : Stb κ l l := fun _ => rfl
theorem Stb.trans {a b c : List α} (h : Stb κ a b) (k : Stb κ b c) : Stb κ a c := fun i => (k i).trans (h i)
theorem Stb.app {a b a' b' : List α} (h : Stb κ a a') (k : Stb κ b b') : Stb κ (a ++ b) (a' ++ b') := fun i => by rw [List.filter_append, List.filter_append, h i, k i]
theorem Stb.mem {a b : List α} (h : Stb κ a b) (x : α) : x ∈ b ↔ x ∈ a := by
  have e := h (κ x)
  have h1 : x ∈ b.filter (fun y => κ y == κ x) ↔ x ∈ b := by rw [List.mem_filter]; simp
  have h2 : x ∈ a.filter (fun y => κ y == κ x) ↔ x ∈ a := by rw [List.mem_filter]; simp
  rw [← h1, ← h2, e]
theorem Stb.len {a b : List α} (h : Stb κ a b) : b.length = a.length := by
  have : ∀ (n : Nat) (a b : List α), a.length = n → Stb κ a b → b.length = a.length := by
    intro n
    induction n using Nat.strongRecOn with
    | ind n ih =>
      intro a b hn h
      cases a with
      | nil =>
        cases b with
        | nil => rfl
        | cons y b => exact absurd ((h.mem y).1 (List.mem_cons_self ..)) (by simp)
      | cons x a => ?_
      -- take out the things of x's key
      have hs : ∀ l : List α, l.length = (l.filter (fun y => κ y == κ x)).length + (l.filter (fun y => !(κ y == κ x))).length := by
        intro l
        induction l with
        | nil => rfl
        | cons z l ih =>
          rw [List.filter_cons, List.filter_cons]; cases (κ z == κ x) <;> simp <;> omega
      have hf : ∀ l : List α, ∀ k : Int, (l.filter (fun y => !(κ y == κ x))).filter (fun y => κ y == k) = if k = κ x then [] else l.filter (fun y => κ y == k) := by
        intro l k; rw [List.filter_filter]
        by_cases hk : k = κ x
        · subst hk; rw [if_pos rfl]; exact List.filter_eq_nil_iff.2 (fun y _ => by cases (κ y == κ x) <;> simp)
        rw [if_neg hk]; refine List.filter_congr (fun y _ => ?_)
        by_cases hy : κ y = k
        · have : (κ y == κ x) = false := beq_eq_false_iff_ne.mpr (by omega); rw [this]; simp
        have : (κ y == k) = false := beq_eq_false_iff_ne.mpr hy; rw [this]; simp
      have h2 : Stb κ ((x :: a).filter (fun y => !(κ y == κ x))) (b.filter (fun y => !(κ y == κ x))) := fun k => by
        rw [hf, hf]
        by_cases hk : k = κ x
        · rw [if_pos hk, if_pos hk]
        rw [if_neg hk, if_neg hk]; exact h k
      have hlt : ((x :: a).filter (fun y => !(κ y == κ x))).length < n := by
        rw [← hn, List.filter_cons]; rw [if_neg (by simp), List.length_cons]; exact Nat.lt_succ_of_le (List.length_filter_le _ _)
      have h3 := ih _ hlt _ _ rfl h2; rw [hs b, hs (x :: a), h3, h (κ x)]
  exact this _ a b rfl h
theorem srt_app {a b : List α} : Srt κ (a ++ b) ↔ Srt κ a ∧ Srt κ b ∧ ∀ x ∈ a, ∀ y ∈ b, κ x ≤ κ y := List.pairwise_append
theorem filter_none {l : List α} {k : Int} (h : ∀ x ∈ l, κ x ≠ k) : l.filter (fun x => κ x == k) = [] := List.filter_eq_nil_iff.2 (fun x hx => by simpa using h x hx)
theorem merge_halves {L1 L2 R1 R2 Z1 Z2 : List α} (hL : Srt κ (L1 ++ L2)) (hR : Srt κ (R1 ++ R2)) (h1 : ∀ x ∈ L1, ∀ y ∈ R2, κ x ≤ κ y) (h2 : ∀ r ∈ R1, ∀ l ∈ L2, κ r < κ l)
    (s1 : Srt κ Z1) (b1 : Stb κ (L1 ++ R1) Z1) (s2 : Srt κ Z2) (b2 : Stb κ (L2 ++ R2) Z2) : Srt κ (Z1 ++ Z2) ∧ Stb κ ((L1 ++ L2) ++ (R1 ++ R2)) (Z1 ++ Z2) := by
  obtain ⟨_, _, l12⟩ := srt_app.1 hL; obtain ⟨_, _, r12⟩ := srt_app.1 hR; refine ⟨srt_app.2 ⟨s1, s2, fun x hx y hy => ?_⟩, fun k => ?_⟩
  · rcases List.mem_append.1 ((b1.mem x).1 hx) with hx | hx <;> rcases List.mem_append.1 ((b2.mem y).1 hy) with hy | hy
    · exact l12 x hx y hy
    · exact h1 x hx y hy
    · exact Int.le_of_lt (h2 x hx y hy)
    exact r12 x hx y hy
  simp only [List.filter_append]; rw [b1 k, b2 k]; simp only [List.filter_append]
  by_cases hk : ∃ r ∈ R1, κ r = k
  · obtain ⟨r, hr, rfl⟩ := hk; rw [filter_none (l := L2) (fun x hx e => by have := h2 r hr x hx; omega)]
    simp
  rw [filter_none (l := R1) (fun x hx e => hk ⟨x, hx, e⟩)]
  simp
theorem insert_left {x : α} {R1 R2 : List α} (hR : Srt κ (R1 ++ R2)) (h1 : ∀ r ∈ R1, κ r < κ x) (h2 : ∀ r ∈ R2, κ x ≤ κ r) : Srt κ (R1 ++ x :: R2) ∧ Stb κ (x :: (R1 ++ R2)) (R1 ++ x :: R2) := by
  obtain ⟨a, b, c⟩ := srt_app.1 hR; refine ⟨srt_app.2 ⟨a, List.pairwise_cons.2 ⟨h2, b⟩, fun r hr y hy => ?_⟩, fun k => ?_⟩
  · rcases List.mem_cons.1 hy with rfl | hy
    · exact Int.le_of_lt (h1 r hr)
    exact c r hr y hy
  rw [List.filter_append, List.filter_cons, List.filter_cons, List.filter_append]
  by_cases hk : κ x = k
  · rw [filter_none (l := R1) (fun r hr e => by have := h1 r hr; omega), if_pos (beq_iff_eq.mpr hk)]
    simp [hk]
  rw [if_neg (by rw [beq_iff_eq]; exact hk), if_neg (by rw [beq_iff_eq]; exact hk)]
theorem insert_right {x : α} {L1 L2 : List α} (hL : Srt κ (L1 ++ L2)) (h1 : ∀ l ∈ L1, κ l ≤ κ x) (h2 : ∀ l ∈ L2, κ x < κ l) : Srt κ (L1 ++ x :: L2) ∧ Stb κ ((L1 ++ L2) ++ [x]) (L1 ++ x :: L2) := by
  obtain ⟨a, b, c⟩ := srt_app.1 hL; refine ⟨srt_app.2 ⟨a, List.pairwise_cons.2 ⟨fun l hl => Int.le_of_lt (h2 l hl), b⟩, fun l hl y hy => ?_⟩, fun k => ?_⟩
  · rcases List.mem_cons.1 hy with rfl | hy
    · exact h1 l hl
    exact c l hl y hy
  rw [List.filter_append, List.filter_cons, List.filter_append, List.filter_append, List.filter_cons, List.filter_nil]
  by_cases hk : κ x = k
  · rw [filter_none (l := L2) (fun l hl e => by have := h2 l hl; omega), if_pos (beq_iff_eq.mpr hk)]
    simp
  rw [if_neg (by rw [beq_iff_eq]; exact hk), if_neg (by rw [beq_iff_eq]; exact hk)]
  simp
theorem srt_last {l : List α} {z x : α} (h : Srt κ (l ++ [z])) (hz : κ z ≤ κ x) : ∀ y ∈ l ++ [z], κ y ≤ κ x := by
  obtain ⟨_, _, c⟩ := srt_app.1 h; intro y hy
  rcases List.mem_append.1 hy with hy | hy
  · have := c y hy z (List.mem_singleton.2 rfl); omega
  rw [List.mem_singleton] at hy; subst hy; exact hz
theorem srt_last_lt {l : List α} {z x : α} (h : Srt κ (l ++ [z])) (hz : κ z < κ x) : ∀ y ∈ l ++ [z], κ y < κ x := by
  obtain ⟨_, _, c⟩ := srt_app.1 h; intro y hy
  rcases List.mem_append.1 hy with hy | hy
  · have := c y hy z (List.mem_singleton.2 rfl); omega
  rw [List.mem_singleton] at hy; subst hy; exact hz
theorem srt_first {l : List α} {z x : α} (h : Srt κ (z :: l)) (hz : κ x ≤ κ z) : ∀ y ∈ z :: l, κ x ≤ κ y := by
  obtain ⟨c, _⟩ := List.pairwise_cons.1 h; intro y hy
  rcases List.mem_cons.1 hy with rfl | hy
  · exact hz
  have := c y hy; omega
theorem srt_first_lt {l : List α} {z x : α} (h : Srt κ (z :: l)) (hz : κ x < κ z) : ∀ y ∈ z :: l, κ x < κ y := by
  obtain ⟨c, _⟩ := List.pairwise_cons.1 h; intro y hy
  rcases List.mem_cons.1 hy with rfl | hy
  · exact hz
  have := c y hy; omega
end
section
variable {α : Type}
def swp (z : α) (d : List α) (i j : Nat) : List α := (d.set i (d.getD j z)).set j (d.getD i z)
theorem getD_mid (z : α) (A : List α) (x : α) (B : List α) {i : Nat} (hi : i = A.length) : (A ++ x :: B).getD i z = x := by
  subst hi; rw [List.getD_eq_getElem?_getD, List.getElem?_append_right (Nat.le_refl _), Nat.sub_self]
  rfl
theorem set_mid (A : List α) (x y : α) (B : List α) {i : Nat} (hi : i = A.length) : (A ++ x :: B).set i y = A ++ y :: B := by
  subst hi; rw [List.set_append_right _ _ (Nat.le_refl _), Nat.sub_self]
  rfl
theorem swp_mid (z : α) (A B C : List α) (x y : α) {i j : Nat} (hi : i = A.length) (hj : j = A.length + 1 + B.length) : swp z (A ++ x :: (B ++ y :: C)) i j = A ++ y :: (B ++ x :: C) := by
  have e : A ++ x :: (B ++ y :: C) = (A ++ x :: B) ++ y :: C := by simp
  have hj2 : j = (A ++ x :: B).length := by rw [List.length_append, List.length_cons]; omega
  unfold swp; rw [getD_mid z A x _ hi]
  have e2 : (A ++ x :: (B ++ y :: C)).getD j z = y := by rw [e, getD_mid z _ y C hj2]
  rw [e2, set_mid A x y _ hi]
  have e3 : A ++ y :: (B ++ y :: C) = (A ++ y :: B) ++ y :: C := by simp
  have hj3 : j = (A ++ y :: B).length := by rw [List.length_append, List.length_cons]; omega
  rw [e3, set_mid _ y x C hj3]
  simp
theorem swp_next (z : α) (A C : List α) (x y : α) {i j : Nat} (hi : i = A.length) (hj : j = A.length + 1) : swp z (A ++ x :: y :: C) i j = A ++ y :: x :: C := swp_mid z A [] C x y hi (by simpa using hj)
theorem swp_comm (z : α) (d : List α) (i j : Nat) (hi : i < d.length) (hj : j < d.length) : swp z d j i = swp z d i j := by
  unfold swp
  by_cases h : i = j
  · subst h; rfl
  rw [List.set_comm _ _ h]
def swr (z : α) (d : List α) (a b : Nat) : Nat → List α
  | 0 => d
  | i + 1 => swp z (swr z d a b i) (a + i) (b + i)
theorem swr_segs_n (z : α) (P S : List α) : ∀ (n : Nat) (X1 Y1 X2 Y2 M : List α), X1.length = n → Y1.length = n → X2.length = Y2.length → ∀ {a b : Nat}, a = P.length → b = P.length + n + X2.length + M.length →
    swr z (P ++ (X1 ++ X2) ++ M ++ (Y1 ++ Y2) ++ S) a b n = P ++ (Y1 ++ X2) ++ M ++ (X1 ++ Y2) ++ S
  | 0, X1, Y1, X2, Y2, M, h1, h3, h2, a, b, ha, hb => by
    obtain rfl : X1 = [] := List.eq_nil_of_length_eq_zero h1; obtain rfl : Y1 = [] := List.eq_nil_of_length_eq_zero h3
    rfl
  | n + 1, X1, Y1, X2, Y2, M, h1, h3, h2, a, b, ha, hb => by
    rcases List.eq_nil_or_concat X1 with rfl | ⟨X, x, rfl⟩
    · simp at h1
    · rcases List.eq_nil_or_concat Y1 with rfl | ⟨Y, y, rfl⟩
      · simp at h3
      · have hx : X.length = n := by simpa using h1
        have hy : Y.length = n := by simpa using h3
        rw [swr, List.concat_eq_append, List.concat_eq_append]; have e := swr_segs_n z P S n X Y (x :: X2) (y :: Y2) M hx hy (by simp [h2]) (a := a) (b := b) ha (by rw [List.length_cons]; omega)
        have e1 : P ++ (X ++ [x] ++ X2) ++ M ++ (Y ++ [y] ++ Y2) ++ S = P ++ (X ++ x :: X2) ++ M ++ (Y ++ y :: Y2) ++ S := by simp
        rw [e1, e]
        have e2 : P ++ (Y ++ x :: X2) ++ M ++ (X ++ y :: Y2) ++ S = (P ++ Y) ++ x :: ((X2 ++ M ++ X) ++ y :: (Y2 ++ S)) := by simp
        have e3 : P ++ (Y ++ [y] ++ X2) ++ M ++ (X ++ [x] ++ Y2) ++ S = (P ++ Y) ++ y :: ((X2 ++ M ++ X) ++ x :: (Y2 ++ S)) := by simp
        rw [e2, e3]; refine swp_mid z _ _ _ _ _ (by rw [List.length_append]; omega) ?_
        simp at hb ⊢
        omega
theorem swr_segs (z : α) (P X M Y S : List α) (h : X.length = Y.length) {a b n : Nat} (ha : a = P.length) (hb : b = P.length + X.length + M.length) (hn : n = X.length) : swr z (P ++ X ++ M ++ Y ++ S) a b n = P ++ Y ++ M ++ X ++ S := by
  have := swr_segs_n z P S n X Y [] [] M hn.symm (by omega) rfl (a := a) (b := b) ha (by rw [List.length_nil]; omega)
  simpa using this
end
theorem wsub {x y z : Nat} (h : y + z = x) (hx : x ≤ 4503599627370496) : wrap64 ((x : Int) - (y : Int)) = (z : Int) := by unfold wrap64; omega
theorem wadd {x y z : Nat} (h : x + y = z) (hx : z ≤ 4503599627370496) : wrap64 ((x : Int) + (y : Int)) = (z : Int) := by unfold wrap64; omega
def RotSt {α : Type} (m len : Nat) (T : List α) (i j : Nat) (e : List α) : Prop :=
  ∃ P X Y S : List α, P.length + i = m ∧ X.length = i ∧ Y.length = j ∧ P.length + i + j + S.length = len ∧ e = P ++ X ++ Y ++ S ∧ P ++ Y ++ X ++ S = T
theorem RotSt.bounds {α : Type} {m len : Nat} {T : List α} {i j : Nat} {e : List α} (h : RotSt m len T i j e) : i ≤ m ∧ m + j ≤ len := by
  obtain ⟨P, X, Y, S, e1, e2, e3, e4, _, _⟩ := h
  omega
theorem RotSt.done {α : Type} {m len : Nat} {T : List α} {i mi : Nat} {e : List α} (z : α) (h : RotSt m len T i i e) (hmi : m - i = mi) : swr z e mi m i = T := by
  obtain ⟨P, X, Y, S, e1, e2, e3, e4, rfl, rfl⟩ := h; have hsw := swr_segs z P X [] Y S (by omega) (a := mi) (b := m) (n := i) (by omega) (by rw [List.length_nil]; omega) (by omega); rw [List.append_nil, List.append_nil] at hsw; exact hsw
theorem RotSt.gt {α : Type} {m len : Nat} {T : List α} {i j mi ij : Nat} {e : List α} (z : α) (h : RotSt m len T i j e) (hij : j < i) (hmi : m - i = mi) (hd : i - j = ij) : RotSt m len T ij j (swr z e mi m j) := by
  obtain ⟨P, X, Y, S, e1, e2, e3, e4, rfl, rfl⟩ := h; obtain ⟨X1, X2, rfl, hx1⟩ : ∃ X1 X2, X = X1 ++ X2 ∧ X1.length = j := ⟨X.take j, X.drop j, (List.take_append_drop j X).symm, by rw [List.length_take]; omega⟩; rw [List.length_append] at e2; have hsw := swr_segs z P X1 X2 Y S (by omega) (a := mi) (b := m) (n := j) (by omega) (by omega) (by omega); rw [← List.append_assoc P X1 X2, hsw]; refine ⟨P ++ Y, X2, X1, S, by rw [List.length_append]; omega, by omega, hx1, by rw [List.length_append]; omega, rfl, ?_⟩; simp only [List.append_assoc]
theorem RotSt.lt {α : Type} {m len : Nat} {T : List α} {i j mi ji mji : Nat} {e : List α} (z : α) (h : RotSt m len T i j e) (hij : i < j) (hmi : m - i = mi) (hd : j - i = ji) (hm : m + j - i = mji) : RotSt m len T i ji (swr z e mi mji i) := by
  obtain ⟨P, X, Y, S, e1, e2, e3, e4, rfl, rfl⟩ := h; obtain ⟨Y1, Y2, rfl, hy1⟩ : ∃ Y1 Y2, Y = Y1 ++ Y2 ∧ Y1.length = ji := ⟨Y.take ji, Y.drop ji, (List.take_append_drop ji Y).symm, by rw [List.length_take]; omega⟩; rw [List.length_append] at e3; have hsw := swr_segs z P X Y1 Y2 S (by omega) (a := mi) (b := mji) (n := i) (by omega) (by omega) (by omega); rw [← List.append_assoc (P ++ X) Y1 Y2, hsw]; refine ⟨P, Y2, Y1, X ++ S, by omega, by omega, hy1, by rw [List.length_append]; omega, by simp only [List.append_assoc], ?_⟩; simp only [List.append_assoc]
section
variable {α : Type} {κ : α → Int}
def InsSt (κ : α → Int) (a : Nat) (P A : List α) (x : α) (R : List α) (j : Nat) (e : List α) : Prop :=
  ∃ L M : List α, P.length = a ∧ a + L.length = j ∧ Srt κ (L ++ M) ∧ Stb κ A (L ++ M) ∧ (∀ m ∈ M, κ x < κ m) ∧ e = P ++ (L ++ x :: M) ++ R
def OutSt (κ : α → Int) (a : Nat) (P Z0 S : List α) (i : Nat) (e : List α) : Prop :=
  ∃ A B Z : List α, Z0 = A ++ B ∧ P.length = a ∧ a + A.length = i ∧ Srt κ Z ∧ Stb κ A Z ∧ e = P ++ Z ++ (B ++ S)
theorem InsSt.here {a : Nat} {P A R : List α} {x : α} {j : Nat} {e : List α} (h : InsSt κ a P A x R j e) (z : α) : a ≤ j ∧ j < e.length ∧ e.getD j z = x := by
  obtain ⟨L, M, h1, h2, _, _, _, rfl⟩ := h
  have e1 : P ++ (L ++ x :: M) ++ R = (P ++ L) ++ x :: (M ++ R) := by simp
  refine ⟨by omega, by simp; omega, ?_⟩; rw [e1]; exact getD_mid z _ x _ (by rw [List.length_append]; omega)
theorem InsSt.before {a : Nat} {P A R : List α} {x : α} {j : Nat} {e : List α} (h : InsSt κ a P A x R j e) (hj : a < j) (z : α) : e.getD (j - 1) z ∈ A := by
  obtain ⟨L, M, h1, h2, _, h4, _, rfl⟩ := h
  rcases List.eq_nil_or_concat L with rfl | ⟨L', y, rfl⟩
  · simp at h2; omega
  rw [List.concat_eq_append] at h2 h4 ⊢; rw [List.length_append, List.length_singleton] at h2
  have e1 : P ++ (L' ++ [y] ++ x :: M) ++ R = (P ++ L') ++ y :: (x :: M ++ R) := by simp
  rw [e1, getD_mid z _ y _ (by rw [List.length_append]; omega)]; exact (h4.mem y).1 (by simp)
theorem InsSt.step {a : Nat} {P A R : List α} {x : α} {j : Nat} {e : List α} (h : InsSt κ a P A x R j e) (hj : a < j) (z : α) (hlt : κ x < κ (e.getD (j - 1) z)) : InsSt κ a P A x R (j - 1) (swp z e j (j - 1)) := by
  obtain ⟨L, M, h1, h2, h3, h4, h5, rfl⟩ := h
  rcases List.eq_nil_or_concat L with rfl | ⟨L', y, rfl⟩
  · simp at h2; omega
  rw [List.concat_eq_append] at *; rw [List.length_append, List.length_singleton] at h2
  have e1 : P ++ (L' ++ [y] ++ x :: M) ++ R = (P ++ L') ++ y :: x :: (M ++ R) := by simp
  rw [e1] at hlt ⊢; rw [getD_mid z _ y _ (by rw [List.length_append]; omega)] at hlt; rw [swp_comm z _ (j - 1) j (by simp; omega) (by simp; omega), swp_next z _ _ y x (by rw [List.length_append]; omega) (by rw [List.length_append]; omega)]; refine ⟨L', y :: M, h1, by omega, by simpa using h3, by simpa using h4, fun m hm => (List.mem_cons.1 hm).elim (fun e => e ▸ hlt) (h5 m), by simp⟩
theorem InsSt.stop {a : Nat} {P A R : List α} {x : α} {j : Nat} {e : List α} (h : InsSt κ a P A x R j e) (z : α) (hs : j = a ∨ ¬ κ x < κ (e.getD (j - 1) z)) : ∃ Z, Srt κ Z ∧ Stb κ (A ++ [x]) Z ∧ e = P ++ Z ++ R := by
  obtain ⟨L, M, h1, h2, h3, h4, h5, rfl⟩ := h; refine ⟨L ++ x :: M, ?_, ?_, rfl⟩
  all_goals
    have hL : ∀ l ∈ L, κ l ≤ κ x := by
      rcases List.eq_nil_or_concat L with rfl | ⟨L', y, rfl⟩
      · intro l hl; cases hl
      rw [List.concat_eq_append] at *; rw [List.length_append, List.length_singleton] at h2
      have e1 : P ++ (L' ++ [y] ++ x :: M) ++ R = (P ++ L') ++ y :: (x :: M ++ R) := by simp
      rw [e1, getD_mid z _ y _ (by rw [List.length_append]; omega)] at hs; exact srt_last (srt_app.1 h3).1 (by omega)
    have hi := insert_right h3 hL h5
  · exact hi.1
  exact (Stb.app h4 (Stb.refl [x])).trans hi.2
theorem OutSt.start {a : Nat} {P Z0 S : List α} (hp : P.length = a) (h0 : 1 ≤ Z0.length) : OutSt κ a P Z0 S (a + 1) (P ++ Z0 ++ S) := by
  cases Z0 with
  | nil => simp at h0
  | cons x Z => exact ⟨[x], Z, [x], rfl, hp, rfl, List.pairwise_singleton _ _, Stb.refl _, by simp⟩
theorem OutSt.enter {a : Nat} {P Z0 S : List α} {i : Nat} {e : List α} (h : OutSt κ a P Z0 S i e) (hi : i < a + Z0.length) : ∃ A x B, Z0 = A ++ x :: B ∧ InsSt κ a P A x (B ++ S) i e ∧ ∀ e', (∃ Z, Srt κ Z ∧ Stb κ (A ++ [x]) Z ∧ e' = P ++ Z ++ (B ++ S)) → OutSt κ a P Z0 S (i + 1) e' := by
  obtain ⟨A, B, Z, rfl, h1, h2, h3, h4, rfl⟩ := h
  cases B with
  | nil => rw [List.append_nil] at hi; omega
  | cons x B => ?_
  refine ⟨A, x, B, rfl, ⟨Z, [], h1, by have := h4.len; omega, by simpa using h3, by simpa using h4, fun m hm => (by cases hm), by simp⟩, ?_⟩; rintro e' ⟨Z', s, b, rfl⟩; exact ⟨A ++ [x], B, Z', by simp, h1, by rw [List.length_append, List.length_singleton]; omega, s, b, by simp⟩
theorem OutSt.done {a : Nat} {P Z0 S : List α} {i : Nat} {e : List α} (h : OutSt κ a P Z0 S i e) (hi : i = a + Z0.length) : ∃ Z, Srt κ Z ∧ Stb κ Z0 Z ∧ e = P ++ Z ++ S := by
  obtain ⟨A, B, Z, rfl, h1, h2, h3, h4, rfl⟩ := h; rw [List.length_append] at hi; obtain rfl : B = [] := List.eq_nil_of_length_eq_zero (by omega); exact ⟨Z, h3, by simpa using h4, by simp⟩
theorem OutSt.le {a : Nat} {P Z0 S : List α} {i : Nat} {e : List α} (h : OutSt κ a P Z0 S i e) : i ≤ a + Z0.length := by
  obtain ⟨A, B, Z, rfl, h1, h2, _⟩ := h; rw [List.length_append]; omega
end
section
variable {α : Type} {κ : α → Int}
def shu (z : α) (d : List α) (a : Nat) : Nat → List α
  | 0 => d
  | k + 1 => swp z (shu z d a k) (a + k) (a + k + 1)
def shd (z : α) (d : List α) (m : Nat) : Nat → List α
  | 0 => d
  | k + 1 => swp z (shd z d m k) (m - k) (m - k - 1)
theorem shu_segs (z : α) (P : List α) (x : α) : ∀ (n : Nat) (R T : List α), R.length = n → ∀ {a : Nat}, a = P.length → shu z (P ++ x :: (R ++ T)) a n = P ++ R ++ x :: T
  | 0, R, T, h, a, ha => by
    obtain rfl : R = [] := List.eq_nil_of_length_eq_zero h
    simp [shu]
  | n + 1, R, T, h, a, ha => by
    rcases List.eq_nil_or_concat R with rfl | ⟨R', y, rfl⟩
    · simp at h
    · rw [List.concat_eq_append] at h ⊢
      have hn : R'.length = n := by simpa using h
      have e := shu_segs z P x n R' (y :: T) hn ha
      rw [shu, show P ++ x :: (R' ++ [y] ++ T) = P ++ x :: (R' ++ y :: T) by simp, e, show P ++ R' ++ x :: y :: T = (P ++ R') ++ x :: y :: T by simp,
        swp_next z (P ++ R') T x y (by rw [List.length_append]; omega) (by rw [List.length_append]; omega)]
      simp
theorem shd_segs (z : α) (x : α) (S : List α) : ∀ (n : Nat) (P L : List α), L.length = n → ∀ {m : Nat}, m = P.length + L.length → shd z (P ++ L ++ x :: S) m n = P ++ x :: (L ++ S)
  | 0, P, L, h, m, hm => by
    obtain rfl : L = [] := List.eq_nil_of_length_eq_zero h
    simp [shd]
  | n + 1, P, L, h, m, hm => by
    cases L with
    | nil => simp at h
    | cons y L =>
      have hn : L.length = n := by simpa using h
      have e := shd_segs z x S n (P ++ [y]) L hn (m := m) (by simp at hm ⊢; omega); rw [shd, show P ++ y :: L ++ x :: S = P ++ [y] ++ L ++ x :: S by simp, e, show P ++ [y] ++ x :: (L ++ S) = P ++ y :: x :: (L ++ S) by simp]
      have hmm : m - n = P.length + 1 := by simp at hm; omega
      rw [swp_comm z _ (m - n - 1) (m - n) (by simp; omega) (by simp; omega), swp_next z P (L ++ S) y x (by omega) (by omega)]
      simp
def Bs1 (κ : α → Int) (z : α) (d : List α) (x : α) (m b i j : Nat) : Prop := m ≤ i ∧ i ≤ j ∧ j ≤ b ∧ (i = m ∨ κ (d.getD (i - 1) z) < κ x) ∧ (j = b ∨ ¬ κ (d.getD j z) < κ x)
theorem Bs1.lo {z : α} {d : List α} {x : α} {m b i j h : Nat} (s : Bs1 κ z d x m b i j) (h1 : i ≤ h) (h2 : h < j) (hk : κ (d.getD h z) < κ x) : Bs1 κ z d x m b (h + 1) j := ⟨by have := s.1; omega, by omega, s.2.2.1, .inr (by rw [Nat.add_sub_cancel]; exact hk), s.2.2.2.2⟩
theorem Bs1.hi {z : α} {d : List α} {x : α} {m b i j h : Nat} (s : Bs1 κ z d x m b i j) (h1 : i ≤ h) (h2 : h < j) (hk : ¬ κ (d.getD h z) < κ x) : Bs1 κ z d x m b i h := ⟨s.1, h1, by have := s.2.2.1; omega, s.2.2.2.1, .inr hk⟩
theorem getD_app (z : α) (A B : List α) (i : Nat) (h : A.length ≤ i) : (A ++ B).getD i z = B.getD (i - A.length) z := by
  rw [List.getD_eq_getElem?_getD, List.getD_eq_getElem?_getD, List.getElem?_append_right h]
theorem getD_app_lt (z : α) (A B : List α) (i : Nat) (h : i < A.length) : (A ++ B).getD i z = A.getD i z := by
  rw [List.getD_eq_getElem?_getD, List.getD_eq_getElem?_getD, List.getElem?_append_left h]
theorem getD_last (z : α) (A : List α) (y : α) {i : Nat} (h : i = A.length) : (A ++ [y]).getD i z = y := getD_mid z A y [] h
theorem Bs1.found {z : α} {P R S : List α} {x : α} {m b i : Nat} (hm : m = P.length + 1) (hb : b = m + R.length) (hR : Srt κ R) (s : Bs1 κ z (P ++ x :: (R ++ S)) x m b i i) :
    Srt κ (R.take (i - m) ++ x :: R.drop (i - m)) ∧ Stb κ (x :: R) (R.take (i - m) ++ x :: R.drop (i - m)) ∧ shu z (P ++ x :: (R ++ S)) P.length (i - m) = P ++ (R.take (i - m) ++ x :: R.drop (i - m)) ++ S := by
  obtain ⟨h1, _, h3, h4, h5⟩ := s; obtain ⟨n, hn⟩ : ∃ n, i - m = n := ⟨_, rfl⟩; rw [hn]; have hsp : R.take n ++ R.drop n = R := List.take_append_drop n R
  have hl : (R.take n).length = n := by rw [List.length_take]; omega
  have hg : ∀ k, m ≤ k → k < b → (P ++ x :: (R ++ S)).getD k z = R.getD (k - m) z := by
    intro k hk hkb; rw [show P ++ x :: (R ++ S) = (P ++ [x]) ++ (R ++ S) by simp, getD_app z _ _ k (by simp; omega), getD_app_lt z R S _ (by simp; omega)]
    congr 1
    simp; omega
  have a1 : ∀ r ∈ R.take n, κ r < κ x := by
    rcases h4 with h4 | h4
    · obtain rfl : n = 0 := by omega
      intro r hr; simp at hr
    by_cases h0 : n = 0
    · subst h0; intro r hr; simp at hr
    rw [hg (i - 1) (by omega) (by omega)] at h4
    have e : R.take n = R.take (n - 1) ++ [R.getD (n - 1) z] := by
      rw [show n = n - 1 + 1 by omega, List.take_add_one, Nat.add_sub_cancel, List.getD_eq_getElem?_getD, List.getElem?_eq_getElem (by omega)]; rfl
    rw [show i - 1 - m = n - 1 by omega] at h4; have hs : Srt κ (R.take n) := (srt_app.1 (hsp ▸ hR)).1; rw [e] at hs ⊢; exact srt_last_lt hs h4
  have a2 : ∀ r ∈ R.drop n, κ x ≤ κ r := by
    rcases h5 with h5 | h5
    · rw [List.drop_of_length_le (by omega)]; intro r hr; cases hr
    by_cases h0 : i = b
    · rw [List.drop_of_length_le (by omega)]; intro r hr; cases hr
    rw [hg i (by omega) (by omega), hn] at h5
    have e : R.drop n = R.getD n z :: R.drop (n + 1) := by
      rw [List.drop_eq_getElem_cons (by omega), List.getD_eq_getElem?_getD, List.getElem?_eq_getElem (by omega)]; rfl
    have hs : Srt κ (R.drop n) := (srt_app.1 (hsp ▸ hR)).2.1; rw [e] at hs ⊢; exact srt_first hs (by omega)
  have hi := insert_left (x := x) (R1 := R.take n) (R2 := R.drop n) (by rw [hsp]; exact hR) a1 a2; rw [hsp] at hi; refine ⟨hi.1, hi.2, ?_⟩; have e := shu_segs z P x n (R.take n) (R.drop n ++ S) hl (a := P.length) rfl; rw [← List.append_assoc, hsp] at e; rw [e]
  simp
end
section
variable {α : Type} {κ : α → Int}
theorem take_last (z : α) (R : List α) {n : Nat} (h0 : n ≠ 0) (hn : n ≤ R.length) : R.take n = R.take (n - 1) ++ [R.getD (n - 1) z] := by
  rw [show n = n - 1 + 1 by omega, List.take_add_one, Nat.add_sub_cancel, List.getD_eq_getElem?_getD, List.getElem?_eq_getElem (by omega)]; rfl
theorem drop_first (z : α) (R : List α) {n : Nat} (hn : n < R.length) : R.drop n = R.getD n z :: R.drop (n + 1) := by
  rw [List.drop_eq_getElem_cons hn, List.getD_eq_getElem?_getD, List.getElem?_eq_getElem hn]; rfl
def Bs2 (κ : α → Int) (z : α) (d : List α) (x : α) (a m i j : Nat) : Prop := a ≤ i ∧ i ≤ j ∧ j ≤ m ∧ (i = a ∨ ¬ κ x < κ (d.getD (i - 1) z)) ∧ (j = m ∨ κ x < κ (d.getD j z))
theorem Bs2.lo {z : α} {d : List α} {x : α} {a m i j h : Nat} (s : Bs2 κ z d x a m i j) (h1 : i ≤ h) (h2 : h < j) (hk : ¬ κ x < κ (d.getD h z)) : Bs2 κ z d x a m (h + 1) j := ⟨by have := s.1; omega, by omega, s.2.2.1, .inr (by rw [Nat.add_sub_cancel]; exact hk), s.2.2.2.2⟩
theorem Bs2.hi {z : α} {d : List α} {x : α} {a m i j h : Nat} (s : Bs2 κ z d x a m i j) (h1 : i ≤ h) (h2 : h < j) (hk : κ x < κ (d.getD h z)) : Bs2 κ z d x a m i h := ⟨s.1, h1, by have := s.2.2.1; omega, s.2.2.2.1, .inr hk⟩
theorem Bs2.found {z : α} {P L S : List α} {x : α} {a m i : Nat} (ha : a = P.length) (hm : m = a + L.length) (hL : Srt κ L) (s : Bs2 κ z (P ++ L ++ x :: S) x a m i i) :
    Srt κ (L.take (i - a) ++ x :: L.drop (i - a)) ∧ Stb κ (L ++ [x]) (L.take (i - a) ++ x :: L.drop (i - a)) ∧ shd z (P ++ L ++ x :: S) m (m - i) = P ++ (L.take (i - a) ++ x :: L.drop (i - a)) ++ S := by
  obtain ⟨h1, _, h3, h4, h5⟩ := s; obtain ⟨n, hn⟩ : ∃ n, i - a = n := ⟨_, rfl⟩; rw [hn]; have hsp : L.take n ++ L.drop n = L := List.take_append_drop n L
  have hg : ∀ k, a ≤ k → k < m → (P ++ L ++ x :: S).getD k z = L.getD (k - a) z := by
    intro k hk hkb; rw [List.append_assoc, getD_app z _ _ k (by omega), getD_app_lt z L _ _ (by omega), ha]
  have a1 : ∀ l ∈ L.take n, κ l ≤ κ x := by
    by_cases h0 : n = 0
    · subst h0; intro r hr; simp at hr
    rcases h4 with h4 | h4
    · omega
    rw [hg (i - 1) (by omega) (by omega), show i - 1 - a = n - 1 by omega] at h4; have hs : Srt κ (L.take n) := (srt_app.1 (hsp ▸ hL)).1; rw [take_last z L h0 (by omega)] at hs ⊢; exact srt_last hs (by omega)
  have a2 : ∀ l ∈ L.drop n, κ x < κ l := by
    by_cases h0 : i = m
    · rw [List.drop_of_length_le (by omega)]; intro r hr; cases hr
    rcases h5 with h5 | h5
    · omega
    rw [hg i (by omega) (by omega), hn] at h5; have hs : Srt κ (L.drop n) := (srt_app.1 (hsp ▸ hL)).2.1; rw [drop_first z L (show n < L.length by omega)] at hs ⊢; exact srt_first_lt hs h5
  have hi := insert_right (x := x) (L1 := L.take n) (L2 := L.drop n) (by rw [hsp]; exact hL) a1 a2; rw [hsp] at hi; refine ⟨hi.1, hi.2, ?_⟩; have e := shd_segs z x S (m - i) (P ++ L.take n) (L.drop n) (by rw [List.length_drop]; omega) (m := m) (by rw [List.length_append, List.length_take, List.length_drop]; omega); rw [List.append_assoc P, hsp] at e; rw [e]
  simp
def Bs3 (κ : α → Int) (z : α) (d : List α) (p s0 r0 s r : Nat) : Prop := s0 ≤ s ∧ s ≤ r ∧ r ≤ r0 ∧ (s = s0 ∨ ¬ κ (d.getD (p - (s - 1)) z) < κ (d.getD (s - 1) z)) ∧ (r = r0 ∨ κ (d.getD (p - r) z) < κ (d.getD r z))
theorem Bs3.lo {z : α} {d : List α} {p s0 r0 s r c : Nat} (h : Bs3 κ z d p s0 r0 s r) (h1 : s ≤ c) (h2 : c < r) (hk : ¬ κ (d.getD (p - c) z) < κ (d.getD c z)) : Bs3 κ z d p s0 r0 (c + 1) r := ⟨by have := h.1; omega, by omega, h.2.2.1, .inr (by rw [Nat.add_sub_cancel]; exact hk), h.2.2.2.2⟩
theorem Bs3.hi {z : α} {d : List α} {p s0 r0 s r c : Nat} (h : Bs3 κ z d p s0 r0 s r) (h1 : s ≤ c) (h2 : c < r) (hk : κ (d.getD (p - c) z) < κ (d.getD c z)) : Bs3 κ z d p s0 r0 s c := ⟨h.1, h1, by have := h.2.2.1; omega, h.2.2.2.1, .inr hk⟩
theorem Bs3.found {z : α} {P L R S : List α} {a m b mid st en p s0 r0 : Nat} (ha : a = P.length) (hm : m = a + L.length) (hb : b = m + R.length) (hL : Srt κ L) (hR : Srt κ R) (hl1 : 1 ≤ L.length) (hr1 : 1 ≤ R.length) (hmid : mid = (a + b) / 2) (hp : p = mid + m - 1) (hen : en = mid + m - st)
    (hc : (mid < m ∧ s0 = mid + m - b ∧ r0 = mid) ∨ (m ≤ mid ∧ s0 = a ∧ r0 = m)) (s : Bs3 κ z (P ++ L ++ R ++ S) p s0 r0 st st) :
    a ≤ st ∧ st ≤ m ∧ m ≤ en ∧ en ≤ b ∧ st ≤ mid + m ∧ (∀ x ∈ L.take (st - a), ∀ y ∈ R.drop (en - m), κ x ≤ κ y) ∧ (∀ r ∈ R.take (en - m), ∀ l ∈ L.drop (st - a), κ r < κ l) := by
  obtain ⟨h1, _, h3, h4, h5⟩ := s
  have hgL : ∀ k, a ≤ k → k < m → (P ++ L ++ R ++ S).getD k z = L.getD (k - a) z := by
    intro k hk hkb; rw [List.append_assoc, List.append_assoc, getD_app z _ _ k (by omega), getD_app_lt z L _ _ (by omega), ha]
  have hgR : ∀ k, m ≤ k → k < b → (P ++ L ++ R ++ S).getD k z = R.getD (k - m) z := by
    intro k hk hkb; rw [List.append_assoc (P ++ L), getD_app z _ _ k (by rw [List.length_append]; omega), getD_app_lt z R _ _ (by rw [List.length_append]; omega)]
    congr 1
    rw [List.length_append]; omega
  have b1 : a ≤ st := by omega
  have b2 : st ≤ m := by omega
  have b3 : m ≤ en := by omega
  have b4 : en ≤ b := by omega
  refine ⟨b1, b2, b3, b4, by omega, ?_, ?_⟩
  · intro x hx y hy
    by_cases e1 : st = a
    · rw [e1, Nat.sub_self] at hx; simp at hx
    by_cases e2 : en = b
    · rw [List.drop_of_length_le (by omega)] at hy; cases hy
    rcases h4 with h4 | h4
    · omega
    rw [show p - (st - 1) = en by omega, hgR en b3 (by omega), hgL (st - 1) (by omega) (by omega), show st - 1 - a = st - a - 1 by omega] at h4; have sL : Srt κ (L.take (st - a)) := (srt_app.1 ((List.take_append_drop (st - a) L).symm ▸ hL)).1; have sR : Srt κ (R.drop (en - m)) := (srt_app.1 ((List.take_append_drop (en - m) R).symm ▸ hR)).2.1; rw [take_last z L (show st - a ≠ 0 by omega) (by omega)] at sL hx; rw [drop_first z R (show en - m < R.length by omega)] at sR hy; have q1 := srt_last (x := L.getD (st - a - 1) z) sL (Int.le_refl _) x hx; have q2 := srt_first (x := R.getD (en - m) z) sR (Int.le_refl _) y hy
    omega
  intro r hr l hl
  by_cases e1 : st = m
  · rw [List.drop_of_length_le (by omega)] at hl; cases hl
  by_cases e2 : en = m
  · rw [e2, Nat.sub_self] at hr; simp at hr
  rcases h5 with h5 | h5
  · omega
  rw [show p - st = en - 1 by omega, hgR (en - 1) (by omega) (by omega), hgL st b1 (by omega), show en - 1 - m = en - m - 1 by omega] at h5; have sL : Srt κ (L.drop (st - a)) := (srt_app.1 ((List.take_append_drop (st - a) L).symm ▸ hL)).2.1; have sR : Srt κ (R.take (en - m)) := (srt_app.1 ((List.take_append_drop (en - m) R).symm ▸ hR)).1; rw [drop_first z L (show st - a < L.length by omega)] at sL hl; rw [take_last z R (show en - m ≠ 0 by omega) (by omega)] at sR hr; have q1 := srt_first (x := L.getD (st - a) z) sL (Int.le_refl _) l hl; have q2 := srt_last (x := R.getD (en - m - 1) z) sR (Int.le_refl _) r hr
  omega
end
section
variable {α : Type} {κ : α → Int}
theorem sym_nums {a m b mid s0 r0 p : Nat} (ham : a < m) (hmb : m < b) (hmid : mid = (a + b) / 2) (hp : 1 + p = mid + m) (hc : (mid < m ∧ s0 = mid + m - b ∧ r0 = mid) ∨ (m ≤ mid ∧ s0 = a ∧ r0 = m)) : a ≤ s0 ∧ r0 ≤ m ∧ r0 ≤ mid + m ∧ s0 ≤ r0 := by omega
theorem sym_at {a m b mid s0 r0 p c : Nat} (ham : a < m) (hmb : m < b) (hmid : mid = (a + b) / 2) (hp : 1 + p = mid + m) (hc : (mid < m ∧ s0 = mid + m - b ∧ r0 = mid) ∨ (m ≤ mid ∧ s0 = a ∧ r0 = m)) (h1 : s0 ≤ c) (h2 : c < r0) : c ≤ p ∧ m ≤ p - c ∧ p - c < b ∧ a ≤ c ∧ c < b := by omega
theorem sym_tail {z : α} {Dm : α → Prop} {P L R S : List α} {a m b mid st en p s0 r0 : Nat} (ha : a = P.length) (hm : m = a + L.length) (hb : b = m + R.length) (hL : Srt κ L) (hR : Srt κ R) (hl1 : 1 ≤ L.length) (hr1 : 1 ≤ R.length) (hmid : mid = (a + b) / 2) (hp : 1 + p = mid + m) (hen : en = mid + m - st)
    (hc : (mid < m ∧ s0 = mid + m - b ∧ r0 = mid) ∨ (m ≤ mid ∧ s0 = a ∧ r0 = m)) (hDL : ∀ x ∈ L, Dm x) (hDR : ∀ x ∈ R, Dm x) (s : Bs3 κ z (P ++ L ++ R ++ S) p s0 r0 st st) :
    ∃ L1 L2 R1 R2 : List α, (a ≤ st ∧ st ≤ m ∧ m ≤ en ∧ en ≤ b ∧ st + en = mid + m) ∧ P ++ L ++ R ++ S = P ++ L1 ++ L2 ++ R1 ++ (R2 ++ S) ∧ (L1.length = st - a ∧ L2.length = m - st ∧ R1.length = en - m ∧ R2.length = b - en) ∧ (Srt κ L1 ∧ Srt κ L2 ∧ Srt κ R1 ∧ Srt κ R2) ∧ ((∀ x ∈ L1, Dm x) ∧ (∀ x ∈ L2, Dm x) ∧ (∀ x ∈ R1, Dm x) ∧ (∀ x ∈ R2, Dm x)) ∧
      (∀ Z1 Z2, Srt κ Z1 → Stb κ (L1 ++ R1) Z1 → Srt κ Z2 → Stb κ (L2 ++ R2) Z2 → Srt κ (Z1 ++ Z2) ∧ Stb κ (L ++ R) (Z1 ++ Z2)) := by
  obtain ⟨h1, h2, h3, h4, h5, h6, h7⟩ := Bs3.found ha hm hb hL hR hl1 hr1 hmid (show p = mid + m - 1 by omega) hen hc s; have eL := List.take_append_drop (st - a) L; have eR := List.take_append_drop (en - m) R; have sL := srt_app.1 (eL.symm ▸ hL); have sR := srt_app.1 (eR.symm ▸ hR)
  have n1 : (L.take (st - a)).length = st - a := by rw [List.length_take]; clear hc hmid hp hen; omega
  have n2 : (L.drop (st - a)).length = m - st := by rw [List.length_drop]; clear hc hmid hp hen; omega
  have n3 : (R.take (en - m)).length = en - m := by rw [List.length_take]; clear hc hmid hp hen; omega
  have n4 : (R.drop (en - m)).length = b - en := by rw [List.length_drop]; clear hc hmid hp hen; omega
  refine ⟨L.take (st - a), L.drop (st - a), R.take (en - m), R.drop (en - m), ⟨h1, h2, h3, h4, by clear hc hmid hp; omega⟩, ?_, ⟨n1, n2, n3, n4⟩, ⟨sL.1, sL.2.1, sR.1, sR.2.1⟩, ⟨fun x hx => hDL x (List.mem_of_mem_take hx), fun x hx => hDL x (List.mem_of_mem_drop hx), fun x hx => hDR x (List.mem_of_mem_take hx), fun x hx => hDR x (List.mem_of_mem_drop hx)⟩, fun Z1 Z2 s1 b1 s2 b2 => ?_⟩
  · rw [show P ++ L.take (st - a) ++ L.drop (st - a) ++ R.take (en - m) ++ (R.drop (en - m) ++ S) = P ++ (L.take (st - a) ++ L.drop (st - a)) ++ (R.take (en - m) ++ R.drop (en - m)) ++ S by simp only [List.append_assoc], eL, eR]
  have := merge_halves (eL.symm ▸ hL) (eR.symm ▸ hR) h6 h7 s1 b1 s2 b2
  rwa [eL, eR] at this
theorem sym_dom {z : α} {Dm : α → Prop} {P L R S : List α} {a m b k : Nat} (ha : a = P.length) (hm : m = a + L.length) (hb : b = m + R.length) (hDL : ∀ x ∈ L, Dm x) (hDR : ∀ x ∈ R, Dm x) (h1 : a ≤ k) (h2 : k < b) : Dm ((P ++ L ++ R ++ S).getD k z) := by
  rw [show P ++ L ++ R ++ S = P ++ ((L ++ R) ++ S) by simp, getD_app z _ _ k (by omega), getD_app_lt z (L ++ R) _ _ (by rw [List.length_append]; omega), List.getD_eq_getElem?_getD, List.getElem?_eq_getElem (by rw [List.length_append]; omega)]; exact (List.mem_append.1 (List.getElem_mem (l := L ++ R) (by rw [List.length_append]; omega))).elim (hDL _) (hDR _)
theorem sym_step {z : α} {d : List α} {p s0 r0 i j c : Nat} (s : Bs3 κ z d p s0 r0 i j) (h : i < j) (hcc : c = (i + j) / 2) : i ≤ c ∧ c < j ∧ s0 ≤ c ∧ c < r0 := by
  obtain ⟨h1, _, h3, _, _⟩ := s
  omega
end
theorem u64_small {s : Nat} (h : s ≤ 4503599627370496) : IntKind.u64.wrap (s : Int) = (s : Int) := by rw [IntKind.wrap_u64]; omega
theorem i64_small {s : Nat} (h : s ≤ 4503599627370496) : IntKind.i64.wrap (s : Int) = (s : Int) := by rw [IntKind.wrap_i64]; omega
theorem half_z {s h : Nat} (e : s / 2 = h) : (s : Int) / 2 = (h : Int) := by omega
section
variable {α : Type} {κ : α → Int}
theorem srt_or {A B : List α} (hA : Srt κ A) (hB : Srt κ B) (h : A.length = 0 ∨ B.length = 0) : Srt κ (A ++ B) := by
  rcases h with h | h
  · obtain rfl := List.eq_nil_of_length_eq_zero h; exact hB
  obtain rfl := List.eq_nil_of_length_eq_zero h; rw [List.append_nil]; exact hA
theorem turn_or {P A B X : List α} (h : A.length = 0 ∨ B.length = 0) : P ++ A ++ B ++ X = P ++ B ++ A ++ X := by
  rcases h with h | h
  · obtain rfl := List.eq_nil_of_length_eq_zero h; simp
  obtain rfl := List.eq_nil_of_length_eq_zero h; simp
end

theorem goesC_ {P : Program} {ops : Array Oper} {Q : Exit → Act → World → Prop} {oi : Oper} {N : Option Tmp} {a : Act} {w : World} {K : Act → World → Prop} {f : FuncId} {fn : Func} {zs_ : Array Operand} {ts : Array TypeId} (hf : P.funcs[f]? = some fn) (hname : (fn.name == "runtime.NumGoroutine") = false) (hb : fn.body.isSome = true) {x : Operand} {lb : Array Value} (args : Array Value)
    (hw : Region.wanted oi (yielded ops a.tmps) = true) (hN : oi.dst = N) (hop : oi.op = .call { callee := .value x, args := zs_, argTypes := ts }) (hx : a.eval x = .func (.func f) #[] lb) (hargs : zs_.map a.eval = args) {all : Array Value} (hall : args ++ lb = all)
    (h : Calls P f all w fun e w' => ∃ v, e = .returned v ∧ K (a.put N v) w') : if Region.wanted oi (yielded ops a.tmps) = true then Oper.wp P oi a w K Q else K (a.put N undef) w := by
  subst hall; refine call_ f (args ++ lb) hw hN ?_ h; have he := enters_ hf hname hb (args ++ lb) w; unfold execOp
  simp [hop, resolve, Deferred.ofValue, invoke, hx, hargs, he]
section
attribute [local go_sem] Oper.semAt_some
theorem by_calls (gb : Nat) (A : Option Addr) (c : Nat) (l : List Int) (x : Nat) (w : World) (hb : w.heap[gb]? = some (.cells #[.slice A l.length c] 68 (0, 0))) (hc : (Kd.int .i64).C w A l.length l) (hx : x < l.length) :
    Calls Tryz.prog 72 #[.int .i64 (x : Int), .pointer (some ⟨gb, 0, none⟩)] w fun e w' => e = .returned (.int .i64 (rd l (x : Int))) ∧ w' = w := by
  obtain ⟨ad, rfl, hxx⟩ := Kd.at_int hc (x : Int) (by omega) (by omega); rw [Int.toNat_natCast] at hxx; have hcb : w.cell? ⟨gb, 0, none⟩ = some (.slice (some ad) l.length c) := (blk_cell hb 0).trans rfl; have q1 := eq_true (show (0 : Int) ≤ (x : Int) by omega); have q2 := eq_true (show (x : Int) < (l.length : Int) by omega); have q3 := eq_true hx; clear hc hb; go_enter Tryz.func72, Tryz.ntmps72; go_wp2; go_ret; exact ⟨rfl, rfl⟩
theorem cmp_calls (g3 gb : Nat) (A : Option Addr) (c : Nat) (l : List Int) (x y : Nat) (w : World) (h3 : w.heap[g3]? = some (.cells #[.func (.func 72) #[] #[.pointer (some ⟨gb, 0, none⟩)]] 63 (0, 0))) (hb : w.heap[gb]? = some (.cells #[.slice A l.length c] 68 (0, 0))) (hc : (Kd.int .i64).C w A l.length l) (hx : x < l.length) (hy : y < l.length) :
    Calls Tryz.prog 90 #[.int .i64 (x : Int), .int .i64 (y : Int), .pointer (some ⟨g3, 0, none⟩)] w fun e w' => e = .returned (.int .i64 (wrap64 (rd l (x : Int) - rd l (y : Int)))) ∧ Drawn0 w w' := by
  have B3 := Ak (blk_drew h3); have BB := Ak (blk_drew hb); have HC := Ak (show (Kd.int .i64).C w.drew A l.length l from Kd.C_drewN hc 1); have HX := Ak hx; have HY := Ak hy; clear h3 hb hc hx hy; go_enter Tryz.func90, Tryz.ntmps90; go_wp2; refine sq 8 (S := fun w' => w'.cell? ⟨g3, 0, none⟩ = some (.func (.func 72) #[] #[.pointer (some ⟨gb, 0, none⟩)])) (ds := []) ((blk_cell B3.out 0).trans rfl) fun hHeld => ?_; refine pq 1 7 ?_; refine pq 4 10 ?_; refine tq 0 6 ?_ hHeld; refine tq 3 9 ?_ hHeld; refine oq 2 8 fun K hK => ?_; refine goesC_ Tryz.func72 (by kernel_rfl) rfl (x := (.tmp 6)) (lb := #[.pointer (some ⟨gb, 0, none⟩)]) #[.int .i64 (x : Int)] (by rfl) rfl rfl rfl (by simp only [List.map_toArray, List.map_cons, List.map_nil]; rfl) (all := #[.int .i64 (x : Int), .pointer (some ⟨gb, 0, none⟩)]) rfl ?_
  with_reducible refine (by_calls gb A c l x _ BB.out HC.out HX.out).mono ?_
  rintro e w3 ⟨rfl, rfl⟩; refine ⟨_, rfl, ?_⟩; refine hK.out _ _ ((blk_cell B3.out 0).trans rfl) (fun hHeld => ?_); clear hK K; refine nq 8 ?_; refine oq 5 11 fun K hK => ?_; refine goesC_ Tryz.func72 (by kernel_rfl) rfl (x := (.tmp 9)) (lb := #[.pointer (some ⟨gb, 0, none⟩)]) #[.int .i64 (y : Int)] (by rfl) rfl rfl rfl (by simp only [List.map_toArray, List.map_cons, List.map_nil]; rfl) (all := #[.int .i64 (y : Int), .pointer (some ⟨gb, 0, none⟩)]) rfl ?_
  with_reducible refine (by_calls gb A c l y _ BB.out HC.out HY.out).mono ?_
  rintro e w4 ⟨rfl, rfl⟩; refine ⟨_, rfl, ?_⟩; refine hK.out _ _ ((blk_cell B3.out 0).trans rfl) (fun hHeld => ?_); clear hK K; refine nq 11 ?_; refine pq 6 12 ?_; refine pq 7 5 ?_; refine dq ?_; go_wp2; go_ret; exact ⟨rfl, ⟨1, rfl⟩⟩
end

theorem grown_trans {w w1 w2 : World} {row : Option Nat} (h : w.grownBy w1 row) (k : w1.grownBy w2 row) : w.grownBy w2 row := ⟨k.os.trans h.os, k.tape.trans h.tape, k.output.trans h.output, Nat.le_trans h.size k.size, fun i hi hne => (k.block i (Nat.lt_of_lt_of_le hi h.size) hne).trans (h.block i hi hne)⟩
theorem grown_drew {w w1 : World} {row : Option Nat} (h : w.grownBy w1 row) : w.grownBy w1.drew row := ⟨h.os, h.tape, h.output, h.size, h.block⟩
theorem grown_drawn {w w1 w2 : World} {row : Option Nat} (h : w.grownBy w1 row) (k : Drawn0 w1 w2) : w.grownBy w2 row := by
  obtain ⟨n, rfl⟩ := k.out; exact ⟨h.os, h.tape, h.output, h.size, h.block⟩
theorem row_at {W : World} {base : Nat} {ok : Nat → Prop} {go len cap : Nat} {d : List Int} (h : Kd.R (Kd.int .i64) 3 W base ok (.slice (some ⟨go, 0, none⟩) len cap) d) (i : Nat) (hi : i < len) : W.cell? ⟨go, i, none⟩ = some (.int .i64 (rd d (i : Int))) ∧ W.frozen? ⟨go, i, none⟩ = false :=
  Kd.R_celln 0 h (i : Int) (by omega) (by omega)
theorem row_put {W : World} {base : Nat} {ok : Nat → Prop} {go len cap : Nat} {d : List Int} (h : Kd.R (Kd.int .i64) 3 W base ok (.slice (some ⟨go, 0, none⟩) len cap) d) (i : Nat) (x : Int) : Kd.R (Kd.int .i64) 3 (W.setCell ⟨go, i, none⟩ (.int .i64 x)) base ok (.slice (some ⟨go, 0, none⟩) len cap) (d.set i x) ∧ W.grownBy (W.setCell ⟨go, i, none⟩ (.int .i64 x)) (some go) :=
  Kd.R_putg h (i : Int) x
theorem row_len {W : World} {base : Nat} {ok : Nat → Prop} {go len cap : Nat} {d : List Int} (h : Kd.R (Kd.int .i64) 3 W base ok (.slice (some ⟨go, 0, none⟩) len cap) d) : d.length = len := (Kd.R_reads' h).1.symm
section
attribute [local go_sem] Oper.semAt_some
theorem swapRange_calls (go base len cap a b n : Nat) (ok : Nat → Prop) (F : Value) (d : List Int) (W0 : World) (hR : Kd.R (Kd.int .i64) 3 W0 base ok (.slice (some ⟨go, 0, none⟩) len cap) d) (hab : a + n ≤ b) (hb : b + n ≤ len) (hl : len ≤ 1048576) :
    Calls Tryz.prog 97 #[.slice (some ⟨go, 0, none⟩) len cap, .int .i64 (a : Int), .int .i64 (b : Int), .int .i64 (n : Int), F] W0 fun e W' => e = .returned (.tuple #[]) ∧ Kd.R (Kd.int .i64) 3 W' base ok (.slice (some ⟨go, 0, none⟩) len cap) (swr 0 d a b n) ∧ W0.grownBy W' (some go) := by
  have HO := Ak (show Kd.R (Kd.int .i64) 3 W0 base ok (.slice (some ⟨go, 0, none⟩) len cap) (swr 0 d a b 0) from hR); have HG := Ak (World.grownBy.refl W0 (some go)); clear hR; go_enter Tryz.func97, Tryz.ntmps97; go_wp2
  go_loopw [10] (fun v10 w' => ∃ i : Nat, i ≤ n ∧ v10 = .int .i64 (i : Int) ∧ Aside0 (Kd.R (Kd.int .i64) 3 w' base ok (.slice (some ⟨go, 0, none⟩) len cap) (swr 0 d a b i)) ∧ Aside0 (W0.grownBy w' (some go)))
    (fun v _ => n + 1 - (intOf v).toNat)
  case atStart => exact ⟨0, by omega, rfl, HO, HG⟩
  case round =>
    clear HO HG; obtain ⟨i, hi, rfl, HO, HG⟩ := hrel
    by_cases hlt : i < n
    rotate_left
    · obtain rfl : i = n := by omega
      have q0 := eq_false (show ¬ (i : Int) < (i : Int) by omega); go_wp2
      go_end0
      exact ⟨rfl, HO.out, HG.out⟩
    have q0 := eq_true (show (i : Int) < (n : Int) by omega); have q00 := eq_true hlt; obtain ⟨ja, hja⟩ : ∃ ja, a + i = ja := ⟨_, rfl⟩; obtain ⟨jb, hjb⟩ : ∃ jb, b + i = jb := ⟨_, rfl⟩
    have wa : wrap64 ((a : Int) + (i : Int)) = (ja : Int) := by unfold wrap64; omega
    have wa2 : IntKind.i64.wrap ((a : Int) + (i : Int)) = (ja : Int) := (i64_w _).trans wa
    have wb : wrap64 ((b : Int) + (i : Int)) = (jb : Int) := by unfold wrap64; omega
    have wb2 : IntKind.i64.wrap ((b : Int) + (i : Int)) = (jb : Int) := (i64_w _).trans wb; have pa := eq_true (show (0 : Int) ≤ (ja : Int) by omega); have pa1 := eq_true (show (ja : Int) < (len : Int) by omega); have pa2 := eq_true (show ja < len by omega); have pb := eq_true (show (0 : Int) ≤ (jb : Int) by omega); have pb1 := eq_true (show (jb : Int) < (len : Int) by omega); have pb2 := eq_true (show jb < len by omega); have LA := Ak (show ja < len by omega); have LB := Ak (show jb < len by omega); have HS := Ak (show swr 0 d a b (i + 1) = swp 0 (swr 0 d a b i) ja jb by rw [swr, hja, hjb]); obtain ⟨e, he⟩ : ∃ e, swr 0 d a b i = e := ⟨_, rfl⟩; rw [he] at HO HS; clear he; go_wp2; replace HO := Ak (Kd.R_drew HO.out); replace HG := Ak (grown_drew HG.out); refine sq 24 (S := fun w' => w'.cell? ⟨go, jb, none⟩ = some (.int .i64 (rd e (jb : Int))) ∧ w'.cell? ⟨go, ja, none⟩ = some (.int .i64 (rd e (ja : Int)))) (ds := [21, 23]) ⟨(row_at HO.out jb LB.out).1, (row_at HO.out ja LA.out).1⟩ fun hHeld => ?_; generalize wr.drew = wd at HO HG hHeld ⊢; refine pq 0 16 ?_; refine pq 1 17 ?_; refine pq 2 18 ?_; refine pq 3 19 ?_; refine pq 4 20 ?_; refine pq 5 21 ?_; refine pq 6 22 ?_; refine pq 7 23 ?_; refine pq 8 24 ?_; refine pq 9 25 ?_; refine pq 10 26 ?_; refine pq 11 27 ?_; refine pq 12 28 ?_; refine pq 14 30 ?_; refine pq 15 31 ?_; refine pq 16 32 ?_; refine pq 17 33 ?_; refine pq 18 34 ?_; refine tq 13 29 ?_ hHeld; refine tq 19 35 ?_ hHeld; refine pq 20 36 ?_; refine lq 21 fun K hK => ?_; obtain ⟨hz, hf⟩ := row_at HO.out ja LA.out; refine skip_ (w1 := ?_) (by rfl) rfl ?_ ?_; rotate_left
    · go_simp
      rfl
    refine hK.out _ _ ?_; clear hK K; refine pq 22 37 ?_; refine lq 23 fun K hK => ?_; obtain ⟨hz2, hf2⟩ := row_at (row_put HO.out ja (rd e (jb : Int))).1 jb LB.out; refine skip_ (w1 := ?_) (by rfl) rfl ?_ ?_; rotate_left
    · go_simp
      rfl
    refine hK.out _ _ ?_; clear hK K; refine dq ?_; have h1 := row_put HO.out ja (rd e (jb : Int)); have h2 := row_put h1.1 jb (rd e (ja : Int)); have HO2 := Ak (show Kd.R (Kd.int .i64) 3 ((wd.setCell ⟨go, ja, none⟩ (Value.int IntKind.i64 (rd e (jb : Int)))).setCell ⟨go, jb, none⟩ (Value.int IntKind.i64 (rd e (ja : Int)))) base ok (.slice (some ⟨go, 0, none⟩) len cap) (swp 0 e ja jb) from h2.1); have HG2 := Ak (grown_trans (grown_trans HG.out h1.2) h2.2); clear h1 h2 HO HG hz hf hz2 hf2 hHeld; generalize ((wd.setCell ⟨go, ja, none⟩ (Value.int IntKind.i64 (rd e (jb : Int)))).setCell ⟨go, jb, none⟩ (Value.int IntKind.i64 (rd e (ja : Int)))) = wx at HO2 HG2 ⊢; go_wp2
    go_roundw
    case rel => exact ⟨i + 1, by omega, by rfl, ⟨by rw [HS.out]; exact HO2.out⟩, HG2⟩
    case measure => simp [intOf]; omega
end
section
attribute [local go_sem] Oper.semAt_some
theorem rotate_calls (go base len cap a m b : Nat) (ok : Nat → Prop) (F : Value) (P X Y S : List Int) (W0 : World) (hR : Kd.R (Kd.int .i64) 3 W0 base ok (.slice (some ⟨go, 0, none⟩) len cap) (P ++ X ++ Y ++ S)) (ha : a = P.length) (hm : m = a + X.length) (hb : b = m + Y.length) (hx : 1 ≤ X.length) (hy : 1 ≤ Y.length) (hl : len ≤ 1048576) :
    Calls Tryz.prog 96 #[.slice (some ⟨go, 0, none⟩) len cap, .int .i64 (a : Int), .int .i64 (m : Int), .int .i64 (b : Int), F] W0 fun e W' => e = .returned (.tuple #[]) ∧ Kd.R (Kd.int .i64) 3 W' base ok (.slice (some ⟨go, 0, none⟩) len cap) (P ++ Y ++ X ++ S) ∧ W0.grownBy W' (some go) := by
  have hlen := row_len hR; simp only [List.length_append] at hlen; have HLEN := Ak hl; have HO := Ak hR; have HG := Ak (World.grownBy.refl W0 (some go)); obtain ⟨T, hT⟩ : ∃ T, P ++ Y ++ X ++ S = T := ⟨_, rfl⟩; rw [hT]; obtain ⟨i0, hi0⟩ : ∃ i0, X.length = i0 := ⟨_, rfl⟩; obtain ⟨j0, hj0⟩ : ∃ j0, Y.length = j0 := ⟨_, rfl⟩; have wi : wrap64 ((m : Int) - (a : Int)) = (i0 : Int) := wsub (by omega) (by omega); have wi2 : IntKind.i64.wrap ((m : Int) - (a : Int)) = (i0 : Int) := (i64_w _).trans wi; have wj : wrap64 ((b : Int) - (m : Int)) = (j0 : Int) := wsub (by omega) (by omega); have wj2 : IntKind.i64.wrap ((b : Int) - (m : Int)) = (j0 : Int) := (i64_w _).trans wj; have ST := Ak (show RotSt m len T i0 j0 (P ++ X ++ Y ++ S) from ⟨P, X, Y, S, by omega, hi0, hj0, by omega, rfl, hT⟩); have HI := Ak (show 1 ≤ i0 by omega); have HJ := Ak (show 1 ≤ j0 by omega); clear hR; generalize P ++ X ++ Y ++ S = d at HO ST; clear ha hm hb hx hy hlen hT hi0 hj0; go_enter Tryz.func96, Tryz.ntmps96; go_wp2
  go_loopw [10, 11] (fun v10 v11 w' => ∃ (i j : Nat) (e : List Int), v10 = .int .i64 (i : Int) ∧ v11 = .int .i64 (j : Int) ∧ Aside0 (1 ≤ i) ∧ Aside0 (1 ≤ j) ∧ Aside0 (Kd.R (Kd.int .i64) 3 w' base ok (.slice (some ⟨go, 0, none⟩) len cap) e) ∧ Aside0 (W0.grownBy w' (some go)) ∧ Aside0 (RotSt m len T i j e))
    (fun v10 v11 _ => (intOf v10).toNat + (intOf v11).toNat)
  case atStart => exact ⟨i0, j0, d, rfl, rfl, HI, HJ, HO, HG, ST⟩
  case round =>
    clear HO HG ST HI HJ wi wi2 wj wj2; obtain ⟨i, j, e, rfl, rfl, HI, HJ, HO, HG, ST⟩ := hrel; obtain ⟨him, hmjl⟩ := ST.out.bounds; have hl2 := HLEN.out; have hi1 := HI.out; have hj1 := HJ.out
    by_cases hij : i = j
    · subst hij; have qn : ((i : Int) != (i : Int)) = false := bne_eq_false_iff_eq.mpr rfl; obtain ⟨mi, hmi⟩ : ∃ mi, m = i + mi := ⟨m - i, by omega⟩
      have bmi : m ≤ 4503599627370496 := by omega
      have B1 := Ak (show mi + i ≤ m by omega); have B2 := Ak (show m + i ≤ len by omega); have HE := Ak (ST.out.done (0 : Int) (show m - i = mi by omega)); have wmi : wrap64 ((m : Int) - (i : Int)) = (mi : Int) := wsub hmi.symm bmi; have wmiq : IntKind.i64.wrap ((m : Int) - (i : Int)) = (mi : Int) := (i64_w _).trans wmi; clear him hmjl hl2 hi1 hj1 hmi bmi
      go_wp2_with (go_at_call 97; refine (swapRange_calls go base len cap mi m i ok F e _ HO.out B1.out B2.out HLEN.out).mono ?_; rintro e_ w5 ⟨rfl, ho, hg⟩; have HO2 := Ak ho; have HG2 := Ak (grown_trans HG.out hg); clear ho hg HO HG)
      go_end0
      exact ⟨rfl, by rw [← HE.out]; exact HO2.out, HG2.out⟩
    have qn : ((i : Int) != (j : Int)) = true := bne_iff_ne.mpr (by omega); have qn2 := eq_false hij
    by_cases hgt : j < i
    · have qg := eq_true (show (j : Int) < (i : Int) by omega); have qg2 := eq_true hgt; obtain ⟨mi, hmi⟩ : ∃ mi, m = i + mi := ⟨m - i, by omega⟩
      have bmi : m ≤ 4503599627370496 := by omega
      obtain ⟨ij2, hij2⟩ : ∃ ij2, i = j + ij2 := ⟨i - j, by omega⟩
      have bij2 : i ≤ 4503599627370496 := by omega
      have B1 := Ak (show mi + j ≤ m by omega); have B2 := Ak (show m + j ≤ len by omega); have ST2 := Ak (ST.out.gt (0 : Int) hgt (show m - i = mi by omega) (show i - j = ij2 by omega)); have HI2 := Ak (show 1 ≤ ij2 by omega); have HMS := Ak (show ij2 + j < i + j by omega); have wmi : wrap64 ((m : Int) - (i : Int)) = (mi : Int) := wsub hmi.symm bmi; have wmiq : IntKind.i64.wrap ((m : Int) - (i : Int)) = (mi : Int) := (i64_w _).trans wmi; have wij2 : wrap64 ((i : Int) - (j : Int)) = (ij2 : Int) := wsub hij2.symm bij2; have wij2q : IntKind.i64.wrap ((i : Int) - (j : Int)) = (ij2 : Int) := (i64_w _).trans wij2; clear him hmjl hl2 hi1 hj1 hmi hij2 hgt hij bmi bij2
      go_wp2_with (go_at_call 97; refine (swapRange_calls go base len cap mi m j ok F e _ HO.out B1.out B2.out HLEN.out).mono ?_; rintro e_ w5 ⟨rfl, ho, hg⟩; have HO2 := Ak ho; have HG2 := Ak (grown_trans HG.out hg); clear ho hg HO HG)
      go_roundw
      case rel => exact ⟨ij2, j, _, rfl, rfl, HI2, HJ, HO2, HG2, ST2⟩
      case measure => have h1 := HMS.out; simp [intOf]; omega
    have qg := eq_false (show ¬ (j : Int) < (i : Int) by omega); have qg2 := eq_false hgt; obtain ⟨mi, hmi⟩ : ∃ mi, m = i + mi := ⟨m - i, by omega⟩
    have bmi : m ≤ 4503599627370496 := by omega
    obtain ⟨ji2, hji2⟩ : ∃ ji2, j = i + ji2 := ⟨j - i, by omega⟩
    have bji2 : j ≤ 4503599627370496 := by omega
    obtain ⟨mj, hmj⟩ : ∃ mj, m + j = mj := ⟨_, rfl⟩
    have bmj : mj ≤ 4503599627370496 := by omega
    obtain ⟨mji, hmji⟩ : ∃ mji, mj = i + mji := ⟨mj - i, by omega⟩
    have bmji : mj ≤ 4503599627370496 := by omega
    have B1 := Ak (show mi + i ≤ mji by omega); have B2 := Ak (show mji + i ≤ len by omega); have ST2 := Ak (ST.out.lt (0 : Int) (show i < j by omega) (show m - i = mi by omega) (show j - i = ji2 by omega) (show m + j - i = mji by omega)); have HJ2 := Ak (show 1 ≤ ji2 by omega); have HMS := Ak (show i + ji2 < i + j by omega); have wmi : wrap64 ((m : Int) - (i : Int)) = (mi : Int) := wsub hmi.symm bmi; have wmiq : IntKind.i64.wrap ((m : Int) - (i : Int)) = (mi : Int) := (i64_w _).trans wmi; have wji2 : wrap64 ((j : Int) - (i : Int)) = (ji2 : Int) := wsub hji2.symm bji2; have wji2q : IntKind.i64.wrap ((j : Int) - (i : Int)) = (ji2 : Int) := (i64_w _).trans wji2; have wmj : wrap64 ((m : Int) + (j : Int)) = (mj : Int) := wadd hmj bmj; have wmjq : IntKind.i64.wrap ((m : Int) + (j : Int)) = (mj : Int) := (i64_w _).trans wmj; have wmji : wrap64 ((mj : Int) - (i : Int)) = (mji : Int) := wsub hmji.symm bmji; have wmjiq : IntKind.i64.wrap ((mj : Int) - (i : Int)) = (mji : Int) := (i64_w _).trans wmji; clear him hmjl hl2 hi1 hj1 hmi hji2 hmj hmji hgt hij bmi bji2 bmj bmji
    go_wp2_with (go_at_call 97; refine (swapRange_calls go base len cap mi mji i ok F e _ HO.out B1.out B2.out HLEN.out).mono ?_; rintro e_ w5 ⟨rfl, ho, hg⟩; have HO2 := Ak ho; have HG2 := Ak (grown_trans HG.out hg); clear ho hg HO HG)
    go_roundw
    case rel => exact ⟨i, ji2, _, rfl, rfl, HI, HJ2, HO2, HG2, ST2⟩
    case measure => have h1 := HMS.out; simp [intOf]; omega
end

def CmpOk (κ : Int → Int) (Dm : Int → Prop) (g3 go : Nat) (W0 : World) : Prop := ∀ W : World, W0.grownBy W (some go) → ∀ x y : Int, Dm x → Dm y →
  Calls Tryz.prog 90 #[.int .i64 x, .int .i64 y, .pointer (some ⟨g3, 0, none⟩)] W fun e W' => ∃ z : Int, e = .returned (.int .i64 z) ∧ (z < 0 ↔ κ x < κ y) ∧ Drawn0 W W'
theorem CmpOk.call {κ : Int → Int} {Dm : Int → Prop} {g3 go : Nat} {W0 W : World} (h : CmpOk κ Dm g3 go W0) (hg : W0.grownBy W (some go)) {x y : Int} (hx : Dm x) (hy : Dm y) : Calls Tryz.prog 90 #[.int .i64 x, .int .i64 y, .pointer (some ⟨g3, 0, none⟩)] W fun e W' => ∃ z : Int, e = .returned (.int .i64 z) ∧ (z < 0 ↔ κ x < κ y) ∧ Drawn0 W W' := h W hg x y hx hy
theorem CmpOk.later {κ : Int → Int} {Dm : Int → Prop} {g3 go : Nat} {W0 W1 : World} (h : CmpOk κ Dm g3 go W0) (hg : W0.grownBy W1 (some go)) : CmpOk κ Dm g3 go W1 := fun W k => h W (grown_trans hg k)
section
attribute [local go_sem] Oper.semAt_some
theorem insertion_calls (κ : Int → Int) (Dm : Int → Prop) (g3 go base len cap a b : Nat) (ok : Nat → Prop) (P Z0 S : List Int) (W0 : World) (hR : Kd.R (Kd.int .i64) 3 W0 base ok (.slice (some ⟨go, 0, none⟩) len cap) (P ++ Z0 ++ S)) (ha : P.length = a) (hb : a + Z0.length = b) (h0 : 1 ≤ Z0.length) (hl : len ≤ 1048576) (hD : ∀ x ∈ Z0, Dm x) (hC : CmpOk κ Dm g3 go W0) :
    Calls Tryz.prog 94 #[.slice (some ⟨go, 0, none⟩) len cap, .int .i64 (a : Int), .int .i64 (b : Int), .func (.func 90) #[] #[.pointer (some ⟨g3, 0, none⟩)]] W0 fun e W' => e = .returned (.tuple #[]) ∧ (∃ Z, Srt κ Z ∧ Stb κ Z0 Z ∧ Kd.R (Kd.int .i64) 3 W' base ok (.slice (some ⟨go, 0, none⟩) len cap) (P ++ Z ++ S)) ∧ W0.grownBy W' (some go) := by
  have hlen := row_len hR; simp only [List.length_append] at hlen; have HLEN := Ak (show b ≤ len ∧ len ≤ 1048576 by omega); have HO := Ak hR; have HG := Ak (World.grownBy.refl W0 (some go)); have HC := Ak hC; have HD := Ak hD; have HB := Ak hb; have ST := Ak (OutSt.start (κ := κ) (S := S) ha h0); have wa : wrap64 ((a : Int) + 1) = ((a + 1 : Nat) : Int) := wadd (x := a) (y := 1) rfl (by omega); have wa2 : IntKind.i64.wrap ((a : Int) + 1) = ((a + 1 : Nat) : Int) := (i64_w _).trans wa; clear hR hlen hl hC hD h0 ha hb; generalize P ++ Z0 ++ S = d at HO ST; obtain ⟨i0, hi0⟩ : ∃ i0, a + 1 = i0 := ⟨_, rfl⟩; rw [hi0] at ST wa wa2; have HI0 := Ak hi0; clear hi0; go_enter Tryz.func94, Tryz.ntmps94; go_wp2
  go_loopw [8] (fun v8 w' => ∃ (i : Nat) (e : List Int), v8 = .int .i64 (i : Int) ∧ Aside0 (Kd.R (Kd.int .i64) 3 w' base ok (.slice (some ⟨go, 0, none⟩) len cap) e) ∧ Aside0 (W0.grownBy w' (some go)) ∧ Aside0 (OutSt κ a P Z0 S i e))
    (fun v8 _ => b + 1 - (intOf v8).toNat)
  case atStart => exact ⟨i0, d, rfl, HO, HG, ST⟩
  case round =>
    clear HO HG ST wa wa2 HI0; obtain ⟨i, e, rfl, HO, HG, ST⟩ := hrel
    by_cases hlt : i < b
    rotate_left
    · have q0 := eq_false (show ¬ (i : Int) < (b : Int) by omega); have q00 := eq_false hlt; obtain ⟨Z, s, bb, he⟩ := ST.out.done (show i = a + Z0.length by have := ST.out.le; have := HB.out; omega); have RES := Ak (show ∃ Z, Srt κ Z ∧ Stb κ Z0 Z ∧ Kd.R (Kd.int .i64) 3 wr base ok (.slice (some ⟨go, 0, none⟩) len cap) (P ++ Z ++ S) from ⟨Z, s, bb, by rw [← he]; exact HO.out⟩); clear s bb he hlt; go_wp2
      go_end0
      exact ⟨rfl, RES.out, HG.out⟩
    have q0 := eq_true (show (i : Int) < (b : Int) by omega); have q00 := eq_true hlt; have HLT := Ak hlt; obtain ⟨A, x, B, hz0, hin, hnext⟩ := ST.out.enter (show i < a + Z0.length by have := HB.out; omega); have IN := Ak hin; have NX := Ak hnext; have DX := Ak (show Dm x from HD.out x (by rw [hz0]; simp)); have DA := Ak (show ∀ y ∈ A, Dm y from fun y hy => HD.out y (by rw [hz0]; simp [hy])); obtain ⟨i1, hi1⟩ : ∃ i1, i + 1 = i1 := ⟨_, rfl⟩; have HI1 := Ak hi1
    have bi1 : i1 ≤ 4503599627370496 := by have := HLEN.out; omega
    have wi1 : wrap64 ((i : Int) + 1) = (i1 : Int) := wadd (x := i) (y := 1) hi1 bi1; have wi12 : IntKind.i64.wrap ((i : Int) + 1) = (i1 : Int) := (i64_w _).trans wi1; clear hz0 hin hnext hlt ST hi1 bi1; go_wp2
    go_loopw [9] (fun v9 w' => ∃ (j : Nat) (e : List Int), v9 = .int .i64 (j : Int) ∧ Aside0 (Kd.R (Kd.int .i64) 3 w' base ok (.slice (some ⟨go, 0, none⟩) len cap) e) ∧ Aside0 (W0.grownBy w' (some go)) ∧ Aside0 (InsSt κ a P A x (B ++ S) j e) ∧ Aside0 (j ≤ i))
      (fun v9 _ => (intOf v9).toNat)
    case atStart => exact ⟨i, e, rfl, HO, HG, IN, ⟨Nat.le_refl _⟩⟩
    case round =>
      clear HO HG IN; obtain ⟨j, e, rfl, HO, HG, IN, JL⟩ := hrel; obtain ⟨haj, hje, hx⟩ := IN.out.here (0 : Int); have hlen := row_len HO.out; have hjl := JL.out; have hil := HLT.out; have hll := HLEN.out
      by_cases hj : a < j
      rotate_left
      · have q1 := eq_false (show ¬ (a : Int) < (j : Int) by omega); have q2 := eq_false hj; have STO := Ak (NX.out e (IN.out.stop (0 : Int) (.inl (by omega)))); clear haj hje hx hlen hjl hil hll hj; go_wp2; replace HO := Ak (Kd.R_drew HO.out); replace HG := Ak (grown_drew HG.out); refine sq 17 (S := fun w' => True) (ds := []) trivial fun hHeld => ?_; generalize wr.drew = wd at HO HG hHeld ⊢; refine pq 0 18 ?_; refine pq 1 19 ?_; refine pq 2 20 ?_; refine pq 3 21 ?_; refine pure_ (i := 4) (N := some 22) (v := undef) (a' := ?_) #[true, true, true, true, true, false, false, false, false, false, false, false, false, false, false, false, false] rfl rfl (by kernel_rfl) (fun _ _ _ h => h) (Or.inr ⟨by rfl, rfl⟩) ?_ ?_; rotate_left
        · simp only [Act.put, List.setIfInBounds_toArray, List.set_cons_zero, List.set_cons_succ, i64_w, i32_w, u8_w]
          rfl
        refine pure_ (i := 5) (N := some 23) (v := undef) (a' := ?_) #[true, true, true, true, true, true, false, false, false, false, false, false, false, false, false, false, false] rfl rfl (by kernel_rfl) (fun _ _ _ h => h) (Or.inr ⟨by rfl, rfl⟩) ?_ ?_; rotate_left
        · simp only [Act.put, List.setIfInBounds_toArray, List.set_cons_zero, List.set_cons_succ, i64_w, i32_w, u8_w]
          rfl
        refine pure_ (i := 6) (N := some 24) (v := undef) (a' := ?_) #[true, true, true, true, true, true, true, false, false, false, false, false, false, false, false, false, false] rfl rfl (by kernel_rfl) (fun _ _ _ h => h) (Or.inr ⟨by rfl, rfl⟩) ?_ ?_; rotate_left
        · simp only [Act.put, List.setIfInBounds_toArray, List.set_cons_zero, List.set_cons_succ, i64_w, i32_w, u8_w]
          rfl
        refine pure_ (i := 7) (N := some 25) (v := undef) (a' := ?_) #[true, true, true, true, true, true, true, true, false, false, false, false, false, false, false, false, false] rfl rfl (by kernel_rfl) (fun _ _ _ h => h) (Or.inr ⟨by rfl, rfl⟩) ?_ ?_; rotate_left
        · simp only [Act.put, List.setIfInBounds_toArray, List.set_cons_zero, List.set_cons_succ, i64_w, i32_w, u8_w]
          rfl
        refine pure_ (i := 8) (N := some 26) (v := undef) (a' := ?_) #[true, true, true, true, true, true, true, true, true, false, false, false, false, false, false, false, false] rfl rfl (by kernel_rfl) (fun _ _ _ h => h) (Or.inr ⟨by rfl, rfl⟩) ?_ ?_; rotate_left
        · simp only [Act.put, List.setIfInBounds_toArray, List.set_cons_zero, List.set_cons_succ, i64_w, i32_w, u8_w]
          rfl
        refine pure_ (i := 9) (N := some 27) (v := undef) (a' := ?_) #[true, true, true, true, true, true, true, true, true, true, false, false, false, false, false, false, false] rfl rfl (by kernel_rfl) (fun _ _ _ h => h) (Or.inr ⟨by rfl, rfl⟩) ?_ ?_; rotate_left
        · simp only [Act.put, List.setIfInBounds_toArray, List.set_cons_zero, List.set_cons_succ, i64_w, i32_w, u8_w]
          rfl
        refine pure_ (i := 10) (N := some 28) (v := undef) (a' := ?_) #[true, true, true, true, true, true, true, true, true, true, true, false, false, false, false, false, false] rfl rfl (by kernel_rfl) (fun _ _ _ h => h) (Or.inr ⟨by rfl, rfl⟩) ?_ ?_; rotate_left
        · simp only [Act.put, List.setIfInBounds_toArray, List.set_cons_zero, List.set_cons_succ, i64_w, i32_w, u8_w]
          rfl
        refine pure_ (i := 11) (N := some 29) (v := undef) (a' := ?_) #[true, true, true, true, true, true, true, true, true, true, true, true, false, false, false, false, false] rfl rfl (by kernel_rfl) (fun _ _ _ h => h) (Or.inr ⟨by rfl, rfl⟩) ?_ ?_; rotate_left
        · simp only [Act.put, List.setIfInBounds_toArray, List.set_cons_zero, List.set_cons_succ, i64_w, i32_w, u8_w]
          rfl
        refine pure_ (i := 12) (N := some 30) (v := undef) (a' := ?_) #[true, true, true, true, true, true, true, true, true, true, true, true, true, false, false, false, false] rfl rfl (by kernel_rfl) (fun _ _ _ h => h) (Or.inr ⟨by rfl, rfl⟩) ?_ ?_; rotate_left
        · simp only [Act.put, List.setIfInBounds_toArray, List.set_cons_zero, List.set_cons_succ, i64_w, i32_w, u8_w]
          rfl
        refine pure_ (i := 13) (N := some 31) (v := undef) (a' := ?_) #[true, true, true, true, true, true, true, true, true, true, true, true, true, true, false, false, false] rfl rfl (by kernel_rfl) (fun _ _ _ h => h) (Or.inr ⟨by rfl, rfl⟩) ?_ ?_; rotate_left
        · simp only [Act.put, List.setIfInBounds_toArray, List.set_cons_zero, List.set_cons_succ, i64_w, i32_w, u8_w]
          rfl
        refine pure_ (i := 14) (N := some 32) (v := undef) (a' := ?_) #[true, true, true, true, true, true, true, true, true, true, true, true, true, true, true, false, false] rfl rfl (by kernel_rfl) (fun _ _ _ h => h) (Or.inr ⟨by rfl, rfl⟩) ?_ ?_; rotate_left
        · simp only [Act.put, List.setIfInBounds_toArray, List.set_cons_zero, List.set_cons_succ, i64_w, i32_w, u8_w]
          rfl
        refine pure_ (i := 15) (N := some 33) (v := undef) (a' := ?_) #[true, true, true, true, true, true, true, true, true, true, true, true, true, true, true, true, false] rfl rfl (by kernel_rfl) (fun _ _ _ h => h) (Or.inr ⟨by rfl, rfl⟩) ?_ ?_; rotate_left
        · simp only [Act.put, List.setIfInBounds_toArray, List.set_cons_zero, List.set_cons_succ, i64_w, i32_w, u8_w]
          rfl
        refine pq 16 34 ?_; refine dq ?_; go_wp2
        go_roundw
        case rel => exact ⟨i1, e, rfl, HO, HG, by rw [← HI1.out]; exact STO⟩
        case measure => have h1 := HI1.out; have h2 := HLT.out; simp [intOf]; omega
      have q1 := eq_true (show (a : Int) < (j : Int) by omega); have q2 := eq_true hj; obtain ⟨jp, hjp⟩ : ∃ jp, j = jp + 1 := ⟨j - 1, by omega⟩
      have hjp1 : j - 1 = jp := by omega
      have hbj : jp + 1 = j := hjp.symm
      have bj : j ≤ 4503599627370496 := by omega
      have LJ := Ak (show j < len by omega); have LP := Ak (show jp < len by omega); have pj := eq_true (show (0 : Int) ≤ (j : Int) by omega); have pj1 := eq_true (show (j : Int) < (len : Int) by omega); have pj2 := eq_true (show j < len by omega); have pp := eq_true (show (0 : Int) ≤ (jp : Int) by omega); have pp1 := eq_true (show (jp : Int) < (len : Int) by omega); have pp2 := eq_true (show jp < len by omega); have hbf := IN.out.before hj (0 : Int); rw [hjp1] at hbf; obtain ⟨y, hy⟩ : ∃ y, e.getD jp 0 = y := ⟨_, rfl⟩; have DY := Ak (show Dm y from DA.out y (hy ▸ hbf)); have RX := Ak (show rd e (j : Int) = x from hx); have RY := Ak (show rd e (jp : Int) = y from hy); have STP := Ak (fun h : κ x < κ y => (show InsSt κ a P A x (B ++ S) jp (swp 0 e j jp) from by have := IN.out.step hj (0 : Int) (by rw [hjp1, hy]; exact h); rwa [hjp1] at this)); have STO := Ak (fun h : ¬ κ x < κ y => NX.out e (IN.out.stop (0 : Int) (.inr (by rw [hjp1, hy]; exact h)))); have JPL := Ak (show jp ≤ i ∧ jp < j by omega); have wj : wrap64 ((j : Int) - 1) = (jp : Int) := wsub (x := j) (y := 1) (by omega) bj; have wj2 : IntKind.i64.wrap ((j : Int) - 1) = (jp : Int) := (i64_w _).trans wj; clear haj hje hx hlen hjl hil hll hj hjp hjp1 hbj bj hbf hy; go_wp2; replace HO := Ak (Kd.R_drew HO.out); replace HG := Ak (grown_drew HG.out); have HX0 := Ak (show wr.drew.cell? ⟨go, j, none⟩ = some (.int .i64 x) from by have h := (row_at HO.out j LJ.out).1; rwa [RX.out] at h); have HY0 := Ak (show wr.drew.cell? ⟨go, jp, none⟩ = some (.int .i64 y) from by have h := (row_at HO.out jp LP.out).1; rwa [RY.out] at h); refine sq 17 (S := fun w' => w'.cell? ⟨go, j, none⟩ = some (.int .i64 x) ∧ w'.cell? ⟨go, jp, none⟩ = some (.int .i64 y)) (ds := []) ⟨HX0.out, HY0.out⟩ fun hHeld => ?_; generalize wr.drew = wd at HO HG HX0 HY0 hHeld ⊢; refine pq 0 18 ?_; refine pq 1 19 ?_; refine pq 2 20 ?_; refine pq 3 21 ?_; refine pq 4 22 ?_; refine pq 5 23 ?_; refine pq 6 24 ?_; refine pq 7 25 ?_; refine pq 9 27 ?_; refine pq 10 28 ?_; refine pq 11 29 ?_; refine pq 12 30 ?_; refine tq 8 26 ?_ hHeld; refine tq 13 31 ?_ hHeld; refine oq 14 32 fun K hK => ?_; refine goesC_ Tryz.func90 (by kernel_rfl) rfl (x := (.tmp 22)) (lb := #[.pointer (some ⟨g3, 0, none⟩)]) #[.int .i64 x, .int .i64 y] (by rfl) rfl rfl rfl (by simp only [List.map_toArray, List.map_cons, List.map_nil]; rfl) (all := #[.int .i64 x, .int .i64 y, .pointer (some ⟨g3, 0, none⟩)]) rfl ?_
      with_reducible refine (HC.out.call HG.out DX.out DY.out).mono ?_
      rintro e w5 ⟨zz, rfl, hz, hd⟩; refine ⟨_, rfl, ?_⟩; obtain ⟨nd, rfl⟩ := hd.out; have HZ := Ak hz; clear hd hz; refine hK.out _ _ ⟨HX0.out, HY0.out⟩ (fun hHeld => ?_); clear hK K; refine nq 32 ?_; refine pq 15 33 ?_; refine pq 16 34 ?_; refine dq ?_; have HO5 := Ak (Kd.R_drewN HO.out nd); have HG5 := Ak (grown_drawn HG.out ⟨⟨nd, rfl⟩⟩); clear HO HG HX0 HY0 hHeld; generalize wd.drewN nd = we at HO5 HG5 ⊢
      by_cases hzz : zz < 0
      rotate_left
      · have z1 := eq_false hzz; have z2 : decide (zz < 0) = false := decide_eq_false hzz; have STO2 : Aside0 (OutSt κ a P Z0 S (i + 1) e) := ⟨by exact STO.out (Int.not_lt.1 (fun h => hzz (HZ.out.2 h)))⟩; rw [z2]; clear hzz HZ STP STO; go_wp2
        go_roundw
        case rel => exact ⟨i1, e, rfl, HO5, HG5, by rw [← HI1.out]; exact STO2⟩
        case measure => have h1 := HI1.out; have h2 := HLT.out; simp [intOf]; omega
      have z1 := eq_true hzz; have z2 : decide (zz < 0) = true := decide_eq_true hzz; have STP2 := Ak (STP.out (HZ.out.1 hzz)); rw [z2]; clear hzz HZ STP STO; go_wp2; have HX6 := Ak (show we.drew.cell? ⟨go, j, none⟩ = some (.int .i64 x) from by have h := (row_at HO5.out j LJ.out).1; rwa [RX.out] at h); have HY6 := Ak (show we.drew.cell? ⟨go, jp, none⟩ = some (.int .i64 y) from by have h := (row_at HO5.out jp LP.out).1; rwa [RY.out] at h); replace HO5 := Ak (Kd.R_drew HO5.out); replace HG5 := Ak (grown_drew HG5.out); refine sq 18 (S := fun w' => w'.cell? ⟨go, jp, none⟩ = some (.int .i64 y) ∧ w'.cell? ⟨go, j, none⟩ = some (.int .i64 x)) (ds := [15, 17]) ⟨HY6.out, HX6.out⟩ fun hHeld => ?_; generalize we.drew = wf at HO5 HG5 HX6 HY6 hHeld ⊢; refine pq 0 37 ?_; refine pq 1 38 ?_; refine pq 2 39 ?_; refine pq 3 40 ?_; refine pq 4 41 ?_; refine pq 5 42 ?_; refine pq 6 43 ?_; refine pq 7 44 ?_; refine pq 8 45 ?_; refine pq 10 47 ?_; refine pq 11 48 ?_; refine pq 12 49 ?_; refine tq 9 46 ?_ hHeld; refine tq 13 50 ?_ hHeld; refine pq 14 51 ?_; refine lq 15 fun K hK => ?_; have hz := HX6.out; have hf := (row_at HO5.out j LJ.out).2; refine skip_ (w1 := ?_) (by rfl) rfl ?_ ?_; rotate_left
      · go_simp
        rfl
      refine hK.out _ _ ?_; clear hK K; refine pq 16 52 ?_; refine lq 17 fun K hK => ?_; obtain ⟨hz2, hf2⟩ := row_at (row_put HO5.out j y).1 jp LP.out; refine skip_ (w1 := ?_) (by rfl) rfl ?_ ?_; rotate_left
      · go_simp
        rfl
      refine hK.out _ _ ?_; clear hK K; refine dq ?_; have h1 := row_put HO5.out j y; have h2 := row_put h1.1 jp x; have HO7 := Ak (show Kd.R (Kd.int .i64) 3 ((wf.setCell ⟨go, j, none⟩ (Value.int IntKind.i64 y)).setCell ⟨go, jp, none⟩ (Value.int IntKind.i64 x)) base ok (.slice (some ⟨go, 0, none⟩) len cap) (swp 0 e j jp) from by rw [show swp 0 e j jp = (e.set j y).set jp x from by (show (e.set j (rd e (jp : Int))).set jp (rd e (j : Int)) = _); rw [RX.out, RY.out]]; exact h2.1); have HG7 := Ak (grown_trans (grown_trans HG5.out h1.2) h2.2); clear h1 h2 HO5 HG5 hz hf hz2 hf2 hHeld HX6 HY6; generalize ((wf.setCell ⟨go, j, none⟩ (Value.int IntKind.i64 y)).setCell ⟨go, jp, none⟩ (Value.int IntKind.i64 x)) = wx at HO7 HG7 ⊢; go_wp2
      go_roundw
      case rel => exact ⟨jp, _, rfl, HO7, HG7, STP2, ⟨JPL.out.1⟩⟩
      case measure => have h1 := JPL.out.2; simp [intOf]; omega
end
end Go.Proofs.YtgflkkjhckcipaaGreatDoor.Hu

