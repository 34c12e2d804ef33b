-- Texts by hand and by programs of this session, joined (wip/tool/merge.py).
import Derived.Test.YthcndpdfcippiaaMHuffBW10
import Derived.Test.YthcndpdfcippiaaMHuffBW4
import Derived.Test.YthcndpdfcippiaaMHuffBW5
import Derived.Test.YthcndpdfcippiaaMHuffBW6
import Derived.Test.YthcndpdfcippiaaMHuffBW7
import Derived.Test.YthcndpdfcippiaaMHuffBW8
-- YthcndpdfcippiaaSo6
namespace Go.Proofs.Ythcndpdfcippiaa.Hu
open Go.RowKit Go.Shelf Go.Proofs.YthcndpdfcippiaaW.PrintWords Go.Proofs.YthcndpdfcippiaaW.PrintLast Go.Proofs.YthcndpdfcippiaaW.PrintMore
set_option linter.unusedVariables false
set_option linter.unusedSimpArgs false
/-! ### Blocks that are sorted, and merged two by two -/
section
variable {α : Type} {κ : α → Int}
def Bks (κ : α → Int) (s : Nat) (bs : List (List α)) : Prop := ∀ b ∈ bs, Srt κ b ∧ b.length = s
theorem Bks.len {s : Nat} : ∀ {bs : List (List α)}, Bks κ s bs → bs.flatten.length = bs.length * s
  | [], _ => by simp
  | b :: bs, h => by
    rw [List.flatten_cons, List.length_append, Bks.len (fun x hx => h x (List.mem_cons_of_mem _ hx)), (h b (List.mem_cons_self ..)).2, List.length_cons, Nat.add_one_mul]
    omega
theorem Bks.snoc {s : Nat} {bs : List (List α)} {Z : List α} (h : Bks κ s bs) (hz : Srt κ Z) (hl : Z.length = s) : Bks κ s (bs ++ [Z]) := by
  intro b hb
  rcases List.mem_append.1 hb with hb | hb
  · exact h b hb
  · rw [List.mem_singleton] at hb; subst hb; exact ⟨hz, hl⟩
theorem flat_snoc (bs : List (List α)) (Z : List α) : (bs ++ [Z]).flatten = bs.flatten ++ Z := by simp
/-- The first a are sorted in blocks of s. -/
def In1 (κ : α → Int) (s : Nat) (d0 : List α) (a : Nat) (e : List α) : Prop := ∃ bs S, e = bs.flatten ++ S ∧ Bks κ s bs ∧ bs.flatten.length = a ∧ Stb κ d0 e
/-- All are sorted in blocks of s, the last one of fewer. -/
def Out1 (κ : α → Int) (s : Nat) (d0 : List α) (e : List α) : Prop := ∃ bs Z, e = bs.flatten ++ Z ∧ Bks κ s bs ∧ Srt κ Z ∧ Z.length < s ∧ Stb κ d0 e
/-- The first a are sorted in blocks of 2 s, what is behind them in blocks of s. -/
def In2 (κ : α → Int) (s : Nat) (d0 : List α) (a : Nat) (e : List α) : Prop := ∃ cs bs Z, e = cs.flatten ++ (bs.flatten ++ Z) ∧ Bks κ (2 * s) cs ∧ Bks κ s bs ∧ Srt κ Z ∧ Z.length < s ∧ cs.flatten.length = a ∧ Stb κ d0 e
theorem In1.start (s : Nat) (d : List α) : In1 κ s d 0 d := ⟨[], d, rfl, (fun b hb => nomatch hb), rfl, Stb.refl d⟩
theorem In1.le {s a : Nat} {d0 e : List α} (h : In1 κ s d0 a e) : a ≤ e.length := by
  obtain ⟨bs, S, rfl, hb, ha, ht⟩ := h
  rw [List.length_append]; omega
theorem In1.step {s a : Nat} {d0 e : List α} (h : In1 κ s d0 a e) (hl : a + s ≤ e.length) : ∃ P Z0 S, e = P ++ Z0 ++ S ∧ P.length = a ∧ Z0.length = s ∧ (∀ x ∈ Z0, x ∈ d0) ∧ ∀ Z, Srt κ Z → Stb κ Z0 Z → In1 κ s d0 (a + s) (P ++ Z ++ S) := by
  obtain ⟨bs, S, rfl, hb, ha, ht⟩ := h
  rw [List.length_append] at hl
  obtain ⟨Z0, S', rfl, hz⟩ : ∃ Z0 S', S = Z0 ++ S' ∧ Z0.length = s := ⟨S.take s, S.drop s, (List.take_append_drop s S).symm, by rw [List.length_take]; omega⟩
  refine ⟨bs.flatten, Z0, S', by simp, ha, hz, fun x hx => (ht.mem x).1 (by simp [hx]), fun Z s1 b1 => ⟨bs ++ [Z], S', by simp, hb.snoc s1 (b1.len.trans hz), by rw [flat_snoc, List.length_append, b1.len]; omega, ht.trans ?_⟩⟩
  rw [List.append_assoc]
  exact (Stb.refl _).app (b1.app (Stb.refl _))
theorem In1.last {s a : Nat} {d0 e : List α} (h : In1 κ s d0 a e) (hl : e.length < a + s) : ∃ P Z0, e = P ++ Z0 ++ [] ∧ P.length = a ∧ a + Z0.length = e.length ∧ (∀ x ∈ Z0, x ∈ d0) ∧ ∀ Z, Srt κ Z → Stb κ Z0 Z → Out1 κ s d0 (P ++ Z ++ []) := by
  obtain ⟨bs, S, rfl, hb, ha, ht⟩ := h
  rw [List.length_append] at hl
  refine ⟨bs.flatten, S, by simp, ha, by rw [List.length_append]; omega, fun x hx => (ht.mem x).1 (by simp [hx]), fun Z s1 b1 => ⟨bs, Z, by simp, hb, s1, by rw [b1.len]; omega, ht.trans ?_⟩⟩
  rw [List.append_nil]
  exact (Stb.refl _).app b1
theorem Out1.done {s : Nat} {d0 e : List α} (h : Out1 κ s d0 e) (hl : e.length ≤ s) : Srt κ e ∧ Stb κ d0 e := by
  obtain ⟨bs, Z, rfl, hb, hz, hs, ht⟩ := h
  refine ⟨?_, ht⟩
  cases bs with
  | nil => exact hz
  | cons x bs =>
    have h1 := (hb x (List.mem_cons_self ..))
    rw [List.flatten_cons, List.length_append, List.length_append, h1.2] at hl
    obtain rfl : Z = [] := List.eq_nil_of_length_eq_zero (by omega)
    have : bs.flatten = [] := List.eq_nil_of_length_eq_zero (by omega)
    rw [List.flatten_cons, this, List.append_nil, List.append_nil]
    exact h1.1
theorem In2.start {s : Nat} {d0 e : List α} (h : Out1 κ s d0 e) : In2 κ s d0 0 e := by
  obtain ⟨bs, Z, rfl, hb, hz, hs, ht⟩ := h
  exact ⟨[], bs, Z, rfl, (fun b hb => nomatch hb), hb, hz, hs, rfl, ht⟩
theorem In2.le {s a : Nat} {d0 e : List α} (h : In2 κ s d0 a e) : a ≤ e.length := by
  obtain ⟨cs, bs, Z, rfl, hc, hb, hz, hs, ha, ht⟩ := h
  rw [List.length_append]; omega
theorem In2.step {s a : Nat} {d0 e : List α} (h : In2 κ s d0 a e) (hl : a + 2 * s ≤ e.length) : ∃ P L R S, e = P ++ L ++ R ++ S ∧ P.length = a ∧ L.length = s ∧ R.length = s ∧ Srt κ L ∧ Srt κ R ∧ (∀ x ∈ L, x ∈ d0) ∧ (∀ x ∈ R, x ∈ d0) ∧ ∀ Z, Srt κ Z → Stb κ (L ++ R) Z → In2 κ s d0 (a + 2 * s) (P ++ Z ++ S) := by
  obtain ⟨cs, bs, Z, rfl, hc, hb, hz, hs, ha, ht⟩ := h
  rw [List.length_append, List.length_append, hb.len, ha] at hl
  match bs, hb, ht, hl with
  | [], hb, ht, hl => simp at hl; omega
  | [x], hb, ht, hl => simp at hl; omega
  | x :: y :: bs, hb, ht, hl =>
    have hx := hb x (List.mem_cons_self ..)
    have hy := hb y (List.mem_cons_of_mem _ (List.mem_cons_self ..))
    refine ⟨cs.flatten, x, y, bs.flatten ++ Z, by simp, ha, hx.2, hy.2, hx.1, hy.1, fun z hz => (ht.mem z).1 (by simp [hz]), fun z hz => (ht.mem z).1 (by simp [hz]), fun V s1 b1 =>
      ⟨cs ++ [V], bs, Z, by simp, hc.snoc s1 (by rw [b1.len, List.length_append]; omega), fun b hb' => hb b (List.mem_cons_of_mem _ (List.mem_cons_of_mem _ hb')), hz, hs, by rw [flat_snoc, List.length_append, b1.len, List.length_append]; omega, ht.trans ?_⟩⟩
    have := (Stb.refl (κ := κ) cs.flatten).app (b1.app (Stb.refl (κ := κ) (bs.flatten ++ Z)))
    simpa using this
theorem In2.merge {s a : Nat} {d0 e : List α} (h : In2 κ s d0 a e) (h1 : e.length < a + 2 * s) (h2 : a + s < e.length) : ∃ P L R, e = P ++ L ++ R ++ [] ∧ P.length = a ∧ L.length = s ∧ 1 ≤ R.length ∧ a + s + R.length = e.length ∧ Srt κ L ∧ Srt κ R ∧ (∀ x ∈ L, x ∈ d0) ∧ (∀ x ∈ R, x ∈ d0) ∧ ∀ Z, Srt κ Z → Stb κ (L ++ R) Z → Out1 κ (2 * s) d0 (P ++ Z ++ []) := by
  obtain ⟨cs, bs, Z, rfl, hc, hb, hz, hs, ha, ht⟩ := h
  rw [List.length_append, List.length_append, hb.len, ha] at h1 h2
  match bs, hb, ht, h1, h2 with
  | [], hb, ht, h1, h2 => simp at h2; omega
  | x :: y :: bs, hb, ht, h1, h2 => simp only [List.length_cons, Nat.add_one_mul] at h1; omega
  | [x], hb, ht, h1, h2 =>
    have hx := hb x (List.mem_cons_self ..)
    simp only [List.length_cons, List.length_nil, Nat.zero_add, Nat.one_mul] at h1 h2
    refine ⟨cs.flatten, x, Z, by simp, ha, hx.2, by omega, by simp only [List.length_append, List.flatten_cons, List.flatten_nil, List.append_nil, hx.2]; omega, hx.1, hz, fun z hz => (ht.mem z).1 (by simp [hz]), fun z hz => (ht.mem z).1 (by simp [hz]), fun V s1 b1 =>
      ⟨cs, V, by simp, hc, s1, by rw [b1.len, List.length_append]; omega, ht.trans ?_⟩⟩
    have := (Stb.refl (κ := κ) cs.flatten).app b1
    simpa using this
theorem In2.rest {s a : Nat} {d0 e : List α} (h : In2 κ s d0 a e) (h1 : e.length < a + 2 * s) (h2 : ¬ a + s < e.length) : Out1 κ (2 * s) d0 e := by
  obtain ⟨cs, bs, Z, rfl, hc, hb, hz, hs, ha, ht⟩ := h
  rw [List.length_append, List.length_append, hb.len, ha] at h1 h2
  match bs, hb, ht, h1, h2 with
  | [], hb, ht, h1, h2 => exact ⟨cs, Z, by simp, hc, hz, by omega, ht⟩
  | x :: y :: bs, hb, ht, h1, h2 => simp only [List.length_cons, Nat.add_one_mul] at h1; omega
  | [x], hb, ht, h1, h2 =>
    have hx := hb x (List.mem_cons_self ..)
    simp only [List.length_cons, List.length_nil, Nat.zero_add, Nat.one_mul] at h1 h2
    obtain rfl : Z = [] := List.eq_nil_of_length_eq_zero (by omega)
    exact ⟨cs, x, by simp, hc, hx.1, by omega, ht⟩
end
theorem wmul2 {x z : Nat} (h : 2 * x = z) (hx : z ≤ 4503599627370496) : wrap64 (2 * (x : Int)) = (z : Int) := by unfold wrap64; omega
section
attribute [local go_sem] Oper.semAt_some
set_option maxHeartbeats 8000000 in
set_option maxRecDepth 100000 in
theorem insertion_none (g3 go base len cap a : Nat) (ok : Nat → Prop) (d : List Int) (W0 : World) (hR : Kd.R (Kd.int .i64) 3 W0 base ok (.slice (some ⟨go, 0, none⟩) len cap) d) (hal : a ≤ len) (hl : len ≤ 1048576) :
    Calls Try.prog 50 #[.slice (some ⟨go, 0, none⟩) len cap, .int .i64 (a : Int), .int .i64 (a : Int), .func (.func 45) #[] #[.pointer (some ⟨g3, 0, none⟩)]] W0 fun e W' => e = .returned (.tuple #[]) ∧ Kd.R (Kd.int .i64) 3 W' base ok (.slice (some ⟨go, 0, none⟩) len cap) d ∧ W0.grownBy W' (some go) := by
  have HO := Aside0.mk hR
  have HG := Aside0.mk (World.grownBy.refl W0 (some go))
  obtain ⟨i0, hi0⟩ : ∃ i0, a + 1 = i0 := ⟨_, rfl⟩
  have HI := Aside0.mk hi0
  have bi0 : i0 ≤ 4503599627370496 := by omega
  have wa : wrap64 ((a : Int) + 1) = (i0 : Int) := wadd (x := a) (y := 1) hi0 bi0
  have wa2 : IntKind.i64.wrap ((a : Int) + 1) = (i0 : Int) := (i64_w _).trans wa
  clear hR hi0 bi0 hal hl
  go_enter Try.func50, Try.ntmps50
  go_wp2
  go_loopw [8] (fun v8 w' => v8 = .int .i64 (i0 : Int) ∧ Aside0 (Kd.R (Kd.int .i64) 3 w' base ok (.slice (some ⟨go, 0, none⟩) len cap) d) ∧ Aside0 (W0.grownBy w' (some go))) (fun v8 _ => 0)
  case atStart => exact ⟨rfl, HO, HG⟩
  case round =>
    clear HO HG wa wa2
    obtain ⟨rfl, HO, HG⟩ := hrel
    have q0 := eq_false (show ¬ (i0 : Int) < (a : Int) by have := HI.out; omega)
    have q00 := eq_false (show ¬ i0 < a by have := HI.out; omega)
    go_wp2
    go_end0
    exact ⟨rfl, HO.out, HG.out⟩
theorem insertion_any (κ : Int → Int) (Dm : Int → Prop) (g3 go base len cap a b : Nat) (ok : Nat → Prop) (P Z0 S : List Int) (W0 : World) (hR : Kd.R (Kd.int .i64) 3 W0 base ok (.slice (some ⟨go, 0, none⟩) len cap) (P ++ Z0 ++ S)) (ha : P.length = a) (hb : a + Z0.length = b) (hl : len ≤ 1048576) (hD : ∀ x ∈ Z0, Dm x) (hC : CmpOk κ Dm g3 go W0) :
    Calls Try.prog 50 #[.slice (some ⟨go, 0, none⟩) len cap, .int .i64 (a : Int), .int .i64 (b : Int), .func (.func 45) #[] #[.pointer (some ⟨g3, 0, none⟩)]] W0 fun e W' => e = .returned (.tuple #[]) ∧ (∃ Z, Srt κ Z ∧ Stb κ Z0 Z ∧ Kd.R (Kd.int .i64) 3 W' base ok (.slice (some ⟨go, 0, none⟩) len cap) (P ++ Z ++ S)) ∧ W0.grownBy W' (some go) := by
  cases Z0 with
  | cons x Z0 => exact insertion_calls κ Dm g3 go base len cap a b ok P (x :: Z0) S W0 hR ha hb (by simp) hl hD hC
  | nil =>
    have hlen := row_len hR
    rw [List.length_append, List.length_append] at hlen
    obtain rfl : a = b := by simpa using hb
    refine (insertion_none g3 go base len cap a ok _ W0 hR (by omega) hl).mono ?_
    rintro e w ⟨rfl, h1, h2⟩
    exact ⟨rfl, ⟨[], List.Pairwise.nil, Stb.refl _, h1⟩, h2⟩
set_option maxHeartbeats 16000000 in
set_option maxRecDepth 100000 in
theorem stable_calls (κ : Int → Int) (Dm : Int → Prop) (g3 go base len cap : Nat) (ok : Nat → Prop) (d : List Int) (W0 : World) (hR : Kd.R (Kd.int .i64) 3 W0 base ok (.slice (some ⟨go, 0, none⟩) len cap) d) (hl : len ≤ 1048576) (hD : ∀ x ∈ d, Dm x) (hC : CmpOk κ Dm g3 go W0) (hS : ∀ a m b : Nat, SymOk κ Dm g3 go base len cap ok a m b) :
    Calls Try.prog 49 #[.slice (some ⟨go, 0, none⟩) len cap, .int .i64 (len : Int), .func (.func 45) #[] #[.pointer (some ⟨g3, 0, none⟩)]] W0 fun e W' => e = .returned (.tuple #[]) ∧ (∃ Z, Srt κ Z ∧ Stb κ d Z ∧ Kd.R (Kd.int .i64) 3 W' base ok (.slice (some ⟨go, 0, none⟩) len cap) Z) ∧ W0.grownBy W' (some go) := by
  have HO := Aside0.mk hR
  have HG := Aside0.mk (World.grownBy.refl W0 (some go))
  have HLEN := Aside0.mk hl
  have HD := Aside0.mk hD
  have HC := Aside0.mk hC
  have HS := Aside0.mk hS
  have ST := Aside0.mk (In1.start (κ := κ) 20 d)
  clear hR hl hD hC hS
  go_enter Try.func49, Try.ntmps49
  go_wp2
  go_loopw [7, 8] (fun v7 v8 w' => ∃ (a b : Nat) (e : List Int), v7 = .int .i64 (a : Int) ∧ v8 = .int .i64 (b : Int) ∧ Aside0 (a + 20 = b) ∧ Aside0 (Kd.R (Kd.int .i64) 3 w' base ok (.slice (some ⟨go, 0, none⟩) len cap) e) ∧ Aside0 (W0.grownBy w' (some go)) ∧ Aside0 (In1 κ 20 d a e))
    (fun _ v8 _ => len + 1 - (intOf v8).toNat)
  case atStart => exact ⟨0, 20, d, by simp, by simp, ⟨by omega⟩, HO, HG, ST⟩
  case round =>
    clear HO HG ST
    obtain ⟨a, b, e, rfl, rfl, HAB, HO, HG, ST⟩ := hrel
    have hab := HAB.out
    have hlen := HLEN.out
    have hel := row_len HO.out
    by_cases hbl : b ≤ len
    · have q0 := eq_true (show (b : Int) ≤ (len : Int) by omega)
      have q00 := eq_true hbl
      obtain ⟨P, Z0, S, rfl, hP, hZ, hmem, hnext⟩ := ST.out.step (show a + 20 ≤ e.length by omega)
      obtain ⟨b2, hb2⟩ : ∃ b2, b + 20 = b2 := ⟨_, rfl⟩
      have bb2 : b2 ≤ 4503599627370496 := by omega
      have X1 := Aside0.mk hP
      have X2 := Aside0.mk (show a + Z0.length = b by omega)
      have X3 := Aside0.mk (show ∀ x ∈ Z0, Dm x from fun x hx => HD.out x (hmem x hx))
      have X4 := Aside0.mk (show ∀ Z, Srt κ Z → Stb κ Z0 Z → In1 κ 20 d b (P ++ Z ++ S) from hab ▸ hnext)
      have X5 := Aside0.mk (show b + 20 = b2 ∧ b ≤ len by omega)
      have wb2 : wrap64 ((b : Int) + 20) = (b2 : Int) := wadd (x := b) (y := 20) hb2 bb2
      have wb2q : IntKind.i64.wrap ((b : Int) + 20) = (b2 : Int) := (i64_w _).trans wb2
      clear hab hlen hel hbl hP hZ hmem hnext hb2 bb2 ST HAB
      go_wp2_with (go_at_call 50; refine (insertion_any κ Dm g3 go base len cap a b ok P Z0 S _ HO.out X1.out X2.out HLEN.out X3.out (HC.out.later HG.out)).mono ?_; rintro e_ w5 ⟨rfl, ⟨Z, y1, y2, ho⟩, hg⟩; have HO1 := Aside0.mk ho; have HG1 := Aside0.mk (grown_trans HG.out hg); have X6 := Aside0.mk (X4.out Z y1 y2); clear ho hg y1 y2)
      go_roundw
      case rel => exact ⟨b, b2, _, rfl, rfl, ⟨X5.out.1⟩, HO1, HG1, X6⟩
      case measure => have h1 := X5.out; simp [intOf]; omega
    · have q0 := eq_false (show ¬ (b : Int) ≤ (len : Int) by omega)
      have q00 := eq_false hbl
      obtain ⟨P, Z0, rfl, hP, hZ, hmem, hnext⟩ := ST.out.last (show e.length < a + 20 by omega)
      have X1 := Aside0.mk hP
      have X2 := Aside0.mk (show a + Z0.length = len by omega)
      have X3 := Aside0.mk (show ∀ x ∈ Z0, Dm x from fun x hx => HD.out x (hmem x hx))
      have X4 := Aside0.mk hnext
      clear hab hlen hel hbl hP hZ hmem hnext ST HAB
      go_wp2_with (go_at_call 50; refine (insertion_any κ Dm g3 go base len cap a len ok P Z0 [] _ HO.out X1.out X2.out HLEN.out X3.out (HC.out.later HG.out)).mono ?_; rintro e_ w5 ⟨rfl, ⟨Z, y1, y2, ho⟩, hg⟩; have HO1 := Aside0.mk ho; have HG1 := Aside0.mk (grown_trans HG.out hg); have X6 := Aside0.mk (X4.out Z y1 y2); clear ho hg y1 y2)
      clear HO HG
      go_loopw [6] (fun v6 w' => ∃ (s : Nat) (e : List Int), v6 = .int .i64 (s : Int) ∧ Aside0 (1 ≤ s) ∧ Aside0 (Kd.R (Kd.int .i64) 3 w' base ok (.slice (some ⟨go, 0, none⟩) len cap) e) ∧ Aside0 (W0.grownBy w' (some go)) ∧ Aside0 (Out1 κ s d e))
        (fun v6 _ => len + 1 - (intOf v6).toNat)
      case atStart => exact ⟨20, _, by simp, ⟨by omega⟩, HO1, HG1, X6⟩
      case round =>
        clear HO1 HG1 X6 X1 X2 X3 X4 q0 q00
        obtain ⟨s, e, rfl, HS1, HO, HG, ST⟩ := hrel
        have hs1 := HS1.out
        have hlen := HLEN.out
        have hel := row_len HO.out
        by_cases hsl : s < len
        · have q0 := eq_true (show (s : Int) < (len : Int) by omega)
          have q00 := eq_true hsl
          obtain ⟨s2, hs2⟩ : ∃ s2, 2 * s = s2 := ⟨_, rfl⟩
          have HS2 := Aside0.mk (show 2 * s = s2 ∧ s < len ∧ 1 ≤ s by omega)
          have ST2 := Aside0.mk (In2.start ST.out)
          have bs2 : s2 ≤ 4503599627370496 := by omega
          have ws2 : wrap64 (2 * (s : Int)) = (s2 : Int) := wmul2 hs2 bs2
          have ws2q : IntKind.i64.wrap (2 * (s : Int)) = (s2 : Int) := (i64_w _).trans ws2
          have ws3 : wrap64 ((s : Int) * 2) = (s2 : Int) := (congrArg wrap64 (Int.mul_comm _ _)).trans ws2
          have ws3q : IntKind.i64.wrap ((s : Int) * 2) = (s2 : Int) := (i64_w _).trans ws3
          have WS := Aside0.mk (And.intro ws2 ws3)
          clear hs1 hlen hel hsl hs2 bs2 ST
          go_wp2
          clear q0 q00 ws2 ws2q ws3 ws3q
          go_loopw [7, 8] (fun v7 v8 w' => ∃ (a b : Nat) (e : List Int), v7 = .int .i64 (a : Int) ∧ v8 = .int .i64 (b : Int) ∧ Aside0 (a + s2 = b) ∧ Aside0 (Kd.R (Kd.int .i64) 3 w' base ok (.slice (some ⟨go, 0, none⟩) len cap) e) ∧ Aside0 (W0.grownBy w' (some go)) ∧ Aside0 (In2 κ s d a e))
            (fun _ v8 _ => len + 1 - (intOf v8).toNat)
          case atStart => exact ⟨0, s2, e, by simp, rfl, ⟨by omega⟩, HO, HG, ST2⟩
          case round =>
            clear HO HG ST2
            obtain ⟨a, b, e, rfl, rfl, HAB, HO, HG, ST⟩ := hrel
            have hab := HAB.out
            have hlen := HLEN.out
            have hel := row_len HO.out
            have hss := HS2.out
            by_cases hbl : b ≤ len
            · have q0 := eq_true (show (b : Int) ≤ (len : Int) by omega)
              have q00 := eq_true hbl
              obtain ⟨P, L, R, S, rfl, hP, hL, hR, sL, sR, mL, mR, hnext⟩ := ST.out.step (show a + 2 * s ≤ e.length by omega)
              obtain ⟨m, hm⟩ : ∃ m, a + s = m := ⟨_, rfl⟩
              have bm : m ≤ 4503599627370496 := by omega
              obtain ⟨b2, hb2⟩ : ∃ b2, b + s2 = b2 := ⟨_, rfl⟩
              have bb2 : b2 ≤ 4503599627370496 := by omega
              have X1 := Aside0.mk hP.symm
              have X2 := Aside0.mk (show m = a + L.length by omega)
              have X3 := Aside0.mk (show b = m + R.length by omega)
              have X4 := Aside0.mk (show 1 ≤ L.length by omega)
              have X5 := Aside0.mk (show 1 ≤ R.length by omega)
              have X6 := Aside0.mk sL
              have X7 := Aside0.mk sR
              have X8 := Aside0.mk (show ∀ x ∈ L, Dm x from fun x hx => HD.out x (mL x hx))
              have X9 := Aside0.mk (show ∀ x ∈ R, Dm x from fun x hx => HD.out x (mR x hx))
              have XN := Aside0.mk (show ∀ Z, Srt κ Z → Stb κ (L ++ R) Z → In2 κ s d b (P ++ Z ++ S) from (show a + 2 * s = b by omega) ▸ hnext)
              have XB := Aside0.mk (show b + s2 = b2 ∧ b ≤ len ∧ 1 ≤ s2 by omega)
              have wam : wrap64 ((a : Int) + (s : Int)) = (m : Int) := wadd hm bm
              have wamq : IntKind.i64.wrap ((a : Int) + (s : Int)) = (m : Int) := (i64_w _).trans wam
              have wb2 : wrap64 ((b : Int) + (s2 : Int)) = (b2 : Int) := wadd hb2 bb2
              have wb2q : IntKind.i64.wrap ((b : Int) + (s2 : Int)) = (b2 : Int) := (i64_w _).trans wb2
              have ws2 := WS.out.1
              have ws2q : IntKind.i64.wrap (2 * (s : Int)) = (s2 : Int) := (i64_w _).trans ws2
              clear hab hlen hel hss hbl hP hL hR sL sR mL mR hnext hm bm hb2 bb2 ST HAB
              go_wp2_with (go_at_call 51; refine ((HS.out a m b).call P L R S _ HO.out X1.out X2.out X3.out X4.out X5.out X6.out X7.out HLEN.out X8.out X9.out (HC.out.later HG.out)).mono ?_; rintro e_ w5 ⟨rfl, ⟨Z, y1, y2, ho⟩, hg⟩; have HO1 := Aside0.mk ho; have HG1 := Aside0.mk (grown_trans HG.out hg); have XZ := Aside0.mk (XN.out Z y1 y2); clear ho hg y1 y2)
              go_roundw
              case rel => exact ⟨b, b2, _, rfl, rfl, ⟨XB.out.1⟩, HO1, HG1, XZ⟩
              case measure => have h1 := XB.out; simp [intOf]; omega
            · have q0 := eq_false (show ¬ (b : Int) ≤ (len : Int) by omega)
              have q00 := eq_false hbl
              obtain ⟨m, hm⟩ : ∃ m, a + s = m := ⟨_, rfl⟩
              have hal := ST.out.le
              have bm : m ≤ 4503599627370496 := by omega
              have XB := Aside0.mk (show s < s2 ∧ s < len ∧ 1 ≤ s2 by omega)
              by_cases hml : m < len
              · have q1 := eq_true (show (m : Int) < (len : Int) by omega)
                have q11 := eq_true hml
                obtain ⟨P, L, R, rfl, hP, hL, hR, hR2, sL, sR, mL, mR, hnext⟩ := ST.out.merge (show e.length < a + 2 * s by omega) (show a + s < e.length by omega)
                have X1 := Aside0.mk hP.symm
                have X2 := Aside0.mk (show m = a + L.length by omega)
                have X3 := Aside0.mk (show len = m + R.length by omega)
                have X4 := Aside0.mk (show 1 ≤ L.length by omega)
                have X5 := Aside0.mk hR
                have X6 := Aside0.mk sL
                have X7 := Aside0.mk sR
                have X8 := Aside0.mk (show ∀ x ∈ L, Dm x from fun x hx => HD.out x (mL x hx))
                have X9 := Aside0.mk (show ∀ x ∈ R, Dm x from fun x hx => HD.out x (mR x hx))
                have XN := Aside0.mk (show ∀ Z, Srt κ Z → Stb κ (L ++ R) Z → Out1 κ s2 d (P ++ Z ++ []) from hss.1 ▸ hnext)
                have wam : wrap64 ((a : Int) + (s : Int)) = (m : Int) := wadd hm bm
                have wamq : IntKind.i64.wrap ((a : Int) + (s : Int)) = (m : Int) := (i64_w _).trans wam
                have ws3 := WS.out.2
                have ws3q : IntKind.i64.wrap ((s : Int) * 2) = (s2 : Int) := (i64_w _).trans ws3
                clear hab hlen hel hss hbl hP hL hR hR2 sL sR mL mR hnext hm bm hml hal ST HAB
                go_wp2_with (go_at_call 51; refine ((HS.out a m len).call P L R [] _ HO.out X1.out X2.out X3.out X4.out X5.out X6.out X7.out HLEN.out X8.out X9.out (HC.out.later HG.out)).mono ?_; rintro e_ w5 ⟨rfl, ⟨Z, y1, y2, ho⟩, hg⟩; have HO1 := Aside0.mk ho; have HG1 := Aside0.mk (grown_trans HG.out hg); have XZ := Aside0.mk (XN.out Z y1 y2); clear ho hg y1 y2)
                go_roundw
                case rel => exact ⟨s2, _, rfl, ⟨XB.out.2.2⟩, HO1, HG1, XZ⟩
                case measure => have h1 := XB.out; simp [intOf]; omega
              · have q1 := eq_false (show ¬ (m : Int) < (len : Int) by omega)
                have q11 := eq_false hml
                have XZ := Aside0.mk (show Out1 κ s2 d e from hss.1 ▸ ST.out.rest (show e.length < a + 2 * s by omega) (show ¬ a + s < e.length by omega))
                have wam : wrap64 ((a : Int) + (s : Int)) = (m : Int) := wadd hm bm
                have wamq : IntKind.i64.wrap ((a : Int) + (s : Int)) = (m : Int) := (i64_w _).trans wam
                have ws3 := WS.out.2
                have ws3q : IntKind.i64.wrap ((s : Int) * 2) = (s2 : Int) := (i64_w _).trans ws3
                clear hab hlen hel hss hbl hm bm hml hal ST HAB
                go_wp2
                go_roundw
                case rel => exact ⟨s2, e, rfl, ⟨XB.out.2.2⟩, HO, HG, XZ⟩
                case measure => have h1 := XB.out; simp [intOf]; omega
        · have q0 := eq_false (show ¬ (s : Int) < (len : Int) by omega)
          have q00 := eq_false hsl
          have RES := Aside0.mk (ST.out.done (show e.length ≤ s by omega))
          clear hs1 hlen hel hsl ST
          go_wp2
          go_end0
          exact ⟨rfl, ⟨e, RES.out.1, RES.out.2, HO.out⟩, HG.out⟩
set_option maxHeartbeats 4000000 in
theorem sortStable_calls (κ : Int → Int) (Dm : Int → Prop) (g3 go base len cap : Nat) (ok : Nat → Prop) (d : List Int) (W0 : World) (hR : Kd.R (Kd.int .i64) 3 W0 base ok (.slice (some ⟨go, 0, none⟩) len cap) d) (hl : len ≤ 1048576) (hD : ∀ x ∈ d, Dm x) (hC : CmpOk κ Dm g3 go W0) (hS : ∀ a m b : Nat, SymOk κ Dm g3 go base len cap ok a m b) :
    Calls Try.prog 44 #[.slice (some ⟨go, 0, none⟩) len cap, .func (.func 45) #[] #[.pointer (some ⟨g3, 0, none⟩)]] W0 fun e W' => e = .returned (.tuple #[]) ∧ (∃ Z, Srt κ Z ∧ Stb κ d Z ∧ Kd.R (Kd.int .i64) 3 W' base ok (.slice (some ⟨go, 0, none⟩) len cap) Z) ∧ W0.grownBy W' (some go) := by
  have HO := Aside0.mk hR
  have HLEN := Aside0.mk hl
  have HD := Aside0.mk hD
  have HC := Aside0.mk hC
  have HS := Aside0.mk hS
  clear hR hl hD hC hS
  go_enter Try.func44, Try.ntmps44
  go_wp2_with (go_at_call 49; refine (stable_calls κ Dm g3 go base len cap ok d _ HO.out HLEN.out HD.out HC.out HS.out).mono ?_; rintro e_ w5 ⟨rfl, ho, hg⟩; have HO1 := Aside0.mk ho; have HG1 := Aside0.mk hg; clear ho hg)
  go_end0
  exact ⟨rfl, HO1.out, HG1.out⟩
end
end Go.Proofs.Ythcndpdfcippiaa.Hu

-- YthcndpdfcippiaaSo7
namespace Go.Proofs.Ythcndpdfcippiaa.Hu
open Go.RowKit Go.Shelf Go.Proofs.YthcndpdfcippiaaW.PrintWords Go.Proofs.YthcndpdfcippiaaW.PrintLast Go.Proofs.YthcndpdfcippiaaW.PrintMore
set_option linter.unusedVariables false
set_option linter.unusedSimpArgs false
/-- symMerge merges two sorted rows that stand beside one another, and keeps the order of what is alike. -/
theorem sym_ok (κ : Int → Int) (Dm : Int → Prop) (g3 go base len cap : Nat) (ok : Nat → Prop) : ∀ (n a m b : Nat), b - a = n → SymOk κ Dm g3 go base len cap ok a m b := by
  intro n
  induction n using Nat.strongRecOn with
  | ind n ih =>
    intro a m b hn P L R S W0 hR ha hm hb hl1 hr1 hsL hsR hl hDL hDR hC
    have hlen := row_len hR
    simp only [List.length_append] at hlen
    by_cases h1 : L.length = 1
    · obtain ⟨x, rfl⟩ := List.length_eq_one_iff.1 h1
      have h := sym_one κ Dm g3 go base len cap a m b ok P x R S W0 (by have h := hR; simp only [List.append_assoc, List.cons_append, List.nil_append] at h ⊢; exact h) ha (by simpa using hm) hb hsR hl (hDL x (List.mem_singleton.2 rfl)) hDR hC
      exact h
    · by_cases h2 : R.length = 1
      · obtain ⟨x, rfl⟩ := List.length_eq_one_iff.1 h2
        exact sym_last κ Dm g3 go base len cap a m b ok P L x S W0 (by have h := hR; simp only [List.append_assoc, List.cons_append, List.nil_append] at h ⊢; exact h) ha hm (by simpa using hb) (by omega) hsL hl (hDR x (List.mem_singleton.2 rfl)) hDL hC
      · have ham : a < m := by omega
        have hmb : m < b := by omega
        have hgap : a + 4 ≤ b := by omega
        have hble : b ≤ len := by omega
        obtain ⟨sab, hsab⟩ : ∃ s, a + b = s := ⟨_, rfl⟩
        obtain ⟨mid, hmid⟩ : ∃ mid, sab / 2 = mid := ⟨_, rfl⟩
        have hmid2 : mid = (a + b) / 2 := by rw [hsab, hmid]
        obtain ⟨n0, hn0⟩ : ∃ n, mid + m = n := ⟨_, rfl⟩
        have hmidb : mid < b := by omega
        have hamid : a < mid := by omega
        obtain ⟨p, hp⟩ : ∃ p, 1 + p = n0 := ⟨n0 - 1, by omega⟩
        have hp2 : 1 + p = mid + m := by rw [hp, hn0]
        obtain ⟨ll, hll⟩ : ∃ ll, a + ll = m := ⟨L.length, hm.symm⟩
        obtain ⟨lr, hlr⟩ : ∃ lr, m + lr = b := ⟨R.length, hb.symm⟩
        have IH : ∀ a' m' b' : Nat, b' - a' < b - a → SymOk κ Dm g3 go base len cap ok a' m' b' := fun a' m' b' h => ih (b' - a') (by omega) a' m' b' rfl
        have DD := Aside0.mk (show ∀ k, a ≤ k → k < b → Dm ((P ++ L ++ R ++ S).getD k 0) from fun k k1 k2 => sym_dom ha hm hb hDL hDR k1 k2)
        have N1 : a = P.length ∧ a < m ∧ m < b ∧ mid < b ∧ a < mid ∧ b ≤ len ∧ len ≤ 1048576 ∧ mid + m = n0 ∧ 1 + p = n0 ∧ n0 ≤ 4503599627370496 := ⟨ha, ham, hmb, hmidb, hamid, hble, hl, hn0, hp, by omega⟩
        have B1 : sab ≤ 4503599627370496 := by omega
        have B2 : mid ≤ 4503599627370496 := by omega
        have B3 : n0 ≤ 4503599627370496 := by omega
        have B4 : m ≤ 4503599627370496 := by omega
        have B5 : b ≤ 4503599627370496 := by omega
        have B6 : p ≤ 4503599627370496 := by omega
        have B7 : ll ≠ 1 := by omega
        have B8 : lr ≠ 1 := by omega
        have go1 : ∀ s0 r0, (mid < m ∧ s0 = mid + m - b ∧ r0 = mid) ∨ (m ≤ mid ∧ s0 = a ∧ r0 = m) → r0 ≤ m ∧ Aside0 (Bs3 κ 0 (P ++ L ++ R ++ S) p s0 r0 s0 r0) ∧ Aside0 (∀ i j c : Nat, Bs3 κ 0 (P ++ L ++ R ++ S) p s0 r0 i j → i < j → c = (i + j) / 2 → i ≤ c ∧ c < j ∧ c ≤ p ∧ m ≤ p - c ∧ p - c < b ∧ a ≤ c ∧ c < b) := fun s0 r0 hc => by
          obtain ⟨k1, k2, k3, k4⟩ := sym_nums ham hmb hmid2 hp2 hc
          refine ⟨k2, ⟨⟨Nat.le_refl _, k4, Nat.le_refl _, .inl rfl, .inl rfl⟩⟩, ⟨fun i j c s h3 h4 => ?_⟩⟩
          obtain ⟨e1, e2, e3, e4⟩ := sym_step s h3 h4
          obtain ⟨f1, f2, f3, f4, f5⟩ := sym_at ham hmb hmid2 hp2 hc e3 e4
          exact ⟨e1, e2, f1, f2, f3, f4, f5⟩
        by_cases hlt : mid < m
        · obtain ⟨s0, hs0⟩ : ∃ s0, mid + m - b = s0 := ⟨_, rfl⟩
          obtain ⟨g1, g2, g3'⟩ := go1 s0 mid (.inl ⟨hlt, hs0.symm, rfl⟩)
          have TAIL := Aside0.mk (fun (st en : Nat) (he : en = mid + m - st) (s : Bs3 κ 0 (P ++ L ++ R ++ S) p s0 mid st st) => sym_tail (S := S) (Dm := Dm) ha hm hb hsL hsR hl1 hr1 hmid2 hp2 he (.inl ⟨hlt, hs0.symm, rfl⟩) hDL hDR s)
          exact sym_main1 κ Dm g3 go base len cap a m b mid p s0 mid n0 ll lr sab ok P L R S _ W0 hR B1 hsab hmid B2 hn0 B3 hp hll hlr B4 B5 B7 B8 ⟨hlt, by omega, rfl⟩ ⟨N1.1, N1.2.1, N1.2.2.1, N1.2.2.2.1, N1.2.2.2.2.1, hble, hl, hn0, hp, B3, g1, B6⟩ g2 g3' DD TAIL ⟨hC⟩ ⟨IH⟩
        · obtain ⟨g1, g2, g3'⟩ := go1 a m (.inr ⟨by omega, rfl, rfl⟩)
          have TAIL := Aside0.mk (fun (st en : Nat) (he : en = mid + m - st) (s : Bs3 κ 0 (P ++ L ++ R ++ S) p a m st st) => sym_tail (S := S) (Dm := Dm) ha hm hb hsL hsR hl1 hr1 hmid2 hp2 he (.inr ⟨by omega, rfl, rfl⟩) hDL hDR s)
          exact sym_main2 κ Dm g3 go base len cap a m b mid p a m n0 ll lr sab ok P L R S _ W0 hR B1 hsab hmid B2 hn0 B3 hp hll hlr B4 B5 B7 B8 ⟨by omega, rfl, rfl⟩ ⟨N1.1, N1.2.1, N1.2.2.1, N1.2.2.2.1, N1.2.2.2.2.1, hble, hl, hn0, hp, B3, g1, B6⟩ g2 g3' DD TAIL ⟨hC⟩ ⟨IH⟩
end Go.Proofs.Ythcndpdfcippiaa.Hu

-- YthcndpdfcippiaaSo8
namespace Go.Proofs.Ythcndpdfcippiaa.Hu
open Go.RowKit Go.Shelf Go.Proofs.YthcndpdfcippiaaW.PrintWords Go.Proofs.YthcndpdfcippiaaW.PrintLast Go.Proofs.YthcndpdfcippiaaW.PrintMore
set_option linter.unusedVariables false
set_option linter.unusedSimpArgs false
/-! ### There is one such sort -/
section
variable {α : Type} {κ : α → Int}
theorem srt_unique : ∀ {Z Z' : List α}, Srt κ Z → Srt κ Z' → Stb κ Z Z' → Z = Z'
  | [], Z', _, _, h => (List.eq_nil_of_length_eq_zero (h.len.trans rfl)).symm
  | z :: Z, [], _, _, h => absurd h.len (by simp)
  | z :: Z, z' :: Z', s, s', h => by
    obtain ⟨c, sZ⟩ := List.pairwise_cons.1 s
    obtain ⟨c', sZ'⟩ := List.pairwise_cons.1 s'
    have e : κ z = κ z' := by
      have h1 : κ z ≤ κ z' := by
        rcases List.mem_cons.1 ((h.mem z').1 (List.mem_cons_self ..)) with e | e
        · rw [e]; exact Int.le_refl _
        · exact c _ e
      have h2 : κ z' ≤ κ z := by
        rcases List.mem_cons.1 ((h.mem z).2 (List.mem_cons_self ..)) with e | e
        · rw [e]; exact Int.le_refl _
        · exact c' _ e
      omega
    have hk := h (κ z)
    rw [List.filter_cons, List.filter_cons, if_pos (beq_iff_eq.mpr e.symm), if_pos (beq_iff_eq.mpr rfl)] at hk
    injection hk with ez hk
    subst ez
    congr 1
    refine srt_unique sZ sZ' (fun k => ?_)
    have hk2 := h k
    rw [List.filter_cons, List.filter_cons] at hk2
    by_cases hh : κ z' = k
    · rw [if_pos (beq_iff_eq.mpr hh), if_pos (beq_iff_eq.mpr hh)] at hk2
      injection hk2
    · rw [if_neg (by rw [beq_iff_eq]; exact hh), if_neg (by rw [beq_iff_eq]; exact hh)] at hk2
      exact hk2
/-- The things of d, key by key. -/
def byKey (κ : α → Int) (d : List α) (ks : List Nat) : List α := ks.flatMap fun (k : Nat) => d.filter fun x => κ x == (k : Int)
theorem byKey_mem {d : List α} {ks : List Nat} {x : α} : x ∈ byKey κ d ks ↔ x ∈ d ∧ ∃ k ∈ ks, κ x = ((k : Nat) : Int) := by
  unfold byKey
  rw [List.mem_flatMap]
  constructor
  · rintro ⟨k, hk, hx⟩
    rw [List.mem_filter, beq_iff_eq] at hx
    exact ⟨hx.1, k, hk, hx.2⟩
  · rintro ⟨hx, k, hk, e⟩
    exact ⟨k, hk, List.mem_filter.2 ⟨hx, beq_iff_eq.mpr e⟩⟩
theorem byKey_srt (d : List α) : ∀ (ks : List Nat), ks.Pairwise (· < ·) → Srt κ (byKey κ d ks)
  | [], _ => List.Pairwise.nil
  | k :: ks, h => by
    obtain ⟨c, h'⟩ := List.pairwise_cons.1 h
    unfold byKey
    rw [List.flatMap_cons]
    refine srt_app.2 ⟨?_, byKey_srt d ks h', fun x hx y hy => ?_⟩
    · have he : ∀ x ∈ d.filter (fun x => κ x == (k : Int)), κ x = (k : Int) := fun x hx => beq_iff_eq.mp (List.mem_filter.1 hx).2
      refine List.Pairwise.imp_of_mem (R := fun _ _ => True) (fun ha hb _ => ?_) (List.pairwise_of_forall (fun _ _ => trivial))
      rw [he _ ha, he _ hb]; exact Int.le_refl _
    · obtain ⟨_, j, hj, e⟩ := byKey_mem.1 hy
      have := c j hj
      rw [beq_iff_eq.mp (List.mem_filter.1 hx).2, e]
      omega
theorem byKey_filter (d : List α) : ∀ (ks : List Nat), ks.Pairwise (· < ·) → ∀ j : Int, (byKey κ d ks).filter (fun x => κ x == j) = if ∃ k ∈ ks, ((k : Nat) : Int) = j then d.filter (fun x => κ x == j) else []
  | [], _, j => by rw [if_neg (by rintro ⟨k, hk, _⟩; cases hk)]; rfl
  | k :: ks, h, j => by
    obtain ⟨c, h'⟩ := List.pairwise_cons.1 h
    have ih := byKey_filter d ks h' j
    unfold byKey at ih ⊢
    rw [List.flatMap_cons, List.filter_append, ih]
    by_cases e : (k : Int) = j
    · subst e
      rw [if_neg (by rintro ⟨i, hi, e⟩; have := c i hi; omega), if_pos ⟨k, List.mem_cons_self .., rfl⟩, List.append_nil, List.filter_filter]
      exact List.filter_congr (fun x _ => by cases (κ x == (k : Int)) <;> rfl)
    · have e1 : (d.filter (fun x => κ x == (k : Int))).filter (fun x => κ x == j) = [] := filter_none (fun x hx => by rw [beq_iff_eq.mp (List.mem_filter.1 hx).2]; exact e)
      rw [e1, List.nil_append]
      by_cases hj : ∃ i ∈ ks, ((i : Nat) : Int) = j
      · obtain ⟨i, hi, ei⟩ := hj
        rw [if_pos ⟨i, hi, ei⟩, if_pos ⟨i, List.mem_cons_of_mem _ hi, ei⟩]
      · rw [if_neg hj, if_neg]
        rintro ⟨i, hi, ei⟩
        rcases List.mem_cons.1 hi with rfl | hi
        · exact e ei
        · exact hj ⟨i, hi, ei⟩
theorem byKey_stb (d : List α) (ks : List Nat) (h : ks.Pairwise (· < ·)) (hd : ∀ x ∈ d, ∃ k ∈ ks, κ x = ((k : Nat) : Int)) : Stb κ d (byKey κ d ks) := fun j => by
  rw [byKey_filter d ks h j]
  by_cases hj : ∃ k ∈ ks, ((k : Nat) : Int) = j
  · rw [if_pos hj]
  · rw [if_neg hj]
    exact (filter_none (fun x hx e => by obtain ⟨k, hk, ek⟩ := hd x hx; exact hj ⟨k, hk, ek.symm.trans e⟩)).symm
theorem sorted_is {d Z : List α} {ks : List Nat} (h : ks.Pairwise (· < ·)) (hd : ∀ x ∈ d, ∃ k ∈ ks, κ x = ((k : Nat) : Int)) (s : Srt κ Z) (b : Stb κ d Z) : Z = byKey κ d ks :=
  srt_unique s (byKey_srt d ks h) (fun k => (byKey_stb d ks h hd k).trans (b k).symm)
end

theorem symsL_mem {l : List Int} {x : Int} (h : x ∈ symsL l) : ∃ n : Nat, n < l.length ∧ x = (n : Int) ∧ rd l x ≠ 0 := by
  unfold symsL usedL at h
  obtain ⟨y, hy, rfl⟩ := List.mem_map.1 h
  obtain ⟨hy1, hy2⟩ := List.mem_filter.1 hy
  obtain ⟨j, hj, rfl⟩ := List.mem_map.1 hy1
  refine ⟨j, List.mem_range.1 hj, rfl, ?_⟩
  unfold rd
  rw [Int.toNat_natCast, List.getD_eq_getElem?_getD]
  exact of_decide_eq_true hy2
theorem symsL_len (l : List Int) : (symsL l).length ≤ l.length := by unfold symsL; rw [List.length_map]; exact usedL_len l l.length
/-- The used symbols, by their lengths. -/
def symsS (l : List Int) : List Int := byKey (rd l) (symsL l) (List.range 16)
theorem rd_of_ok {l : List Int} (hl : ∀ x ∈ l, 0 ≤ x ∧ x ≤ 15) {n : Nat} (hn : n < l.length) : 0 ≤ rd l (n : Int) ∧ rd l (n : Int) ≤ 15 := by
  unfold rd
  rw [Int.toNat_natCast, List.getD_eq_getElem?_getD, List.getElem?_eq_getElem hn]
  exact hl _ (List.getElem_mem hn)
theorem symsL_keys {l : List Int} (hl : ∀ x ∈ l, 0 ≤ x ∧ x ≤ 15) : ∀ x ∈ symsL l, ∃ k ∈ List.range 16, rd l x = ((k : Nat) : Int) := fun x hx => by
  obtain ⟨n, hn, rfl, _⟩ := symsL_mem hx
  obtain ⟨h1, h2⟩ := rd_of_ok hl hn
  exact ⟨(rd l (n : Int)).toNat, List.mem_range.2 (by omega), by omega⟩
theorem range16_lt : (List.range 16).Pairwise (· < ·) := List.pairwise_lt_range
theorem cmp_ok (g3 gb go : Nat) (A : Option Addr) (c : Nat) (l : List Int) (W : World) (h3 : W.heap[g3]? = some (.cells #[.func (.func 37) #[] #[.pointer (some ⟨gb, 0, none⟩)]] 72 (0, 0))) (hb : W.heap[gb]? = some (.cells #[.slice A l.length c] 22 (0, 0))) (hc : (Kd.int .i64).C W A l.length l)
    (n3 : g3 ≠ go) (nb : gb ≠ go) (nA : ∀ ad, A = some ad → ad.block ≠ go) (hl : ∀ x ∈ l, 0 ≤ x ∧ x ≤ 15) : CmpOk (rd l) (fun x => ∃ n : Nat, n < l.length ∧ x = (n : Int)) g3 go W := fun W' hg x y hx hy => by
  obtain ⟨n, hn, rfl⟩ := hx
  obtain ⟨m, hm, rfl⟩ := hy
  have hk : KeepBut W W' go none := ⟨hg.size, fun i hi hne _ => hg.block i hi (fun e => hne (by injection e))⟩
  refine (cmp_calls g3 gb A c l n m W' (blk_grown h3 hg (fun e => n3 (by injection e))) (blk_grown hb hg (fun e => nb (by injection e))) (Kd.C_keep (0 : Int) hc hk (fun ad e _ => nA ad e)) hn hm).mono ?_
  rintro e w ⟨rfl, hd⟩
  obtain ⟨a1, a2⟩ := rd_of_ok hl hn
  obtain ⟨b1, b2⟩ := rd_of_ok hl hm
  refine ⟨_, rfl, ?_, hd⟩
  generalize rd l (n : Int) = u at a1 a2 ⊢
  generalize rd l (m : Int) = v at b1 b2 ⊢
  unfold wrap64
  omega
section
set_option maxRecDepth 100000 in
set_option maxHeartbeats 2000000 in
theorem ordered_all (l : List Int) (hl : ∀ x ∈ l, 0 ≤ x ∧ x ≤ 15) (hn : l.length ≤ 288) : OrderedAt l (symsL l) (symsS l) := by
  by_cases h1 : (symsL l).length ≤ 1
  · have e : symsL l = symsS l := sorted_is (κ := rd l) range16_lt (symsL_keys hl) (by
      match hh : symsL l, h1 with
      | [], _ => exact List.Pairwise.nil
      | [x], _ => exact List.pairwise_singleton _ _) (Stb.refl _)
    rw [← e]
    exact ordered_one l (symsL l) h1
  · intro W base gb v A c hO hB hC hA
    obtain ⟨go, c0, ev, hgb, hgl, cells, hcells⟩ := Kd.R_form hO (by omega)
    subst ev
    have hne : gb ≠ go := fun e => by subst e; rw [hB] at hcells; injection hcells with h; injection h with _ h _; exact absurd h (by decide)
    have hA2 : ∀ ad, A = some ad → ad.block ≠ go := fun ad e => by have := hA ad e; omega
    have hgr := World.grownBy_alloc W (.cells #[.func (.func 37) #[] #[.pointer (some ⟨gb, 0, none⟩)]] 72 (0, 0)) (some go)
    have hbl := below_alloc (Below.refl W.heap.size W) (.cells #[.func (.func 37) #[] #[.pointer (some ⟨gb, 0, none⟩)]] 72 (0, 0))
    have hcmp : CmpOk (rd l) (fun x => ∃ n : Nat, n < l.length ∧ x = (n : Int)) W.heap.size go (W.alloc (.cells #[.func (.func 37) #[] #[.pointer (some ⟨gb, 0, none⟩)]] 72 (0, 0))) :=
      cmp_ok W.heap.size gb go A c l _ (blk_new W _) (blk_grown hB hgr (fun e => hne (by injection e))) (Kd.C_alloc hC _) (by omega) hne hA2 hl
    have HO := Aside0.mk (Kd.R_below hO hbl)
    have HG := Aside0.mk hgr
    have HC := Aside0.mk hcmp
    have HN := Aside0.mk (show (symsL l).length ≤ 1048576 by have := symsL_len l; omega)
    have HD := Aside0.mk (show ∀ x ∈ symsL l, ∃ n : Nat, n < l.length ∧ x = (n : Int) from fun x hx => by obtain ⟨n, h1, h2, _⟩ := symsL_mem hx; exact ⟨n, h1, h2⟩)
    have HK := Aside0.mk (symsL_keys hl)
    clear hO hB hC hA hcells hne hA2 hgr hbl hcmp hgb hgl h1 hn hl
    go_enter Try.func36, Try.ntmps36
    go_wp2_with (go_at_call 44; refine (sortStable_calls (rd l) (fun x => ∃ n : Nat, n < l.length ∧ x = (n : Int)) W.heap.size go base (symsL l).length c0 (fun _ => True) (symsL l) _ HO.out HN.out HD.out HC.out (fun a m b => sym_ok (rd l) _ W.heap.size go base (symsL l).length c0 _ _ a m b rfl)).mono ?_; rintro e_ w3 ⟨rfl, ⟨Z, z1, z2, ho⟩, hg⟩)
    go_end0
    have ez := sorted_is (κ := rd l) range16_lt HK.out z1 z2
    exact ⟨rfl, by unfold symsS; rw [← ez]; exact ho, grown_trans HG.out hg⟩
end
/-- New's contract, for any lengths. -/
theorem huff_New_all (A : Option Addr) (c : Nat) (l : List Int) (w : World) (hr : (Kd.int .i64).C w A l.length l) (hok : checkS l ≠ 2 → (∀ x ∈ l, 0 ≤ x ∧ x ≤ 15) ∧ l.length ≤ 288) : Calls Try.prog 21 #[.slice A l.length c] w (NewPost l (symsS l) w) := by
  by_cases h : checkS l = 2
  · exact new_arg A c l (symsS l) w hr h
  · exact new_ok A c l (symsS l) w hr h (ordered_all l (hok h).1 (hok h).2)
end Go.Proofs.Ythcndpdfcippiaa.Hu

-- YthcndpdfcippiaaPh2
namespace Go.Proofs.Ythcndpdfcippiaa.Pr
open Go.RowKit Go.Proofs.YthcndpdfcippiaaW.PrintWords Go.Proofs.YthcndpdfcippiaaW.PrintLast Go.Proofs.YthcndpdfcippiaaW.PrintMore
set_option linter.unusedVariables false
set_option linter.unusedSimpArgs false
set_option maxRecDepth 100000
/-! ### Numbers and their bits -/
theorem pow8 (j : Nat) (h : j < 8) : (2 : Int) ^ j = 1 ∧ j = 0 ∨ (2 : Int) ^ j = 2 ∧ j = 1 ∨ (2 : Int) ^ j = 4 ∧ j = 2 ∨ (2 : Int) ^ j = 8 ∧ j = 3 ∨ (2 : Int) ^ j = 16 ∧ j = 4 ∨ (2 : Int) ^ j = 32 ∧ j = 5 ∨ (2 : Int) ^ j = 64 ∧ j = 6 ∨ (2 : Int) ^ j = 128 ∧ j = 7 := by
  match j, h with
  | 0, _ => simp
  | 1, _ => simp
  | 2, _ => simp
  | 3, _ => simp
  | 4, _ => simp
  | 5, _ => simp
  | 6, _ => simp
  | 7, _ => simp
theorem wrapid {x : Int} (h0 : -9223372036854775808 ≤ x) (h1 : x ≤ 9223372036854775807) : wrap64 x = x := by unfold wrap64; omega
theorem i64of (a : Nat) (ha : a < 9223372036854775808) : (BitVec.ofInt 64 (a : Int)).toNat = a := by
  rw [BitVec.ofInt_natCast, BitVec.toNat_ofNat]; exact Nat.mod_eq_of_lt (by omega)
theorem i64andN (a b : Nat) (ha : a < 9223372036854775808) (hb : b < 9223372036854775808) : Go.bits .and .i64 (a : Int) (b : Int) = ((a &&& b : Nat) : Int) := by
  have hx : a &&& b < 2 ^ 63 := Nat.and_lt_two_pow _ (by omega)
  show IntKind.i64.wrap ((BitVec.ofInt 64 (a : Int) &&& BitVec.ofInt 64 (b : Int)).toNat : Int) = _
  rw [BitVec.toNat_and, i64of a ha, i64of b hb, IntKind.wrap_i64]
  omega
theorem i64orN (a b : Nat) (ha : a < 9223372036854775808) (hb : b < 9223372036854775808) : Go.bits .or .i64 (a : Int) (b : Int) = ((a ||| b : Nat) : Int) := by
  have hx : a ||| b < 2 ^ 63 := Nat.or_lt_two_pow (by omega) (by omega)
  show IntKind.i64.wrap ((BitVec.ofInt 64 (a : Int) ||| BitVec.ofInt 64 (b : Int)).toNat : Int) = _
  rw [BitVec.toNat_or, i64of a ha, i64of b hb, IntKind.wrap_i64]
  omega
theorem and7 (n : Int) (h0 : 0 ≤ n) (h1 : n ≤ 9223372036854775807) : Go.bits .and .i64 n 7 = n % 8 := by
  have h := i64andN n.toNat 7 (by omega) (by omega)
  rw [show ((n.toNat : Nat) : Int) = n by omega] at h
  rw [show (7 : Int) = ((7 : Nat) : Int) from rfl, h, Nat.and_two_pow_sub_one_eq_mod n.toNat 3]
  omega
theorem and1 (n : Int) (h0 : 0 ≤ n) (h1 : n ≤ 9223372036854775807) : Go.bits .and .i64 n 1 = n % 2 := by
  have h := i64andN n.toNat 1 (by omega) (by omega)
  rw [show ((n.toNat : Nat) : Int) = n by omega] at h
  rw [show (1 : Int) = ((1 : Nat) : Int) from rfl, h, Nat.and_two_pow_sub_one_eq_mod n.toNat 1]
  omega
/-- or of a number below 2^i and b at the place i: their sum. -/
theorem orAdd (x i b : Nat) (hx : x < 2 ^ i) (hb : b = 0 ∨ b = 1) : x ||| (b * 2 ^ i) = x + b * 2 ^ i := by
  rcases hb with rfl | rfl
  · simp
  · have h := Nat.two_pow_add_eq_or_of_lt hx 1
    rw [Nat.mul_one] at h
    rw [Nat.one_mul, Nat.or_comm, ← h, Nat.add_comm]
theorem shr_eq (x : Int) (i : Nat) (hi : i ≤ 64) : shr .i64 x (i : Int) = x / 2 ^ i := by
  unfold shr
  rw [Int.toNat_natCast, Nat.min_eq_left (by simpa [IntKind.bits] using hi)]
theorem shr8_eq (x : Int) (i : Nat) (hi : i ≤ 8) : shr .u8 x (i : Int) = x / 2 ^ i := by
  unfold shr
  rw [Int.toNat_natCast, Nat.min_eq_left (by simpa [IntKind.bits] using hi)]
theorem shl_eq (x : Int) (i : Nat) (hi : i ≤ 64) : shl .i64 x (i : Int) = wrap64 (x * 2 ^ i) := by
  unfold shl
  rw [Int.toNat_natCast, Nat.min_eq_left (by simpa [IntKind.bits] using hi), i64_w]
/-- The bit i of a number. -/
def vb (v : Int) (i : Nat) : Int := v / 2 ^ i % 2
theorem vb_01 (v : Int) (i : Nat) : vb v i = 0 ∨ vb v i = 1 := by unfold vb; omega
theorem vb_zero (v : Int) : vb v 0 = v % 2 := by unfold vb; simp
theorem div_pow_succ (v : Int) (i : Nat) : v / 2 ^ (i + 1) = v / 2 ^ i / 2 := by rw [Int.pow_succ, ← Int.ediv_ediv_of_nonneg (Int.le_of_lt (Int.pow_pos (by omega)))]
theorem vb_half (v : Int) (i : Nat) : vb v (i + 1) = vb (v / 2) i := by
  unfold vb
  rw [Int.pow_succ, Int.mul_comm, ← Int.ediv_ediv_of_nonneg (by omega)]
theorem div_small {v : Int} {n : Nat} (h0 : 0 ≤ v) (h : v < 2 ^ n) : v / 2 ^ n = 0 := Int.ediv_eq_zero_of_lt h0 h
theorem pow_pos2 (n : Nat) : (0 : Int) < 2 ^ n := Int.pow_pos (by omega)
theorem pow_le2 {m n : Nat} (h : m ≤ n) : (2 : Int) ^ m ≤ 2 ^ n := by
  have := Nat.pow_le_pow_right (n := 2) (by omega) h
  have h2 : ((2 ^ m : Nat) : Int) ≤ ((2 ^ n : Nat) : Int) := by omega
  simpa using h2
theorem lt_of_div_zero {v : Int} {n : Nat} (h : v / 2 ^ n = 0) : v < 2 ^ n := by
  have := Int.lt_mul_ediv_self_add (x := v) (pow_pos2 n)
  rw [h] at this
  omega
/-- shift and mask: the bit. -/
theorem bit_of (v : Int) (i : Nat) (hi : i ≤ 64) (h0 : 0 ≤ v) (h1 : v ≤ 9223372036854775807) : Go.bits .and .i64 (shr .i64 v (i : Int)) 1 = vb v i := by
  rw [shr_eq v i hi]
  have hp := pow_pos2 i
  have hq : v / 2 ^ i ≤ v := Int.ediv_le_self _ h0
  have hr : 0 ≤ v / 2 ^ i := Int.ediv_nonneg h0 (by omega)
  rw [and1 _ hr (by omega)]
  rfl
/-! ### Rows: lists of bytes and how many bits they have -/
def Byt (l : List Int) : Prop := ∀ x ∈ l, 0 ≤ x ∧ x < 256
theorem byt_nil : Byt [] := fun x h => by cases h
theorem byt_get {l : List Int} (h : Byt l) (i : Nat) : 0 ≤ l.getD i 0 ∧ l.getD i 0 < 256 := by
  rw [List.getD_eq_getElem?_getD]
  by_cases hi : i < l.length
  · rw [List.getElem?_eq_getElem hi]
    exact h _ (List.getElem_mem hi)
  · rw [List.getElem?_eq_none (by omega)]
    simp
theorem byt_app {l m : List Int} (h : Byt l) (h2 : Byt m) : Byt (l ++ m) := fun x hx => by
  rcases List.mem_append.1 hx with hx | hx
  · exact h x hx
  · exact h2 x hx
theorem byt_set {l : List Int} (h : Byt l) (i : Nat) {x : Int} (hx : 0 ≤ x ∧ x < 256) : Byt (l.set i x) := fun y hy => by
  rcases List.mem_or_eq_of_mem_set hy with hy | rfl
  · exact h y hy
  · exact hx
theorem rd_nat (l : List Int) (i : Nat) : rd l (i : Int) = l.getD i 0 := by unfold rd; rw [Int.toNat_natCast]
def bat (l : List Int) (k : Nat) : Int := l.getD (k / 8) 0 / 2 ^ (k % 8) % 2
theorem bat_01 (l : List Int) (k : Nat) : bat l k = 0 ∨ bat l k = 1 := by unfold bat; omega
/-- The row is right: its bytes are as many as its bits need, the bits of the last byte behind the row are 0. -/
def Rgt (l : List Int) (n : Nat) : Prop := Byt l ∧ l.length = (n + 7) / 8 ∧ l.getD (n / 8) 0 < 2 ^ (n % 8)
theorem rgt_nil : Rgt [] 0 := ⟨byt_nil, rfl, by simp⟩
theorem rgt_whole {l : List Int} (h : Byt l) : Rgt l (8 * l.length) := by
  refine ⟨h, by omega, ?_⟩
  rw [show 8 * l.length / 8 = l.length by omega, show 8 * l.length % 8 = 0 by omega, List.getD_eq_getElem?_getD, List.getElem?_eq_none (by omega)]
  simp
def lay (l : List Int) (n : Nat) (b : Int) : List Int := if n % 8 = 0 then l ++ [b] else l.set (n / 8) (l.getD (n / 8) 0 + b * 2 ^ (n % 8))
theorem getD_set {l : List Int} {i : Nat} (hi : i < l.length) (x : Int) (j : Nat) : (l.set i x).getD j 0 = if j = i then x else l.getD j 0 := by
  rw [List.getD_eq_getElem?_getD, List.getD_eq_getElem?_getD]
  by_cases h : j = i
  · subst h
    rw [List.getElem?_set_self hi, if_pos rfl]; rfl
  · rw [List.getElem?_set_ne (Ne.symm h), if_neg h]
theorem getD_snoc (l : List Int) (x : Int) (j : Nat) : (l ++ [x]).getD j 0 = if j = l.length then x else l.getD j 0 := by
  rw [List.getD_eq_getElem?_getD, List.getD_eq_getElem?_getD]
  by_cases h : j < l.length
  · rw [List.getElem?_append_left h, if_neg (by omega)]
  · rw [List.getElem?_append_right (by omega)]
    by_cases h2 : j = l.length
    · subst h2
      simp
    · rw [if_neg h2, List.getElem?_eq_none (l := l) (by omega)]
      obtain ⟨d, hd⟩ : ∃ d, j - l.length = d + 1 := ⟨j - l.length - 1, by omega⟩
      rw [hd]
      simp
theorem lay_len {l : List Int} {n : Nat} (h : Rgt l n) (b : Int) : (lay l n b).length = (n + 1 + 7) / 8 := by
  have := h.2.1
  unfold lay
  by_cases h8 : n % 8 = 0
  · rw [if_pos h8, List.length_append, List.length_cons, List.length_nil]; omega
  · rw [if_neg h8, List.length_set]; omega
theorem lay_getD {l : List Int} {n : Nat} (h : Rgt l n) (b : Int) (j : Nat) : (lay l n b).getD j 0 = if j = n / 8 then l.getD (n / 8) 0 + b * 2 ^ (n % 8) else l.getD j 0 := by
  have hl := h.2.1
  unfold lay
  by_cases h8 : n % 8 = 0
  · rw [if_pos h8, getD_snoc]
    by_cases hj : j = l.length
    · rw [if_pos hj, if_pos (by omega), h8]
      rw [List.getD_eq_getElem?_getD, List.getElem?_eq_none (by omega)]
      simp
    · rw [if_neg hj, if_neg (by omega)]
  · rw [if_neg h8, getD_set (by omega)]
theorem lay_rgt {l : List Int} {n : Nat} (h : Rgt l n) {b : Int} (hb : b = 0 ∨ b = 1) : Rgt (lay l n b) (n + 1) := by
  obtain ⟨h1, h2, h3⟩ := h
  have hx := byt_get h1 (n / 8)
  have hr : 0 ≤ l.getD (n / 8) 0 + b * 2 ^ (n % 8) ∧ l.getD (n / 8) 0 + b * 2 ^ (n % 8) < 256 := by
    rcases pow8 (n % 8) (by omega) with ⟨e, _⟩ | ⟨e, _⟩ | ⟨e, _⟩ | ⟨e, _⟩ | ⟨e, _⟩ | ⟨e, _⟩ | ⟨e, _⟩ | ⟨e, _⟩ <;> rw [e] at h3 ⊢ <;> rcases hb with rfl | rfl <;> omega
  refine ⟨?_, lay_len ⟨h1, h2, h3⟩ b, ?_⟩
  · unfold lay
    by_cases h8 : n % 8 = 0
    · rw [if_pos h8]
      refine byt_app h1 (fun x hx => ?_)
      rw [List.mem_singleton] at hx
      subst hx
      omega
    · rw [if_neg h8]
      exact byt_set h1 _ hr
  · rw [lay_getD ⟨h1, h2, h3⟩]
    by_cases hj : (n + 1) / 8 = n / 8
    · rw [if_pos hj]
      generalize l.getD (n / 8) 0 = x at h3 hx hr ⊢
      rcases pow8 (n % 8) (by omega) with ⟨e, e2⟩ | ⟨e, e2⟩ | ⟨e, e2⟩ | ⟨e, e2⟩ | ⟨e, e2⟩ | ⟨e, e2⟩ | ⟨e, e2⟩ | ⟨e, e2⟩ <;> rw [e] at h3 ⊢
      · rw [show (n + 1) % 8 = 1 by omega]; rcases hb with rfl | rfl <;> simp <;> omega
      · rw [show (n + 1) % 8 = 2 by omega]; rcases hb with rfl | rfl <;> simp <;> omega
      · rw [show (n + 1) % 8 = 3 by omega]; rcases hb with rfl | rfl <;> simp <;> omega
      · rw [show (n + 1) % 8 = 4 by omega]; rcases hb with rfl | rfl <;> simp <;> omega
      · rw [show (n + 1) % 8 = 5 by omega]; rcases hb with rfl | rfl <;> simp <;> omega
      · rw [show (n + 1) % 8 = 6 by omega]; rcases hb with rfl | rfl <;> simp <;> omega
      · rw [show (n + 1) % 8 = 7 by omega]; rcases hb with rfl | rfl <;> simp <;> omega
      · omega
    · rw [if_neg hj, List.getD_eq_getElem?_getD, List.getElem?_eq_none (by omega)]
      exact pow_pos2 _
theorem lay_bat {l : List Int} {n : Nat} (h : Rgt l n) {b : Int} (hb : b = 0 ∨ b = 1) (k : Nat) : bat (lay l n b) k = if k = n then b else bat l k := by
  unfold bat
  rw [lay_getD h]
  by_cases hj : k / 8 = n / 8
  · rw [if_pos hj, hj]
    have h3 := h.2.2
    have hx := byt_get h.1 (n / 8)
    generalize l.getD (n / 8) 0 = x at h3 hx ⊢
    by_cases hk : k = n
    · rw [if_pos hk, hk]
      rcases pow8 (n % 8) (by omega) with ⟨e, _⟩ | ⟨e, _⟩ | ⟨e, _⟩ | ⟨e, _⟩ | ⟨e, _⟩ | ⟨e, _⟩ | ⟨e, _⟩ | ⟨e, _⟩ <;> rw [e] at h3 ⊢ <;> rcases hb with rfl | rfl <;> omega
    · rw [if_neg hk]
      have hne : k % 8 ≠ n % 8 := by omega
      rcases pow8 (n % 8) (by omega) with ⟨e, e2⟩ | ⟨e, e2⟩ | ⟨e, e2⟩ | ⟨e, e2⟩ | ⟨e, e2⟩ | ⟨e, e2⟩ | ⟨e, e2⟩ | ⟨e, e2⟩ <;> rw [e] at h3 ⊢ <;> rcases pow8 (k % 8) (by omega) with ⟨f, f2⟩ | ⟨f, f2⟩ | ⟨f, f2⟩ | ⟨f, f2⟩ | ⟨f, f2⟩ | ⟨f, f2⟩ | ⟨f, f2⟩ | ⟨f, f2⟩ <;> rw [f] <;> rcases hb with rfl | rfl <;> omega
  · rw [if_neg hj, if_neg (by omega)]
/-- Many bits, one by one. -/
def layA : List Int → Nat → List Int → List Int
  | l, _, [] => l
  | l, n, b :: bs => layA (lay l n b) (n + 1) bs
theorem layA_rgt {l : List Int} {n : Nat} (h : Rgt l n) {bs : List Int} (hb : ∀ b ∈ bs, b = 0 ∨ b = 1) : Rgt (layA l n bs) (n + bs.length) := by
  induction bs generalizing l n with
  | nil => exact h
  | cons b bs ih =>
    have := ih (lay_rgt h (hb b (by simp))) (fun x hx => hb x (by simp [hx]))
    rw [List.length_cons, show n + (bs.length + 1) = n + 1 + bs.length by omega]
    exact this
theorem layA_bat {l : List Int} {n : Nat} (h : Rgt l n) {bs : List Int} (hb : ∀ b ∈ bs, b = 0 ∨ b = 1) (k : Nat) : bat (layA l n bs) k = if n ≤ k ∧ k < n + bs.length then bs.getD (k - n) 0 else bat l k := by
  induction bs generalizing l n with
  | nil => rw [if_neg (by simp), layA]
  | cons b bs ih =>
    rw [layA, ih (lay_rgt h (hb b (by simp))) (fun x hx => hb x (by simp [hx])), lay_bat h (hb b (by simp))]
    by_cases h1 : k = n
    · subst h1
      rw [if_neg (by omega), if_pos rfl, if_pos (by simp)]
      simp
    · by_cases h2 : n + 1 ≤ k ∧ k < n + 1 + bs.length
      · rw [if_pos h2, if_pos (by rw [List.length_cons]; omega)]
        obtain ⟨d, hd⟩ : ∃ d, k - n = d + 1 := ⟨k - n - 1, by omega⟩
        rw [hd, show k - (n + 1) = d by omega]
        simp
      · rw [if_neg h2, if_neg h1, if_neg (by rw [List.length_cons]; omega)]
/-- The bits i, i + 1, .. of a number. -/
def bitsV (v : Int) (i : Nat) : Nat → List Int
  | 0 => []
  | c + 1 => vb v i :: bitsV v (i + 1) c
theorem bitsV_len (v : Int) (i c : Nat) : (bitsV v i c).length = c := by
  induction c generalizing i with
  | zero => rfl
  | succ c ih => rw [bitsV, List.length_cons, ih]
theorem bitsV_get (v : Int) (i c j : Nat) (hj : j < c) : (bitsV v i c).getD j 0 = vb v (i + j) := by
  induction c generalizing i j with
  | zero => omega
  | succ c ih =>
    cases j with
    | zero => rfl
    | succ j =>
      rw [bitsV]
      have := ih (i + 1) j (by omega)
      simp only [List.getD_cons_succ]
      rw [this, show i + 1 + j = i + (j + 1) by omega]
/-! ### What the functions of layer 1 compute -/
def okR (l : List Int) (n : Int) : Bool := decide (0 ≤ n) && decide (l.length = (n.toNat + 7) / 8) && decide (l.getD (n.toNat / 8) 0 < 2 ^ (n.toNat % 8))
theorem okR_iff {l : List Int} {n : Int} (hb : Byt l) : okR l n = true ↔ 0 ≤ n ∧ Rgt l n.toNat := by
  unfold okR Rgt
  simp only [Bool.and_eq_true, decide_eq_true_eq]
  exact ⟨fun h => ⟨h.1.1, hb, h.1.2, h.2⟩, fun h => ⟨⟨h.1, h.2.2.1⟩, h.2.2.2⟩⟩
theorem okR_nat {l : List Int} {n : Nat} (h : Rgt l n) : okR l (n : Int) = true := (okR_iff h.1).2 ⟨by omega, by rw [Int.toNat_natCast]; exact h⟩
/-- The last byte behind the row's bits. -/
theorem last_zero {l : List Int} {n : Nat} (hb : Byt l) (hl : l.length = (n + 7) / 8) (h8 : n % 8 ≠ 0) : (l.getD (n / 8) 0 / 2 ^ (n % 8) = 0) ↔ l.getD (n / 8) 0 < 2 ^ (n % 8) :=
  ⟨lt_of_div_zero, fun h => div_small (byt_get hb _).1 h⟩
theorem check_eq {k : Nat} (hk : 1 ≤ k) {l : List Int} {n : Int} (hb : Byt l) (hl : l.length ≤ 140737488355328) (h0 : -9223372036854775808 ≤ n) (h1 : n ≤ 9223372036854775807) : bits_Check.f k l n = some (if okR l n = true then 0 else 2) := by
  obtain ⟨k, rfl⟩ : ∃ m, k = m + 1 := ⟨k - 1, by omega⟩
  unfold bits_Check.f
  by_cases hn : n < 0
  · rw [if_pos hn]
    have : okR l n = false := by unfold okR; simp; omega
    simp [bits_Check.j0, this]
  · rw [if_neg hn, and7 n (by omega) h1]
    obtain ⟨m, rfl⟩ : ∃ m : Nat, n = (m : Int) := ⟨n.toNat, by omega⟩
    have e1 : wrap64 ((m : Int) % 8 + 7) = (m : Int) % 8 + 7 := wrapid (by omega) (by omega)
    have e2 : wrap64 ((m : Int) / 8 + ((m : Int) % 8 + 7) / 8) = ((m + 7) / 8 : Nat) := by rw [wrapid (by omega) (by omega)]; omega
    rw [e1, e2]
    by_cases hlen : l.length = (m + 7) / 8
    · have e3 : (((l.length : Nat) : Int) != (((m + 7) / 8 : Nat) : Int)) = false := by rw [bne_eq_false_iff_eq]; omega
      rw [e3]
      simp only [bits_Check.j0, Bool.false_eq_true, if_false]
      rw [and7 _ (by omega) h1]
      by_cases h8 : (m : Int) % 8 = 0
      · rw [if_pos h8]
        have : okR l (m : Int) = true := by
          unfold okR
          rw [Int.toNat_natCast, List.getD_eq_getElem?_getD, List.getElem?_eq_none (by omega)]
          simp [hlen]
          exact pow_pos2 _
        rw [this]; rfl
      · rw [if_neg h8]
        have e4 : wrap64 ((l.length : Int) - 1) = ((m / 8 : Nat) : Int) := by rw [wrapid (by omega) (by omega)]; omega
        rw [e4, if_pos (by omega), if_pos (by omega), if_pos (by omega), rd_nat, show (m : Int) % 8 = ((m % 8 : Nat) : Int) by omega, shr8_eq _ _ (by omega)]
        by_cases hz : l.getD (m / 8) 0 < 2 ^ (m % 8)
        · rw [if_pos ((last_zero hb hlen (by omega)).2 hz)]
          have : okR l (m : Int) = true := by unfold okR; rw [Int.toNat_natCast]; simp only [Bool.and_eq_true, decide_eq_true_eq]; exact ⟨⟨by omega, hlen⟩, hz⟩
          rw [this]; rfl
        · rw [if_neg (fun h => hz ((last_zero hb hlen (by omega)).1 h))]
          have : okR l (m : Int) = false := by unfold okR; rw [Int.toNat_natCast]; simp only [Bool.and_eq_false_iff, decide_eq_false_iff_not]; exact .inr hz
          rw [this]; rfl
    · have e3 : (((l.length : Nat) : Int) != (((m + 7) / 8 : Nat) : Int)) = true := by rw [bne_iff_ne]; omega
      rw [e3]
      have : okR l (m : Int) = false := by unfold okR; rw [Int.toNat_natCast]; simp only [Bool.and_eq_false_iff, decide_eq_false_iff_not]; exact .inl (.inr hlen)
      rw [this]
      simp [bits_Check.j0]
def fitB (v n m : Int) : Bool := decide (0 ≤ n) && decide (n ≤ m) && decide (0 ≤ v) && decide (v < 2 ^ n.toNat)
theorem fitB_iff {v n m : Int} : fitB v n m = true ↔ 0 ≤ n ∧ n ≤ m ∧ 0 ≤ v ∧ v < 2 ^ n.toNat := by unfold fitB; simp [and_assoc]
theorem fits_eq (v n m : Int) (hm : m ≤ 64) : bits_fits.f v n m = some (fitB v n m) := by
  unfold bits_fits.f fitB
  by_cases h1 : n ≥ 0
  · by_cases h2 : n ≤ m
    · by_cases h3 : v ≥ 0
      · obtain ⟨c, rfl⟩ : ∃ c : Nat, n = (c : Int) := ⟨n.toNat, by omega⟩
        rw [if_pos h1, if_pos h2, if_pos h3, if_pos h1, shr_eq v c (by omega), Int.toNat_natCast]
        congr 1
        have : (v / 2 ^ c == 0) = decide (v < 2 ^ c) := by
          rw [Bool.eq_iff_iff]; simp only [beq_iff_eq, decide_eq_true_eq]
          exact ⟨lt_of_div_zero, fun h => div_small h3 h⟩
        rw [this]
        simp [h1, h2, h3]
      · rw [if_pos h1, if_pos h2, if_neg h3]; simp [h3]
    · rw [if_pos h1, if_neg h2]; simp [h2]
  · rw [if_neg h1]; simp [h1]
/-- A bit as the program lays it. -/
theorem put1_eq {l : List Int} {n : Nat} (h : Rgt l n) {b : Int} (hb : b = 0 ∨ b = 1) (hn : n ≤ 1125899906842616) : put1 l (n : Int) b = some (lay l n b, ((n + 1 : Nat) : Int)) := by
  have hl := h.2.1
  have a7 : Go.bits .and .i64 (n : Int) 7 = ((n % 8 : Nat) : Int) := by rw [and7 _ (by omega) (by omega)]; omega
  have e8 : (n : Int) / 8 = ((n / 8 : Nat) : Int) := by omega
  have hlay := lay_getD h b (n / 8)
  unfold put1
  rw [a7, e8, wrapid (by omega) (by omega)]
  have hx := byt_get h.1 (n / 8)
  have h3 := h.2.2
  have hs : shl .i64 b ((n % 8 : Nat) : Int) = b * 2 ^ (n % 8) ∧ 0 ≤ b * 2 ^ (n % 8) ∧ b * 2 ^ (n % 8) < 256 := by
    rw [shl_eq b (n % 8) (by omega)]
    rcases pow8 (n % 8) (by omega) with ⟨e, _⟩ | ⟨e, _⟩ | ⟨e, _⟩ | ⟨e, _⟩ | ⟨e, _⟩ | ⟨e, _⟩ | ⟨e, _⟩ | ⟨e, _⟩ <;> rw [e] <;> rcases hb with rfl | rfl <;> exact ⟨wrapid (by omega) (by omega), by omega, by omega⟩
  have hor : ∀ x : Int, 0 ≤ x → x < 2 ^ (n % 8) → Go.bits .or .u8 x (b * 2 ^ (n % 8)) = x + b * 2 ^ (n % 8) := by
    intro x hx0 hx1
    obtain ⟨c, rfl⟩ : ∃ c : Nat, x = (c : Int) := ⟨x.toNat, by omega⟩
    obtain ⟨d, rfl⟩ : ∃ d : Nat, b = (d : Int) := ⟨b.toNat, by omega⟩
    have hp : ((2 ^ (n % 8) : Nat) : Int) = 2 ^ (n % 8) := by simp
    have hc : c < 2 ^ (n % 8) := by omega
    have hlt : 2 ^ (n % 8) ≤ 128 := by
      have := Nat.pow_le_pow_right (n := 2) (by omega) (show n % 8 ≤ 7 by omega)
      simpa using this
    have hd : d * 2 ^ (n % 8) < 256 := by
      have h2 := hs.2.2
      rw [← hp] at h2
      have h4 : ((d * 2 ^ (n % 8) : Nat) : Int) < 256 := by rw [Int.natCast_mul]; exact h2
      omega
    have e1 : (d : Int) * 2 ^ (n % 8) = ((d * 2 ^ (n % 8) : Nat) : Int) := by rw [Int.natCast_mul, hp]
    rw [e1, u8_or_nat c _ (by omega) hd, orAdd c (n % 8) d hc (by omega)]
    omega
  by_cases h8 : n % 8 = 0
  · rw [if_pos (by omega), if_pos (by omega)]
    simp only [Option.bind_some]
    rw [if_pos (by omega), if_pos (by rw [List.length_append, List.length_cons, List.length_nil]; omega), if_pos (by omega), hs.1, Int.emod_eq_of_lt hs.2.1 hs.2.2, rd_nat, Int.toNat_natCast]
    have hz : (l ++ [0]).getD (n / 8) 0 = 0 := by rw [getD_snoc, if_pos (by omega)]
    rw [hz, hor 0 (by omega) (pow_pos2 _)]
    unfold lay
    rw [if_pos h8, show n / 8 = l.length by omega, h8, List.set_append_right _ _ (by omega)]
    simp
  · rw [if_neg (by omega)]
    simp only [Option.bind_some]
    rw [if_pos (by omega), if_pos (by omega), if_pos (by omega), hs.1, Int.emod_eq_of_lt hs.2.1 hs.2.2, rd_nat, Int.toNat_natCast, hor _ hx.1 h3]
    unfold lay
    rw [if_neg h8]
    rfl
theorem putl_eq (v : Int) (hv0 : 0 ≤ v) (hv1 : v ≤ 9223372036854775807) (c : Nat) (hc : c ≤ 64) : ∀ (d k i : Nat) {l : List Int} {n : Nat}, i + d = c → d < k → Rgt l n → n + d ≤ 1125899906842616 →
    bits_Put.l0 k l (n : Int) v (c : Int) (i : Int) = some (layA l n (bitsV v i d), ((n + d : Nat) : Int)) := by
  intro d
  induction d with
  | zero =>
    intro k i l n hi hk h hn
    obtain ⟨k, rfl⟩ : ∃ m, k = m + 1 := ⟨k - 1, by omega⟩
    simp only [bits_Put.l0]
    rw [if_neg (by omega)]
    rfl
  | succ d ih =>
    intro k i l n hi hk h hn
    obtain ⟨k, rfl⟩ : ∃ m, k = m + 1 := ⟨k - 1, by omega⟩
    simp only [bits_Put.l0]
    rw [if_pos (by omega), if_pos (by omega), bit_of v i (by omega) hv0 hv1, put1_eq h (vb_01 v i) (by omega)]
    simp only [Option.bind_some]
    rw [show wrap64 ((i : Int) + 1) = ((i + 1 : Nat) : Int) by rw [wrapid (by omega) (by omega)]; omega]
    rw [ih k (i + 1) (by omega) (by omega) (lay_rgt h (vb_01 v i)) (by omega), bitsV, layA, show n + 1 + d = n + (d + 1) by omega]
def putS (l : List Int) (n v c : Int) : List Int × Int × Int := if (okR l n && fitB v c 32) = true then (layA l n.toNat (bitsV v 0 c.toNat), n + c, 0) else ([], 0, 2)
theorem put_eq {k : Nat} (hk : 40 ≤ k) {l : List Int} {n v c : Int} (hb : Byt l) (hl : l.length ≤ 140737488355000) (h0 : -9223372036854775808 ≤ n) (h1 : n ≤ 9223372036854775807) (hv : v ≤ 9223372036854775807) : bits_Put.f k l n v c = some (putS l n v c) := by
  unfold bits_Put.f putS
  rw [check_eq (by omega) hb (by omega) h0 h1]
  simp only [Option.bind_some]
  cases hr : okR l n with
  | false => simp
  | true =>
    rw [fits_eq v c 32 (by omega)]
    simp only [Option.bind_some, if_true]
    cases hf : fitB v c 32 with
    | false => simp
    | true =>
      obtain ⟨f1, f2, f3, f4⟩ := fitB_iff.1 hf
      obtain ⟨r1, r2⟩ := (okR_iff hb).1 hr
      obtain ⟨m, rfl⟩ : ∃ m : Nat, n = (m : Int) := ⟨n.toNat, by omega⟩
      obtain ⟨d, rfl⟩ : ∃ m : Nat, c = (m : Int) := ⟨c.toNat, by omega⟩
      rw [Int.toNat_natCast] at r2
      have hm := r2.2.1
      simp only [if_true, slices_Clone_byte_byte.f, Bool.and_self]
      rw [if_pos (show l.length < 140737488355328 by omega)]
      simp only [Option.bind_some]
      have := putl_eq v f3 hv d (by omega) d k 0 (by omega) (by omega) r2 (by omega)
      rw [show (0 : Int) = ((0 : Nat) : Int) from rfl, this]
      simp only [Option.bind_some, Int.toNat_natCast]
      rw [Int.natCast_add]
/-! ### The document's functions of layer 1 -/
theorem bit_eq {l : List Int} (hb : Byt l) (n : Int) (k : Nat) (hk : k / 8 < l.length) (hk2 : k ≤ 9223372036854775807) : bits_bit.f l n (k : Int) = some (bat l k) := by
  unfold bits_bit.f
  have hx := byt_get hb (k / 8)
  rw [and7 _ (by omega) (by omega), show (k : Int) / 8 = ((k / 8 : Nat) : Int) by omega, show (k : Int) % 8 = ((k % 8 : Nat) : Int) by omega, if_pos (by omega), if_pos (by omega), if_pos (by omega), rd_nat, wrapid (by omega) (by omega), bit_of _ _ (by omega) hx.1 (by omega)]
  rfl
/-- The number of c bits from a on. -/
def getV (l : List Int) (a : Nat) : Nat → Int
  | 0 => 0
  | c + 1 => getV l a c + bat l (a + c) * 2 ^ c
theorem getV_range (l : List Int) (a c : Nat) : 0 ≤ getV l a c ∧ getV l a c < 2 ^ c := by
  induction c with
  | zero => simp [getV]
  | succ c ih =>
    rw [getV, Int.pow_succ]
    rcases bat_01 l (a + c) with e | e <;> rw [e] <;> omega
theorem orI64 {x : Int} {i : Nat} {b : Int} (hi : i ≤ 40) (hx0 : 0 ≤ x) (hx : x < 2 ^ i) (hb : b = 0 ∨ b = 1) : Go.bits .or .i64 x (shl .i64 b (i : Int)) = x + b * 2 ^ i := by
  have h40 := pow_le2 hi
  have e40 : (2 : Int) ^ 40 = 1099511627776 := by decide
  rw [e40] at h40
  have hsh : 0 ≤ b * 2 ^ i ∧ b * 2 ^ i ≤ 1099511627776 := by rcases hb with rfl | rfl <;> omega
  rw [shl_eq b i (by omega), wrapid (by omega) (by omega)]
  obtain ⟨c, rfl⟩ : ∃ c : Nat, x = (c : Int) := ⟨x.toNat, by omega⟩
  obtain ⟨d, rfl⟩ : ∃ d : Nat, b = (d : Int) := ⟨b.toNat, by omega⟩
  have hp : ((2 ^ i : Nat) : Int) = 2 ^ i := by simp
  have e1 : (d : Int) * 2 ^ i = ((d * 2 ^ i : Nat) : Int) := by rw [Int.natCast_mul, hp]
  rw [e1] at hsh ⊢
  rw [i64orN c _ (by omega) (by omega), orAdd c i d (by omega) (by omega)]
  omega
theorem getl_eq {l : List Int} {n : Nat} (h : Rgt l n) (hn : n ≤ 1125899906842624) (a : Nat) (c : Nat) (hc : c ≤ 32) (ha : a + c ≤ n) : ∀ (d k i : Nat), i + d = c → d < k →
    bits_Get.l0 k (a : Int) (getV l a i) (c : Int) (i : Int) l (n : Int) = some (getV l a c, 0) := by
  intro d
  induction d with
  | zero =>
    intro k i hi hk
    obtain ⟨k, rfl⟩ : ∃ m, k = m + 1 := ⟨k - 1, by omega⟩
    simp only [bits_Get.l0]
    rw [if_neg (by omega), show i = c by omega]
  | succ d ih =>
    intro k i hi hk
    obtain ⟨k, rfl⟩ : ∃ m, k = m + 1 := ⟨k - 1, by omega⟩
    have hl := h.2.1
    obtain ⟨g0, g1⟩ := getV_range l a i
    simp only [bits_Get.l0]
    rw [if_pos (by omega), show wrap64 ((a : Int) + (i : Int)) = ((a + i : Nat) : Int) by rw [wrapid (by omega) (by omega)]; omega, bit_eq h.1 _ _ (by omega) (by omega)]
    simp only [Option.bind_some]
    rw [if_pos (by omega), orI64 (by omega) g0 g1 (bat_01 l _), show wrap64 ((i : Int) + 1) = ((i + 1 : Nat) : Int) by rw [wrapid (by omega) (by omega)]; omega]
    exact ih k (i + 1) (by omega) (by omega)
def getS (l : List Int) (n a c : Int) : Int × Int :=
  if (okR l n && decide (0 ≤ c) && decide (c ≤ 32) && decide (0 ≤ a) && decide (a ≤ n)) = true then (if n - a < c then (0, 4) else (getV l a.toNat c.toNat, 0)) else (0, 2)
theorem get_eq {k : Nat} (hk : 40 ≤ k) {l : List Int} {n a c : Int} (hb : Byt l) (hl : l.length ≤ 140737488355328) (h0 : -9223372036854775808 ≤ n) (h1 : n ≤ 9223372036854775807) : bits_Get.f k l n a c = some (getS l n a c) := by
  obtain ⟨k, rfl⟩ : ∃ m, k = m + 1 := ⟨k - 1, by omega⟩
  unfold bits_Get.f getS
  rw [check_eq (by omega) hb hl h0 h1]
  simp only [Option.bind_some]
  cases hr : okR l n with
  | false => simp [bits_Get.j0]
  | true =>
    simp only [if_true, Bool.true_and]
    by_cases q1 : c < 0
    · simp [bits_Get.j0, q1, show ¬ (0 ≤ c) by omega]
    · by_cases q2 : c > 32
      · simp [bits_Get.j0, q1, q2, show ¬ (c ≤ 32) by omega]
      · by_cases q3 : a < 0
        · simp [bits_Get.j0, q1, q2, q3, show ¬ (0 ≤ a) by omega]
        · by_cases q4 : a > n
          · simp [bits_Get.j0, q1, q2, q3, q4, show ¬ (a ≤ n) by omega]
          · rw [if_neg q1, if_neg q2, if_neg q3]
            have e : decide (a > n) = false := by simpa using q4
            have e2 : (decide (0 ≤ c) && decide (c ≤ 32) && decide (0 ≤ a) && decide (a ≤ n)) = true := by simp only [Bool.and_eq_true, decide_eq_true_eq]; omega
            rw [e, e2]
            simp only [bits_Get.j0, Bool.false_eq_true, if_false, if_true]
            rw [wrapid (by omega) (by omega)]
            by_cases q5 : n - a < c
            · rw [if_pos q5, if_pos q5]
            · rw [if_neg q5, if_neg q5]
              obtain ⟨r1, r2⟩ := (okR_iff hb).1 hr
              obtain ⟨m, rfl⟩ : ∃ m : Nat, n = (m : Int) := ⟨n.toNat, by omega⟩
              obtain ⟨d, rfl⟩ : ∃ m : Nat, c = (m : Int) := ⟨c.toNat, by omega⟩
              obtain ⟨b, rfl⟩ : ∃ m : Nat, a = (m : Int) := ⟨a.toNat, by omega⟩
              rw [Int.toNat_natCast] at r2
              have := r2.2.1
              simp only [Int.toNat_natCast]
              exact getl_eq r2 (by omega) b d (by omega) (by omega) d k 0 (by omega) (by omega)
/-- The first j bits of a number, turned. -/
def tu (v : Int) : Nat → Int
  | 0 => 0
  | j + 1 => 2 * tu v j + vb v j
theorem tu_range (v : Int) (j : Nat) : 0 ≤ tu v j ∧ tu v j < 2 ^ j := by
  induction j with
  | zero => simp [tu]
  | succ j ih =>
    rw [tu, Int.pow_succ]
    rcases vb_01 v j with e | e <;> rw [e] <;> omega
theorem orTwo (x b : Int) (h0 : 0 ≤ x) (h1 : x ≤ 1099511627776) (hb : b = 0 ∨ b = 1) : Go.bits .or .i64 (wrap64 (x * 2)) b = 2 * x + b := by
  rw [wrapid (by omega) (by omega)]
  obtain ⟨c, rfl⟩ : ∃ c : Nat, x = (c : Int) := ⟨x.toNat, by omega⟩
  obtain ⟨d, rfl⟩ : ∃ d : Nat, b = (d : Int) := ⟨b.toNat, by omega⟩
  have h := Nat.two_pow_add_eq_or_of_lt (i := 1) (b := d) (by omega) c
  rw [show (c : Int) * 2 = ((2 ^ 1 * c : Nat) : Int) by omega, i64orN _ d (by omega) (by omega), ← h]
  omega
theorem turnl_eq (v : Int) (hv0 : 0 ≤ v) (hv1 : v ≤ 9223372036854775807) (c : Nat) (hc : c ≤ 16) : ∀ (d k i : Nat), i + d = c → d < k → bits_Turn.l0 k (v / 2 ^ i) (tu v i) (c : Int) (i : Int) = some (tu v c, 0) := by
  intro d
  induction d with
  | zero =>
    intro k i hi hk
    obtain ⟨k, rfl⟩ : ∃ m, k = m + 1 := ⟨k - 1, by omega⟩
    simp only [bits_Turn.l0]
    rw [if_neg (by omega), show i = c by omega]
  | succ d ih =>
    intro k i hi hk
    obtain ⟨k, rfl⟩ : ∃ m, k = m + 1 := ⟨k - 1, by omega⟩
    obtain ⟨t0, t1⟩ := tu_range v i
    have h40 := pow_le2 (show i ≤ 40 by omega)
    have e40 : (2 : Int) ^ 40 = 1099511627776 := by decide
    rw [e40] at h40
    have hq : v / 2 ^ i ≤ v := Int.ediv_le_self _ hv0
    have hr : 0 ≤ v / 2 ^ i := Int.ediv_nonneg hv0 (by have := pow_pos2 i; omega)
    simp only [bits_Turn.l0]
    rw [if_pos (by omega), and1 _ hr (by omega), show v / 2 ^ i % 2 = vb v i from rfl, orTwo _ _ t0 (by omega) (vb_01 v i), ← div_pow_succ, show wrap64 ((i : Int) + 1) = ((i + 1 : Nat) : Int) by rw [wrapid (by omega) (by omega)]; omega]
    exact ih k (i + 1) (by omega) (by omega)
def turnS (v n : Int) : Int × Int := if fitB v n 16 = true then (tu v n.toNat, 0) else (0, 2)
theorem turn_eq {k : Nat} (hk : 40 ≤ k) (v n : Int) (hv : v ≤ 9223372036854775807) : bits_Turn.f k v n = some (turnS v n) := by
  unfold bits_Turn.f turnS
  rw [fits_eq v n 16 (by omega)]
  simp only [Option.bind_some]
  cases hf : fitB v n 16 with
  | false => simp
  | true =>
    obtain ⟨f1, f2, f3, f4⟩ := fitB_iff.1 hf
    obtain ⟨d, rfl⟩ : ∃ m : Nat, n = (m : Int) := ⟨n.toNat, by omega⟩
    simp only [if_true, Int.toNat_natCast]
    have := turnl_eq v f3 hv d (by omega) d k 0 (by omega) (by omega)
    simpa [tu] using this
theorem rank_lt (l : List Int) {p q : Nat} (hpq : p < q) (hq : q ≤ l.length) : (l.take p).count (l[p]?.getD 0) + 1 ≤ (l.take q).count (l[p]?.getD 0) := by
  have h1 : (l.take (p + 1)).count (l[p]?.getD 0) = (l.take p).count (l[p]?.getD 0) + 1 := by
    rw [take_succ_getD l (by omega), List.count_append, List.count_singleton, if_pos (beq_iff_eq.mpr rfl)]
  rw [← h1]
  have h2 : l.take (p + 1) = (l.take q).take (p + 1) := by rw [List.take_take, Nat.min_eq_left (by omega)]
  rw [h2]
  exact List.Sublist.count_le _ (List.take_sublist _ _)
theorem code_lt (l : List Int) {p : Nat} (hp : p < l.length) (h0 : l[p]?.getD 0 ≠ 0) : codeN l p + 1 ≤ firstC l (l[p]?.getD 0).toNat + l.count (l[p]?.getD 0) := by
  have := rank_lt l hp (Nat.le_refl _)
  rw [List.take_length] at this
  unfold codeN
  rw [if_neg h0]
  omega
theorem first_grows (l : List Int) {j : Nat} (hj : 1 ≤ j) : ∀ d, 1 ≤ d → (firstC l j + l.count (j : Int)) * 2 ^ d ≤ firstC l (j + d)
  | 0, h => by omega
  | 1, _ => by
    rw [show firstC l (j + 1) = (firstC l j + if j = 0 then 0 else l.count (j : Int)) * 2 from rfl, if_neg (by omega), Nat.pow_one]
    exact Nat.le_refl _
  | d + 2, _ => by
    have ih := first_grows l hj (d + 1) (by omega)
    rw [show firstC l (j + (d + 2)) = (firstC l (j + (d + 1)) + if j + (d + 1) = 0 then 0 else l.count ((j + (d + 1) : Nat) : Int)) * 2 from rfl, if_neg (by omega), Nat.pow_succ, ← Nat.mul_assoc]
    exact Nat.mul_le_mul_right 2 (by omega)
theorem code_ge (l : List Int) {q : Nat} (h0 : l[q]?.getD 0 ≠ 0) : firstC l (l[q]?.getD 0).toNat ≤ codeN l q := by unfold codeN; rw [if_neg h0]; omega
theorem byt_wf {l : List Int} (h : ∀ x ∈ l, (Lit.int .u8 x).wf = true) : Byt l := fun x hx => by
  have h2 : IntKind.u8.min ≤ x ∧ x ≤ IntKind.u8.max := by simpa [Lit.wf] using h x hx
  have e1 : IntKind.u8.min = 0 := by decide +kernel
  have e2 : IntKind.u8.max = 255 := by decide +kernel
  omega
def cX (l : List Int) (j : Nat) : Nat := firstC l j + if j = 0 then 0 else l.count (j : Int)
theorem cX_take (l : List Int) : ∀ j, j ≤ 15 → cX l j * 2 ^ (15 - j) + takeT l (15 - j) = takeT l 15
  | 0, _ => by unfold cX firstC; simp
  | j + 1, hj => by
    have ih := cX_take l j (by omega)
    have e : firstC l (j + 1) = cX l j * 2 := rfl
    have e1 : 15 - j = 15 - (j + 1) + 1 := by omega
    have e2 : takeT l (15 - j) = l.count ((j + 1 : Nat) : Int) * 2 ^ (15 - (j + 1)) + takeT l (15 - (j + 1)) := by
      rw [e1]
      show l.count ((15 - (15 - (j + 1)) : Nat) : Int) * 2 ^ (15 - (j + 1)) + takeT l (15 - (j + 1)) = _
      rw [show 15 - (15 - (j + 1)) = j + 1 by omega]
    have e3 : cX l (j + 1) = cX l j * 2 + l.count ((j + 1 : Nat) : Int) := by
      show firstC l (j + 1) + (if j + 1 = 0 then 0 else l.count ((j + 1 : Nat) : Int)) = _
      rw [if_neg (by omega), e]
    rw [e3, Nat.add_mul, ← ih, e2, e1, Nat.pow_succ, Nat.mul_assoc, Nat.mul_comm 2 (2 ^ _)]
    omega
theorem take_le {l : List Int} (hc : Hu.checkS l = 0 ∨ Hu.checkS l = 12) : takeT l 15 ≤ 32768 := by
  have := checkS_eq l (okl_of_check hc)
  by_cases h : takeT l 15 > 32768
  · rw [if_pos h] at this
    omega
  · omega
theorem code_bound {l : List Int} (hc : Hu.checkS l = 0 ∨ Hu.checkS l = 12) {i a : Nat} (hi : i < l.length) (e : l[i]?.getD 0 = (a : Int)) (h1 : 1 ≤ a) (ha : a ≤ 15) : codeN l i < 2 ^ a := by
  have h2 := code_lt l hi (by omega)
  rw [e, Int.toNat_natCast] at h2
  have h3 := cX_take l a ha
  have h4 := take_le hc
  have h5 : cX l a = firstC l a + l.count (a : Int) := by unfold cX; rw [if_neg (by omega)]
  have h6 : cX l a * 2 ^ (15 - a) ≤ 2 ^ a * 2 ^ (15 - a) := by
    rw [← Nat.pow_add, show a + (15 - a) = 15 by omega]
    omega
  have := Nat.le_of_mul_le_mul_right h6 (Nat.two_pow_pos _)
  omega
/-! ### The used symbols by their lengths, and what stands where -/
/-- The first n symbols of a length. -/
def idxs (l : List Int) (a n : Nat) : List Nat := (List.range n).filter fun j => decide (l[j]?.getD 0 = (a : Int))
theorem idxs_succ (l : List Int) (a n : Nat) : idxs l a (n + 1) = idxs l a n ++ if l[n]?.getD 0 = (a : Int) then [n] else [] := by
  unfold idxs
  rw [List.range_succ, List.filter_append, List.filter_cons, List.filter_nil]
  by_cases h : l[n]?.getD 0 = (a : Int)
  · rw [if_pos (decide_eq_true h), if_pos h]
  · rw [if_neg (by rw [decide_eq_false h]; decide), if_neg h]
theorem idxs_len (l : List Int) (a : Nat) : ∀ n, n ≤ l.length → (idxs l a n).length = (l.take n).count (a : Int)
  | 0, _ => by simp [idxs]
  | n + 1, h => by
    rw [idxs_succ, List.length_append, idxs_len l a n (by omega), take_succ_getD l (by omega), List.count_append, List.count_singleton]
    by_cases e : l[n]?.getD 0 = (a : Int)
    · rw [if_pos e, if_pos (beq_iff_eq.mpr e)]; rfl
    · rw [if_neg e, if_neg (by rw [beq_iff_eq]; exact e)]; rfl
theorem idxs_get (l : List Int) (a : Nat) : ∀ n, n ≤ l.length → ∀ i, i < n → l[i]?.getD 0 = (a : Int) → (idxs l a n)[(l.take i).count (a : Int)]? = some i
  | 0, _, i, hi, _ => by omega
  | n + 1, h, i, hi, e => by
    rw [idxs_succ]
    by_cases h2 : i < n
    · have ih := idxs_get l a n (by omega) i h2 e
      rw [List.getElem?_append_left (by rcases Nat.lt_or_ge ((l.take i).count (a : Int)) (idxs l a n).length with hh | hh; exact hh; rw [List.getElem?_eq_none hh] at ih; cases ih)]
      exact ih
    · obtain rfl : i = n := by omega
      rw [List.getElem?_append_right (by rw [idxs_len l a i (by omega)]; exact Nat.le_refl _), idxs_len l a i (by omega), Nat.sub_self, if_pos e]
      rfl
theorem rank_at (l : List Int) (a : Nat) : ∀ n, n ≤ l.length → ∀ r, r < (l.take n).count (a : Int) → ∃ i, i < n ∧ l[i]?.getD 0 = (a : Int) ∧ (l.take i).count (a : Int) = r
  | 0, _, r, h => by simp at h
  | n + 1, hn, r, h => by
    by_cases h2 : r < (l.take n).count (a : Int)
    · obtain ⟨i, h3, h4, h5⟩ := rank_at l a n (by omega) r h2
      exact ⟨i, by omega, h4, h5⟩
    · rw [take_succ_getD l (by omega), List.count_append, List.count_singleton] at h
      by_cases e : l[n]?.getD 0 = (a : Int)
      · rw [if_pos (beq_iff_eq.mpr e)] at h
        exact ⟨n, by omega, e, by omega⟩
      · rw [if_neg (by rw [beq_iff_eq]; exact e)] at h
        omega
/-- How many symbols have a length of at most j. -/
def frmC (l : List Int) : Nat → Nat
  | 0 => 0
  | j + 1 => frmC l j + l.count ((j + 1 : Nat) : Int)
theorem frmC_mono (l : List Int) {i j : Nat} (h : i ≤ j) : frmC l i ≤ frmC l j := by
  induction j with
  | zero => rw [show i = 0 by omega]; exact Nat.le_refl _
  | succ j ih =>
    rcases Nat.lt_or_ge i (j + 1) with h2 | h2
    · have := ih (by omega); rw [frmC]; omega
    · rw [show i = j + 1 by omega]; exact Nat.le_refl _
theorem symsL_eq (l : List Int) : Hu.symsL l = ((List.range l.length).filter fun j => decide (l[j]?.getD 0 ≠ 0)).map fun (j : Nat) => (j : Int) := by
  unfold Hu.symsL Hu.usedL
  rw [List.filter_map, List.map_map]
  rfl
theorem key_eq (l : List Int) {a : Nat} (h : 1 ≤ a) : (Hu.symsL l).filter (fun x => rd l x == (a : Int)) = (idxs l a l.length).map fun (j : Nat) => (j : Int) := by
  rw [symsL_eq, List.filter_map, List.filter_filter]
  unfold idxs
  congr 1
  refine List.filter_congr (fun j _ => ?_)
  show ((rd l (j : Int) == (a : Int)) && decide (l[j]?.getD 0 ≠ 0)) = decide (l[j]?.getD 0 = (a : Int))
  rw [rdN]
  by_cases e : l[j]?.getD 0 = (a : Int)
  · rw [e, decide_eq_true (show (a : Int) ≠ 0 by omega)]; simp
  · rw [decide_eq_false e, beq_eq_false_iff_ne.mpr e]; rfl
theorem key_zero (l : List Int) : (Hu.symsL l).filter (fun x => rd l x == ((0 : Nat) : Int)) = [] := by
  rw [symsL_eq, List.filter_map, List.filter_filter]
  rw [List.filter_eq_nil_iff.2 (fun j _ => ?_)]
  · rfl
  · show ¬ ((rd l (j : Int) == ((0 : Nat) : Int)) && decide (l[j]?.getD 0 ≠ 0)) = true
    rw [rdN]
    by_cases e : l[j]?.getD 0 = 0
    · rw [decide_eq_false (by rw [e]; simp)]; simp
    · rw [beq_eq_false_iff_ne.mpr (show l[j]?.getD 0 ≠ ((0 : Nat) : Int) from e)]; simp
theorem keys_len (l : List Int) : ∀ n, (Hu.byKey (rd l) (Hu.symsL l) (List.range (n + 1))).length = frmC l n
  | 0 => by
    unfold Hu.byKey
    show (List.flatMap _ [0]).length = 0
    rw [List.flatMap_cons, List.flatMap_nil, List.append_nil, key_zero]; rfl
  | n + 1 => by
    have ih := keys_len l n
    unfold Hu.byKey at ih ⊢
    rw [List.range_succ, List.flatMap_append, List.length_append, ih, List.flatMap_cons, List.flatMap_nil, List.append_nil, key_eq l (by omega), List.length_map, idxs_len l (n + 1) l.length (Nat.le_refl _), List.take_length]
    rfl
theorem symsS_len (l : List Int) : (Hu.symsS l).length = frmC l 15 := keys_len l 15
theorem keys_split (l : List Int) (n : Nat) : ∀ d, ∃ X, Hu.byKey (rd l) (Hu.symsL l) (List.range (n + d)) = Hu.byKey (rd l) (Hu.symsL l) (List.range n) ++ X
  | 0 => ⟨[], (List.append_nil _).symm⟩
  | d + 1 => by
    obtain ⟨X, h⟩ := keys_split l n d
    refine ⟨X ++ (Hu.symsL l).filter (fun x => rd l x == ((n + d : Nat) : Int)), ?_⟩
    rw [← List.append_assoc, ← h]
    unfold Hu.byKey
    rw [show n + (d + 1) = (n + d) + 1 by omega, List.range_succ, List.flatMap_append, List.flatMap_cons, List.flatMap_nil, List.append_nil]
/-- The symbol of a code of a length. -/
def symOf (l : List Int) (a v : Nat) : Int := rd (Hu.symsS l) ((frmC l (a - 1) + (v - firstC l a) : Nat) : Int)
theorem symsS_at (l : List Int) {a i : Nat} (h1 : 1 ≤ a) (h2 : a ≤ 15) (hi : i < l.length) (e : l[i]?.getD 0 = (a : Int)) : rd (Hu.symsS l) ((frmC l (a - 1) + (l.take i).count (a : Int) : Nat) : Int) = (i : Int) := by
  obtain ⟨X, hX⟩ := keys_split l (a + 1) (15 - a)
  rw [show a + 1 + (15 - a) = 16 by omega] at hX
  have hlen : (Hu.byKey (rd l) (Hu.symsL l) (List.range a)).length = frmC l (a - 1) := by
    have := keys_len l (a - 1)
    rwa [show a - 1 + 1 = a by omega] at this
  have hs : Hu.symsS l = Hu.byKey (rd l) (Hu.symsL l) (List.range a) ++ ((idxs l a l.length).map (fun (j : Nat) => (j : Int)) ++ X) := by
    unfold Hu.symsS
    rw [hX, ← List.append_assoc]
    congr 1
    unfold Hu.byKey
    rw [List.range_succ, List.flatMap_append, List.flatMap_cons, List.flatMap_nil, List.append_nil, key_eq l h1]
  have hg := idxs_get l a l.length (Nat.le_refl _) i hi e
  have hlt : (l.take i).count (a : Int) < (idxs l a l.length).length := by
    rcases Nat.lt_or_ge ((l.take i).count (a : Int)) (idxs l a l.length).length with hh | hh
    · exact hh
    · rw [List.getElem?_eq_none hh] at hg; cases hg
  rw [rdN, hs, List.getElem?_append_right (by omega), hlen, Nat.add_sub_cancel_left, List.getElem?_append_left (by rw [List.length_map]; exact hlt), List.getElem?_map, hg]
  rfl
theorem cX_eq (l : List Int) {a : Nat} (h : 1 ≤ a) : cX l a = firstC l a + l.count (a : Int) := by unfold cX; rw [if_neg (by omega)]
theorem firstC_succ (l : List Int) (a : Nat) : firstC l (a + 1) = 2 * cX l a := by
  show (firstC l a + if a = 0 then 0 else l.count (a : Int)) * 2 = _
  unfold cX; omega
/-- Every number of a length's codes is a symbol's. -/
theorem sym_of (l : List Int) {a v : Nat} (h1 : 1 ≤ a) (h2 : a ≤ 15) (hv : firstC l a ≤ v) (hv2 : v < cX l a) : ∃ i, i < l.length ∧ l[i]?.getD 0 = (a : Int) ∧ codeN l i = v ∧ symOf l a v = (i : Int) := by
  rw [cX_eq l h1] at hv2
  obtain ⟨i, hi, e, er⟩ := rank_at l a l.length (Nat.le_refl _) (v - firstC l a) (by rw [List.take_length]; omega)
  refine ⟨i, hi, e, ?_, ?_⟩
  · unfold codeN
    rw [e, if_neg (by omega), Int.toNat_natCast, er]; omega
  · have := symsS_at l h1 h2 hi e
    rw [er] at this
    exact this
theorem code_symOf (l : List Int) {a i : Nat} (h1 : 1 ≤ a) (h2 : a ≤ 15) (hi : i < l.length) (e : l[i]?.getD 0 = (a : Int)) : firstC l a ≤ codeN l i ∧ codeN l i < cX l a ∧ symOf l a (codeN l i) = (i : Int) := by
  have hc : codeN l i = firstC l a + (l.take i).count (a : Int) := by
    unfold codeN
    rw [e, if_neg (by omega), Int.toNat_natCast]
  have h3 := code_lt l hi (by omega)
  rw [e, Int.toNat_natCast] at h3
  refine ⟨by omega, by rw [cX_eq l h1]; omega, ?_⟩
  unfold symOf
  rw [hc, Nat.add_sub_cancel_left]
  exact symsS_at l h1 h2 hi e
/-- A number that is none of the codes up to its length begins a longer one, where the code is whole. -/
theorem begins_some (l : List Int) (hw : cX l 15 = 32768) : ∀ (d n v : Nat), n + d = 15 → 1 ≤ n → cX l n ≤ v → v < 2 ^ n → ∃ a i, n < a ∧ a ≤ 15 ∧ i < l.length ∧ l[i]?.getD 0 = (a : Int) ∧ codeN l i / 2 ^ (a - n) = v
  | 0, n, v, hd, _, h1, h2 => by
    obtain rfl : n = 15 := by omega
    rw [hw] at h1; omega
  | d + 1, n, v, hd, hn, h1, h2 => by
    by_cases h : 2 * v < cX l (n + 1)
    · obtain ⟨i, hi, e, ec, _⟩ := sym_of l (show 1 ≤ n + 1 by omega) (by omega) (by rw [firstC_succ]; omega) h
      refine ⟨n + 1, i, by omega, by omega, hi, e, ?_⟩
      rw [ec, Nat.add_sub_cancel_left, Nat.pow_one]; omega
    · obtain ⟨a, i, h3, h4, h5, h6, h7⟩ := begins_some l hw d (n + 1) (2 * v) (by omega) (by omega) (by omega) (by rw [Nat.pow_succ]; omega)
      refine ⟨a, i, by omega, h4, h5, h6, ?_⟩
      rw [show a - n = (a - (n + 1)) + 1 by omega, Nat.pow_succ, ← Nat.div_div_eq_div_mul, h7]; omega
end Go.Proofs.Ythcndpdfcippiaa.Pr

-- YthcndpdfcippiaaPh3
namespace Go.Proofs.Ythcndpdfcippiaa.Pr
open Go.RowKit Go.Proofs.YthcndpdfcippiaaW.PrintWords Go.Proofs.YthcndpdfcippiaaW.PrintLast Go.Proofs.YthcndpdfcippiaaW.PrintMore
set_option linter.unusedVariables false
set_option linter.unusedSimpArgs false
set_option maxRecDepth 100000
/-! ### Reading by a table: what both do -/
theorem bat_nat (b : List Int) (p : Nat) : ((bat b p).toNat : Int) = bat b p := by rcases bat_01 b p with h | h <;> rw [h] <;> rfl
theorem bat_le (b : List Int) (p : Nat) : (bat b p).toNat ≤ 1 := by rcases bat_01 b p with h | h <;> rw [h] <;> decide
/-- What is read from p on, behind the bits of v, with d lengths left. -/
def scan (l b : List Int) (m : Nat) : Nat → Nat → Nat → Int × Int × Int
  | 0, _, _ => (0, 0, 13)
  | d + 1, p, v => if m ≤ p then (0, 0, 4) else
      if 2 * v + (bat b p).toNat < cX l (15 - d) then (symOf l (15 - d) (2 * v + (bat b p).toNat), ((p + 1 : Nat) : Int), 0)
      else if frmC l (15 - d) = frmC l 15 then (0, 0, 13) else scan l b m d (p + 1) (2 * v + (bat b p).toNat)
theorem frmC_le (l : List Int) (hl : l.length ≤ 288) : ∀ j, frmC l j ≤ 288 * j
  | 0 => by simp [frmC]
  | j + 1 => by
    have ih := frmC_le l hl j
    have hc : l.count ((j + 1 : Nat) : Int) ≤ 288 := Nat.le_trans List.count_le_length hl
    rw [frmC]; omega
theorem frmC_pred (l : List Int) {a : Nat} (h : 1 ≤ a) : frmC l a = frmC l (a - 1) + l.count (a : Int) := by
  obtain ⟨j, rfl⟩ : ∃ j, a = j + 1 := ⟨a - 1, by omega⟩
  rfl
theorem get_one {b : List Int} {m p : Nat} (hb : Rgt b m) (hp : p ≤ m) : getS b (m : Int) (p : Int) 1 = if m ≤ p then (0, 4) else (bat b p, 0) := by
  unfold getS
  rw [okR_nat hb, decide_eq_true (show (0 : Int) ≤ 1 by decide), decide_eq_true (show (1 : Int) ≤ 32 by decide), decide_eq_true (show (0 : Int) ≤ (p : Int) by omega), decide_eq_true (show (p : Int) ≤ (m : Int) by omega), if_pos (by decide)]
  by_cases h : m ≤ p
  · rw [if_pos (by omega), if_pos h]
  · rw [if_neg (by omega), if_neg h, Int.toNat_natCast]
    show ((0 : Int) + bat b (p + 0) * 2 ^ 0, (0 : Int)) = _
    rw [Nat.add_zero, Int.pow_zero, Int.mul_one, Int.zero_add]
theorem w64_add (a b : Nat) (h : a + b ≤ 4611686018427387904) : wrap64 ((a : Int) + (b : Int)) = ((a + b : Nat) : Int) := by rw [wrap64_id (by omega) (by omega)]; omega
theorem w64_succ (a : Nat) (h : a ≤ 4611686018427387904) : wrap64 ((a : Int) + 1) = ((a + 1 : Nat) : Int) := by rw [wrap64_id (by omega) (by omega)]; omega
theorem w64_dbl (a : Nat) (h : a ≤ 2305843009213693952) : wrap64 ((a : Int) * 2) = ((2 * a : Nat) : Int) := by rw [wrap64_id (by omega) (by omega)]; omega
theorem w64_sub (a b : Nat) (h : b ≤ a) (ha : a ≤ 4611686018427387904) : wrap64 ((a : Int) - (b : Int)) = ((a - b : Nat) : Int) := by rw [wrap64_id (by omega) (by omega)]; omega
theorem w64_isub (a b : Nat) (hb : b ≤ 4611686018427387904) (ha : a ≤ 4611686018427387904) : wrap64 ((a : Int) - (b : Int)) = (a : Int) - (b : Int) := wrap64_id (by omega) (by omega)
theorem readL_eq {k : Nat} (hk : 40 ≤ k) {l b : List Int} {m : Nat} (hl : OKL l) (hb : Rgt b m) (hbl : b.length ≤ 140737488355328) :
    ∀ d p v, d ≤ 15 → p ≤ m → cX l (15 - d) ≤ v → v < 2 ^ (15 - d) → readL k (Hu.countedS l).1 (Hu.symsS l) b (m : Int) d (p : Int) (v : Int) ((cX l (15 - d) : Nat) : Int) ((frmC l (15 - d) : Nat) : Int) = some (scan l b m d p v)
  | 0, p, v, _, _, _, _ => rfl
  | d + 1, p, v, hd, hp, h1, h2 => by
    have hm : m ≤ 1125899906842624 := by have := hb.2.1; omega
    obtain ⟨L, hL⟩ : ∃ L, 15 - d = L := ⟨_, rfl⟩
    obtain ⟨M, hM⟩ : ∃ M, 15 - (d + 1) = M := ⟨_, rfl⟩
    have hLM : L = M + 1 := by omega
    have hL15 : L ≤ 15 := by omega
    have hM15 : M < 15 := by omega
    have hfr := frmC_le l hl.2.1 15
    have hmon := frmC_mono l hL15
    have hmon2 : frmC l L = frmC l M + l.count (L : Int) := by subst hLM; rfl
    have hcnt := counted_rd l hl L hL15
    rw [if_neg (show ¬ L = 0 by omega)] at hcnt
    have hfc : firstC l L = 2 * cX l M := by subst hLM; exact firstC_succ l M
    have hcx : cX l L = firstC l L + l.count (L : Int) := cX_eq l (by omega)
    have hcl : l.count (L : Int) ≤ 288 := Nat.le_trans List.count_le_length hl.2.1
    have hfl := firstC_lt l hl.2.1 (show L ≤ 16 by omega)
    rw [hM] at h1 h2 ⊢
    have hv15 : v < 32768 := Nat.lt_of_lt_of_le h2 (Nat.le_trans (Nat.pow_le_pow_right (by omega) (show M ≤ 15 by omega)) (by decide))
    rw [readL, scan, get_eq hk hb.1 hbl (by omega) (by omega), get_one hb hp, hL, hcnt]
    simp only [Option.bind_some]
    by_cases hmp : m ≤ p
    · rw [if_pos hmp, if_pos hmp]
      rfl
    · rw [if_neg hmp, if_neg hmp, if_pos (show ((bat b p, (0 : Int)) : Int × Int).2 = 0 from rfl)]
      show (if wrap64 (Go.bits .or .i64 (wrap64 ((v : Int) * 2)) (bat b p) - wrap64 (((cX l M : Nat) : Int) * 2)) < _ then _ else _) = _
      rw [orTwo _ _ (by omega) (by omega) (bat_01 b p)]
      have hbn := bat_nat b p
      have hbl1 := bat_le b p
      generalize (bat b p).toNat = t at hbn hbl1 ⊢
      rw [← hbn]
      obtain ⟨v', hv'⟩ : ∃ v', 2 * v + t = v' := ⟨_, rfl⟩
      have e1 : (2 * (v : Int) + (t : Int)) = (v' : Int) := by omega
      rw [e1, w64_dbl (cX l M) (by omega), show 2 * cX l M = firstC l L by omega, hv', w64_isub v' (firstC l L) (by omega) (by omega)]
      by_cases hf : v' < cX l L
      · rw [if_pos (by omega), if_pos hf, w64_add (frmC l M) v' (by omega), w64_sub (frmC l M + v') (firstC l L) (by omega) (by omega), show frmC l M + v' - firstC l L = frmC l (L - 1) + (v' - firstC l L) by rw [show L - 1 = M by omega]; omega]
        rw [if_pos (by omega), if_pos (by rw [symsS_len, show L - 1 = M by omega]; omega), w64_succ p (by omega)]
        rfl
      · rw [if_neg (by omega), if_neg hf]
        rw [w64_add (frmC l M) (l.count (L : Int)) (by omega), ← hmon2, w64_add (firstC l L) (l.count (L : Int)) (by omega), ← hcx, symsS_len]
        by_cases ht : frmC l L = frmC l 15
        · rw [if_pos (by omega), if_pos ht]
        · rw [if_neg (by omega), if_neg ht, w64_succ p (by omega)]
          have ih := readL_eq hk hl hb hbl d (p + 1) v' (by omega) (by omega) (by rw [hL]; omega) (by rw [hL, hLM, Nat.pow_succ]; omega)
          rw [hL] at ih
          exact ih
/-- What Read tells of a table of lengths. -/
def readS (l b : List Int) (n p : Int) : Int × Int × Int := if okR b n = true ∧ 0 ≤ p ∧ p ≤ n then scan l b n.toNat 15 p.toNat 0 else (0, 0, 2)
theorem readF_eq {k : Nat} (hk : 40 ≤ k) {l b : List Int} {n : Int} (p : Int) (hl : OKL l) (hb : Byt b) (hbl : b.length ≤ 140737488355328) (h0 : -9223372036854775808 ≤ n) (h1 : n ≤ 9223372036854775807) :
    readF k (Hu.countedS l).1 (Hu.symsS l) b n p = some (readS l b n p) := by
  unfold readF readS
  rw [check_eq (by omega) hb hbl h0 h1]
  simp only [Option.bind_some]
  by_cases hok : okR b n = true
  · rw [if_pos hok, if_pos rfl]
    obtain ⟨hn, hr⟩ := (okR_iff hb).1 hok
    by_cases hp : p < 0
    · rw [if_pos hp, if_neg (by omega)]
    · rw [if_neg hp]
      by_cases hp2 : p > n
      · rw [if_pos hp2, if_neg (by omega)]
      · rw [if_neg hp2, if_pos ⟨hok, by omega, by omega⟩]
        obtain ⟨m, rfl⟩ : ∃ m : Nat, n = (m : Int) := ⟨n.toNat, by omega⟩
        obtain ⟨q, rfl⟩ : ∃ q : Nat, p = (q : Int) := ⟨p.toNat, by omega⟩
        rw [Int.toNat_natCast, Int.toNat_natCast]
        rw [Int.toNat_natCast] at hr
        exact readL_eq hk hl hr hbl 15 q 0 (by omega) (by omega) (by simp [cX, firstC]) (by decide)
  · rw [if_neg hok, if_neg (by decide), if_neg (fun h => hok h.1)]
/-- Lengths that are a table. -/
def Tbl (l : List Int) : Prop := OKL l ∧ (Hu.checkS l = 0 ∨ Hu.checkS l = 12) ∧ (cX l 15 = 32768 ∨ frmC l 1 = frmC l 15)
/-! ### What is a table -/
theorem nz_len (l : List Int) : ∀ n, n ≤ l.length → ((List.range n).filter fun j => decide (l[j]?.getD 0 ≠ 0)).length = (l.take n).countP fun x => decide (x ≠ 0)
  | 0, _ => by simp
  | n + 1, h => by
    rw [List.range_succ, List.filter_append, List.length_append, nz_len l n (by omega), take_succ_getD l (by omega), List.countP_append, List.filter_cons, List.filter_nil, List.countP_cons, List.countP_nil]
    by_cases e : l[n]?.getD 0 = 0
    · simp [e]
    · simp [e]
theorem symsL_nz (l : List Int) : (Hu.symsL l).length = l.countP fun x => decide (x ≠ 0) := by
  rw [symsL_eq, List.length_map, nz_len l l.length (Nat.le_refl _), List.take_length]
theorem frmC_countP (l : List Int) : ∀ n, frmC l n = l.countP fun x => decide (1 ≤ x ∧ x ≤ (n : Int))
  | 0 => by
    rw [frmC, eq_comm, List.countP_eq_zero]
    intro x _
    rw [decide_eq_true_eq]; omega
  | n + 1 => by
    rw [frmC, frmC_countP l n]
    induction l with
    | nil => rfl
    | cons x l ih =>
      rw [List.countP_cons, List.countP_cons, List.count_cons, ← ih]
      by_cases h1 : x = ((n + 1 : Nat) : Int)
      · rw [if_neg (by rw [decide_eq_true_eq]; omega), if_pos (beq_iff_eq.mpr h1), if_pos (by rw [decide_eq_true_eq]; omega)]; omega
      · rw [if_neg (show ¬ (x == ((n + 1 : Nat) : Int)) = true by rw [beq_iff_eq]; exact h1)]
        by_cases h2 : 1 ≤ x ∧ x ≤ (n : Int)
        · rw [if_pos (decide_eq_true h2), if_pos (by rw [decide_eq_true_eq]; omega)]; omega
        · rw [if_neg (by rw [decide_eq_true_eq]; exact h2), if_neg (by rw [decide_eq_true_eq]; omega)]; omega
theorem frmC_le_syms (l : List Int) (n : Nat) : frmC l n ≤ (Hu.symsL l).length := by
  rw [frmC_countP, symsL_nz]
  refine List.countP_mono_left (fun x _ h => ?_)
  rw [decide_eq_true_eq] at h ⊢
  omega
theorem tbl_of_new {l : List Int} (h : Hu.newS l = 0) : Tbl l := by
  unfold Hu.newS at h
  by_cases h2 : Hu.checkS l = 2
  · rw [if_pos h2] at h; omega
  · rw [if_neg h2] at h
    by_cases h0 : Hu.checkS l = 0
    · have hl := okl_of_check (.inl h0)
      refine ⟨hl, .inl h0, .inl ?_⟩
      have h3 := checkS_eq l hl
      have h4 := cX_take l 15 (Nat.le_refl _)
      have h5 : takeT l 15 = 32768 := by
        rw [h0] at h3
        by_cases a : takeT l 15 > 32768
        · rw [if_pos a] at h3; omega
        · rw [if_neg a] at h3
          by_cases b : takeT l 15 < 32768
          · rw [if_pos b] at h3; omega
          · omega
      rw [Nat.sub_self, Nat.pow_zero, Nat.mul_one, takeT, h5] at h4
      omega
    · by_cases hc : Hu.checkS l ≠ 0 ∧ (Hu.checkS l ≠ 12 ∨ (Hu.symsL l).length ≠ 1 ∨ rd (Hu.countedS l).1 1 ≠ 1)
      · rw [if_pos hc] at h; exact absurd h h0
      · have h12 : Hu.checkS l = 12 := Decidable.byContradiction fun e => hc ⟨h0, .inl e⟩
        have hs : (Hu.symsL l).length = 1 := Decidable.byContradiction fun e => hc ⟨h0, .inr (.inl e)⟩
        have hr : rd (Hu.countedS l).1 1 = 1 := Decidable.byContradiction fun e => hc ⟨h0, .inr (.inr e)⟩
        have hl := okl_of_check (.inr h12)
        refine ⟨hl, .inr h12, .inr ?_⟩
        have h3 := counted_rd l hl 1 (by decide)
        rw [if_neg (by decide)] at h3
        have h4 := frmC_le_syms l 15
        have h5 := frmC_mono l (show 1 ≤ 15 by decide)
        have h6 : frmC l 1 = l.count ((1 : Nat) : Int) := by show 0 + l.count ((1 : Nat) : Int) = _; omega
        have h7 : rd (Hu.countedS l).1 ((1 : Nat) : Int) = 1 := hr
        omega
theorem okl_all (l : List Int) : Hu.checkS l ≠ 2 → (∀ x ∈ l, 0 ≤ x ∧ x ≤ 15) ∧ l.length ≤ 288 := fun h => by
  have hl : OKL l := Decidable.byContradiction fun e => h (checkS_bad l e)
  exact ⟨hl.2.2, hl.2.1⟩
end Go.Proofs.Ythcndpdfcippiaa.Pr

-- YthcndpdfcippiaaPh4
namespace Go.Proofs.Ythcndpdfcippiaa.Pr
open Go.RowKit Go.Proofs.YthcndpdfcippiaaW.PrintWords Go.Proofs.YthcndpdfcippiaaW.PrintLast Go.Proofs.YthcndpdfcippiaaW.PrintMore
set_option linter.unusedVariables false
set_option linter.unusedSimpArgs false
set_option maxRecDepth 100000
theorem vb_tu (v : Int) : ∀ (j i : Nat), i < j → vb (tu v j) i = vb v (j - 1 - i)
  | j + 1, 0, _ => by
    rw [vb_zero, tu]
    have := vb_01 v j
    rw [show j + 1 - 1 - 0 = j by omega]
    omega
  | j + 1, i + 1, h => by
    rw [vb_half, tu, show (2 * tu v j + vb v j) / 2 = tu v j by have := vb_01 v j; omega, vb_tu v j i (by omega), show j + 1 - 1 - (i + 1) = j - 1 - i by omega]
/-- A number's bits, the highest first. -/
def bitsD (v : Int) : Nat → List Int
  | 0 => []
  | d + 1 => vb v d :: bitsD v d
theorem bitsD_len (v : Int) : ∀ d, (bitsD v d).length = d
  | 0 => rfl
  | d + 1 => by rw [bitsD, List.length_cons, bitsD_len v d]
theorem bitsD_01 (v : Int) : ∀ d, ∀ b ∈ bitsD v d, b = 0 ∨ b = 1
  | 0, b, h => by cases h
  | d + 1, b, h => (List.mem_cons.1 h).elim (fun e => e ▸ vb_01 v d) (bitsD_01 v d b)
theorem bitsD_get (v : Int) : ∀ d j, j < d → (bitsD v d).getD j 0 = vb v (d - 1 - j)
  | 0, _, h => by omega
  | d + 1, 0, _ => by rw [bitsD, List.getD_cons_zero]; rfl
  | d + 1, j + 1, h => by rw [bitsD, List.getD_cons_succ, bitsD_get v d j (by omega), show d + 1 - 1 - (j + 1) = d - 1 - j by omega]
theorem bits_turned (v : Int) (c : Nat) : bitsV (tu v c) 0 c = bitsD v c := by
  apply List.ext_getElem (by rw [bitsV_len, bitsD_len])
  intro j h1 h2
  rw [bitsV_len] at h1
  have e1 := bitsV_get (tu v c) 0 c j h1
  have e2 := bitsD_get v c j h1
  rw [Nat.zero_add, vb_tu v c j h1] at e1
  rw [List.getD_eq_getElem?_getD, List.getElem?_eq_getElem (by rw [bitsV_len]; exact h1), Option.getD_some] at e1
  rw [List.getD_eq_getElem?_getD, List.getElem?_eq_getElem (by rw [bitsD_len]; exact h1), Option.getD_some] at e2
  rw [e1, e2]
/-- What huff.Put tells. -/
def hputS (l : List Int) (n : Int) (zs : List Int) (sym : Int) : List Int × Int × Int :=
  if OKL zs ∧ okR l n = true ∧ 0 ≤ sym ∧ sym < (zs.length : Int) then
    if Hu.checkS zs = 0 ∨ Hu.checkS zs = 12 then (if rd zs sym = 0 then ([], 0, 13) else (layA l n.toNat (bitsD ((codeN zs sym.toNat : Nat) : Int) (rd zs sym).toNat), n + rd zs sym, 0)) else ([], 0, Hu.checkS zs) else ([], 0, 2)
theorem hput_eq {k : Nat} (hk : 40 ≤ k) {l : List Int} {n : Int} (zs : List Int) (sym : Int) (hb : Byt l) (hl : l.length ≤ 140737488351232) (h0 : -9223372036854775808 ≤ n) (h1 : n ≤ 9223372036854775807) : huff_Put.f k l n zs sym = some (hputS l n zs sym) := by
  unfold huff_Put.f hputS
  by_cases h : OKL zs
  · rw [if_neg (by rw [(counted_ok zs).2 h]; decide), check_eq (by omega) hb (by omega) h0 h1, Option.bind_some]
    by_cases hr : okR l n = true
    · rw [if_pos (c := okR l n = true) hr, if_pos rfl]
      by_cases s0 : sym < 0
      · rw [if_pos s0, if_neg (by omega)]
      · rw [if_neg s0]
        by_cases s1 : (zs.length : Int) ≤ sym
        · rw [if_pos s1, if_neg (by omega)]
        · rw [if_neg s1, if_pos (c := OKL zs ∧ okR l n = true ∧ 0 ≤ sym ∧ sym < (zs.length : Int)) ⟨h, hr, by omega, by omega⟩, codesS_eq]
          by_cases hc : Hu.checkS zs = 0 ∨ Hu.checkS zs = 12
          · rw [if_pos hc, if_pos hc]
            dsimp only
            rw [if_pos rfl]
            by_cases y0 : rd zs sym = 0
            · rw [if_pos y0, if_pos y0]
            · obtain ⟨s, rfl⟩ : ∃ s : Nat, sym = (s : Int) := ⟨sym.toNat, by omega⟩
              have hs : s < zs.length := by omega
              have hm := h.2.2 _ (mem_of_getD hs)
              rw [← rdN] at hm
              obtain ⟨a, ea⟩ : ∃ a : Nat, rd zs (s : Int) = (a : Int) := ⟨(rd zs (s : Int)).toNat, by omega⟩
              have hcb := code_bound hc hs ((rdN zs s).symm.trans ea) (by omega) (show a ≤ 15 by omega)
              have hpw : (2 : Nat) ^ a ≤ 2 ^ 15 := Nat.pow_le_pow_right (by omega) (by omega)
              have hcz : ((codeN zs s : Nat) : Int) < 2 ^ a := by exact_mod_cast hcb
              rw [if_neg y0, if_neg y0, if_pos (by rw [codesV_len]; omega), codesV_rd zs hs, ea, turn_eq hk _ _ (by omega)]
              have hf : fitB ((codeN zs s : Nat) : Int) (a : Int) 16 = true := fitB_iff.2 ⟨by omega, by omega, by omega, by rw [Int.toNat_natCast]; exact hcz⟩
              have ht : turnS ((codeN zs s : Nat) : Int) (a : Int) = (tu ((codeN zs s : Nat) : Int) a, 0) := by unfold turnS; rw [if_pos hf, Int.toNat_natCast]
              have tr := tu_range ((codeN zs s : Nat) : Int) a
              have hpz : (2 : Int) ^ a ≤ 2 ^ 15 := by exact_mod_cast hpw
              have hf2 : fitB (tu ((codeN zs s : Nat) : Int) a) (a : Int) 32 = true := fitB_iff.2 ⟨by omega, by omega, tr.1, by rw [Int.toNat_natCast]; exact tr.2⟩
              rw [ht, Option.bind_some]
              dsimp only
              rw [put_eq hk hb (by omega) h0 h1 (by have := tr.2; omega)]
              unfold putS
              rw [hr, hf2, Bool.and_self, if_pos rfl, Int.toNat_natCast, Int.toNat_natCast, bits_turned]
          · rw [if_neg hc, if_neg hc]
            dsimp only
            rw [if_neg (by omega)]
    · rw [if_neg (c := okR l n = true) hr, if_neg (by omega), if_neg (fun hh => hr hh.2.1)]
  · rw [if_pos (by cases hh : (Hu.countedS zs).2 with | false => rfl | true => exact absurd ((counted_ok zs).1 hh) h), if_neg (fun hh => h hh.1)]
theorem umod (a : Int) {n : Nat} (h1 : 1 ≤ n) (h2 : n ≤ 288) : ∃ p : Nat, p < n ∧ wrap64 (Int.tmod (IntKind.u64.wrap a) (IntKind.u64.wrap (n : Int))) = (p : Int) := by
  have e1 : IntKind.u64.wrap (n : Int) = (n : Int) := by rw [IntKind.wrap_u64]; omega
  have e2 : 0 ≤ IntKind.u64.wrap a := by rw [IntKind.wrap_u64]; omega
  rw [e1]
  have h3 := Int.tmod_nonneg (n : Int) e2
  have h4 := Int.tmod_lt_of_pos (IntKind.u64.wrap a) (show (0 : Int) < (n : Int) by omega)
  refine ⟨(Int.tmod (IntKind.u64.wrap a) (n : Int)).toNat, by omega, ?_⟩
  rw [wrap64_id (by omega) (by omega)]
  omega
/-! ### Codes that were put are read; a whole code reads whatever bits -/
/-- The bits from p on are those of a symbol's code, the highest first. -/
def CodeAt (l b : List Int) (p i a : Nat) : Prop := ∀ t, t < a → bat b (p + t) = ((codeN l i / 2 ^ (a - 1 - t) % 2 : Nat) : Int)
theorem scan_hit {l : List Int} (hl : OKL l) {b : List Int} {m : Nat} {i a : Nat} (hi : i < l.length) (e : l[i]?.getD 0 = (a : Int)) (h1 : 1 ≤ a) (p : Nat) (hp : p + a ≤ m) (hc : CodeAt l b p i a) :
    ∀ d n, n + d = 15 → n < a → scan l b m d (p + n) (codeN l i / 2 ^ (a - n)) = ((i : Int), ((p + a : Nat) : Int), 0)
  | 0, n, hd, hn => by
    have := hl.2.2 _ (mem_of_getD hi)
    omega
  | d + 1, n, hd, hn => by
    have ha := hl.2.2 _ (mem_of_getD hi)
    have hb := hc n hn
    obtain ⟨L, hL⟩ : ∃ L, n + 1 = L := ⟨_, rfl⟩
    have hd15 : 15 - d = L := by omega
    have hv : 2 * (codeN l i / 2 ^ (a - n)) + (bat b (p + n)).toNat = codeN l i / 2 ^ (a - L) := by
      rw [hb, Int.toNat_natCast, show a - n = (a - L) + 1 by omega, show a - 1 - n = a - L by omega, Nat.pow_succ, ← Nat.div_div_eq_div_mul]
      omega
    rw [scan, hd15, if_neg (by omega), hv]
    by_cases hLa : L = a
    · subst hLa
      obtain ⟨g1, g2, g3⟩ := code_symOf l h1 (by omega) hi e
      rw [Nat.sub_self, Nat.pow_zero, Nat.div_one, if_pos g2, g3, show p + n + 1 = p + L by omega]
    · have hlt : L < a := by omega
      have hcx := cX_eq l (show 1 ≤ L by omega)
      have hg := first_grows l (show 1 ≤ L by omega) (a - L) (by omega)
      have hge := code_ge l (q := i) (by omega)
      rw [e, Int.toNat_natCast] at hge
      rw [show L + (a - L) = a by omega, ← hcx] at hg
      have hno : ¬ codeN l i / 2 ^ (a - L) < cX l L := by
        rw [Nat.not_lt, Nat.le_div_iff_mul_le (Nat.two_pow_pos _)]
        omega
      have hfr : ¬ frmC l L = frmC l 15 := by
        have h3 := frmC_mono l (show L ≤ a - 1 by omega)
        have h4 := frmC_mono l (show a ≤ 15 by omega)
        have h5 := frmC_pred l h1
        have h6 : 0 < l.count (a : Int) := List.count_pos_iff.2 (by rw [← e]; exact mem_of_getD hi)
        omega
      rw [if_neg hno, if_neg hfr, show p + n + 1 = p + L by omega]
      exact scan_hit hl hi e h1 p hp hc d L (by omega) hlt
theorem scan_code {l : List Int} (hl : OKL l) {b : List Int} {m : Nat} {i a : Nat} (hi : i < l.length) (e : l[i]?.getD 0 = (a : Int)) (h1 : 1 ≤ a) (hcb : codeN l i < 2 ^ a) (p : Nat) (hp : p + a ≤ m) (hc : CodeAt l b p i a) :
    scan l b m 15 p 0 = ((i : Int), ((p + a : Nat) : Int), 0) := by
  have h := scan_hit hl hi e h1 p hp hc 15 0 (by omega) (by omega)
  rw [Nat.sub_zero, Nat.div_eq_of_lt hcb] at h
  exact h
theorem scan_whole {l : List Int} (hl : OKL l) (hw : cX l 15 = 32768) (b : List Int) (m : Nat) : ∀ d p v, d ≤ 15 → p + d ≤ m → cX l (15 - d) ≤ v → v < 2 ^ (15 - d) →
    ∃ i a : Nat, i < l.length ∧ l[i]?.getD 0 = (a : Int) ∧ 15 - d < a ∧ a ≤ 15 ∧ scan l b m d p v = ((i : Int), ((p + (a - (15 - d)) : Nat) : Int), 0)
  | 0, p, v, _, _, h1, h2 => by
    rw [Nat.sub_zero, hw] at h1
    have : (2 : Nat) ^ (15 - 0) = 32768 := by decide
    omega
  | d + 1, p, v, hd, hp, h1, h2 => by
    obtain ⟨L, hL⟩ : ∃ L, 15 - d = L := ⟨_, rfl⟩
    have hM : 15 - (d + 1) = L - 1 := by omega
    rw [hM] at h1 h2 ⊢
    have ht := bat_le b p
    rw [scan, hL, if_neg (by omega)]
    generalize (bat b p).toNat = t at ht ⊢
    have hpw : 2 ^ L = 2 * 2 ^ (L - 1) := by
      obtain ⟨M, rfl⟩ : ∃ M, L = M + 1 := ⟨L - 1, by omega⟩
      rw [Nat.add_sub_cancel, Nat.pow_succ]; omega
    have hfc : firstC l L = 2 * cX l (L - 1) := by
      obtain ⟨M, rfl⟩ : ∃ M, L = M + 1 := ⟨L - 1, by omega⟩
      exact firstC_succ l M
    by_cases hf : 2 * v + t < cX l L
    · obtain ⟨i, hi, e, _, es⟩ := sym_of l (show 1 ≤ L by omega) (by omega) (by omega) hf
      refine ⟨i, L, hi, e, by omega, by omega, ?_⟩
      rw [if_pos hf, es, show L - (L - 1) = 1 by omega]
    · obtain ⟨a, i, g1, g2, g3, g4, _⟩ := begins_some l hw (15 - L) L (2 * v + t) (by omega) (by omega) (by omega) (by omega)
      have hfr : ¬ frmC l L = frmC l 15 := by
        have h3 := frmC_mono l (show L ≤ a - 1 by omega)
        have h4 := frmC_mono l (show a ≤ 15 by omega)
        have h5 := frmC_pred l (show 1 ≤ a by omega)
        have h6 : 0 < l.count (a : Int) := List.count_pos_iff.2 (by rw [← g4]; exact mem_of_getD g3)
        omega
      rw [if_neg hf, if_neg hfr]
      obtain ⟨i2, a2, k1, k2, k3, k4, k5⟩ := scan_whole hl hw b m d (p + 1) (2 * v + t) (by omega) (by omega) (by rw [hL]; omega) (by rw [hL]; omega)
      rw [hL] at k3 k5
      refine ⟨i2, a2, k1, k2, by omega, k4, ?_⟩
      rw [k5, show p + 1 + (a2 - L) = p + (a2 - (L - 1)) by omega]
/-- A whole code, once. -/
theorem read_whole {l : List Int} (hc : Hu.checkS l = 0) (b : List Int) (m p : Nat) (hp : p + 15 ≤ m) :
    ∃ i a : Nat, i < l.length ∧ l[i]?.getD 0 = (a : Int) ∧ 1 ≤ a ∧ a ≤ 15 ∧ scan l b m 15 p 0 = ((i : Int), ((p + a : Nat) : Int), 0) := by
  have hl := okl_of_check (.inl hc)
  have hn : Hu.newS l = 0 := by unfold Hu.newS; rw [hc]; rfl
  have hw : cX l 15 = 32768 := by
    obtain ⟨_, _, h | h⟩ := tbl_of_new hn
    · exact h
    · have h3 := checkS_eq l hl
      have h4 := cX_take l 15 (Nat.le_refl _)
      rw [Nat.sub_self, Nat.pow_zero, Nat.mul_one, takeT] at h4
      rw [hc] at h3
      by_cases a : takeT l 15 > 32768
      · rw [if_pos a] at h3; omega
      · rw [if_neg a] at h3
        by_cases b : takeT l 15 < 32768
        · rw [if_pos b] at h3; omega
        · omega
  obtain ⟨i, a, h1, h2, h3, h4, h5⟩ := scan_whole hl hw b m 15 p 0 (Nat.le_refl _) hp (by simp [cX, firstC]) (by decide)
  exact ⟨i, a, h1, h2, by omega, h4, h5⟩
/-! Symbols put one after the other -/
def endP (l : List Int) : Nat → List Nat → Nat
  | p, [] => p
  | p, s :: ss => endP l (p + (l[s]?.getD 0).toNat) ss
def Spell (l b : List Int) : Nat → List Nat → Prop
  | _, [] => True
  | p, s :: ss => (s < l.length ∧ 0 < l[s]?.getD 0 ∧ CodeAt l b p s (l[s]?.getD 0).toNat) ∧ Spell l b (p + (l[s]?.getD 0).toNat) ss
theorem endP_ge (l : List Int) : ∀ p ss, p ≤ endP l p ss
  | p, [] => Nat.le_refl _
  | p, s :: ss => by have := endP_ge l (p + (l[s]?.getD 0).toNat) ss; rw [endP]; omega
theorem endP_app (l : List Int) : ∀ p ss s, endP l p (ss ++ [s]) = endP l p ss + (l[s]?.getD 0).toNat
  | p, [], s => rfl
  | p, x :: ss, s => by rw [List.cons_append, endP, endP]; exact endP_app l _ ss s
theorem spell_app {l b : List Int} : ∀ p ss s, Spell l b p ss → s < l.length → 0 < l[s]?.getD 0 → CodeAt l b (endP l p ss) s (l[s]?.getD 0).toNat → Spell l b p (ss ++ [s])
  | p, [], s, _, h1, h2, h3 => ⟨⟨h1, h2, h3⟩, trivial⟩
  | p, x :: ss, s, ⟨h, h'⟩, h1, h2, h3 => ⟨h, spell_app _ ss s h' h1 h2 h3⟩
theorem spell_same {l b b' : List Int} : ∀ p ss, (∀ k, k < endP l p ss → bat b' k = bat b k) → Spell l b p ss → Spell l b' p ss
  | p, [], _, _ => trivial
  | p, s :: ss, hk, ⟨⟨h1, h2, h3⟩, h4⟩ => ⟨⟨h1, h2, fun t ht => by
      have := endP_ge l (p + (l[s]?.getD 0).toNat) ss
      rw [hk _ (by rw [endP]; omega)]
      exact h3 t ht⟩, spell_same _ ss hk h4⟩
theorem bitsD_nat (c : Nat) (d j : Nat) (hj : j < d) : (bitsD ((c : Nat) : Int) d).getD j 0 = ((c / 2 ^ (d - 1 - j) % 2 : Nat) : Int) := by
  rw [bitsD_get _ d j hj]
  unfold vb
  rw [Int.natCast_emod, Int.natCast_ediv]
  simp
/-- A symbol's code behind a row: what Put does. -/
theorem spell_put {l b : List Int} {m : Nat} (hb : Rgt b m) {ss : List Nat} (hs : Spell l b 0 ss) (he : endP l 0 ss = m) {s : Nat} (h1 : s < l.length) (h2 : 0 < l[s]?.getD 0) :
    Spell l (layA b m (bitsD ((codeN l s : Nat) : Int) (l[s]?.getD 0).toNat)) 0 (ss ++ [s]) ∧ endP l 0 (ss ++ [s]) = m + (l[s]?.getD 0).toNat ∧ Rgt (layA b m (bitsD ((codeN l s : Nat) : Int) (l[s]?.getD 0).toNat)) (m + (l[s]?.getD 0).toNat) := by
  have h01 := bitsD_01 ((codeN l s : Nat) : Int) (l[s]?.getD 0).toNat
  have hlen := bitsD_len ((codeN l s : Nat) : Int) (l[s]?.getD 0).toNat
  refine ⟨spell_app 0 ss s (spell_same 0 ss (fun k hk => ?_) hs) h1 h2 (fun t ht => ?_), by rw [endP_app, he], ?_⟩
  · rw [layA_bat hb h01, if_neg (by omega)]
  · rw [he, layA_bat hb h01, hlen, if_pos (by omega), Nat.add_sub_cancel_left]
    exact bitsD_nat _ _ _ ht
  · have := layA_rgt hb h01
    rwa [hlen] at this
theorem endP_le (l : List Int) (hl : ∀ x ∈ l, 0 ≤ x ∧ x ≤ 15) : ∀ p ss, endP l p ss ≤ p + 15 * ss.length
  | p, [] => by rw [endP]; omega
  | p, s :: ss => by
    have h := endP_le l hl (p + (l[s]?.getD 0).toNat) ss
    have : (l[s]?.getD 0) ≤ 15 := by
      by_cases hs : s < l.length
      · exact (hl _ (mem_of_getD hs)).2
      · rw [List.getElem?_eq_none (by omega)]; decide
    rw [endP, List.length_cons]; omega
theorem spell_at {l b : List Int} : ∀ p ss (j : Nat), Spell l b p ss → ∀ s, ss[j]? = some s → s < l.length ∧ 0 < l[s]?.getD 0 ∧ CodeAt l b (endP l p (ss.take j)) s (l[s]?.getD 0).toNat
  | p, x :: ss, 0, ⟨h, _⟩, s, e => by
    injection e with e; subst e; exact h
  | p, x :: ss, j + 1, ⟨_, h⟩, s, e => by
    rw [List.take_succ_cons, endP]
    exact spell_at _ ss j h s e
  | p, [], j, _, s, e => by cases j <;> cases e
theorem endP_take (l : List Int) (p : Nat) (ss : List Nat) (j s : Nat) (e : ss[j]? = some s) : endP l p (ss.take (j + 1)) = endP l p (ss.take j) + (l[s]?.getD 0).toNat := by
  rw [List.take_add_one, e]
  exact endP_app l p _ s
theorem endP_take_le (l : List Int) : ∀ p (ss : List Nat) (j : Nat), endP l p (ss.take j) ≤ endP l p ss
  | p, [], j => by rw [List.take_nil]; exact Nat.le_refl _
  | p, x :: ss, 0 => endP_ge l p _
  | p, x :: ss, j + 1 => by rw [List.take_succ_cons, endP, endP]; exact endP_take_le l _ ss j
/-- What Read tells of the j-th symbol that was put. -/
theorem read_back {l b : List Int} {m : Nat} (hT : Tbl l) (hb : Rgt b m) {ss : List Nat} (hs : Spell l b 0 ss) (he : endP l 0 ss = m) {j s : Nat} (e : ss[j]? = some s) :
    readS l b (m : Int) ((endP l 0 (ss.take j) : Nat) : Int) = ((s : Int), ((endP l 0 (ss.take (j + 1)) : Nat) : Int), 0) := by
  obtain ⟨h1, h2, h3⟩ := spell_at 0 ss j hs s e
  have h4 := endP_take l 0 ss j s e
  have h5 := endP_take_le l 0 ss (j + 1)
  have ha := hT.1.2.2 _ (mem_of_getD h1)
  obtain ⟨a, ha2⟩ : ∃ a : Nat, l[s]?.getD 0 = (a : Int) := ⟨(l[s]?.getD 0).toNat, by omega⟩
  unfold readS
  rw [if_pos ⟨okR_nat hb, by omega, by omega⟩, Int.toNat_natCast, Int.toNat_natCast, h4]
  rw [ha2, Int.toNat_natCast] at h3 h4 ⊢
  exact scan_code hT.1 h1 ha2 (by omega) (code_bound hT.2.1 h1 ha2 (by omega) (by omega)) _ (by omega) h3
theorem read_end {l b : List Int} {m : Nat} (hT : Tbl l) (hb : Rgt b m) : readS l b (m : Int) (m : Int) = (0, 0, 4) := by
  unfold readS
  rw [if_pos ⟨okR_nat hb, by omega, by omega⟩, Int.toNat_natCast]
  show scan l b m (14 + 1) m 0 = _
  rw [scan, if_pos (Nat.le_refl _)]
theorem put_zero {l b : List Int} {m : Nat} (hT : Tbl l) (hb : Rgt b m) (hm : m ≤ 1000000) {p : Nat} (hp : p < l.length) (e : l[p]?.getD 0 = 0) : huff_Put.f 200 b (m : Int) l (p : Int) = some ([], 0, 13) := by
  have hbl : b.length ≤ 140737488351232 := by have := hb.2.1; omega
  rw [hput_eq (by omega) l (p : Int) hb.1 hbl (by omega) (by omega)]
  unfold hputS
  rw [if_pos ⟨hT.1, okR_nat hb, by omega, by omega⟩, if_pos hT.2.1, rdN, e, if_pos rfl]
theorem put_some {l b : List Int} {m : Nat} (hT : Tbl l) (hb : Rgt b m) (hm : m ≤ 1000000) {p a : Nat} (hp : p < l.length) (e : l[p]?.getD 0 = (a : Int)) (ha : 1 ≤ a) :
    huff_Put.f 200 b (m : Int) l (p : Int) = some (layA b m (bitsD ((codeN l p : Nat) : Int) a), ((m + a : Nat) : Int), 0) := by
  have hbl : b.length ≤ 140737488351232 := by have := hb.2.1; omega
  rw [hput_eq (by omega) l (p : Int) hb.1 hbl (by omega) (by omega)]
  unfold hputS
  rw [if_pos ⟨hT.1, okR_nat hb, by omega, by omega⟩, if_pos hT.2.1, rdN, e, if_neg (by omega), Int.toNat_natCast, Int.toNat_natCast, Int.toNat_natCast]
  rfl
/-- One round of what is put: the symbols, the row. -/
def Puts (l : List Int) (i : Nat) (ss bl : List Int) (n : Nat) : Prop := ∃ ps : List Nat, ss = ps.map (fun (j : Nat) => (j : Int)) ∧ ps.length ≤ i ∧ Spell l bl 0 ps ∧ endP l 0 ps = n ∧ Rgt bl n
theorem puts_small {l : List Int} (hT : Tbl l) {i : Nat} {ss bl : List Int} {n : Nat} (h : Puts l i ss bl n) (hi : i ≤ 60) : n ≤ 900 ∧ ss.length ≤ 60 ∧ Rgt bl n := by
  obtain ⟨ps, rfl, h1, h2, h3, h4⟩ := h
  have := endP_le l hT.1.2.2 0 ps
  refine ⟨by omega, by rw [List.length_map]; omega, h4⟩
theorem puts_put {l : List Int} {i : Nat} {ss bl : List Int} {n : Nat} (h : Puts l i ss bl n) {p a : Nat} (hp : p < l.length) (e : l[p]?.getD 0 = (a : Int)) (ha : 1 ≤ a) :
    Puts l (i + 1) (ss ++ [(p : Int)]) (layA bl n (bitsD ((codeN l p : Nat) : Int) a)) (n + a) := by
  obtain ⟨ps, rfl, h1, h2, h3, h4⟩ := h
  have h5 := spell_put h4 h2 h3 hp (by omega)
  rw [e, Int.toNat_natCast] at h5
  exact ⟨ps ++ [p], by rw [List.map_append]; rfl, by rw [List.length_append, List.length_singleton]; omega, h5.1, h5.2.1, h5.2.2⟩
theorem puts_more {l : List Int} {i : Nat} {ss bl : List Int} {n : Nat} (h : Puts l i ss bl n) : Puts l (i + 1) ss bl n := by
  obtain ⟨ps, h0, h1, h2⟩ := h
  exact ⟨ps, h0, by omega, h2⟩
/-- The place of the j-th symbol. -/
def PlaceOf (l : List Int) (i : Nat) (ss bl : List Int) (n j at_ : Nat) : Prop := ∃ ps : List Nat, ss = ps.map (fun (j : Nat) => (j : Int)) ∧ ps.length ≤ i ∧ Spell l bl 0 ps ∧ endP l 0 ps = n ∧ Rgt bl n ∧ at_ = endP l 0 (ps.take j)
theorem place_zero {l : List Int} {i : Nat} {ss bl : List Int} {n : Nat} (h : Puts l i ss bl n) : PlaceOf l i ss bl n 0 0 := by
  obtain ⟨ps, h0, h1, h2, h3, h4⟩ := h
  exact ⟨ps, h0, h1, h2, h3, h4, by rw [List.take_zero]; rfl⟩
theorem place_next {l : List Int} (hT : Tbl l) {i : Nat} {ss bl : List Int} {n j at_ : Nat} (h : PlaceOf l i ss bl n j at_) (hj : j < ss.length) :
    ∃ s a : Nat, rd ss (j : Int) = (s : Int) ∧ s < l.length ∧ l[s]?.getD 0 = (a : Int) ∧ at_ + a ≤ n ∧ readS l bl (n : Int) (at_ : Int) = ((s : Int), ((at_ + a : Nat) : Int), 0) ∧ PlaceOf l i ss bl n (j + 1) (at_ + a) := by
  obtain ⟨ps, rfl, h1, h2, h3, h4, rfl⟩ := h
  rw [List.length_map] at hj
  have e : ps[j]? = some ps[j] := List.getElem?_eq_getElem hj
  obtain ⟨g1, g2, g3⟩ := spell_at 0 ps j h2 _ e
  have h6 := endP_take l 0 ps j _ e
  have ha := hT.1.2.2 _ (mem_of_getD g1)
  obtain ⟨a, ha2⟩ : ∃ a : Nat, l[ps[j]]?.getD 0 = (a : Int) := ⟨(l[ps[j]]?.getD 0).toNat, by omega⟩
  have h5 := read_back hT h4 h2 h3 e
  have h7 := endP_take_le l 0 ps (j + 1)
  rw [ha2, Int.toNat_natCast] at h6
  refine ⟨ps[j], a, ?_, g1, ha2, by omega, by rw [h5, h6], ps, rfl, h1, h2, h3, h4, h6.symm⟩
  rw [rdN, List.getElem?_map, e]; rfl
theorem place_end {l : List Int} (hT : Tbl l) {i : Nat} {ss bl : List Int} {n at_ : Nat} (h : PlaceOf l i ss bl n ss.length at_) : at_ = n ∧ readS l bl (n : Int) (n : Int) = (0, 0, 4) := by
  obtain ⟨ps, rfl, h1, h2, h3, h4, rfl⟩ := h
  rw [List.length_map, List.take_length]
  exact ⟨h3, read_end hT h4⟩
theorem place_small {l : List Int} (hT : Tbl l) {i : Nat} {ss bl : List Int} {n j at_ : Nat} (h : PlaceOf l i ss bl n j at_) (hi : i ≤ 60) : n ≤ 900 ∧ at_ ≤ n ∧ Rgt bl n := by
  obtain ⟨ps, rfl, h1, h2, h3, h4, rfl⟩ := h
  have := endP_le l hT.1.2.2 0 ps
  have := endP_take_le l 0 ps j
  exact ⟨by omega, by omega, h4⟩
end Go.Proofs.Ythcndpdfcippiaa.Pr

