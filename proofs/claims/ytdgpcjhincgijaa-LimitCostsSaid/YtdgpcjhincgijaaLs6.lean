-- A text by hand (wip/limit/sort).
import Derived.RangeFuncNested
import Derived.RangeFuncBound
import Derived.RangeFuncCalls
import Derived.RangeFuncLeaves
import Derived.RangeFuncBox
import Derived.Shelf.Abstract
import Derived.Shelf.RegionOpen
import Derived.OwnWalkIn
import Derived.TacticsInMore
import Derived.LoopNIn
import Derived.LoopIn
import Derived.Test.YtdgpcjhincgijaaPr0
import Derived.Test.YtdgpcjhincgijaaLs3
namespace Go.Proofs.Ytdgpcjhincgijaa.Pr
open Go.RowKit Go.Shelf Go.Proofs.YtdgpcjhincgijaaW.PrintWords Go.Proofs.YtdgpcjhincgijaaW.PrintLast Go.Proofs.YtdgpcjhincgijaaW.PrintMore
set_option linter.unusedVariables false
set_option linter.unusedSimpArgs false
/-! ### Blocks that are sorted, and merged two by two -/
section
variable {α : Type} {κ : α → Int}
def Bks (κ : α → Int) (s : Nat) (bs : List (List α)) : Prop := ∀ b ∈ bs, Srt κ b ∧ b.length = s
theorem Bks.len {s : Nat} : ∀ {bs : List (List α)}, Bks κ s bs → bs.flatten.length = bs.length * s
  | [], _ => by simp
  | b :: bs, h => by
    rw [List.flatten_cons, List.length_append, Bks.len (fun x hx => h x (List.mem_cons_of_mem _ hx)), (h b (List.mem_cons_self ..)).2, List.length_cons, Nat.add_one_mul]
    omega
theorem Bks.snoc {s : Nat} {bs : List (List α)} {Z : List α} (h : Bks κ s bs) (hz : Srt κ Z) (hl : Z.length = s) : Bks κ s (bs ++ [Z]) := by
  intro b hb
  rcases List.mem_append.1 hb with hb | hb
  · exact h b hb
  · rw [List.mem_singleton] at hb; subst hb; exact ⟨hz, hl⟩
theorem flat_snoc (bs : List (List α)) (Z : List α) : (bs ++ [Z]).flatten = bs.flatten ++ Z := by simp
/-- The first a are sorted in blocks of s. -/
def In1 (κ : α → Int) (s : Nat) (d0 : List α) (a : Nat) (e : List α) : Prop := ∃ bs S, e = bs.flatten ++ S ∧ Bks κ s bs ∧ bs.flatten.length = a ∧ Stb κ d0 e
/-- All are sorted in blocks of s, the last one of fewer. -/
def Out1 (κ : α → Int) (s : Nat) (d0 : List α) (e : List α) : Prop := ∃ bs Z, e = bs.flatten ++ Z ∧ Bks κ s bs ∧ Srt κ Z ∧ Z.length < s ∧ Stb κ d0 e
/-- The first a are sorted in blocks of 2 s, what is behind them in blocks of s. -/
def In2 (κ : α → Int) (s : Nat) (d0 : List α) (a : Nat) (e : List α) : Prop := ∃ cs bs Z, e = cs.flatten ++ (bs.flatten ++ Z) ∧ Bks κ (2 * s) cs ∧ Bks κ s bs ∧ Srt κ Z ∧ Z.length < s ∧ cs.flatten.length = a ∧ Stb κ d0 e
theorem In1.start (s : Nat) (d : List α) : In1 κ s d 0 d := ⟨[], d, rfl, (fun b hb => nomatch hb), rfl, Stb.refl d⟩
theorem In1.le {s a : Nat} {d0 e : List α} (h : In1 κ s d0 a e) : a ≤ e.length := by
  obtain ⟨bs, S, rfl, hb, ha, ht⟩ := h
  rw [List.length_append]; omega
theorem In1.step {s a : Nat} {d0 e : List α} (h : In1 κ s d0 a e) (hl : a + s ≤ e.length) : ∃ P Z0 S, e = P ++ Z0 ++ S ∧ P.length = a ∧ Z0.length = s ∧ (∀ x ∈ Z0, x ∈ d0) ∧ ∀ Z, Srt κ Z → Stb κ Z0 Z → In1 κ s d0 (a + s) (P ++ Z ++ S) := by
  obtain ⟨bs, S, rfl, hb, ha, ht⟩ := h
  rw [List.length_append] at hl
  obtain ⟨Z0, S', rfl, hz⟩ : ∃ Z0 S', S = Z0 ++ S' ∧ Z0.length = s := ⟨S.take s, S.drop s, (List.take_append_drop s S).symm, by rw [List.length_take]; omega⟩
  refine ⟨bs.flatten, Z0, S', by simp, ha, hz, fun x hx => (ht.mem x).1 (by simp [hx]), fun Z s1 b1 => ⟨bs ++ [Z], S', by simp, hb.snoc s1 (b1.len.trans hz), by rw [flat_snoc, List.length_append, b1.len]; omega, ht.trans ?_⟩⟩
  rw [List.append_assoc]
  exact (Stb.refl _).app (b1.app (Stb.refl _))
theorem In1.last {s a : Nat} {d0 e : List α} (h : In1 κ s d0 a e) (hl : e.length < a + s) : ∃ P Z0, e = P ++ Z0 ++ [] ∧ P.length = a ∧ a + Z0.length = e.length ∧ (∀ x ∈ Z0, x ∈ d0) ∧ ∀ Z, Srt κ Z → Stb κ Z0 Z → Out1 κ s d0 (P ++ Z ++ []) := by
  obtain ⟨bs, S, rfl, hb, ha, ht⟩ := h
  rw [List.length_append] at hl
  refine ⟨bs.flatten, S, by simp, ha, by rw [List.length_append]; omega, fun x hx => (ht.mem x).1 (by simp [hx]), fun Z s1 b1 => ⟨bs, Z, by simp, hb, s1, by rw [b1.len]; omega, ht.trans ?_⟩⟩
  rw [List.append_nil]
  exact (Stb.refl _).app b1
theorem Out1.done {s : Nat} {d0 e : List α} (h : Out1 κ s d0 e) (hl : e.length ≤ s) : Srt κ e ∧ Stb κ d0 e := by
  obtain ⟨bs, Z, rfl, hb, hz, hs, ht⟩ := h
  refine ⟨?_, ht⟩
  cases bs with
  | nil => exact hz
  | cons x bs =>
    have h1 := (hb x (List.mem_cons_self ..))
    rw [List.flatten_cons, List.length_append, List.length_append, h1.2] at hl
    obtain rfl : Z = [] := List.eq_nil_of_length_eq_zero (by omega)
    have : bs.flatten = [] := List.eq_nil_of_length_eq_zero (by omega)
    rw [List.flatten_cons, this, List.append_nil, List.append_nil]
    exact h1.1
theorem In2.start {s : Nat} {d0 e : List α} (h : Out1 κ s d0 e) : In2 κ s d0 0 e := by
  obtain ⟨bs, Z, rfl, hb, hz, hs, ht⟩ := h
  exact ⟨[], bs, Z, rfl, (fun b hb => nomatch hb), hb, hz, hs, rfl, ht⟩
theorem In2.le {s a : Nat} {d0 e : List α} (h : In2 κ s d0 a e) : a ≤ e.length := by
  obtain ⟨cs, bs, Z, rfl, hc, hb, hz, hs, ha, ht⟩ := h
  rw [List.length_append]; omega
theorem In2.step {s a : Nat} {d0 e : List α} (h : In2 κ s d0 a e) (hl : a + 2 * s ≤ e.length) : ∃ P L R S, e = P ++ L ++ R ++ S ∧ P.length = a ∧ L.length = s ∧ R.length = s ∧ Srt κ L ∧ Srt κ R ∧ (∀ x ∈ L, x ∈ d0) ∧ (∀ x ∈ R, x ∈ d0) ∧ ∀ Z, Srt κ Z → Stb κ (L ++ R) Z → In2 κ s d0 (a + 2 * s) (P ++ Z ++ S) := by
  obtain ⟨cs, bs, Z, rfl, hc, hb, hz, hs, ha, ht⟩ := h
  rw [List.length_append, List.length_append, hb.len, ha] at hl
  match bs, hb, ht, hl with
  | [], hb, ht, hl => simp at hl; omega
  | [x], hb, ht, hl => simp at hl; omega
  | x :: y :: bs, hb, ht, hl =>
    have hx := hb x (List.mem_cons_self ..)
    have hy := hb y (List.mem_cons_of_mem _ (List.mem_cons_self ..))
    refine ⟨cs.flatten, x, y, bs.flatten ++ Z, by simp, ha, hx.2, hy.2, hx.1, hy.1, fun z hz => (ht.mem z).1 (by simp [hz]), fun z hz => (ht.mem z).1 (by simp [hz]), fun V s1 b1 =>
      ⟨cs ++ [V], bs, Z, by simp, hc.snoc s1 (by rw [b1.len, List.length_append]; omega), fun b hb' => hb b (List.mem_cons_of_mem _ (List.mem_cons_of_mem _ hb')), hz, hs, by rw [flat_snoc, List.length_append, b1.len, List.length_append]; omega, ht.trans ?_⟩⟩
    have := (Stb.refl (κ := κ) cs.flatten).app (b1.app (Stb.refl (κ := κ) (bs.flatten ++ Z)))
    simpa using this
theorem In2.merge {s a : Nat} {d0 e : List α} (h : In2 κ s d0 a e) (h1 : e.length < a + 2 * s) (h2 : a + s < e.length) : ∃ P L R, e = P ++ L ++ R ++ [] ∧ P.length = a ∧ L.length = s ∧ 1 ≤ R.length ∧ a + s + R.length = e.length ∧ Srt κ L ∧ Srt κ R ∧ (∀ x ∈ L, x ∈ d0) ∧ (∀ x ∈ R, x ∈ d0) ∧ ∀ Z, Srt κ Z → Stb κ (L ++ R) Z → Out1 κ (2 * s) d0 (P ++ Z ++ []) := by
  obtain ⟨cs, bs, Z, rfl, hc, hb, hz, hs, ha, ht⟩ := h
  rw [List.length_append, List.length_append, hb.len, ha] at h1 h2
  match bs, hb, ht, h1, h2 with
  | [], hb, ht, h1, h2 => simp at h2; omega
  | x :: y :: bs, hb, ht, h1, h2 => simp only [List.length_cons, Nat.add_one_mul] at h1; omega
  | [x], hb, ht, h1, h2 =>
    have hx := hb x (List.mem_cons_self ..)
    simp only [List.length_cons, List.length_nil, Nat.zero_add, Nat.one_mul] at h1 h2
    refine ⟨cs.flatten, x, Z, by simp, ha, hx.2, by omega, by simp only [List.length_append, List.flatten_cons, List.flatten_nil, List.append_nil, hx.2]; omega, hx.1, hz, fun z hz => (ht.mem z).1 (by simp [hz]), fun z hz => (ht.mem z).1 (by simp [hz]), fun V s1 b1 =>
      ⟨cs, V, by simp, hc, s1, by rw [b1.len, List.length_append]; omega, ht.trans ?_⟩⟩
    have := (Stb.refl (κ := κ) cs.flatten).app b1
    simpa using this
theorem In2.rest {s a : Nat} {d0 e : List α} (h : In2 κ s d0 a e) (h1 : e.length < a + 2 * s) (h2 : ¬ a + s < e.length) : Out1 κ (2 * s) d0 e := by
  obtain ⟨cs, bs, Z, rfl, hc, hb, hz, hs, ha, ht⟩ := h
  rw [List.length_append, List.length_append, hb.len, ha] at h1 h2
  match bs, hb, ht, h1, h2 with
  | [], hb, ht, h1, h2 => exact ⟨cs, Z, by simp, hc, hz, by omega, ht⟩
  | x :: y :: bs, hb, ht, h1, h2 => simp only [List.length_cons, Nat.add_one_mul] at h1; omega
  | [x], hb, ht, h1, h2 =>
    have hx := hb x (List.mem_cons_self ..)
    simp only [List.length_cons, List.length_nil, Nat.zero_add, Nat.one_mul] at h1 h2
    obtain rfl : Z = [] := List.eq_nil_of_length_eq_zero (by omega)
    exact ⟨cs, x, by simp, hc, hx.1, by omega, ht⟩
end
theorem wmul2 {x z : Nat} (h : 2 * x = z) (hx : z ≤ 4503599627370496) : wrap64 (2 * (x : Int)) = (z : Int) := by unfold wrap64; omega
section
attribute [local go_sem] Oper.semAt_some
set_option maxHeartbeats 8000000 in
set_option maxRecDepth 100000 in
theorem insertion_none (g3 go base len cap a : Nat) (ok : Nat → Prop) (d : List G44) (W0 : World) (hR : Kd.R kG 44 W0 base ok (.slice (some ⟨go, 0, none⟩) len cap) d) (hal : a ≤ len) (hl : len ≤ 1048576) :
    Calls Try.prog 42 #[.slice (some ⟨go, 0, none⟩) len cap, .int .i64 (a : Int), .int .i64 (a : Int), .func (.func 34) #[] #[]] W0 fun e W' => e = .returned (.tuple #[]) ∧ Kd.R kG 44 W' base ok (.slice (some ⟨go, 0, none⟩) len cap) d ∧ W0.grownBy W' (some go) := by
  have HO := Aside0.mk hR
  have HG := Aside0.mk (World.grownBy.refl W0 (some go))
  obtain ⟨i0, hi0⟩ : ∃ i0, a + 1 = i0 := ⟨_, rfl⟩
  have HI := Aside0.mk hi0
  have bi0 : i0 ≤ 4503599627370496 := by omega
  have wa : wrap64 ((a : Int) + 1) = (i0 : Int) := wadd (x := a) (y := 1) hi0 bi0
  have wa2 : IntKind.i64.wrap ((a : Int) + 1) = (i0 : Int) := (i64_w _).trans wa
  clear hR hi0 bi0 hal hl
  go_enter Try.func42, Try.ntmps42
  go_wp2
  go_loopw [8] (fun v8 w' => v8 = .int .i64 (i0 : Int) ∧ Aside0 (Kd.R kG 44 w' base ok (.slice (some ⟨go, 0, none⟩) len cap) d) ∧ Aside0 (W0.grownBy w' (some go))) (fun v8 _ => 0)
  case atStart => exact ⟨rfl, HO, HG⟩
  case round =>
    clear HO HG wa wa2
    obtain ⟨rfl, HO, HG⟩ := hrel
    have q0 := eq_false (show ¬ (i0 : Int) < (a : Int) by have := HI.out; omega)
    have q00 := eq_false (show ¬ i0 < a by have := HI.out; omega)
    go_wp2
    go_end0
    exact ⟨rfl, HO.out, HG.out⟩
theorem insertion_any (κ : G44 → Int) (Dm : G44 → Prop) (g3 go base len cap a b : Nat) (ok : Nat → Prop) (P Z0 S : List G44) (W0 : World) (hR : Kd.R kG 44 W0 base ok (.slice (some ⟨go, 0, none⟩) len cap) (P ++ Z0 ++ S)) (ha : P.length = a) (hb : a + Z0.length = b) (hl : len ≤ 1048576) (hD : ∀ x ∈ Z0, Dm x) (hC : CmpOk κ Dm g3 go W0) :
    Calls Try.prog 42 #[.slice (some ⟨go, 0, none⟩) len cap, .int .i64 (a : Int), .int .i64 (b : Int), .func (.func 34) #[] #[]] W0 fun e W' => e = .returned (.tuple #[]) ∧ (∃ Z, Srt κ Z ∧ Stb κ Z0 Z ∧ Kd.R kG 44 W' base ok (.slice (some ⟨go, 0, none⟩) len cap) (P ++ Z ++ S)) ∧ W0.grownBy W' (some go) := by
  cases Z0 with
  | cons x Z0 => exact insertion_calls κ Dm g3 go base len cap a b ok P (x :: Z0) S W0 hR ha hb (by simp) hl hD hC
  | nil =>
    have hlen := row_len hR
    rw [List.length_append, List.length_append] at hlen
    obtain rfl : a = b := by simpa using hb
    refine (insertion_none g3 go base len cap a ok _ W0 hR (by omega) hl).mono ?_
    rintro e w ⟨rfl, h1, h2⟩
    exact ⟨rfl, ⟨[], List.Pairwise.nil, Stb.refl _, h1⟩, h2⟩
set_option maxHeartbeats 16000000 in
set_option maxRecDepth 100000 in
theorem stable_calls (κ : G44 → Int) (Dm : G44 → Prop) (g3 go base len cap : Nat) (ok : Nat → Prop) (d : List G44) (W0 : World) (hR : Kd.R kG 44 W0 base ok (.slice (some ⟨go, 0, none⟩) len cap) d) (hl : len ≤ 1048576) (hD : ∀ x ∈ d, Dm x) (hC : CmpOk κ Dm g3 go W0) (hS : ∀ a m b : Nat, SymOk κ Dm g3 go base len cap ok a m b) :
    Calls Try.prog 40 #[.slice (some ⟨go, 0, none⟩) len cap, .int .i64 (len : Int), .func (.func 34) #[] #[]] W0 fun e W' => e = .returned (.tuple #[]) ∧ (∃ Z, Srt κ Z ∧ Stb κ d Z ∧ Kd.R kG 44 W' base ok (.slice (some ⟨go, 0, none⟩) len cap) Z) ∧ W0.grownBy W' (some go) := by
  have HO := Aside0.mk hR
  have HG := Aside0.mk (World.grownBy.refl W0 (some go))
  have HLEN := Aside0.mk hl
  have HD := Aside0.mk hD
  have HC := Aside0.mk hC
  have HS := Aside0.mk hS
  have ST := Aside0.mk (In1.start (κ := κ) 20 d)
  clear hR hl hD hC hS
  go_enter Try.func40, Try.ntmps40
  go_wp2
  go_loopw [7, 8] (fun v7 v8 w' => ∃ (a b : Nat) (e : List G44), v7 = .int .i64 (a : Int) ∧ v8 = .int .i64 (b : Int) ∧ Aside0 (a + 20 = b) ∧ Aside0 (Kd.R kG 44 w' base ok (.slice (some ⟨go, 0, none⟩) len cap) e) ∧ Aside0 (W0.grownBy w' (some go)) ∧ Aside0 (In1 κ 20 d a e))
    (fun _ v8 _ => len + 1 - (intOf v8).toNat)
  case atStart => exact ⟨0, 20, d, by simp, by simp, ⟨by omega⟩, HO, HG, ST⟩
  case round =>
    clear HO HG ST
    obtain ⟨a, b, e, rfl, rfl, HAB, HO, HG, ST⟩ := hrel
    have hab := HAB.out
    have hlen := HLEN.out
    have hel := row_len HO.out
    by_cases hbl : b ≤ len
    · have q0 := eq_true (show (b : Int) ≤ (len : Int) by omega)
      have q00 := eq_true hbl
      obtain ⟨P, Z0, S, rfl, hP, hZ, hmem, hnext⟩ := ST.out.step (show a + 20 ≤ e.length by omega)
      obtain ⟨b2, hb2⟩ : ∃ b2, b + 20 = b2 := ⟨_, rfl⟩
      have bb2 : b2 ≤ 4503599627370496 := by omega
      have X1 := Aside0.mk hP
      have X2 := Aside0.mk (show a + Z0.length = b by omega)
      have X3 := Aside0.mk (show ∀ x ∈ Z0, Dm x from fun x hx => HD.out x (hmem x hx))
      have X4 := Aside0.mk (show ∀ Z, Srt κ Z → Stb κ Z0 Z → In1 κ 20 d b (P ++ Z ++ S) from hab ▸ hnext)
      have X5 := Aside0.mk (show b + 20 = b2 ∧ b ≤ len by omega)
      have wb2 : wrap64 ((b : Int) + 20) = (b2 : Int) := wadd (x := b) (y := 20) hb2 bb2
      have wb2q : IntKind.i64.wrap ((b : Int) + 20) = (b2 : Int) := (i64_w _).trans wb2
      clear hab hlen hel hbl hP hZ hmem hnext hb2 bb2 ST HAB
      go_wp2_with (go_at_call 42; refine (insertion_any κ Dm g3 go base len cap a b ok P Z0 S _ HO.out X1.out X2.out HLEN.out X3.out (HC.out.later HG.out)).mono ?_; rintro e_ w5 ⟨rfl, ⟨Z, y1, y2, ho⟩, hg⟩; have HO1 := Aside0.mk ho; have HG1 := Aside0.mk (grown_trans HG.out hg); have X6 := Aside0.mk (X4.out Z y1 y2); clear ho hg y1 y2)
      go_roundw
      case rel => exact ⟨b, b2, _, rfl, rfl, ⟨X5.out.1⟩, HO1, HG1, X6⟩
      case measure => have h1 := X5.out; simp [intOf]; omega
    · have q0 := eq_false (show ¬ (b : Int) ≤ (len : Int) by omega)
      have q00 := eq_false hbl
      obtain ⟨P, Z0, rfl, hP, hZ, hmem, hnext⟩ := ST.out.last (show e.length < a + 20 by omega)
      have X1 := Aside0.mk hP
      have X2 := Aside0.mk (show a + Z0.length = len by omega)
      have X3 := Aside0.mk (show ∀ x ∈ Z0, Dm x from fun x hx => HD.out x (hmem x hx))
      have X4 := Aside0.mk hnext
      clear hab hlen hel hbl hP hZ hmem hnext ST HAB
      go_wp2_with (go_at_call 42; refine (insertion_any κ Dm g3 go base len cap a len ok P Z0 [] _ HO.out X1.out X2.out HLEN.out X3.out (HC.out.later HG.out)).mono ?_; rintro e_ w5 ⟨rfl, ⟨Z, y1, y2, ho⟩, hg⟩; have HO1 := Aside0.mk ho; have HG1 := Aside0.mk (grown_trans HG.out hg); have X6 := Aside0.mk (X4.out Z y1 y2); clear ho hg y1 y2)
      clear HO HG
      go_loopw [6] (fun v6 w' => ∃ (s : Nat) (e : List G44), v6 = .int .i64 (s : Int) ∧ Aside0 (1 ≤ s) ∧ Aside0 (Kd.R kG 44 w' base ok (.slice (some ⟨go, 0, none⟩) len cap) e) ∧ Aside0 (W0.grownBy w' (some go)) ∧ Aside0 (Out1 κ s d e))
        (fun v6 _ => len + 1 - (intOf v6).toNat)
      case atStart => exact ⟨20, _, by simp, ⟨by omega⟩, HO1, HG1, X6⟩
      case round =>
        clear HO1 HG1 X6 X1 X2 X3 X4 q0 q00
        obtain ⟨s, e, rfl, HS1, HO, HG, ST⟩ := hrel
        have hs1 := HS1.out
        have hlen := HLEN.out
        have hel := row_len HO.out
        by_cases hsl : s < len
        · have q0 := eq_true (show (s : Int) < (len : Int) by omega)
          have q00 := eq_true hsl
          obtain ⟨s2, hs2⟩ : ∃ s2, 2 * s = s2 := ⟨_, rfl⟩
          have HS2 := Aside0.mk (show 2 * s = s2 ∧ s < len ∧ 1 ≤ s by omega)
          have ST2 := Aside0.mk (In2.start ST.out)
          have bs2 : s2 ≤ 4503599627370496 := by omega
          have ws2 : wrap64 (2 * (s : Int)) = (s2 : Int) := wmul2 hs2 bs2
          have ws2q : IntKind.i64.wrap (2 * (s : Int)) = (s2 : Int) := (i64_w _).trans ws2
          have ws3 : wrap64 ((s : Int) * 2) = (s2 : Int) := (congrArg wrap64 (Int.mul_comm _ _)).trans ws2
          have ws3q : IntKind.i64.wrap ((s : Int) * 2) = (s2 : Int) := (i64_w _).trans ws3
          have WS := Aside0.mk (And.intro ws2 ws3)
          clear hs1 hlen hel hsl hs2 bs2 ST
          go_wp2
          clear q0 q00 ws2 ws2q ws3 ws3q
          go_loopw [7, 8] (fun v7 v8 w' => ∃ (a b : Nat) (e : List G44), v7 = .int .i64 (a : Int) ∧ v8 = .int .i64 (b : Int) ∧ Aside0 (a + s2 = b) ∧ Aside0 (Kd.R kG 44 w' base ok (.slice (some ⟨go, 0, none⟩) len cap) e) ∧ Aside0 (W0.grownBy w' (some go)) ∧ Aside0 (In2 κ s d a e))
            (fun _ v8 _ => len + 1 - (intOf v8).toNat)
          case atStart => exact ⟨0, s2, e, by simp, rfl, ⟨by omega⟩, HO, HG, ST2⟩
          case round =>
            clear HO HG ST2
            obtain ⟨a, b, e, rfl, rfl, HAB, HO, HG, ST⟩ := hrel
            have hab := HAB.out
            have hlen := HLEN.out
            have hel := row_len HO.out
            have hss := HS2.out
            by_cases hbl : b ≤ len
            · have q0 := eq_true (show (b : Int) ≤ (len : Int) by omega)
              have q00 := eq_true hbl
              obtain ⟨P, L, R, S, rfl, hP, hL, hR, sL, sR, mL, mR, hnext⟩ := ST.out.step (show a + 2 * s ≤ e.length by omega)
              obtain ⟨m, hm⟩ : ∃ m, a + s = m := ⟨_, rfl⟩
              have bm : m ≤ 4503599627370496 := by omega
              obtain ⟨b2, hb2⟩ : ∃ b2, b + s2 = b2 := ⟨_, rfl⟩
              have bb2 : b2 ≤ 4503599627370496 := by omega
              have X1 := Aside0.mk hP.symm
              have X2 := Aside0.mk (show m = a + L.length by omega)
              have X3 := Aside0.mk (show b = m + R.length by omega)
              have X4 := Aside0.mk (show 1 ≤ L.length by omega)
              have X5 := Aside0.mk (show 1 ≤ R.length by omega)
              have X6 := Aside0.mk sL
              have X7 := Aside0.mk sR
              have X8 := Aside0.mk (show ∀ x ∈ L, Dm x from fun x hx => HD.out x (mL x hx))
              have X9 := Aside0.mk (show ∀ x ∈ R, Dm x from fun x hx => HD.out x (mR x hx))
              have XN := Aside0.mk (show ∀ Z, Srt κ Z → Stb κ (L ++ R) Z → In2 κ s d b (P ++ Z ++ S) from (show a + 2 * s = b by omega) ▸ hnext)
              have XB := Aside0.mk (show b + s2 = b2 ∧ b ≤ len ∧ 1 ≤ s2 by omega)
              have wam : wrap64 ((a : Int) + (s : Int)) = (m : Int) := wadd hm bm
              have wamq : IntKind.i64.wrap ((a : Int) + (s : Int)) = (m : Int) := (i64_w _).trans wam
              have wb2 : wrap64 ((b : Int) + (s2 : Int)) = (b2 : Int) := wadd hb2 bb2
              have wb2q : IntKind.i64.wrap ((b : Int) + (s2 : Int)) = (b2 : Int) := (i64_w _).trans wb2
              have ws2 := WS.out.1
              have ws2q : IntKind.i64.wrap (2 * (s : Int)) = (s2 : Int) := (i64_w _).trans ws2
              clear hab hlen hel hss hbl hP hL hR sL sR mL mR hnext hm bm hb2 bb2 ST HAB
              go_wp2_with (go_at_call 43; refine ((HS.out a m b).call P L R S _ HO.out X1.out X2.out X3.out X4.out X5.out X6.out X7.out HLEN.out X8.out X9.out (HC.out.later HG.out)).mono ?_; rintro e_ w5 ⟨rfl, ⟨Z, y1, y2, ho⟩, hg⟩; have HO1 := Aside0.mk ho; have HG1 := Aside0.mk (grown_trans HG.out hg); have XZ := Aside0.mk (XN.out Z y1 y2); clear ho hg y1 y2)
              go_roundw
              case rel => exact ⟨b, b2, _, rfl, rfl, ⟨XB.out.1⟩, HO1, HG1, XZ⟩
              case measure => have h1 := XB.out; simp [intOf]; omega
            · have q0 := eq_false (show ¬ (b : Int) ≤ (len : Int) by omega)
              have q00 := eq_false hbl
              obtain ⟨m, hm⟩ : ∃ m, a + s = m := ⟨_, rfl⟩
              have hal := ST.out.le
              have bm : m ≤ 4503599627370496 := by omega
              have XB := Aside0.mk (show s < s2 ∧ s < len ∧ 1 ≤ s2 by omega)
              by_cases hml : m < len
              · have q1 := eq_true (show (m : Int) < (len : Int) by omega)
                have q11 := eq_true hml
                obtain ⟨P, L, R, rfl, hP, hL, hR, hR2, sL, sR, mL, mR, hnext⟩ := ST.out.merge (show e.length < a + 2 * s by omega) (show a + s < e.length by omega)
                have X1 := Aside0.mk hP.symm
                have X2 := Aside0.mk (show m = a + L.length by omega)
                have X3 := Aside0.mk (show len = m + R.length by omega)
                have X4 := Aside0.mk (show 1 ≤ L.length by omega)
                have X5 := Aside0.mk hR
                have X6 := Aside0.mk sL
                have X7 := Aside0.mk sR
                have X8 := Aside0.mk (show ∀ x ∈ L, Dm x from fun x hx => HD.out x (mL x hx))
                have X9 := Aside0.mk (show ∀ x ∈ R, Dm x from fun x hx => HD.out x (mR x hx))
                have XN := Aside0.mk (show ∀ Z, Srt κ Z → Stb κ (L ++ R) Z → Out1 κ s2 d (P ++ Z ++ []) from hss.1 ▸ hnext)
                have wam : wrap64 ((a : Int) + (s : Int)) = (m : Int) := wadd hm bm
                have wamq : IntKind.i64.wrap ((a : Int) + (s : Int)) = (m : Int) := (i64_w _).trans wam
                have ws3 := WS.out.2
                have ws3q : IntKind.i64.wrap ((s : Int) * 2) = (s2 : Int) := (i64_w _).trans ws3
                clear hab hlen hel hss hbl hP hL hR hR2 sL sR mL mR hnext hm bm hml hal ST HAB
                go_wp2_with (go_at_call 43; refine ((HS.out a m len).call P L R [] _ HO.out X1.out X2.out X3.out X4.out X5.out X6.out X7.out HLEN.out X8.out X9.out (HC.out.later HG.out)).mono ?_; rintro e_ w5 ⟨rfl, ⟨Z, y1, y2, ho⟩, hg⟩; have HO1 := Aside0.mk ho; have HG1 := Aside0.mk (grown_trans HG.out hg); have XZ := Aside0.mk (XN.out Z y1 y2); clear ho hg y1 y2)
                go_roundw
                case rel => exact ⟨s2, _, rfl, ⟨XB.out.2.2⟩, HO1, HG1, XZ⟩
                case measure => have h1 := XB.out; simp [intOf]; omega
              · have q1 := eq_false (show ¬ (m : Int) < (len : Int) by omega)
                have q11 := eq_false hml
                have XZ := Aside0.mk (show Out1 κ s2 d e from hss.1 ▸ ST.out.rest (show e.length < a + 2 * s by omega) (show ¬ a + s < e.length by omega))
                have wam : wrap64 ((a : Int) + (s : Int)) = (m : Int) := wadd hm bm
                have wamq : IntKind.i64.wrap ((a : Int) + (s : Int)) = (m : Int) := (i64_w _).trans wam
                have ws3 := WS.out.2
                have ws3q : IntKind.i64.wrap ((s : Int) * 2) = (s2 : Int) := (i64_w _).trans ws3
                clear hab hlen hel hss hbl hm bm hml hal ST HAB
                go_wp2
                go_roundw
                case rel => exact ⟨s2, e, rfl, ⟨XB.out.2.2⟩, HO, HG, XZ⟩
                case measure => have h1 := XB.out; simp [intOf]; omega
        · have q0 := eq_false (show ¬ (s : Int) < (len : Int) by omega)
          have q00 := eq_false hsl
          have RES := Aside0.mk (ST.out.done (show e.length ≤ s by omega))
          clear hs1 hlen hel hsl ST
          go_wp2
          go_end0
          exact ⟨rfl, ⟨e, RES.out.1, RES.out.2, HO.out⟩, HG.out⟩
set_option maxHeartbeats 4000000 in
theorem sortStable_calls (κ : G44 → Int) (Dm : G44 → Prop) (g3 go base len cap : Nat) (ok : Nat → Prop) (d : List G44) (W0 : World) (hR : Kd.R kG 44 W0 base ok (.slice (some ⟨go, 0, none⟩) len cap) d) (hl : len ≤ 1048576) (hD : ∀ x ∈ d, Dm x) (hC : CmpOk κ Dm g3 go W0) (hS : ∀ a m b : Nat, SymOk κ Dm g3 go base len cap ok a m b) :
    Calls Try.prog 33 #[.slice (some ⟨go, 0, none⟩) len cap, .func (.func 34) #[] #[]] W0 fun e W' => e = .returned (.tuple #[]) ∧ (∃ Z, Srt κ Z ∧ Stb κ d Z ∧ Kd.R kG 44 W' base ok (.slice (some ⟨go, 0, none⟩) len cap) Z) ∧ W0.grownBy W' (some go) := by
  have HO := Aside0.mk hR
  have HLEN := Aside0.mk hl
  have HD := Aside0.mk hD
  have HC := Aside0.mk hC
  have HS := Aside0.mk hS
  clear hR hl hD hC hS
  go_enter Try.func33, Try.ntmps33
  go_wp2_with (go_at_call 40; refine (stable_calls κ Dm g3 go base len cap ok d _ HO.out HLEN.out HD.out HC.out HS.out).mono ?_; rintro e_ w5 ⟨rfl, ho, hg⟩; have HO1 := Aside0.mk ho; have HG1 := Aside0.mk hg; clear ho hg)
  go_end0
  exact ⟨rfl, HO1.out, HG1.out⟩
end
end Go.Proofs.Ytdgpcjhincgijaa.Pr
