-- Texts by hand and by programs of this session, joined (wip/tool/merge.py).
import Derived.RangeFuncNested
import Derived.RangeFuncBound
import Derived.RangeFuncCalls
import Derived.RangeFuncLeaves
import Derived.RangeFuncBox
import Derived.Shelf.Abstract
import Derived.Shelf.RegionOpen
import Derived.OwnWalkIn
import Derived.TacticsInMore
import Derived.LoopNIn
import Derived.LoopIn
import Derived.Test.YtdgpcjhincgijaaMLO3
import Derived.Test.YtdgpcjhincgijaaMLO4
import Derived.Lib.SliceRun
import Derived.Test.YtdgpcjhincgijaaMLO1
-- YtdgpcjhincgijaaLs6
namespace Go.Proofs.Ytdgpcjhincgijaa.Pr
open Go.RowKit Go.Shelf Go.Proofs.YtdgpcjhincgijaaW.PrintWords Go.Proofs.YtdgpcjhincgijaaW.PrintLast Go.Proofs.YtdgpcjhincgijaaW.PrintMore
set_option linter.unusedVariables false
set_option linter.unusedSimpArgs false
/-! ### Blocks that are sorted, and merged two by two -/
section
variable {α : Type} {κ : α → Int}
def Bks (κ : α → Int) (s : Nat) (bs : List (List α)) : Prop := ∀ b ∈ bs, Srt κ b ∧ b.length = s
theorem Bks.len {s : Nat} : ∀ {bs : List (List α)}, Bks κ s bs → bs.flatten.length = bs.length * s
  | [], _ => by simp
  | b :: bs, h => by
    rw [List.flatten_cons, List.length_append, Bks.len (fun x hx => h x (List.mem_cons_of_mem _ hx)), (h b (List.mem_cons_self ..)).2, List.length_cons, Nat.add_one_mul]
    omega
theorem Bks.snoc {s : Nat} {bs : List (List α)} {Z : List α} (h : Bks κ s bs) (hz : Srt κ Z) (hl : Z.length = s) : Bks κ s (bs ++ [Z]) := by
  intro b hb
  rcases List.mem_append.1 hb with hb | hb
  · exact h b hb
  · rw [List.mem_singleton] at hb; subst hb; exact ⟨hz, hl⟩
theorem flat_snoc (bs : List (List α)) (Z : List α) : (bs ++ [Z]).flatten = bs.flatten ++ Z := by simp
/-- The first a are sorted in blocks of s. -/
def In1 (κ : α → Int) (s : Nat) (d0 : List α) (a : Nat) (e : List α) : Prop := ∃ bs S, e = bs.flatten ++ S ∧ Bks κ s bs ∧ bs.flatten.length = a ∧ Stb κ d0 e
/-- All are sorted in blocks of s, the last one of fewer. -/
def Out1 (κ : α → Int) (s : Nat) (d0 : List α) (e : List α) : Prop := ∃ bs Z, e = bs.flatten ++ Z ∧ Bks κ s bs ∧ Srt κ Z ∧ Z.length < s ∧ Stb κ d0 e
/-- The first a are sorted in blocks of 2 s, what is behind them in blocks of s. -/
def In2 (κ : α → Int) (s : Nat) (d0 : List α) (a : Nat) (e : List α) : Prop := ∃ cs bs Z, e = cs.flatten ++ (bs.flatten ++ Z) ∧ Bks κ (2 * s) cs ∧ Bks κ s bs ∧ Srt κ Z ∧ Z.length < s ∧ cs.flatten.length = a ∧ Stb κ d0 e
theorem In1.start (s : Nat) (d : List α) : In1 κ s d 0 d := ⟨[], d, rfl, (fun b hb => nomatch hb), rfl, Stb.refl d⟩
theorem In1.le {s a : Nat} {d0 e : List α} (h : In1 κ s d0 a e) : a ≤ e.length := by
  obtain ⟨bs, S, rfl, hb, ha, ht⟩ := h
  rw [List.length_append]; omega
theorem In1.step {s a : Nat} {d0 e : List α} (h : In1 κ s d0 a e) (hl : a + s ≤ e.length) : ∃ P Z0 S, e = P ++ Z0 ++ S ∧ P.length = a ∧ Z0.length = s ∧ (∀ x ∈ Z0, x ∈ d0) ∧ ∀ Z, Srt κ Z → Stb κ Z0 Z → In1 κ s d0 (a + s) (P ++ Z ++ S) := by
  obtain ⟨bs, S, rfl, hb, ha, ht⟩ := h
  rw [List.length_append] at hl
  obtain ⟨Z0, S', rfl, hz⟩ : ∃ Z0 S', S = Z0 ++ S' ∧ Z0.length = s := ⟨S.take s, S.drop s, (List.take_append_drop s S).symm, by rw [List.length_take]; omega⟩
  refine ⟨bs.flatten, Z0, S', by simp, ha, hz, fun x hx => (ht.mem x).1 (by simp [hx]), fun Z s1 b1 => ⟨bs ++ [Z], S', by simp, hb.snoc s1 (b1.len.trans hz), by rw [flat_snoc, List.length_append, b1.len]; omega, ht.trans ?_⟩⟩
  rw [List.append_assoc]
  exact (Stb.refl _).app (b1.app (Stb.refl _))
theorem In1.last {s a : Nat} {d0 e : List α} (h : In1 κ s d0 a e) (hl : e.length < a + s) : ∃ P Z0, e = P ++ Z0 ++ [] ∧ P.length = a ∧ a + Z0.length = e.length ∧ (∀ x ∈ Z0, x ∈ d0) ∧ ∀ Z, Srt κ Z → Stb κ Z0 Z → Out1 κ s d0 (P ++ Z ++ []) := by
  obtain ⟨bs, S, rfl, hb, ha, ht⟩ := h
  rw [List.length_append] at hl
  refine ⟨bs.flatten, S, by simp, ha, by rw [List.length_append]; omega, fun x hx => (ht.mem x).1 (by simp [hx]), fun Z s1 b1 => ⟨bs, Z, by simp, hb, s1, by rw [b1.len]; omega, ht.trans ?_⟩⟩
  rw [List.append_nil]
  exact (Stb.refl _).app b1
theorem Out1.done {s : Nat} {d0 e : List α} (h : Out1 κ s d0 e) (hl : e.length ≤ s) : Srt κ e ∧ Stb κ d0 e := by
  obtain ⟨bs, Z, rfl, hb, hz, hs, ht⟩ := h
  refine ⟨?_, ht⟩
  cases bs with
  | nil => exact hz
  | cons x bs =>
    have h1 := (hb x (List.mem_cons_self ..))
    rw [List.flatten_cons, List.length_append, List.length_append, h1.2] at hl
    obtain rfl : Z = [] := List.eq_nil_of_length_eq_zero (by omega)
    have : bs.flatten = [] := List.eq_nil_of_length_eq_zero (by omega)
    rw [List.flatten_cons, this, List.append_nil, List.append_nil]
    exact h1.1
theorem In2.start {s : Nat} {d0 e : List α} (h : Out1 κ s d0 e) : In2 κ s d0 0 e := by
  obtain ⟨bs, Z, rfl, hb, hz, hs, ht⟩ := h
  exact ⟨[], bs, Z, rfl, (fun b hb => nomatch hb), hb, hz, hs, rfl, ht⟩
theorem In2.le {s a : Nat} {d0 e : List α} (h : In2 κ s d0 a e) : a ≤ e.length := by
  obtain ⟨cs, bs, Z, rfl, hc, hb, hz, hs, ha, ht⟩ := h
  rw [List.length_append]; omega
theorem In2.step {s a : Nat} {d0 e : List α} (h : In2 κ s d0 a e) (hl : a + 2 * s ≤ e.length) : ∃ P L R S, e = P ++ L ++ R ++ S ∧ P.length = a ∧ L.length = s ∧ R.length = s ∧ Srt κ L ∧ Srt κ R ∧ (∀ x ∈ L, x ∈ d0) ∧ (∀ x ∈ R, x ∈ d0) ∧ ∀ Z, Srt κ Z → Stb κ (L ++ R) Z → In2 κ s d0 (a + 2 * s) (P ++ Z ++ S) := by
  obtain ⟨cs, bs, Z, rfl, hc, hb, hz, hs, ha, ht⟩ := h
  rw [List.length_append, List.length_append, hb.len, ha] at hl
  match bs, hb, ht, hl with
  | [], hb, ht, hl => simp at hl; omega
  | [x], hb, ht, hl => simp at hl; omega
  | x :: y :: bs, hb, ht, hl =>
    have hx := hb x (List.mem_cons_self ..)
    have hy := hb y (List.mem_cons_of_mem _ (List.mem_cons_self ..))
    refine ⟨cs.flatten, x, y, bs.flatten ++ Z, by simp, ha, hx.2, hy.2, hx.1, hy.1, fun z hz => (ht.mem z).1 (by simp [hz]), fun z hz => (ht.mem z).1 (by simp [hz]), fun V s1 b1 =>
      ⟨cs ++ [V], bs, Z, by simp, hc.snoc s1 (by rw [b1.len, List.length_append]; omega), fun b hb' => hb b (List.mem_cons_of_mem _ (List.mem_cons_of_mem _ hb')), hz, hs, by rw [flat_snoc, List.length_append, b1.len, List.length_append]; omega, ht.trans ?_⟩⟩
    have := (Stb.refl (κ := κ) cs.flatten).app (b1.app (Stb.refl (κ := κ) (bs.flatten ++ Z)))
    simpa using this
theorem In2.merge {s a : Nat} {d0 e : List α} (h : In2 κ s d0 a e) (h1 : e.length < a + 2 * s) (h2 : a + s < e.length) : ∃ P L R, e = P ++ L ++ R ++ [] ∧ P.length = a ∧ L.length = s ∧ 1 ≤ R.length ∧ a + s + R.length = e.length ∧ Srt κ L ∧ Srt κ R ∧ (∀ x ∈ L, x ∈ d0) ∧ (∀ x ∈ R, x ∈ d0) ∧ ∀ Z, Srt κ Z → Stb κ (L ++ R) Z → Out1 κ (2 * s) d0 (P ++ Z ++ []) := by
  obtain ⟨cs, bs, Z, rfl, hc, hb, hz, hs, ha, ht⟩ := h
  rw [List.length_append, List.length_append, hb.len, ha] at h1 h2
  match bs, hb, ht, h1, h2 with
  | [], hb, ht, h1, h2 => simp at h2; omega
  | x :: y :: bs, hb, ht, h1, h2 => simp only [List.length_cons, Nat.add_one_mul] at h1; omega
  | [x], hb, ht, h1, h2 =>
    have hx := hb x (List.mem_cons_self ..)
    simp only [List.length_cons, List.length_nil, Nat.zero_add, Nat.one_mul] at h1 h2
    refine ⟨cs.flatten, x, Z, by simp, ha, hx.2, by omega, by simp only [List.length_append, List.flatten_cons, List.flatten_nil, List.append_nil, hx.2]; omega, hx.1, hz, fun z hz => (ht.mem z).1 (by simp [hz]), fun z hz => (ht.mem z).1 (by simp [hz]), fun V s1 b1 =>
      ⟨cs, V, by simp, hc, s1, by rw [b1.len, List.length_append]; omega, ht.trans ?_⟩⟩
    have := (Stb.refl (κ := κ) cs.flatten).app b1
    simpa using this
theorem In2.rest {s a : Nat} {d0 e : List α} (h : In2 κ s d0 a e) (h1 : e.length < a + 2 * s) (h2 : ¬ a + s < e.length) : Out1 κ (2 * s) d0 e := by
  obtain ⟨cs, bs, Z, rfl, hc, hb, hz, hs, ha, ht⟩ := h
  rw [List.length_append, List.length_append, hb.len, ha] at h1 h2
  match bs, hb, ht, h1, h2 with
  | [], hb, ht, h1, h2 => exact ⟨cs, Z, by simp, hc, hz, by omega, ht⟩
  | x :: y :: bs, hb, ht, h1, h2 => simp only [List.length_cons, Nat.add_one_mul] at h1; omega
  | [x], hb, ht, h1, h2 =>
    have hx := hb x (List.mem_cons_self ..)
    simp only [List.length_cons, List.length_nil, Nat.zero_add, Nat.one_mul] at h1 h2
    obtain rfl : Z = [] := List.eq_nil_of_length_eq_zero (by omega)
    exact ⟨cs, x, by simp, hc, hx.1, by omega, ht⟩
end
theorem wmul2 {x z : Nat} (h : 2 * x = z) (hx : z ≤ 4503599627370496) : wrap64 (2 * (x : Int)) = (z : Int) := by unfold wrap64; omega
section
attribute [local go_sem] Oper.semAt_some
set_option maxHeartbeats 8000000 in
set_option maxRecDepth 100000 in
theorem insertion_none (g3 go base len cap a : Nat) (ok : Nat → Prop) (d : List G44) (W0 : World) (hR : Kd.R kG 44 W0 base ok (.slice (some ⟨go, 0, none⟩) len cap) d) (hal : a ≤ len) (hl : len ≤ 1048576) :
    Calls Try.prog 42 #[.slice (some ⟨go, 0, none⟩) len cap, .int .i64 (a : Int), .int .i64 (a : Int), .func (.func 34) #[] #[]] W0 fun e W' => e = .returned (.tuple #[]) ∧ Kd.R kG 44 W' base ok (.slice (some ⟨go, 0, none⟩) len cap) d ∧ W0.grownBy W' (some go) := by
  have HO := Aside0.mk hR
  have HG := Aside0.mk (World.grownBy.refl W0 (some go))
  obtain ⟨i0, hi0⟩ : ∃ i0, a + 1 = i0 := ⟨_, rfl⟩
  have HI := Aside0.mk hi0
  have bi0 : i0 ≤ 4503599627370496 := by omega
  have wa : wrap64 ((a : Int) + 1) = (i0 : Int) := wadd (x := a) (y := 1) hi0 bi0
  have wa2 : IntKind.i64.wrap ((a : Int) + 1) = (i0 : Int) := (i64_w _).trans wa
  clear hR hi0 bi0 hal hl
  go_enter Try.func42, Try.ntmps42
  go_wp2
  go_loopw [8] (fun v8 w' => v8 = .int .i64 (i0 : Int) ∧ Aside0 (Kd.R kG 44 w' base ok (.slice (some ⟨go, 0, none⟩) len cap) d) ∧ Aside0 (W0.grownBy w' (some go))) (fun v8 _ => 0)
  case atStart => exact ⟨rfl, HO, HG⟩
  case round =>
    clear HO HG wa wa2
    obtain ⟨rfl, HO, HG⟩ := hrel
    have q0 := eq_false (show ¬ (i0 : Int) < (a : Int) by have := HI.out; omega)
    have q00 := eq_false (show ¬ i0 < a by have := HI.out; omega)
    go_wp2
    go_end0
    exact ⟨rfl, HO.out, HG.out⟩
theorem insertion_any (κ : G44 → Int) (Dm : G44 → Prop) (g3 go base len cap a b : Nat) (ok : Nat → Prop) (P Z0 S : List G44) (W0 : World) (hR : Kd.R kG 44 W0 base ok (.slice (some ⟨go, 0, none⟩) len cap) (P ++ Z0 ++ S)) (ha : P.length = a) (hb : a + Z0.length = b) (hl : len ≤ 1048576) (hD : ∀ x ∈ Z0, Dm x) (hC : CmpOk κ Dm g3 go W0) :
    Calls Try.prog 42 #[.slice (some ⟨go, 0, none⟩) len cap, .int .i64 (a : Int), .int .i64 (b : Int), .func (.func 34) #[] #[]] W0 fun e W' => e = .returned (.tuple #[]) ∧ (∃ Z, Srt κ Z ∧ Stb κ Z0 Z ∧ Kd.R kG 44 W' base ok (.slice (some ⟨go, 0, none⟩) len cap) (P ++ Z ++ S)) ∧ W0.grownBy W' (some go) := by
  cases Z0 with
  | cons x Z0 => exact insertion_calls κ Dm g3 go base len cap a b ok P (x :: Z0) S W0 hR ha hb (by simp) hl hD hC
  | nil =>
    have hlen := row_len hR
    rw [List.length_append, List.length_append] at hlen
    obtain rfl : a = b := by simpa using hb
    refine (insertion_none g3 go base len cap a ok _ W0 hR (by omega) hl).mono ?_
    rintro e w ⟨rfl, h1, h2⟩
    exact ⟨rfl, ⟨[], List.Pairwise.nil, Stb.refl _, h1⟩, h2⟩
set_option maxHeartbeats 16000000 in
set_option maxRecDepth 100000 in
theorem stable_calls (κ : G44 → Int) (Dm : G44 → Prop) (g3 go base len cap : Nat) (ok : Nat → Prop) (d : List G44) (W0 : World) (hR : Kd.R kG 44 W0 base ok (.slice (some ⟨go, 0, none⟩) len cap) d) (hl : len ≤ 1048576) (hD : ∀ x ∈ d, Dm x) (hC : CmpOk κ Dm g3 go W0) (hS : ∀ a m b : Nat, SymOk κ Dm g3 go base len cap ok a m b) :
    Calls Try.prog 40 #[.slice (some ⟨go, 0, none⟩) len cap, .int .i64 (len : Int), .func (.func 34) #[] #[]] W0 fun e W' => e = .returned (.tuple #[]) ∧ (∃ Z, Srt κ Z ∧ Stb κ d Z ∧ Kd.R kG 44 W' base ok (.slice (some ⟨go, 0, none⟩) len cap) Z) ∧ W0.grownBy W' (some go) := by
  have HO := Aside0.mk hR
  have HG := Aside0.mk (World.grownBy.refl W0 (some go))
  have HLEN := Aside0.mk hl
  have HD := Aside0.mk hD
  have HC := Aside0.mk hC
  have HS := Aside0.mk hS
  have ST := Aside0.mk (In1.start (κ := κ) 20 d)
  clear hR hl hD hC hS
  go_enter Try.func40, Try.ntmps40
  go_wp2
  go_loopw [7, 8] (fun v7 v8 w' => ∃ (a b : Nat) (e : List G44), v7 = .int .i64 (a : Int) ∧ v8 = .int .i64 (b : Int) ∧ Aside0 (a + 20 = b) ∧ Aside0 (Kd.R kG 44 w' base ok (.slice (some ⟨go, 0, none⟩) len cap) e) ∧ Aside0 (W0.grownBy w' (some go)) ∧ Aside0 (In1 κ 20 d a e))
    (fun _ v8 _ => len + 1 - (intOf v8).toNat)
  case atStart => exact ⟨0, 20, d, by simp, by simp, ⟨by omega⟩, HO, HG, ST⟩
  case round =>
    clear HO HG ST
    obtain ⟨a, b, e, rfl, rfl, HAB, HO, HG, ST⟩ := hrel
    have hab := HAB.out
    have hlen := HLEN.out
    have hel := row_len HO.out
    by_cases hbl : b ≤ len
    · have q0 := eq_true (show (b : Int) ≤ (len : Int) by omega)
      have q00 := eq_true hbl
      obtain ⟨P, Z0, S, rfl, hP, hZ, hmem, hnext⟩ := ST.out.step (show a + 20 ≤ e.length by omega)
      obtain ⟨b2, hb2⟩ : ∃ b2, b + 20 = b2 := ⟨_, rfl⟩
      have bb2 : b2 ≤ 4503599627370496 := by omega
      have X1 := Aside0.mk hP
      have X2 := Aside0.mk (show a + Z0.length = b by omega)
      have X3 := Aside0.mk (show ∀ x ∈ Z0, Dm x from fun x hx => HD.out x (hmem x hx))
      have X4 := Aside0.mk (show ∀ Z, Srt κ Z → Stb κ Z0 Z → In1 κ 20 d b (P ++ Z ++ S) from hab ▸ hnext)
      have X5 := Aside0.mk (show b + 20 = b2 ∧ b ≤ len by omega)
      have wb2 : wrap64 ((b : Int) + 20) = (b2 : Int) := wadd (x := b) (y := 20) hb2 bb2
      have wb2q : IntKind.i64.wrap ((b : Int) + 20) = (b2 : Int) := (i64_w _).trans wb2
      clear hab hlen hel hbl hP hZ hmem hnext hb2 bb2 ST HAB
      go_wp2_with (go_at_call 42; refine (insertion_any κ Dm g3 go base len cap a b ok P Z0 S _ HO.out X1.out X2.out HLEN.out X3.out (HC.out.later HG.out)).mono ?_; rintro e_ w5 ⟨rfl, ⟨Z, y1, y2, ho⟩, hg⟩; have HO1 := Aside0.mk ho; have HG1 := Aside0.mk (grown_trans HG.out hg); have X6 := Aside0.mk (X4.out Z y1 y2); clear ho hg y1 y2)
      go_roundw
      case rel => exact ⟨b, b2, _, rfl, rfl, ⟨X5.out.1⟩, HO1, HG1, X6⟩
      case measure => have h1 := X5.out; simp [intOf]; omega
    · have q0 := eq_false (show ¬ (b : Int) ≤ (len : Int) by omega)
      have q00 := eq_false hbl
      obtain ⟨P, Z0, rfl, hP, hZ, hmem, hnext⟩ := ST.out.last (show e.length < a + 20 by omega)
      have X1 := Aside0.mk hP
      have X2 := Aside0.mk (show a + Z0.length = len by omega)
      have X3 := Aside0.mk (show ∀ x ∈ Z0, Dm x from fun x hx => HD.out x (hmem x hx))
      have X4 := Aside0.mk hnext
      clear hab hlen hel hbl hP hZ hmem hnext ST HAB
      go_wp2_with (go_at_call 42; refine (insertion_any κ Dm g3 go base len cap a len ok P Z0 [] _ HO.out X1.out X2.out HLEN.out X3.out (HC.out.later HG.out)).mono ?_; rintro e_ w5 ⟨rfl, ⟨Z, y1, y2, ho⟩, hg⟩; have HO1 := Aside0.mk ho; have HG1 := Aside0.mk (grown_trans HG.out hg); have X6 := Aside0.mk (X4.out Z y1 y2); clear ho hg y1 y2)
      clear HO HG
      go_loopw [6] (fun v6 w' => ∃ (s : Nat) (e : List G44), v6 = .int .i64 (s : Int) ∧ Aside0 (1 ≤ s) ∧ Aside0 (Kd.R kG 44 w' base ok (.slice (some ⟨go, 0, none⟩) len cap) e) ∧ Aside0 (W0.grownBy w' (some go)) ∧ Aside0 (Out1 κ s d e))
        (fun v6 _ => len + 1 - (intOf v6).toNat)
      case atStart => exact ⟨20, _, by simp, ⟨by omega⟩, HO1, HG1, X6⟩
      case round =>
        clear HO1 HG1 X6 X1 X2 X3 X4 q0 q00
        obtain ⟨s, e, rfl, HS1, HO, HG, ST⟩ := hrel
        have hs1 := HS1.out
        have hlen := HLEN.out
        have hel := row_len HO.out
        by_cases hsl : s < len
        · have q0 := eq_true (show (s : Int) < (len : Int) by omega)
          have q00 := eq_true hsl
          obtain ⟨s2, hs2⟩ : ∃ s2, 2 * s = s2 := ⟨_, rfl⟩
          have HS2 := Aside0.mk (show 2 * s = s2 ∧ s < len ∧ 1 ≤ s by omega)
          have ST2 := Aside0.mk (In2.start ST.out)
          have bs2 : s2 ≤ 4503599627370496 := by omega
          have ws2 : wrap64 (2 * (s : Int)) = (s2 : Int) := wmul2 hs2 bs2
          have ws2q : IntKind.i64.wrap (2 * (s : Int)) = (s2 : Int) := (i64_w _).trans ws2
          have ws3 : wrap64 ((s : Int) * 2) = (s2 : Int) := (congrArg wrap64 (Int.mul_comm _ _)).trans ws2
          have ws3q : IntKind.i64.wrap ((s : Int) * 2) = (s2 : Int) := (i64_w _).trans ws3
          have WS := Aside0.mk (And.intro ws2 ws3)
          clear hs1 hlen hel hsl hs2 bs2 ST
          go_wp2
          clear q0 q00 ws2 ws2q ws3 ws3q
          go_loopw [7, 8] (fun v7 v8 w' => ∃ (a b : Nat) (e : List G44), v7 = .int .i64 (a : Int) ∧ v8 = .int .i64 (b : Int) ∧ Aside0 (a + s2 = b) ∧ Aside0 (Kd.R kG 44 w' base ok (.slice (some ⟨go, 0, none⟩) len cap) e) ∧ Aside0 (W0.grownBy w' (some go)) ∧ Aside0 (In2 κ s d a e))
            (fun _ v8 _ => len + 1 - (intOf v8).toNat)
          case atStart => exact ⟨0, s2, e, by simp, rfl, ⟨by omega⟩, HO, HG, ST2⟩
          case round =>
            clear HO HG ST2
            obtain ⟨a, b, e, rfl, rfl, HAB, HO, HG, ST⟩ := hrel
            have hab := HAB.out
            have hlen := HLEN.out
            have hel := row_len HO.out
            have hss := HS2.out
            by_cases hbl : b ≤ len
            · have q0 := eq_true (show (b : Int) ≤ (len : Int) by omega)
              have q00 := eq_true hbl
              obtain ⟨P, L, R, S, rfl, hP, hL, hR, sL, sR, mL, mR, hnext⟩ := ST.out.step (show a + 2 * s ≤ e.length by omega)
              obtain ⟨m, hm⟩ : ∃ m, a + s = m := ⟨_, rfl⟩
              have bm : m ≤ 4503599627370496 := by omega
              obtain ⟨b2, hb2⟩ : ∃ b2, b + s2 = b2 := ⟨_, rfl⟩
              have bb2 : b2 ≤ 4503599627370496 := by omega
              have X1 := Aside0.mk hP.symm
              have X2 := Aside0.mk (show m = a + L.length by omega)
              have X3 := Aside0.mk (show b = m + R.length by omega)
              have X4 := Aside0.mk (show 1 ≤ L.length by omega)
              have X5 := Aside0.mk (show 1 ≤ R.length by omega)
              have X6 := Aside0.mk sL
              have X7 := Aside0.mk sR
              have X8 := Aside0.mk (show ∀ x ∈ L, Dm x from fun x hx => HD.out x (mL x hx))
              have X9 := Aside0.mk (show ∀ x ∈ R, Dm x from fun x hx => HD.out x (mR x hx))
              have XN := Aside0.mk (show ∀ Z, Srt κ Z → Stb κ (L ++ R) Z → In2 κ s d b (P ++ Z ++ S) from (show a + 2 * s = b by omega) ▸ hnext)
              have XB := Aside0.mk (show b + s2 = b2 ∧ b ≤ len ∧ 1 ≤ s2 by omega)
              have wam : wrap64 ((a : Int) + (s : Int)) = (m : Int) := wadd hm bm
              have wamq : IntKind.i64.wrap ((a : Int) + (s : Int)) = (m : Int) := (i64_w _).trans wam
              have wb2 : wrap64 ((b : Int) + (s2 : Int)) = (b2 : Int) := wadd hb2 bb2
              have wb2q : IntKind.i64.wrap ((b : Int) + (s2 : Int)) = (b2 : Int) := (i64_w _).trans wb2
              have ws2 := WS.out.1
              have ws2q : IntKind.i64.wrap (2 * (s : Int)) = (s2 : Int) := (i64_w _).trans ws2
              clear hab hlen hel hss hbl hP hL hR sL sR mL mR hnext hm bm hb2 bb2 ST HAB
              go_wp2_with (go_at_call 43; refine ((HS.out a m b).call P L R S _ HO.out X1.out X2.out X3.out X4.out X5.out X6.out X7.out HLEN.out X8.out X9.out (HC.out.later HG.out)).mono ?_; rintro e_ w5 ⟨rfl, ⟨Z, y1, y2, ho⟩, hg⟩; have HO1 := Aside0.mk ho; have HG1 := Aside0.mk (grown_trans HG.out hg); have XZ := Aside0.mk (XN.out Z y1 y2); clear ho hg y1 y2)
              go_roundw
              case rel => exact ⟨b, b2, _, rfl, rfl, ⟨XB.out.1⟩, HO1, HG1, XZ⟩
              case measure => have h1 := XB.out; simp [intOf]; omega
            · have q0 := eq_false (show ¬ (b : Int) ≤ (len : Int) by omega)
              have q00 := eq_false hbl
              obtain ⟨m, hm⟩ : ∃ m, a + s = m := ⟨_, rfl⟩
              have hal := ST.out.le
              have bm : m ≤ 4503599627370496 := by omega
              have XB := Aside0.mk (show s < s2 ∧ s < len ∧ 1 ≤ s2 by omega)
              by_cases hml : m < len
              · have q1 := eq_true (show (m : Int) < (len : Int) by omega)
                have q11 := eq_true hml
                obtain ⟨P, L, R, rfl, hP, hL, hR, hR2, sL, sR, mL, mR, hnext⟩ := ST.out.merge (show e.length < a + 2 * s by omega) (show a + s < e.length by omega)
                have X1 := Aside0.mk hP.symm
                have X2 := Aside0.mk (show m = a + L.length by omega)
                have X3 := Aside0.mk (show len = m + R.length by omega)
                have X4 := Aside0.mk (show 1 ≤ L.length by omega)
                have X5 := Aside0.mk hR
                have X6 := Aside0.mk sL
                have X7 := Aside0.mk sR
                have X8 := Aside0.mk (show ∀ x ∈ L, Dm x from fun x hx => HD.out x (mL x hx))
                have X9 := Aside0.mk (show ∀ x ∈ R, Dm x from fun x hx => HD.out x (mR x hx))
                have XN := Aside0.mk (show ∀ Z, Srt κ Z → Stb κ (L ++ R) Z → Out1 κ s2 d (P ++ Z ++ []) from hss.1 ▸ hnext)
                have wam : wrap64 ((a : Int) + (s : Int)) = (m : Int) := wadd hm bm
                have wamq : IntKind.i64.wrap ((a : Int) + (s : Int)) = (m : Int) := (i64_w _).trans wam
                have ws3 := WS.out.2
                have ws3q : IntKind.i64.wrap ((s : Int) * 2) = (s2 : Int) := (i64_w _).trans ws3
                clear hab hlen hel hss hbl hP hL hR hR2 sL sR mL mR hnext hm bm hml hal ST HAB
                go_wp2_with (go_at_call 43; refine ((HS.out a m len).call P L R [] _ HO.out X1.out X2.out X3.out X4.out X5.out X6.out X7.out HLEN.out X8.out X9.out (HC.out.later HG.out)).mono ?_; rintro e_ w5 ⟨rfl, ⟨Z, y1, y2, ho⟩, hg⟩; have HO1 := Aside0.mk ho; have HG1 := Aside0.mk (grown_trans HG.out hg); have XZ := Aside0.mk (XN.out Z y1 y2); clear ho hg y1 y2)
                go_roundw
                case rel => exact ⟨s2, _, rfl, ⟨XB.out.2.2⟩, HO1, HG1, XZ⟩
                case measure => have h1 := XB.out; simp [intOf]; omega
              · have q1 := eq_false (show ¬ (m : Int) < (len : Int) by omega)
                have q11 := eq_false hml
                have XZ := Aside0.mk (show Out1 κ s2 d e from hss.1 ▸ ST.out.rest (show e.length < a + 2 * s by omega) (show ¬ a + s < e.length by omega))
                have wam : wrap64 ((a : Int) + (s : Int)) = (m : Int) := wadd hm bm
                have wamq : IntKind.i64.wrap ((a : Int) + (s : Int)) = (m : Int) := (i64_w _).trans wam
                have ws3 := WS.out.2
                have ws3q : IntKind.i64.wrap ((s : Int) * 2) = (s2 : Int) := (i64_w _).trans ws3
                clear hab hlen hel hss hbl hm bm hml hal ST HAB
                go_wp2
                go_roundw
                case rel => exact ⟨s2, e, rfl, ⟨XB.out.2.2⟩, HO, HG, XZ⟩
                case measure => have h1 := XB.out; simp [intOf]; omega
        · have q0 := eq_false (show ¬ (s : Int) < (len : Int) by omega)
          have q00 := eq_false hsl
          have RES := Aside0.mk (ST.out.done (show e.length ≤ s by omega))
          clear hs1 hlen hel hsl ST
          go_wp2
          go_end0
          exact ⟨rfl, ⟨e, RES.out.1, RES.out.2, HO.out⟩, HG.out⟩
set_option maxHeartbeats 4000000 in
theorem sortStable_calls (κ : G44 → Int) (Dm : G44 → Prop) (g3 go base len cap : Nat) (ok : Nat → Prop) (d : List G44) (W0 : World) (hR : Kd.R kG 44 W0 base ok (.slice (some ⟨go, 0, none⟩) len cap) d) (hl : len ≤ 1048576) (hD : ∀ x ∈ d, Dm x) (hC : CmpOk κ Dm g3 go W0) (hS : ∀ a m b : Nat, SymOk κ Dm g3 go base len cap ok a m b) :
    Calls Try.prog 33 #[.slice (some ⟨go, 0, none⟩) len cap, .func (.func 34) #[] #[]] W0 fun e W' => e = .returned (.tuple #[]) ∧ (∃ Z, Srt κ Z ∧ Stb κ d Z ∧ Kd.R kG 44 W' base ok (.slice (some ⟨go, 0, none⟩) len cap) Z) ∧ W0.grownBy W' (some go) := by
  have HO := Aside0.mk hR
  have HLEN := Aside0.mk hl
  have HD := Aside0.mk hD
  have HC := Aside0.mk hC
  have HS := Aside0.mk hS
  clear hR hl hD hC hS
  go_enter Try.func33, Try.ntmps33
  go_wp2_with (go_at_call 40; refine (stable_calls κ Dm g3 go base len cap ok d _ HO.out HLEN.out HD.out HC.out HS.out).mono ?_; rintro e_ w5 ⟨rfl, ho, hg⟩; have HO1 := Aside0.mk ho; have HG1 := Aside0.mk hg; clear ho hg)
  go_end0
  exact ⟨rfl, HO1.out, HG1.out⟩
end
end Go.Proofs.Ytdgpcjhincgijaa.Pr

-- YtdgpcjhincgijaaLs7
namespace Go.Proofs.Ytdgpcjhincgijaa.Pr
open Go.RowKit Go.Shelf Go.Proofs.YtdgpcjhincgijaaW.PrintWords Go.Proofs.YtdgpcjhincgijaaW.PrintLast Go.Proofs.YtdgpcjhincgijaaW.PrintMore
set_option linter.unusedVariables false
set_option linter.unusedSimpArgs false
/-- symMerge merges two sorted rows that stand beside one another, and keeps the order of what is alike. -/
theorem sym_ok (κ : G44 → Int) (Dm : G44 → Prop) (g3 go base len cap : Nat) (ok : Nat → Prop) : ∀ (n a m b : Nat), b - a = n → SymOk κ Dm g3 go base len cap ok a m b := by
  intro n
  induction n using Nat.strongRecOn with
  | ind n ih =>
    intro a m b hn P L R S W0 hR ha hm hb hl1 hr1 hsL hsR hl hDL hDR hC
    have hlen := row_len hR
    simp only [List.length_append] at hlen
    by_cases h1 : L.length = 1
    · obtain ⟨x, rfl⟩ := List.length_eq_one_iff.1 h1
      have h := sym_one κ Dm g3 go base len cap a m b ok P x R S W0 (by have h := hR; simp only [List.append_assoc, List.cons_append, List.nil_append] at h ⊢; exact h) ha (by simpa using hm) hb hsR hl (hDL x (List.mem_singleton.2 rfl)) hDR hC
      exact h
    · by_cases h2 : R.length = 1
      · obtain ⟨x, rfl⟩ := List.length_eq_one_iff.1 h2
        exact sym_last κ Dm g3 go base len cap a m b ok P L x S W0 (by have h := hR; simp only [List.append_assoc, List.cons_append, List.nil_append] at h ⊢; exact h) ha hm (by simpa using hb) (by omega) hsL hl (hDR x (List.mem_singleton.2 rfl)) hDL hC
      · have ham : a < m := by omega
        have hmb : m < b := by omega
        have hgap : a + 4 ≤ b := by omega
        have hble : b ≤ len := by omega
        obtain ⟨sab, hsab⟩ : ∃ s, a + b = s := ⟨_, rfl⟩
        obtain ⟨mid, hmid⟩ : ∃ mid, sab / 2 = mid := ⟨_, rfl⟩
        have hmid2 : mid = (a + b) / 2 := by rw [hsab, hmid]
        obtain ⟨n0, hn0⟩ : ∃ n, mid + m = n := ⟨_, rfl⟩
        have hmidb : mid < b := by omega
        have hamid : a < mid := by omega
        obtain ⟨p, hp⟩ : ∃ p, 1 + p = n0 := ⟨n0 - 1, by omega⟩
        have hp2 : 1 + p = mid + m := by rw [hp, hn0]
        obtain ⟨ll, hll⟩ : ∃ ll, a + ll = m := ⟨L.length, hm.symm⟩
        obtain ⟨lr, hlr⟩ : ∃ lr, m + lr = b := ⟨R.length, hb.symm⟩
        have IH : ∀ a' m' b' : Nat, b' - a' < b - a → SymOk κ Dm g3 go base len cap ok a' m' b' := fun a' m' b' h => ih (b' - a') (by omega) a' m' b' rfl
        have DD := Aside0.mk (show ∀ k, a ≤ k → k < b → Dm ((P ++ L ++ R ++ S).getD k z44) from fun k k1 k2 => sym_dom ha hm hb hDL hDR k1 k2)
        have N1 : a = P.length ∧ a < m ∧ m < b ∧ mid < b ∧ a < mid ∧ b ≤ len ∧ len ≤ 1048576 ∧ mid + m = n0 ∧ 1 + p = n0 ∧ n0 ≤ 4503599627370496 := ⟨ha, ham, hmb, hmidb, hamid, hble, hl, hn0, hp, by omega⟩
        have B1 : sab ≤ 4503599627370496 := by omega
        have B2 : mid ≤ 4503599627370496 := by omega
        have B3 : n0 ≤ 4503599627370496 := by omega
        have B4 : m ≤ 4503599627370496 := by omega
        have B5 : b ≤ 4503599627370496 := by omega
        have B6 : p ≤ 4503599627370496 := by omega
        have B7 : ll ≠ 1 := by omega
        have B8 : lr ≠ 1 := by omega
        have go1 : ∀ s0 r0, (mid < m ∧ s0 = mid + m - b ∧ r0 = mid) ∨ (m ≤ mid ∧ s0 = a ∧ r0 = m) → r0 ≤ m ∧ Aside0 (Bs3 κ z44 (P ++ L ++ R ++ S) p s0 r0 s0 r0) ∧ Aside0 (∀ i j c : Nat, Bs3 κ z44 (P ++ L ++ R ++ S) p s0 r0 i j → i < j → c = (i + j) / 2 → i ≤ c ∧ c < j ∧ c ≤ p ∧ m ≤ p - c ∧ p - c < b ∧ a ≤ c ∧ c < b) := fun s0 r0 hc => by
          obtain ⟨k1, k2, k3, k4⟩ := sym_nums ham hmb hmid2 hp2 hc
          refine ⟨k2, ⟨⟨Nat.le_refl _, k4, Nat.le_refl _, .inl rfl, .inl rfl⟩⟩, ⟨fun i j c s h3 h4 => ?_⟩⟩
          obtain ⟨e1, e2, e3, e4⟩ := sym_step s h3 h4
          obtain ⟨f1, f2, f3, f4, f5⟩ := sym_at ham hmb hmid2 hp2 hc e3 e4
          exact ⟨e1, e2, f1, f2, f3, f4, f5⟩
        by_cases hlt : mid < m
        · obtain ⟨s0, hs0⟩ : ∃ s0, mid + m - b = s0 := ⟨_, rfl⟩
          obtain ⟨g1, g2, g3'⟩ := go1 s0 mid (.inl ⟨hlt, hs0.symm, rfl⟩)
          have TAIL := Aside0.mk (fun (st en : Nat) (he : en = mid + m - st) (s : Bs3 κ z44 (P ++ L ++ R ++ S) p s0 mid st st) => sym_tail (S := S) (Dm := Dm) ha hm hb hsL hsR hl1 hr1 hmid2 hp2 he (.inl ⟨hlt, hs0.symm, rfl⟩) hDL hDR s)
          exact sym_main1 κ Dm g3 go base len cap a m b mid p s0 mid n0 ll lr sab ok P L R S _ W0 hR B1 hsab hmid B2 hn0 B3 hp hll hlr B4 B5 B7 B8 ⟨hlt, by omega, rfl⟩ ⟨N1.1, N1.2.1, N1.2.2.1, N1.2.2.2.1, N1.2.2.2.2.1, hble, hl, hn0, hp, B3, g1, B6⟩ g2 g3' DD TAIL ⟨hC⟩ ⟨IH⟩
        · obtain ⟨g1, g2, g3'⟩ := go1 a m (.inr ⟨by omega, rfl, rfl⟩)
          have TAIL := Aside0.mk (fun (st en : Nat) (he : en = mid + m - st) (s : Bs3 κ z44 (P ++ L ++ R ++ S) p a m st st) => sym_tail (S := S) (Dm := Dm) ha hm hb hsL hsR hl1 hr1 hmid2 hp2 he (.inr ⟨by omega, rfl, rfl⟩) hDL hDR s)
          exact sym_main2 κ Dm g3 go base len cap a m b mid p a m n0 ll lr sab ok P L R S _ W0 hR B1 hsab hmid B2 hn0 B3 hp hll hlr B4 B5 B7 B8 ⟨by omega, rfl, rfl⟩ ⟨N1.1, N1.2.1, N1.2.2.1, N1.2.2.2.1, N1.2.2.2.2.1, hble, hl, hn0, hp, B3, g1, B6⟩ g2 g3' DD TAIL ⟨hC⟩ ⟨IH⟩
end Go.Proofs.Ytdgpcjhincgijaa.Pr

-- YtdgpcjhincgijaaLm1
namespace Go.Proofs.Ytdgpcjhincgijaa.Pr
open Go.RowKit Go.Shelf Go.Proofs.YtdgpcjhincgijaaW.PrintWords Go.Proofs.YtdgpcjhincgijaaW.PrintLast Go.Proofs.YtdgpcjhincgijaaW.PrintMore
set_option linter.unusedVariables false
set_option linter.unusedSimpArgs false
section
attribute [local go_sem] Oper.semAt_some
theorem info44 : (Try.prog.info? 44).map (fun i => (i.zero, i.size, i.bytes)) = some (some (.agg #[(.int .i64 0), (.slice none 0 0)]), 2, 32) := by kernel_rfl
set_option maxHeartbeats 16000000 in
set_option maxRecDepth 1000000 in
theorem cmp44_calls (x y : G44) (w : World) : Calls Try.prog 34 #[.agg #[.int .i64 x.f0, .slice x.A x.n x.c], .agg #[.int .i64 y.f0, .slice y.A y.n y.c]] w fun e w' => e = .returned (.int .i64 (wrap64 (x.f0 - y.f0))) ∧ Below w.heap.size w w' := by
  have HB := Aside0.mk (Below.refl w.heap.size w)
  go_enter Try.func34, Try.ntmps34
  go_wp2_with (first
        | ((with_reducible refine gate_dst (N := 2) rfl ?_); refine box_event ?hg (N := 2) ?hd (cs := #[.int .i64 x.f0, .slice x.A x.n x.c]) (t := 44) ?hr ?_; (case hd => rfl); (case hg => rfl); (case hr => first | (go_simp; done) | (go_simp; rfl)); intro gx hg_ w2 hbox hb; have n0 := Aside0.mk (below_then HB.out HB.out.size hb); have n1 := Aside0.mk (hbox); clear HB; have HB := n0; have BX := n1; clear n0 n1; clear hg_ hbox hb; have hcgx0 : w2.cell? ⟨gx, 0, none⟩ = some (.int .i64 x.f0) := (blk_cell BX.out 0).trans rfl; have hcgx1 : w2.cell? ⟨gx, 1, none⟩ = some (.slice x.A x.n x.c) := (blk_cell BX.out 1).trans rfl)
        | ((with_reducible refine gate_dst (N := 3) rfl ?_); refine box_event ?hg (N := 3) ?hd (cs := #[.int .i64 y.f0, .slice y.A y.n y.c]) (t := 44) ?hr ?_; (case hd => rfl); (case hg => rfl); (case hr => first | (go_simp; done) | (go_simp; rfl)); intro gy hg_ w3 hbox hb; have n0 := Aside0.mk (below_then HB.out HB.out.size hb); have n1 := Aside0.mk (blk_below BX.out hb); have n2 := Aside0.mk (hbox); clear HB BX; have HB := n0; have BX := n1; have BY := n2; clear n0 n1 n2; clear hg_ hbox hb; clear hcgx0 hcgx1; have hcgx0 : w3.cell? ⟨gx, 0, none⟩ = some (.int .i64 x.f0) := (blk_cell BX.out 0).trans rfl; have hcgx1 : w3.cell? ⟨gx, 1, none⟩ = some (.slice x.A x.n x.c) := (blk_cell BX.out 1).trans rfl; have hcgy0 : w3.cell? ⟨gy, 0, none⟩ = some (.int .i64 y.f0) := (blk_cell BY.out 0).trans rfl; have hcgy1 : w3.cell? ⟨gy, 1, none⟩ = some (.slice y.A y.n y.c) := (blk_cell BY.out 1).trans rfl)
        )
  go_ret
  exact ⟨rfl, HB.out⟩
def PDm (x : G44) : Prop := 0 ≤ x.f0 ∧ x.f0 ≤ 2305843009213693952
def kF (x : G44) : Int := x.f0
theorem cmp44_ok (g3 go : Nat) (W : World) : CmpOk kF PDm g3 go W := fun W' _ x y hx hy => by
  refine (cmp44_calls x y W').mono ?_
  rintro e w ⟨rfl, hb⟩
  refine ⟨_, rfl, ?_, hb⟩
  obtain ⟨h1, h2⟩ := hx
  obtain ⟨h3, h4⟩ := hy
  unfold kF wrap64
  omega
set_option maxHeartbeats 16000000 in
set_option maxRecDepth 1000000 in
theorem sorted_calls (go cap base : Nat) (ok : Nat → Prop) (d : List G44) (W : World) (hR : Kd.R kG 44 W base ok (.slice (some ⟨go, 0, none⟩) d.length cap) d) (hD : ∀ x ∈ d, PDm x) (hl : d.length ≤ 1048576) :
    Calls Try.prog 20 #[.slice (some ⟨go, 0, none⟩) d.length cap] W fun e W' => e = .returned (.slice (some ⟨go, 0, none⟩) d.length cap) ∧ (∃ Z, Srt kF Z ∧ Stb kF d Z ∧ Kd.R kG 44 W' base ok (.slice (some ⟨go, 0, none⟩) d.length cap) Z) ∧ W.grownBy W' (some go) := by
  have HO := Aside0.mk hR
  have HD := Aside0.mk hD
  have HL := Aside0.mk hl
  clear hR hD hl
  go_enter Try.func20, Try.ntmps20
  go_wp2_with (go_at_call 33; refine (sortStable_calls kF PDm 0 go base d.length cap ok d _ HO.out HL.out HD.out (cmp44_ok 0 go _) (fun a m b => sym_ok kF _ 0 go base d.length cap _ _ a m b rfl)).mono ?_; rintro e_ w3 ⟨rfl, ho, hg⟩; have HO1 := Aside0.mk ho; have HG1 := Aside0.mk hg; clear ho hg)
  go_ret
  exact ⟨rfl, HO1.out, HG1.out⟩
theorem wrap64_id {n : Int} (h1 : -9223372036854775808 ≤ n) (h2 : n < 9223372036854775808) : wrap64 n = n := by
  unfold wrap64
  omega
theorem val_next (k : Nat) (h : k < 1000000000) : Value.int .i64 (wrap64 ((k : Int) + 1)) = Value.int .i64 ((k + 1 : Nat) : Int) := by
  rw [wrap64_id (by omega) (by omega), show (k : Int) + 1 = ((k + 1 : Nat) : Int) by omega]
theorem nat_next (k : Nat) (h : k < 1000000000) : (intOf (Value.int .i64 (wrap64 ((k : Int) + 1)))).toNat = k + 1 := by
  rw [val_next k h]
  exact Int.toNat_natCast _
def badF (n : Int) : Bool := decide (n < 0) || decide (n > 4294967295)
def badL (l : List Int) : Bool := l.any badF
set_option maxHeartbeats 16000000 in
set_option maxRecDepth 1000000 in
theorem oft1_calls (n : Int) (w : World) : Calls Try.prog 32 #[.int .i64 n] w fun e w' => e = .returned (.bool (badF n)) ∧ w' = w := by
  unfold badF
  by_cases h0 : n < 0
  · have q0 := eq_true h0
    rw [decide_eq_true h0]
    go_enter Try.func32, Try.ntmps32
    go_wp2
    go_ret
    exact ⟨rfl, rfl⟩
  · have q0 := eq_false h0
    rw [decide_eq_false h0]
    by_cases h1 : n > 4294967295
    · have q1 := eq_true h1
      have q2 := eq_true (show (4294967295 : Int) < n from h1)
      rw [decide_eq_true h1]
      go_enter Try.func32, Try.ntmps32
      go_wp2
      go_ret
      exact ⟨rfl, rfl⟩
    · have q1 := eq_false h1
      have q2 := eq_false (show ¬ (4294967295 : Int) < n from h1)
      rw [decide_eq_false h1]
      go_enter Try.func32, Try.ntmps32
      go_wp2
      go_ret
      exact ⟨rfl, rfl⟩
theorem takeI (xs : List Int) {k : Nat} (hk : k < xs.length) : xs.take (k + 1) = xs.take k ++ [rd xs (k : Int)] := by
  rw [List.take_add_one]
  unfold rd
  rw [Int.toNat_natCast, List.getD_eq_getElem?_getD, List.getElem?_eq_getElem hk]
  rfl
set_option maxHeartbeats 16000000 in
set_option maxRecDepth 1000000 in
theorem ixf_calls (A : Option Addr) (c : Nat) (l : List Int) (w : World) (hI : (Kd.int .i64).C w A l.length l) (hl : l.length ≤ 1048576) :
    Calls Try.prog 39 #[.slice A l.length c, .func (.func 32) #[] #[]] w fun e w' => (∃ r : Int, e = .returned (.int .i64 r) ∧ ((r = -1 ∧ badL l = false) ∨ (0 ≤ r ∧ badL l = true))) ∧ w' = w := by
  have HI := Aside0.mk hI
  clear hI
  go_enter Try.func39, Try.ntmps39
  go_wp2
  go_loopw [8] (fun v8 w' => ∃ k : Nat, k ≤ l.length ∧ v8 = .int .i64 (k : Int) ∧ Aside0 (badL (l.take k) = false) ∧ w' = w)
    (fun v8 _ => l.length + 1 - (intOf v8).toNat)
  case atStart => exact ⟨0, by omega, rfl, ⟨by simp [badL]⟩, rfl⟩
  case round =>
    obtain ⟨k, hk, rfl, HN, rfl⟩ := hrel
    by_cases hlt : k < l.length
    · obtain ⟨ad, ead, hx0⟩ := Kd.at_int HI.out (k : Int) (by omega) (by omega)
      subst ead
      rw [Int.toNat_natCast] at hx0
      have HT := Aside0.mk (takeI l hlt)
      obtain ⟨x, hx⟩ : ∃ x, rd l (k : Int) = x := ⟨_, rfl⟩
      rw [hx] at hx0 HT
      have q0 := eq_true (show (k : Int) < (l.length : Int) by omega)
      have q1 := eq_true (show (0 : Int) ≤ (k : Int) by omega)
      have q2 := eq_true hlt
      have HL := Aside0.mk hlt
      have HLL := Aside0.mk hl
      clear hx hk hl hlt
      obtain ⟨b, hb⟩ : ∃ b, badF x = b := ⟨_, rfl⟩
      have HBF := Aside0.mk hb
      clear hb
      cases b with
      | true =>
        go_wp2_with (go_at_call 32; have hc := oft1_calls x wr; rw [HBF.out] at hc; refine hc.mono ?_; clear hc; rintro e w3 ⟨rfl, rfl⟩)
        go_ret
        refine ⟨⟨_, rfl, .inr ⟨by omega, ?_⟩⟩, rfl⟩
        have h1 : l = l.take (k + 1) ++ l.drop (k + 1) := (List.take_append_drop _ _).symm
        rw [h1, HT.out]
        unfold badL
        simp [HBF.out]
      | false =>
        go_wp2_with (go_at_call 32; have hc := oft1_calls x wr; rw [HBF.out] at hc; refine hc.mono ?_; clear hc; rintro e w3 ⟨rfl, rfl⟩)
        have hlt := HL.out
        go_roundw
        case rel => exact ⟨k + 1, by omega, val_next _ (by have := HLL.out; omega), ⟨by rw [HT.out]; have := HN.out; unfold badL at this ⊢; rw [List.any_append, this]; simp [HBF.out]⟩, by first | rfl | trivial⟩
        case measure => rw [nat_next _ (by have := HLL.out; omega)]; simp only [intOf, Int.toNat_natCast]; omega
    · obtain rfl : k = l.length := by omega
      have q0 := eq_false (show ¬ (l.length : Int) < (l.length : Int) by omega)
      go_wp2
      go_ret
      exact ⟨⟨_, rfl, .inl ⟨rfl, by have := HN.out; rwa [List.take_length] at this⟩⟩, rfl⟩
set_option maxHeartbeats 16000000 in
set_option maxRecDepth 1000000 in
theorem ctf_calls (A : Option Addr) (c : Nat) (l : List Int) (w : World) (hI : (Kd.int .i64).C w A l.length l) (hl : l.length ≤ 1048576) :
    Calls Try.prog 31 #[.slice A l.length c, .func (.func 32) #[] #[]] w fun e w' => e = .returned (.bool (badL l)) ∧ w' = w := by
  have HI := Aside0.mk hI
  clear hI
  obtain ⟨b, hb⟩ : ∃ b, badL l = b := ⟨_, rfl⟩
  have HBF := Aside0.mk hb
  rw [hb]
  clear hb
  go_enter Try.func31, Try.ntmps31
  cases b with
  | true =>
    go_wp2_with (go_at_call 39; refine (ixf_calls A c l w HI.out hl).mono ?_; rintro e w3 ⟨⟨r, rfl, hr⟩, rfl⟩; have hr0 : 0 ≤ r := (by rcases hr with ⟨_, h⟩ | ⟨h, _⟩; (rw [HBF.out] at h; cases h); exact h); have q0 := eq_true hr0; have q1 := eq_true (show r ≥ 0 from hr0); clear hr hr0)
    go_ret
    exact ⟨rfl, rfl⟩
  | false =>
    go_wp2_with (go_at_call 39; refine (ixf_calls A c l w HI.out hl).mono ?_; rintro e w3 ⟨⟨r, rfl, hr⟩, rfl⟩; have hr0 : r = -1 := (by rcases hr with ⟨h, _⟩ | ⟨_, h⟩; exact h; (rw [HBF.out] at h; cases h)); subst hr0; clear hr)
    go_ret
    exact ⟨rfl, rfl⟩
def oftenS (l : List Int) : Bool := decide (1 ≤ l.length ∧ l.length ≤ 288) && !badL l
set_option maxHeartbeats 16000000 in
set_option maxRecDepth 1000000 in
theorem often_calls (A : Option Addr) (c : Nat) (l : List Int) (w : World) (hI : (Kd.int .i64).C w A l.length l) :
    Calls Try.prog 19 #[.slice A l.length c] w fun e w' => e = .returned (.bool (oftenS l)) ∧ w' = w := by
  have HI := Aside0.mk hI
  clear hI
  unfold oftenS
  by_cases h1 : l.length < 1
  · have q0 := eq_true (show (l.length : Int) < 1 by omega)
    have e0 : (l.length : Int) = 0 := by omega
    rw [decide_eq_false (by omega), Bool.false_and]
    go_enter Try.func19, Try.ntmps19
    go_wp2
    go_ret
    exact ⟨rfl, rfl⟩
  · have q0 := eq_false (show ¬ (l.length : Int) < 1 by omega)
    have q00 := eq_false h1
    by_cases h2 : l.length > 288
    · have q1 := eq_true (show (l.length : Int) > 288 by omega)
      have q2 := eq_true (show (288 : Int) < (l.length : Int) by omega)
      have q3 := eq_true (show 288 < l.length by omega)
      rw [decide_eq_false (by omega), Bool.false_and]
      clear h1 h2
      go_enter Try.func19, Try.ntmps19
      go_wp2
      go_ret
      exact ⟨rfl, rfl⟩
    · have q1 := eq_false (show ¬ (l.length : Int) > 288 by omega)
      have q2 := eq_false (show ¬ (288 : Int) < (l.length : Int) by omega)
      have q3 := eq_false (show ¬ 288 < l.length by omega)
      rw [decide_eq_true (by omega), Bool.true_and]
      have HL := Aside0.mk (show l.length ≤ 1048576 by omega)
      clear h1 h2
      go_enter Try.func19, Try.ntmps19
      go_wp2_with (go_at_call 31; refine (ctf_calls A c l w HI.out HL.out).mono ?_; rintro e w3 ⟨rfl, rfl⟩)
      go_ret
      exact ⟨rfl, rfl⟩
end
end Go.Proofs.Ytdgpcjhincgijaa.Pr

-- YtdgpcjhincgijaaLm2
namespace Go.Proofs.Ytdgpcjhincgijaa.Pr
open Go.RowKit Go.Shelf Go.Proofs.YtdgpcjhincgijaaW.PrintWords Go.Proofs.YtdgpcjhincgijaaW.PrintLast Go.Proofs.YtdgpcjhincgijaaW.PrintMore
set_option linter.unusedVariables false
set_option linter.unusedSimpArgs false
section
attribute [local go_sem] Oper.semAt_some
set_option maxHeartbeats 16000000 in
set_option maxRecDepth 1000000 in
theorem clone_calls (ad : Addr) (c : Nat) (d : List G44) (w : World) (hI : Kd.C kG w (some ad) d.length d) (hl : d.length ≤ 1048576) :
    Calls Try.prog 21 #[.slice (some ad) d.length c] w fun e w' => ∃ v, e = .returned v ∧ Kd.R kG 44 w' w.heap.size (fun _ => True) v d ∧ Below w.heap.size w w' := by
  have HR := Aside0.mk hI
  have HL := Aside0.mk hl
  clear hI hl
  have heq := fun W => Lib.run_eql_slice_nil (P := Try.prog) W 42 44 (some ad) d.length c 0 0 Try.underlying42
  have HB := Aside0.mk (Below.refl w.heap.size w)
  go_enter Try.func21, Try.ntmps21
  go_wp2_with (first
        | ((with_reducible refine gate_dst (N := 5) rfl ?_); refine Kd.R_lit (kG) (w0 := w) w.heap.size 44 ?hg (N := 5) ?hd (xs := ([] : List G44)) (inner := []) (ok := fun _ => True) (okp := fun _ => True) ?hr ?hp (fun _ hk => hk) trivial HB.out HB.out.size (by simp) ?_; (case hd => rfl); (case hg => rfl); (case hr => first | (go_simp; done) | (go_simp; rfl)); (case hp => exact (Reps.none _ _)); intro v1 w1 ho hb hg hat; obtain ⟨A1, d1, ev_⟩ := Kd.R_slice ho; subst ev_; have n0 := Aside0.mk (ho); have n1 := Aside0.mk (hb); have n2 := Aside0.mk (Kd.C_below HR.out hb); clear HB HR; have HO := n0; have HBn := n1; have HR := n2; clear n0 n1 n2; have HB := HBn; clear HBn ho hb hg hat)
        | ((with_reducible refine gate_builtin (b := .append) (xs := #[.tmp 5, .tmp 6]) rfl ?_); at_builtin; refine Kd.R_append_rows kG (w0 := w) w.heap.size rfl (.tmp 5) (.tmp 6) 42 44 (.agg #[(.int .i64 0), (.slice none 0 0)]) 32 rfl Try.underlying42 info44 rfl (by decide) (by omega) (.slice A1 (([] : List G44).length) d1) [] d (some ad) _ _ (fun _ => True) (fun _ => False) rfl rfl ?aO ?aR (fun _ _ h => h) (fun _ h => h.elim) ?aF ?aB ?aS ?aL ?_; (case aR => exact HR.out); (case aB => exact HB.out); (case aF => exact fun _ _ => trivial); (case aO => exact HO.out); (case aS => exact HB.out.size); (case aL => have := HL.out; simp; omega); intro v2 w2 ho hb hg hat; rw [List.nil_append] at ho; have n0 := Aside0.mk (ho); have n1 := Aside0.mk (hb); clear HO HB; have HO := n0; have HB := n1; clear n0 n1; clear ho hb hg hat)
        )
  go_ret
  exact ⟨_, rfl, HO.out, HB.out⟩
set_option maxHeartbeats 16000000 in
set_option maxRecDepth 1000000 in
theorem grow_nil (n : Nat) (w : World) (hn : n ≤ 1048576) :
    Calls Try.prog 36 #[.slice none 0 0, .int .i64 (n : Int)] w fun e w' => ∃ v, e = .returned v ∧ Kd.R (Kd.int .i64) 3 w' w.heap.size (fun _ => True) v [] ∧ Below w.heap.size w w' := by
  have q0 := eq_false (show ¬ (n : Int) < 0 by omega)
  have w0 : wrap64 (0 : Int) = 0 := wrap64_id (by omega) (by omega)
  have w1 : wrap64 ((0 : Int) - 0) = 0 := wrap64_id (by omega) (by omega)
  have w2 : wrap64 ((n : Int) - 0) = (n : Int) := by rw [Int.sub_zero]; exact wrap64_id (by omega) (by omega)
  have w3 : wrap64 (n : Int) = (n : Int) := wrap64_id (by omega) (by omega)
  by_cases h0 : n = 0
  · subst h0
    go_enter Try.func36, Try.ntmps36
    go_wp2
    go_ret
    exact ⟨_, rfl, Kd.R_nil _ _ _ _ _, Below.refl _ _⟩
  · have q1 := eq_true (show (n : Int) > 0 by omega)
    have q2 := eq_true (show (0 : Int) < (n : Int) by omega)
    have q3 := eq_true (show 0 < n by omega)
    have HB := Aside0.mk (Below.refl w.heap.size w)
    have HN := Aside0.mk hn
    clear h0 hn
    go_enter Try.func36, Try.ntmps36
    go_wp2_with ((with_reducible refine gate_builtin (b := .append) (xs := #[.tmp 20, .tmp 21]) rfl ?_); at_builtin; refine Kd.R_append_zeros (Kd.int .i64) (w0 := w) w.heap.size rfl (.tmp 20) (.tmp 21) 22 3 3 (.int .i64 0) 8 rfl Try.underlying22 Try.underlying3 info3 rfl (by decide) (by omega) (.slice none 0 0) [] (0 : Int) (wrap64 (n : Int)) (fun _ => True) rfl rfl rfl (fun _ _ => trivial) (Kd.R_nil _ _ _ _ _) ?h0 HB.out ?hs ?hl ?_; (case h0 => rw [w3]; omega); (case hs => exact HB.out.size); (case hl => have := HN.out; rw [w3]; simp; omega); intro v1 w1' ho hb hg hat; obtain ⟨A1, d1, ev_⟩ := Kd.R_slice ho; subst ev_; have HO := Aside0.mk (Kd.R_take (m := 0) ho (by omega)); have HB2 := Aside0.mk hb; clear ho hb hg hat)
    go_ret
    exact ⟨_, rfl, HO.out, HB2.out⟩
end
section
attribute [local go_sem] Oper.semAt_some
def acc2 (l1 l2 : List Int) (k : Nat) : List Int := if k = 0 then [] else if k = 1 then l1 else l1 ++ l2
theorem acc2_len (l1 l2 : List Int) (k : Nat) : (acc2 l1 l2 k).length ≤ l1.length + l2.length := by
  unfold acc2
  by_cases h0 : k = 0
  · rw [if_pos h0]; simp
  · rw [if_neg h0]
    by_cases h1 : k = 1
    · rw [if_pos h1]; omega
    · rw [if_neg h1, List.length_append]; omega
/-- The k-th of two rows. -/
theorem two_at {w : World} {ad : Addr} {A1 A2 : Option Addr} {c1 c2 : Nat} {l1 l2 : List Int} (h0 : w.cell? (ad.add 0) = some (.slice A1 l1.length c1)) (h1 : w.cell? (ad.add 1) = some (.slice A2 l2.length c2)) (hC1 : (Kd.int .i64).C w A1 l1.length l1) (hC2 : (Kd.int .i64).C w A2 l2.length l2) {k : Nat} (hk : k < 2) :
    ∃ (A : Option Addr) (c : Nat) (l : List Int), w.cell? (ad.add k) = some (.slice A l.length c) ∧ (Kd.int .i64).C w A l.length l ∧ acc2 l1 l2 (k + 1) = acc2 l1 l2 k ++ l ∧ (acc2 l1 l2 k).length + l.length ≤ l1.length + l2.length := by
  match k, hk with
  | 0, _ => exact ⟨A1, c1, l1, h0, hC1, rfl, by simp [acc2]⟩
  | 1, _ => exact ⟨A2, c2, l2, h1, hC2, rfl, by simp [acc2]⟩
set_option maxHeartbeats 16000000 in
set_option maxRecDepth 1000000 in
theorem concat2_calls (ad : Addr) (cap : Nat) (A1 A2 : Option Addr) (c1 c2 : Nat) (l1 l2 : List Int) (w : World) (h0 : w.cell? (ad.add 0) = some (.slice A1 l1.length c1)) (h1 : w.cell? (ad.add 1) = some (.slice A2 l2.length c2)) (hC1 : (Kd.int .i64).C w A1 l1.length l1) (hC2 : (Kd.int .i64).C w A2 l2.length l2) (hl : l1.length + l2.length ≤ 1000000) :
    Calls Try.prog 23 #[.slice (some ad) 2 cap] w fun e w' => ∃ v, e = .returned v ∧ Kd.R (Kd.int .i64) 3 w' w.heap.size (fun _ => True) v (l1 ++ l2) ∧ Below w.heap.size w w' := by
  have TW := Aside0.mk (fun {k : Nat} (hk : k < 2) => two_at h0 h1 hC1 hC2 hk)
  have HL := Aside0.mk hl
  clear h0 h1 hC1 hC2 hl
  go_enter Try.func23, Try.ntmps23
  go_wp2
  go_loopw [3, 11] (fun x3 x11 w' => ∃ k : Nat, k ≤ 2 ∧ x11 = .int .i64 (k : Int) ∧ x3 = .int .i64 ((acc2 l1 l2 k).length : Int) ∧ w' = w) (fun _ x11 _ => 3 - (intOf x11).toNat)
  case atStart => exact ⟨0, by omega, rfl, rfl, rfl⟩
  case round =>
    obtain ⟨k, hk, rfl, rfl, rfl⟩ := hrel
    by_cases hlt : k < 2
    · obtain ⟨A, c, l, hcell, hC, hacc, hlen⟩ := TW.out hlt
      have q0 := eq_true (show (k : Int) < 2 by omega)
      have q1 := eq_true (show (0 : Int) ≤ (k : Int) by omega)
      have q2 := eq_true hlt
      have hsum : wrap64 (((acc2 l1 l2 k).length : Int) + (l.length : Int)) = ((acc2 l1 l2 (k + 1)).length : Int) := by rw [hacc, List.length_append, wrap64_id (by have := HL.out; omega) (by have := HL.out; omega)]; omega
      have q3 := eq_false (show ¬ (((acc2 l1 l2 (k + 1)).length : Int) < 0) by omega)
      have HLT := Aside0.mk hlt
      clear hk hlt hacc hlen hC
      obtain ⟨s1, hs1⟩ : ∃ s1, (acc2 l1 l2 (k + 1)).length = s1 := ⟨_, rfl⟩
      obtain ⟨s0, hs0⟩ : ∃ s0, (acc2 l1 l2 k).length = s0 := ⟨_, rfl⟩
      rw [hs0, hs1] at hsum
      rw [hs1] at q3
      rw [hs0]
      go_wp2
      go_roundw
      case rel => exact ⟨k + 1, by have := HLT.out; omega, val_next _ (by have := HLT.out; omega), by rw [hsum, hs1], by first | rfl | trivial⟩
      case measure => rw [nat_next _ (by have := HLT.out; omega)]; simp only [intOf, Int.toNat_natCast]; have := HLT.out; omega
    · obtain rfl : k = 2 := by omega
      have q0 := eq_false (show ¬ ((2 : Nat) : Int) < 2 by omega)
      have HLE := Aside0.mk (show (acc2 l1 l2 2).length ≤ 1048576 by have := acc2_len l1 l2 2; have := HL.out; omega)
      clear hk hlt
      obtain ⟨wz, rfl⟩ : ∃ wz, wz = wr := ⟨_, rfl⟩
      have HB := Aside0.mk (Below.refl wz.heap.size wz)
      go_wp2_with (go_at_call 36; refine (grow_nil (acc2 l1 l2 2).length _ HLE.out).mono ?_; rintro e_ w3 ⟨v_, rfl, ho_, hb⟩; obtain ⟨A1, d1, ev_⟩ := Kd.R_slice ho_; subst ev_; have HO := Aside0.mk ho_; have HB3 := Aside0.mk hb; clear ho_ hb)
      clear HB
      go_loopw [6, 27] (fun x6 x27 w' => ∃ (k : Nat) (A : Option Addr) (c : Nat), k ≤ 2 ∧ x27 = .int .i64 (k : Int) ∧ x6 = .slice A (acc2 l1 l2 k).length c ∧ Aside0 (Kd.R (Kd.int .i64) 3 w' wz.heap.size (fun _ => True) (.slice A (acc2 l1 l2 k).length c) (acc2 l1 l2 k)) ∧ Aside0 (Below wz.heap.size wz w')) (fun _ x27 _ => 3 - (intOf x27).toNat)
      case atStart => exact ⟨0, A1, d1, by omega, rfl, rfl, HO, HB3⟩
      case round =>
        clear HO HB3
        obtain ⟨k, A, c, hk, rfl, rfl, HO, HB⟩ := hrel
        by_cases hlt : k < 2
        · obtain ⟨A', c', l, hcell, hC, hacc, hlen⟩ := TW.out hlt
          have HAC := Aside0.mk hacc
          have HCL := Aside0.mk hC
          have HLN := Aside0.mk hlen
          have HLT := Aside0.mk hlt
          have q0 := eq_true (show (k : Int) < 2 by omega)
          have q1 := eq_true (show (0 : Int) ≤ (k : Int) by omega)
          have q2 := eq_true hlt
          have hcell2 := pw_cell_below HB.out hcell
          clear hk hlt hacc hlen hC hcell
          obtain ⟨xs, hxs⟩ : ∃ xs, acc2 l1 l2 k = xs := ⟨_, rfl⟩
          rw [hxs] at HO HAC HLN
          rw [hxs]
          go_wp2_with ((with_reducible refine gate_builtin (b := .append) (xs := #[.tmp 31, .tmp 32]) rfl ?_); at_builtin; refine Kd.R_append_rows (Kd.int .i64) (w0 := wz) wz.heap.size rfl (.tmp 31) (.tmp 32) 22 3 (.int .i64 0) 8 rfl Try.underlying22 info3 rfl (by decide) (by omega) (.slice A xs.length c) xs l A' _ _ (fun _ => True) (fun _ => False) rfl rfl ?aO ?aR (fun _ _ h => h) (fun _ h => h.elim) ?aF ?aB ?aS ?aL ?_; (case aR => exact Kd.C_below HCL.out HB.out); (case aB => exact HB.out); (case aF => exact fun _ _ => trivial); (case aO => exact HO.out); (case aS => exact HB.out.size); (case aL => have := HLN.out; have := HL.out; omega); intro v2 w2 ho hb hg hat; obtain ⟨A2, d2, ev_⟩ := Kd.R_slice ho; subst ev_; have HO2 := Aside0.mk ho; have HB2 := Aside0.mk hb; clear ho hb hg hat)
          go_roundw
          case rel => exact ⟨k + 1, A2, d2, by have := HLT.out; omega, val_next _ (by have := HLT.out; omega), by rw [HAC.out, List.length_append], by rw [HAC.out]; exact HO2, HB2⟩
          case measure => rw [nat_next _ (by have := HLT.out; omega)]; simp only [intOf, Int.toNat_natCast]; have := HLT.out; omega
        · obtain rfl : k = 2 := by omega
          have q0 := eq_false (show ¬ ((2 : Nat) : Int) < 2 by omega)
          go_wp2
          go_ret
          exact ⟨_, rfl, HO.out, HB.out⟩
end
end Go.Proofs.Ytdgpcjhincgijaa.Pr

-- YtdgpcjhincgijaaLm3
namespace Go.Proofs.Ytdgpcjhincgijaa.Pr
open Go.RowKit Go.Shelf Go.Proofs.YtdgpcjhincgijaaW.PrintWords Go.Proofs.YtdgpcjhincgijaaW.PrintLast Go.Proofs.YtdgpcjhincgijaaW.PrintMore
set_option linter.unusedVariables false
set_option linter.unusedSimpArgs false
/-! ### Packs, two at a time -/
def prsL (d : List G44) : Nat → List (G44 × G44)
  | 0 => []
  | k + 1 => prsL d k ++ [(rd_T44 d ((2 * k : Nat) : Int), rd_T44 d ((2 * k + 1 : Nat) : Int))]
theorem prsL_len (d : List G44) : ∀ k, (prsL d k).length = k
  | 0 => rfl
  | k + 1 => by rw [prsL, List.length_append, prsL_len d k]; rfl
theorem rd44_mem {d : List G44} {i : Nat} (h : i < d.length) : rd_T44 d (i : Int) ∈ d := by
  unfold rd_T44
  rw [Int.toNat_natCast, List.getD_eq_getElem?_getD, List.getElem?_eq_getElem h]
  exact List.getElem_mem h
theorem val_two (k : Nat) (h : k < 1000000000) : Value.int .i64 (((2 * k : Nat) : Int) + 2) = Value.int .i64 ((2 * (k + 1) : Nat) : Int) := by
  rw [show ((2 * k : Nat) : Int) + 2 = ((2 * (k + 1) : Nat) : Int) by omega]
theorem mea_two (k len : Nat) (h : 2 * k + 1 < len) (h2 : len ≤ 1048576) : len + 1 - (intOf (Value.int .i64 (((2 * k : Nat) : Int) + 2))).toNat < len + 1 - (intOf (Value.int .i64 ((2 * k : Nat) : Int))).toNat := by
  rw [val_two k (by omega)]
  simp only [intOf, Int.toNat_natCast]
  omega
/-- Some blocks lie as they lay. -/
def KeepB (S : Nat → Prop) (W W' : World) : Prop := ∀ k, S k → k < W.heap.size → W'.heap[k]? = W.heap[k]?
theorem KeepB.cell {S : Nat → Prop} {W W' : World} (h : KeepB S W W') {p : Addr} (hp : S p.block) {v : Value} (hv : W.cell? p = some v) : W'.cell? p = some v := by
  have := h p.block hp (World.block_lt_of_cell? W p hv)
  simpa [World.cell?, this] using hv
theorem KeepB.refl (S : Nat → Prop) (W : World) : KeepB S W W := fun _ _ _ => rfl
theorem KeepB.trans {S : Nat → Prop} {A B C : World} (h : KeepB S A B) (hs : A.heap.size ≤ B.heap.size) (k : KeepB S B C) : KeepB S A C := fun i hi hl => (k i hi (Nat.lt_of_lt_of_le hl hs)).trans (h i hi hl)
def AG (x : G44) : Value := .agg #[.int .i64 x.f0, .slice x.A x.n x.c]
section
attribute [local go_sem] Oper.semAt_some
set_option maxRecDepth 100000 in
set_option maxHeartbeats 4000000 in
theorem prs1_in (F : Fence) (n : Nat) (hF : F.fn 35) (hro : F.round = none) (hn : 1 ≤ n) (hmix : Try.prog.follows .mixedOrders = true) (l Bs : Nat) (A : Option Addr) (len cap : Nat) (d : List G44) (hz : len = d.length) (hreach : len ≤ 1048576) (Kp : World → World → Prop) (hKr : ∀ W, Kp W W) (hKt : ∀ {A B C : World}, Kp A B → Kp B C → Kp A C) (hKd : ∀ W : World, Kp W W.drew) (hKc : ∀ {W W' : World}, Kp W W' → ∀ {p : Addr} {v : Value}, (p.block = Bs ∨ ∃ ad, A = some ad ∧ p.block = ad.block) → W.cell? p = some v → W'.cell? p = some v) (J Jx : List (G44 × G44) → World → Prop)
    (hJd : ∀ pre W, J pre W → J pre W.drew)
    (hY : ∀ pre x W, J pre W → pre.length < len / 2 → (x.1 ∈ d ∧ x.2 ∈ d) → YieldAt F (n - 1) Try.prog l #[AG x.1, AG x.2] W fun e W' =>
      (e = .returned (.bool true) ∧ J (pre ++ [x]) W' ∧ Kp W W') ∨ (e = .returned (.bool false) ∧ Jx (pre ++ [x]) W'))
    (W : World) (hBs : W.cell? ⟨Bs, 0, none⟩ = some (.slice A len cap)) (hc : Kd.C kG W A len d) (h0 : J [] W) :
    CallsIn F n Try.prog 35 #[.func (.yield l) #[] #[], .pointer (some ⟨Bs, 0, none⟩)] W fun e W' => (∃ v, e = .returned v) ∧
      ((∃ ys, ys = prsL d (len / 2) ∧ J ys W') ∨ (∃ pre, (∃ k, k ≤ len / 2 ∧ pre = prsL d k) ∧ Jx pre W')) := by
  subst hz
  have hu44 := Try.underlying44
  refine callsIn_of_wp Try.func35 rfl hF ?_ hro
  simp only [Try.ntmps35, List.size_toArray, List.length_cons, List.length_nil, Nat.reduceAdd, Nat.reduceSub, Array.replicate_succ, Array.replicate_zero, List.push_toArray, List.append_toArray, List.nil_append, List.cons_append]
  gi_wp2
  gi_loopw [3] (fun i wr => ∃ k : Nat, k ≤ d.length / 2 ∧ i = .int .i64 ((2 * k : Nat) : Int) ∧ J (prsL d k) wr ∧ Kp W wr)
    (fun i _ => d.length + 1 - (intOf i).toNat)
  case atStart => exact ⟨0, Nat.zero_le _, rfl, h0, hKr _⟩
  case round =>
    obtain ⟨k, hk, rfl, hJs, hnx⟩ := hrel
    have hcb := hKc hnx (p := ⟨Bs, 0, none⟩) (.inl rfl) hBs
    obtain ⟨i, hi⟩ : ∃ i, 2 * k = i := ⟨_, rfl⟩
    obtain ⟨j, hj⟩ : ∃ j, i + 1 = j := ⟨_, rfl⟩
    have hw : wrap64 ((i : Int) + 1) = (j : Int) := by rw [wrap64_id (by omega) (by omega)]; omega
    have hw2 : IntKind.i64.wrap ((i : Int) + 1) = (j : Int) := (i64_w _).trans hw
    rw [hi]
    by_cases hlt : k < d.length / 2
    · obtain ⟨ad, rfl, hx0, hx1⟩ := at_T44 hc (i : Int) (by omega) (by omega)
      obtain ⟨ad2, e2, hy0, hy1⟩ := at_T44 hc (j : Int) (by omega) (by omega)
      injection e2 with e2
      subst e2
      rw [Int.toNat_natCast] at hx0 hx1 hy0 hy1
      have hbk := fun m => (show (ad.add m).block = Bs ∨ ∃ ad', some ad = some ad' ∧ (ad.add m).block = ad'.block from .inr ⟨ad, rfl, add_block _ _⟩)
      replace hx0 := hKc hnx (p := ad.add (i * 2)) (hbk _) hx0
      replace hx1 := hKc hnx (p := ⟨(ad.add (i * 2)).block, (ad.add (i * 2)).off + 1, none⟩) (hbk _) hx1
      replace hy0 := hKc hnx (p := ad.add (j * 2)) (hbk _) hy0
      replace hy1 := hKc hnx (p := ⟨(ad.add (j * 2)).block, (ad.add (j * 2)).off + 1, none⟩) (hbk _) hy1
      have hts : prsL d (k + 1) = prsL d k ++ [(rd_T44 d (i : Int), rd_T44 d (j : Int))] := by rw [prsL, ← hj, ← hi]
      obtain ⟨x, hx⟩ : ∃ x, rd_T44 d (i : Int) = x := ⟨_, rfl⟩
      obtain ⟨y, hy⟩ : ∃ y, rd_T44 d (j : Int) = y := ⟨_, rfl⟩
      have hmx : x ∈ d := hx ▸ rd44_mem (show i < d.length by omega)
      have hmy : y ∈ d := hy ▸ rd44_mem (show j < d.length by omega)
      rw [hx] at hx0 hx1 hts
      rw [hy] at hy0 hy1 hts
      have q0 := eq_true (show (j : Int) < (d.length : Int) by omega)
      have q1 := eq_true (show (i : Int) < (d.length : Int) by omega)
      have q2 := eq_true (show (0 : Int) ≤ (i : Int) by omega)
      have q3 := eq_true (show (0 : Int) ≤ (j : Int) by omega)
      have q4 := eq_true (show i < d.length by omega)
      have q5 := eq_true (show j < d.length by omega)
      obtain ⟨fn, tmps, assign, body, hyy, hR⟩ := hY _ (x, y) wr.drew (hJd _ _ hJs) (by rw [prsL_len]; exact hlt) ⟨hmx, hmy⟩
      dsimp only [AG] at hyy
      clear hx hy hbk hmx hmy
      replace hcb : wr.drew.cell? ⟨Bs, 0, none⟩ = _ := hcb
      replace hx0 : wr.drew.cell? (ad.add (i * 2)) = _ := hx0
      replace hx1 : wr.drew.cell? ⟨(ad.add (i * 2)).block, (ad.add (i * 2)).off + 1, none⟩ = _ := hx1
      replace hy0 : wr.drew.cell? (ad.add (j * 2)) = _ := hy0
      replace hy1 : wr.drew.cell? ⟨(ad.add (j * 2)).block, (ad.add (j * 2)).off + 1, none⟩ = _ := hy1
      have hcb2 : wr.cell? ⟨Bs, 0, none⟩ = _ := hcb
      have hR2 : RoundIn F (n - 1) Try.prog l fn tmps assign body wr.drew fun e W' => ∃ b, e = .returned (.bool b) ∧ ((b = true ∧ J (prsL d k ++ [(x, y)]) W' ∧ Kp wr.drew W') ∨ (b = false ∧ Jx (prsL d k ++ [(x, y)]) W')) := hR.mono (by
        rintro e W' (⟨rfl, h1, h2⟩ | ⟨rfl, h1⟩)
        · exact ⟨true, rfl, .inl ⟨rfl, h1, h2⟩⟩
        · exact ⟨false, rfl, .inr ⟨rfl, h1⟩⟩)
      clear hR
      gi_wp2
      refine wpIn_region_any hmix ?_
      change wpAnyIn _ _ _ _ _ _ _ _ _ (World.drew _)
      refine wpAnyIn_take (i := 0) (v := ?_) hro rfl (by kernel_rfl) (by kernel_rfl) (by kernel_rfl) (fun _ _ _ h => h) ⟨Or.inl ⟨by rfl, ?_⟩, fun _ => rfl⟩ ?_
      rotate_left
      · intro w
        go_simp
        try with_reducible rfl
      refine wpAnyIn_take (i := 2) (v := ?_) hro rfl (by kernel_rfl) (by kernel_rfl) (by kernel_rfl) (fun _ _ _ h => h) ⟨Or.inl ⟨by rfl, ?_⟩, fun _ => rfl⟩ ?_
      rotate_left
      · intro w
        go_simp
        try with_reducible rfl
      refine wpAnyIn_take (i := 6) (v := ?_) hro rfl (by kernel_rfl) (by kernel_rfl) (by kernel_rfl) (fun _ _ _ h => h) ⟨Or.inl ⟨by rfl, ?_⟩, fun _ => rfl⟩ ?_
      rotate_left
      · intro w
        go_simp
        try with_reducible rfl
      refine wpAnyIn_take (i := 7) (v := ?_) hro rfl (by kernel_rfl) (by kernel_rfl) (by kernel_rfl) (fun _ _ _ h => h) ⟨Or.inl ⟨by rfl, ?_⟩, fun _ => rfl⟩ ?_
      rotate_left
      · intro w
        go_simp
        try with_reducible rfl
      refine wpAnyIn_ready (rs := [1, 5]) (by kernel_rfl) (by simp) ?_
      refine AllReadyIn.cons rfl (fun K hK => ?_) ?_
      · go_simp
        refine hK _ _ ?_; clear hK K
        refine wpAnyIn_take (i := 3) (v := ?_) hro rfl (by kernel_rfl) (by kernel_rfl) (by kernel_rfl) (fun _ _ _ h => h) ⟨Or.inl ⟨by rfl, ?_⟩, fun _ => rfl⟩ ?_
        rotate_left
        · intro w
          go_simp
          try with_reducible rfl
        refine wpAnyIn_ready (rs := [4, 5]) (by kernel_rfl) (by simp) ?_
        refine AllReadyIn.cons rfl (fun K hK => ?_) ?_
        · go_simp
          refine hK _ _ ?_; clear hK K
          refine wpAnyIn_ready (rs := [5]) (by kernel_rfl) (by simp) ?_
          refine AllReadyIn.cons rfl (fun K hK => ?_) ?_
          · go_simp
            refine hK _ _ ?_; clear hK K
            refine wpAnyIn_take (i := 8) (v := ?_) hro rfl (by kernel_rfl) (by kernel_rfl) (by kernel_rfl) (fun _ _ _ h => h) ⟨Or.inl ⟨by rfl, ?_⟩, fun _ => rfl⟩ ?_
            rotate_left
            · intro w
              go_simp
              try with_reducible rfl
            refine wpAnyIn_ready (rs := [9]) (by kernel_rfl) (by simp) ?_
            refine AllReadyIn.cons rfl (fun K hK => ?_) ?_
            · go_simp
              refine hK _ _ ?_; clear hK K
              refine wpAnyIn_ready (rs := [10]) (by kernel_rfl) (by simp) ?_
              refine AllReadyIn.cons rfl (fun K hK => ?_) ?_
              · go_simp
                refine RoundIn.mono hR2 ?_
                rintro e_ W3 ⟨b, rfl, hb3⟩
                refine hK _ _ ?_; clear hK K
                refine wpAnyIn_take (i := 11) (v := ?_) hro rfl (by kernel_rfl) (by kernel_rfl) (by kernel_rfl) (fun _ _ _ h => h) ⟨Or.inl ⟨by rfl, ?_⟩, fun _ => rfl⟩ ?_
                rotate_left
                · intro w
                  go_simp
                  try with_reducible rfl
                refine wpAnyIn_done (by kernel_rfl) ?_ _
                rcases hb3 with ⟨rfl, hJ3, hk3⟩ | ⟨rfl, hJx3⟩
                · gi_wp2
                  go_roundw
                  case rel => exact ⟨k + 1, by omega, by rw [← hi] at *; exact val_two k (by omega), by rw [hts]; exact hJ3, hKt (hKt hnx (hKd wr)) hk3⟩
                  case measure => rw [← hi]; exact mea_two k d.length (by omega) (by omega)
                · gi_wp2
                  refine bodyPost_ret (results_none rfl _ _ _) rfl ?_
                  exact ⟨⟨_, rfl⟩, .inr ⟨_, ⟨k + 1, by omega, hts.symm⟩, hJx3⟩⟩
              exact AllReadyIn.nil
            exact AllReadyIn.nil
          exact AllReadyIn.nil
        refine AllReadyIn.cons rfl (fun K hK => ?_) ?_
        · go_simp
          refine hK _ _ ?_; clear hK K
          refine wpAnyIn_take (i := 8) (v := ?_) hro rfl (by kernel_rfl) (by kernel_rfl) (by kernel_rfl) (fun _ _ _ h => h) ⟨Or.inl ⟨by rfl, ?_⟩, fun _ => rfl⟩ ?_
          rotate_left
          · intro w
            go_simp
            try with_reducible rfl
          refine wpAnyIn_ready (rs := [4, 9]) (by kernel_rfl) (by simp) ?_
          refine AllReadyIn.cons rfl (fun K hK => ?_) ?_
          · go_simp
            refine hK _ _ ?_; clear hK K
            refine wpAnyIn_ready (rs := [9]) (by kernel_rfl) (by simp) ?_
            refine AllReadyIn.cons rfl (fun K hK => ?_) ?_
            · go_simp
              refine hK _ _ ?_; clear hK K
              refine wpAnyIn_ready (rs := [10]) (by kernel_rfl) (by simp) ?_
              refine AllReadyIn.cons rfl (fun K hK => ?_) ?_
              · go_simp
                refine RoundIn.mono hR2 ?_
                rintro e_ W3 ⟨b, rfl, hb3⟩
                refine hK _ _ ?_; clear hK K
                refine wpAnyIn_take (i := 11) (v := ?_) hro rfl (by kernel_rfl) (by kernel_rfl) (by kernel_rfl) (fun _ _ _ h => h) ⟨Or.inl ⟨by rfl, ?_⟩, fun _ => rfl⟩ ?_
                rotate_left
                · intro w
                  go_simp
                  try with_reducible rfl
                refine wpAnyIn_done (by kernel_rfl) ?_ _
                rcases hb3 with ⟨rfl, hJ3, hk3⟩ | ⟨rfl, hJx3⟩
                · gi_wp2
                  go_roundw
                  case rel => exact ⟨k + 1, by omega, by rw [← hi] at *; exact val_two k (by omega), by rw [hts]; exact hJ3, hKt (hKt hnx (hKd wr)) hk3⟩
                  case measure => rw [← hi]; exact mea_two k d.length (by omega) (by omega)
                · gi_wp2
                  refine bodyPost_ret (results_none rfl _ _ _) rfl ?_
                  exact ⟨⟨_, rfl⟩, .inr ⟨_, ⟨k + 1, by omega, hts.symm⟩, hJx3⟩⟩
              exact AllReadyIn.nil
            exact AllReadyIn.nil
          refine AllReadyIn.cons rfl (fun K hK => ?_) ?_
          · go_simp
            refine hK _ _ ?_; clear hK K
            refine wpAnyIn_ready (rs := [4]) (by kernel_rfl) (by simp) ?_
            refine AllReadyIn.cons rfl (fun K hK => ?_) ?_
            · go_simp
              refine hK _ _ ?_; clear hK K
              refine wpAnyIn_ready (rs := [10]) (by kernel_rfl) (by simp) ?_
              refine AllReadyIn.cons rfl (fun K hK => ?_) ?_
              · go_simp
                refine RoundIn.mono hR2 ?_
                rintro e_ W3 ⟨b, rfl, hb3⟩
                refine hK _ _ ?_; clear hK K
                refine wpAnyIn_take (i := 11) (v := ?_) hro rfl (by kernel_rfl) (by kernel_rfl) (by kernel_rfl) (fun _ _ _ h => h) ⟨Or.inl ⟨by rfl, ?_⟩, fun _ => rfl⟩ ?_
                rotate_left
                · intro w
                  go_simp
                  try with_reducible rfl
                refine wpAnyIn_done (by kernel_rfl) ?_ _
                rcases hb3 with ⟨rfl, hJ3, hk3⟩ | ⟨rfl, hJx3⟩
                · gi_wp2
                  go_roundw
                  case rel => exact ⟨k + 1, by omega, by rw [← hi] at *; exact val_two k (by omega), by rw [hts]; exact hJ3, hKt (hKt hnx (hKd wr)) hk3⟩
                  case measure => rw [← hi]; exact mea_two k d.length (by omega) (by omega)
                · gi_wp2
                  refine bodyPost_ret (results_none rfl _ _ _) rfl ?_
                  exact ⟨⟨_, rfl⟩, .inr ⟨_, ⟨k + 1, by omega, hts.symm⟩, hJx3⟩⟩
              exact AllReadyIn.nil
            exact AllReadyIn.nil
          exact AllReadyIn.nil
        exact AllReadyIn.nil
      refine AllReadyIn.cons rfl (fun K hK => ?_) ?_
      · go_simp
        refine hK _ _ ?_; clear hK K
        refine wpAnyIn_take (i := 8) (v := ?_) hro rfl (by kernel_rfl) (by kernel_rfl) (by kernel_rfl) (fun _ _ _ h => h) ⟨Or.inl ⟨by rfl, ?_⟩, fun _ => rfl⟩ ?_
        rotate_left
        · intro w
          go_simp
          try with_reducible rfl
        refine wpAnyIn_ready (rs := [1, 9]) (by kernel_rfl) (by simp) ?_
        refine AllReadyIn.cons rfl (fun K hK => ?_) ?_
        · go_simp
          refine hK _ _ ?_; clear hK K
          refine wpAnyIn_take (i := 3) (v := ?_) hro rfl (by kernel_rfl) (by kernel_rfl) (by kernel_rfl) (fun _ _ _ h => h) ⟨Or.inl ⟨by rfl, ?_⟩, fun _ => rfl⟩ ?_
          rotate_left
          · intro w
            go_simp
            try with_reducible rfl
          refine wpAnyIn_ready (rs := [4, 9]) (by kernel_rfl) (by simp) ?_
          refine AllReadyIn.cons rfl (fun K hK => ?_) ?_
          · go_simp
            refine hK _ _ ?_; clear hK K
            refine wpAnyIn_ready (rs := [9]) (by kernel_rfl) (by simp) ?_
            refine AllReadyIn.cons rfl (fun K hK => ?_) ?_
            · go_simp
              refine hK _ _ ?_; clear hK K
              refine wpAnyIn_ready (rs := [10]) (by kernel_rfl) (by simp) ?_
              refine AllReadyIn.cons rfl (fun K hK => ?_) ?_
              · go_simp
                refine RoundIn.mono hR2 ?_
                rintro e_ W3 ⟨b, rfl, hb3⟩
                refine hK _ _ ?_; clear hK K
                refine wpAnyIn_take (i := 11) (v := ?_) hro rfl (by kernel_rfl) (by kernel_rfl) (by kernel_rfl) (fun _ _ _ h => h) ⟨Or.inl ⟨by rfl, ?_⟩, fun _ => rfl⟩ ?_
                rotate_left
                · intro w
                  go_simp
                  try with_reducible rfl
                refine wpAnyIn_done (by kernel_rfl) ?_ _
                rcases hb3 with ⟨rfl, hJ3, hk3⟩ | ⟨rfl, hJx3⟩
                · gi_wp2
                  go_roundw
                  case rel => exact ⟨k + 1, by omega, by rw [← hi] at *; exact val_two k (by omega), by rw [hts]; exact hJ3, hKt (hKt hnx (hKd wr)) hk3⟩
                  case measure => rw [← hi]; exact mea_two k d.length (by omega) (by omega)
                · gi_wp2
                  refine bodyPost_ret (results_none rfl _ _ _) rfl ?_
                  exact ⟨⟨_, rfl⟩, .inr ⟨_, ⟨k + 1, by omega, hts.symm⟩, hJx3⟩⟩
              exact AllReadyIn.nil
            exact AllReadyIn.nil
          refine AllReadyIn.cons rfl (fun K hK => ?_) ?_
          · go_simp
            refine hK _ _ ?_; clear hK K
            refine wpAnyIn_ready (rs := [4]) (by kernel_rfl) (by simp) ?_
            refine AllReadyIn.cons rfl (fun K hK => ?_) ?_
            · go_simp
              refine hK _ _ ?_; clear hK K
              refine wpAnyIn_ready (rs := [10]) (by kernel_rfl) (by simp) ?_
              refine AllReadyIn.cons rfl (fun K hK => ?_) ?_
              · go_simp
                refine RoundIn.mono hR2 ?_
                rintro e_ W3 ⟨b, rfl, hb3⟩
                refine hK _ _ ?_; clear hK K
                refine wpAnyIn_take (i := 11) (v := ?_) hro rfl (by kernel_rfl) (by kernel_rfl) (by kernel_rfl) (fun _ _ _ h => h) ⟨Or.inl ⟨by rfl, ?_⟩, fun _ => rfl⟩ ?_
                rotate_left
                · intro w
                  go_simp
                  try with_reducible rfl
                refine wpAnyIn_done (by kernel_rfl) ?_ _
                rcases hb3 with ⟨rfl, hJ3, hk3⟩ | ⟨rfl, hJx3⟩
                · gi_wp2
                  go_roundw
                  case rel => exact ⟨k + 1, by omega, by rw [← hi] at *; exact val_two k (by omega), by rw [hts]; exact hJ3, hKt (hKt hnx (hKd wr)) hk3⟩
                  case measure => rw [← hi]; exact mea_two k d.length (by omega) (by omega)
                · gi_wp2
                  refine bodyPost_ret (results_none rfl _ _ _) rfl ?_
                  exact ⟨⟨_, rfl⟩, .inr ⟨_, ⟨k + 1, by omega, hts.symm⟩, hJx3⟩⟩
              exact AllReadyIn.nil
            exact AllReadyIn.nil
          exact AllReadyIn.nil
        refine AllReadyIn.cons rfl (fun K hK => ?_) ?_
        · go_simp
          refine hK _ _ ?_; clear hK K
          refine wpAnyIn_ready (rs := [1]) (by kernel_rfl) (by simp) ?_
          refine AllReadyIn.cons rfl (fun K hK => ?_) ?_
          · go_simp
            refine hK _ _ ?_; clear hK K
            refine wpAnyIn_take (i := 3) (v := ?_) hro rfl (by kernel_rfl) (by kernel_rfl) (by kernel_rfl) (fun _ _ _ h => h) ⟨Or.inl ⟨by rfl, ?_⟩, fun _ => rfl⟩ ?_
            rotate_left
            · intro w
              go_simp
              try with_reducible rfl
            refine wpAnyIn_ready (rs := [4]) (by kernel_rfl) (by simp) ?_
            refine AllReadyIn.cons rfl (fun K hK => ?_) ?_
            · go_simp
              refine hK _ _ ?_; clear hK K
              refine wpAnyIn_ready (rs := [10]) (by kernel_rfl) (by simp) ?_
              refine AllReadyIn.cons rfl (fun K hK => ?_) ?_
              · go_simp
                refine RoundIn.mono hR2 ?_
                rintro e_ W3 ⟨b, rfl, hb3⟩
                refine hK _ _ ?_; clear hK K
                refine wpAnyIn_take (i := 11) (v := ?_) hro rfl (by kernel_rfl) (by kernel_rfl) (by kernel_rfl) (fun _ _ _ h => h) ⟨Or.inl ⟨by rfl, ?_⟩, fun _ => rfl⟩ ?_
                rotate_left
                · intro w
                  go_simp
                  try with_reducible rfl
                refine wpAnyIn_done (by kernel_rfl) ?_ _
                rcases hb3 with ⟨rfl, hJ3, hk3⟩ | ⟨rfl, hJx3⟩
                · gi_wp2
                  go_roundw
                  case rel => exact ⟨k + 1, by omega, by rw [← hi] at *; exact val_two k (by omega), by rw [hts]; exact hJ3, hKt (hKt hnx (hKd wr)) hk3⟩
                  case measure => rw [← hi]; exact mea_two k d.length (by omega) (by omega)
                · gi_wp2
                  refine bodyPost_ret (results_none rfl _ _ _) rfl ?_
                  exact ⟨⟨_, rfl⟩, .inr ⟨_, ⟨k + 1, by omega, hts.symm⟩, hJx3⟩⟩
              exact AllReadyIn.nil
            exact AllReadyIn.nil
          exact AllReadyIn.nil
        exact AllReadyIn.nil
      exact AllReadyIn.nil
    · obtain rfl : k = d.length / 2 := by omega
      have q0 := eq_false (show ¬ (j : Int) < (d.length : Int) by omega)
      gi_wp2
      go_end0
      exact ⟨⟨_, rfl⟩, .inl ⟨_, rfl, hJs⟩⟩
end
abbrev Prs (d : List G44) : Type := {x : G44 × G44 // x.1 ∈ d ∧ x.2 ∈ d}
theorem prs_stops (F : Fence) (n : Nat) (hF : F.fn 35) (hro : F.round = none) (hn : 1 ≤ n) (hmix : Try.prog.follows .mixedOrders = true) (Bs : Nat) (A : Option Addr) (cap : Nat) (d : List G44) (hreach : d.length ≤ 1048576) (w : World) (hBs : Bs < w.heap.size)
    (Kp : World → World → Prop) (hKr : ∀ W, Kp W W) (hKt : ∀ {A B C : World}, Kp A B → Kp B C → Kp A C) (hKd : ∀ W : World, Kp W W.drew) (hKc : ∀ {W W' : World}, Kp W W' → ∀ {p : Addr} {v : Value}, (p.block = Bs ∨ ∃ ad, A = some ad ∧ p.block = ad.block) → W.cell? p = some v → W'.cell? p = some v)
    (hc : w.cell? ⟨Bs, 0, none⟩ = some (.slice A d.length cap)) (hI : Kd.C kG w A d.length d) :
    SeqStopsK F n Try.prog 35 #[.pointer (some ⟨Bs, 0, none⟩)] (fun x : Prs d => #[AG x.1.1, AG x.1.2]) Kp (fun ys => ys.map Subtype.val = prsL d (d.length / 2))
      (fun pre => ∃ k, k ≤ d.length / 2 ∧ pre.map Subtype.val = prsL d k) (d.length / 2) w := fun l J Jx W hW hJa _ hY h0 => by
  refine (prs1_in F n hF hro hn hmix l Bs A d.length cap d rfl hreach Kp hKr hKt hKd hKc (fun pre W => ∃ p : List (Prs d), p.map Subtype.val = pre ∧ J p W) (fun pre W => ∃ p : List (Prs d), p.map Subtype.val = pre ∧ Jx p W) (fun pre W h => by
    obtain ⟨p, e, h⟩ := h
    exact ⟨p, e, hJa p W _ none h ⟨rfl, rfl, rfl, Nat.le_refl _, fun _ _ _ => rfl⟩ (fun r e => by cases e)⟩) ?_ W ((hW.cell (p := ⟨Bs, 0, none⟩) hBs).trans hc) (Kd.C_below hI hW) ⟨[], rfl, h0⟩).mono ?_
  · rintro pre x W1 ⟨p, rfl, hJ⟩ hlt hx
    rw [List.length_map] at hlt
    obtain ⟨fn, tmps, assign, body, hy, hR⟩ := hY p ⟨x, hx⟩ W1 hJ hlt
    refine ⟨fn, tmps, assign, body, hy, hR.mono ?_⟩
    rintro e W3 (⟨rfl, hJ3, hk3⟩ | ⟨rfl, hJx3⟩)
    · exact .inl ⟨rfl, ⟨p ++ [⟨x, hx⟩], by simp, hJ3⟩, hk3⟩
    · exact .inr ⟨rfl, ⟨p ++ [⟨x, hx⟩], by simp, hJx3⟩⟩
  · rintro e W' ⟨hv, ⟨ys, rfl, p, e1, h1⟩ | ⟨pre, ⟨k, hk, rfl⟩, p, e1, h1⟩⟩
    · exact ⟨hv, .inl ⟨p, e1, h1⟩⟩
    · exact ⟨hv, .inr ⟨p, ⟨k, hk, e1⟩, h1⟩⟩
section
attribute [local go_sem] Oper.semAt_some
set_option maxHeartbeats 1000000 in
/-- limit.pairs: the slice is boxed; the function value has caught the box. -/
theorem prs_in (F : Fence) (n : Nat) (hF : F.fn 22) (hro : F.round = none) (a : Option Addr) (len cap : Nat) (w : World) :
    CallsIn F n Try.prog 22 #[.slice a len cap] w fun e w' => e = .returned (.func (.func 35) #[] #[.pointer (some ⟨w.heap.size, 0, none⟩)]) ∧ w' = w.alloc (.cells #[.slice a len cap] 42) := by
  refine callsIn_of_wp Try.func22 rfl hF ?_ hro
  simp only [Try.ntmps22, List.size_toArray, List.length_cons, List.length_nil, Nat.reduceAdd, Nat.reduceSub, Array.replicate_succ, Array.replicate_zero, List.push_toArray, List.append_toArray, List.nil_append, List.cons_append]
  gi_wp2
  go_ret
  exact ⟨rfl, rfl⟩
end
end Go.Proofs.Ytdgpcjhincgijaa.Pr

-- YtdgpcjhincgijaaLm4
namespace Go.Proofs.Ytdgpcjhincgijaa.Pr
open Go.RowKit Go.Shelf Go.Proofs.YtdgpcjhincgijaaW.PrintWords Go.Proofs.YtdgpcjhincgijaaW.PrintLast Go.Proofs.YtdgpcjhincgijaaW.PrintMore
set_option linter.unusedVariables false
set_option linter.unusedSimpArgs false
/-! ### Packs and their rows -/
def pl (g : G44) : Int × List Int := (g.f0, g.l)
/-- A pack's row is read: its block holds numbers. -/
def InAt (W : World) (g : G44) : Prop := g.n = g.l.length ∧ (Kd.int .i64).C W g.A g.l.length g.l ∧ ∀ ad, g.A = some ad → ∃ cells, W.heap[ad.block]? = some (.cells cells 3 (0, 0))
theorem C_eq {A : Option Addr} {n : Nat} {xs : List Int} {W W' : World} (h : (Kd.int .i64).C W A n xs) (hk : ∀ ad, A = some ad → W'.heap[ad.block]? = W.heap[ad.block]?) : (Kd.int .i64).C W' A n xs := by
  obtain ⟨h1, h2, h3⟩ := h
  refine ⟨h1, h2, fun hn => ?_⟩
  obtain ⟨a, ha, hx⟩ := h3 hn
  refine ⟨a, ha, fun i p hp => ?_⟩
  obtain ⟨cs, hcs, hK, hcell⟩ := hx i p hp
  refine ⟨cs, hcs, hK, fun j u hu => ?_⟩
  have := hcell j u hu
  have hb := hk a ha
  rw [← this]
  have e : (a.add (i * (Kd.int .i64).sz + j)).block = a.block := add_block _ _
  unfold World.cell?
  rw [e, hb]
theorem InAt.eq {W W' : World} {g : G44} (h : InAt W g) (hk : ∀ k : Nat, (∃ cells, W.heap[k]? = some (.cells cells 3 (0, 0))) → W'.heap[k]? = W.heap[k]?) : InAt W' g :=
  ⟨h.1, C_eq h.2.1 (fun ad e => hk _ (h.2.2 ad e)), fun ad e => by
    obtain ⟨c, hc⟩ := h.2.2 ad e
    exact ⟨c, (hk _ ⟨c, hc⟩).trans hc⟩⟩
theorem InAt.below {W W' : World} {g : G44} (h : InAt W g) (hb : Below W.heap.size W W') : InAt W' g := h.eq fun k ⟨_, hc⟩ => hb.block k (blk_lt hc)
theorem InAt.grown {W W' : World} {g : G44} (h : InAt W g) {row : Option Nat} (hg : W.grownBy W' row) (hr : ∀ r, row = some r → ∃ cells, W.heap[r]? = some (.cells cells 44 (0, 0))) : InAt W' g := h.eq fun k ⟨_, hc⟩ => hg.block k (blk_lt hc) fun e => by
  obtain ⟨c2, hc2⟩ := hr k e.symm
  rw [hc] at hc2
  injection hc2 with h2
  injection h2 with _ h2 _
  exact absurd h2 (by decide)
/-- Each of a row's packs. -/
def InAll (W : World) (d : List G44) : Prop := ∀ g ∈ d, InAt W g
theorem InAll.below {W W' : World} {d : List G44} (h : InAll W d) (hb : Below W.heap.size W W') : InAll W' d := fun g hg => (h g hg).below hb
theorem InAll.grown {W W' : World} {d : List G44} (h : InAll W d) {row : Option Nat} (hg : W.grownBy W' row) (hr : ∀ r, row = some r → ∃ cells, W.heap[r]? = some (.cells cells 44 (0, 0))) : InAll W' d := fun g h2 => (h g h2).grown hg hr
theorem InAll.append {W : World} {d e : List G44} (h : InAll W d) (k : InAll W e) : InAll W (d ++ e) := fun g hg => by
  rcases List.mem_append.1 hg with hg | hg
  · exact h g hg
  · exact k g hg
/-! ### The symbols alone -/
def singL (l : List Int) (k : Nat) : List (Int × List Int) := ((List.range k).map fun j => (l.getD j 0, [(j : Int)])).filter fun x => decide (x.1 > 0)
theorem singL_succ (l : List Int) (k : Nat) : singL l (k + 1) = if l.getD k 0 > 0 then singL l k ++ [(l.getD k 0, [(k : Int)])] else singL l k := by
  unfold singL
  rw [List.range_succ, List.map_append, List.filter_append]
  by_cases h : l.getD k 0 > 0
  · rw [if_pos h]
    congr 1
    exact List.filter_cons_of_pos (by simpa using h)
  · rw [if_neg h]
    have : ((List.map (fun j => (l.getD j 0, [(j : Int)])) [k]).filter fun x => decide (x.1 > 0)) = [] := by
      rw [List.map_cons, List.map_nil, List.filter_cons_of_neg (by simpa using h), List.filter_nil]
    rw [this, List.append_nil]
theorem rd_getD (l : List Int) (k : Nat) : rd l (k : Int) = l.getD k 0 := by unfold rd; rw [Int.toNat_natCast]
/-! ### What Lengths tells, on lists -/
theorem singL_mem {l : List Int} {k : Nat} {p : Int × List Int} (h : p ∈ singL l k) : ∃ j : Nat, j < k ∧ p = (l.getD j 0, [(j : Int)]) ∧ l.getD j 0 > 0 := by
  unfold singL at h
  obtain ⟨h1, h2⟩ := List.mem_filter.1 h
  obtain ⟨j, hj, rfl⟩ := List.mem_map.1 h1
  exact ⟨j, List.mem_range.1 hj, rfl, of_decide_eq_true h2⟩
/-- One more bit for a symbol; for each of a row's. -/
def bump (out : List Int) (s : Int) : List Int := out.set s.toNat (out.getD s.toNat 0 + 1)
def bumps (out : List Int) (r : List Int) : List Int := r.foldl bump out
def zerosL (l : List Int) : List Int := List.replicate l.length 0
def wP (p : Int × List Int) : Int := p.1
/-- Packs, bought two at a time. -/
def pairP : List (Int × List Int) → List (Int × List Int)
  | a :: b :: t => (a.1 + b.1, a.2 ++ b.2) :: pairP t
  | _ => []
/-- What there is on each level. -/
inductive HaveRel (S : List (Int × List Int)) : Nat → List (Int × List Int) → Prop
  | zero : HaveRel S 0 []
  | succ {j : Nat} {Y Z : List (Int × List Int)} (h : HaveRel S j Y) (hs : Srt wP Z) (hb : Stb wP (S ++ pairP Y) Z) : HaveRel S (j + 1) Z
def LenIs (l : List Int) (most er : Int) (r : List Int) : Prop :=
  (¬ (oftenS l = true ∧ 1 ≤ most ∧ most ≤ 15) ∧ er = 2 ∧ r = []) ∨
  (oftenS l = true ∧ ∃ m : Nat, most = (m : Int) ∧ 1 ≤ m ∧ m ≤ 15 ∧
    ((2 ^ m < (singL l l.length).length ∧ er = 11 ∧ r = []) ∨
     ((singL l l.length).length ≤ 2 ^ m ∧ er = 0 ∧
       ((singL l l.length = [] ∧ r = zerosL l) ∨
        (∃ (x : Int) (j : Nat), j < l.length ∧ singL l l.length = [(x, [(j : Int)])] ∧ r = (zerosL l).set j 1) ∨
        (2 ≤ (singL l l.length).length ∧ ∃ S hs, Srt wP S ∧ Stb wP (singL l l.length) S ∧ HaveRel S m hs ∧ 2 * (singL l l.length).length - 2 ≤ hs.length ∧
          r = (hs.take (2 * (singL l l.length).length - 2)).foldl (fun out p => bumps out p.2) (zerosL l))))))
theorem lenIs_arg {l : List Int} {most : Int} (h : ¬ (oftenS l = true ∧ 1 ≤ most ∧ most ≤ 15)) : LenIs l most 2 [] := .inl ⟨h, rfl, rfl⟩
end Go.Proofs.Ytdgpcjhincgijaa.Pr

-- YtdgpcjhincgijaaLm6
namespace Go.Proofs.Ytdgpcjhincgijaa.Pr
open Go.RowKit Go.Shelf Go.Proofs.YtdgpcjhincgijaaW.PrintWords Go.Proofs.YtdgpcjhincgijaaW.PrintLast Go.Proofs.YtdgpcjhincgijaaW.PrintMore
set_option linter.unusedVariables false
set_option linter.unusedSimpArgs false
/-! ### What a level's loop keeps -/
theorem keeps_below {B : Nat} {W W1 W2 : World} (h : KeepsFrom B W W1) (k : Below W1.heap.size W1 W2) : KeepsFrom B W W2 := h.trans ⟨k.size, fun i o _ hi _ => (k.block i (Array.getElem?_eq_some_iff.1 hi).1).trans hi⟩
theorem keeps_grown {B t : Nat} {W W1 W2 : World} {row : Option Nat} (h : KeepsFrom B W W1) (hg : W1.grownBy W2 row) (hr : ∀ k, row = some k → ∃ cells, W1.heap[k]? = some (.cells cells t (0, 0))) : KeepsFrom B W W2 :=
  h.trans ⟨hg.size, fun i o _ hi ho => (hg.block i (Array.getElem?_eq_some_iff.1 hi).1 (fun e => by
    obtain ⟨cells, hc⟩ := hr i e.symm
    rw [hc] at hi
    injection hi with hi
    subst hi
    cases ho)).trans hi⟩
/-- All that lay ahead of n₀ lies as it lay, but the box gn and the row own0. -/
def KpN (n₀ gn : Nat) (own0 : Option Nat) (W W' : World) : Prop := W.heap.size ≤ W'.heap.size ∧ KeepB (fun k => k < n₀ ∧ k ≠ gn ∧ some k ≠ own0) W W'
section
variable {n₀ gn : Nat} {own0 : Option Nat} {W W' W2 : World}
theorem KpN.refl (n₀ gn : Nat) (own0 : Option Nat) (W : World) : KpN n₀ gn own0 W W := ⟨Nat.le_refl _, KeepB.refl _ _⟩
theorem KpN.trans (h : KpN n₀ gn own0 W W') (k : KpN n₀ gn own0 W' W2) : KpN n₀ gn own0 W W2 := ⟨Nat.le_trans h.1 k.1, h.2.trans h.1 k.2⟩
theorem KpN.below (h : KpN n₀ gn own0 W W') (hb : Below W'.heap.size W' W2) : KpN n₀ gn own0 W W2 := h.trans ⟨hb.size, fun k _ hl => hb.block k hl⟩
theorem KpN.grown (h : KpN n₀ gn own0 W W') {row : Option Nat} (hg : W'.grownBy W2 row) (hr : ∀ k, row = some k → n₀ ≤ k ∨ k = gn ∨ some k = own0) : KpN n₀ gn own0 W W2 := h.trans ⟨hg.size, fun k ⟨h1, h2, h3⟩ hl => hg.block k hl (fun e => by rcases hr k e.symm with h | h | h <;> first | omega | exact h2 h | exact h3 h)⟩
theorem KpN.drew (W : World) : KpN n₀ gn own0 W W.drew := ⟨Nat.le_refl _, fun _ _ _ => rfl⟩
theorem KpN.put {n : Nat} (hl : n₀ ≤ n) {o o' : Obj} : KpN n₀ gn own0 W (W.putObj n o') := (KpN.refl _ _ _ _).grown (grownBy_putObj' W n o') (fun k e => by injection e with e; subst e; exact .inl hl)
theorem KpN.cell (h : KpN n₀ gn own0 W W') {p : Addr} (h1 : p.block < n₀) (h2 : p.block ≠ gn) (h3 : some p.block ≠ own0) {v : Value} (hv : W.cell? p = some v) : W'.cell? p = some v := h.2.cell ⟨h1, h2, h3⟩ hv
theorem KpN.blk (h : KpN n₀ gn own0 W W') {k : Nat} {o : Obj} (h1 : k < n₀) (h2 : k ≠ gn) (h3 : some k ≠ own0) (hv : W.heap[k]? = some o) : W'.heap[k]? = some o := (h.2 k ⟨h1, h2, h3⟩ (blk_lt hv)).trans hv
end
theorem InAt.kp {n₀ gn : Nat} {own0 : Option Nat} {W W' : World} {g : G44} (h : InAt W g) (hk : KpN n₀ gn own0 W W') (hn : W.heap.size ≤ n₀) (hg : ∃ cells, W.heap[gn]? = some (.cells cells 42 (0, 0))) (ho : ∀ k, own0 = some k → ∃ cells, W.heap[k]? = some (.cells cells 44 (0, 0))) : InAt W' g := h.eq fun k ⟨c, hc⟩ =>
  hk.2 k ⟨Nat.lt_of_lt_of_le (blk_lt hc) hn, fun e => by
    subst e
    obtain ⟨c2, hc2⟩ := hg
    rw [hc] at hc2
    injection hc2 with h2
    injection h2 with _ h2 _
    exact absurd h2 (by decide), fun e => by
    obtain ⟨c2, hc2⟩ := ho k e.symm
    rw [hc] at hc2
    injection hc2 with h2
    injection h2 with _ h2 _
    exact absurd h2 (by decide)⟩ (blk_lt hc)
def joinP (x : G44 × G44) : Int × List Int := (x.1.f0 + x.2.f0, x.1.l ++ x.2.l)
/-- While a level is made: the box of the next row, the row, what is new in it. -/
def NxI (wb W3 : World) (gn : Nat) (own0 : Option Nat) (cl : List G44) (pre : List (G44 × G44)) (W : World) : Prop :=
  ∃ v ns, W.heap[gn]? = some (.cells #[v] 42 (0, 0)) ∧ Kd.R kG 44 W wb.heap.size (fun k => some k = own0 ∨ W3.heap.size ≤ k) v (cl ++ ns) ∧ ns.map pl = pre.map joinP ∧ InAll W ns ∧ KpN W3.heap.size gn own0 W3 W ∧ Below wb.heap.size wb W ∧ ∀ g ∈ ns, ∀ ad, g.A = some ad → W3.heap.size ≤ ad.block
theorem grown_ne {B : Nat} {W W' : World} {row : Option Nat} (hr : ∀ r, row = some r → B ≤ r ∧ ∃ o : Obj, W.heap[r]? = some o ∧ o.isCells = false) {g t : Nat} {cells : Array Value} (h : W.heap[g]? = some (.cells cells t (0, 0))) : some g ≠ row := fun e => by
  obtain ⟨_, o, ho, hn⟩ := hr _ e.symm
  rw [h] at ho
  injection ho with ho
  subst ho
  cases hn
theorem nxI_own (wb W3 : World) (gn : Nat) (own0 : Option Nat) (cl : List G44) (hB : wb.heap.size ≤ W3.heap.size) : OwnFrom W3.heap.size (NxI wb W3 gn own0 cl) := by
  rintro pre W W' row ⟨v, ns, h1, h2, h3, h4, h5, h6, h7⟩ hg hr
  refine ⟨v, ns, blk_grown h1 hg (grown_ne (W' := W') hr h1), Kd.R_mono (Kd.R_grown (Kd.R_tight2 rfl h2) hg (fun k hk e2 => ?_)) (fun _ h => h.2), h3, fun g hg2 => (h4 g hg2).eq (fun k ⟨_, hc⟩ => hg.block k (blk_lt hc) (grown_ne (W' := W') hr hc)), h5.grown hg (fun k e => .inl (hr k e).1), ownFrom_below (β := List (G44 × G44)) (Nat.le_refl _) hB pre W W' row h6 hg hr, h7⟩
  obtain ⟨cells, hc⟩ := Kd.R_typed h2 k hk.1.symm
  exact grown_ne (W' := W') hr hc e2
/-! ### The marks that ranges over a function leave -/
def Marks (base : Nat) (W : World) (ds : List Deferred) : Prop := ds.Pairwise (fun a b => a.target ≠ b.target) ∧ ∀ d ∈ ds, ∃ D, d = { target := .collected D, args := #[] } ∧ base ≤ D ∧ W.heap[D]? = some (.deferred (some []))
theorem marks_nil (base : Nat) (W : World) : Marks base W [] := ⟨List.Pairwise.nil, fun _ h => by cases h⟩
theorem Marks.grown {base : Nat} {W W' : World} {ds : List Deferred} (h : Marks base W ds) {row : Option Nat} (hg : W.grownBy W' row) (hr : ∀ r, row = some r → ∃ cells t fr, W.heap[r]? = some (.cells cells t fr)) : Marks base W' ds := ⟨h.1, fun d hd => by
  obtain ⟨D, e, hb, hD⟩ := h.2 d hd
  refine ⟨D, e, hb, (hg.block D (blk_lt hD) fun e2 => ?_).trans hD⟩
  obtain ⟨c, t, fr, hc⟩ := hr D e2.symm
  rw [hD] at hc
  injection hc with hc
  cases hc⟩
theorem Marks.below {base : Nat} {W W' : World} {ds : List Deferred} (h : Marks base W ds) (hb : Below W.heap.size W W') : Marks base W' ds := ⟨h.1, fun d hd => by
  obtain ⟨D, e, hb2, hD⟩ := h.2 d hd
  exact ⟨D, e, hb2, (hb.block D (blk_lt hD)).trans hD⟩⟩
theorem Marks.kp {base n₀ gn : Nat} {own0 : Option Nat} {W W' : World} {ds : List Deferred} (h : Marks base W ds) (hk : KpN n₀ gn own0 W W') (hn : W.heap.size ≤ n₀) (hg : ∃ cells t fr, W.heap[gn]? = some (.cells cells t fr)) (ho : ∀ k, own0 = some k → ∃ cells t fr, W.heap[k]? = some (.cells cells t fr)) : Marks base W' ds := ⟨h.1, fun d hd => by
  obtain ⟨D, e, hb2, hD⟩ := h.2 d hd
  refine ⟨D, e, hb2, hk.blk (Nat.lt_of_lt_of_le (blk_lt hD) hn) (fun e2 => ?_) (fun e2 => ?_) hD⟩
  · subst e2
    obtain ⟨c, t, fr, hc⟩ := hg
    rw [hD] at hc
    injection hc with hc
    cases hc
  · obtain ⟨c, t, fr, hc⟩ := ho D e2.symm
    rw [hD] at hc
    injection hc with hc
    cases hc⟩
theorem Marks.cons {base : Nat} {W : World} {ds : List Deferred} (h : Marks base W ds) {D : Nat} (hb : base ≤ D) (hD : W.heap[D]? = some (.deferred (some []))) (hn : ∀ d ∈ ds, d.target ≠ .collected D) : Marks base W ({ target := .collected D, args := #[] } :: ds) := ⟨List.pairwise_cons.2 ⟨fun a ha => fun e => hn a ha e.symm, h.1⟩, fun d hd => by
  rcases List.mem_cons.1 hd with rfl | hd
  · exact ⟨D, rfl, hb, hD⟩
  · exact h.2 d hd⟩
/-- The function is left: the marks are shut, one by one. -/
theorem leaves_marks {F : Fence} {n : Nat} {P : Program} {fn : Func} {tmps : Array Value} {R : Ending → World → Prop} {base : Nat} : ∀ (ds : List Deferred) (W : World), Marks base W ds →
    (∀ W', (∀ k, k < W.heap.size → (∀ d ∈ ds, d.target ≠ .collected k) → W'.heap[k]? = W.heap[k]?) → W'.heap.size = W.heap.size → (∀ n₀, n₀ ≤ base → Below n₀ W W') → ∃ v, (results fn tmps).run P W' = .ok v W' ∧ R (.returned v) W') → LeavesInM F n P fn tmps R ds .returning W
  | [], W, _, h => h W (fun _ _ _ => rfl) rfl (fun n₀ _ => Below.refl _ _)
  | d :: ds, W, hM, h => by
    obtain ⟨D, e, hb, hD⟩ := hM.2 d (List.mem_cons_self)
    obtain ⟨hp1, hp2⟩ := List.pairwise_cons.1 hM.1
    refine ⟨by simp, .inl ⟨D, W.putObj D (.deferred none), by rw [e], run_takeDeferred hD, ?_⟩⟩
    have hg := grownBy_putObj' W D (.deferred none)
    have hsz : (W.putObj D (.deferred none)).heap.size = W.heap.size := by simp [World.putObj]
    refine leaves_marks (base := base) ds _ ⟨hp2, fun d2 hd2 => ?_⟩ (fun W' h1 h2 h3 => ?_)
    · obtain ⟨D2, e2, hb2, hD2⟩ := hM.2 d2 (List.mem_cons_of_mem _ hd2)
      refine ⟨D2, e2, hb2, (hg.block D2 (blk_lt hD2) fun e3 => ?_).trans hD2⟩
      injection e3 with e3
      subst e3
      exact hp1 d2 hd2 (by rw [e, e2])
    · refine h W' (fun k hk hn => ?_) (h2.trans hsz) (fun n₀ hn₀ => ((Below.refl n₀ W).grown hg (by have := blk_lt hD; omega) (fun k e => by injection e with e; subst e; omega)).trans (h3 n₀ hn₀))
      rw [h1 k (by rw [hsz]; exact hk) (fun d2 hd2 => hn d2 (List.mem_cons_of_mem _ hd2))]
      exact hg.block k hk (fun e3 => by injection e3 with e3; exact hn d List.mem_cons_self (by rw [e, e3]))
theorem ints_grown {W W' : World} {base : Nat} {ok : Nat → Prop} {v : Value} {xs : List Int} {row : Option Nat} (h : Kd.R (Kd.int .i64) 3 W base ok v xs) (hg : W.grownBy W' row) (hr : ∀ r, row = some r → ∃ cells, W.heap[r]? = some (.cells cells 44 (0, 0))) : Kd.R (Kd.int .i64) 3 W' base ok v xs :=
  Kd.R_mono (Kd.R_grown (Kd.R_tight2 rfl h) hg (fun k hk e => by
    obtain ⟨c, hc⟩ := Kd.R_typed h k hk.1.symm
    obtain ⟨c2, hc2⟩ := hr k e.symm
    rw [hc] at hc2
    injection hc2 with h2
    injection h2 with _ h2 _
    exact absurd h2 (by decide))) (fun _ h => h.2)
/-- What stands ahead of a level. -/
structure LevI (wb : World) (S : List (Int × List Int)) (sv : List G44) (g6 c6 go c9 : Nat) (l : List Int) (m j : Nat) (hv : List G44) (A10 : Option Addr) (c10 : Nat) (ds : List Deferred) (W : World) : Prop where
  le : j ≤ m
  rel : HaveRel S j (hv.map pl)
  bnd : ∀ g ∈ hv, 0 ≤ g.f0 ∧ g.f0 ≤ 4294967296 * 2 ^ j ∧ g.l.length ≤ 2 ^ j
  len : hv.length ≤ 2 * sv.length
  hvR : Kd.R kG 44 W wb.heap.size (fun _ => True) (.slice A10 hv.length c10) hv
  hvI : InAll W hv
  svR : Kd.R kG 44 W wb.heap.size (fun _ => True) (.slice (some ⟨g6, 0, none⟩) sv.length c6) sv
  svI : InAll W sv
  outR : Kd.R (Kd.int .i64) 3 W wb.heap.size (fun _ => True) (.slice (some ⟨go, 0, none⟩) l.length c9) (zerosL l)
  far : ∀ g, g ∈ hv ∨ g ∈ sv → ∀ ad, g.A = some ad → ad.block ≠ go
  marks : Marks wb.heap.size W ds
  below : Below wb.heap.size wb W
theorem kp_R44 {n₀ gn base : Nat} {own0 : Option Nat} {W W' : World} {v : Value} {d : List G44} (h : Kd.R kG 44 W base (fun _ => True) v d) (hk : KpN n₀ gn own0 W W') (hn : W.heap.size ≤ n₀) (hg : ∃ cells, W.heap[gn]? = some (.cells cells 42 (0, 0))) (ho : v.ownBlock ≠ own0 ∨ v.ownBlock = none) : Kd.R kG 44 W' base (fun _ => True) v d :=
  Kd.R_mono (Kd.R_step (Kd.R_tight2 rfl h) (fun k hk2 hl => hk.2 k ⟨Nat.lt_of_lt_of_le hl hn, fun e => by
    subst e
    obtain ⟨c, hc⟩ := Kd.R_typed h k hk2.1.symm
    obtain ⟨c2, hc2⟩ := hg
    rw [hc] at hc2
    injection hc2 with h2
    injection h2 with _ h2 _
    exact absurd h2 (by decide), fun e => by
    rcases ho with ho | ho
    · exact ho (hk2.1.symm.trans e)
    · rw [ho] at hk2; cases hk2.1⟩ hl)) (fun _ _ => trivial)
theorem kp_Rint {n₀ gn base : Nat} {own0 : Option Nat} {W W' : World} {v : Value} {d : List Int} (h : Kd.R (Kd.int .i64) 3 W base (fun _ => True) v d) (hk : KpN n₀ gn own0 W W') (hn : W.heap.size ≤ n₀) (hg : ∃ cells, W.heap[gn]? = some (.cells cells 42 (0, 0))) (ho : ∀ k, own0 = some k → ∃ cells, W.heap[k]? = some (.cells cells 44 (0, 0))) : Kd.R (Kd.int .i64) 3 W' base (fun _ => True) v d :=
  Kd.R_mono (Kd.R_step (Kd.R_tight2 rfl h) (fun k hk2 hl => hk.2 k ⟨Nat.lt_of_lt_of_le hl hn, fun e => by
    subst e
    obtain ⟨c, hc⟩ := Kd.R_typed h k hk2.1.symm
    obtain ⟨c2, hc2⟩ := hg
    rw [hc] at hc2
    injection hc2 with h2
    injection h2 with _ h2 _
    exact absurd h2 (by decide), fun e => by
    obtain ⟨c, hc⟩ := Kd.R_typed h k hk2.1.symm
    obtain ⟨c2, hc2⟩ := ho k e.symm
    rw [hc] at hc2
    injection hc2 with h2
    injection h2 with _ h2 _
    exact absurd h2 (by decide)⟩ hl)) (fun _ _ => trivial)
theorem InAt.set42 {W : World} {g : G44} {gn : Nat} {cs : Array Value} (h : InAt W g) (hg : W.heap[gn]? = some (.cells cs 42 (0, 0))) (i : Nat) (u : Value) : InAt (W.setCell ⟨gn, i, none⟩ u) g := h.eq fun k ⟨c, hc⟩ => Below.heap_setCell W ⟨gn, i, none⟩ u k (fun e => by
  have e : k = gn := e
  subst e
  rw [hc] at hg
  injection hg with h2
  injection h2 with _ h2 _
  exact absurd h2 (by decide))
theorem grownBy_set {W : World} (gn i : Nat) (u : Value) : W.grownBy (W.setCell ⟨gn, i, none⟩ u) (some gn) := ⟨rfl, rfl, rfl, by simp [World.setCell], fun k _ hne => Below.heap_setCell W ⟨gn, i, none⟩ u k (fun e => hne (by rw [show k = gn from e]))⟩
theorem two_cells {W : World} {r : Nat} {a b : Value} {t : TypeId} (h : W.heap[r]? = some (.cells #[a, b] t (0, 0))) : W.cell? ((⟨r, 0, none⟩ : Addr).add 0) = some a ∧ W.cell? ((⟨r, 0, none⟩ : Addr).add 1) = some b := ⟨(blk_cell h 0).trans rfl, (blk_cell h 1).trans rfl⟩
theorem InAt.len {W : World} {g : G44} (h : InAt W g) : g.n = g.l.length := h.1
theorem InAt.row {W : World} {g : G44} (h : InAt W g) : (Kd.int .i64).C W g.A g.l.length g.l := h.2.1
theorem two_at0 {W : World} {r : Nat} {x y : G44} (hx : InAt W x) (hy : InAt W y) {t : TypeId} (h : W.heap[r]? = some (.cells #[.slice x.A x.n x.c, .slice y.A y.n y.c] t (0, 0))) : W.cell? ((⟨r, 0, none⟩ : Addr).add 0) = some (.slice x.A x.l.length x.c) ∧ W.cell? ((⟨r, 0, none⟩ : Addr).add 1) = some (.slice y.A y.l.length y.c) := by
  rw [hx.1, hy.1] at h
  exact two_cells h
/-! ### A region that draws, in a round of a range over a function, by the steps of a region outside -/
theorem uponIn_of_upon {l n : Nat} {P : Program} {o : Oper} {a : Act} {K : Act → World → Prop} {Q : Exit → Act → World → Prop} {r : Result Next} (h : o.upon P a K Q r) : o.uponIn (Fence.wide.inRound l) n P a K Q r := by
  cases r with
  | ok x w' =>
    cases x with
    | enter f args => exact ⟨fun h => (by cases h), CallsIn.inRound l (callsIn_wide.2 h)⟩
    | row row args => exact ⟨fun h => (by cases h), fun c cs _ => let ⟨v, w2, r, s⟩ := h c cs; ⟨v, w2, r, stepsIn_wide.2 s⟩⟩
    | round l2 f tmps assign body => exact False.elim h
    | _ => exact h
  | halt x w' => cases x <;> exact h
theorem wpOpIn_of_wpOp {l n : Nat} {P : Program} {ops : Array Oper} {Q : Exit → Act → World → Prop} {i : Nat} {K K' : Act → World → Prop} {a : Act} {w : World} (hnd : ∀ o ∈ ops, ∀ c, o.op ≠ .defer c) (hno : ¬ LetsOut Q) (hK : ∀ a w, K a w → K' a w)
    (h : wpOp P ops Q i K a w) : wpOpIn (Fence.wide.inRound l) n P ops Q i K' a w := by
  unfold wpOp at h
  unfold wpOpIn
  cases ho : ops[i]? with
  | none => rw [ho] at h; exact hK _ _ h
  | some o =>
    rw [ho] at h
    dsimp only at h ⊢
    have hm : o ∈ ops := Array.mem_of_getElem? ho
    by_cases hw : Region.wanted o (yielded ops a.tmps) = true
    · rw [if_pos hw] at h ⊢
      refine Oper.wpIn_mono hK ?_
      refine ⟨fun f _ => trivial, ?_⟩
      rw [Oper.semAt_plain (Fence.wide.inRound l) _ _ (hnd o hm)]
      exact uponIn_of_upon (h.resolve_right (fun h => hno h.2))
    · rw [if_neg hw] at h ⊢
      exact ⟨fun f _ => trivial, hK _ _ h⟩
theorem wpAnyIn_of_wpAny {l n : Nat} {P : Program} {md : Region.Mode} {ops : Array Oper} {Q : Exit → Act → World → Prop} (hnd : ∀ o ∈ ops, ∀ c, o.op ≠ .defer c) (hno : ¬ LetsOut Q) : ∀ (fuel : Nat) (listed : Array Bool) (a : Act) (w : World), wpAny P md ops Q fuel listed a w → wpAnyIn (Fence.wide.inRound l) n P md ops Q fuel listed a w
  | 0, _, _, _, h => h
  | fuel + 1, listed, a, w, h => ⟨h.1, fun i hi => wpOpIn_of_wpOp hnd hno (fun a w h => wpAnyIn_of_wpAny hnd hno fuel _ a w h) (h.2 i hi)⟩
def noDefer (ops : Array Oper) : Bool := ops.all fun o => match o.op with | .defer _ => false | _ => true
theorem noDefer_spec {ops : Array Oper} (h : noDefer ops = true) : ∀ o ∈ ops, ∀ c, o.op ≠ .defer c := by
  intro o ho c e
  unfold noDefer at h
  rw [Array.all_eq_true'] at h
  have := h o ho
  rw [e] at this
  cases this
theorem start_in {lp k : Nat} {P : Program} {ops : Array Oper} {Q : Exit → Act → World → Prop} {S : World → Prop} {ds : List Nat} {id n : Nat} {a : Act} {w : World} (l : Array Bool) (hno : ¬ LetsOut Q) (hd : noDefer ops = true) (hm : P.follows .mixedOrders = true) (hn : ops.size = n) (hl : Array.replicate n false = l) (hS : S w.drew)
    (h : S w.drew → wpAnyLast P .any ops Q S ds n l a w.drew) : (Code.region id ops true).wpIn (Fence.wide.inRound lp) k P Q a w := by
  subst hn
  subst hl
  exact wpIn_region_any hm (wpAnyIn_of_wpAny (noDefer_spec hd) hno _ _ _ _ (wpAny_of_last _ _ _ _ (h hS)))
/-! ### A region in a function that holds a range over a function: nothing panics there -/
end Go.Proofs.Ytdgpcjhincgijaa.Pr

-- YtdgpcjhincgijaaLm7
namespace Go.Proofs.Ytdgpcjhincgijaa.Pr
open Go.RowKit Go.Shelf Go.Proofs.YtdgpcjhincgijaaW.PrintWords Go.Proofs.YtdgpcjhincgijaaW.PrintLast Go.Proofs.YtdgpcjhincgijaaW.PrintMore
set_option linter.unusedVariables false
set_option linter.unusedSimpArgs false
/-! ### From level to level -/
theorem Srt.map {α β : Type} {κ : α → Int} {κ' : β → Int} {f : α → β} (hk : ∀ x, κ' (f x) = κ x) {Z : List α} (h : Srt κ Z) : Srt κ' (Z.map f) := by
  unfold Srt at h ⊢
  rw [List.pairwise_map]
  exact h.imp (fun {x y} hxy => by rw [hk, hk]; exact hxy)
theorem Stb.map {α β : Type} {κ : α → Int} {κ' : β → Int} {f : α → β} (hk : ∀ x, κ' (f x) = κ x) {L Z : List α} (h : Stb κ L Z) : Stb κ' (L.map f) (Z.map f) := fun k => by
  have e : ∀ X : List α, (X.map f).filter (fun x => κ' x == k) = (X.filter (fun x => κ x == k)).map f := fun X => by
    rw [List.filter_map]
    congr 1
    exact List.filter_congr (fun x _ => by simp only [Function.comp, hk])
  rw [e, e, h k]
theorem pairP_take : ∀ (n : Nat) (Y : List (Int × List Int)), 2 * n ≤ Y.length → pairP (Y.take (2 * n)) = (List.range n).map (fun k => ((Y.getD (2 * k) (0, [])).1 + (Y.getD (2 * k + 1) (0, [])).1, (Y.getD (2 * k) (0, [])).2 ++ (Y.getD (2 * k + 1) (0, [])).2))
  | 0, Y, _ => by simp [pairP]
  | n + 1, [], h => by simp at h
  | n + 1, [_], h => by simp at h; omega
  | n + 1, a :: b :: t, h => by
    rw [show 2 * (n + 1) = 2 * n + 1 + 1 by omega, List.take_succ_cons, List.take_succ_cons, pairP, pairP_take n t (by simp at h; omega), List.range_succ_eq_map, List.map_cons, List.map_map]
    congr 1
theorem pairP_all : ∀ (Y : List (Int × List Int)), pairP Y = pairP (Y.take (2 * (Y.length / 2)))
  | [] => rfl
  | [_] => by simp [pairP]
  | a :: b :: t => by
    rw [show 2 * ((a :: b :: t).length / 2) = 2 * (t.length / 2) + 1 + 1 by simp; omega, List.take_succ_cons, List.take_succ_cons, pairP, pairP, ← pairP_all t]
theorem prsL_range (d : List G44) : ∀ n, prsL d n = (List.range n).map (fun k => (rd_T44 d ((2 * k : Nat) : Int), rd_T44 d ((2 * k + 1 : Nat) : Int)))
  | 0 => rfl
  | n + 1 => by rw [prsL, prsL_range d n, List.range_succ, List.map_append]; rfl
theorem pl_rd {d : List G44} {k : Nat} (hk : k < d.length) : pl (rd_T44 d (k : Int)) = (d.map pl).getD k (0, []) := by
  unfold rd_T44
  rw [Int.toNat_natCast, List.getD_eq_getElem?_getD, List.getD_eq_getElem?_getD, List.getElem?_map, List.getElem?_eq_getElem hk]
  rfl
theorem pairP_prs (d : List G44) : pairP (d.map pl) = (prsL d (d.length / 2)).map joinP := by
  rw [pairP_all, List.length_map, pairP_take _ _ (by rw [List.length_map]; omega), prsL_range, List.map_map]
  refine List.map_congr_left (fun k hk => ?_)
  have hk := List.mem_range.1 hk
  have h1 := pl_rd (d := d) (k := 2 * k) (by omega)
  have h2 := pl_rd (d := d) (k := 2 * k + 1) (by omega)
  rw [← h1, ← h2]
  rfl
theorem ns_mem {hv ns : List G44} {xs : List (Prs hv)} (h : ns.map pl = (xs.map Subtype.val).map joinP) {g : G44} (hg : g ∈ ns) : ∃ x y, x ∈ hv ∧ y ∈ hv ∧ g.f0 = x.f0 + y.f0 ∧ g.l = x.l ++ y.l := by
  have h1 : pl g ∈ ns.map pl := List.mem_map.2 ⟨g, hg, rfl⟩
  rw [h] at h1
  obtain ⟨q, hq, e⟩ := List.mem_map.1 h1
  obtain ⟨⟨⟨x, y⟩, hxy⟩, _, rfl⟩ := List.mem_map.1 hq
  unfold pl joinP at e
  injection e with e1 e2
  exact ⟨x, y, hxy.1, hxy.2, e1.symm, e2.symm⟩
def SvB (sv : List G44) : Prop := ∀ g ∈ sv, 0 ≤ g.f0 ∧ g.f0 ≤ 4294967296 ∧ g.l.length ≤ 1
theorem next_bnd {hv sv ns : List G44} {xs : List (Prs hv)} {j : Nat} (h : ns.map pl = (xs.map Subtype.val).map joinP) (hb : ∀ g ∈ hv, 0 ≤ g.f0 ∧ g.f0 ≤ 4294967296 * 2 ^ j ∧ g.l.length ≤ 2 ^ j) (hs : SvB sv) : ∀ g ∈ sv ++ ns, 0 ≤ g.f0 ∧ g.f0 ≤ 4294967296 * 2 ^ (j + 1) ∧ g.l.length ≤ 2 ^ (j + 1) := fun g hg => by
  have hp : 1 ≤ 2 ^ j := Nat.one_le_two_pow
  have hpi : (1 : Int) ≤ 2 ^ j := by have := Int.ofNat_le.2 hp; rwa [Int.natCast_pow] at this
  rw [Int.pow_succ, Nat.pow_succ]
  rcases List.mem_append.1 hg with hg | hg
  · have := hs g hg
    omega
  · obtain ⟨x, y, hx, hy, e1, e2⟩ := ns_mem h hg
    have h1 := hb x hx
    have h2 := hb y hy
    rw [e1, e2, List.length_append]
    omega
theorem next_dm {hv sv ns : List G44} {xs : List (Prs hv)} {j : Nat} (hj : j ≤ 15) (h : ns.map pl = (xs.map Subtype.val).map joinP) (hb : ∀ g ∈ hv, 0 ≤ g.f0 ∧ g.f0 ≤ 4294967296 * 2 ^ j ∧ g.l.length ≤ 2 ^ j) (hs : SvB sv) : ∀ g ∈ sv ++ ns, PDm g := fun g hg => by
  have := next_bnd h hb hs g hg
  have h3 : 2 ^ (j + 1) ≤ 65536 := (Nat.pow_le_pow_right (n := 2) (by omega) (show j + 1 ≤ 16 by omega) : 2 ^ (j + 1) ≤ 2 ^ 16)
  have h4 : ((2 : Int) ^ (j + 1)) ≤ 65536 := by have h_ := Int.ofNat_le.2 h3; rw [Int.natCast_pow] at h_; exact h_
  unfold PDm
  omega
/-- One level more. -/
theorem LevI.next {wb wr W3 W W5 : World} {sv : List G44} {g6 c6 go c9 : Nat} {l : List Int} {m j : Nat} {hv : List G44} {A10 : Option Addr} {c10 : Nat} {ds : List Deferred} (HI : LevI wb (sv.map pl) sv g6 c6 go c9 l m j hv A10 c10 ds wr) (hjm : j < m) (hsv : SvB sv)
    {gn : Nat} {own0 : Option Nat} (hwr : wb.heap.size ≤ wr.heap.size) (b3 : Below wr.heap.size wr W3) {cs : Array Value} (hgn : W3.heap[gn]? = some (.cells cs 42 (0, 0))) (hgs : wr.heap.size ≤ gn) (hot : ∀ k, own0 = some k → wr.heap.size ≤ k ∧ k < gn ∧ ∃ cells, W3.heap[k]? = some (.cells cells 44 (0, 0)))
    {D : Nat} (hD : W3.heap.size ≤ D) {xs : List (Prs hv)} (hxs : xs.map Subtype.val = prsL hv (hv.length / 2)) {ns : List G44} (hns : ns.map pl = (xs.map Subtype.val).map joinP) (hin : InAll W ns) (hkp : KpN W3.heap.size gn own0 W3 W) (hbl : Below wb.heap.size wb W) (hfar : ∀ g ∈ ns, ∀ ad, g.A = some ad → W3.heap.size ≤ ad.block) (hDm : W.heap[D]? = some (.deferred (some [])))
    {gx cx : Nat} {Z : List G44} (hgx : wb.heap.size ≤ gx) (how : some gx = own0 ∨ W3.heap.size ≤ gx) (hgt : ∃ cells, W.heap[gx]? = some (.cells cells 44 (0, 0))) (hZ : Srt kF Z) (hst : Stb kF (sv ++ ns) Z) {ok : Nat → Prop} (hR5 : Kd.R kG 44 W5 wb.heap.size ok (.slice (some ⟨gx, 0, none⟩) Z.length cx) Z) (hg : W.grownBy W5 (some gx)) :
    LevI wb (sv.map pl) sv g6 c6 go c9 l m (j + 1) Z (some ⟨gx, 0, none⟩) cx ({ target := .collected D, args := #[] } :: ds) W5 := by
  have hgt2 : ∀ r, some gx = some r → ∃ cells, W.heap[r]? = some (.cells cells 44 (0, 0)) := fun r e => by injection e with e; subst e; exact hgt
  have hgt3 : ∀ r, some gx = some r → ∃ cells t fr, W.heap[r]? = some (.cells cells t fr) := fun r e => by obtain ⟨c, hc⟩ := hgt2 r e; exact ⟨c, _, _, hc⟩
  have hgx2 : wr.heap.size ≤ gx := by
    rcases how with h | h
    · exact (hot gx h.symm).1
    · exact Nat.le_trans b3.size h
  have hg6 : g6 < wr.heap.size := by
    obtain ⟨c, hc⟩ := Kd.R_typed HI.svR g6 rfl
    exact blk_lt hc
  have hgo : go < wr.heap.size := by
    obtain ⟨c, hc⟩ := Kd.R_typed HI.outR go rfl
    exact blk_lt hc
  have hgn' : ∃ cells, W3.heap[gn]? = some (.cells cells 42 (0, 0)) := ⟨_, hgn⟩
  have hot' : ∀ k, own0 = some k → ∃ cells, W3.heap[k]? = some (.cells cells 44 (0, 0)) := fun k e => (hot k e).2.2
  have hlen : ns.length = hv.length / 2 := by
    have h1 := congrArg List.length hns
    rw [List.length_map, List.length_map, hxs, prsL_len] at h1
    exact h1
  refine ⟨by omega, ?_, ?_, ?_, ?_, ?_, ?_, ?_, ?_, ?_, ?_, ?_⟩
  · have h1 := Srt.map (f := pl) (κ' := wP) (fun _ => rfl) hZ
    have h2 := Stb.map (f := pl) (κ' := wP) (fun _ => rfl) hst
    rw [List.map_append, hns, hxs, ← pairP_prs] at h2
    exact .succ HI.rel h1 h2
  · exact fun g hgz => next_bnd hns HI.bnd hsv g ((hst.mem g).1 hgz)
  · rw [hst.len, List.length_append, hlen]
    have := HI.len
    omega
  · exact Kd.R_mono hR5 (fun _ _ => trivial)
  · intro g hgz
    rcases List.mem_append.1 ((hst.mem g).1 hgz) with h | h
    · exact (((HI.svI g h).below b3).kp hkp (Nat.le_refl _) hgn' hot').grown hg hgt2
    · exact (hin g h).grown hg hgt2
  · have h1 := Kd.R_below HI.svR b3
    have h2 := kp_R44 h1 hkp (Nat.le_refl _) hgn' (.inl fun e => by
      have := (hot g6 (by rw [← e]; rfl)).1
      omega)
    exact Kd.R_mono (Kd.R_grown (Kd.R_tight2 rfl h2) hg (fun k hk e => by
      injection e with e
      have h3 := hk.1
      simp [Value.ownBlock] at h3
      omega)) (fun _ _ => trivial)
  · exact fun g h => (((HI.svI g h).below b3).kp hkp (Nat.le_refl _) hgn' hot').grown hg hgt2
  · exact ints_grown (kp_Rint (Kd.R_below HI.outR b3) hkp (Nat.le_refl _) hgn' hot') hg hgt2
  · rintro g (h | h) ad e
    · rcases List.mem_append.1 ((hst.mem g).1 h) with h | h
      · exact HI.far g (.inr h) ad e
      · have := hfar g h ad e
        have := b3.size
        omega
    · exact HI.far g (.inr h) ad e
  · refine (((HI.marks.below b3).kp hkp (Nat.le_refl _) ⟨_, _, _, hgn⟩ (fun k e => by obtain ⟨_, _, c, hc⟩ := hot k e; exact ⟨c, _, _, hc⟩)).cons (Nat.le_trans hwr (Nat.le_trans b3.size hD)) hDm (fun d hd e => ?_)).grown hg hgt3
    obtain ⟨D', e', _, hD'⟩ := HI.marks.2 d hd
    rw [e'] at e
    injection e with e
    have := blk_lt hD'
    have := b3.size
    omega
  · exact hbl.grown hg hbl.size (fun k e => by injection e with e; subst e; exact hgx)
theorem pairP_len : ∀ (Y : List (Int × List Int)), (pairP Y).length = Y.length / 2
  | [] => rfl
  | [_] => by simp [pairP]
  | a :: b :: t => by rw [pairP, List.length_cons, pairP_len t, List.length_cons, List.length_cons]; omega
theorem have_len {S : List (Int × List Int)} {j : Nat} {H : List (Int × List Int)} (h : HaveRel S j H) : ∀ t, S.length ≤ 2 ^ j * t → 2 * S.length ≤ H.length + 2 * t := by
  induction h with
  | zero => intro t ht; simp at ht ⊢; omega
  | @succ j Y Z h hs hb ih =>
    intro t ht
    have h1 := ih (2 * t) (by rw [Nat.pow_succ, Nat.mul_assoc] at ht; exact ht)
    rw [hb.len, List.length_append, pairP_len]
    omega
theorem have_m {S : List (Int × List Int)} {j : Nat} {H : List (Int × List Int)} (h : HaveRel S j H) (hn : S.length ≤ 2 ^ j) : 2 * S.length - 2 ≤ H.length := by
  have := have_len h 1 (by omega)
  omega
/-! ### The row that is told -/
def outK (hv : List G44) (k : Nat) (l : List Int) : List Int := (hv.take k).foldl (fun out g => bumps out g.l) (zerosL l)
theorem takeG (xs : List G44) {k : Nat} (hk : k < xs.length) : xs.take (k + 1) = xs.take k ++ [rd_T44 xs (k : Int)] := by
  rw [List.take_add_one]
  unfold rd_T44
  rw [Int.toNat_natCast, List.getD_eq_getElem?_getD, List.getElem?_eq_getElem hk]
  rfl
theorem outK_succ {hv : List G44} {k : Nat} (hk : k < hv.length) (l : List Int) : outK hv (k + 1) l = bumps (outK hv k l) (rd_T44 hv (k : Int)).l := by
  unfold outK
  rw [takeG hv hk, List.foldl_append]
  rfl
theorem bumps_succ {out r : List Int} {i : Nat} (hi : i < r.length) : bumps out (r.take (i + 1)) = bump (bumps out (r.take i)) (rd r (i : Int)) := by
  unfold bumps
  rw [takeI r hi, List.foldl_append]
  rfl
theorem bump_len (out : List Int) (s : Int) : (bump out s).length = out.length := by
  unfold bump
  rw [List.length_set]
theorem bumps_len : ∀ (r out : List Int), (bumps out r).length = out.length
  | [], _ => rfl
  | s :: r, out => by
    show (bumps (bump out s) r).length = _
    rw [bumps_len r, bump_len]
def InB (B : Nat) (out : List Int) : Prop := ∀ i : Nat, 0 ≤ out.getD i 0 ∧ out.getD i 0 ≤ (B : Int)
theorem InB.bump {B : Nat} {out : List Int} (h : InB B out) (s : Int) : InB (B + 1) (bump out s) := fun i => by
  unfold Pr.bump
  have h1 := h i
  have h2 := h s.toNat
  simp only [List.getD_eq_getElem?_getD, List.getElem?_set] at h1 h2 ⊢
  split
  · split
    · simp only [Option.getD_some]
      omega
    · simp only [Option.getD_none]
      omega
  · omega
theorem InB.mono {B B' : Nat} {out : List Int} (h : InB B out) (hb : B ≤ B') : InB B' out := fun i => by
  have := h i
  omega
theorem InB.bumps {B : Nat} : ∀ (r : List Int) {out : List Int}, InB B out → InB (B + r.length) (bumps out r)
  | [], _, h => h
  | s :: r, out, h => by
    have h1 := InB.bumps (B := B + 1) r (h.bump s)
    rw [List.length_cons, show B + (r.length + 1) = B + 1 + r.length by omega]
    exact h1
theorem InB.zeros (l : List Int) : InB 0 (zerosL l) := fun i => by
  unfold zerosL
  rw [List.getD_eq_getElem?_getD, List.getElem?_replicate]
  split <;> simp
theorem InB.outK {hv : List G44} {C : Nat} (hb : ∀ g ∈ hv, g.l.length ≤ C) : ∀ k, k ≤ hv.length → ∀ l, InB (k * C) (outK hv k l)
  | 0, _, l => by
    rw [Nat.zero_mul]
    exact InB.zeros l
  | k + 1, hk, l => by
    rw [outK_succ (by omega)]
    have h1 := InB.outK hb k (by omega) l
    refine (h1.bumps _).mono ?_
    rw [Nat.succ_mul]
    have : rd_T44 hv (k : Int) ∈ hv := by
      unfold rd_T44
      rw [Int.toNat_natCast, List.getD_eq_getElem?_getD, List.getElem?_eq_getElem (by omega)]
      exact List.getElem_mem _
    have := hb _ this
    omega
theorem have_all {S : List (Int × List Int)} {P : Int → Prop} (hS : ∀ p ∈ S, ∀ s ∈ p.2, P s) {j : Nat} {H : List (Int × List Int)} (h : HaveRel S j H) : ∀ p ∈ H, ∀ s ∈ p.2, P s := by
  induction h with
  | zero => intro p hp; cases hp
  | @succ j Y Z h hs hb ih =>
    have hpp : ∀ (Y : List (Int × List Int)), (∀ p ∈ Y, ∀ s ∈ p.2, P s) → ∀ p ∈ pairP Y, ∀ s ∈ p.2, P s := by
      intro Y
      induction Y using pairP.induct with
      | case1 a b t ih2 =>
        intro hY p hp
        rw [pairP] at hp
        rcases List.mem_cons.1 hp with rfl | hp
        · intro s hs
          rcases List.mem_append.1 hs with hs | hs
          · exact hY a (by simp) s hs
          · exact hY b (by simp) s hs
        · exact ih2 (fun q hq => hY q (by simp [hq])) p hp
      | case2 x hx =>
        intro _ p hp
        unfold pairP at hp
        split at hp
        · exact absurd rfl (hx _ _ _)
        · cases hp
    intro p hp
    rcases List.mem_append.1 ((hb.mem p).1 hp) with hp | hp
    · exact hS p hp
    · exact hpp Y ih p hp
structure OutI (wb : World) (go c9 gh c10 : Nat) (l : List Int) (hv : List G44) (ds : List Deferred) (out : List Int) (W : World) : Prop where
  outR : Kd.R (Kd.int .i64) 3 W wb.heap.size (fun _ => True) (.slice (some ⟨go, 0, none⟩) l.length c9) out
  hvR : Kd.R kG 44 W wb.heap.size (fun _ => True) (.slice (some ⟨gh, 0, none⟩) hv.length c10) hv
  hvI : InAll W hv
  far : ∀ g ∈ hv, ∀ ad, g.A = some ad → ad.block ≠ go
  marks : Marks wb.heap.size W ds
  below : Below wb.heap.size wb W
section
variable {wb : World} {go c9 gh c10 : Nat} {l : List Int} {hv : List G44} {ds : List Deferred} {out : List Int} {W W' : World}
theorem OutI.ahead (h : OutI wb go c9 gh c10 l hv ds out W) (hb : Below W.heap.size W W') : OutI wb go c9 gh c10 l hv ds out W' := ⟨Kd.R_below h.outR hb, Kd.R_below h.hvR hb, h.hvI.below hb, h.far, h.marks.below hb, below_then h.below h.below.size hb⟩
theorem OutI.put (h : OutI wb go c9 gh c10 l hv ds out W) (s : Nat) (v : Int) : OutI wb go c9 gh c10 l hv ds (out.set s v) (W.setCell ⟨go, s, none⟩ (.int .i64 v)) := by
  obtain ⟨cs, hcs⟩ := Kd.R_typed h.outR go rfl
  have hp := Kd.R_putg h.outR (s : Int) v
  rw [Int.toNat_natCast] at hp
  refine ⟨hp.1, Kd.R_mono (Kd.R_far (p := ⟨go, s, none⟩) (Kd.R_types h.hvR hcs (by decide)) (fun _ hk => hk.2) _) (fun _ _ => trivial), fun g hg => ?_, h.far, h.marks.grown hp.2 (fun r e => by injection e with e; subst e; exact ⟨cs, _, _, hcs⟩), below_set h.below (Kd.R_base h.outR go rfl)⟩
  have hi := h.hvI g hg
  have hne : ∀ ad, g.A = some ad → (W.setCell ⟨go, s, none⟩ (.int .i64 v)).heap[ad.block]? = W.heap[ad.block]? := fun ad e => Below.heap_setCell W ⟨go, s, none⟩ _ _ (h.far g hg ad e)
  exact ⟨hi.1, C_eq hi.2.1 hne, fun ad e => by
    obtain ⟨c, hc⟩ := hi.2.2 ad e
    exact ⟨c, (hne ad e).trans hc⟩⟩
theorem OutI.cell (h : OutI wb go c9 gh c10 l hv ds out W) {s : Nat} (hs : s < l.length) : W.cell? ⟨go, s, none⟩ = some (.int .i64 (out.getD s 0)) ∧ W.frozen? ⟨go, s, none⟩ = false := by
  have h1 := Kd.R_celln 0 h.outR (s : Int) (by omega) (by omega)
  rw [Int.toNat_natCast] at h1
  exact h1
theorem OutI.shut (h : OutI wb go c9 gh c10 l hv ds out W) (hk : ∀ k, k < W.heap.size → (∀ d ∈ ds, d.target ≠ .collected k) → W'.heap[k]? = W.heap[k]?) : Kd.R (Kd.int .i64) 3 W' wb.heap.size (fun _ => True) (.slice (some ⟨go, 0, none⟩) l.length c9) out :=
  Kd.R_mono (Kd.R_step (Kd.R_tight2 rfl h.outR) (fun q hq hl => hk q hl (fun d hd e => by
    obtain ⟨cs, hc⟩ := Kd.R_typed h.outR q hq.1.symm
    obtain ⟨D', e', _, hD'⟩ := h.marks.2 d hd
    rw [e'] at e
    injection e with e
    subst e
    rw [hc] at hD'
    injection hD' with h2
    cases h2))) (fun _ _ => trivial)
theorem outK_eq (hv : List G44) (n : Nat) (l : List Int) : outK hv n l = ((hv.map pl).take n).foldl (fun out p => bumps out p.2) (zerosL l) := by
  unfold outK
  rw [← List.map_take, List.foldl_map]
  rfl
end
end Go.Proofs.Ytdgpcjhincgijaa.Pr

