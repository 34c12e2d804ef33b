-- A text by hand (wip/locks).
import Derived.RangeFuncNested
import Derived.RangeFuncBound
import Derived.RangeFuncCalls
import Derived.RangeFuncLeaves
import Derived.RangeFuncBox
import Derived.Shelf.Abstract
import Derived.Shelf.RegionOpen
import Derived.OwnWalkIn
import Derived.TacticsInMore
import Derived.LoopNIn
import Derived.LoopIn
import Derived.WalkSpells
import Derived.Test.YtdhabfjfpbdjfaaPr0
import Derived.Test.YtdhabfjfpbdjfaaLk13
import Derived.Test.YtdhabfjfpbdjfaaLk9
import Derived.Test.YtdhabfjfpbdjfaaLk10
import Derived.Test.YtdhabfjfpbdjfaaPr1
namespace Go.Proofs.Ytdhabfjfpbdjfaa.Pr
open Go.RowKit Go.Shelf Go.Proofs.YtdhabfjfpbdjfaaW.PrintWords Go.Proofs.YtdhabfjfpbdjfaaW.PrintLast Go.Proofs.YtdhabfjfpbdjfaaW.PrintMore
set_option linter.unusedVariables false
set_option linter.unusedSimpArgs false

abbrev LA (W : World) (base gl : Nat) (P : LP) : Prop := @LocksAt Obs.none W base gl P
theorem LA.below {W W' : World} {base gl : Nat} {P : LP} (h : LA W base gl P) (hb : Below W.heap.size W W') : LA W' base gl P := @LocksAt.below Obs.none W W' base gl P h hb
theorem off_below {W W' : World} (hb : Below W.heap.size W W') : Off W W' := Kept.of_below hb _
theorem Off.trans {W W' W2 : World} (h : Off W W') (h2 : Off W' W2) : Off W W2 := ⟨Nat.le_trans h.1 h2.1, fun i hi hn => by
  have h3 := h.2 i hi hn
  refine (h2.2 i (Nat.lt_of_lt_of_le hi h.1) (fun hx => hx ?_)).trans h3
  obtain ⟨o, h4, h5⟩ := Classical.not_not.1 hn
  exact ⟨o, h3.trans h4, h5⟩⟩
theorem R_off {α : Type} {d : Kd α} {e : Nat} {W W' : World} {base : Nat} {ok : Nat → Prop} {v : Value} {xs : List α} (hE : d.E = []) (h1 : e ≠ 60) (h2 : e ≠ 63) (h : Kd.R d e W base ok v xs) (ho : Off W W') : Kd.R d e W' base ok v xs :=
  Kd.R_mono (Kd.R_kept (Kd.R_tight2 hE h) ho (fun k hk hn => hn (by
    obtain ⟨c, hc⟩ := Kd.R_typed h k hk.1.symm
    exact ⟨_, hc, _, _, _, rfl, h1, h2⟩))) (fun _ h => h.2)
theorem ints_off {W W' : World} {base : Nat} {ok : Nat → Prop} {v : Value} {xs : List Int} (h : Kd.R (Kd.int .i64) 3 W base ok v xs) (ho : Off W W') : Kd.R (Kd.int .i64) 3 W' base ok v xs := R_off rfl (by decide) (by decide) h ho
theorem Ask_off (gl : Nat) (who : Int) (key : ByteArray) (wr : Bool) (P : LP) (w0 w : World) (hL : LA w w0.heap.size gl P) (hB : Below w0.heap.size w0 w) (hs : SmallP P) :
    Calls Try.prog 13 #[.pointer (some ⟨gl, 0, none⟩), .int .i64 who, .string key, .bool wr] w fun e w' => e = .returned (.tuple #[.bool (askP who key wr P).2.1, .int .i64 (askP who key wr P).2.2]) ∧ LA w' w0.heap.size gl (askP who key wr P).1 ∧ Below w0.heap.size w0 w' ∧ Off w w' := by
  refine (@Ask_calls (obsAll w) gl who key wr P w0 w (hL.observe (seen_all w)) hB hs).mono ?_
  rintro e w' ⟨h1, h2, h3⟩
  exact ⟨h1, h2.observe (seen_none _), h3, off_of h2.seen⟩
theorem Free_off (gl : Nat) (who : Int) (key : ByteArray) (P : LP) (w0 w : World) (hL : LA w w0.heap.size gl P) (hB : Below w0.heap.size w0 w) (hs : SmallP P) :
    Calls Try.prog 12 #[.pointer (some ⟨gl, 0, none⟩), .int .i64 who, .string key] w fun e w' => ∃ v, e = .returned (.tuple #[v, .int .i64 (freeP who key P).2.2]) ∧ Kd.R (Kd.int .i64) 3 w' w0.heap.size (fun k => w.heap.size ≤ k) v (freeP who key P).2.1 ∧ LA w' w0.heap.size gl (freeP who key P).1 ∧ Below w0.heap.size w0 w' ∧ Off w w' := by
  refine (@Free_calls (obsAll w) gl who key P w0 w (hL.observe (seen_all w)) hB hs).mono ?_
  rintro e w' ⟨v, h1, h4, h2, h3⟩
  exact ⟨v, h1, h4, h2.observe (seen_none _), h3, off_of h2.seen⟩
theorem Waits_la (gl : Nat) (key : ByteArray) (P : LP) (base : Nat) (w : World) (hL : LA w base gl P) (hs : SmallP P) : Calls Try.prog 11 #[.pointer (some ⟨gl, 0, none⟩), .string key] w fun e w' => ∃ v, e = .returned v ∧ Kd.R (Kd.int .i64) 3 w' w.heap.size (fun _ => True) v (waitsP key P) ∧ Below w.heap.size w w' := @Waits_calls Obs.none gl key P base w hL hs
theorem Holds_la (gl : Nat) (key : ByteArray) (P : LP) (base : Nat) (w : World) (hL : LA w base gl P) (hs : SmallP P) : Calls Try.prog 17 #[.pointer (some ⟨gl, 0, none⟩), .string key] w fun e w' => ∃ v, e = .returned (.tuple #[v, .bool (holdsP key P).2]) ∧ Kd.R (Kd.int .i64) 3 w' w.heap.size (fun _ => True) v (holdsP key P).1 ∧ Below w.heap.size w w' := @Holds_calls Obs.none gl key P base w hL hs
def kA : ByteArray := ⟨#[97]⟩
def pA0 : LP := [(kA, [⟨0, false⟩], [])]
def pA1 : LP := [(kA, [⟨0, false⟩, ⟨1, false⟩], [])]
def pA2 : LP := [(kA, [⟨0, false⟩, ⟨1, false⟩], [⟨2, true⟩])]
def pA3 : LP := [(kA, [⟨0, false⟩, ⟨1, false⟩], [⟨2, true⟩, ⟨3, false⟩])]
def pA4 : LP := [(kA, [⟨1, false⟩], [⟨2, true⟩, ⟨3, false⟩])]
def pA5 : LP := [(kA, [⟨2, true⟩], [⟨3, false⟩])]
def pA6 : LP := [(kA, [⟨3, false⟩], [])]
theorem pA_ask0 : askP 0 kA false [] = (pA0, true, 0) := by rfl
theorem pA_ask1 : askP 1 kA false pA0 = (pA1, true, 0) := by rfl
theorem pA_ask2 : askP 2 kA true pA1 = (pA2, false, 0) := by rfl
theorem pA_ask3 : askP 3 kA false pA2 = (pA3, false, 0) := by rfl
theorem pA_waits : waitsP kA pA3 = [2, 3] := by rfl
theorem pA_free4 : freeP 0 kA pA3 = (pA4, [], 0) := by rfl
theorem pA_free5 : freeP 1 kA pA4 = (pA5, [2], 0) := by rfl
theorem pA_free6 : freeP 2 kA pA5 = (pA6, [3], 0) := by rfl
theorem small_nil : SmallP [] := fun _ h => by cases h
theorem small_one {k : ByteArray} {h w : List S63} (h1 : h.length ≤ 100000) (h2 : w.length ≤ 100000) : SmallP [(k, h, w)] := fun p hp => by
  rw [List.mem_singleton] at hp
  subst hp
  exact ⟨h1, h2⟩

section
attribute [local go_sem] Oper.semAt_some
set_option maxHeartbeats 8000000 in
set_option maxRecDepth 100000 in
theorem lives_calls (w : World) : Calls Try.prog 10 #[] w fun e w' => e = .returned (.bool true) ∧ Below w.heap.size w w' := by
  have HB := Aside0.mk (Below.refl w.heap.size w)
  go_enter Try.func10, Try.ntmps10
  go_wp2_with (first
        | (go_at_call 8; refine (New_calls w _ HB.out).mono ?_; obtain ⟨gl, hgl⟩ : ∃ gl, w.heap.size + 1 = gl := ⟨_, rfl⟩; rw [hgl]; rintro e_ w1 ⟨rfl, hL', hB'⟩; have n0 := Aside0.mk hB'; have HL := Aside0.mk hL'; clear HB hB' hL'; have HB := n0; clear n0 hgl)
        | (go_at_call 13; have hc := Ask_off gl 0 kA false [] w _ HL.out HB.out small_nil; rw [pA_ask0] at hc; refine hc.mono ?_; clear hc; rintro e_ w2 ⟨rfl, hL', hB', ho⟩; have n0 := Aside0.mk (hB'); have n1 := Aside0.mk (hL'); clear HB HL; have HB := n0; have HL := n1; clear n0 n1; clear hB' hL' ho)
        | (go_at_call 13; have hc := Ask_off gl 1 kA false pA0 w _ HL.out HB.out (small_one (by decide) (by decide)); rw [pA_ask1] at hc; refine hc.mono ?_; clear hc; rintro e_ w3 ⟨rfl, hL', hB', ho⟩; have n0 := Aside0.mk (hB'); have n1 := Aside0.mk (hL'); clear HB HL; have HB := n0; have HL := n1; clear n0 n1; clear hB' hL' ho)
        | (go_at_call 13; have hc := Ask_off gl 2 kA true pA1 w _ HL.out HB.out (small_one (by decide) (by decide)); rw [pA_ask2] at hc; refine hc.mono ?_; clear hc; rintro e_ w4 ⟨rfl, hL', hB', ho⟩; have n0 := Aside0.mk (hB'); have n1 := Aside0.mk (hL'); clear HB HL; have HB := n0; have HL := n1; clear n0 n1; clear hB' hL' ho)
        | (go_at_call 13; have hc := Ask_off gl 3 kA false pA2 w _ HL.out HB.out (small_one (by decide) (by decide)); rw [pA_ask3] at hc; refine hc.mono ?_; clear hc; rintro e_ w5 ⟨rfl, hL', hB', ho⟩; have n0 := Aside0.mk (hB'); have n1 := Aside0.mk (hL'); clear HB HL; have HB := n0; have HL := n1; clear n0 n1; clear hB' hL' ho)
        | (go_at_call 11; have hc := Waits_la gl kA pA3 _ _ HL.out (small_one (by decide) (by decide)); rw [pA_waits] at hc; refine hc.mono ?_; clear hc; rintro e_ w6 ⟨v_, rfl, ho_, hb⟩; obtain ⟨AW, cAW, ev_⟩ := Kd.R_slice ho_; subst ev_; have hB' := below_then HB.out HB.out.size hb; have hL' := HL.out.below hb; have ho := off_below hb; clear hb; have n0 := Aside0.mk (hB'); have n1 := Aside0.mk (hL'); have n2 := Aside0.mk (ho_); clear HB HL; have HB := n0; have HL := n1; have RW := n2; clear n0 n1 n2; clear hB' hL' ho; clear ho_)
        | (go_at_call 12; have hc := Free_off gl 0 kA pA3 w _ HL.out HB.out (small_one (by decide) (by decide)); rw [pA_free4] at hc; refine hc.mono ?_; clear hc; rintro e_ w7 ⟨v_, rfl, ho_, hL', hB', ho⟩; obtain ⟨AX, cAX, ev_⟩ := Kd.R_slice ho_; subst ev_; have n0 := Aside0.mk (hB'); have n1 := Aside0.mk (hL'); have n2 := Aside0.mk (ints_off RW.out ho); have n3 := Aside0.mk (ho_); clear HB HL RW; have HB := n0; have HL := n1; have RW := n2; have RX := n3; clear n0 n1 n2 n3; clear hB' hL' ho; clear ho_)
        | (go_at_call 12; have hc := Free_off gl 1 kA pA4 w _ HL.out HB.out (small_one (by decide) (by decide)); rw [pA_free5] at hc; refine hc.mono ?_; clear hc; rintro e_ w8 ⟨v_, rfl, ho_, hL', hB', ho⟩; obtain ⟨AY, cAY, ev_⟩ := Kd.R_slice ho_; subst ev_; have n0 := Aside0.mk (hB'); have n1 := Aside0.mk (hL'); have n2 := Aside0.mk (ints_off RW.out ho); have n3 := Aside0.mk (ints_off RX.out ho); have n4 := Aside0.mk (ho_); clear HB HL RW RX; have HB := n0; have HL := n1; have RW := n2; have RX := n3; have RY := n4; clear n0 n1 n2 n3 n4; clear hB' hL' ho; clear ho_)
        | (go_at_call 12; have hc := Free_off gl 2 kA pA5 w _ HL.out HB.out (small_one (by decide) (by decide)); rw [pA_free6] at hc; refine hc.mono ?_; clear hc; rintro e_ w9 ⟨v_, rfl, ho_, hL', hB', ho⟩; obtain ⟨AZ, cAZ, ev_⟩ := Kd.R_slice ho_; subst ev_; have n0 := Aside0.mk (hB'); have n1 := Aside0.mk (hL'); have n2 := Aside0.mk (ints_off RW.out ho); have n3 := Aside0.mk (ints_off RX.out ho); have n4 := Aside0.mk (ints_off RY.out ho); have n5 := Aside0.mk (ho_); clear HB HL RW RX RY; have HB := n0; have HL := n1; have RW := n2; have RX := n3; have RY := n4; have RZ := n5; clear n0 n1 n2 n3 n4 n5; clear hB' hL' ho; clear ho_)
        | ((with_reducible refine gate_dst (N := 87) rfl ?_); (try (refine gate_guard (by rfl) ?_; dsimp only)); refine Kd.R_lit (Kd.int .i64) _ 3 ?hg (N := 87) ?hd (xs := ([2, 3] : List Int)) (inner := [.int .i64 2, .int .i64 3]) (ok := fun _ => True) (okp := fun _ => True) ?hr ?hp (fun _ hk => hk) trivial (Below.refl _ _) (Nat.le_refl _) (by simp) ?_; (case hd => rfl); (case hg => rfl); (case hr => first | (go_simp; done) | (go_simp; rfl)); (case hp => exact (Reps.one (show Kd.M (Kd.int .i64) _ _ _ 2 [.int .i64 2] from rfl) (Reps.one (show Kd.M (Kd.int .i64) _ _ _ 3 [.int .i64 3] from rfl) (Reps.none _ _)))); intro v1 w1 ho1 hb hg_ hnew_; obtain ⟨A1, c1, ev1⟩ := Kd.R_slice ho1; subst ev1; have hB' := below_then HB.out HB.out.size hb; have hL' := HL.out.below hb; have ho := off_below hb; clear hb; have n0 := Aside0.mk (hB'); have n1 := Aside0.mk (hL'); have n2 := Aside0.mk (ints_off RW.out ho); have n3 := Aside0.mk (ints_off RX.out ho); have n4 := Aside0.mk (ints_off RY.out ho); have n5 := Aside0.mk (ints_off RZ.out ho); have n6 := Aside0.mk (ho1); clear HB HL RW RX RY RZ; have HB := n0; have HL := n1; have RW := n2; have RX := n3; have RY := n4; have RZ := n5; have LR := n6; clear n0 n1 n2 n3 n4 n5 n6; clear hB' hL' ho; clear hg_ hnew_ ho1)
        | (go_at_call 15; refine (valiseref04_Same.calls 200 AW cAW [2, 3] A1 c1 [2, 3] true _ (Kd.R_reads' RW.out).2.2 (Kd.R_reads' RW.out).2.1 (Kd.R_reads' LR.out).2.2 (Kd.R_reads' LR.out).2.1 (by decide +kernel)).mono ?_; rintro e_ ws ⟨rfl, hd⟩; have hb := hd.below; clear hd; have hB' := below_then HB.out HB.out.size hb; have hL' := HL.out.below hb; have ho := off_below hb; clear hb; have n0 := Aside0.mk (hB'); have n1 := Aside0.mk (hL'); have n2 := Aside0.mk (ints_off RW.out ho); have n3 := Aside0.mk (ints_off RX.out ho); have n4 := Aside0.mk (ints_off RY.out ho); have n5 := Aside0.mk (ints_off RZ.out ho); have n6 := Aside0.mk (ints_off LR.out ho); clear HB HL RW RX RY RZ LR; have HB := n0; have HL := n1; have RW := n2; have RX := n3; have RY := n4; have RZ := n5; have LR := n6; clear n0 n1 n2 n3 n4 n5 n6; clear hB' hL' ho; clear LR)
        | ((with_reducible refine gate_dst (N := 97) rfl ?_); (try (refine gate_guard (by rfl) ?_; dsimp only)); refine Kd.R_lit (Kd.int .i64) _ 3 ?hg (N := 97) ?hd (xs := ([2] : List Int)) (inner := [.int .i64 2]) (ok := fun _ => True) (okp := fun _ => True) ?hr ?hp (fun _ hk => hk) trivial (Below.refl _ _) (Nat.le_refl _) (by simp) ?_; (case hd => rfl); (case hg => rfl); (case hr => first | (go_simp; done) | (go_simp; rfl)); (case hp => exact (Reps.one (show Kd.M (Kd.int .i64) _ _ _ 2 [.int .i64 2] from rfl) (Reps.none _ _))); intro v2 w2 ho2 hb hg_ hnew_; obtain ⟨A2, c2, ev2⟩ := Kd.R_slice ho2; subst ev2; have hB' := below_then HB.out HB.out.size hb; have hL' := HL.out.below hb; have ho := off_below hb; clear hb; have n0 := Aside0.mk (hB'); have n1 := Aside0.mk (hL'); have n2 := Aside0.mk (ints_off RW.out ho); have n3 := Aside0.mk (ints_off RX.out ho); have n4 := Aside0.mk (ints_off RY.out ho); have n5 := Aside0.mk (ints_off RZ.out ho); have n6 := Aside0.mk (ho2); clear HB HL RW RX RY RZ; have HB := n0; have HL := n1; have RW := n2; have RX := n3; have RY := n4; have RZ := n5; have LR := n6; clear n0 n1 n2 n3 n4 n5 n6; clear hB' hL' ho; clear hg_ hnew_ ho2)
        | (go_at_call 15; refine (valiseref04_Same.calls 200 AY cAY [2] A2 c2 [2] true _ (Kd.R_reads' RY.out).2.2 (Kd.R_reads' RY.out).2.1 (Kd.R_reads' LR.out).2.2 (Kd.R_reads' LR.out).2.1 (by decide +kernel)).mono ?_; rintro e_ ws ⟨rfl, hd⟩; have hb := hd.below; clear hd; have hB' := below_then HB.out HB.out.size hb; have hL' := HL.out.below hb; have ho := off_below hb; clear hb; have n0 := Aside0.mk (hB'); have n1 := Aside0.mk (hL'); have n2 := Aside0.mk (ints_off RW.out ho); have n3 := Aside0.mk (ints_off RX.out ho); have n4 := Aside0.mk (ints_off RY.out ho); have n5 := Aside0.mk (ints_off RZ.out ho); have n6 := Aside0.mk (ints_off LR.out ho); clear HB HL RW RX RY RZ LR; have HB := n0; have HL := n1; have RW := n2; have RX := n3; have RY := n4; have RZ := n5; have LR := n6; clear n0 n1 n2 n3 n4 n5 n6; clear hB' hL' ho; clear LR)
        | ((with_reducible refine gate_dst (N := 102) rfl ?_); (try (refine gate_guard (by rfl) ?_; dsimp only)); refine Kd.R_lit (Kd.int .i64) _ 3 ?hg (N := 102) ?hd (xs := ([3] : List Int)) (inner := [.int .i64 3]) (ok := fun _ => True) (okp := fun _ => True) ?hr ?hp (fun _ hk => hk) trivial (Below.refl _ _) (Nat.le_refl _) (by simp) ?_; (case hd => rfl); (case hg => rfl); (case hr => first | (go_simp; done) | (go_simp; rfl)); (case hp => exact (Reps.one (show Kd.M (Kd.int .i64) _ _ _ 3 [.int .i64 3] from rfl) (Reps.none _ _))); intro v3 w3 ho3 hb hg_ hnew_; obtain ⟨A3, c3, ev3⟩ := Kd.R_slice ho3; subst ev3; have hB' := below_then HB.out HB.out.size hb; have hL' := HL.out.below hb; have ho := off_below hb; clear hb; have n0 := Aside0.mk (hB'); have n1 := Aside0.mk (hL'); have n2 := Aside0.mk (ints_off RW.out ho); have n3 := Aside0.mk (ints_off RX.out ho); have n4 := Aside0.mk (ints_off RY.out ho); have n5 := Aside0.mk (ints_off RZ.out ho); have n6 := Aside0.mk (ho3); clear HB HL RW RX RY RZ; have HB := n0; have HL := n1; have RW := n2; have RX := n3; have RY := n4; have RZ := n5; have LR := n6; clear n0 n1 n2 n3 n4 n5 n6; clear hB' hL' ho; clear hg_ hnew_ ho3)
        | (go_at_call 15; refine (valiseref04_Same.calls 200 AZ cAZ [3] A3 c3 [3] true _ (Kd.R_reads' RZ.out).2.2 (Kd.R_reads' RZ.out).2.1 (Kd.R_reads' LR.out).2.2 (Kd.R_reads' LR.out).2.1 (by decide +kernel)).mono ?_; rintro e_ ws ⟨rfl, hd⟩; have hb := hd.below; clear hd; have hB' := below_then HB.out HB.out.size hb; have hL' := HL.out.below hb; have ho := off_below hb; clear hb; have n0 := Aside0.mk (hB'); have n1 := Aside0.mk (hL'); have n2 := Aside0.mk (ints_off RW.out ho); have n3 := Aside0.mk (ints_off RX.out ho); have n4 := Aside0.mk (ints_off RY.out ho); have n5 := Aside0.mk (ints_off RZ.out ho); have n6 := Aside0.mk (ints_off LR.out ho); clear HB HL RW RX RY RZ LR; have HB := n0; have HL := n1; have RW := n2; have RX := n3; have RY := n4; have RZ := n5; have LR := n6; clear n0 n1 n2 n3 n4 n5 n6; clear hB' hL' ho; clear LR)
        )
  go_ret
  exact ⟨rfl, HB.out⟩
end
end Go.Proofs.Ytdhabfjfpbdjfaa.Pr
