-- Texts by hand and by programs of this session, joined (wip/tool/merge.py).
import Derived.Shelf.Abstract
import Derived.Shelf.RegionOpen
import Derived.OwnWalkIn
import Derived.TacticsInMore
import Derived.LoopNIn
import Derived.LoopIn
import Derived.Test.YtgflkkjhckcipaaDoorMIA14
import Derived.Recover
import Derived.Defers
-- YtgflkkjhckcipaaDoorIf18
namespace Go.Proofs.YtgflkkjhckcipaaDoor.Pr
open Go.RowKit Go.Shelf Go.Proofs.YtgflkkjhckcipaaDoorW.PrintWords Go.Proofs.YtgflkkjhckcipaaDoorW.PrintLast Go.Proofs.YtgflkkjhckcipaaDoorW.PrintMore
set_option linter.unusedVariables false
set_option linter.unusedSimpArgs false
theorem read_sym {l z : List Int} (hb : Byt l) (hl : l.length ≤ 1000000) (hz : OKL z) {p : Nat} (hp : p ≤ 8 * l.length) : ∃ r1 r2 r3, readF 40 (Hu.countedS z).1 (Hu.symsS z) l (NN l) (p : Int) = some (r1, r2, r3) ∧ ((r3 = 0 ∧ ∃ q : Nat, r2 = (q : Int) ∧ symM l (some z) p = .ok (r1, q)) ∨ (r3 ≠ 0 ∧ symM l (some z) p = .error r3)) := by
  have hf := readF_eq (k := 40) (Nat.le_refl _) (l := z) (b := l) (n := NN l) ((p : Nat) : Int) hz hb (by omega) (by unfold NN; omega) (by unfold NN; omega)
  unfold readS at hf
  rw [if_pos ⟨okR_whole hb, by omega, by unfold NN; omega⟩, Int.toNat_natCast] at hf
  unfold NN at hf
  rw [Int.toNat_natCast] at hf
  have hs := scan_place z l (8 * l.length) 15 p 0 (by omega) hp
  rw [show symM l (some z) p = (if (scan z l (8 * l.length) 15 p 0).2.2 = 0 then .ok ((scan z l (8 * l.length) 15 p 0).1, (scan z l (8 * l.length) 15 p 0).2.1.toNat) else .error (scan z l (8 * l.length) 15 p 0).2.2) from rfl]
  generalize scan z l (8 * l.length) 15 p 0 = r at *
  obtain ⟨r1, r2, r3⟩ := r
  refine ⟨r1, r2, r3, hf, ?_⟩
  dsimp only at hs ⊢
  by_cases h0 : r3 = 0
  · obtain ⟨q, e2, h4, h5⟩ := hs h0
    exact .inl ⟨h0, q, e2, by rw [if_pos h0, e2, Int.toNat_natCast]⟩
  · exact .inr ⟨h0, by rw [if_neg h0]⟩
theorem read_sym_ok {l z : List Int} (hb : Byt l) (hl : l.length ≤ 1000000) (hz : OKL z) {p q : Nat} {s : Int} (hp : p ≤ 8 * l.length) (h : symM l (some z) p = .ok (s, q)) : readF 40 (Hu.countedS z).1 (Hu.symsS z) l (NN l) (p : Int) = some (s, (q : Int), 0) := by
  obtain ⟨r1, r2, r3, hf, ⟨h0, q2, e, he⟩ | ⟨h0, he⟩⟩ := read_sym hb hl hz hp
  · rw [h] at he
    injection he with he
    injection he with h1 h2
    subst h1 h2 e h0
    exact hf
  · rw [h] at he
    cases he
theorem read_sym_bad {l z : List Int} (hb : Byt l) (hl : l.length ≤ 1000000) (hz : OKL z) {p : Nat} {er : Int} (hp : p ≤ 8 * l.length) (h : symM l (some z) p = .error er) : ∃ r1 r2, readF 40 (Hu.countedS z).1 (Hu.symsS z) l (NN l) (p : Int) = some (r1, r2, er) ∧ er ≠ 0 := by
  obtain ⟨r1, r2, r3, hf, ⟨h0, q2, e, he⟩ | ⟨h0, he⟩⟩ := read_sym hb hl hz hp
  · rw [h] at he
    cases he
  · rw [h] at he
    injection he with h1
    subst h1
    exact ⟨r1, r2, hf, h0⟩
theorem extra_eq (s : Int) : header_extra.f s = some ((extraN s : Nat) : Int) := by
  unfold header_extra.f extraN
  split
  · rfl
  · split
    · rfl
    · split <;> rfl
theorem extraN_le (s : Int) : extraN s ≤ 7 := by
  unfold extraN
  split
  · decide
  · split
    · decide
    · split <;> decide
theorem takeM_ok {out o2 : List Int} {s x : Int} {n : Nat} (h : takeM out s x n = .ok o2) (hl : out.length ≤ n) : o2.length ≤ n ∧ out.length < o2.length := by
  rw [takeM_eq] at h
  split at h
  · cases h
  · split at h
    · cases h
    · next h1 =>
      injection h with h
      subst h
      have : 0 < takeN s x := by unfold takeN; split; omega; split; omega; split <;> omega
      rw [List.length_append, List.length_replicate]
      omega
theorem HRdrAt.onB {w0 w w' : World} {g c b0 : Nat} {A : Option Addr} {l : List Int} {N at_ : Int} (h : HRdrAt w0 w g A c l N at_) (hg : g < b0) (h0 : w0.heap.size ≤ b0) (hb : Below b0 w w') : HRdrAt w0 w' g A c l N at_ :=
  ⟨h.below.trans (hb.mono h0), h.ge, (hb.block g hg).trans h.blk⟩
theorem HMoved.onB {w w1 w2 : World} {g : Nat} (h : HMoved w w1 g) (hb : Below w.heap.size w1 w2) : HMoved w w2 g := ⟨Nat.le_trans h.size hb.size, fun k hk hg => (hb.block k hk).trans (h.keep k hk hg)⟩
theorem TabIn.hmoved {w w' : World} {g gt : Nat} {cl ss : List Int} {cells : Array Value} (h : TabIn w gt cl ss) (hb : w.heap[g]? = some (.cells cells 106 (0, 0))) (hm : HMoved w w' g) : TabIn w' gt cl ss := h.same fun k t cells2 hc ht => by
  refine hm.keep k (blk_lt hc) (fun e => ?_)
  subst e
  rw [hc] at hb
  injection hb with hb
  injection hb with _ hb _
  rcases ht with rfl | rfl <;> exact absurd hb (by decide)
def HToldL (w0 w : World) (g : Nat) (A : Option Addr) (c : Nat) (l : List Int) (n : Nat) (e : Ending) (w' : World) : Except Int (List Int × Nat) → Prop
  | .ok (all, p') => ∃ v', e = .returned v' ∧ (Kd.int .i64).R 3 w' w.heap.size (fun _ => True) v' all ∧ all.length = n ∧ p' ≤ 8 * l.length ∧ HRdrAt w0 w' g A c l (NN l) ((p' : Nat) : Int) ∧ HMoved w w' g
  | .error er => HGives w0.heap.size w w' er e
section
attribute [local go_sem] Oper.semAt_some
set_option maxHeartbeats 16000000 in
set_option maxRecDepth 1000000 in
theorem lengths_told {w0 : World} {A : Option Addr} {c : Nat} {l : List Int} (hr : RowOk w0 A c l) (w : World) (g p n : Nat) (m : Int) (hm : m = (n : Int)) (hn : n ≤ 1000) (H : HRdrAt w0 w g A c l (NN l) (p : Int)) (hp : p ≤ 8 * l.length) (gt : Nat) (z : List Int) (hz : OKL z) (hT : TabIn w gt (Hu.countedS z).1 (Hu.symsS z)) (k : Nat) (hk : 8 * l.length - p < k) :
    Calls Tryd.prog 49 #[.pointer (some ⟨g, 0, none⟩), .pointer (some ⟨gt, 0, none⟩), .int .i64 m] w fun e w' => HToldL w0 w g A c l n e w' (lengthsM l z n k p []) := by
  subst hm
  have HR := Aside0.mk hr
  have HX := Aside0.mk H
  have AT := Aside0.mk H
  have MV := Aside0.mk (HMoved.of_below g (Below.refl w.heap.size w))
  have HP := Aside0.mk hp
  have HN := Aside0.mk hn
  have HT := Aside0.mk hT
  have HZ := Aside0.mk hz
  have HK := Aside0.mk hk
  have huR := Tryd.underlying106
  have huB := Tryd.underlying35
  have HO := Aside0.mk (show (Kd.int .i64).R 3 w w.heap.size (fun _ => True) (.slice none 0 0) [] from Kd.R_nil _ _ _ _ _)
  obtain ⟨R, hR⟩ : ∃ R, lengthsM l z n k p [] = R := ⟨_, rfl⟩
  rw [hR]
  have HRR := Aside0.mk hR
  clear hr H hp hn hT hz hk hR
  go_enter Tryd.func49, Tryd.ntmps49
  go_wp2
  go_loopg [7] k (fun kq v7 w' => ∃ (p' : Nat) (out : List Int), Aside0 (HRdrAt w0 w' g A c l (NN l) (p' : Int)) ∧ Aside0 (HMoved w w' g) ∧ Aside0 ((Kd.int .i64).R 3 w' w.heap.size (fun _ => True) v7 out) ∧ Aside0 (p' ≤ 8 * l.length) ∧ Aside0 (out.length ≤ n) ∧ Aside0 (lengthsM l z n kq p' out = R) ∧ Aside0 (8 * l.length - p' < kq))
  case atStart => exact ⟨p, [], AT, MV, HO, HP, ⟨Nat.zero_le _⟩, HRR, HK⟩
  case round =>
    clear AT MV HO HP HRR HK
    obtain ⟨p1, out, AT, MV, HO, HP, HOL, HRR, HK⟩ := hrel
    have hRR := HRR.out
    clear HRR
    obtain ⟨A1, c1, ev1⟩ := Kd.R_slice HO.out
    cases gk with
    | zero => exact absurd HK.out (by omega)
    | succ k1 =>
      unfold lengthsM at hRR
      by_cases hlt : out.length < n
      · rw [if_pos hlt] at hRR
        have q0 := eq_true (show (out.length : Int) < (n : Int) by omega)
        have q0b := eq_true hlt
        obtain ⟨v1, hv1⟩ : ∃ v1, v1 = Value.slice A1 out.length c1 := ⟨_, rfl⟩
        subst ev1
        cases hsm : symM l (some z) p1 with
        | error er =>
          rw [hsm] at hRR
          have HRR := Aside0.mk hRR.symm
          obtain ⟨r1, r2, hf, he0⟩ := read_sym_bad HR.out.byt HR.out.len HZ.out HP.out hsm
          have HF := Aside0.mk hf
          have HE0 := Aside0.mk he0
          clear hRR hsm hf he0 hlt
          go_upto_region 3 with (fail)
          have hb := below_drew (Below.refl wr.heap.size wr)
          have n0 := Aside0.mk (AT.out.on hb)
          have n1 := Aside0.mk (MV.out.onB (hb.mono MV.out.size))
          have n2 := Aside0.mk (Kd.R_below HO.out hb)
          clear AT MV HO
          have AT := n0
          have MV := n1
          have HO := n2
          clear n0 n1 n2
          clear hb
          refine start_ (n := 17) (S := fun w' => w'.cell? ⟨g, 0, none⟩ = some (.slice A l.length c) ∧ w'.cell? ⟨g, 1, none⟩ = some (.int .i64 (NN l)) ∧ w'.cell? ⟨g, 2, none⟩ = some (.int .i64 (p1 : Int))) (ds := []) #[false, false, false, false, false, false, false, false, false, false, false, false, false, false, false, false, false] (by kernel_rfl) rfl rfl ⟨(blk_cell AT.out.blk 0).trans rfl, (blk_cell AT.out.blk 1).trans rfl, (blk_cell AT.out.blk 2).trans rfl⟩ (fun hHeld => ?_)
          generalize wr.drew = wd at AT MV HO hHeld ⊢
          refine pure_ (i := 0) (N := some 16) (v := ?_) (a' := ?_) #[true, false, false, false, false, false, false, false, false, false, false, false, false, false, false, false, false] rfl rfl (by kernel_rfl) (fun _ _ _ h => h) (Or.inl ⟨by rfl, ?_⟩) ?_ ?_
          rotate_left
          · intro w'
            go_simp
            with_reducible rfl
          rotate_left
          · simp only [Act.put, List.setIfInBounds_toArray, List.set_cons_zero, List.set_cons_succ, i64_w, i32_w, u8_w]
            rfl
          refine pure_ (i := 1) (N := some 17) (v := ?_) (a' := ?_) #[true, true, false, false, false, false, false, false, false, false, false, false, false, false, false, false, false] rfl rfl (by kernel_rfl) (fun _ _ _ h => h) (Or.inl ⟨by rfl, ?_⟩) ?_ ?_
          rotate_left
          · intro w'
            go_simp
            with_reducible rfl
          rotate_left
          · simp only [Act.put, List.setIfInBounds_toArray, List.set_cons_zero, List.set_cons_succ, i64_w, i32_w, u8_w]
            rfl
          refine pure_ (i := 2) (N := some 18) (v := ?_) (a' := ?_) #[true, true, true, false, false, false, false, false, false, false, false, false, false, false, false, false, false] rfl rfl (by kernel_rfl) (fun _ _ _ h => h) (Or.inl ⟨by rfl, ?_⟩) ?_ ?_
          rotate_left
          · intro w'
            go_simp
            with_reducible rfl
          rotate_left
          · simp only [Act.put, List.setIfInBounds_toArray, List.set_cons_zero, List.set_cons_succ, i64_w, i32_w, u8_w]
            rfl
          refine pure_ (i := 3) (N := some 19) (v := ?_) (a' := ?_) #[true, true, true, true, false, false, false, false, false, false, false, false, false, false, false, false, false] rfl rfl (by kernel_rfl) (fun _ _ _ h => h) (Or.inl ⟨by rfl, ?_⟩) ?_ ?_
          rotate_left
          · intro w'
            go_simp
            with_reducible rfl
          rotate_left
          · simp only [Act.put, List.setIfInBounds_toArray, List.set_cons_zero, List.set_cons_succ, i64_w, i32_w, u8_w]
            rfl
          refine pure_ (i := 5) (N := some 21) (v := ?_) (a' := ?_) #[true, true, true, true, false, true, false, false, false, false, false, false, false, false, false, false, false] rfl rfl (by kernel_rfl) (fun _ _ _ h => h) (Or.inl ⟨by rfl, ?_⟩) ?_ ?_
          rotate_left
          · intro w'
            go_simp
            with_reducible rfl
          rotate_left
          · simp only [Act.put, List.setIfInBounds_toArray, List.set_cons_zero, List.set_cons_succ, i64_w, i32_w, u8_w]
            rfl
          refine pure_ (i := 6) (N := some 22) (v := ?_) (a' := ?_) #[true, true, true, true, false, true, true, false, false, false, false, false, false, false, false, false, false] rfl rfl (by kernel_rfl) (fun _ _ _ h => h) (Or.inl ⟨by rfl, ?_⟩) ?_ ?_
          rotate_left
          · intro w'
            go_simp
            with_reducible rfl
          rotate_left
          · simp only [Act.put, List.setIfInBounds_toArray, List.set_cons_zero, List.set_cons_succ, i64_w, i32_w, u8_w]
            rfl
          refine pure_ (i := 7) (N := some 23) (v := ?_) (a' := ?_) #[true, true, true, true, false, true, true, true, false, false, false, false, false, false, false, false, false] rfl rfl (by kernel_rfl) (fun _ _ _ h => h) (Or.inl ⟨by rfl, ?_⟩) ?_ ?_
          rotate_left
          · intro w'
            go_simp
            with_reducible rfl
          rotate_left
          · simp only [Act.put, List.setIfInBounds_toArray, List.set_cons_zero, List.set_cons_succ, i64_w, i32_w, u8_w]
            rfl
          refine take_ (i := 4) (N := some 20) (v := ?_) (a' := ?_) #[true, true, true, true, true, true, true, true, false, false, false, false, false, false, false, false, false] rfl rfl (by kernel_rfl) (fun _ _ _ h => h) (Or.inl ⟨by rfl, ?_⟩) hHeld ?_ ?_
          rotate_left
          · rintro w' ⟨s0, s1, s2⟩
            go_simp
            with_reducible rfl
          rotate_left
          · simp only [Act.put, List.setIfInBounds_toArray, List.set_cons_zero, List.set_cons_succ, i64_w, i32_w, u8_w]
            rfl
          refine take_ (i := 8) (N := some 24) (v := ?_) (a' := ?_) #[true, true, true, true, true, true, true, true, true, false, false, false, false, false, false, false, false] rfl rfl (by kernel_rfl) (fun _ _ _ h => h) (Or.inl ⟨by rfl, ?_⟩) hHeld ?_ ?_
          rotate_left
          · rintro w' ⟨s0, s1, s2⟩
            go_simp
            with_reducible rfl
          rotate_left
          · simp only [Act.put, List.setIfInBounds_toArray, List.set_cons_zero, List.set_cons_succ, i64_w, i32_w, u8_w]
            rfl
          refine one_ (i := 9) (N := some 25) #[true, true, true, true, true, true, true, true, true, true, false, false, false, false, false, false, false] rfl rfl (by kernel_rfl) (by decide) (fun K hK => ?_)
          refine goes_ Tryd.func50 (by kernel_rfl) rfl #[.pointer (some ⟨gt, 0, none⟩), .agg #[.slice A l.length c, .int .i64 (NN l)], .int .i64 (p1 : Int)] (by rfl) rfl rfl (by simp only [List.map_toArray, List.map_cons, List.map_nil]; rfl) ?_
          with_reducible refine (table_Read.calls 40 gt A c l (NN l) (p1 : Int) _ _ r1 r2 er _ (Kd.C_below HR.out.C AT.out.below) HR.out.cap (HT.out.hmoved HX.out.blk MV.out).at_ HF.out).mono ?_
          rintro e w5 ⟨rfl, hb⟩
          refine ⟨_, rfl, ?_⟩
          have n0 := Aside0.mk (AT.out.on hb)
          have n1 := Aside0.mk (MV.out.onB (hb.mono MV.out.size))
          have n2 := Aside0.mk (Kd.R_below HO.out hb)
          clear AT MV HO
          have AT := n0
          have MV := n1
          have HO := n2
          clear n0 n1 n2
          clear hb
          refine hK.out _ _ ⟨(blk_cell AT.out.blk 0).trans rfl, (blk_cell AT.out.blk 1).trans rfl, (blk_cell AT.out.blk 2).trans rfl⟩ (fun hHeld => ?_)
          clear hK K
          refine norm_ (a' := ?_) ?_ ?_
          rotate_left
          · show Act.put _ (some 25) _ = _
            simp only [Act.put, List.setIfInBounds_toArray, List.set_cons_zero, List.set_cons_succ, i64_w, i32_w, u8_w]
            rfl
          refine pure_ (i := 10) (N := some 15) (v := ?_) (a' := ?_) #[true, true, true, true, true, true, true, true, true, true, true, false, false, false, false, false, false] rfl rfl (by kernel_rfl) (fun _ _ _ h => h) (Or.inl ⟨by rfl, ?_⟩) ?_ ?_
          rotate_left
          · intro w'
            go_simp
            with_reducible rfl
          rotate_left
          · simp only [Act.put, List.setIfInBounds_toArray, List.set_cons_zero, List.set_cons_succ, i64_w, i32_w, u8_w]
            rfl
          refine pure_ (i := 11) (N := some 26) (v := ?_) (a' := ?_) #[true, true, true, true, true, true, true, true, true, true, true, true, false, false, false, false, false] rfl rfl (by kernel_rfl) (fun _ _ _ h => h) (Or.inl ⟨by rfl, ?_⟩) ?_ ?_
          rotate_left
          · intro w'
            go_simp
            with_reducible rfl
          rotate_left
          · simp only [Act.put, List.setIfInBounds_toArray, List.set_cons_zero, List.set_cons_succ, i64_w, i32_w, u8_w]
            rfl
          refine pure_ (i := 12) (N := some 27) (v := ?_) (a' := ?_) #[true, true, true, true, true, true, true, true, true, true, true, true, true, false, false, false, false] rfl rfl (by kernel_rfl) (fun _ _ _ h => h) (Or.inl ⟨by rfl, ?_⟩) ?_ ?_
          rotate_left
          · intro w'
            go_simp
            with_reducible rfl
          rotate_left
          · simp only [Act.put, List.setIfInBounds_toArray, List.set_cons_zero, List.set_cons_succ, i64_w, i32_w, u8_w]
            rfl
          refine pure_ (i := 13) (N := some 28) (v := ?_) (a' := ?_) #[true, true, true, true, true, true, true, true, true, true, true, true, true, true, false, false, false] rfl rfl (by kernel_rfl) (fun _ _ _ h => h) (Or.inl ⟨by rfl, ?_⟩) ?_ ?_
          rotate_left
          · intro w'
            go_simp
            with_reducible rfl
          rotate_left
          · simp only [Act.put, List.setIfInBounds_toArray, List.set_cons_zero, List.set_cons_succ, i64_w, i32_w, u8_w]
            rfl
          refine pure_ (i := 14) (N := some 8) (v := ?_) (a' := ?_) #[true, true, true, true, true, true, true, true, true, true, true, true, true, true, true, false, false] rfl rfl (by kernel_rfl) (fun _ _ _ h => h) (Or.inl ⟨by rfl, ?_⟩) ?_ ?_
          rotate_left
          · intro w'
            go_simp
            with_reducible rfl
          rotate_left
          · simp only [Act.put, List.setIfInBounds_toArray, List.set_cons_zero, List.set_cons_succ, i64_w, i32_w, u8_w]
            rfl
          refine pure_ (i := 15) (N := some 9) (v := ?_) (a' := ?_) #[true, true, true, true, true, true, true, true, true, true, true, true, true, true, true, true, false] rfl rfl (by kernel_rfl) (fun _ _ _ h => h) (Or.inl ⟨by rfl, ?_⟩) ?_ ?_
          rotate_left
          · intro w'
            go_simp
            with_reducible rfl
          rotate_left
          · simp only [Act.put, List.setIfInBounds_toArray, List.set_cons_zero, List.set_cons_succ, i64_w, i32_w, u8_w]
            rfl
          refine pure_ (i := 16) (N := some 10) (v := ?_) (a' := ?_) #[true, true, true, true, true, true, true, true, true, true, true, true, true, true, true, true, true] rfl rfl (by kernel_rfl) (fun _ _ _ h => h) (Or.inl ⟨by rfl, ?_⟩) ?_ ?_
          rotate_left
          · intro w'
            go_simp
            with_reducible rfl
          rotate_left
          · simp only [Act.put, List.setIfInBounds_toArray, List.set_cons_zero, List.set_cons_succ, i64_w, i32_w, u8_w]
            rfl
          refine done_ (by kernel_rfl) ?_
          go_wp2_with (go_at_call 47; refine (hmust_else _ er HE0.out _).mono ?_; rintro e w' ⟨rfl, hb⟩)
          exact ⟨rfl, by rw [HRR.out]; exact ⟨rfl, (HX.out.between AT.out MV.out.size).trans (hb.mono AT.out.below.size)⟩⟩
        | ok r1 =>
          obtain ⟨s, p2⟩ := r1
          have hsb := symM_ok HZ.out HP.out hsm
          rw [hsm] at hRR
          dsimp only at hRR
          have HF := Aside0.mk (read_sym_ok HR.out.byt HR.out.len HZ.out HP.out hsm)
          have HSB := Aside0.mk hsb
          have HP2 := Aside0.mk hsb.2.2.2.2
          have HEX := Aside0.mk (extra_eq s)
          clear hsm hsb hlt
          cases hbm : bitsM l p2 (extraN s) with
          | error er =>
            rw [hbm] at hRR
            have HRR := Aside0.mk hRR.symm
            have HBM := Aside0.mk hbm
            clear hRR hbm
            go_upto_region 3 with (fail)
            have hb := below_drew (Below.refl wr.heap.size wr)
            have n0 := Aside0.mk (AT.out.on hb)
            have n1 := Aside0.mk (MV.out.onB (hb.mono MV.out.size))
            have n2 := Aside0.mk (Kd.R_below HO.out hb)
            clear AT MV HO
            have AT := n0
            have MV := n1
            have HO := n2
            clear n0 n1 n2
            clear hb
            refine start_ (n := 17) (S := fun w' => w'.cell? ⟨g, 0, none⟩ = some (.slice A l.length c) ∧ w'.cell? ⟨g, 1, none⟩ = some (.int .i64 (NN l)) ∧ w'.cell? ⟨g, 2, none⟩ = some (.int .i64 (p1 : Int))) (ds := []) #[false, false, false, false, false, false, false, false, false, false, false, false, false, false, false, false, false] (by kernel_rfl) rfl rfl ⟨(blk_cell AT.out.blk 0).trans rfl, (blk_cell AT.out.blk 1).trans rfl, (blk_cell AT.out.blk 2).trans rfl⟩ (fun hHeld => ?_)
            generalize wr.drew = wd at AT MV HO hHeld ⊢
            refine pure_ (i := 0) (N := some 16) (v := ?_) (a' := ?_) #[true, false, false, false, false, false, false, false, false, false, false, false, false, false, false, false, false] rfl rfl (by kernel_rfl) (fun _ _ _ h => h) (Or.inl ⟨by rfl, ?_⟩) ?_ ?_
            rotate_left
            · intro w'
              go_simp
              with_reducible rfl
            rotate_left
            · simp only [Act.put, List.setIfInBounds_toArray, List.set_cons_zero, List.set_cons_succ, i64_w, i32_w, u8_w]
              rfl
            refine pure_ (i := 1) (N := some 17) (v := ?_) (a' := ?_) #[true, true, false, false, false, false, false, false, false, false, false, false, false, false, false, false, false] rfl rfl (by kernel_rfl) (fun _ _ _ h => h) (Or.inl ⟨by rfl, ?_⟩) ?_ ?_
            rotate_left
            · intro w'
              go_simp
              with_reducible rfl
            rotate_left
            · simp only [Act.put, List.setIfInBounds_toArray, List.set_cons_zero, List.set_cons_succ, i64_w, i32_w, u8_w]
              rfl
            refine pure_ (i := 2) (N := some 18) (v := ?_) (a' := ?_) #[true, true, true, false, false, false, false, false, false, false, false, false, false, false, false, false, false] rfl rfl (by kernel_rfl) (fun _ _ _ h => h) (Or.inl ⟨by rfl, ?_⟩) ?_ ?_
            rotate_left
            · intro w'
              go_simp
              with_reducible rfl
            rotate_left
            · simp only [Act.put, List.setIfInBounds_toArray, List.set_cons_zero, List.set_cons_succ, i64_w, i32_w, u8_w]
              rfl
            refine pure_ (i := 3) (N := some 19) (v := ?_) (a' := ?_) #[true, true, true, true, false, false, false, false, false, false, false, false, false, false, false, false, false] rfl rfl (by kernel_rfl) (fun _ _ _ h => h) (Or.inl ⟨by rfl, ?_⟩) ?_ ?_
            rotate_left
            · intro w'
              go_simp
              with_reducible rfl
            rotate_left
            · simp only [Act.put, List.setIfInBounds_toArray, List.set_cons_zero, List.set_cons_succ, i64_w, i32_w, u8_w]
              rfl
            refine pure_ (i := 5) (N := some 21) (v := ?_) (a' := ?_) #[true, true, true, true, false, true, false, false, false, false, false, false, false, false, false, false, false] rfl rfl (by kernel_rfl) (fun _ _ _ h => h) (Or.inl ⟨by rfl, ?_⟩) ?_ ?_
            rotate_left
            · intro w'
              go_simp
              with_reducible rfl
            rotate_left
            · simp only [Act.put, List.setIfInBounds_toArray, List.set_cons_zero, List.set_cons_succ, i64_w, i32_w, u8_w]
              rfl
            refine pure_ (i := 6) (N := some 22) (v := ?_) (a' := ?_) #[true, true, true, true, false, true, true, false, false, false, false, false, false, false, false, false, false] rfl rfl (by kernel_rfl) (fun _ _ _ h => h) (Or.inl ⟨by rfl, ?_⟩) ?_ ?_
            rotate_left
            · intro w'
              go_simp
              with_reducible rfl
            rotate_left
            · simp only [Act.put, List.setIfInBounds_toArray, List.set_cons_zero, List.set_cons_succ, i64_w, i32_w, u8_w]
              rfl
            refine pure_ (i := 7) (N := some 23) (v := ?_) (a' := ?_) #[true, true, true, true, false, true, true, true, false, false, false, false, false, false, false, false, false] rfl rfl (by kernel_rfl) (fun _ _ _ h => h) (Or.inl ⟨by rfl, ?_⟩) ?_ ?_
            rotate_left
            · intro w'
              go_simp
              with_reducible rfl
            rotate_left
            · simp only [Act.put, List.setIfInBounds_toArray, List.set_cons_zero, List.set_cons_succ, i64_w, i32_w, u8_w]
              rfl
            refine take_ (i := 4) (N := some 20) (v := ?_) (a' := ?_) #[true, true, true, true, true, true, true, true, false, false, false, false, false, false, false, false, false] rfl rfl (by kernel_rfl) (fun _ _ _ h => h) (Or.inl ⟨by rfl, ?_⟩) hHeld ?_ ?_
            rotate_left
            · rintro w' ⟨s0, s1, s2⟩
              go_simp
              with_reducible rfl
            rotate_left
            · simp only [Act.put, List.setIfInBounds_toArray, List.set_cons_zero, List.set_cons_succ, i64_w, i32_w, u8_w]
              rfl
            refine take_ (i := 8) (N := some 24) (v := ?_) (a' := ?_) #[true, true, true, true, true, true, true, true, true, false, false, false, false, false, false, false, false] rfl rfl (by kernel_rfl) (fun _ _ _ h => h) (Or.inl ⟨by rfl, ?_⟩) hHeld ?_ ?_
            rotate_left
            · rintro w' ⟨s0, s1, s2⟩
              go_simp
              with_reducible rfl
            rotate_left
            · simp only [Act.put, List.setIfInBounds_toArray, List.set_cons_zero, List.set_cons_succ, i64_w, i32_w, u8_w]
              rfl
            refine one_ (i := 9) (N := some 25) #[true, true, true, true, true, true, true, true, true, true, false, false, false, false, false, false, false] rfl rfl (by kernel_rfl) (by decide) (fun K hK => ?_)
            refine goes_ Tryd.func50 (by kernel_rfl) rfl #[.pointer (some ⟨gt, 0, none⟩), .agg #[.slice A l.length c, .int .i64 (NN l)], .int .i64 (p1 : Int)] (by rfl) rfl rfl (by simp only [List.map_toArray, List.map_cons, List.map_nil]; rfl) ?_
            with_reducible refine (table_Read.calls 40 gt A c l (NN l) (p1 : Int) _ _ s (p2 : Int) 0 _ (Kd.C_below HR.out.C AT.out.below) HR.out.cap (HT.out.hmoved HX.out.blk MV.out).at_ HF.out).mono ?_
            rintro e w5 ⟨rfl, hb⟩
            refine ⟨_, rfl, ?_⟩
            have n0 := Aside0.mk (AT.out.on hb)
            have n1 := Aside0.mk (MV.out.onB (hb.mono MV.out.size))
            have n2 := Aside0.mk (Kd.R_below HO.out hb)
            clear AT MV HO
            have AT := n0
            have MV := n1
            have HO := n2
            clear n0 n1 n2
            clear hb
            refine hK.out _ _ ⟨(blk_cell AT.out.blk 0).trans rfl, (blk_cell AT.out.blk 1).trans rfl, (blk_cell AT.out.blk 2).trans rfl⟩ (fun hHeld => ?_)
            clear hK K
            refine norm_ (a' := ?_) ?_ ?_
            rotate_left
            · show Act.put _ (some 25) _ = _
              simp only [Act.put, List.setIfInBounds_toArray, List.set_cons_zero, List.set_cons_succ, i64_w, i32_w, u8_w]
              rfl
            refine pure_ (i := 10) (N := some 15) (v := ?_) (a' := ?_) #[true, true, true, true, true, true, true, true, true, true, true, false, false, false, false, false, false] rfl rfl (by kernel_rfl) (fun _ _ _ h => h) (Or.inl ⟨by rfl, ?_⟩) ?_ ?_
            rotate_left
            · intro w'
              go_simp
              with_reducible rfl
            rotate_left
            · simp only [Act.put, List.setIfInBounds_toArray, List.set_cons_zero, List.set_cons_succ, i64_w, i32_w, u8_w]
              rfl
            refine pure_ (i := 11) (N := some 26) (v := ?_) (a' := ?_) #[true, true, true, true, true, true, true, true, true, true, true, true, false, false, false, false, false] rfl rfl (by kernel_rfl) (fun _ _ _ h => h) (Or.inl ⟨by rfl, ?_⟩) ?_ ?_
            rotate_left
            · intro w'
              go_simp
              with_reducible rfl
            rotate_left
            · simp only [Act.put, List.setIfInBounds_toArray, List.set_cons_zero, List.set_cons_succ, i64_w, i32_w, u8_w]
              rfl
            refine pure_ (i := 12) (N := some 27) (v := ?_) (a' := ?_) #[true, true, true, true, true, true, true, true, true, true, true, true, true, false, false, false, false] rfl rfl (by kernel_rfl) (fun _ _ _ h => h) (Or.inl ⟨by rfl, ?_⟩) ?_ ?_
            rotate_left
            · intro w'
              go_simp
              with_reducible rfl
            rotate_left
            · simp only [Act.put, List.setIfInBounds_toArray, List.set_cons_zero, List.set_cons_succ, i64_w, i32_w, u8_w]
              rfl
            refine pure_ (i := 13) (N := some 28) (v := ?_) (a' := ?_) #[true, true, true, true, true, true, true, true, true, true, true, true, true, true, false, false, false] rfl rfl (by kernel_rfl) (fun _ _ _ h => h) (Or.inl ⟨by rfl, ?_⟩) ?_ ?_
            rotate_left
            · intro w'
              go_simp
              with_reducible rfl
            rotate_left
            · simp only [Act.put, List.setIfInBounds_toArray, List.set_cons_zero, List.set_cons_succ, i64_w, i32_w, u8_w]
              rfl
            refine pure_ (i := 14) (N := some 8) (v := ?_) (a' := ?_) #[true, true, true, true, true, true, true, true, true, true, true, true, true, true, true, false, false] rfl rfl (by kernel_rfl) (fun _ _ _ h => h) (Or.inl ⟨by rfl, ?_⟩) ?_ ?_
            rotate_left
            · intro w'
              go_simp
              with_reducible rfl
            rotate_left
            · simp only [Act.put, List.setIfInBounds_toArray, List.set_cons_zero, List.set_cons_succ, i64_w, i32_w, u8_w]
              rfl
            refine pure_ (i := 15) (N := some 9) (v := ?_) (a' := ?_) #[true, true, true, true, true, true, true, true, true, true, true, true, true, true, true, true, false] rfl rfl (by kernel_rfl) (fun _ _ _ h => h) (Or.inl ⟨by rfl, ?_⟩) ?_ ?_
            rotate_left
            · intro w'
              go_simp
              with_reducible rfl
            rotate_left
            · simp only [Act.put, List.setIfInBounds_toArray, List.set_cons_zero, List.set_cons_succ, i64_w, i32_w, u8_w]
              rfl
            refine pure_ (i := 16) (N := some 10) (v := ?_) (a' := ?_) #[true, true, true, true, true, true, true, true, true, true, true, true, true, true, true, true, true] rfl rfl (by kernel_rfl) (fun _ _ _ h => h) (Or.inl ⟨by rfl, ?_⟩) ?_ ?_
            rotate_left
            · intro w'
              go_simp
              with_reducible rfl
            rotate_left
            · simp only [Act.put, List.setIfInBounds_toArray, List.set_cons_zero, List.set_cons_succ, i64_w, i32_w, u8_w]
              rfl
            refine done_ (by kernel_rfl) ?_
            have hc2 : w5.cell? ⟨g, 2, none⟩ = some (.int .i64 (p1 : Int)) := (blk_cell AT.out.blk 2).trans rfl
            have hf2 := blk_frozen AT.out.blk 2
            go_wp2_with (first
        | (go_at_call 47; with_reducible refine (hmust_zero _ _).mono ?_; rintro e w' ⟨rfl, hw_⟩; subst hw_)
        | (go_at_call 62; refine (header_extra.calls s _ _ HEX.out).mono ?_; rintro e w6 ⟨rfl, hd⟩; have hb := hd.below; have AT0 := Aside0.mk (AT.out.setAt (p2 : Int)); have MV0 := Aside0.mk (MV.out.set_ 2 (.int .i64 (p2 : Int))); have HO0 := Aside0.mk (Kd.R_set HO.out AT.out.blk (by decide) 2 (.int .i64 (p2 : Int))); clear AT MV HO; have AT := Aside0.mk (AT0.out.on hb); have MV := Aside0.mk (MV0.out.onB (hb.mono MV0.out.size)); have HO := Aside0.mk (Kd.R_below HO0.out hb); clear AT0 MV0 HO0 hb hd HEX)
        | (go_at_call 46; have hcc := hbits_told HR.out _ g p2 (extraN s) _ rfl AT.out HP2.out (by have := extraN_le s; omega); rw [HBM.out] at hcc; refine hcc.mono ?_; clear hcc; rintro e w' ⟨rfl, hb⟩)
        )
            exact ⟨rfl, by rw [HRR.out]; exact ⟨rfl, (HX.out.between AT.out MV.out.size).trans hb⟩⟩
          | ok r2 =>
            obtain ⟨x, p3⟩ := r2
            have hbk := bitsM_ok hbm
            rw [hbm] at hRR
            dsimp only at hRR
            have HXX := Aside0.mk (show 0 ≤ x ∧ x ≤ 1000 from by have h1 := getV_range l p2 (extraN s); have h2 : (2 : Int) ^ extraN s ≤ 2 ^ 7 := pow_le2 (extraN_le s); rw [hbk.1]; omega)
            have HB3 := Aside0.mk hbk.2
            have HBM := Aside0.mk hbm
            clear hbm hbk
            cases htm : takeM out s x n with
            | error er =>
              rw [htm] at hRR
              have HRR := Aside0.mk hRR.symm
              have HTM := Aside0.mk htm
              clear hRR htm
              go_upto_region 3 with (fail)
              have hb := below_drew (Below.refl wr.heap.size wr)
              have n0 := Aside0.mk (AT.out.on hb)
              have n1 := Aside0.mk (MV.out.onB (hb.mono MV.out.size))
              have n2 := Aside0.mk (Kd.R_below HO.out hb)
              clear AT MV HO
              have AT := n0
              have MV := n1
              have HO := n2
              clear n0 n1 n2
              clear hb
              refine start_ (n := 17) (S := fun w' => w'.cell? ⟨g, 0, none⟩ = some (.slice A l.length c) ∧ w'.cell? ⟨g, 1, none⟩ = some (.int .i64 (NN l)) ∧ w'.cell? ⟨g, 2, none⟩ = some (.int .i64 (p1 : Int))) (ds := []) #[false, false, false, false, false, false, false, false, false, false, false, false, false, false, false, false, false] (by kernel_rfl) rfl rfl ⟨(blk_cell AT.out.blk 0).trans rfl, (blk_cell AT.out.blk 1).trans rfl, (blk_cell AT.out.blk 2).trans rfl⟩ (fun hHeld => ?_)
              generalize wr.drew = wd at AT MV HO hHeld ⊢
              refine pure_ (i := 0) (N := some 16) (v := ?_) (a' := ?_) #[true, false, false, false, false, false, false, false, false, false, false, false, false, false, false, false, false] rfl rfl (by kernel_rfl) (fun _ _ _ h => h) (Or.inl ⟨by rfl, ?_⟩) ?_ ?_
              rotate_left
              · intro w'
                go_simp
                with_reducible rfl
              rotate_left
              · simp only [Act.put, List.setIfInBounds_toArray, List.set_cons_zero, List.set_cons_succ, i64_w, i32_w, u8_w]
                rfl
              refine pure_ (i := 1) (N := some 17) (v := ?_) (a' := ?_) #[true, true, false, false, false, false, false, false, false, false, false, false, false, false, false, false, false] rfl rfl (by kernel_rfl) (fun _ _ _ h => h) (Or.inl ⟨by rfl, ?_⟩) ?_ ?_
              rotate_left
              · intro w'
                go_simp
                with_reducible rfl
              rotate_left
              · simp only [Act.put, List.setIfInBounds_toArray, List.set_cons_zero, List.set_cons_succ, i64_w, i32_w, u8_w]
                rfl
              refine pure_ (i := 2) (N := some 18) (v := ?_) (a' := ?_) #[true, true, true, false, false, false, false, false, false, false, false, false, false, false, false, false, false] rfl rfl (by kernel_rfl) (fun _ _ _ h => h) (Or.inl ⟨by rfl, ?_⟩) ?_ ?_
              rotate_left
              · intro w'
                go_simp
                with_reducible rfl
              rotate_left
              · simp only [Act.put, List.setIfInBounds_toArray, List.set_cons_zero, List.set_cons_succ, i64_w, i32_w, u8_w]
                rfl
              refine pure_ (i := 3) (N := some 19) (v := ?_) (a' := ?_) #[true, true, true, true, false, false, false, false, false, false, false, false, false, false, false, false, false] rfl rfl (by kernel_rfl) (fun _ _ _ h => h) (Or.inl ⟨by rfl, ?_⟩) ?_ ?_
              rotate_left
              · intro w'
                go_simp
                with_reducible rfl
              rotate_left
              · simp only [Act.put, List.setIfInBounds_toArray, List.set_cons_zero, List.set_cons_succ, i64_w, i32_w, u8_w]
                rfl
              refine pure_ (i := 5) (N := some 21) (v := ?_) (a' := ?_) #[true, true, true, true, false, true, false, false, false, false, false, false, false, false, false, false, false] rfl rfl (by kernel_rfl) (fun _ _ _ h => h) (Or.inl ⟨by rfl, ?_⟩) ?_ ?_
              rotate_left
              · intro w'
                go_simp
                with_reducible rfl
              rotate_left
              · simp only [Act.put, List.setIfInBounds_toArray, List.set_cons_zero, List.set_cons_succ, i64_w, i32_w, u8_w]
                rfl
              refine pure_ (i := 6) (N := some 22) (v := ?_) (a' := ?_) #[true, true, true, true, false, true, true, false, false, false, false, false, false, false, false, false, false] rfl rfl (by kernel_rfl) (fun _ _ _ h => h) (Or.inl ⟨by rfl, ?_⟩) ?_ ?_
              rotate_left
              · intro w'
                go_simp
                with_reducible rfl
              rotate_left
              · simp only [Act.put, List.setIfInBounds_toArray, List.set_cons_zero, List.set_cons_succ, i64_w, i32_w, u8_w]
                rfl
              refine pure_ (i := 7) (N := some 23) (v := ?_) (a' := ?_) #[true, true, true, true, false, true, true, true, false, false, false, false, false, false, false, false, false] rfl rfl (by kernel_rfl) (fun _ _ _ h => h) (Or.inl ⟨by rfl, ?_⟩) ?_ ?_
              rotate_left
              · intro w'
                go_simp
                with_reducible rfl
              rotate_left
              · simp only [Act.put, List.setIfInBounds_toArray, List.set_cons_zero, List.set_cons_succ, i64_w, i32_w, u8_w]
                rfl
              refine take_ (i := 4) (N := some 20) (v := ?_) (a' := ?_) #[true, true, true, true, true, true, true, true, false, false, false, false, false, false, false, false, false] rfl rfl (by kernel_rfl) (fun _ _ _ h => h) (Or.inl ⟨by rfl, ?_⟩) hHeld ?_ ?_
              rotate_left
              · rintro w' ⟨s0, s1, s2⟩
                go_simp
                with_reducible rfl
              rotate_left
              · simp only [Act.put, List.setIfInBounds_toArray, List.set_cons_zero, List.set_cons_succ, i64_w, i32_w, u8_w]
                rfl
              refine take_ (i := 8) (N := some 24) (v := ?_) (a' := ?_) #[true, true, true, true, true, true, true, true, true, false, false, false, false, false, false, false, false] rfl rfl (by kernel_rfl) (fun _ _ _ h => h) (Or.inl ⟨by rfl, ?_⟩) hHeld ?_ ?_
              rotate_left
              · rintro w' ⟨s0, s1, s2⟩
                go_simp
                with_reducible rfl
              rotate_left
              · simp only [Act.put, List.setIfInBounds_toArray, List.set_cons_zero, List.set_cons_succ, i64_w, i32_w, u8_w]
                rfl
              refine one_ (i := 9) (N := some 25) #[true, true, true, true, true, true, true, true, true, true, false, false, false, false, false, false, false] rfl rfl (by kernel_rfl) (by decide) (fun K hK => ?_)
              refine goes_ Tryd.func50 (by kernel_rfl) rfl #[.pointer (some ⟨gt, 0, none⟩), .agg #[.slice A l.length c, .int .i64 (NN l)], .int .i64 (p1 : Int)] (by rfl) rfl rfl (by simp only [List.map_toArray, List.map_cons, List.map_nil]; rfl) ?_
              with_reducible refine (table_Read.calls 40 gt A c l (NN l) (p1 : Int) _ _ s (p2 : Int) 0 _ (Kd.C_below HR.out.C AT.out.below) HR.out.cap (HT.out.hmoved HX.out.blk MV.out).at_ HF.out).mono ?_
              rintro e w5 ⟨rfl, hb⟩
              refine ⟨_, rfl, ?_⟩
              have n0 := Aside0.mk (AT.out.on hb)
              have n1 := Aside0.mk (MV.out.onB (hb.mono MV.out.size))
              have n2 := Aside0.mk (Kd.R_below HO.out hb)
              clear AT MV HO
              have AT := n0
              have MV := n1
              have HO := n2
              clear n0 n1 n2
              clear hb
              refine hK.out _ _ ⟨(blk_cell AT.out.blk 0).trans rfl, (blk_cell AT.out.blk 1).trans rfl, (blk_cell AT.out.blk 2).trans rfl⟩ (fun hHeld => ?_)
              clear hK K
              refine norm_ (a' := ?_) ?_ ?_
              rotate_left
              · show Act.put _ (some 25) _ = _
                simp only [Act.put, List.setIfInBounds_toArray, List.set_cons_zero, List.set_cons_succ, i64_w, i32_w, u8_w]
                rfl
              refine pure_ (i := 10) (N := some 15) (v := ?_) (a' := ?_) #[true, true, true, true, true, true, true, true, true, true, true, false, false, false, false, false, false] rfl rfl (by kernel_rfl) (fun _ _ _ h => h) (Or.inl ⟨by rfl, ?_⟩) ?_ ?_
              rotate_left
              · intro w'
                go_simp
                with_reducible rfl
              rotate_left
              · simp only [Act.put, List.setIfInBounds_toArray, List.set_cons_zero, List.set_cons_succ, i64_w, i32_w, u8_w]
                rfl
              refine pure_ (i := 11) (N := some 26) (v := ?_) (a' := ?_) #[true, true, true, true, true, true, true, true, true, true, true, true, false, false, false, false, false] rfl rfl (by kernel_rfl) (fun _ _ _ h => h) (Or.inl ⟨by rfl, ?_⟩) ?_ ?_
              rotate_left
              · intro w'
                go_simp
                with_reducible rfl
              rotate_left
              · simp only [Act.put, List.setIfInBounds_toArray, List.set_cons_zero, List.set_cons_succ, i64_w, i32_w, u8_w]
                rfl
              refine pure_ (i := 12) (N := some 27) (v := ?_) (a' := ?_) #[true, true, true, true, true, true, true, true, true, true, true, true, true, false, false, false, false] rfl rfl (by kernel_rfl) (fun _ _ _ h => h) (Or.inl ⟨by rfl, ?_⟩) ?_ ?_
              rotate_left
              · intro w'
                go_simp
                with_reducible rfl
              rotate_left
              · simp only [Act.put, List.setIfInBounds_toArray, List.set_cons_zero, List.set_cons_succ, i64_w, i32_w, u8_w]
                rfl
              refine pure_ (i := 13) (N := some 28) (v := ?_) (a' := ?_) #[true, true, true, true, true, true, true, true, true, true, true, true, true, true, false, false, false] rfl rfl (by kernel_rfl) (fun _ _ _ h => h) (Or.inl ⟨by rfl, ?_⟩) ?_ ?_
              rotate_left
              · intro w'
                go_simp
                with_reducible rfl
              rotate_left
              · simp only [Act.put, List.setIfInBounds_toArray, List.set_cons_zero, List.set_cons_succ, i64_w, i32_w, u8_w]
                rfl
              refine pure_ (i := 14) (N := some 8) (v := ?_) (a' := ?_) #[true, true, true, true, true, true, true, true, true, true, true, true, true, true, true, false, false] rfl rfl (by kernel_rfl) (fun _ _ _ h => h) (Or.inl ⟨by rfl, ?_⟩) ?_ ?_
              rotate_left
              · intro w'
                go_simp
                with_reducible rfl
              rotate_left
              · simp only [Act.put, List.setIfInBounds_toArray, List.set_cons_zero, List.set_cons_succ, i64_w, i32_w, u8_w]
                rfl
              refine pure_ (i := 15) (N := some 9) (v := ?_) (a' := ?_) #[true, true, true, true, true, true, true, true, true, true, true, true, true, true, true, true, false] rfl rfl (by kernel_rfl) (fun _ _ _ h => h) (Or.inl ⟨by rfl, ?_⟩) ?_ ?_
              rotate_left
              · intro w'
                go_simp
                with_reducible rfl
              rotate_left
              · simp only [Act.put, List.setIfInBounds_toArray, List.set_cons_zero, List.set_cons_succ, i64_w, i32_w, u8_w]
                rfl
              refine pure_ (i := 16) (N := some 10) (v := ?_) (a' := ?_) #[true, true, true, true, true, true, true, true, true, true, true, true, true, true, true, true, true] rfl rfl (by kernel_rfl) (fun _ _ _ h => h) (Or.inl ⟨by rfl, ?_⟩) ?_ ?_
              rotate_left
              · intro w'
                go_simp
                with_reducible rfl
              rotate_left
              · simp only [Act.put, List.setIfInBounds_toArray, List.set_cons_zero, List.set_cons_succ, i64_w, i32_w, u8_w]
                rfl
              refine done_ (by kernel_rfl) ?_
              have hc2 : w5.cell? ⟨g, 2, none⟩ = some (.int .i64 (p1 : Int)) := (blk_cell AT.out.blk 2).trans rfl
              have hf2 := blk_frozen AT.out.blk 2
              go_wp2_with (first
        | (go_at_call 47; with_reducible refine (hmust_zero _ _).mono ?_; rintro e w' ⟨rfl, hw_⟩; subst hw_)
        | (go_at_call 62; refine (header_extra.calls s _ _ HEX.out).mono ?_; rintro e w6 ⟨rfl, hd⟩; have hb := hd.below; have AT0 := Aside0.mk (AT.out.setAt (p2 : Int)); have MV0 := Aside0.mk (MV.out.set_ 2 (.int .i64 (p2 : Int))); have HO0 := Aside0.mk (Kd.R_set HO.out AT.out.blk (by decide) 2 (.int .i64 (p2 : Int))); clear AT MV HO; have AT := Aside0.mk (AT0.out.on hb); have MV := Aside0.mk (MV0.out.onB (hb.mono MV0.out.size)); have HO := Aside0.mk (Kd.R_below HO0.out hb); clear AT0 MV0 HO0 hb hd HEX)
        | (go_at_call 46; have hcc := hbits_told HR.out _ g p2 (extraN s) _ rfl AT.out HP2.out (by have := extraN_le s; omega); rw [HBM.out] at hcc; refine hcc.mono ?_; clear hcc; rintro e w' ⟨rfl, hq_, hat_, hm_⟩; have HO_ := Aside0.mk (HMoved.row HO.out AT.out.blk hm_); have MV_ := Aside0.mk (MV.out.trans hm_); have AT_ := Aside0.mk hat_; have HP_ := Aside0.mk hq_; clear AT MV HO HP2 hq_ hat_ hm_; have AT := AT_; have MV := MV_; have HO := HO_; have HP2 := HP_; clear AT_ MV_ HO_ HP_)
        | (go_at_call 61; have hcc := take_calls _ w.heap.size _ out s x n HO.out MV.out.size HXX.out.1 HXX.out.2 HN.out HOL.out; rw [HTM.out] at hcc; refine hcc.mono ?_; clear hcc; rintro e w' ⟨rfl, hb, hne_⟩; have HE0 := Aside0.mk hne_; have AT_ := Aside0.mk (AT.out.on hb); have MV_ := Aside0.mk (MV.out.onB (hb.mono MV.out.size)); clear AT MV HO hb hne_; have AT := AT_; have MV := MV_; clear AT_ MV_)
        | (go_at_call 47; refine (hmust_else _ er HE0.out _).mono ?_; rintro e w' ⟨rfl, hb⟩)
        )
              exact ⟨rfl, by rw [HRR.out]; exact ⟨rfl, (HX.out.between AT.out MV.out.size).trans (hb.mono AT.out.below.size)⟩⟩
            | ok out2 =>
              have hto := takeM_ok htm HOL.out
              rw [htm] at hRR
              dsimp only at hRR
              have HRR := Aside0.mk hRR
              have HTM := Aside0.mk htm
              have HTO := Aside0.mk hto.1
              clear hRR htm hto
              go_upto_region 3 with (fail)
              have hb := below_drew (Below.refl wr.heap.size wr)
              have n0 := Aside0.mk (AT.out.on hb)
              have n1 := Aside0.mk (MV.out.onB (hb.mono MV.out.size))
              have n2 := Aside0.mk (Kd.R_below HO.out hb)
              clear AT MV HO
              have AT := n0
              have MV := n1
              have HO := n2
              clear n0 n1 n2
              clear hb
              refine start_ (n := 17) (S := fun w' => w'.cell? ⟨g, 0, none⟩ = some (.slice A l.length c) ∧ w'.cell? ⟨g, 1, none⟩ = some (.int .i64 (NN l)) ∧ w'.cell? ⟨g, 2, none⟩ = some (.int .i64 (p1 : Int))) (ds := []) #[false, false, false, false, false, false, false, false, false, false, false, false, false, false, false, false, false] (by kernel_rfl) rfl rfl ⟨(blk_cell AT.out.blk 0).trans rfl, (blk_cell AT.out.blk 1).trans rfl, (blk_cell AT.out.blk 2).trans rfl⟩ (fun hHeld => ?_)
              generalize wr.drew = wd at AT MV HO hHeld ⊢
              refine pure_ (i := 0) (N := some 16) (v := ?_) (a' := ?_) #[true, false, false, false, false, false, false, false, false, false, false, false, false, false, false, false, false] rfl rfl (by kernel_rfl) (fun _ _ _ h => h) (Or.inl ⟨by rfl, ?_⟩) ?_ ?_
              rotate_left
              · intro w'
                go_simp
                with_reducible rfl
              rotate_left
              · simp only [Act.put, List.setIfInBounds_toArray, List.set_cons_zero, List.set_cons_succ, i64_w, i32_w, u8_w]
                rfl
              refine pure_ (i := 1) (N := some 17) (v := ?_) (a' := ?_) #[true, true, false, false, false, false, false, false, false, false, false, false, false, false, false, false, false] rfl rfl (by kernel_rfl) (fun _ _ _ h => h) (Or.inl ⟨by rfl, ?_⟩) ?_ ?_
              rotate_left
              · intro w'
                go_simp
                with_reducible rfl
              rotate_left
              · simp only [Act.put, List.setIfInBounds_toArray, List.set_cons_zero, List.set_cons_succ, i64_w, i32_w, u8_w]
                rfl
              refine pure_ (i := 2) (N := some 18) (v := ?_) (a' := ?_) #[true, true, true, false, false, false, false, false, false, false, false, false, false, false, false, false, false] rfl rfl (by kernel_rfl) (fun _ _ _ h => h) (Or.inl ⟨by rfl, ?_⟩) ?_ ?_
              rotate_left
              · intro w'
                go_simp
                with_reducible rfl
              rotate_left
              · simp only [Act.put, List.setIfInBounds_toArray, List.set_cons_zero, List.set_cons_succ, i64_w, i32_w, u8_w]
                rfl
              refine pure_ (i := 3) (N := some 19) (v := ?_) (a' := ?_) #[true, true, true, true, false, false, false, false, false, false, false, false, false, false, false, false, false] rfl rfl (by kernel_rfl) (fun _ _ _ h => h) (Or.inl ⟨by rfl, ?_⟩) ?_ ?_
              rotate_left
              · intro w'
                go_simp
                with_reducible rfl
              rotate_left
              · simp only [Act.put, List.setIfInBounds_toArray, List.set_cons_zero, List.set_cons_succ, i64_w, i32_w, u8_w]
                rfl
              refine pure_ (i := 5) (N := some 21) (v := ?_) (a' := ?_) #[true, true, true, true, false, true, false, false, false, false, false, false, false, false, false, false, false] rfl rfl (by kernel_rfl) (fun _ _ _ h => h) (Or.inl ⟨by rfl, ?_⟩) ?_ ?_
              rotate_left
              · intro w'
                go_simp
                with_reducible rfl
              rotate_left
              · simp only [Act.put, List.setIfInBounds_toArray, List.set_cons_zero, List.set_cons_succ, i64_w, i32_w, u8_w]
                rfl
              refine pure_ (i := 6) (N := some 22) (v := ?_) (a' := ?_) #[true, true, true, true, false, true, true, false, false, false, false, false, false, false, false, false, false] rfl rfl (by kernel_rfl) (fun _ _ _ h => h) (Or.inl ⟨by rfl, ?_⟩) ?_ ?_
              rotate_left
              · intro w'
                go_simp
                with_reducible rfl
              rotate_left
              · simp only [Act.put, List.setIfInBounds_toArray, List.set_cons_zero, List.set_cons_succ, i64_w, i32_w, u8_w]
                rfl
              refine pure_ (i := 7) (N := some 23) (v := ?_) (a' := ?_) #[true, true, true, true, false, true, true, true, false, false, false, false, false, false, false, false, false] rfl rfl (by kernel_rfl) (fun _ _ _ h => h) (Or.inl ⟨by rfl, ?_⟩) ?_ ?_
              rotate_left
              · intro w'
                go_simp
                with_reducible rfl
              rotate_left
              · simp only [Act.put, List.setIfInBounds_toArray, List.set_cons_zero, List.set_cons_succ, i64_w, i32_w, u8_w]
                rfl
              refine take_ (i := 4) (N := some 20) (v := ?_) (a' := ?_) #[true, true, true, true, true, true, true, true, false, false, false, false, false, false, false, false, false] rfl rfl (by kernel_rfl) (fun _ _ _ h => h) (Or.inl ⟨by rfl, ?_⟩) hHeld ?_ ?_
              rotate_left
              · rintro w' ⟨s0, s1, s2⟩
                go_simp
                with_reducible rfl
              rotate_left
              · simp only [Act.put, List.setIfInBounds_toArray, List.set_cons_zero, List.set_cons_succ, i64_w, i32_w, u8_w]
                rfl
              refine take_ (i := 8) (N := some 24) (v := ?_) (a' := ?_) #[true, true, true, true, true, true, true, true, true, false, false, false, false, false, false, false, false] rfl rfl (by kernel_rfl) (fun _ _ _ h => h) (Or.inl ⟨by rfl, ?_⟩) hHeld ?_ ?_
              rotate_left
              · rintro w' ⟨s0, s1, s2⟩
                go_simp
                with_reducible rfl
              rotate_left
              · simp only [Act.put, List.setIfInBounds_toArray, List.set_cons_zero, List.set_cons_succ, i64_w, i32_w, u8_w]
                rfl
              refine one_ (i := 9) (N := some 25) #[true, true, true, true, true, true, true, true, true, true, false, false, false, false, false, false, false] rfl rfl (by kernel_rfl) (by decide) (fun K hK => ?_)
              refine goes_ Tryd.func50 (by kernel_rfl) rfl #[.pointer (some ⟨gt, 0, none⟩), .agg #[.slice A l.length c, .int .i64 (NN l)], .int .i64 (p1 : Int)] (by rfl) rfl rfl (by simp only [List.map_toArray, List.map_cons, List.map_nil]; rfl) ?_
              with_reducible refine (table_Read.calls 40 gt A c l (NN l) (p1 : Int) _ _ s (p2 : Int) 0 _ (Kd.C_below HR.out.C AT.out.below) HR.out.cap (HT.out.hmoved HX.out.blk MV.out).at_ HF.out).mono ?_
              rintro e w5 ⟨rfl, hb⟩
              refine ⟨_, rfl, ?_⟩
              have n0 := Aside0.mk (AT.out.on hb)
              have n1 := Aside0.mk (MV.out.onB (hb.mono MV.out.size))
              have n2 := Aside0.mk (Kd.R_below HO.out hb)
              clear AT MV HO
              have AT := n0
              have MV := n1
              have HO := n2
              clear n0 n1 n2
              clear hb
              refine hK.out _ _ ⟨(blk_cell AT.out.blk 0).trans rfl, (blk_cell AT.out.blk 1).trans rfl, (blk_cell AT.out.blk 2).trans rfl⟩ (fun hHeld => ?_)
              clear hK K
              refine norm_ (a' := ?_) ?_ ?_
              rotate_left
              · show Act.put _ (some 25) _ = _
                simp only [Act.put, List.setIfInBounds_toArray, List.set_cons_zero, List.set_cons_succ, i64_w, i32_w, u8_w]
                rfl
              refine pure_ (i := 10) (N := some 15) (v := ?_) (a' := ?_) #[true, true, true, true, true, true, true, true, true, true, true, false, false, false, false, false, false] rfl rfl (by kernel_rfl) (fun _ _ _ h => h) (Or.inl ⟨by rfl, ?_⟩) ?_ ?_
              rotate_left
              · intro w'
                go_simp
                with_reducible rfl
              rotate_left
              · simp only [Act.put, List.setIfInBounds_toArray, List.set_cons_zero, List.set_cons_succ, i64_w, i32_w, u8_w]
                rfl
              refine pure_ (i := 11) (N := some 26) (v := ?_) (a' := ?_) #[true, true, true, true, true, true, true, true, true, true, true, true, false, false, false, false, false] rfl rfl (by kernel_rfl) (fun _ _ _ h => h) (Or.inl ⟨by rfl, ?_⟩) ?_ ?_
              rotate_left
              · intro w'
                go_simp
                with_reducible rfl
              rotate_left
              · simp only [Act.put, List.setIfInBounds_toArray, List.set_cons_zero, List.set_cons_succ, i64_w, i32_w, u8_w]
                rfl
              refine pure_ (i := 12) (N := some 27) (v := ?_) (a' := ?_) #[true, true, true, true, true, true, true, true, true, true, true, true, true, false, false, false, false] rfl rfl (by kernel_rfl) (fun _ _ _ h => h) (Or.inl ⟨by rfl, ?_⟩) ?_ ?_
              rotate_left
              · intro w'
                go_simp
                with_reducible rfl
              rotate_left
              · simp only [Act.put, List.setIfInBounds_toArray, List.set_cons_zero, List.set_cons_succ, i64_w, i32_w, u8_w]
                rfl
              refine pure_ (i := 13) (N := some 28) (v := ?_) (a' := ?_) #[true, true, true, true, true, true, true, true, true, true, true, true, true, true, false, false, false] rfl rfl (by kernel_rfl) (fun _ _ _ h => h) (Or.inl ⟨by rfl, ?_⟩) ?_ ?_
              rotate_left
              · intro w'
                go_simp
                with_reducible rfl
              rotate_left
              · simp only [Act.put, List.setIfInBounds_toArray, List.set_cons_zero, List.set_cons_succ, i64_w, i32_w, u8_w]
                rfl
              refine pure_ (i := 14) (N := some 8) (v := ?_) (a' := ?_) #[true, true, true, true, true, true, true, true, true, true, true, true, true, true, true, false, false] rfl rfl (by kernel_rfl) (fun _ _ _ h => h) (Or.inl ⟨by rfl, ?_⟩) ?_ ?_
              rotate_left
              · intro w'
                go_simp
                with_reducible rfl
              rotate_left
              · simp only [Act.put, List.setIfInBounds_toArray, List.set_cons_zero, List.set_cons_succ, i64_w, i32_w, u8_w]
                rfl
              refine pure_ (i := 15) (N := some 9) (v := ?_) (a' := ?_) #[true, true, true, true, true, true, true, true, true, true, true, true, true, true, true, true, false] rfl rfl (by kernel_rfl) (fun _ _ _ h => h) (Or.inl ⟨by rfl, ?_⟩) ?_ ?_
              rotate_left
              · intro w'
                go_simp
                with_reducible rfl
              rotate_left
              · simp only [Act.put, List.setIfInBounds_toArray, List.set_cons_zero, List.set_cons_succ, i64_w, i32_w, u8_w]
                rfl
              refine pure_ (i := 16) (N := some 10) (v := ?_) (a' := ?_) #[true, true, true, true, true, true, true, true, true, true, true, true, true, true, true, true, true] rfl rfl (by kernel_rfl) (fun _ _ _ h => h) (Or.inl ⟨by rfl, ?_⟩) ?_ ?_
              rotate_left
              · intro w'
                go_simp
                with_reducible rfl
              rotate_left
              · simp only [Act.put, List.setIfInBounds_toArray, List.set_cons_zero, List.set_cons_succ, i64_w, i32_w, u8_w]
                rfl
              refine done_ (by kernel_rfl) ?_
              have hc2 : w5.cell? ⟨g, 2, none⟩ = some (.int .i64 (p1 : Int)) := (blk_cell AT.out.blk 2).trans rfl
              have hf2 := blk_frozen AT.out.blk 2
              go_wp2_with (first
        | (go_at_call 47; refine (hmust_zero _ _).mono ?_; rintro e w' ⟨rfl, hw_⟩; subst hw_)
        | (go_at_call 62; refine (header_extra.calls s _ _ HEX.out).mono ?_; rintro e w6 ⟨rfl, hd⟩; have hb := hd.below; have AT0 := Aside0.mk (AT.out.setAt (p2 : Int)); have MV0 := Aside0.mk (MV.out.set_ 2 (.int .i64 (p2 : Int))); have HO0 := Aside0.mk (Kd.R_set HO.out AT.out.blk (by decide) 2 (.int .i64 (p2 : Int))); clear AT MV HO; have AT := Aside0.mk (AT0.out.on hb); have MV := Aside0.mk (MV0.out.onB (hb.mono MV0.out.size)); have HO := Aside0.mk (Kd.R_below HO0.out hb); clear AT0 MV0 HO0 hb hd HEX)
        | (go_at_call 46; have hcc := hbits_told HR.out _ g p2 (extraN s) _ rfl AT.out HP2.out (by have := extraN_le s; omega); rw [HBM.out] at hcc; refine hcc.mono ?_; clear hcc; rintro e w' ⟨rfl, hq_, hat_, hm_⟩; have HO_ := Aside0.mk (HMoved.row HO.out AT.out.blk hm_); have MV_ := Aside0.mk (MV.out.trans hm_); have AT_ := Aside0.mk hat_; have HP_ := Aside0.mk hq_; clear AT MV HO HP2 hq_ hat_ hm_; have AT := AT_; have MV := MV_; have HO := HO_; have HP2 := HP_; clear AT_ MV_ HO_ HP_)
        | (go_at_call 61; have hcc := take_calls _ w.heap.size _ out s x n HO.out MV.out.size HXX.out.1 HXX.out.2 HN.out HOL.out; rw [HTM.out] at hcc; refine hcc.mono ?_; clear hcc; rintro e w' ⟨v2, rfl, ho_, hb_, _⟩; have AT_ := Aside0.mk (AT.out.onB (blk_lt HX.out.blk) HX.out.below.size hb_); have MV_ := Aside0.mk (MV.out.onB hb_); clear AT MV HO; have AT := AT_; have MV := MV_; have HO := Aside0.mk ho_; clear AT_ MV_ ho_ hb_)
        )
              go_roundg k1
              case measure => omega
              case rel => exact ⟨p3, out2, AT, MV, HO, HP2, HTO, HRR, ⟨by have h1 := HSB.out; have h2 := HB3.out; have h3 := HK.out; omega⟩⟩
      · rw [if_neg hlt] at hRR
        have q0 := eq_false (show ¬ (out.length : Int) < (n : Int) by omega)
        have q0b := eq_false hlt
        have HRR := Aside0.mk hRR.symm
        have HLN := Aside0.mk (show out.length = n by have := HOL.out; omega)
        clear hRR hlt
        subst ev1
        go_wp2
        go_ret
        rw [HRR.out]
        exact ⟨_, rfl, HO.out, HLN.out, HP.out, AT.out, MV.out⟩
end
end Go.Proofs.YtgflkkjhckcipaaDoor.Pr

-- YtgflkkjhckcipaaDoorIf19
namespace Go.Proofs.YtgflkkjhckcipaaDoor.Pr
open Go.RowKit Go.Shelf Go.Proofs.YtgflkkjhckcipaaDoorW.PrintWords Go.Proofs.YtgflkkjhckcipaaDoorW.PrintLast Go.Proofs.YtgflkkjhckcipaaDoorW.PrintMore
set_option linter.unusedVariables false
set_option linter.unusedSimpArgs false
section
attribute [local go_sem] Oper.semAt_some
set_option maxHeartbeats 16000000 in
set_option maxRecDepth 1000000 in
theorem assert_errno (v : Value) (w : World) : Sem.run Tryd.prog (Instr.typeAssert (.iface 24 v) 20 24 true) w = .ok (.tuple #[v, .bool true]) w := by
  simp [Instr.typeAssert, Tryd.underlying24, go_sem]
attribute [local go_sem] assert_errno
set_option maxHeartbeats 16000000 in
set_option maxRecDepth 1000000 in
theorem hcatch (a b c d : Nat) (ha : Value) (hb hc hd : Value) (er : Int) (older : List PanicEntry) (w : World) (hne : a ≠ b ∧ a ≠ c ∧ a ≠ d ∧ b ≠ c ∧ b ≠ d ∧ c ≠ d)
    (h0 : w.cell? ⟨a, 0, none⟩ = some ha) (h1 : w.cell? ⟨b, 0, none⟩ = some hb) (h2 : w.cell? ⟨c, 0, none⟩ = some hc) (h3 : w.cell? ⟨d, 0, none⟩ = some hd)
    (f0 : w.frozen? ⟨a, 0, none⟩ = false) (f1 : w.frozen? ⟨b, 0, none⟩ = false) (f2 : w.frozen? ⟨c, 0, none⟩ = false) (f3 : w.frozen? ⟨d, 0, none⟩ = false) :
    CallsD Tryd.prog 45 #[.pointer (some ⟨a, 0, none⟩), .pointer (some ⟨b, 0, none⟩), .pointer (some ⟨c, 0, none⟩), .pointer (some ⟨d, 0, none⟩)] (.panicking ({ v := .iface 24 (.int .i64 er), recovered := false } :: older)) w fun e u' w' =>
      e = .returned (.tuple #[]) ∧ u' = .panicking ({ v := .iface 24 (.int .i64 er), recovered := true } :: older) ∧ w' = (((w.setCell ⟨a, 0, none⟩ (.slice none 0 0)).setCell ⟨b, 0, none⟩ (.slice none 0 0)).setCell ⟨c, 0, none⟩ (.int .i64 0)).setCell ⟨d, 0, none⟩ (.int .i64 er) := by
  refine callsD_of_wpS Tryd.func45 rfl fun c₀ cs hu => ?_
  apply wpS_seq
  apply wpS_region
  simp [wpOpsS, go_sem, recoverD, hu, Tryd.ntmps45, Exit.thenS]
  apply wpS_of_wp
  change Code.wp _ _ _ ⟨#[.pointer (some ⟨a, 0, none⟩), .pointer (some ⟨b, 0, none⟩), .pointer (some ⟨c, 0, none⟩), .pointer (some ⟨d, 0, none⟩), .iface 24 (.int .i64 er), undef, undef, .iface 24 (.int .i64 er), undef, undef, undef, undef, undef, undef, undef, undef, undef, undef, undef], []⟩ _
  go_wp2
  simp [bodyPostS, results, Tryd.results45]
set_option maxHeartbeats 16000000 in
set_option maxRecDepth 1000000 in
theorem hidle (a b c d : Nat) (w : World) :
    CallsD Tryd.prog 45 #[.pointer (some ⟨a, 0, none⟩), .pointer (some ⟨b, 0, none⟩), .pointer (some ⟨c, 0, none⟩), .pointer (some ⟨d, 0, none⟩)] .returning w fun e u' w' => e = .returned (.tuple #[]) ∧ u' = .returning ∧ w' = w := by
  refine callsD_of_wpS Tryd.func45 rfl fun c₀ cs hu => ?_
  apply wpS_seq
  apply wpS_region
  simp [wpOpsS, go_sem, recoverD, hu, Tryd.ntmps45, Exit.thenS]
  apply wpS_of_wp
  change Code.wp _ _ _ ⟨#[.pointer (some ⟨a, 0, none⟩), .pointer (some ⟨b, 0, none⟩), .pointer (some ⟨c, 0, none⟩), .pointer (some ⟨d, 0, none⟩), .nilIface, undef, undef, .nilIface, undef, undef, undef, undef, undef, undef, undef, undef, undef, undef, undef], []⟩ _
  go_wp2
  cases c₀
  simp_all [bodyPostS, results, Tryd.results45]
end
end Go.Proofs.YtgflkkjhckcipaaDoor.Pr

