-- Texts by hand and by programs of this session, joined (wip/tool/merge.py).
import Derived.Shelf.Abstract
import Derived.Shelf.RegionOpen
import Derived.OwnWalkIn
import Derived.TacticsInMore
import Derived.LoopNIn
import Derived.LoopIn
import Derived.Test.YtgflkkjhckcipaaDoorMIA6
import Derived.Test.YtgflkkjhckcipaaDoorMIA10
import Derived.Laws.BitsAllLaws
-- YtgflkkjhckcipaaDoorIf3
namespace Go.Proofs.YtgflkkjhckcipaaDoor.Pr
open Go.RowKit Go.Shelf Go.Proofs.YtgflkkjhckcipaaDoorW.PrintWords Go.Proofs.YtgflkkjhckcipaaDoorW.PrintLast Go.Proofs.YtgflkkjhckcipaaDoorW.PrintMore
set_option linter.unusedVariables false
set_option linter.unusedSimpArgs false

def tblCells (cl : List Int) (A : Option Addr) (n c : Nat) : Array Value := (cl.map (Value.int .i64) ++ [Value.slice A n c]).toArray
theorem tbl_cell {W : World} {g n c : Nat} {A : Option Addr} {cl : List Int} (h : W.heap[g]? = some (.cells (tblCells cl A n c) 117 (0, 0))) (hl : cl.length = 16) (i : Nat) (hi : i < 16) : W.cell? ⟨g, i, none⟩ = some (.int .i64 (rd cl (i : Int))) := by
  rw [blk_cell h]
  unfold tblCells rd
  rw [List.getElem?_toArray, List.getElem?_append_left (by simp; omega), List.getElem?_map, List.getD_eq_getElem?_getD, Int.toNat_natCast, List.getElem?_eq_getElem (show i < cl.length by omega)]
  rfl
theorem tbl_slice {W : World} {g n c : Nat} {A : Option Addr} {cl : List Int} (h : W.heap[g]? = some (.cells (tblCells cl A n c) 117 (0, 0))) (hl : cl.length = 16) : W.cell? ⟨g, 16, none⟩ = some (Value.slice A n c) := by
  rw [blk_cell h]
  unfold tblCells
  rw [List.getElem?_toArray, List.getElem?_append_right (by simp; omega)]
  simp [hl]
def TableAt (w : World) (g : Nat) (cl ss : List Int) : Prop := cl.length = 16 ∧ ∃ A c, w.heap[g]? = some (.cells (tblCells cl A ss.length c) 117 (0, 0)) ∧ Kd.C (Kd.int .i64) w A ss.length ss
def readL (k : Nat) (cl ss l : List Int) (m : Int) : Nat → Int → Int → Int → Int → Option (Int × Int × Int)
  | 0, _, _, _, _ => some (0, 0, 13)
  | d + 1, p, code, first, frm => (bits_Get.f k l m p 1).bind fun t => if t.2 = 0 then
      (if wrap64 (Go.bits .or .i64 (wrap64 (code * 2)) t.1 - wrap64 (first * 2)) < rd cl ((15 - d : Nat) : Int) then
        (if 0 ≤ wrap64 (wrap64 (frm + Go.bits .or .i64 (wrap64 (code * 2)) t.1) - wrap64 (first * 2)) then (if wrap64 (wrap64 (frm + Go.bits .or .i64 (wrap64 (code * 2)) t.1) - wrap64 (first * 2)) < (ss.length : Int) then some (rd ss (wrap64 (wrap64 (frm + Go.bits .or .i64 (wrap64 (code * 2)) t.1) - wrap64 (first * 2))), wrap64 (p + 1), 0) else none) else none)
      else if wrap64 (frm + rd cl ((15 - d : Nat) : Int)) = (ss.length : Int) then some (0, 0, 13)
      else readL k cl ss l m d (wrap64 (p + 1)) (Go.bits .or .i64 (wrap64 (code * 2)) t.1) (wrap64 (wrap64 (first * 2) + rd cl ((15 - d : Nat) : Int))) (wrap64 (frm + rd cl ((15 - d : Nat) : Int)))) else some (0, 0, 4)
def readF (k : Nat) (cl ss l : List Int) (m p : Int) : Option (Int × Int × Int) :=
  (bits_Check.f k l m).bind fun e => if e = 0 then (if p < 0 then some (0, 0, 2) else if p > m then some (0, 0, 2) else readL k cl ss l m 15 p 0 0 0) else some (0, 0, 2)
section
attribute [local go_sem] Oper.semAt_some
set_option maxHeartbeats 4000000 in
set_option maxRecDepth 100000 in
theorem table_Read.nil (A : Option Addr) (c : Nat) (l : List Int) (m p : Int) (w : World) : Calls Tryd.prog 50 #[.pointer none, .agg #[.slice A l.length c, .int .i64 m], .int .i64 p] w fun e w' => e = .returned (.tuple #[.int .i64 0, .int .i64 0, .int .i64 1]) ∧ Below w.heap.size w w' := by
  go_enter Tryd.func50, Tryd.ntmps50
  go_wp2
  go_ret3
  exact ⟨rfl, below_alloc (Below.refl _ _) _⟩
set_option maxHeartbeats 4000000 in
set_option maxRecDepth 100000 in
theorem table_Read.calls (k g : Nat) (A : Option Addr) (c : Nat) (l : List Int) (m p : Int) (cl ss : List Int) (r1 r2 r3 : Int) (w : World) (hr : Kd.C (Kd.int .u8) w A l.length l) (hc : l.length ≤ c) (ht : TableAt w g cl ss) (h : readF k cl ss l m p = some (r1, r2, r3)) :
    Calls Tryd.prog 50 #[.pointer (some ⟨g, 0, none⟩), .agg #[.slice A l.length c, .int .i64 m], .int .i64 p] w fun e w' => e = .returned (.tuple #[.int .i64 r1, .int .i64 r2, .int .i64 r3]) ∧ Below w.heap.size w w' := by
  have HR := Aside0.mk hr
  have HC := Aside0.mk hc
  have HB := Aside0.mk (Below.refl w.heap.size w)
  obtain ⟨hcl, At, ct, htb, htc⟩ := ht
  have HL := Aside0.mk hcl
  have TB := Aside0.mk htb
  have TC := Aside0.mk htc
  clear hr hc hcl htb htc
  unfold readF at h
  obtain ⟨e, E1, h⟩ := Option.bind_eq_some_iff.mp h
  have HE := Aside0.mk E1
  clear E1
  by_cases he : e = 0
  · rw [if_pos he] at h
    subst he
    by_cases s0 : p < 0
    · rw [if_pos s0] at h
      have s0b : decide (p < 0) = true := decide_eq_true s0
      replace s0 := eq_true s0
      injection h with h
      injection h with h1 h
      injection h with h2 h3
      subst h1 h2 h3
      go_enter Tryd.func50, Tryd.ntmps50
      go_wp2_with (first
        | ((with_reducible refine gate_dst (N := 4) rfl ?_); refine box_event ?hg (N := 4) ?hd (cs := #[.slice A l.length c, .int .i64 m]) (t := 35) ?hr ?_; (case hd => rfl); (case hg => rfl); (case hr => first | (go_simp; done) | (go_simp; rfl)); intro g4 hg w3 hbox hb; have n0 := Aside0.mk (below_then HB.out HB.out.size hb); have n1 := Aside0.mk (blk_below TB.out hb); have n2 := Aside0.mk (Kd.C_below TC.out hb); have n3 := Aside0.mk (hbox); have n4 := Aside0.mk ((by rw [hg]; exact HB.out.size : w.heap.size ≤ g4)); clear HB TB TC; have HB := n0; have TB := n1; have TC := n2; have B4 := n3; have G4 := n4; clear n0 n1 n2 n3 n4; clear hg hbox hb; have hcg40 : w3.cell? ⟨g4, 0, none⟩ = some (.slice A l.length c) := (blk_cell B4.out 0).trans rfl; have hcg41 : w3.cell? ⟨g4, 1, none⟩ = some (.int .i64 m) := (blk_cell B4.out 1).trans rfl)
        | (go_at_call 40; refine (bits_Check.calls k A c l m 0 _ (Kd.C_below HR.out HB.out) HC.out HE.out).mono ?_; rintro e_ w4 ⟨rfl, hb⟩; have n0 := Aside0.mk (below_then HB.out HB.out.size hb); have n1 := Aside0.mk (blk_below B4.out hb); have n2 := Aside0.mk (blk_below TB.out hb); have n3 := Aside0.mk (Kd.C_below TC.out hb); clear HB B4 TB TC; have HB := n0; have B4 := n1; have TB := n2; have TC := n3; clear n0 n1 n2 n3; clear hb; clear hcg40 hcg41; have hcg40 : w4.cell? ⟨g4, 0, none⟩ = some (.slice A l.length c) := (blk_cell B4.out 0).trans rfl; have hcg41 : w4.cell? ⟨g4, 1, none⟩ = some (.int .i64 m) := (blk_cell B4.out 1).trans rfl)
        )
      go_ret3
      exact ⟨rfl, by repeat (first | (with_reducible first | exact HB.out | apply below_alloc | apply pw_below_drewN | apply below_drew1) | exact HB.out)⟩
    · rw [if_neg s0] at h
      have s0b : decide (p < 0) = false := decide_eq_false s0
      by_cases s1 : p > m
      · rw [if_pos s1] at h
        have s1b : decide (m < p) = true := decide_eq_true s1
        have s1c := eq_true (show m < p from s1)
        replace s0 := eq_false s0
        clear s1
        injection h with h
        injection h with h1 h
        injection h with h2 h3
        subst h1 h2 h3
        go_enter Tryd.func50, Tryd.ntmps50
        go_wp2_with (first
        | ((with_reducible refine gate_dst (N := 4) rfl ?_); refine box_event ?hg (N := 4) ?hd (cs := #[.slice A l.length c, .int .i64 m]) (t := 35) ?hr ?_; (case hd => rfl); (case hg => rfl); (case hr => first | (go_simp; done) | (go_simp; rfl)); intro g4 hg w3 hbox hb; have n0 := Aside0.mk (below_then HB.out HB.out.size hb); have n1 := Aside0.mk (blk_below TB.out hb); have n2 := Aside0.mk (Kd.C_below TC.out hb); have n3 := Aside0.mk (hbox); have n4 := Aside0.mk ((by rw [hg]; exact HB.out.size : w.heap.size ≤ g4)); clear HB TB TC; have HB := n0; have TB := n1; have TC := n2; have B4 := n3; have G4 := n4; clear n0 n1 n2 n3 n4; clear hg hbox hb; have hcg40 : w3.cell? ⟨g4, 0, none⟩ = some (.slice A l.length c) := (blk_cell B4.out 0).trans rfl; have hcg41 : w3.cell? ⟨g4, 1, none⟩ = some (.int .i64 m) := (blk_cell B4.out 1).trans rfl)
        | (go_at_call 40; refine (bits_Check.calls k A c l m 0 _ (Kd.C_below HR.out HB.out) HC.out HE.out).mono ?_; rintro e_ w4 ⟨rfl, hb⟩; have n0 := Aside0.mk (below_then HB.out HB.out.size hb); have n1 := Aside0.mk (blk_below B4.out hb); have n2 := Aside0.mk (blk_below TB.out hb); have n3 := Aside0.mk (Kd.C_below TC.out hb); clear HB B4 TB TC; have HB := n0; have B4 := n1; have TB := n2; have TC := n3; clear n0 n1 n2 n3; clear hb; clear hcg40 hcg41; have hcg40 : w4.cell? ⟨g4, 0, none⟩ = some (.slice A l.length c) := (blk_cell B4.out 0).trans rfl; have hcg41 : w4.cell? ⟨g4, 1, none⟩ = some (.int .i64 m) := (blk_cell B4.out 1).trans rfl)
        )
        go_ret3
        exact ⟨rfl, by repeat (first | (with_reducible first | exact HB.out | apply below_alloc | apply pw_below_drewN | apply below_drew1) | exact HB.out)⟩
      · rw [if_neg s1] at h
        have s1b : decide (m < p) = false := decide_eq_false s1
        have s1c := eq_false (show ¬ m < p from s1)
        replace s0 := eq_false s0
        have H' := Aside0.mk h
        clear h s1
        go_enter Tryd.func50, Tryd.ntmps50
        go_wp2_with (first
        | ((with_reducible refine gate_dst (N := 4) rfl ?_); refine box_event ?hg (N := 4) ?hd (cs := #[.slice A l.length c, .int .i64 m]) (t := 35) ?hr ?_; (case hd => rfl); (case hg => rfl); (case hr => first | (go_simp; done) | (go_simp; rfl)); intro g4 hg w3 hbox hb; have n0 := Aside0.mk (below_then HB.out HB.out.size hb); have n1 := Aside0.mk (blk_below TB.out hb); have n2 := Aside0.mk (Kd.C_below TC.out hb); have n3 := Aside0.mk (hbox); have n4 := Aside0.mk ((by rw [hg]; exact HB.out.size : w.heap.size ≤ g4)); clear HB TB TC; have HB := n0; have TB := n1; have TC := n2; have B4 := n3; have G4 := n4; clear n0 n1 n2 n3 n4; clear hg hbox hb; have hcg40 : w3.cell? ⟨g4, 0, none⟩ = some (.slice A l.length c) := (blk_cell B4.out 0).trans rfl; have hcg41 : w3.cell? ⟨g4, 1, none⟩ = some (.int .i64 m) := (blk_cell B4.out 1).trans rfl)
        | (go_at_call 40; refine (bits_Check.calls k A c l m 0 _ (Kd.C_below HR.out HB.out) HC.out HE.out).mono ?_; rintro e_ w4 ⟨rfl, hb⟩; have n0 := Aside0.mk (below_then HB.out HB.out.size hb); have n1 := Aside0.mk (blk_below B4.out hb); have n2 := Aside0.mk (blk_below TB.out hb); have n3 := Aside0.mk (Kd.C_below TC.out hb); clear HB B4 TB TC; have HB := n0; have B4 := n1; have TB := n2; have TC := n3; clear n0 n1 n2 n3; clear hb; clear hcg40 hcg41; have hcg40 : w4.cell? ⟨g4, 0, none⟩ = some (.slice A l.length c) := (blk_cell B4.out 0).trans rfl; have hcg41 : w4.cell? ⟨g4, 1, none⟩ = some (.int .i64 m) := (blk_cell B4.out 1).trans rfl)
        )
        clear s0 s0b s1b s1c hcg40 hcg41
        go_loopw [2, 9, 10, 11, 12] (fun x2 x9 x10 x11 x12 w' => ∃ (d : Nat) (p2 code fst frm : Int), d ≤ 15 ∧ x2 = .int .i64 p2 ∧ x9 = .int .i64 code ∧ x10 = .int .i64 fst ∧ x11 = .int .i64 frm ∧ x12 = .int .i64 ((16 - d : Nat) : Int) ∧ Aside0 (readL k cl ss l m d p2 code fst frm = some (r1, r2, r3)) ∧ Aside0 (w'.heap[g4]? = some (.cells #[.slice A l.length c, .int .i64 m] 35 (0, 0))) ∧ Aside0 (w'.heap[g]? = some (.cells (tblCells cl At ss.length ct) 117 (0, 0))) ∧ Aside0 (Kd.C (Kd.int .i64) w' At ss.length ss) ∧ Aside0 (Below w.heap.size w w'))
          (fun _ _ _ _ x12 _ => 16 - (intOf x12).toNat)
        case atStart => exact ⟨15, p, 0, 0, 0, by omega, rfl, rfl, rfl, rfl, rfl, H', B4, TB, TC, HB⟩
        case round =>
          clear H' B4 TB TC HB
          obtain ⟨d, p2, code, fst, frm, hd, rfl, rfl, rfl, rfl, rfl, H, B4, TB, TC, HB⟩ := hrel
          cases d with
          | zero =>
            simp only [readL] at H
            have H1 := H.out
            injection H1 with h
            injection h with h1 h
            injection h with h2 h3
            subst h1 h2 h3
            have q := eq_false (show ¬ ((16 - 0 : Nat) : Int) ≤ 15 by omega)
            clear H
            go_wp2
            go_ret3
            exact ⟨rfl, HB.out⟩
          | succ d =>
            obtain ⟨lm, hlm⟩ : ∃ lm : Nat, 16 - (d + 1) = lm := ⟨_, rfl⟩
            have hlm2 : 15 - d = lm := by omega
            rw [hlm]
            have H1 := H.out
            simp only [readL, hlm2] at H1
            clear H
            have q := eq_true (show (lm : Int) ≤ 15 by omega)
            have q0 := eq_true (show (0 : Int) ≤ (lm : Int) by omega)
            have q1 := eq_true (show (lm : Int) < 16 by omega)
            have q2 := eq_true (show lm < 16 by omega)
            have q3 := eq_true (show lm ≤ 15 by omega)
            have LM := Aside0.mk (show lm < 16 by omega)
            obtain ⟨⟨bit, er⟩, E2, H1⟩ := Option.bind_eq_some_iff.mp H1
            have HG := Aside0.mk E2
            clear E2
            dsimp only at H1
            obtain ⟨nn, hnn⟩ : ∃ z, rd cl (lm : Int) = z := ⟨_, rfl⟩
            rw [hnn] at H1
            have NN := Aside0.mk hnn
            clear hnn
            have hcg40 : wr.cell? ⟨g4, 0, none⟩ = some (.slice A l.length c) := (blk_cell B4.out 0).trans rfl
            have hcg41 : wr.cell? ⟨g4, 1, none⟩ = some (.int .i64 m) := (blk_cell B4.out 1).trans rfl
            by_cases her : er = 0
            · rw [if_pos her] at H1
              subst her
              obtain ⟨f2, hf2⟩ : ∃ z, wrap64 (fst * 2) = z := ⟨_, rfl⟩
              obtain ⟨c2, hc2⟩ : ∃ z, Go.bits .or .i64 (wrap64 (code * 2)) bit = z := ⟨_, rfl⟩
              obtain ⟨dd, hdd⟩ : ∃ z, wrap64 (c2 - f2) = z := ⟨_, rfl⟩
              obtain ⟨fr2, hfr⟩ : ∃ z, wrap64 (frm + nn) = z := ⟨_, rfl⟩
              obtain ⟨p3, hp3⟩ : ∃ z, wrap64 (p2 + 1) = z := ⟨_, rfl⟩
              rw [hc2, hf2, hdd, hfr, hp3] at H1
              by_cases t1 : dd < nn
              · rw [if_pos t1] at H1
                obtain ⟨ix, hix⟩ : ∃ z, wrap64 (wrap64 (frm + c2) - f2) = z := ⟨_, rfl⟩
                rw [hix] at H1
                by_cases x0 : 0 ≤ ix
                · rw [if_pos x0] at H1
                  by_cases x1 : ix < (ss.length : Int)
                  · rw [if_pos x1] at H1
                    injection H1 with h
                    injection h with h1 h
                    injection h with h2 h3
                    subst h1 h2 h3
                    obtain ⟨ad, rfl, hx⟩ := Kd.at_int TC.out ix (by omega) (by omega)
                    have HX := Aside0.mk hx
                    clear hx
                    have t1b : decide (dd < nn) = true := decide_eq_true t1
                    replace t1 := eq_true t1
                    replace x0 := eq_true x0
                    replace x1 := eq_true x1
                    go_wp2_with (first
        | (go_at_call 34; refine (bits_Get.calls k A c l m p2 1 bit 0 _ (Kd.C_below HR.out HB.out) HC.out HG.out).mono ?_; rintro e_ w5 ⟨rfl, hb⟩; have n0 := Aside0.mk (below_then HB.out HB.out.size hb); have n1 := Aside0.mk (blk_below B4.out hb); have n2 := Aside0.mk (blk_below TB.out hb); have n3 := Aside0.mk (Kd.C_below TC.out hb); have n4 := Aside0.mk (pw_cell_below hb HX.out); clear HB B4 TB TC HX; have HB := n0; have B4 := n1; have TB := n2; have TC := n3; have HX := n4; clear n0 n1 n2 n3 n4; clear hb; clear hcg40 hcg41; have hcg40 : w5.cell? ⟨g4, 0, none⟩ = some (.slice A l.length c) := (blk_cell B4.out 0).trans rfl; have hcg41 : w5.cell? ⟨g4, 1, none⟩ = some (.int .i64 m) := (blk_cell B4.out 1).trans rfl; have htl := tbl_cell TB.out HL.out lm LM.out; rw [NN.out] at htl; have hts := tbl_slice TB.out HL.out; have hxs := HX.out)
        )
                    go_ret3
                    exact ⟨by rw [← hp3]; rfl, HB.out⟩
                  · rw [if_neg x1] at H1
                    cases H1
                · rw [if_neg x0] at H1
                  cases H1
              · rw [if_neg t1] at H1
                have t1b : decide (dd < nn) = false := decide_eq_false t1
                replace t1 := eq_false t1
                by_cases t2 : fr2 = (ss.length : Int)
                · rw [if_pos t2] at H1
                  injection H1 with h
                  injection h with h1 h
                  injection h with h2 h3
                  subst h1 h2 h3
                  have t2b : (fr2 == (ss.length : Int)) = true := beq_iff_eq.mpr t2
                  replace t2 := eq_true t2
                  go_wp2_with (first
        | (go_at_call 34; refine (bits_Get.calls k A c l m p2 1 bit 0 _ (Kd.C_below HR.out HB.out) HC.out HG.out).mono ?_; rintro e_ w5 ⟨rfl, hb⟩; have n0 := Aside0.mk (below_then HB.out HB.out.size hb); have n1 := Aside0.mk (blk_below B4.out hb); have n2 := Aside0.mk (blk_below TB.out hb); have n3 := Aside0.mk (Kd.C_below TC.out hb); clear HB B4 TB TC; have HB := n0; have B4 := n1; have TB := n2; have TC := n3; clear n0 n1 n2 n3; clear hb; clear hcg40 hcg41; have hcg40 : w5.cell? ⟨g4, 0, none⟩ = some (.slice A l.length c) := (blk_cell B4.out 0).trans rfl; have hcg41 : w5.cell? ⟨g4, 1, none⟩ = some (.int .i64 m) := (blk_cell B4.out 1).trans rfl; have htl := tbl_cell TB.out HL.out lm LM.out; rw [NN.out] at htl; have hts := tbl_slice TB.out HL.out)
        )
                  go_ret3
                  exact ⟨rfl, HB.out⟩
                · rw [if_neg t2] at H1
                  have t2b : (fr2 == (ss.length : Int)) = false := beq_eq_false_iff_ne.mpr t2
                  replace t2 := eq_false t2
                  have H2 := Aside0.mk H1
                  clear H1
                  go_wp2_with (first
        | (go_at_call 34; refine (bits_Get.calls k A c l m p2 1 bit 0 _ (Kd.C_below HR.out HB.out) HC.out HG.out).mono ?_; rintro e_ w5 ⟨rfl, hb⟩; have n0 := Aside0.mk (below_then HB.out HB.out.size hb); have n1 := Aside0.mk (blk_below B4.out hb); have n2 := Aside0.mk (blk_below TB.out hb); have n3 := Aside0.mk (Kd.C_below TC.out hb); clear HB B4 TB TC; have HB := n0; have B4 := n1; have TB := n2; have TC := n3; clear n0 n1 n2 n3; clear hb; clear hcg40 hcg41; have hcg40 : w5.cell? ⟨g4, 0, none⟩ = some (.slice A l.length c) := (blk_cell B4.out 0).trans rfl; have hcg41 : w5.cell? ⟨g4, 1, none⟩ = some (.int .i64 m) := (blk_cell B4.out 1).trans rfl; have htl := tbl_cell TB.out HL.out lm LM.out; rw [NN.out] at htl; have hts := tbl_slice TB.out HL.out)
        )
                  go_roundw
                  case rel => exact ⟨d, p3, c2, wrap64 (f2 + nn), fr2, by omega, by first | rfl | (simp [*]; done), by first | rfl | (simp [*]; done), by first | rfl | (simp [*]; done), by first | rfl | (simp [*]; done), by first | rfl | (congr 1; omega) | (simp; omega), H2, B4, TB, TC, HB⟩
                  case measure => simp [intOf]; omega
            · rw [if_neg her] at H1
              injection H1 with h
              injection h with h1 h
              injection h with h2 h3
              subst h1 h2 h3
              have heb : (er == 0) = false := beq_eq_false_iff_ne.mpr her
              have hec : (er != 0) = true := bne_iff_ne.mpr her
              clear her
              go_wp2_with (first
        | (go_at_call 34; refine (bits_Get.calls k A c l m p2 1 bit er _ (Kd.C_below HR.out HB.out) HC.out HG.out).mono ?_; rintro e_ w5 ⟨rfl, hb⟩; have n0 := Aside0.mk (below_then HB.out HB.out.size hb); have n1 := Aside0.mk (blk_below B4.out hb); have n2 := Aside0.mk (blk_below TB.out hb); have n3 := Aside0.mk (Kd.C_below TC.out hb); clear HB B4 TB TC; have HB := n0; have B4 := n1; have TB := n2; have TC := n3; clear n0 n1 n2 n3; clear hb; clear hcg40 hcg41; have hcg40 : w5.cell? ⟨g4, 0, none⟩ = some (.slice A l.length c) := (blk_cell B4.out 0).trans rfl; have hcg41 : w5.cell? ⟨g4, 1, none⟩ = some (.int .i64 m) := (blk_cell B4.out 1).trans rfl; have htl := tbl_cell TB.out HL.out lm LM.out; rw [NN.out] at htl; have hts := tbl_slice TB.out HL.out)
        )
              go_ret3
              exact ⟨rfl, HB.out⟩
  · rw [if_neg he] at h
    have heb : (e == 0) = false := beq_eq_false_iff_ne.mpr he
    have hec : (e != 0) = true := bne_iff_ne.mpr he
    clear he
    injection h with h
    injection h with h1 h
    injection h with h2 h3
    subst h1 h2 h3
    go_enter Tryd.func50, Tryd.ntmps50
    go_wp2_with (first
        | ((with_reducible refine gate_dst (N := 4) rfl ?_); refine box_event ?hg (N := 4) ?hd (cs := #[.slice A l.length c, .int .i64 m]) (t := 35) ?hr ?_; (case hd => rfl); (case hg => rfl); (case hr => first | (go_simp; done) | (go_simp; rfl)); intro g4 hg w3 hbox hb; have n0 := Aside0.mk (below_then HB.out HB.out.size hb); have n1 := Aside0.mk (blk_below TB.out hb); have n2 := Aside0.mk (Kd.C_below TC.out hb); have n3 := Aside0.mk (hbox); have n4 := Aside0.mk ((by rw [hg]; exact HB.out.size : w.heap.size ≤ g4)); clear HB TB TC; have HB := n0; have TB := n1; have TC := n2; have B4 := n3; have G4 := n4; clear n0 n1 n2 n3 n4; clear hg hbox hb; have hcg40 : w3.cell? ⟨g4, 0, none⟩ = some (.slice A l.length c) := (blk_cell B4.out 0).trans rfl; have hcg41 : w3.cell? ⟨g4, 1, none⟩ = some (.int .i64 m) := (blk_cell B4.out 1).trans rfl)
        | (go_at_call 40; refine (bits_Check.calls k A c l m e _ (Kd.C_below HR.out HB.out) HC.out HE.out).mono ?_; rintro e_ w4 ⟨rfl, hb⟩; have n0 := Aside0.mk (below_then HB.out HB.out.size hb); have n1 := Aside0.mk (blk_below B4.out hb); have n2 := Aside0.mk (blk_below TB.out hb); have n3 := Aside0.mk (Kd.C_below TC.out hb); clear HB B4 TB TC; have HB := n0; have B4 := n1; have TB := n2; have TC := n3; clear n0 n1 n2 n3; clear hb; clear hcg40 hcg41; have hcg40 : w4.cell? ⟨g4, 0, none⟩ = some (.slice A l.length c) := (blk_cell B4.out 0).trans rfl; have hcg41 : w4.cell? ⟨g4, 1, none⟩ = some (.int .i64 m) := (blk_cell B4.out 1).trans rfl)
        )
    go_ret3
    exact ⟨rfl, by repeat (first | (with_reducible first | exact HB.out | apply below_alloc | apply pw_below_drewN | apply below_drew1) | exact HB.out)⟩
end
end Go.Proofs.YtgflkkjhckcipaaDoor.Pr

-- YtgflkkjhckcipaaDoorIf4
namespace Go.Proofs.YtgflkkjhckcipaaDoor.Pr
open Go.RowKit Go.Shelf Go.Proofs.YtgflkkjhckcipaaDoorW.PrintWords Go.Proofs.YtgflkkjhckcipaaDoorW.PrintLast Go.Proofs.YtgflkkjhckcipaaDoorW.PrintMore
set_option linter.unusedVariables false
set_option linter.unusedSimpArgs false
section
attribute [local go_sem] Oper.semAt_some
set_option maxHeartbeats 16000000 in
set_option maxRecDepth 1000000 in
theorem room_calls (w0 : World) (A : Option Addr) (c : Nat) (l : List Int) (hC : (Kd.int .u8).C w0 A l.length l) (hc : l.length ≤ c) (w : World) (g : Nat) (N at_ : Int) (v : Value) (out : List Int) (most : Int) (n : Int) (H : RdrAt w0 w g A c l N at_ v out most) :
    Calls Tryd.prog 36 #[.pointer (some ⟨g, 0, none⟩), .int .i64 n] w fun e w' => (¬ n > wrap64 (most - (out.length : Int)) ∧ e = .returned (.tuple #[]) ∧ Below w.heap.size w w') ∨ (n > wrap64 (most - (out.length : Int)) ∧ Gives w0.heap.size w w' 3 e) := by
  obtain ⟨Ao, co, rfl⟩ := Kd.R_slice H.row
  have HB := Aside0.mk H.below
  have GE := Aside0.mk H.ge
  have H0 := Aside0.mk H.below.size
  have BG := Aside0.mk H.blk
  have HO := Aside0.mk H.row
  have HC := Aside0.mk hC
  have HCc := Aside0.mk hc
  have HW := Aside0.mk (Below.refl w.heap.size w)
  clear H hC hc
  have huR := Tryd.underlying51
  have huB := Tryd.underlying35
  by_cases h2 : n > wrap64 (most - (out.length : Int))
  · have HN := Aside0.mk h2
    have q0 := eq_true h2
    have q0b : decide (wrap64 (most - (out.length : Int)) < n) = true := decide_eq_true h2
    clear h2
    go_enter Tryd.func36, Tryd.ntmps36
    go_upto_region 0 with (fail)
    have n0 := Aside0.mk (below_drew1 HB.out)
    have n1 := Aside0.mk (blk_drew BG.out)
    have n2 := Aside0.mk (Kd.R_drew HO.out)
    have n3 := Aside0.mk (below_drew1 HW.out)
    clear HB BG HO HW
    have HB := n0
    have BG := n1
    have HO := n2
    have HW := n3
    clear n0 n1 n2 n3
    refine start_ (n := 12) (S := fun w' => w'.cell? ⟨g, 3, none⟩ = some (.slice Ao out.length co) ∧ w'.cell? ⟨g, 4, none⟩ = some (.int .i64 most)) (ds := []) #[false, false, false, false, false, false, false, false, false, false, false, false] (by kernel_rfl) rfl rfl ⟨(blk_cell BG.out 3).trans rfl, (blk_cell BG.out 4).trans rfl⟩ (fun hHeld => ?_)
    generalize w.drew = wd at HB BG HO HW hHeld ⊢
    refine pure_ (i := 0) (N := some 4) (v := ?_) (a' := ?_) #[true, false, false, false, false, false, false, false, false, false, false, false] rfl rfl (by kernel_rfl) (fun _ _ _ h => h) (Or.inl ⟨by rfl, ?_⟩) ?_ ?_
    rotate_left
    · intro w'
      go_simp
      with_reducible rfl
    rotate_left
    · simp only [Act.put, List.setIfInBounds_toArray, List.set_cons_zero, List.set_cons_succ, i64_w, i32_w, u8_w]
      rfl
    refine pure_ (i := 1) (N := some 5) (v := ?_) (a' := ?_) #[true, true, false, false, false, false, false, false, false, false, false, false] rfl rfl (by kernel_rfl) (fun _ _ _ h => h) (Or.inl ⟨by rfl, ?_⟩) ?_ ?_
    rotate_left
    · intro w'
      go_simp
      with_reducible rfl
    rotate_left
    · simp only [Act.put, List.setIfInBounds_toArray, List.set_cons_zero, List.set_cons_succ, i64_w, i32_w, u8_w]
      rfl
    refine pure_ (i := 2) (N := some 6) (v := ?_) (a' := ?_) #[true, true, true, false, false, false, false, false, false, false, false, false] rfl rfl (by kernel_rfl) (fun _ _ _ h => h) (Or.inl ⟨by rfl, ?_⟩) ?_ ?_
    rotate_left
    · intro w'
      go_simp
      with_reducible rfl
    rotate_left
    · simp only [Act.put, List.setIfInBounds_toArray, List.set_cons_zero, List.set_cons_succ, i64_w, i32_w, u8_w]
      rfl
    refine pure_ (i := 3) (N := some 7) (v := ?_) (a' := ?_) #[true, true, true, true, false, false, false, false, false, false, false, false] rfl rfl (by kernel_rfl) (fun _ _ _ h => h) (Or.inl ⟨by rfl, ?_⟩) ?_ ?_
    rotate_left
    · intro w'
      go_simp
      with_reducible rfl
    rotate_left
    · simp only [Act.put, List.setIfInBounds_toArray, List.set_cons_zero, List.set_cons_succ, i64_w, i32_w, u8_w]
      rfl
    refine pure_ (i := 5) (N := some 9) (v := ?_) (a' := ?_) #[true, true, true, true, false, true, false, false, false, false, false, false] rfl rfl (by kernel_rfl) (fun _ _ _ h => h) (Or.inl ⟨by rfl, ?_⟩) ?_ ?_
    rotate_left
    · intro w'
      go_simp
      with_reducible rfl
    rotate_left
    · simp only [Act.put, List.setIfInBounds_toArray, List.set_cons_zero, List.set_cons_succ, i64_w, i32_w, u8_w]
      rfl
    refine pure_ (i := 6) (N := some 10) (v := ?_) (a' := ?_) #[true, true, true, true, false, true, true, false, false, false, false, false] rfl rfl (by kernel_rfl) (fun _ _ _ h => h) (Or.inl ⟨by rfl, ?_⟩) ?_ ?_
    rotate_left
    · intro w'
      go_simp
      with_reducible rfl
    rotate_left
    · simp only [Act.put, List.setIfInBounds_toArray, List.set_cons_zero, List.set_cons_succ, i64_w, i32_w, u8_w]
      rfl
    refine pure_ (i := 7) (N := some 11) (v := ?_) (a' := ?_) #[true, true, true, true, false, true, true, true, false, false, false, false] rfl rfl (by kernel_rfl) (fun _ _ _ h => h) (Or.inl ⟨by rfl, ?_⟩) ?_ ?_
    rotate_left
    · intro w'
      go_simp
      with_reducible rfl
    rotate_left
    · simp only [Act.put, List.setIfInBounds_toArray, List.set_cons_zero, List.set_cons_succ, i64_w, i32_w, u8_w]
      rfl
    refine take_ (i := 4) (N := some 8) (v := ?_) (a' := ?_) #[true, true, true, true, true, true, true, true, false, false, false, false] rfl rfl (by kernel_rfl) (fun _ _ _ h => h) (Or.inl ⟨by rfl, ?_⟩) hHeld ?_ ?_
    rotate_left
    · rintro w' ⟨s0, s1⟩
      go_simp
      with_reducible rfl
    rotate_left
    · simp only [Act.put, List.setIfInBounds_toArray, List.set_cons_zero, List.set_cons_succ, i64_w, i32_w, u8_w]
      rfl
    refine take_ (i := 8) (N := some 12) (v := ?_) (a' := ?_) #[true, true, true, true, true, true, true, true, true, false, false, false] rfl rfl (by kernel_rfl) (fun _ _ _ h => h) (Or.inl ⟨by rfl, ?_⟩) hHeld ?_ ?_
    rotate_left
    · rintro w' ⟨s0, s1⟩
      go_simp
      with_reducible rfl
    rotate_left
    · simp only [Act.put, List.setIfInBounds_toArray, List.set_cons_zero, List.set_cons_succ, i64_w, i32_w, u8_w]
      rfl
    refine pure_ (i := 9) (N := some 13) (v := ?_) (a' := ?_) #[true, true, true, true, true, true, true, true, true, true, false, false] rfl rfl (by kernel_rfl) (fun _ _ _ h => h) (Or.inl ⟨by rfl, ?_⟩) ?_ ?_
    rotate_left
    · intro w'
      go_simp
      with_reducible rfl
    rotate_left
    · simp only [Act.put, List.setIfInBounds_toArray, List.set_cons_zero, List.set_cons_succ, i64_w, i32_w, u8_w]
      rfl
    refine pure_ (i := 10) (N := some 14) (v := ?_) (a' := ?_) #[true, true, true, true, true, true, true, true, true, true, true, false] rfl rfl (by kernel_rfl) (fun _ _ _ h => h) (Or.inl ⟨by rfl, ?_⟩) ?_ ?_
    rotate_left
    · intro w'
      go_simp
      with_reducible rfl
    rotate_left
    · simp only [Act.put, List.setIfInBounds_toArray, List.set_cons_zero, List.set_cons_succ, i64_w, i32_w, u8_w]
      rfl
    refine pure_ (i := 11) (N := some 15) (v := ?_) (a' := ?_) #[true, true, true, true, true, true, true, true, true, true, true, true] rfl rfl (by kernel_rfl) (fun _ _ _ h => h) (Or.inl ⟨by rfl, ?_⟩) ?_ ?_
    rotate_left
    · intro w'
      go_simp
      with_reducible rfl
    rotate_left
    · simp only [Act.put, List.setIfInBounds_toArray, List.set_cons_zero, List.set_cons_succ, i64_w, i32_w, u8_w]
      rfl
    refine done_ (by kernel_rfl) ?_
    go_wp2_with (go_at_call 30; refine (stop_calls 3 _).mono ?_; rintro e w' ⟨p, rfl, hfa, hb⟩)
    exact ⟨rfl, .inr ⟨p, rfl, hfa, (HW.out.mono H0.out).trans (hb.mono HB.out.size)⟩⟩
  · have HN := Aside0.mk h2
    have q0 := eq_false h2
    have q0b : decide (wrap64 (most - (out.length : Int)) < n) = false := decide_eq_false h2
    clear h2
    go_enter Tryd.func36, Tryd.ntmps36
    go_upto_region 0 with (fail)
    have n0 := Aside0.mk (below_drew1 HB.out)
    have n1 := Aside0.mk (blk_drew BG.out)
    have n2 := Aside0.mk (Kd.R_drew HO.out)
    have n3 := Aside0.mk (below_drew1 HW.out)
    clear HB BG HO HW
    have HB := n0
    have BG := n1
    have HO := n2
    have HW := n3
    clear n0 n1 n2 n3
    refine start_ (n := 12) (S := fun w' => w'.cell? ⟨g, 3, none⟩ = some (.slice Ao out.length co) ∧ w'.cell? ⟨g, 4, none⟩ = some (.int .i64 most)) (ds := []) #[false, false, false, false, false, false, false, false, false, false, false, false] (by kernel_rfl) rfl rfl ⟨(blk_cell BG.out 3).trans rfl, (blk_cell BG.out 4).trans rfl⟩ (fun hHeld => ?_)
    generalize w.drew = wd at HB BG HO HW hHeld ⊢
    refine pure_ (i := 0) (N := some 4) (v := ?_) (a' := ?_) #[true, false, false, false, false, false, false, false, false, false, false, false] rfl rfl (by kernel_rfl) (fun _ _ _ h => h) (Or.inl ⟨by rfl, ?_⟩) ?_ ?_
    rotate_left
    · intro w'
      go_simp
      with_reducible rfl
    rotate_left
    · simp only [Act.put, List.setIfInBounds_toArray, List.set_cons_zero, List.set_cons_succ, i64_w, i32_w, u8_w]
      rfl
    refine pure_ (i := 1) (N := some 5) (v := ?_) (a' := ?_) #[true, true, false, false, false, false, false, false, false, false, false, false] rfl rfl (by kernel_rfl) (fun _ _ _ h => h) (Or.inl ⟨by rfl, ?_⟩) ?_ ?_
    rotate_left
    · intro w'
      go_simp
      with_reducible rfl
    rotate_left
    · simp only [Act.put, List.setIfInBounds_toArray, List.set_cons_zero, List.set_cons_succ, i64_w, i32_w, u8_w]
      rfl
    refine pure_ (i := 2) (N := some 6) (v := ?_) (a' := ?_) #[true, true, true, false, false, false, false, false, false, false, false, false] rfl rfl (by kernel_rfl) (fun _ _ _ h => h) (Or.inl ⟨by rfl, ?_⟩) ?_ ?_
    rotate_left
    · intro w'
      go_simp
      with_reducible rfl
    rotate_left
    · simp only [Act.put, List.setIfInBounds_toArray, List.set_cons_zero, List.set_cons_succ, i64_w, i32_w, u8_w]
      rfl
    refine pure_ (i := 3) (N := some 7) (v := ?_) (a' := ?_) #[true, true, true, true, false, false, false, false, false, false, false, false] rfl rfl (by kernel_rfl) (fun _ _ _ h => h) (Or.inl ⟨by rfl, ?_⟩) ?_ ?_
    rotate_left
    · intro w'
      go_simp
      with_reducible rfl
    rotate_left
    · simp only [Act.put, List.setIfInBounds_toArray, List.set_cons_zero, List.set_cons_succ, i64_w, i32_w, u8_w]
      rfl
    refine pure_ (i := 5) (N := some 9) (v := ?_) (a' := ?_) #[true, true, true, true, false, true, false, false, false, false, false, false] rfl rfl (by kernel_rfl) (fun _ _ _ h => h) (Or.inl ⟨by rfl, ?_⟩) ?_ ?_
    rotate_left
    · intro w'
      go_simp
      with_reducible rfl
    rotate_left
    · simp only [Act.put, List.setIfInBounds_toArray, List.set_cons_zero, List.set_cons_succ, i64_w, i32_w, u8_w]
      rfl
    refine pure_ (i := 6) (N := some 10) (v := ?_) (a' := ?_) #[true, true, true, true, false, true, true, false, false, false, false, false] rfl rfl (by kernel_rfl) (fun _ _ _ h => h) (Or.inl ⟨by rfl, ?_⟩) ?_ ?_
    rotate_left
    · intro w'
      go_simp
      with_reducible rfl
    rotate_left
    · simp only [Act.put, List.setIfInBounds_toArray, List.set_cons_zero, List.set_cons_succ, i64_w, i32_w, u8_w]
      rfl
    refine pure_ (i := 7) (N := some 11) (v := ?_) (a' := ?_) #[true, true, true, true, false, true, true, true, false, false, false, false] rfl rfl (by kernel_rfl) (fun _ _ _ h => h) (Or.inl ⟨by rfl, ?_⟩) ?_ ?_
    rotate_left
    · intro w'
      go_simp
      with_reducible rfl
    rotate_left
    · simp only [Act.put, List.setIfInBounds_toArray, List.set_cons_zero, List.set_cons_succ, i64_w, i32_w, u8_w]
      rfl
    refine take_ (i := 4) (N := some 8) (v := ?_) (a' := ?_) #[true, true, true, true, true, true, true, true, false, false, false, false] rfl rfl (by kernel_rfl) (fun _ _ _ h => h) (Or.inl ⟨by rfl, ?_⟩) hHeld ?_ ?_
    rotate_left
    · rintro w' ⟨s0, s1⟩
      go_simp
      with_reducible rfl
    rotate_left
    · simp only [Act.put, List.setIfInBounds_toArray, List.set_cons_zero, List.set_cons_succ, i64_w, i32_w, u8_w]
      rfl
    refine take_ (i := 8) (N := some 12) (v := ?_) (a' := ?_) #[true, true, true, true, true, true, true, true, true, false, false, false] rfl rfl (by kernel_rfl) (fun _ _ _ h => h) (Or.inl ⟨by rfl, ?_⟩) hHeld ?_ ?_
    rotate_left
    · rintro w' ⟨s0, s1⟩
      go_simp
      with_reducible rfl
    rotate_left
    · simp only [Act.put, List.setIfInBounds_toArray, List.set_cons_zero, List.set_cons_succ, i64_w, i32_w, u8_w]
      rfl
    refine pure_ (i := 9) (N := some 13) (v := ?_) (a' := ?_) #[true, true, true, true, true, true, true, true, true, true, false, false] rfl rfl (by kernel_rfl) (fun _ _ _ h => h) (Or.inl ⟨by rfl, ?_⟩) ?_ ?_
    rotate_left
    · intro w'
      go_simp
      with_reducible rfl
    rotate_left
    · simp only [Act.put, List.setIfInBounds_toArray, List.set_cons_zero, List.set_cons_succ, i64_w, i32_w, u8_w]
      rfl
    refine pure_ (i := 10) (N := some 14) (v := ?_) (a' := ?_) #[true, true, true, true, true, true, true, true, true, true, true, false] rfl rfl (by kernel_rfl) (fun _ _ _ h => h) (Or.inl ⟨by rfl, ?_⟩) ?_ ?_
    rotate_left
    · intro w'
      go_simp
      with_reducible rfl
    rotate_left
    · simp only [Act.put, List.setIfInBounds_toArray, List.set_cons_zero, List.set_cons_succ, i64_w, i32_w, u8_w]
      rfl
    refine pure_ (i := 11) (N := some 15) (v := ?_) (a' := ?_) #[true, true, true, true, true, true, true, true, true, true, true, true] rfl rfl (by kernel_rfl) (fun _ _ _ h => h) (Or.inl ⟨by rfl, ?_⟩) ?_ ?_
    rotate_left
    · intro w'
      go_simp
      with_reducible rfl
    rotate_left
    · simp only [Act.put, List.setIfInBounds_toArray, List.set_cons_zero, List.set_cons_succ, i64_w, i32_w, u8_w]
      rfl
    refine done_ (by kernel_rfl) ?_
    go_wp2
    go_end0
    exact ⟨HN.out, rfl, HW.out⟩
set_option maxHeartbeats 16000000 in
set_option maxRecDepth 1000000 in
theorem rsym_nil (w0 : World) (A : Option Addr) (c : Nat) (l : List Int) (hC : (Kd.int .u8).C w0 A l.length l) (hc : l.length ≤ c) (w : World) (g : Nat) (N at_ : Int) (v : Value) (out : List Int) (most : Int) (H : RdrAt w0 w g A c l N at_ v out most) :
    Calls Tryd.prog 42 #[.pointer (some ⟨g, 0, none⟩), .pointer none] w fun e w' => Gives w0.heap.size w w' 13 e := by
  have HB := Aside0.mk H.below
  have GE := Aside0.mk H.ge
  have H0 := Aside0.mk H.below.size
  have BG := Aside0.mk H.blk
  have HO := Aside0.mk H.row
  have HC := Aside0.mk hC
  have HCc := Aside0.mk hc
  have HW := Aside0.mk (Below.refl w.heap.size w)
  clear H hC hc
  have huR := Tryd.underlying51
  have huB := Tryd.underlying35
  go_enter Tryd.func42, Tryd.ntmps42
  go_wp2_with (go_at_call 30; refine (stop_calls 13 _).mono ?_; rintro e w' ⟨p, rfl, hfa, hb⟩)
  exact ⟨rfl, p, rfl, hfa, (HW.out.mono H0.out).trans (hb.mono HB.out.size)⟩
theorem TableAt.on {w w' : World} {g : Nat} {cl ss : List Int} (h : TableAt w g cl ss) (hb : Below w.heap.size w w') : TableAt w' g cl ss := by
  obtain ⟨h1, A, c, h2, h3⟩ := h
  exact ⟨h1, A, c, blk_below h2 hb, Kd.C_below h3 hb⟩
set_option maxHeartbeats 16000000 in
set_option maxRecDepth 1000000 in
theorem rsym_calls (k : Nat) (w0 : World) (A : Option Addr) (c : Nat) (l : List Int) (hC : (Kd.int .u8).C w0 A l.length l) (hc : l.length ≤ c) (w : World) (g : Nat) (N at_ : Int) (v : Value) (out : List Int) (most : Int) (gt : Nat) (cl ss : List Int) (r1 r2 r3 : Int) (H : RdrAt w0 w g A c l N at_ v out most) (hT : TableAt w gt cl ss) (hf : readF k cl ss l N at_ = some (r1, r2, r3)) :
    Calls Tryd.prog 42 #[.pointer (some ⟨g, 0, none⟩), .pointer (some ⟨gt, 0, none⟩)] w fun e w' => (r3 = 0 ∧ e = .returned (.int .i64 r1) ∧ RdrAt w0 w' g A c l N r2 v out most ∧ Moved w w' g v v) ∨ (r3 ≠ 0 ∧ Gives w0.heap.size w w' r3 e) := by
  have HF := Aside0.mk hf
  have HT := Aside0.mk hT
  clear hf hT
  have HB := Aside0.mk H.below
  have GE := Aside0.mk H.ge
  have H0 := Aside0.mk H.below.size
  have BG := Aside0.mk H.blk
  have HO := Aside0.mk H.row
  have HC := Aside0.mk hC
  have HCc := Aside0.mk hc
  have HW := Aside0.mk (Below.refl w.heap.size w)
  clear H hC hc
  have huR := Tryd.underlying51
  have huB := Tryd.underlying35
  by_cases h2 : r3 = 0
  · subst h2
    go_enter Tryd.func42, Tryd.ntmps42
    go_upto_region 3 with (fail)
    have n0 := Aside0.mk (below_drew1 HB.out)
    have n1 := Aside0.mk (blk_drew BG.out)
    have n2 := Aside0.mk (Kd.R_drew HO.out)
    have n3 := Aside0.mk (below_drew1 HW.out)
    clear HB BG HO HW
    have HB := n0
    have BG := n1
    have HO := n2
    have HW := n3
    clear n0 n1 n2 n3
    refine start_ (n := 17) (S := fun w' => w'.cell? ⟨g, 0, none⟩ = some (.slice A l.length c) ∧ w'.cell? ⟨g, 1, none⟩ = some (.int .i64 N) ∧ w'.cell? ⟨g, 2, none⟩ = some (.int .i64 at_)) (ds := []) #[false, false, false, false, false, false, false, false, false, false, false, false, false, false, false, false, false] (by kernel_rfl) rfl rfl ⟨(blk_cell BG.out 0).trans rfl, (blk_cell BG.out 1).trans rfl, (blk_cell BG.out 2).trans rfl⟩ (fun hHeld => ?_)
    generalize w.drew = wd at HB BG HO HW hHeld ⊢
    refine pure_ (i := 0) (N := some 12) (v := ?_) (a' := ?_) #[true, false, false, false, false, false, false, false, false, false, false, false, false, false, false, false, false] rfl rfl (by kernel_rfl) (fun _ _ _ h => h) (Or.inl ⟨by rfl, ?_⟩) ?_ ?_
    rotate_left
    · intro w'
      go_simp
      with_reducible rfl
    rotate_left
    · simp only [Act.put, List.setIfInBounds_toArray, List.set_cons_zero, List.set_cons_succ, i64_w, i32_w, u8_w]
      rfl
    refine pure_ (i := 1) (N := some 13) (v := ?_) (a' := ?_) #[true, true, false, false, false, false, false, false, false, false, false, false, false, false, false, false, false] rfl rfl (by kernel_rfl) (fun _ _ _ h => h) (Or.inl ⟨by rfl, ?_⟩) ?_ ?_
    rotate_left
    · intro w'
      go_simp
      with_reducible rfl
    rotate_left
    · simp only [Act.put, List.setIfInBounds_toArray, List.set_cons_zero, List.set_cons_succ, i64_w, i32_w, u8_w]
      rfl
    refine pure_ (i := 2) (N := some 14) (v := ?_) (a' := ?_) #[true, true, true, false, false, false, false, false, false, false, false, false, false, false, false, false, false] rfl rfl (by kernel_rfl) (fun _ _ _ h => h) (Or.inl ⟨by rfl, ?_⟩) ?_ ?_
    rotate_left
    · intro w'
      go_simp
      with_reducible rfl
    rotate_left
    · simp only [Act.put, List.setIfInBounds_toArray, List.set_cons_zero, List.set_cons_succ, i64_w, i32_w, u8_w]
      rfl
    refine pure_ (i := 3) (N := some 15) (v := ?_) (a' := ?_) #[true, true, true, true, false, false, false, false, false, false, false, false, false, false, false, false, false] rfl rfl (by kernel_rfl) (fun _ _ _ h => h) (Or.inl ⟨by rfl, ?_⟩) ?_ ?_
    rotate_left
    · intro w'
      go_simp
      with_reducible rfl
    rotate_left
    · simp only [Act.put, List.setIfInBounds_toArray, List.set_cons_zero, List.set_cons_succ, i64_w, i32_w, u8_w]
      rfl
    refine pure_ (i := 5) (N := some 17) (v := ?_) (a' := ?_) #[true, true, true, true, false, true, false, false, false, false, false, false, false, false, false, false, false] rfl rfl (by kernel_rfl) (fun _ _ _ h => h) (Or.inl ⟨by rfl, ?_⟩) ?_ ?_
    rotate_left
    · intro w'
      go_simp
      with_reducible rfl
    rotate_left
    · simp only [Act.put, List.setIfInBounds_toArray, List.set_cons_zero, List.set_cons_succ, i64_w, i32_w, u8_w]
      rfl
    refine pure_ (i := 6) (N := some 18) (v := ?_) (a' := ?_) #[true, true, true, true, false, true, true, false, false, false, false, false, false, false, false, false, false] rfl rfl (by kernel_rfl) (fun _ _ _ h => h) (Or.inl ⟨by rfl, ?_⟩) ?_ ?_
    rotate_left
    · intro w'
      go_simp
      with_reducible rfl
    rotate_left
    · simp only [Act.put, List.setIfInBounds_toArray, List.set_cons_zero, List.set_cons_succ, i64_w, i32_w, u8_w]
      rfl
    refine pure_ (i := 7) (N := some 19) (v := ?_) (a' := ?_) #[true, true, true, true, false, true, true, true, false, false, false, false, false, false, false, false, false] rfl rfl (by kernel_rfl) (fun _ _ _ h => h) (Or.inl ⟨by rfl, ?_⟩) ?_ ?_
    rotate_left
    · intro w'
      go_simp
      with_reducible rfl
    rotate_left
    · simp only [Act.put, List.setIfInBounds_toArray, List.set_cons_zero, List.set_cons_succ, i64_w, i32_w, u8_w]
      rfl
    refine take_ (i := 4) (N := some 16) (v := ?_) (a' := ?_) #[true, true, true, true, true, true, true, true, false, false, false, false, false, false, false, false, false] rfl rfl (by kernel_rfl) (fun _ _ _ h => h) (Or.inl ⟨by rfl, ?_⟩) hHeld ?_ ?_
    rotate_left
    · rintro w' ⟨s0, s1, s2⟩
      go_simp
      with_reducible rfl
    rotate_left
    · simp only [Act.put, List.setIfInBounds_toArray, List.set_cons_zero, List.set_cons_succ, i64_w, i32_w, u8_w]
      rfl
    refine take_ (i := 8) (N := some 20) (v := ?_) (a' := ?_) #[true, true, true, true, true, true, true, true, true, false, false, false, false, false, false, false, false] rfl rfl (by kernel_rfl) (fun _ _ _ h => h) (Or.inl ⟨by rfl, ?_⟩) hHeld ?_ ?_
    rotate_left
    · rintro w' ⟨s0, s1, s2⟩
      go_simp
      with_reducible rfl
    rotate_left
    · simp only [Act.put, List.setIfInBounds_toArray, List.set_cons_zero, List.set_cons_succ, i64_w, i32_w, u8_w]
      rfl
    refine one_ (i := 9) (N := some 21) #[true, true, true, true, true, true, true, true, true, true, false, false, false, false, false, false, false] rfl rfl (by kernel_rfl) (by decide) (fun K hK => ?_)
    refine goes_ Tryd.func50 (by kernel_rfl) rfl #[.pointer (some ⟨gt, 0, none⟩), .agg #[.slice A l.length c, .int .i64 N], .int .i64 at_] (by rfl) rfl rfl (by simp only [List.map_toArray, List.map_cons, List.map_nil]; rfl) ?_
    with_reducible refine (table_Read.calls k gt A c l N at_ cl ss r1 r2 0 _ (Kd.C_below HC.out HB.out) HCc.out (TableAt.on HT.out HW.out) HF.out).mono ?_
    rintro e w5 ⟨rfl, hb⟩
    refine ⟨_, rfl, ?_⟩
    have n0 := Aside0.mk (below_then HB.out HB.out.size hb)
    have n1 := Aside0.mk (blk_below BG.out hb)
    have n2 := Aside0.mk (Kd.R_below HO.out hb)
    have n3 := Aside0.mk (below_then HW.out HW.out.size hb)
    clear HB BG HO HW
    have HB := n0
    have BG := n1
    have HO := n2
    have HW := n3
    clear n0 n1 n2 n3
    clear hb
    refine hK.out _ _ ⟨(blk_cell BG.out 0).trans rfl, (blk_cell BG.out 1).trans rfl, (blk_cell BG.out 2).trans rfl⟩ (fun hHeld => ?_)
    clear hK K
    refine norm_ (a' := ?_) ?_ ?_
    rotate_left
    · show Act.put _ (some 21) _ = _
      simp only [Act.put, List.setIfInBounds_toArray, List.set_cons_zero, List.set_cons_succ, i64_w, i32_w, u8_w]
      rfl
    refine pure_ (i := 10) (N := some 11) (v := ?_) (a' := ?_) #[true, true, true, true, true, true, true, true, true, true, true, false, false, false, false, false, false] rfl rfl (by kernel_rfl) (fun _ _ _ h => h) (Or.inl ⟨by rfl, ?_⟩) ?_ ?_
    rotate_left
    · intro w'
      go_simp
      with_reducible rfl
    rotate_left
    · simp only [Act.put, List.setIfInBounds_toArray, List.set_cons_zero, List.set_cons_succ, i64_w, i32_w, u8_w]
      rfl
    refine pure_ (i := 11) (N := some 22) (v := ?_) (a' := ?_) #[true, true, true, true, true, true, true, true, true, true, true, true, false, false, false, false, false] rfl rfl (by kernel_rfl) (fun _ _ _ h => h) (Or.inl ⟨by rfl, ?_⟩) ?_ ?_
    rotate_left
    · intro w'
      go_simp
      with_reducible rfl
    rotate_left
    · simp only [Act.put, List.setIfInBounds_toArray, List.set_cons_zero, List.set_cons_succ, i64_w, i32_w, u8_w]
      rfl
    refine pure_ (i := 12) (N := some 23) (v := ?_) (a' := ?_) #[true, true, true, true, true, true, true, true, true, true, true, true, true, false, false, false, false] rfl rfl (by kernel_rfl) (fun _ _ _ h => h) (Or.inl ⟨by rfl, ?_⟩) ?_ ?_
    rotate_left
    · intro w'
      go_simp
      with_reducible rfl
    rotate_left
    · simp only [Act.put, List.setIfInBounds_toArray, List.set_cons_zero, List.set_cons_succ, i64_w, i32_w, u8_w]
      rfl
    refine pure_ (i := 13) (N := some 24) (v := ?_) (a' := ?_) #[true, true, true, true, true, true, true, true, true, true, true, true, true, true, false, false, false] rfl rfl (by kernel_rfl) (fun _ _ _ h => h) (Or.inl ⟨by rfl, ?_⟩) ?_ ?_
    rotate_left
    · intro w'
      go_simp
      with_reducible rfl
    rotate_left
    · simp only [Act.put, List.setIfInBounds_toArray, List.set_cons_zero, List.set_cons_succ, i64_w, i32_w, u8_w]
      rfl
    refine pure_ (i := 14) (N := some 5) (v := ?_) (a' := ?_) #[true, true, true, true, true, true, true, true, true, true, true, true, true, true, true, false, false] rfl rfl (by kernel_rfl) (fun _ _ _ h => h) (Or.inl ⟨by rfl, ?_⟩) ?_ ?_
    rotate_left
    · intro w'
      go_simp
      with_reducible rfl
    rotate_left
    · simp only [Act.put, List.setIfInBounds_toArray, List.set_cons_zero, List.set_cons_succ, i64_w, i32_w, u8_w]
      rfl
    refine pure_ (i := 15) (N := some 6) (v := ?_) (a' := ?_) #[true, true, true, true, true, true, true, true, true, true, true, true, true, true, true, true, false] rfl rfl (by kernel_rfl) (fun _ _ _ h => h) (Or.inl ⟨by rfl, ?_⟩) ?_ ?_
    rotate_left
    · intro w'
      go_simp
      with_reducible rfl
    rotate_left
    · simp only [Act.put, List.setIfInBounds_toArray, List.set_cons_zero, List.set_cons_succ, i64_w, i32_w, u8_w]
      rfl
    refine pure_ (i := 16) (N := some 7) (v := ?_) (a' := ?_) #[true, true, true, true, true, true, true, true, true, true, true, true, true, true, true, true, true] rfl rfl (by kernel_rfl) (fun _ _ _ h => h) (Or.inl ⟨by rfl, ?_⟩) ?_ ?_
    rotate_left
    · intro w'
      go_simp
      with_reducible rfl
    rotate_left
    · simp only [Act.put, List.setIfInBounds_toArray, List.set_cons_zero, List.set_cons_succ, i64_w, i32_w, u8_w]
      rfl
    refine done_ (by kernel_rfl) ?_
    have hc2 : w5.cell? ⟨g, 2, none⟩ = some (.int .i64 at_) := (blk_cell BG.out 2).trans rfl
    have hf2 := blk_frozen BG.out 2
    go_wp2_with (go_at_call 35; refine (must_zero _).mono ?_; rintro e w' ⟨rfl, rfl⟩)
    go_ret
    exact .inl ⟨trivial, rfl, RdrAt.setAt ⟨HB.out, GE.out, BG.out, HO.out⟩ _, (Moved.of_below g v HW.out).set_ 2 _⟩
  · have HN := Aside0.mk h2
    clear h2
    go_enter Tryd.func42, Tryd.ntmps42
    go_upto_region 3 with (fail)
    have n0 := Aside0.mk (below_drew1 HB.out)
    have n1 := Aside0.mk (blk_drew BG.out)
    have n2 := Aside0.mk (Kd.R_drew HO.out)
    have n3 := Aside0.mk (below_drew1 HW.out)
    clear HB BG HO HW
    have HB := n0
    have BG := n1
    have HO := n2
    have HW := n3
    clear n0 n1 n2 n3
    refine start_ (n := 17) (S := fun w' => w'.cell? ⟨g, 0, none⟩ = some (.slice A l.length c) ∧ w'.cell? ⟨g, 1, none⟩ = some (.int .i64 N) ∧ w'.cell? ⟨g, 2, none⟩ = some (.int .i64 at_)) (ds := []) #[false, false, false, false, false, false, false, false, false, false, false, false, false, false, false, false, false] (by kernel_rfl) rfl rfl ⟨(blk_cell BG.out 0).trans rfl, (blk_cell BG.out 1).trans rfl, (blk_cell BG.out 2).trans rfl⟩ (fun hHeld => ?_)
    generalize w.drew = wd at HB BG HO HW hHeld ⊢
    refine pure_ (i := 0) (N := some 12) (v := ?_) (a' := ?_) #[true, false, false, false, false, false, false, false, false, false, false, false, false, false, false, false, false] rfl rfl (by kernel_rfl) (fun _ _ _ h => h) (Or.inl ⟨by rfl, ?_⟩) ?_ ?_
    rotate_left
    · intro w'
      go_simp
      with_reducible rfl
    rotate_left
    · simp only [Act.put, List.setIfInBounds_toArray, List.set_cons_zero, List.set_cons_succ, i64_w, i32_w, u8_w]
      rfl
    refine pure_ (i := 1) (N := some 13) (v := ?_) (a' := ?_) #[true, true, false, false, false, false, false, false, false, false, false, false, false, false, false, false, false] rfl rfl (by kernel_rfl) (fun _ _ _ h => h) (Or.inl ⟨by rfl, ?_⟩) ?_ ?_
    rotate_left
    · intro w'
      go_simp
      with_reducible rfl
    rotate_left
    · simp only [Act.put, List.setIfInBounds_toArray, List.set_cons_zero, List.set_cons_succ, i64_w, i32_w, u8_w]
      rfl
    refine pure_ (i := 2) (N := some 14) (v := ?_) (a' := ?_) #[true, true, true, false, false, false, false, false, false, false, false, false, false, false, false, false, false] rfl rfl (by kernel_rfl) (fun _ _ _ h => h) (Or.inl ⟨by rfl, ?_⟩) ?_ ?_
    rotate_left
    · intro w'
      go_simp
      with_reducible rfl
    rotate_left
    · simp only [Act.put, List.setIfInBounds_toArray, List.set_cons_zero, List.set_cons_succ, i64_w, i32_w, u8_w]
      rfl
    refine pure_ (i := 3) (N := some 15) (v := ?_) (a' := ?_) #[true, true, true, true, false, false, false, false, false, false, false, false, false, false, false, false, false] rfl rfl (by kernel_rfl) (fun _ _ _ h => h) (Or.inl ⟨by rfl, ?_⟩) ?_ ?_
    rotate_left
    · intro w'
      go_simp
      with_reducible rfl
    rotate_left
    · simp only [Act.put, List.setIfInBounds_toArray, List.set_cons_zero, List.set_cons_succ, i64_w, i32_w, u8_w]
      rfl
    refine pure_ (i := 5) (N := some 17) (v := ?_) (a' := ?_) #[true, true, true, true, false, true, false, false, false, false, false, false, false, false, false, false, false] rfl rfl (by kernel_rfl) (fun _ _ _ h => h) (Or.inl ⟨by rfl, ?_⟩) ?_ ?_
    rotate_left
    · intro w'
      go_simp
      with_reducible rfl
    rotate_left
    · simp only [Act.put, List.setIfInBounds_toArray, List.set_cons_zero, List.set_cons_succ, i64_w, i32_w, u8_w]
      rfl
    refine pure_ (i := 6) (N := some 18) (v := ?_) (a' := ?_) #[true, true, true, true, false, true, true, false, false, false, false, false, false, false, false, false, false] rfl rfl (by kernel_rfl) (fun _ _ _ h => h) (Or.inl ⟨by rfl, ?_⟩) ?_ ?_
    rotate_left
    · intro w'
      go_simp
      with_reducible rfl
    rotate_left
    · simp only [Act.put, List.setIfInBounds_toArray, List.set_cons_zero, List.set_cons_succ, i64_w, i32_w, u8_w]
      rfl
    refine pure_ (i := 7) (N := some 19) (v := ?_) (a' := ?_) #[true, true, true, true, false, true, true, true, false, false, false, false, false, false, false, false, false] rfl rfl (by kernel_rfl) (fun _ _ _ h => h) (Or.inl ⟨by rfl, ?_⟩) ?_ ?_
    rotate_left
    · intro w'
      go_simp
      with_reducible rfl
    rotate_left
    · simp only [Act.put, List.setIfInBounds_toArray, List.set_cons_zero, List.set_cons_succ, i64_w, i32_w, u8_w]
      rfl
    refine take_ (i := 4) (N := some 16) (v := ?_) (a' := ?_) #[true, true, true, true, true, true, true, true, false, false, false, false, false, false, false, false, false] rfl rfl (by kernel_rfl) (fun _ _ _ h => h) (Or.inl ⟨by rfl, ?_⟩) hHeld ?_ ?_
    rotate_left
    · rintro w' ⟨s0, s1, s2⟩
      go_simp
      with_reducible rfl
    rotate_left
    · simp only [Act.put, List.setIfInBounds_toArray, List.set_cons_zero, List.set_cons_succ, i64_w, i32_w, u8_w]
      rfl
    refine take_ (i := 8) (N := some 20) (v := ?_) (a' := ?_) #[true, true, true, true, true, true, true, true, true, false, false, false, false, false, false, false, false] rfl rfl (by kernel_rfl) (fun _ _ _ h => h) (Or.inl ⟨by rfl, ?_⟩) hHeld ?_ ?_
    rotate_left
    · rintro w' ⟨s0, s1, s2⟩
      go_simp
      with_reducible rfl
    rotate_left
    · simp only [Act.put, List.setIfInBounds_toArray, List.set_cons_zero, List.set_cons_succ, i64_w, i32_w, u8_w]
      rfl
    refine one_ (i := 9) (N := some 21) #[true, true, true, true, true, true, true, true, true, true, false, false, false, false, false, false, false] rfl rfl (by kernel_rfl) (by decide) (fun K hK => ?_)
    refine goes_ Tryd.func50 (by kernel_rfl) rfl #[.pointer (some ⟨gt, 0, none⟩), .agg #[.slice A l.length c, .int .i64 N], .int .i64 at_] (by rfl) rfl rfl (by simp only [List.map_toArray, List.map_cons, List.map_nil]; rfl) ?_
    with_reducible refine (table_Read.calls k gt A c l N at_ cl ss r1 r2 r3 _ (Kd.C_below HC.out HB.out) HCc.out (TableAt.on HT.out HW.out) HF.out).mono ?_
    rintro e w5 ⟨rfl, hb⟩
    refine ⟨_, rfl, ?_⟩
    have n0 := Aside0.mk (below_then HB.out HB.out.size hb)
    have n1 := Aside0.mk (blk_below BG.out hb)
    have n2 := Aside0.mk (Kd.R_below HO.out hb)
    have n3 := Aside0.mk (below_then HW.out HW.out.size hb)
    clear HB BG HO HW
    have HB := n0
    have BG := n1
    have HO := n2
    have HW := n3
    clear n0 n1 n2 n3
    clear hb
    refine hK.out _ _ ⟨(blk_cell BG.out 0).trans rfl, (blk_cell BG.out 1).trans rfl, (blk_cell BG.out 2).trans rfl⟩ (fun hHeld => ?_)
    clear hK K
    refine norm_ (a' := ?_) ?_ ?_
    rotate_left
    · show Act.put _ (some 21) _ = _
      simp only [Act.put, List.setIfInBounds_toArray, List.set_cons_zero, List.set_cons_succ, i64_w, i32_w, u8_w]
      rfl
    refine pure_ (i := 10) (N := some 11) (v := ?_) (a' := ?_) #[true, true, true, true, true, true, true, true, true, true, true, false, false, false, false, false, false] rfl rfl (by kernel_rfl) (fun _ _ _ h => h) (Or.inl ⟨by rfl, ?_⟩) ?_ ?_
    rotate_left
    · intro w'
      go_simp
      with_reducible rfl
    rotate_left
    · simp only [Act.put, List.setIfInBounds_toArray, List.set_cons_zero, List.set_cons_succ, i64_w, i32_w, u8_w]
      rfl
    refine pure_ (i := 11) (N := some 22) (v := ?_) (a' := ?_) #[true, true, true, true, true, true, true, true, true, true, true, true, false, false, false, false, false] rfl rfl (by kernel_rfl) (fun _ _ _ h => h) (Or.inl ⟨by rfl, ?_⟩) ?_ ?_
    rotate_left
    · intro w'
      go_simp
      with_reducible rfl
    rotate_left
    · simp only [Act.put, List.setIfInBounds_toArray, List.set_cons_zero, List.set_cons_succ, i64_w, i32_w, u8_w]
      rfl
    refine pure_ (i := 12) (N := some 23) (v := ?_) (a' := ?_) #[true, true, true, true, true, true, true, true, true, true, true, true, true, false, false, false, false] rfl rfl (by kernel_rfl) (fun _ _ _ h => h) (Or.inl ⟨by rfl, ?_⟩) ?_ ?_
    rotate_left
    · intro w'
      go_simp
      with_reducible rfl
    rotate_left
    · simp only [Act.put, List.setIfInBounds_toArray, List.set_cons_zero, List.set_cons_succ, i64_w, i32_w, u8_w]
      rfl
    refine pure_ (i := 13) (N := some 24) (v := ?_) (a' := ?_) #[true, true, true, true, true, true, true, true, true, true, true, true, true, true, false, false, false] rfl rfl (by kernel_rfl) (fun _ _ _ h => h) (Or.inl ⟨by rfl, ?_⟩) ?_ ?_
    rotate_left
    · intro w'
      go_simp
      with_reducible rfl
    rotate_left
    · simp only [Act.put, List.setIfInBounds_toArray, List.set_cons_zero, List.set_cons_succ, i64_w, i32_w, u8_w]
      rfl
    refine pure_ (i := 14) (N := some 5) (v := ?_) (a' := ?_) #[true, true, true, true, true, true, true, true, true, true, true, true, true, true, true, false, false] rfl rfl (by kernel_rfl) (fun _ _ _ h => h) (Or.inl ⟨by rfl, ?_⟩) ?_ ?_
    rotate_left
    · intro w'
      go_simp
      with_reducible rfl
    rotate_left
    · simp only [Act.put, List.setIfInBounds_toArray, List.set_cons_zero, List.set_cons_succ, i64_w, i32_w, u8_w]
      rfl
    refine pure_ (i := 15) (N := some 6) (v := ?_) (a' := ?_) #[true, true, true, true, true, true, true, true, true, true, true, true, true, true, true, true, false] rfl rfl (by kernel_rfl) (fun _ _ _ h => h) (Or.inl ⟨by rfl, ?_⟩) ?_ ?_
    rotate_left
    · intro w'
      go_simp
      with_reducible rfl
    rotate_left
    · simp only [Act.put, List.setIfInBounds_toArray, List.set_cons_zero, List.set_cons_succ, i64_w, i32_w, u8_w]
      rfl
    refine pure_ (i := 16) (N := some 7) (v := ?_) (a' := ?_) #[true, true, true, true, true, true, true, true, true, true, true, true, true, true, true, true, true] rfl rfl (by kernel_rfl) (fun _ _ _ h => h) (Or.inl ⟨by rfl, ?_⟩) ?_ ?_
    rotate_left
    · intro w'
      go_simp
      with_reducible rfl
    rotate_left
    · simp only [Act.put, List.setIfInBounds_toArray, List.set_cons_zero, List.set_cons_succ, i64_w, i32_w, u8_w]
      rfl
    refine done_ (by kernel_rfl) ?_
    go_wp2_with (go_at_call 35; refine (must_else r3 HN.out _).mono ?_; rintro e w' ⟨p, rfl, hfa, hb⟩)
    exact ⟨rfl, .inr ⟨HN.out, p, rfl, hfa, (HW.out.mono H0.out).trans (hb.mono HB.out.size)⟩⟩
end
end Go.Proofs.YtgflkkjhckcipaaDoor.Pr

-- YtgflkkjhckcipaaDoorIf5
namespace Go.Proofs.YtgflkkjhckcipaaDoor.Pr
open Go.RowKit Go.Shelf Go.Proofs.YtgflkkjhckcipaaDoorW.PrintWords Go.Proofs.YtgflkkjhckcipaaDoorW.PrintLast Go.Proofs.YtgflkkjhckcipaaDoorW.PrintMore
set_option linter.unusedVariables false
set_option linter.unusedSimpArgs false
open Hu (checkS countedS usedL Lok symsS newS symsL TableOwn)
theorem checkS_lens {zs : List Int} (h : checkS zs ≠ 2) : 1 ≤ zs.length ∧ zs.length ≤ 288 ∧ ∀ k : Nat, k < zs.length → 0 ≤ zs.getD k 0 ∧ zs.getD k 0 ≤ 15 := by
  have h0 : (countedS zs).2 = true := by
    cases e : (countedS zs).2 with
    | true => rfl
    | false => exact absurd (by unfold checkS; rw [if_pos e]) h
  unfold countedS at h0
  by_cases h1 : zs.length < 1 ∨ 288 < zs.length
  · rw [if_pos h1] at h0
    cases h0
  · rw [if_neg h1] at h0
    by_cases h2 : (usedL zs zs.length).all (fun x => decide (Lok x.2)) = true
    · refine ⟨by omega, by omega, fun k hk => ?_⟩
      by_cases hz : zs.getD k 0 = 0
      · omega
      · have hm : (k, zs.getD k 0) ∈ usedL zs zs.length := by
          unfold usedL
          rw [List.mem_filter]
          exact ⟨List.mem_map.2 ⟨k, List.mem_range.2 hk, by rw [List.getD_eq_getElem?_getD]⟩, by simpa using hz⟩
        have := List.all_eq_true.1 h2 _ hm
        exact of_decide_eq_true this
    · rw [if_neg h2] at h0
      cases h0
theorem C_eq {A : Option Addr} {n : Nat} {xs : List Int} {W W' : World} (h : (Kd.int .i64).C W A n xs) (hk : ∀ ad, A = some ad → W'.heap[ad.block]? = W.heap[ad.block]?) : (Kd.int .i64).C W' A n xs := by
  obtain ⟨h1, h2, h3⟩ := h
  refine ⟨h1, h2, fun hn => ?_⟩
  obtain ⟨a, ha, hx⟩ := h3 hn
  refine ⟨a, ha, fun i p hp => ?_⟩
  obtain ⟨cs, hcs, hK, hcell⟩ := hx i p hp
  refine ⟨cs, hcs, hK, fun j u hu => ?_⟩
  have := hcell j u hu
  have hb := hk a ha
  rw [← this]
  have e : (a.add (i * (Kd.int .i64).sz + j)).block = a.block := add_block _ _
  unfold World.cell?
  rw [e, hb]
def TabIn (w : World) (gt : Nat) (cl ss : List Int) : Prop := cl.length = 16 ∧ ∃ A c, w.heap[gt]? = some (.cells (tblCells cl A ss.length c) 117 (0, 0)) ∧ (Kd.int .i64).C w A ss.length ss ∧ (∀ ad, A = some ad → ∃ cells, w.heap[ad.block]? = some (.cells cells 3 (0, 0)))
theorem TabIn.at_ {w : World} {gt : Nat} {cl ss : List Int} (h : TabIn w gt cl ss) : TableAt w gt cl ss := by
  obtain ⟨h1, A, c, h2, h3, _⟩ := h
  exact ⟨h1, A, c, h2, h3⟩
theorem TabIn.same {w w' : World} {gt : Nat} {cl ss : List Int} (h : TabIn w gt cl ss) (hk : ∀ (k : Nat) (t : TypeId) (cells : Array Value), w.heap[k]? = some (.cells cells t (0, 0)) → (t = 117 ∨ t = 3) → w'.heap[k]? = w.heap[k]?) : TabIn w' gt cl ss := by
  obtain ⟨h1, A, c, h2, h3, h4⟩ := h
  refine ⟨h1, A, c, (hk gt _ _ h2 (.inl rfl)).trans h2, C_eq h3 (fun ad e => ?_), fun ad e => ?_⟩
  · obtain ⟨cells, hc⟩ := h4 ad e
    exact hk _ _ _ hc (.inr rfl)
  · obtain ⟨cells, hc⟩ := h4 ad e
    exact ⟨cells, (hk _ _ _ hc (.inr rfl)).trans hc⟩
theorem TabIn.on {w w' : World} {gt : Nat} {cl ss : List Int} (h : TabIn w gt cl ss) (hb : Below w.heap.size w w') : TabIn w' gt cl ss := h.same fun k _ _ hc _ => hb.block k (blk_lt hc)
theorem TabIn.moved {w0 w w' : World} {g c : Nat} {A : Option Addr} {l : List Int} {N at_ : Int} {v v' : Value} {out : List Int} {most : Int} {gt : Nat} {cl ss : List Int} (h : TabIn w gt cl ss) (H : RdrAt w0 w g A c l N at_ v out most) (hm : Moved w w' g v v') : TabIn w' gt cl ss := h.same fun k t cells hc ht => by
  refine hm.keep k (blk_lt hc) (fun e => ?_) (fun e => ?_)
  · subst e
    have := H.blk
    rw [hc] at this
    injection this with this
    injection this with _ this _
    rcases ht with rfl | rfl <;> exact absurd this (by decide)
  · obtain ⟨cells', hc'⟩ := Kd.R_typed H.row k e.symm
    rw [hc] at hc'
    injection hc' with hc'
    injection hc' with _ hc' _
    rcases ht with rfl | rfl <;> exact absurd hc' (by decide)
theorem TabIn.of_own {w : World} {base gt : Nat} {cl ss : List Int} (h : TableOwn w base gt cl ss) : TabIn w gt cl ss := by
  obtain ⟨h1, _, v, h2, h3⟩ := h
  obtain ⟨A, c, rfl⟩ := Kd.R_slice h3
  refine ⟨h1, A, c, h2, (Kd.R_reads' h3).2.2, fun ad e => ?_⟩
  exact Kd.R_typed h3 ad.block (by subst e; rfl)
section
attribute [local go_sem] Oper.semAt_some
set_option maxHeartbeats 16000000 in
set_option maxRecDepth 1000000 in
theorem table_calls (A : Option Addr) (c : Nat) (z : List Int) (w : World) (hr : (Kd.int .i64).C w A z.length z) :
    Calls Tryd.prog 38 #[.slice A z.length c] w fun e w' => (newS z = 0 ∧ ∃ gt, e = .returned (.pointer (some ⟨gt, 0, none⟩)) ∧ TabIn w' gt (countedS z).1 (symsS z) ∧ Below w.heap.size w w') ∨ (newS z ≠ 0 ∧ Gives w.heap.size w w' (newS z) e) := by
  have K := Aside0.mk (Hu.huff_New_all A c z w hr (fun h => ⟨fun x hx => by
    obtain ⟨j, hj, rfl⟩ := List.getElem_of_mem hx
    have := (checkS_lens h).2.2 j hj
    rwa [List.getD_eq_getElem?_getD, List.getElem?_eq_getElem hj] at this, (checkS_lens h).2.1⟩))
  obtain ⟨x, hx⟩ : ∃ x, newS z = x := ⟨_, rfl⟩
  unfold Hu.NewPost at K
  rw [hx] at K ⊢
  clear hx hr
  by_cases h : x = 0
  · subst h
    go_enter Tryd.func38, Tryd.ntmps38
    go_wp2_with (first
      | (go_at_call 44; refine K.out.mono ?_; rintro e w3 ⟨h1, _, hb⟩; obtain ⟨gt, rfl, ho⟩ := h1 rfl; have HB := Aside0.mk hb; have HO := Aside0.mk ho; clear h1 hb ho)
      | (go_at_call 35; refine (must_zero _).mono ?_; rintro e w' ⟨rfl, rfl⟩))
    go_ret
    exact .inl ⟨trivial, gt, rfl, TabIn.of_own HO.out, HB.out⟩
  · have HN := Aside0.mk h
    go_enter Tryd.func38, Tryd.ntmps38
    go_wp2_with (first
      | (go_at_call 44; refine K.out.mono ?_; rintro e w3 ⟨_, h1, hb⟩; obtain rfl := h1 HN.out; have HB := Aside0.mk hb; clear h1 hb)
      | (go_at_call 35; refine (must_else x HN.out _).mono ?_; rintro e w' ⟨p, rfl, hfa, hb⟩))
    exact ⟨rfl, .inr ⟨HN.out, p, rfl, hfa, HB.out.trans (hb.mono HB.out.size)⟩⟩
end
end Go.Proofs.YtgflkkjhckcipaaDoor.Pr

-- YtgflkkjhckcipaaDoorIf6
namespace Go.Proofs.YtgflkkjhckcipaaDoor.Pr
open Go.RowKit Go.Shelf Go.Proofs.YtgflkkjhckcipaaDoorW.PrintWords Go.Proofs.YtgflkkjhckcipaaDoorW.PrintLast Go.Proofs.YtgflkkjhckcipaaDoorW.PrintMore
set_option linter.unusedVariables false
set_option linter.unusedSimpArgs false
theorem wrapid {x : Int} (h0 : -9223372036854775808 ≤ x) (h1 : x ≤ 9223372036854775807) : wrap64 x = x := by unfold wrap64; omega
theorem i64of (a : Nat) (ha : a < 9223372036854775808) : (BitVec.ofInt 64 (a : Int)).toNat = a := by
  rw [BitVec.ofInt_natCast, BitVec.toNat_ofNat]; exact Nat.mod_eq_of_lt (by omega)
theorem i64andN (a b : Nat) (ha : a < 9223372036854775808) (hb : b < 9223372036854775808) : Go.bits .and .i64 (a : Int) (b : Int) = ((a &&& b : Nat) : Int) := by
  have hx : a &&& b < 2 ^ 63 := Nat.and_lt_two_pow _ (by omega)
  show IntKind.i64.wrap ((BitVec.ofInt 64 (a : Int) &&& BitVec.ofInt 64 (b : Int)).toNat : Int) = _
  rw [BitVec.toNat_and, i64of a ha, i64of b hb, IntKind.wrap_i64]
  omega
theorem i64orN (a b : Nat) (ha : a < 9223372036854775808) (hb : b < 9223372036854775808) : Go.bits .or .i64 (a : Int) (b : Int) = ((a ||| b : Nat) : Int) := by
  have hx : a ||| b < 2 ^ 63 := Nat.or_lt_two_pow (by omega) (by omega)
  show IntKind.i64.wrap ((BitVec.ofInt 64 (a : Int) ||| BitVec.ofInt 64 (b : Int)).toNat : Int) = _
  rw [BitVec.toNat_or, i64of a ha, i64of b hb, IntKind.wrap_i64]
  omega
theorem and7 (n : Int) (h0 : 0 ≤ n) (h1 : n ≤ 9223372036854775807) : Go.bits .and .i64 n 7 = n % 8 := by
  have h := i64andN n.toNat 7 (by omega) (by omega)
  rw [show ((n.toNat : Nat) : Int) = n by omega] at h
  rw [show (7 : Int) = ((7 : Nat) : Int) from rfl, h, Nat.and_two_pow_sub_one_eq_mod n.toNat 3]
  omega
theorem and1 (n : Int) (h0 : 0 ≤ n) (h1 : n ≤ 9223372036854775807) : Go.bits .and .i64 n 1 = n % 2 := by
  have h := i64andN n.toNat 1 (by omega) (by omega)
  rw [show ((n.toNat : Nat) : Int) = n by omega] at h
  rw [show (1 : Int) = ((1 : Nat) : Int) from rfl, h, Nat.and_two_pow_sub_one_eq_mod n.toNat 1]
  omega
theorem orAdd (x i b : Nat) (hx : x < 2 ^ i) (hb : b = 0 ∨ b = 1) : x ||| (b * 2 ^ i) = x + b * 2 ^ i := by
  rcases hb with rfl | rfl
  · simp
  · have h := Nat.two_pow_add_eq_or_of_lt hx 1
    rw [Nat.mul_one] at h
    rw [Nat.one_mul, Nat.or_comm, ← h, Nat.add_comm]
theorem shr_eq (x : Int) (i : Nat) (hi : i ≤ 64) : shr .i64 x (i : Int) = x / 2 ^ i := by
  unfold shr
  rw [Int.toNat_natCast, Nat.min_eq_left (by simpa [IntKind.bits] using hi)]
theorem shr8_eq (x : Int) (i : Nat) (hi : i ≤ 8) : shr .u8 x (i : Int) = x / 2 ^ i := by
  unfold shr
  rw [Int.toNat_natCast, Nat.min_eq_left (by simpa [IntKind.bits] using hi)]
theorem shl_eq (x : Int) (i : Nat) (hi : i ≤ 64) : shl .i64 x (i : Int) = wrap64 (x * 2 ^ i) := by
  unfold shl
  rw [Int.toNat_natCast, Nat.min_eq_left (by simpa [IntKind.bits] using hi), i64_w]
def vb (v : Int) (i : Nat) : Int := v / 2 ^ i % 2
theorem div_small {v : Int} {n : Nat} (h0 : 0 ≤ v) (h : v < 2 ^ n) : v / 2 ^ n = 0 := Int.ediv_eq_zero_of_lt h0 h
theorem pow_pos2 (n : Nat) : (0 : Int) < 2 ^ n := Int.pow_pos (by omega)
theorem pow_le2 {m n : Nat} (h : m ≤ n) : (2 : Int) ^ m ≤ 2 ^ n := by
  have := Nat.pow_le_pow_right (n := 2) (by omega) h
  have h2 : ((2 ^ m : Nat) : Int) ≤ ((2 ^ n : Nat) : Int) := by omega
  simpa using h2
theorem lt_of_div_zero {v : Int} {n : Nat} (h : v / 2 ^ n = 0) : v < 2 ^ n := by
  have := Int.lt_mul_ediv_self_add (x := v) (pow_pos2 n)
  rw [h] at this
  omega
theorem bit_of (v : Int) (i : Nat) (hi : i ≤ 64) (h0 : 0 ≤ v) (h1 : v ≤ 9223372036854775807) : Go.bits .and .i64 (shr .i64 v (i : Int)) 1 = vb v i := by
  rw [shr_eq v i hi]
  have hp := pow_pos2 i
  have hq : v / 2 ^ i ≤ v := Int.ediv_le_self _ h0
  have hr : 0 ≤ v / 2 ^ i := Int.ediv_nonneg h0 (by omega)
  rw [and1 _ hr (by omega)]
  rfl
def Byt (l : List Int) : Prop := ∀ x ∈ l, 0 ≤ x ∧ x < 256
theorem byt_get {l : List Int} (h : Byt l) (i : Nat) : 0 ≤ l.getD i 0 ∧ l.getD i 0 < 256 := by
  rw [List.getD_eq_getElem?_getD]
  by_cases hi : i < l.length
  · rw [List.getElem?_eq_getElem hi]
    exact h _ (List.getElem_mem hi)
  · rw [List.getElem?_eq_none (by omega)]
    simp
theorem rd_nat (l : List Int) (i : Nat) : rd l (i : Int) = l.getD i 0 := by unfold rd; rw [Int.toNat_natCast]
def bat (l : List Int) (k : Nat) : Int := l.getD (k / 8) 0 / 2 ^ (k % 8) % 2
theorem bat_01 (l : List Int) (k : Nat) : bat l k = 0 ∨ bat l k = 1 := by unfold bat; omega
def Rgt (l : List Int) (n : Nat) : Prop := Byt l ∧ l.length = (n + 7) / 8 ∧ l.getD (n / 8) 0 < 2 ^ (n % 8)
theorem rgt_whole {l : List Int} (h : Byt l) : Rgt l (8 * l.length) := by
  refine ⟨h, by omega, ?_⟩
  rw [show 8 * l.length / 8 = l.length by omega, show 8 * l.length % 8 = 0 by omega, List.getD_eq_getElem?_getD, List.getElem?_eq_none (by omega)]
  simp
def okR (l : List Int) (n : Int) : Bool := decide (0 ≤ n) && decide (l.length = (n.toNat + 7) / 8) && decide (l.getD (n.toNat / 8) 0 < 2 ^ (n.toNat % 8))
theorem okR_iff {l : List Int} {n : Int} (hb : Byt l) : okR l n = true ↔ 0 ≤ n ∧ Rgt l n.toNat := by
  unfold okR Rgt
  simp only [Bool.and_eq_true, decide_eq_true_eq]
  exact ⟨fun h => ⟨h.1.1, hb, h.1.2, h.2⟩, fun h => ⟨⟨h.1, h.2.2.1⟩, h.2.2.2⟩⟩
theorem okR_nat {l : List Int} {n : Nat} (h : Rgt l n) : okR l (n : Int) = true := (okR_iff h.1).2 ⟨by omega, by rw [Int.toNat_natCast]; exact h⟩
theorem last_zero {l : List Int} {n : Nat} (hb : Byt l) (hl : l.length = (n + 7) / 8) (h8 : n % 8 ≠ 0) : (l.getD (n / 8) 0 / 2 ^ (n % 8) = 0) ↔ l.getD (n / 8) 0 < 2 ^ (n % 8) :=
  ⟨lt_of_div_zero, fun h => div_small (byt_get hb _).1 h⟩
theorem check_eq {k : Nat} (hk : 1 ≤ k) {l : List Int} {n : Int} (hb : Byt l) (hl : l.length ≤ 140737488355328) (h0 : -9223372036854775808 ≤ n) (h1 : n ≤ 9223372036854775807) : bits_Check.f k l n = some (if okR l n = true then 0 else 2) := by
  obtain ⟨k, rfl⟩ : ∃ m, k = m + 1 := ⟨k - 1, by omega⟩
  unfold bits_Check.f
  by_cases hn : n < 0
  · rw [if_pos hn]
    have : okR l n = false := by unfold okR; simp; omega
    simp [bits_Check.j0, this]
  · rw [if_neg hn, and7 n (by omega) h1]
    obtain ⟨m, rfl⟩ : ∃ m : Nat, n = (m : Int) := ⟨n.toNat, by omega⟩
    have e1 : wrap64 ((m : Int) % 8 + 7) = (m : Int) % 8 + 7 := wrapid (by omega) (by omega)
    have e2 : wrap64 ((m : Int) / 8 + ((m : Int) % 8 + 7) / 8) = ((m + 7) / 8 : Nat) := by rw [wrapid (by omega) (by omega)]; omega
    rw [e1, e2]
    by_cases hlen : l.length = (m + 7) / 8
    · have e3 : (((l.length : Nat) : Int) != (((m + 7) / 8 : Nat) : Int)) = false := by rw [bne_eq_false_iff_eq]; omega
      rw [e3]
      simp only [bits_Check.j0, Bool.false_eq_true, if_false]
      rw [and7 _ (by omega) h1]
      by_cases h8 : (m : Int) % 8 = 0
      · rw [if_pos h8]
        have : okR l (m : Int) = true := by
          unfold okR
          rw [Int.toNat_natCast, List.getD_eq_getElem?_getD, List.getElem?_eq_none (by omega)]
          simp [hlen]
          exact pow_pos2 _
        rw [this]; rfl
      · rw [if_neg h8]
        have e4 : wrap64 ((l.length : Int) - 1) = ((m / 8 : Nat) : Int) := by rw [wrapid (by omega) (by omega)]; omega
        rw [e4, if_pos (by omega), if_pos (by omega), if_pos (by omega), rd_nat, show (m : Int) % 8 = ((m % 8 : Nat) : Int) by omega, shr8_eq _ _ (by omega)]
        by_cases hz : l.getD (m / 8) 0 < 2 ^ (m % 8)
        · rw [if_pos ((last_zero hb hlen (by omega)).2 hz)]
          have : okR l (m : Int) = true := by unfold okR; rw [Int.toNat_natCast]; simp only [Bool.and_eq_true, decide_eq_true_eq]; exact ⟨⟨by omega, hlen⟩, hz⟩
          rw [this]; rfl
        · rw [if_neg (fun h => hz ((last_zero hb hlen (by omega)).1 h))]
          have : okR l (m : Int) = false := by unfold okR; rw [Int.toNat_natCast]; simp only [Bool.and_eq_false_iff, decide_eq_false_iff_not]; exact .inr hz
          rw [this]; rfl
    · have e3 : (((l.length : Nat) : Int) != (((m + 7) / 8 : Nat) : Int)) = true := by rw [bne_iff_ne]; omega
      rw [e3]
      have : okR l (m : Int) = false := by unfold okR; rw [Int.toNat_natCast]; simp only [Bool.and_eq_false_iff, decide_eq_false_iff_not]; exact .inl (.inr hlen)
      rw [this]
      simp [bits_Check.j0]
theorem bit_eq {l : List Int} (hb : Byt l) (n : Int) (k : Nat) (hk : k / 8 < l.length) (hk2 : k ≤ 9223372036854775807) : bits_bit.f l n (k : Int) = some (bat l k) := by
  unfold bits_bit.f
  have hx := byt_get hb (k / 8)
  rw [and7 _ (by omega) (by omega), show (k : Int) / 8 = ((k / 8 : Nat) : Int) by omega, show (k : Int) % 8 = ((k % 8 : Nat) : Int) by omega, if_pos (by omega), if_pos (by omega), if_pos (by omega), rd_nat, wrapid (by omega) (by omega), bit_of _ _ (by omega) hx.1 (by omega)]
  rfl
def getV (l : List Int) (a : Nat) : Nat → Int
  | 0 => 0
  | c + 1 => getV l a c + bat l (a + c) * 2 ^ c
theorem getV_range (l : List Int) (a c : Nat) : 0 ≤ getV l a c ∧ getV l a c < 2 ^ c := by
  induction c with
  | zero => simp [getV]
  | succ c ih =>
    rw [getV, Int.pow_succ]
    rcases bat_01 l (a + c) with e | e <;> rw [e] <;> omega
theorem orI64 {x : Int} {i : Nat} {b : Int} (hi : i ≤ 40) (hx0 : 0 ≤ x) (hx : x < 2 ^ i) (hb : b = 0 ∨ b = 1) : Go.bits .or .i64 x (shl .i64 b (i : Int)) = x + b * 2 ^ i := by
  have h40 := pow_le2 hi
  have e40 : (2 : Int) ^ 40 = 1099511627776 := by decide
  rw [e40] at h40
  have hsh : 0 ≤ b * 2 ^ i ∧ b * 2 ^ i ≤ 1099511627776 := by rcases hb with rfl | rfl <;> omega
  rw [shl_eq b i (by omega), wrapid (by omega) (by omega)]
  obtain ⟨c, rfl⟩ : ∃ c : Nat, x = (c : Int) := ⟨x.toNat, by omega⟩
  obtain ⟨d, rfl⟩ : ∃ d : Nat, b = (d : Int) := ⟨b.toNat, by omega⟩
  have hp : ((2 ^ i : Nat) : Int) = 2 ^ i := by simp
  have e1 : (d : Int) * 2 ^ i = ((d * 2 ^ i : Nat) : Int) := by rw [Int.natCast_mul, hp]
  rw [e1] at hsh ⊢
  rw [i64orN c _ (by omega) (by omega), orAdd c i d (by omega) (by omega)]
  omega
theorem getl_eq {l : List Int} {n : Nat} (h : Rgt l n) (hn : n ≤ 1125899906842624) (a : Nat) (c : Nat) (hc : c ≤ 32) (ha : a + c ≤ n) : ∀ (d k i : Nat), i + d = c → d < k →
    bits_Get.l0 k (a : Int) (getV l a i) (c : Int) (i : Int) l (n : Int) = some (getV l a c, 0) := by
  intro d
  induction d with
  | zero =>
    intro k i hi hk
    obtain ⟨k, rfl⟩ : ∃ m, k = m + 1 := ⟨k - 1, by omega⟩
    simp only [bits_Get.l0]
    rw [if_neg (by omega), show i = c by omega]
  | succ d ih =>
    intro k i hi hk
    obtain ⟨k, rfl⟩ : ∃ m, k = m + 1 := ⟨k - 1, by omega⟩
    have hl := h.2.1
    obtain ⟨g0, g1⟩ := getV_range l a i
    simp only [bits_Get.l0]
    rw [if_pos (by omega), show wrap64 ((a : Int) + (i : Int)) = ((a + i : Nat) : Int) by rw [wrapid (by omega) (by omega)]; omega, bit_eq h.1 _ _ (by omega) (by omega)]
    simp only [Option.bind_some]
    rw [if_pos (by omega), orI64 (by omega) g0 g1 (bat_01 l _), show wrap64 ((i : Int) + 1) = ((i + 1 : Nat) : Int) by rw [wrapid (by omega) (by omega)]; omega]
    exact ih k (i + 1) (by omega) (by omega)
def getS (l : List Int) (n a c : Int) : Int × Int :=
  if (okR l n && decide (0 ≤ c) && decide (c ≤ 32) && decide (0 ≤ a) && decide (a ≤ n)) = true then (if n - a < c then (0, 4) else (getV l a.toNat c.toNat, 0)) else (0, 2)
theorem get_eq {k : Nat} (hk : 40 ≤ k) {l : List Int} {n a c : Int} (hb : Byt l) (hl : l.length ≤ 140737488355328) (h0 : -9223372036854775808 ≤ n) (h1 : n ≤ 9223372036854775807) : bits_Get.f k l n a c = some (getS l n a c) := by
  obtain ⟨k, rfl⟩ : ∃ m, k = m + 1 := ⟨k - 1, by omega⟩
  unfold bits_Get.f getS
  rw [check_eq (by omega) hb hl h0 h1]
  simp only [Option.bind_some]
  cases hr : okR l n with
  | false => simp [bits_Get.j0]
  | true =>
    simp only [if_true, Bool.true_and]
    by_cases q1 : c < 0
    · simp [bits_Get.j0, q1, show ¬ (0 ≤ c) by omega]
    · by_cases q2 : c > 32
      · simp [bits_Get.j0, q1, q2, show ¬ (c ≤ 32) by omega]
      · by_cases q3 : a < 0
        · simp [bits_Get.j0, q1, q2, q3, show ¬ (0 ≤ a) by omega]
        · by_cases q4 : a > n
          · simp [bits_Get.j0, q1, q2, q3, q4, show ¬ (a ≤ n) by omega]
          · rw [if_neg q1, if_neg q2, if_neg q3]
            have e : decide (a > n) = false := by simpa using q4
            have e2 : (decide (0 ≤ c) && decide (c ≤ 32) && decide (0 ≤ a) && decide (a ≤ n)) = true := by simp only [Bool.and_eq_true, decide_eq_true_eq]; omega
            rw [e, e2]
            simp only [bits_Get.j0, Bool.false_eq_true, if_false, if_true]
            rw [wrapid (by omega) (by omega)]
            by_cases q5 : n - a < c
            · rw [if_pos q5, if_pos q5]
            · rw [if_neg q5, if_neg q5]
              obtain ⟨r1, r2⟩ := (okR_iff hb).1 hr
              obtain ⟨m, rfl⟩ : ∃ m : Nat, n = (m : Int) := ⟨n.toNat, by omega⟩
              obtain ⟨d, rfl⟩ : ∃ m : Nat, c = (m : Int) := ⟨c.toNat, by omega⟩
              obtain ⟨b, rfl⟩ : ∃ m : Nat, a = (m : Int) := ⟨a.toNat, by omega⟩
              rw [Int.toNat_natCast] at r2
              have := r2.2.1
              simp only [Int.toNat_natCast]
              exact getl_eq r2 (by omega) b d (by omega) (by omega) d k 0 (by omega) (by omega)
theorem Hu.usedL_mem {zs : List Int} {k : Nat} {x : Nat × Int} (h : x ∈ Hu.usedL zs k) : x.1 < k ∧ x.2 = zs[x.1]?.getD 0 ∧ x.2 ≠ 0 := by
  unfold Hu.usedL at h
  rw [List.mem_filter, List.mem_map] at h
  obtain ⟨⟨j, hj, rfl⟩, h2⟩ := h
  exact ⟨List.mem_range.1 hj, rfl, of_decide_eq_true h2⟩
def OKL (l : List Int) : Prop := 1 ≤ l.length ∧ l.length ≤ 288 ∧ ∀ x ∈ l, 0 ≤ x ∧ x ≤ 15
theorem rdN (l : List Int) (i : Nat) : rd l (i : Int) = l[i]?.getD 0 := by unfold rd; rw [Int.toNat_natCast, List.getD_eq_getElem?_getD]
theorem rd_set (l : List Int) (i j : Nat) (x : Int) (hi : i < l.length) : rd (l.set i x) (j : Int) = if i = j then x else rd l (j : Int) := by
  rw [rdN, rdN, List.getElem?_set]
  by_cases h : i = j
  · subst h
    rw [if_pos rfl, if_pos rfl, if_pos hi]
    rfl
  · rw [if_neg h, if_neg h]
theorem wrap64_id {x : Int} (h0 : -9223372036854775808 ≤ x) (h1 : x ≤ 9223372036854775807) : wrap64 x = x := by unfold wrap64; omega
theorem take_succ_getD (l : List Int) {k : Nat} (hk : k < l.length) : l.take (k + 1) = l.take k ++ [l[k]?.getD 0] := by
  rw [List.take_add_one, List.getElem?_eq_getElem hk]; rfl
theorem mem_of_getD {l : List Int} {k : Nat} (hk : k < l.length) : l[k]?.getD 0 ∈ l := by rw [List.getElem?_eq_getElem hk]; exact List.getElem_mem hk
theorem count_le (l : List Int) (k : Nat) (x : Int) : (l.take k).count x ≤ k := Nat.le_trans List.count_le_length (by rw [List.length_take]; omega)
theorem cnt_rd (l : List Int) (h : OKL l) : ∀ (k : Nat), k ≤ l.length → ∀ j : Nat, j ≤ 15 → rd (Hu.cntL (Hu.usedL l k)) (j : Int) = if j = 0 then 0 else (((l.take k).count (j : Int) : Nat) : Int)
  | 0, _, j, hj => by
    rw [Hu.usedL_zero, rdN]
    unfold Hu.cntL
    rw [List.foldl_nil, List.getElem?_replicate, if_pos (by omega), List.take_zero, List.count_nil]
    split <;> rfl
  | k + 1, hk, j, hj => by
    have ih := cnt_rd l h k (by omega)
    rw [Hu.usedL_succ, take_succ_getD l (by omega), List.count_append]
    obtain ⟨x, hx⟩ : ∃ x, l[k]?.getD 0 = x := ⟨_, rfl⟩
    have hm := h.2.2 _ (mem_of_getD (show k < l.length by omega))
    rw [hx] at hm ⊢
    by_cases h0 : x = 0
    · subst h0
      rw [if_pos rfl, ih j hj]
      by_cases hj0 : j = 0
      · rw [if_pos hj0, if_pos hj0]
      · rw [if_neg hj0, if_neg hj0, List.count_singleton, beq_eq_false_iff_ne.mpr (show (0 : Int) ≠ (j : Int) by omega)]
        rfl
    · rw [if_neg h0, Hu.cntL_snoc]
      unfold Hu.cntStep
      obtain ⟨y, rfl⟩ : ∃ y : Nat, x = (y : Int) := ⟨x.toNat, by omega⟩
      have e1 := ih y (by omega)
      rw [if_neg (by omega)] at e1
      rw [Int.toNat_natCast, rd_set _ _ _ _ (by rw [Hu.cntL_len]; omega), e1, ih j hj, List.count_singleton]
      have hc := count_le l k (y : Int)
      by_cases hyj : y = j
      · subst hyj
        rw [if_pos rfl, if_neg (show ¬ y = 0 by omega), if_pos (beq_iff_eq.mpr rfl), wrap64_id (by omega) (by have := h.2.1; omega)]
        simp
      · rw [if_neg hyj, if_neg (c := ((y : Int) == (j : Int)) = true) (by simp; omega)]
        simp
theorem counted_ok (l : List Int) : (Hu.countedS l).2 = true ↔ OKL l := by
  unfold Hu.countedS OKL
  by_cases h1 : l.length < 1 ∨ 288 < l.length
  · rw [if_pos h1]
    exact ⟨fun h => (by cases h), fun h => by omega⟩
  · rw [if_neg h1]
    by_cases h2 : (Hu.usedL l l.length).all (fun x => decide (Hu.Lok x.2)) = true
    · rw [if_pos h2]
      refine ⟨fun _ => ⟨by omega, by omega, fun x hx => ?_⟩, fun _ => rfl⟩
      obtain ⟨i, hi, rfl⟩ := List.getElem_of_mem hx
      by_cases h0 : l[i] = 0
      · omega
      · have hm : (i, l[i]) ∈ Hu.usedL l l.length := by
          unfold Hu.usedL
          rw [List.mem_filter, List.mem_map]
          exact ⟨⟨i, List.mem_range.2 hi, by rw [List.getElem?_eq_getElem hi]; rfl⟩, decide_eq_true h0⟩
        exact of_decide_eq_true (List.all_eq_true.1 h2 _ hm)
    · rw [if_neg h2]
      refine ⟨fun h => (by cases h), fun h => absurd ?_ h2⟩
      refine List.all_eq_true.2 fun x hx => decide_eq_true ?_
      obtain ⟨a, b, c⟩ := Hu.usedL_mem hx
      rw [b]
      exact h.2.2 _ (mem_of_getD a)
theorem counted_rd (l : List Int) (h : OKL l) (j : Nat) (hj : j ≤ 15) : rd (Hu.countedS l).1 (j : Int) = if j = 0 then 0 else ((l.count (j : Int) : Nat) : Int) := by
  have hc : (Hu.countedS l).1 = Hu.cntL (Hu.usedL l l.length) := by
    have := (counted_ok l).2 h
    unfold Hu.countedS at this ⊢
    by_cases h1 : l.length < 1 ∨ 288 < l.length
    · rw [if_pos h1] at this; cases this
    · rw [if_neg h1] at this ⊢
      by_cases h2 : (Hu.usedL l l.length).all (fun x => decide (Hu.Lok x.2)) = true
      · rw [if_pos h2]
      · rw [if_neg h2] at this; cases this
  have := cnt_rd l h l.length (Nat.le_refl _) j hj
  rw [List.take_length] at this
  rw [hc, this]
def takeT (l : List Int) : Nat → Nat
  | 0 => 0
  | d + 1 => l.count ((15 - d : Nat) : Int) * 2 ^ d + takeT l d
theorem room_sign (l : List Int) (h : OKL l) : ∀ (d : Nat), d ≤ 15 → ∀ left : Int, 0 ≤ left → left ≤ 2 ^ (15 - d) →
    (Hu.roomF (Hu.countedS l).1 d left < 0 ↔ left * 2 ^ d < (takeT l d : Int)) ∧ (0 < Hu.roomF (Hu.countedS l).1 d left ↔ (takeT l d : Int) < left * 2 ^ d)
  | 0, _, left, h0, h1 => by
    unfold Hu.roomF takeT
    simp
  | d + 1, hd, left, h0, h1 => by
    have hp : (2 : Int) ^ (15 - (d + 1)) ≤ 2 ^ 15 := by
      have : (2 : Nat) ^ (15 - (d + 1)) ≤ 2 ^ 15 := Nat.pow_le_pow_right (by omega) (by omega)
      exact_mod_cast this
    have hp2 : (2 : Int) ^ (15 - d) = 2 * 2 ^ (15 - (d + 1)) := by
      rw [show 15 - d = 15 - (d + 1) + 1 by omega, Int.pow_succ, Int.mul_comm]
    have hc := counted_rd l h (15 - d) (by omega)
    rw [if_neg (by omega)] at hc
    have hcl : l.count ((15 - d : Nat) : Int) ≤ 288 := Nat.le_trans List.count_le_length h.2.1
    unfold Hu.roomF takeT
    rw [hc]
    obtain ⟨c, hcc⟩ : ∃ c : Nat, l.count ((15 - d : Nat) : Int) = c := ⟨_, rfl⟩
    rw [hcc] at hcl ⊢
    rw [wrap64_id (x := 2 * left) (by omega) (by omega), wrap64_id (by omega) (by omega)]
    have hpd : (0 : Int) < 2 ^ d := Int.pow_pos (by omega)
    have e : left * 2 ^ (d + 1) = 2 * left * 2 ^ d := by rw [Int.pow_succ, Int.mul_comm 2 left, Int.mul_assoc, Int.mul_comm (2 ^ d) 2]
    have hcast : ((c * 2 ^ d + takeT l d : Nat) : Int) = (c : Int) * 2 ^ d + (takeT l d : Int) := by push_cast; rfl
    rw [hcast, e]
    have ed : (2 * left - (c : Int)) * 2 ^ d = 2 * left * 2 ^ d - (c : Int) * 2 ^ d := Int.sub_mul _ _ _
    by_cases hn : 2 * left - (c : Int) < 0
    · rw [if_pos hn]
      have hlt : (2 * left - (c : Int)) * 2 ^ d < 0 := Int.mul_neg_of_neg_of_pos hn hpd
      refine ⟨⟨fun _ => by omega, fun _ => hn⟩, ⟨fun h => by omega, fun h => by omega⟩⟩
    · rw [if_neg hn]
      obtain ⟨i1, i2⟩ := room_sign l h d (by omega) (2 * left - (c : Int)) (by omega) (by omega)
      rw [ed] at i1 i2
      exact ⟨i1.trans ⟨fun h => by omega, fun h => by omega⟩, i2.trans ⟨fun h => by omega, fun h => by omega⟩⟩
theorem checkS_eq (l : List Int) (h : OKL l) : Hu.checkS l = if takeT l 15 > 32768 then 11 else if takeT l 15 < 32768 then 12 else 0 := by
  obtain ⟨i1, i2⟩ := room_sign l h 15 (by omega) 1 (by omega) (by omega)
  unfold Hu.checkS
  rw [if_neg (by rw [(counted_ok l).2 h]; decide)]
  change (Hu.roomS (Hu.countedS l).1 < 0 ↔ _) at i1
  change (0 < Hu.roomS (Hu.countedS l).1 ↔ _) at i2
  have e : (1 : Int) * 2 ^ 15 = 32768 := by decide
  rw [e] at i1 i2
  by_cases h1 : takeT l 15 > 32768
  · rw [if_pos h1, if_pos (i1.2 (by omega))]
  · rw [if_neg h1, if_neg (fun hh => by have := i1.1 hh; omega)]
    by_cases h2 : takeT l 15 < 32768
    · rw [if_pos h2, if_pos (i2.2 (by omega))]
    · rw [if_neg h2, if_neg (fun hh => by have := i2.1 hh; omega)]
theorem checkS_bad (l : List Int) (h : ¬ OKL l) : Hu.checkS l = 2 := by
  unfold Hu.checkS
  rw [if_pos]
  cases hh : (Hu.countedS l).2 with
  | false => rfl
  | true => exact absurd ((counted_ok l).1 hh) h
def Ev {α : Type} (g : Nat → Option α) (r : α) : Prop := ∃ k, ∀ k', k ≤ k' → g k' = some r
theorem Ev.succ {α : Type} {g g' : Nat → Option α} {r : α} (hs : ∀ k, g (k + 1) = g' k) (h : Ev g' r) : Ev g r := by
  obtain ⟨k, h⟩ := h
  refine ⟨k + 1, fun k' hk => ?_⟩
  obtain ⟨k', rfl⟩ : ∃ m, k' = m + 1 := ⟨k' - 1, by omega⟩
  rw [hs]
  exact h k' (by omega)
theorem Ev.done {α : Type} {g : Nat → Option α} {r : α} (hs : ∀ k, g (k + 1) = some r) : Ev g r := ⟨1, fun k' hk => by obtain ⟨k', rfl⟩ : ∃ m, k' = m + 1 := ⟨k' - 1, by omega⟩; exact hs k'⟩
def firstC (l : List Int) : Nat → Nat
  | 0 => 0
  | j + 1 => (firstC l j + if j = 0 then 0 else l.count (j : Int)) * 2
theorem firstC_le (l : List Int) (hl : l.length ≤ 288) : ∀ j, firstC l j + 576 ≤ 576 * 2 ^ j
  | 0 => by simp [firstC]
  | j + 1 => by
    have ih := firstC_le l hl j
    have hc : l.count (j : Int) ≤ 288 := Nat.le_trans List.count_le_length hl
    rw [show firstC l (j + 1) = (firstC l j + if j = 0 then 0 else l.count (j : Int)) * 2 from rfl, Nat.pow_succ]
    split <;> omega
theorem firstC_lt (l : List Int) (hl : l.length ≤ 288) {j : Nat} (hj : j ≤ 16) : firstC l j ≤ 37748736 := by
  have h := firstC_le l hl j
  have : (2 : Nat) ^ j ≤ 2 ^ 16 := Nat.pow_le_pow_right (by omega) hj
  omega
theorem okl_of_check {l : List Int} (hc : Hu.checkS l = 0 ∨ Hu.checkS l = 12) : OKL l := by
  by_cases h : OKL l
  · exact h
  · have := checkS_bad l h
    omega
theorem byt_wf {l : List Int} (h : ∀ x ∈ l, (Lit.int .u8 x).wf = true) : Byt l := fun x hx => by
  have h2 : IntKind.u8.min ≤ x ∧ x ≤ IntKind.u8.max := by simpa [Lit.wf] using h x hx
  have e1 : IntKind.u8.min = 0 := by decide +kernel
  have e2 : IntKind.u8.max = 255 := by decide +kernel
  omega
def cX (l : List Int) (j : Nat) : Nat := firstC l j + if j = 0 then 0 else l.count (j : Int)
theorem cX_take (l : List Int) : ∀ j, j ≤ 15 → cX l j * 2 ^ (15 - j) + takeT l (15 - j) = takeT l 15
  | 0, _ => by unfold cX firstC; simp
  | j + 1, hj => by
    have ih := cX_take l j (by omega)
    have e : firstC l (j + 1) = cX l j * 2 := rfl
    have e1 : 15 - j = 15 - (j + 1) + 1 := by omega
    have e2 : takeT l (15 - j) = l.count ((j + 1 : Nat) : Int) * 2 ^ (15 - (j + 1)) + takeT l (15 - (j + 1)) := by
      rw [e1]
      show l.count ((15 - (15 - (j + 1)) : Nat) : Int) * 2 ^ (15 - (j + 1)) + takeT l (15 - (j + 1)) = _
      rw [show 15 - (15 - (j + 1)) = j + 1 by omega]
    have e3 : cX l (j + 1) = cX l j * 2 + l.count ((j + 1 : Nat) : Int) := by
      show firstC l (j + 1) + (if j + 1 = 0 then 0 else l.count ((j + 1 : Nat) : Int)) = _
      rw [if_neg (by omega), e]
    rw [e3, Nat.add_mul, ← ih, e2, e1, Nat.pow_succ, Nat.mul_assoc, Nat.mul_comm 2 (2 ^ _)]
    omega
end Go.Proofs.YtgflkkjhckcipaaDoor.Pr

