-- Written by a program of this session (wip/tool/graft.py), which runs the kit's printer over texts by hand.
import Derived.Test.YthcndpdfcippiaaPr0
import Derived.Test.YthcndpdfcippiaaPr1
import Derived.Test.YthcndpdfcippiaaPr6
import Derived.Test.YthcndpdfcippiaaPr7
import Derived.Test.YthcndpdfcippiaaPr12
import Derived.Test.YthcndpdfcippiaaPr13
import Derived.Test.YthcndpdfcippiaaPr15
namespace Go.Proofs.Ythcndpdfcippiaa.Pr
open Go.RowKit Go.Proofs.YthcndpdfcippiaaW.PrintWords Go.Proofs.YthcndpdfcippiaaW.PrintLast Go.Proofs.YthcndpdfcippiaaW.PrintMore
attribute [local go_sem] max2_int min2_int max_two min_two max_three min_three max_four min_four   -- for this text's walks alone
set_option linter.unusedVariables false
set_option linter.unusedSimpArgs false

/-! ### valiselaw04_lives: function 16 (by hand) -/

/-- A table's cells: how many codes there are of each length, and the symbols. -/
def tblCells (cl : List Int) (A : Option Addr) (n c : Nat) : Array Value := (cl.map (Value.int .i64) ++ [Value.slice A n c]).toArray
theorem tbl_cell {W : World} {g n c : Nat} {A : Option Addr} {cl : List Int} (h : W.heap[g]? = some (.cells (tblCells cl A n c) 70 (0, 0))) (hl : cl.length = 16) (i : Nat) (hi : i < 16) : W.cell? ⟨g, i, none⟩ = some (.int .i64 (rd cl (i : Int))) := by
  rw [blk_cell h]
  unfold tblCells rd
  rw [List.getElem?_toArray, List.getElem?_append_left (by simp; omega), List.getElem?_map, List.getD_eq_getElem?_getD, Int.toNat_natCast, List.getElem?_eq_getElem (show i < cl.length by omega)]
  rfl
theorem tbl_slice {W : World} {g n c : Nat} {A : Option Addr} {cl : List Int} (h : W.heap[g]? = some (.cells (tblCells cl A n c) 70 (0, 0))) (hl : cl.length = 16) : W.cell? ⟨g, 16, none⟩ = some (Value.slice A n c) := by
  rw [blk_cell h]
  unfold tblCells
  rw [List.getElem?_toArray, List.getElem?_append_right (by simp; omega)]
  simp [hl]
def TableAt (w : World) (g : Nat) (cl ss : List Int) : Prop := cl.length = 16 ∧ ∃ A c, w.heap[g]? = some (.cells (tblCells cl A ss.length c) 70 (0, 0)) ∧ Kd.C (Kd.int .i64) w A ss.length ss
def readL (k : Nat) (cl ss l : List Int) (m : Int) : Nat → Int → Int → Int → Int → Option (Int × Int × Int)
  | 0, _, _, _, _ => some (0, 0, 13)
  | d + 1, p, code, first, frm => (bits_Get.f k l m p 1).bind fun t => if t.2 = 0 then
      (if wrap64 (Go.bits .or .i64 (wrap64 (code * 2)) t.1 - wrap64 (first * 2)) < rd cl ((15 - d : Nat) : Int) then
        (if 0 ≤ wrap64 (wrap64 (frm + Go.bits .or .i64 (wrap64 (code * 2)) t.1) - wrap64 (first * 2)) then (if wrap64 (wrap64 (frm + Go.bits .or .i64 (wrap64 (code * 2)) t.1) - wrap64 (first * 2)) < (ss.length : Int) then some (rd ss (wrap64 (wrap64 (frm + Go.bits .or .i64 (wrap64 (code * 2)) t.1) - wrap64 (first * 2))), wrap64 (p + 1), 0) else none) else none)
      else if wrap64 (frm + rd cl ((15 - d : Nat) : Int)) = (ss.length : Int) then some (0, 0, 13)
      else readL k cl ss l m d (wrap64 (p + 1)) (Go.bits .or .i64 (wrap64 (code * 2)) t.1) (wrap64 (wrap64 (first * 2) + rd cl ((15 - d : Nat) : Int))) (wrap64 (frm + rd cl ((15 - d : Nat) : Int)))) else some (0, 0, 4)
/-- What Read tells of a table. -/
def readF (k : Nat) (cl ss l : List Int) (m p : Int) : Option (Int × Int × Int) :=
  (bits_Check.f k l m).bind fun e => if e = 0 then (if p < 0 then some (0, 0, 2) else if p > m then some (0, 0, 2) else readL k cl ss l m 15 p 0 0 0) else some (0, 0, 2)
section
attribute [local go_sem] Oper.semAt_some
set_option maxHeartbeats 4000000 in
set_option maxRecDepth 100000 in
theorem table_Read.nil (A : Option Addr) (c : Nat) (l : List Int) (m p : Int) (w : World) : Calls Try.prog 23 #[.pointer none, .agg #[.slice A l.length c, .int .i64 m], .int .i64 p] w fun e w' => e = .returned (.tuple #[.int .i64 0, .int .i64 0, .int .i64 1]) ∧ Below w.heap.size w w' := by
  go_enter Try.func23, Try.ntmps23
  go_wp2
  go_ret3
  exact ⟨rfl, below_alloc (Below.refl _ _) _⟩
set_option maxHeartbeats 4000000 in
set_option maxRecDepth 100000 in
theorem table_Read.calls (k g : Nat) (A : Option Addr) (c : Nat) (l : List Int) (m p : Int) (cl ss : List Int) (r1 r2 r3 : Int) (w : World) (hr : Kd.C (Kd.int .u8) w A l.length l) (hc : l.length ≤ c) (ht : TableAt w g cl ss) (h : readF k cl ss l m p = some (r1, r2, r3)) :
    Calls Try.prog 23 #[.pointer (some ⟨g, 0, none⟩), .agg #[.slice A l.length c, .int .i64 m], .int .i64 p] w fun e w' => e = .returned (.tuple #[.int .i64 r1, .int .i64 r2, .int .i64 r3]) ∧ Below w.heap.size w w' := by
  have HR := Aside0.mk hr
  have HC := Aside0.mk hc
  have HB := Aside0.mk (Below.refl w.heap.size w)
  obtain ⟨hcl, At, ct, htb, htc⟩ := ht
  have HL := Aside0.mk hcl
  have TB := Aside0.mk htb
  have TC := Aside0.mk htc
  clear hr hc hcl htb htc
  unfold readF at h
  obtain ⟨e, E1, h⟩ := Option.bind_eq_some_iff.mp h
  have HE := Aside0.mk E1
  clear E1
  by_cases he : e = 0
  · rw [if_pos he] at h
    subst he
    by_cases s0 : p < 0
    · rw [if_pos s0] at h
      have s0b : decide (p < 0) = true := decide_eq_true s0
      replace s0 := eq_true s0
      injection h with h
      injection h with h1 h
      injection h with h2 h3
      subst h1 h2 h3
      go_enter Try.func23, Try.ntmps23
      go_wp2_with (first
        | ((with_reducible refine gate_dst (N := 4) rfl ?_); refine box_event ?hg (N := 4) ?hd (cs := #[.slice A l.length c, .int .i64 m]) (t := 36) ?hr ?_; (case hd => rfl); (case hg => rfl); (case hr => first | (go_simp; done) | (go_simp; rfl)); intro g4 hg w3 hbox hb; have n0 := Aside0.mk (below_then HB.out HB.out.size hb); have n1 := Aside0.mk (blk_below TB.out hb); have n2 := Aside0.mk (Kd.C_below TC.out hb); have n3 := Aside0.mk (hbox); have n4 := Aside0.mk ((by rw [hg]; exact HB.out.size : w.heap.size ≤ g4)); clear HB TB TC; have HB := n0; have TB := n1; have TC := n2; have B4 := n3; have G4 := n4; clear n0 n1 n2 n3 n4; clear hg hbox hb; have hcg40 : w3.cell? ⟨g4, 0, none⟩ = some (.slice A l.length c) := (blk_cell B4.out 0).trans rfl; have hcg41 : w3.cell? ⟨g4, 1, none⟩ = some (.int .i64 m) := (blk_cell B4.out 1).trans rfl)
        | (go_at_call 30; refine (bits_Check.calls k A c l m 0 _ (Kd.C_below HR.out HB.out) HC.out HE.out).mono ?_; rintro e_ w4 ⟨rfl, hb⟩; have n0 := Aside0.mk (below_then HB.out HB.out.size hb); have n1 := Aside0.mk (blk_below B4.out hb); have n2 := Aside0.mk (blk_below TB.out hb); have n3 := Aside0.mk (Kd.C_below TC.out hb); clear HB B4 TB TC; have HB := n0; have B4 := n1; have TB := n2; have TC := n3; clear n0 n1 n2 n3; clear hb; clear hcg40 hcg41; have hcg40 : w4.cell? ⟨g4, 0, none⟩ = some (.slice A l.length c) := (blk_cell B4.out 0).trans rfl; have hcg41 : w4.cell? ⟨g4, 1, none⟩ = some (.int .i64 m) := (blk_cell B4.out 1).trans rfl)
        )
      go_ret3
      exact ⟨rfl, by repeat (first | (with_reducible first | exact HB.out | apply below_alloc | apply pw_below_drewN | apply below_drew1) | exact HB.out)⟩
    · rw [if_neg s0] at h
      have s0b : decide (p < 0) = false := decide_eq_false s0
      by_cases s1 : p > m
      · rw [if_pos s1] at h
        have s1b : decide (m < p) = true := decide_eq_true s1
        have s1c := eq_true (show m < p from s1)
        replace s0 := eq_false s0
        clear s1
        injection h with h
        injection h with h1 h
        injection h with h2 h3
        subst h1 h2 h3
        go_enter Try.func23, Try.ntmps23
        go_wp2_with (first
        | ((with_reducible refine gate_dst (N := 4) rfl ?_); refine box_event ?hg (N := 4) ?hd (cs := #[.slice A l.length c, .int .i64 m]) (t := 36) ?hr ?_; (case hd => rfl); (case hg => rfl); (case hr => first | (go_simp; done) | (go_simp; rfl)); intro g4 hg w3 hbox hb; have n0 := Aside0.mk (below_then HB.out HB.out.size hb); have n1 := Aside0.mk (blk_below TB.out hb); have n2 := Aside0.mk (Kd.C_below TC.out hb); have n3 := Aside0.mk (hbox); have n4 := Aside0.mk ((by rw [hg]; exact HB.out.size : w.heap.size ≤ g4)); clear HB TB TC; have HB := n0; have TB := n1; have TC := n2; have B4 := n3; have G4 := n4; clear n0 n1 n2 n3 n4; clear hg hbox hb; have hcg40 : w3.cell? ⟨g4, 0, none⟩ = some (.slice A l.length c) := (blk_cell B4.out 0).trans rfl; have hcg41 : w3.cell? ⟨g4, 1, none⟩ = some (.int .i64 m) := (blk_cell B4.out 1).trans rfl)
        | (go_at_call 30; refine (bits_Check.calls k A c l m 0 _ (Kd.C_below HR.out HB.out) HC.out HE.out).mono ?_; rintro e_ w4 ⟨rfl, hb⟩; have n0 := Aside0.mk (below_then HB.out HB.out.size hb); have n1 := Aside0.mk (blk_below B4.out hb); have n2 := Aside0.mk (blk_below TB.out hb); have n3 := Aside0.mk (Kd.C_below TC.out hb); clear HB B4 TB TC; have HB := n0; have B4 := n1; have TB := n2; have TC := n3; clear n0 n1 n2 n3; clear hb; clear hcg40 hcg41; have hcg40 : w4.cell? ⟨g4, 0, none⟩ = some (.slice A l.length c) := (blk_cell B4.out 0).trans rfl; have hcg41 : w4.cell? ⟨g4, 1, none⟩ = some (.int .i64 m) := (blk_cell B4.out 1).trans rfl)
        )
        go_ret3
        exact ⟨rfl, by repeat (first | (with_reducible first | exact HB.out | apply below_alloc | apply pw_below_drewN | apply below_drew1) | exact HB.out)⟩
      · rw [if_neg s1] at h
        have s1b : decide (m < p) = false := decide_eq_false s1
        have s1c := eq_false (show ¬ m < p from s1)
        replace s0 := eq_false s0
        have H' := Aside0.mk h
        clear h s1
        go_enter Try.func23, Try.ntmps23
        go_wp2_with (first
        | ((with_reducible refine gate_dst (N := 4) rfl ?_); refine box_event ?hg (N := 4) ?hd (cs := #[.slice A l.length c, .int .i64 m]) (t := 36) ?hr ?_; (case hd => rfl); (case hg => rfl); (case hr => first | (go_simp; done) | (go_simp; rfl)); intro g4 hg w3 hbox hb; have n0 := Aside0.mk (below_then HB.out HB.out.size hb); have n1 := Aside0.mk (blk_below TB.out hb); have n2 := Aside0.mk (Kd.C_below TC.out hb); have n3 := Aside0.mk (hbox); have n4 := Aside0.mk ((by rw [hg]; exact HB.out.size : w.heap.size ≤ g4)); clear HB TB TC; have HB := n0; have TB := n1; have TC := n2; have B4 := n3; have G4 := n4; clear n0 n1 n2 n3 n4; clear hg hbox hb; have hcg40 : w3.cell? ⟨g4, 0, none⟩ = some (.slice A l.length c) := (blk_cell B4.out 0).trans rfl; have hcg41 : w3.cell? ⟨g4, 1, none⟩ = some (.int .i64 m) := (blk_cell B4.out 1).trans rfl)
        | (go_at_call 30; refine (bits_Check.calls k A c l m 0 _ (Kd.C_below HR.out HB.out) HC.out HE.out).mono ?_; rintro e_ w4 ⟨rfl, hb⟩; have n0 := Aside0.mk (below_then HB.out HB.out.size hb); have n1 := Aside0.mk (blk_below B4.out hb); have n2 := Aside0.mk (blk_below TB.out hb); have n3 := Aside0.mk (Kd.C_below TC.out hb); clear HB B4 TB TC; have HB := n0; have B4 := n1; have TB := n2; have TC := n3; clear n0 n1 n2 n3; clear hb; clear hcg40 hcg41; have hcg40 : w4.cell? ⟨g4, 0, none⟩ = some (.slice A l.length c) := (blk_cell B4.out 0).trans rfl; have hcg41 : w4.cell? ⟨g4, 1, none⟩ = some (.int .i64 m) := (blk_cell B4.out 1).trans rfl)
        )
        clear s0 s0b s1b s1c hcg40 hcg41
        go_loopw [2, 9, 10, 11, 12] (fun x2 x9 x10 x11 x12 w' => ∃ (d : Nat) (p2 code fst frm : Int), d ≤ 15 ∧ x2 = .int .i64 p2 ∧ x9 = .int .i64 code ∧ x10 = .int .i64 fst ∧ x11 = .int .i64 frm ∧ x12 = .int .i64 ((16 - d : Nat) : Int) ∧ Aside0 (readL k cl ss l m d p2 code fst frm = some (r1, r2, r3)) ∧ Aside0 (w'.heap[g4]? = some (.cells #[.slice A l.length c, .int .i64 m] 36 (0, 0))) ∧ Aside0 (w'.heap[g]? = some (.cells (tblCells cl At ss.length ct) 70 (0, 0))) ∧ Aside0 (Kd.C (Kd.int .i64) w' At ss.length ss) ∧ Aside0 (Below w.heap.size w w'))
          (fun _ _ _ _ x12 _ => 16 - (intOf x12).toNat)
        case atStart => exact ⟨15, p, 0, 0, 0, by omega, rfl, rfl, rfl, rfl, rfl, H', B4, TB, TC, HB⟩
        case round =>
          clear H' B4 TB TC HB
          obtain ⟨d, p2, code, fst, frm, hd, rfl, rfl, rfl, rfl, rfl, H, B4, TB, TC, HB⟩ := hrel
          cases d with
          | zero =>
            simp only [readL] at H
            have H1 := H.out
            injection H1 with h
            injection h with h1 h
            injection h with h2 h3
            subst h1 h2 h3
            have q := eq_false (show ¬ ((16 - 0 : Nat) : Int) ≤ 15 by omega)
            clear H
            go_wp2
            go_ret3
            exact ⟨rfl, HB.out⟩
          | succ d =>
            obtain ⟨lm, hlm⟩ : ∃ lm : Nat, 16 - (d + 1) = lm := ⟨_, rfl⟩
            have hlm2 : 15 - d = lm := by omega
            rw [hlm]
            have H1 := H.out
            simp only [readL, hlm2] at H1
            clear H
            have q := eq_true (show (lm : Int) ≤ 15 by omega)
            have q0 := eq_true (show (0 : Int) ≤ (lm : Int) by omega)
            have q1 := eq_true (show (lm : Int) < 16 by omega)
            have q2 := eq_true (show lm < 16 by omega)
            have q3 := eq_true (show lm ≤ 15 by omega)
            have LM := Aside0.mk (show lm < 16 by omega)
            obtain ⟨⟨bit, er⟩, E2, H1⟩ := Option.bind_eq_some_iff.mp H1
            have HG := Aside0.mk E2
            clear E2
            dsimp only at H1
            obtain ⟨nn, hnn⟩ : ∃ z, rd cl (lm : Int) = z := ⟨_, rfl⟩
            rw [hnn] at H1
            have NN := Aside0.mk hnn
            clear hnn
            have hcg40 : wr.cell? ⟨g4, 0, none⟩ = some (.slice A l.length c) := (blk_cell B4.out 0).trans rfl
            have hcg41 : wr.cell? ⟨g4, 1, none⟩ = some (.int .i64 m) := (blk_cell B4.out 1).trans rfl
            by_cases her : er = 0
            · rw [if_pos her] at H1
              subst her
              obtain ⟨f2, hf2⟩ : ∃ z, wrap64 (fst * 2) = z := ⟨_, rfl⟩
              obtain ⟨c2, hc2⟩ : ∃ z, Go.bits .or .i64 (wrap64 (code * 2)) bit = z := ⟨_, rfl⟩
              obtain ⟨dd, hdd⟩ : ∃ z, wrap64 (c2 - f2) = z := ⟨_, rfl⟩
              obtain ⟨fr2, hfr⟩ : ∃ z, wrap64 (frm + nn) = z := ⟨_, rfl⟩
              obtain ⟨p3, hp3⟩ : ∃ z, wrap64 (p2 + 1) = z := ⟨_, rfl⟩
              rw [hc2, hf2, hdd, hfr, hp3] at H1
              by_cases t1 : dd < nn
              · rw [if_pos t1] at H1
                obtain ⟨ix, hix⟩ : ∃ z, wrap64 (wrap64 (frm + c2) - f2) = z := ⟨_, rfl⟩
                rw [hix] at H1
                by_cases x0 : 0 ≤ ix
                · rw [if_pos x0] at H1
                  by_cases x1 : ix < (ss.length : Int)
                  · rw [if_pos x1] at H1
                    injection H1 with h
                    injection h with h1 h
                    injection h with h2 h3
                    subst h1 h2 h3
                    obtain ⟨ad, rfl, hx⟩ := Kd.at_int TC.out ix (by omega) (by omega)
                    have HX := Aside0.mk hx
                    clear hx
                    have t1b : decide (dd < nn) = true := decide_eq_true t1
                    replace t1 := eq_true t1
                    replace x0 := eq_true x0
                    replace x1 := eq_true x1
                    go_wp2_with (first
        | (go_at_call 38; refine (bits_Get.calls k A c l m p2 1 bit 0 _ (Kd.C_below HR.out HB.out) HC.out HG.out).mono ?_; rintro e_ w5 ⟨rfl, hb⟩; have n0 := Aside0.mk (below_then HB.out HB.out.size hb); have n1 := Aside0.mk (blk_below B4.out hb); have n2 := Aside0.mk (blk_below TB.out hb); have n3 := Aside0.mk (Kd.C_below TC.out hb); have n4 := Aside0.mk (pw_cell_below hb HX.out); clear HB B4 TB TC HX; have HB := n0; have B4 := n1; have TB := n2; have TC := n3; have HX := n4; clear n0 n1 n2 n3 n4; clear hb; clear hcg40 hcg41; have hcg40 : w5.cell? ⟨g4, 0, none⟩ = some (.slice A l.length c) := (blk_cell B4.out 0).trans rfl; have hcg41 : w5.cell? ⟨g4, 1, none⟩ = some (.int .i64 m) := (blk_cell B4.out 1).trans rfl; have htl := tbl_cell TB.out HL.out lm LM.out; rw [NN.out] at htl; have hts := tbl_slice TB.out HL.out; have hxs := HX.out)
        )
                    go_ret3
                    exact ⟨by rw [← hp3]; rfl, HB.out⟩
                  · rw [if_neg x1] at H1
                    cases H1
                · rw [if_neg x0] at H1
                  cases H1
              · rw [if_neg t1] at H1
                have t1b : decide (dd < nn) = false := decide_eq_false t1
                replace t1 := eq_false t1
                by_cases t2 : fr2 = (ss.length : Int)
                · rw [if_pos t2] at H1
                  injection H1 with h
                  injection h with h1 h
                  injection h with h2 h3
                  subst h1 h2 h3
                  have t2b : (fr2 == (ss.length : Int)) = true := beq_iff_eq.mpr t2
                  replace t2 := eq_true t2
                  go_wp2_with (first
        | (go_at_call 38; refine (bits_Get.calls k A c l m p2 1 bit 0 _ (Kd.C_below HR.out HB.out) HC.out HG.out).mono ?_; rintro e_ w5 ⟨rfl, hb⟩; have n0 := Aside0.mk (below_then HB.out HB.out.size hb); have n1 := Aside0.mk (blk_below B4.out hb); have n2 := Aside0.mk (blk_below TB.out hb); have n3 := Aside0.mk (Kd.C_below TC.out hb); clear HB B4 TB TC; have HB := n0; have B4 := n1; have TB := n2; have TC := n3; clear n0 n1 n2 n3; clear hb; clear hcg40 hcg41; have hcg40 : w5.cell? ⟨g4, 0, none⟩ = some (.slice A l.length c) := (blk_cell B4.out 0).trans rfl; have hcg41 : w5.cell? ⟨g4, 1, none⟩ = some (.int .i64 m) := (blk_cell B4.out 1).trans rfl; have htl := tbl_cell TB.out HL.out lm LM.out; rw [NN.out] at htl; have hts := tbl_slice TB.out HL.out)
        )
                  go_ret3
                  exact ⟨rfl, HB.out⟩
                · rw [if_neg t2] at H1
                  have t2b : (fr2 == (ss.length : Int)) = false := beq_eq_false_iff_ne.mpr t2
                  replace t2 := eq_false t2
                  have H2 := Aside0.mk H1
                  clear H1
                  go_wp2_with (first
        | (go_at_call 38; refine (bits_Get.calls k A c l m p2 1 bit 0 _ (Kd.C_below HR.out HB.out) HC.out HG.out).mono ?_; rintro e_ w5 ⟨rfl, hb⟩; have n0 := Aside0.mk (below_then HB.out HB.out.size hb); have n1 := Aside0.mk (blk_below B4.out hb); have n2 := Aside0.mk (blk_below TB.out hb); have n3 := Aside0.mk (Kd.C_below TC.out hb); clear HB B4 TB TC; have HB := n0; have B4 := n1; have TB := n2; have TC := n3; clear n0 n1 n2 n3; clear hb; clear hcg40 hcg41; have hcg40 : w5.cell? ⟨g4, 0, none⟩ = some (.slice A l.length c) := (blk_cell B4.out 0).trans rfl; have hcg41 : w5.cell? ⟨g4, 1, none⟩ = some (.int .i64 m) := (blk_cell B4.out 1).trans rfl; have htl := tbl_cell TB.out HL.out lm LM.out; rw [NN.out] at htl; have hts := tbl_slice TB.out HL.out)
        )
                  go_roundw
                  case rel => exact ⟨d, p3, c2, wrap64 (f2 + nn), fr2, by omega, by first | rfl | (simp [*]; done), by first | rfl | (simp [*]; done), by first | rfl | (simp [*]; done), by first | rfl | (simp [*]; done), by first | rfl | (congr 1; omega) | (simp; omega), H2, B4, TB, TC, HB⟩
                  case measure => simp [intOf]; omega
            · rw [if_neg her] at H1
              injection H1 with h
              injection h with h1 h
              injection h with h2 h3
              subst h1 h2 h3
              have heb : (er == 0) = false := beq_eq_false_iff_ne.mpr her
              have hec : (er != 0) = true := bne_iff_ne.mpr her
              clear her
              go_wp2_with (first
        | (go_at_call 38; refine (bits_Get.calls k A c l m p2 1 bit er _ (Kd.C_below HR.out HB.out) HC.out HG.out).mono ?_; rintro e_ w5 ⟨rfl, hb⟩; have n0 := Aside0.mk (below_then HB.out HB.out.size hb); have n1 := Aside0.mk (blk_below B4.out hb); have n2 := Aside0.mk (blk_below TB.out hb); have n3 := Aside0.mk (Kd.C_below TC.out hb); clear HB B4 TB TC; have HB := n0; have B4 := n1; have TB := n2; have TC := n3; clear n0 n1 n2 n3; clear hb; clear hcg40 hcg41; have hcg40 : w5.cell? ⟨g4, 0, none⟩ = some (.slice A l.length c) := (blk_cell B4.out 0).trans rfl; have hcg41 : w5.cell? ⟨g4, 1, none⟩ = some (.int .i64 m) := (blk_cell B4.out 1).trans rfl; have htl := tbl_cell TB.out HL.out lm LM.out; rw [NN.out] at htl; have hts := tbl_slice TB.out HL.out)
        )
              go_ret3
              exact ⟨rfl, HB.out⟩
  · rw [if_neg he] at h
    have heb : (e == 0) = false := beq_eq_false_iff_ne.mpr he
    have hec : (e != 0) = true := bne_iff_ne.mpr he
    clear he
    injection h with h
    injection h with h1 h
    injection h with h2 h3
    subst h1 h2 h3
    go_enter Try.func23, Try.ntmps23
    go_wp2_with (first
        | ((with_reducible refine gate_dst (N := 4) rfl ?_); refine box_event ?hg (N := 4) ?hd (cs := #[.slice A l.length c, .int .i64 m]) (t := 36) ?hr ?_; (case hd => rfl); (case hg => rfl); (case hr => first | (go_simp; done) | (go_simp; rfl)); intro g4 hg w3 hbox hb; have n0 := Aside0.mk (below_then HB.out HB.out.size hb); have n1 := Aside0.mk (blk_below TB.out hb); have n2 := Aside0.mk (Kd.C_below TC.out hb); have n3 := Aside0.mk (hbox); have n4 := Aside0.mk ((by rw [hg]; exact HB.out.size : w.heap.size ≤ g4)); clear HB TB TC; have HB := n0; have TB := n1; have TC := n2; have B4 := n3; have G4 := n4; clear n0 n1 n2 n3 n4; clear hg hbox hb; have hcg40 : w3.cell? ⟨g4, 0, none⟩ = some (.slice A l.length c) := (blk_cell B4.out 0).trans rfl; have hcg41 : w3.cell? ⟨g4, 1, none⟩ = some (.int .i64 m) := (blk_cell B4.out 1).trans rfl)
        | (go_at_call 30; refine (bits_Check.calls k A c l m e _ (Kd.C_below HR.out HB.out) HC.out HE.out).mono ?_; rintro e_ w4 ⟨rfl, hb⟩; have n0 := Aside0.mk (below_then HB.out HB.out.size hb); have n1 := Aside0.mk (blk_below B4.out hb); have n2 := Aside0.mk (blk_below TB.out hb); have n3 := Aside0.mk (Kd.C_below TC.out hb); clear HB B4 TB TC; have HB := n0; have B4 := n1; have TB := n2; have TC := n3; clear n0 n1 n2 n3; clear hb; clear hcg40 hcg41; have hcg40 : w4.cell? ⟨g4, 0, none⟩ = some (.slice A l.length c) := (blk_cell B4.out 0).trans rfl; have hcg41 : w4.cell? ⟨g4, 1, none⟩ = some (.int .i64 m) := (blk_cell B4.out 1).trans rfl)
        )
    go_ret3
    exact ⟨rfl, by repeat (first | (with_reducible first | exact HB.out | apply below_alloc | apply pw_below_drewN | apply below_drew1) | exact HB.out)⟩
end

def valiselaw04_lives.f : Option Bool := some true
section
attribute [local go_sem] Oper.semAt_some
set_option maxHeartbeats 8000000 in
set_option maxRecDepth 100000 in
theorem valiselaw04_lives.calls (r : Bool) (w : World) (h : valiselaw04_lives.f = some r) : Calls Try.prog 16 #[] w fun e w' => e = .returned (.bool r) ∧ Below w.heap.size w w' := by
  injection h with h
  subst h
  have HB := Aside0.mk (Below.refl w.heap.size w)
  go_enter Try.func16, Try.ntmps16
  go_upto_region 3 with (first
    | ((with_reducible refine gate_dst (N := 14) rfl ?_); (try (refine gate_guard (by rfl) ?_; dsimp only)); refine Kd.R_lit (Kd.int .i64) _ 3 ?hg (N := 14) ?hd (xs := ([2, 1, 3, 3] : List Int)) (inner := [.int .i64 2, .int .i64 1, .int .i64 3, .int .i64 3]) (ok := fun _ => True) (okp := fun _ => True) ?hr ?hp (fun _ hk => hk) trivial (Below.refl _ _) (Nat.le_refl _) (by simp) ?_; (case hd => rfl); (case hg => rfl); (case hr => first | (go_simp; done) | (go_simp; rfl)); (case hp => exact (Reps.one (show Kd.M (Kd.int .i64) _ _ _ 2 [.int .i64 2] from rfl) (Reps.one (show Kd.M (Kd.int .i64) _ _ _ 1 [.int .i64 1] from rfl) (Reps.one (show Kd.M (Kd.int .i64) _ _ _ 3 [.int .i64 3] from rfl) (Reps.one (show Kd.M (Kd.int .i64) _ _ _ 3 [.int .i64 3] from rfl) (Reps.none _ _)))))); intro v1 w1 ho1 hb hg_ hnew_; obtain ⟨A1, c1, ev1⟩ := Kd.R_slice ho1; subst ev1; have n0 := Aside0.mk (below_then HB.out HB.out.size hb); have n1 := Aside0.mk ((Kd.R_reads' ho1).2.2); have n2 := Aside0.mk ((Kd.R_reads' ho1).2.1); clear HB; have HB := n0; have LC1 := n1; have LE1 := n2; clear n0 n1 n2; clear hb hg_ hnew_ ho1)
    | (have tk1 := LC1.out; clear tk1; go_at_call 11; refine (huff_Codes.calls A1 c1 [2, 1, 3, 3] [2, 0, 6, 7] 0 _ LC1.out LE1.out (by decide +kernel)).mono ?_; rintro e_ wc ⟨vc, rfl, hoc, hb⟩; obtain ⟨Ac, cc, evc⟩ := Kd.R_slice hoc; subst evc; have n0 := Aside0.mk (below_then HB.out HB.out.size hb); have n1 := Aside0.mk (hoc); clear HB; have HB := n0; have HC := n1; clear n0 n1; clear hb; clear hoc LC1 LE1)
    | ((with_reducible refine gate_dst (N := 20) rfl ?_); (try (refine gate_guard (by rfl) ?_; dsimp only)); refine Kd.R_lit (Kd.int .i64) _ 3 ?hg (N := 20) ?hd (xs := ([2, 1, 3, 3] : List Int)) (inner := [.int .i64 2, .int .i64 1, .int .i64 3, .int .i64 3]) (ok := fun _ => True) (okp := fun _ => True) ?hr ?hp (fun _ hk => hk) trivial (Below.refl _ _) (Nat.le_refl _) (by simp) ?_; (case hd => rfl); (case hg => rfl); (case hr => first | (go_simp; done) | (go_simp; rfl)); (case hp => exact (Reps.one (show Kd.M (Kd.int .i64) _ _ _ 2 [.int .i64 2] from rfl) (Reps.one (show Kd.M (Kd.int .i64) _ _ _ 1 [.int .i64 1] from rfl) (Reps.one (show Kd.M (Kd.int .i64) _ _ _ 3 [.int .i64 3] from rfl) (Reps.one (show Kd.M (Kd.int .i64) _ _ _ 3 [.int .i64 3] from rfl) (Reps.none _ _)))))); intro v2 w2 ho2 hb hg_ hnew_; obtain ⟨A2, c2, ev2⟩ := Kd.R_slice ho2; subst ev2; have n0 := Aside0.mk (below_then HB.out HB.out.size hb); have n1 := Aside0.mk (Kd.R_below HC.out hb); have n2 := Aside0.mk ((Kd.R_reads' ho2).2.2); have n3 := Aside0.mk ((Kd.R_reads' ho2).2.1); clear HB HC; have HB := n0; have HC := n1; have LC2 := n2; have LE2 := n3; clear n0 n1 n2 n3; clear hb hg_ hnew_ ho2)
    | (go_at_call 18; refine (huff_Put.calls 200 none 0 [] 0 A2 c2 [2, 1, 3, 3] 2 [3] 3 0 _ (Kd.C_nil _ _) (Nat.le_refl _) LC2.out LE2.out (by decide +kernel)).mono ?_; rintro e_ wp ⟨vp, rfl, hop, hb⟩; obtain ⟨Ap, cp, evp⟩ := Kd.R_slice hop; subst evp; have n0 := Aside0.mk (below_then HB.out HB.out.size hb); have n1 := Aside0.mk (Kd.R_below HC.out hb); have n2 := Aside0.mk (hop); clear HB HC; have HB := n0; have HC := n1; have HP := n2; clear n0 n1 n2; clear hb; clear hop LC2 LE2)
    )
  have BT := Aside0.mk (blk_new wp (.cells #[Value.slice Ap ([3] : List Int).length cp, Value.int IntKind.i64 3] 36 (0, 0)))
  obtain ⟨gb, hgb⟩ : ∃ gb, wp.heap.size = gb := ⟨_, rfl⟩
  rw [hgb] at BT ⊢
  have hb := below_alloc (Below.refl wp.heap.size wp) (.cells #[Value.slice Ap ([3] : List Int).length cp, Value.int IntKind.i64 3] 36 (0, 0))
  have n0 := Aside0.mk (below_then HB.out HB.out.size hb)
  have n1 := Aside0.mk (Kd.R_below HC.out hb)
  have n2 := Aside0.mk (Kd.R_below HP.out hb)
  clear HB HC HP
  have HB := n0
  have HC := n1
  have HP := n2
  clear n0 n1 n2
  clear hb hgb
  trace_state
  generalize (wp.alloc (.cells #[Value.slice Ap ([3] : List Int).length cp, Value.int IntKind.i64 3] 36 (0, 0))) = wq at HB HC HP BT ⊢
  go_wp2_with (first
    | ((with_reducible refine gate_dst (N := 25) rfl ?_); (try (refine gate_guard (by rfl) ?_; dsimp only)); refine Kd.R_lit (Kd.int .i64) _ 3 ?hg (N := 25) ?hd (xs := ([0, 1] : List Int)) (inner := [.int .i64 0, .int .i64 1]) (ok := fun _ => True) (okp := fun _ => True) ?hr ?hp (fun _ hk => hk) trivial (Below.refl _ _) (Nat.le_refl _) (by simp) ?_; (case hd => rfl); (case hg => rfl); (case hr => first | (go_simp; done) | (go_simp; rfl)); (case hp => exact (Reps.one (show Kd.M (Kd.int .i64) _ _ _ 0 [.int .i64 0] from rfl) (Reps.one (show Kd.M (Kd.int .i64) _ _ _ 1 [.int .i64 1] from rfl) (Reps.none _ _)))); intro v3 w3 ho3 hb hg_ hnew_; obtain ⟨A3, c3, ev3⟩ := Kd.R_slice ho3; subst ev3; have n0 := Aside0.mk (below_then HB.out HB.out.size hb); have n1 := Aside0.mk (Kd.R_below HC.out hb); have n2 := Aside0.mk (Kd.R_below HP.out hb); have n3 := Aside0.mk (blk_below BT.out hb); have n4 := Aside0.mk ((Kd.R_reads' ho3).2.2); have n5 := Aside0.mk ((Kd.R_reads' ho3).2.1); clear HB HC HP BT; have HB := n0; have HC := n1; have HP := n2; have BT := n3; have LC3 := n4; have LE3 := n5; clear n0 n1 n2 n3 n4 n5; clear hb hg_ hnew_ ho3)
    | (go_at_call 21; refine (Hu.huff_New_in A3 c3 [0, 1] [1] _ LC3.out (Hu.ordered_one [0, 1] [1] (by decide))).mono ?_; rintro e_ wn hnp; obtain ⟨hn1, _, hb⟩ := hnp; obtain ⟨gt, rfl, hcl, _, vt, htb, hts⟩ := hn1 (by decide +kernel); obtain ⟨At, ct, evt⟩ := Kd.R_slice hts; subst evt; have n0 := Aside0.mk (below_then HB.out HB.out.size hb); have n1 := Aside0.mk (Kd.R_below HC.out hb); have n2 := Aside0.mk (Kd.R_below HP.out hb); have n3 := Aside0.mk (blk_below BT.out hb); have n4 := Aside0.mk (htb); have n5 := Aside0.mk ((Kd.R_reads' hts).2.2); have n6 := Aside0.mk (hcl); clear HB HC HP BT; have HB := n0; have HC := n1; have HP := n2; have BT := n3; have TB := n4; have TC := n5; have HL := n6; clear n0 n1 n2 n3 n4 n5 n6; clear hb; clear hn1 hcl htb hts LC3 LE3)
    | ((with_reducible refine gate_dst (N := 31) rfl ?_); (try (refine gate_guard (by rfl) ?_; dsimp only)); refine Kd.R_lit (Kd.int .u8) _ 5 ?hg (N := 31) ?hd (xs := ([1] : List Int)) (inner := [.int .u8 1]) (ok := fun _ => True) (okp := fun _ => True) ?hr ?hp (fun _ hk => hk) trivial (Below.refl _ _) (Nat.le_refl _) (by simp) ?_; (case hd => rfl); (case hg => rfl); (case hr => first | (go_simp; done) | (go_simp; rfl)); (case hp => exact (Reps.one (show Kd.M (Kd.int .u8) _ _ _ 1 [.int .u8 1] from rfl) (Reps.none _ _))); intro v4 w4 ho4 hb hg_ hnew_; obtain ⟨A4, c4, ev4⟩ := Kd.R_slice ho4; subst ev4; have n0 := Aside0.mk (below_then HB.out HB.out.size hb); have n1 := Aside0.mk (Kd.R_below HC.out hb); have n2 := Aside0.mk (Kd.R_below HP.out hb); have n3 := Aside0.mk (blk_below BT.out hb); have n4 := Aside0.mk (blk_below TB.out hb); have n5 := Aside0.mk (Kd.C_below TC.out hb); have n6 := Aside0.mk ((Kd.R_reads' ho4).2.2); have n7 := Aside0.mk ((Kd.R_reads' ho4).2.1); clear HB HC HP BT TB TC; have HB := n0; have HC := n1; have HP := n2; have BT := n3; have TB := n4; have TC := n5; have LC4 := n6; have LE4 := n7; clear n0 n1 n2 n3 n4 n5 n6 n7; clear hb hg_ hnew_ ho4)
    | (have tk1 := LC4.out; clear tk1; go_at_call 23; refine (table_Read.calls 200 gt A4 c4 [1] 1 0 (Hu.countedS [0, 1]).1 [1] 0 0 13 _ LC4.out LE4.out ⟨HL.out, At, ct, TB.out, TC.out⟩ (by decide +kernel)).mono ?_; rintro e_ wr4 ⟨rfl, hb⟩; have n0 := Aside0.mk (below_then HB.out HB.out.size hb); have n1 := Aside0.mk (Kd.R_below HC.out hb); have n2 := Aside0.mk (Kd.R_below HP.out hb); have n3 := Aside0.mk (blk_below BT.out hb); have n4 := Aside0.mk (blk_below TB.out hb); have n5 := Aside0.mk (Kd.C_below TC.out hb); clear HB HC HP BT TB TC; have HB := n0; have HC := n1; have HP := n2; have BT := n3; have TB := n4; have TC := n5; clear n0 n1 n2 n3 n4 n5; clear hb; clear LC4 LE4)
    | ((with_reducible refine gate_dst (N := 39) rfl ?_); (try (refine gate_guard (by rfl) ?_; dsimp only)); refine Kd.R_lit (Kd.int .u8) _ 5 ?hg (N := 39) ?hd (xs := ([0] : List Int)) (inner := [.int .u8 0]) (ok := fun _ => True) (okp := fun _ => True) ?hr ?hp (fun _ hk => hk) trivial (Below.refl _ _) (Nat.le_refl _) (by simp) ?_; (case hd => rfl); (case hg => rfl); (case hr => first | (go_simp; done) | (go_simp; rfl)); (case hp => exact (Reps.one (show Kd.M (Kd.int .u8) _ _ _ 0 [.int .u8 0] from rfl) (Reps.none _ _))); intro v5 w5 ho5 hb hg_ hnew_; obtain ⟨A5, c5, ev5⟩ := Kd.R_slice ho5; subst ev5; have n0 := Aside0.mk (below_then HB.out HB.out.size hb); have n1 := Aside0.mk (Kd.R_below HC.out hb); have n2 := Aside0.mk (Kd.R_below HP.out hb); have n3 := Aside0.mk (blk_below BT.out hb); have n4 := Aside0.mk (blk_below TB.out hb); have n5 := Aside0.mk (Kd.C_below TC.out hb); have n6 := Aside0.mk ((Kd.R_reads' ho5).2.2); have n7 := Aside0.mk ((Kd.R_reads' ho5).2.1); clear HB HC HP BT TB TC; have HB := n0; have HC := n1; have HP := n2; have BT := n3; have TB := n4; have TC := n5; have LC5 := n6; have LE5 := n7; clear n0 n1 n2 n3 n4 n5 n6 n7; clear hb hg_ hnew_ ho5)
    | (have tk1 := LC5.out; clear tk1; go_at_call 23; refine (table_Read.calls 200 gt A5 c5 [0] 1 0 (Hu.countedS [0, 1]).1 [1] 1 1 0 _ LC5.out LE5.out ⟨HL.out, At, ct, TB.out, TC.out⟩ (by decide +kernel)).mono ?_; rintro e_ wr5 ⟨rfl, hb⟩; have n0 := Aside0.mk (below_then HB.out HB.out.size hb); have n1 := Aside0.mk (Kd.R_below HC.out hb); have n2 := Aside0.mk (Kd.R_below HP.out hb); have n3 := Aside0.mk (blk_below BT.out hb); have n4 := Aside0.mk (blk_below TB.out hb); have n5 := Aside0.mk (Kd.C_below TC.out hb); clear HB HC HP BT TB TC; have HB := n0; have HC := n1; have HP := n2; have BT := n3; have TB := n4; have TC := n5; clear n0 n1 n2 n3 n4 n5; clear hb; clear LC5 LE5)
    | ((with_reducible refine gate_dst (N := 46) rfl ?_); (try (refine gate_guard (by rfl) ?_; dsimp only)); refine Kd.R_lit (Kd.int .i64) _ 3 ?hg (N := 46) ?hd (xs := ([2, 0, 6, 7] : List Int)) (inner := [.int .i64 2, .int .i64 0, .int .i64 6, .int .i64 7]) (ok := fun _ => True) (okp := fun _ => True) ?hr ?hp (fun _ hk => hk) trivial (Below.refl _ _) (Nat.le_refl _) (by simp) ?_; (case hd => rfl); (case hg => rfl); (case hr => first | (go_simp; done) | (go_simp; rfl)); (case hp => exact (Reps.one (show Kd.M (Kd.int .i64) _ _ _ 2 [.int .i64 2] from rfl) (Reps.one (show Kd.M (Kd.int .i64) _ _ _ 0 [.int .i64 0] from rfl) (Reps.one (show Kd.M (Kd.int .i64) _ _ _ 6 [.int .i64 6] from rfl) (Reps.one (show Kd.M (Kd.int .i64) _ _ _ 7 [.int .i64 7] from rfl) (Reps.none _ _)))))); intro v6 w6 ho6 hb hg_ hnew_; obtain ⟨A6, c6, ev6⟩ := Kd.R_slice ho6; subst ev6; have n0 := Aside0.mk (below_then HB.out HB.out.size hb); have n1 := Aside0.mk (Kd.R_below HC.out hb); have n2 := Aside0.mk (Kd.R_below HP.out hb); have n3 := Aside0.mk (blk_below BT.out hb); have n4 := Aside0.mk (blk_below TB.out hb); have n5 := Aside0.mk (Kd.C_below TC.out hb); have n6 := Aside0.mk ((Kd.R_reads' ho6).2.2); have n7 := Aside0.mk ((Kd.R_reads' ho6).2.1); clear HB HC HP BT TB TC; have HB := n0; have HC := n1; have HP := n2; have BT := n3; have TB := n4; have TC := n5; have LC6 := n6; have LE6 := n7; clear n0 n1 n2 n3 n4 n5 n6 n7; clear hb hg_ hnew_ ho6)
    | (go_at_call 15; refine (valiseref04_Same.calls 200 Ac cc [2, 0, 6, 7] A6 c6 [2, 0, 6, 7] true _ (Kd.R_reads' HC.out).2.2 (Kd.R_reads' HC.out).2.1 LC6.out LE6.out (by decide +kernel)).mono ?_; rintro e_ ws ⟨rfl, hd⟩; have hb := hd.below; clear hd; have n0 := Aside0.mk (below_then HB.out HB.out.size hb); have n1 := Aside0.mk (Kd.R_below HC.out hb); have n2 := Aside0.mk (Kd.R_below HP.out hb); have n3 := Aside0.mk (blk_below BT.out hb); have n4 := Aside0.mk (blk_below TB.out hb); have n5 := Aside0.mk (Kd.C_below TC.out hb); clear HB HC HP BT TB TC; have HB := n0; have HC := n1; have HP := n2; have BT := n3; have TB := n4; have TC := n5; clear n0 n1 n2 n3 n4 n5; clear hb; clear LC6 LE6; have hct0 : ws.cell? ⟨gb, 0, none⟩ = some (.slice Ap ([3] : List Int).length cp) := (blk_cell BT.out 0).trans rfl; have hct1 : ws.cell? ⟨gb, 1, none⟩ = some (.int .i64 3) := (blk_cell BT.out 1).trans rfl)
    | ((with_reducible refine gate_dst (N := 54) rfl ?_); (try (refine gate_guard (by rfl) ?_; dsimp only)); refine Kd.R_lit (Kd.int .u8) _ 5 ?hg (N := 54) ?hd (xs := ([3] : List Int)) (inner := [.int .u8 3]) (ok := fun _ => True) (okp := fun _ => True) ?hr ?hp (fun _ hk => hk) trivial (Below.refl _ _) (Nat.le_refl _) (by simp) ?_; (case hd => rfl); (case hg => rfl); (case hr => first | (go_simp; done) | (go_simp; rfl)); (case hp => exact (Reps.one (show Kd.M (Kd.int .u8) _ _ _ 3 [.int .u8 3] from rfl) (Reps.none _ _))); intro v7 w7 ho7 hb hg_ hnew_; obtain ⟨A7, c7, ev7⟩ := Kd.R_slice ho7; subst ev7; have n0 := Aside0.mk (below_then HB.out HB.out.size hb); have n1 := Aside0.mk (Kd.R_below HC.out hb); have n2 := Aside0.mk (Kd.R_below HP.out hb); have n3 := Aside0.mk (blk_below BT.out hb); have n4 := Aside0.mk (blk_below TB.out hb); have n5 := Aside0.mk (Kd.C_below TC.out hb); have n6 := Aside0.mk ((Kd.R_reads' ho7).2.2); have n7 := Aside0.mk ((Kd.R_reads' ho7).2.1); clear HB HC HP BT TB TC; have HB := n0; have HC := n1; have HP := n2; have BT := n3; have TB := n4; have TC := n5; have LC7 := n6; have LE7 := n7; clear n0 n1 n2 n3 n4 n5 n6 n7; clear hb hg_ hnew_ ho7)
    | (go_at_call 20; refine (valiseref01_Same.calls Ap cp [3] 3 A7 c7 [3] 3 true _ (Kd.R_reads' HP.out).2.2 (Kd.R_reads' HP.out).2.1 LC7.out LE7.out (by decide +kernel)).mono ?_; rintro e_ wt ⟨rfl, hb⟩; have n0 := Aside0.mk (below_then HB.out HB.out.size hb); have n1 := Aside0.mk (Kd.R_below HC.out hb); have n2 := Aside0.mk (Kd.R_below HP.out hb); have n3 := Aside0.mk (blk_below BT.out hb); have n4 := Aside0.mk (blk_below TB.out hb); have n5 := Aside0.mk (Kd.C_below TC.out hb); clear HB HC HP BT TB TC; have HB := n0; have HC := n1; have HP := n2; have BT := n3; have TB := n4; have TC := n5; clear n0 n1 n2 n3 n4 n5; clear hb; clear LC7 LE7)
    | ((with_reducible refine gate_dst (N := 83) rfl ?_); (try (refine gate_guard (by rfl) ?_; dsimp only)); refine Kd.R_lit (Kd.int .i64) _ 3 ?hg (N := 83) ?hd (xs := ([1, 1, 1] : List Int)) (inner := [.int .i64 1, .int .i64 1, .int .i64 1]) (ok := fun _ => True) (okp := fun _ => True) ?hr ?hp (fun _ hk => hk) trivial (Below.refl _ _) (Nat.le_refl _) (by simp) ?_; (case hd => rfl); (case hg => rfl); (case hr => first | (go_simp; done) | (go_simp; rfl)); (case hp => exact (Reps.one (show Kd.M (Kd.int .i64) _ _ _ 1 [.int .i64 1] from rfl) (Reps.one (show Kd.M (Kd.int .i64) _ _ _ 1 [.int .i64 1] from rfl) (Reps.one (show Kd.M (Kd.int .i64) _ _ _ 1 [.int .i64 1] from rfl) (Reps.none _ _))))); intro v8 w8 ho8 hb hg_ hnew_; obtain ⟨A8, c8, ev8⟩ := Kd.R_slice ho8; subst ev8; have n0 := Aside0.mk (below_then HB.out HB.out.size hb); have n1 := Aside0.mk (Kd.R_below HC.out hb); have n2 := Aside0.mk (Kd.R_below HP.out hb); have n3 := Aside0.mk (blk_below BT.out hb); have n4 := Aside0.mk (blk_below TB.out hb); have n5 := Aside0.mk (Kd.C_below TC.out hb); have n6 := Aside0.mk ((Kd.R_reads' ho8).2.2); have n7 := Aside0.mk ((Kd.R_reads' ho8).2.1); clear HB HC HP BT TB TC; have HB := n0; have HC := n1; have HP := n2; have BT := n3; have TB := n4; have TC := n5; have LC8 := n6; have LE8 := n7; clear n0 n1 n2 n3 n4 n5 n6 n7; clear hb hg_ hnew_ ho8)
    | (go_at_call 13; refine (huff_Check.calls A8 c8 [1, 1, 1] 11 _ LC8.out LE8.out (by decide +kernel)).mono ?_; rintro e_ wu ⟨rfl, hb⟩; have n0 := Aside0.mk (below_then HB.out HB.out.size hb); have n1 := Aside0.mk (Kd.R_below HC.out hb); have n2 := Aside0.mk (Kd.R_below HP.out hb); have n3 := Aside0.mk (blk_below BT.out hb); have n4 := Aside0.mk (blk_below TB.out hb); have n5 := Aside0.mk (Kd.C_below TC.out hb); clear HB HC HP BT TB TC; have HB := n0; have HC := n1; have HP := n2; have BT := n3; have TB := n4; have TC := n5; clear n0 n1 n2 n3 n4 n5; clear hb; clear LC8 LE8)
    )
  go_ret
  exact ⟨rfl, HB.out⟩
end

end Go.Proofs.Ythcndpdfcippiaa.Pr
