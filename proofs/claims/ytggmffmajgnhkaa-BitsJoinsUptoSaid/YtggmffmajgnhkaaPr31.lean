-- Written by a program of this session (wip/tool/graft.py), which runs the kit's printer over texts by hand.
import Derived.Test.YtggmffmajgnhkaaPr0
import Derived.Test.YtggmffmajgnhkaaPr3
import Derived.Test.YtggmffmajgnhkaaPr4
import Derived.Test.YtggmffmajgnhkaaPr5
import Derived.Test.YtggmffmajgnhkaaPr16
namespace Go.Proofs.Ytggmffmajgnhkaa.Pr
open Go.RowKit Go.Proofs.YtggmffmajgnhkaaW.PrintWords Go.Proofs.YtggmffmajgnhkaaW.PrintLast Go.Proofs.YtggmffmajgnhkaaW.PrintMore
attribute [local go_sem] max2_int min2_int max_two min_two max_three min_three max_four min_four   -- for this text's walks alone
set_option linter.unusedVariables false
set_option linter.unusedSimpArgs false

/-! ### bits_Join: function 26 (by hand) -/
def bits_Join.l0 : Nat → List Int → Int → List Int → Int → Int → Option (List Int × Int)
  | 0, _, _, _, _, _ => none
  | k + 1, l, m, lm, nm, i => if i < nm then ((bits_bit.f lm nm i).bind fun b => (put1 l m b).bind fun t => bits_Join.l0 k t.1 t.2 lm nm (wrap64 (i + 1))) else some (l, m)
theorem bits_Join.mono_l : ∀ k l m v n i, LeO (bits_Join.l0 k l m v n i) (bits_Join.l0 (k + 1) l m v n i)
  | 0, _, _, _, _, _ => fun r h => by simp [bits_Join.l0] at h
  | k + 1, l, m, v, n, i => by
    have ih := bits_Join.mono_l k
    rw [bits_Join.l0, bits_Join.l0]
    exact LeO.ite (LeO.bind (LeO.refl _) (fun b => LeO.bind (LeO.refl _) (fun t => ih _ _ _ _ _))) (LeO.refl _)
def bits_Join.f (k : Nat) (l0 : List Int) (m0 : Int) (l1 : List Int) (m1 : Int) : Option (List Int × Int × Int) :=
  (bits_Check.f k l0 m0).bind fun e => if e = 0 then ((bits_Check.f k l1 m1).bind fun t => if t = 0 then ((slices_Clone_byte_byte.f l0).bind fun lc => (bits_Join.l0 k lc m0 l1 m1 0).bind fun t => some (t.1, t.2, 0)) else some ([], 0, 2)) else some ([], 0, 2)
theorem bits_Join.mono : ∀ l0 m0 v n k, LeO (bits_Join.f k l0 m0 v n) (bits_Join.f (k + 1) l0 m0 v n) := by
  intro l0 m0 v n k
  unfold bits_Join.f
  exact LeO.bind (bits_Check.mono _ _ _) (fun e => LeO.ite (LeO.bind (bits_Check.mono _ _ _) (fun t => LeO.ite (LeO.bind (LeO.refl _) (fun l1 => LeO.bind (bits_Join.mono_l k _ _ _ _ _) (fun t => LeO.refl _))) (LeO.refl _))) (LeO.refl _))
set_option maxHeartbeats 4000000 in
set_option maxRecDepth 100000 in
theorem bits_Join.calls (k : Nat) (A : Option Addr) (c : Nat) (l : List Int) (m : Int) (Am : Option Addr) (cm : Nat) (lm : List Int) (nm : Int) (r1 : List Int) (r2 r3 : Int) (w : World) (hr : Kd.C (Kd.int .u8) w A l.length l) (hc : l.length ≤ c) (hrm : Kd.C (Kd.int .u8) w Am lm.length lm) (hcm : lm.length ≤ cm) (h : bits_Join.f k l m lm nm = some (r1, r2, r3)) :
    Calls Try.prog 26 #[.agg #[.slice A l.length c, .int .i64 m], .agg #[.slice Am lm.length cm, .int .i64 nm]] w fun e w' => ∃ v0_ : Value, e = .returned (.tuple #[.agg #[v0_, .int .i64 r2], .int .i64 r3]) ∧ Kd.R (Kd.int .u8) 5 w' w.heap.size (fun _ => True) v0_ r1 ∧ Below w.heap.size w w' := by
  have HR := Aside0.mk hr
  have HC := Aside0.mk hc
  have HB := Aside0.mk (Below.refl w.heap.size w)
  have HRM := Aside0.mk hrm
  have HCM := Aside0.mk hcm
  clear hr hc hrm hcm
  unfold bits_Join.f at h
  obtain ⟨e, A1, h⟩ := Option.bind_eq_some_iff.mp h
  have HE := Aside0.mk A1
  clear A1
  by_cases c1 : e = 0
  · rw [if_pos c1] at h
    subst c1
    obtain ⟨t, A2, h⟩ := Option.bind_eq_some_iff.mp h
    have HF := Aside0.mk A2
    clear A2
    by_cases c1 : t = 0
    rotate_left
    · rw [if_neg c1] at h
      have c1b : (t == 0) = false := beq_eq_false_iff_ne.mpr c1
      have c1c : (t != 0) = true := bne_iff_ne.mpr c1
      clear c1
      injection h with h
      injection h with h1 h
      injection h with h2 h3
      subst h1 h2 h3
      go_enter Try.func26, Try.ntmps26
      go_wp2_with (first
        | ((with_reducible refine gate_dst (N := 2) rfl ?_); refine box_event ?hg (N := 2) ?hd (cs := #[.slice A l.length c, .int .i64 m]) (t := 24) ?hr ?_; (case hd => rfl); (case hg => rfl); (case hr => first | (go_simp; done) | (go_simp; rfl)); intro g2 hg w2 hbox hb; have n0 := Aside0.mk (below_then HB.out HB.out.size hb); have n1 := Aside0.mk (hbox); have n2 := Aside0.mk ((by rw [hg]; exact HB.out.size : w.heap.size ≤ g2)); clear HB; have HB := n0; have B2 := n1; have G2 := n2; clear n0 n1 n2; clear hg hbox hb)
        | ((with_reducible refine gate_dst (N := 3) rfl ?_); refine box_event ?hg (N := 3) ?hd (cs := #[.slice Am lm.length cm, .int .i64 nm]) (t := 24) ?hr ?_; (case hd => rfl); (case hg => rfl); (case hr => first | (go_simp; done) | (go_simp; rfl)); intro g3 hg w3 hbox hb; have n0 := Aside0.mk (below_then HB.out HB.out.size hb); have n1 := Aside0.mk (blk_below B2.out hb); have n2 := Aside0.mk (hbox); have n3 := Aside0.mk ((by rw [hg]; exact HB.out.size : w.heap.size ≤ g3)); clear HB B2; have HB := n0; have B2 := n1; have B3 := n2; have G3 := n3; clear n0 n1 n2 n3; clear hg hbox hb)
        | ((with_reducible refine gate_dst (N := 4) rfl ?_); refine box_event ?hg (N := 4) ?hd (cs := #[.slice none 0 0, .int .i64 0]) (t := 24) ?hr ?_; (case hd => rfl); (case hg => rfl); (case hr => first | (go_simp; done) | (go_simp; rfl)); intro g4 hg w4 hbox hb; have n0 := Aside0.mk (below_then HB.out HB.out.size hb); have n1 := Aside0.mk (blk_below B2.out hb); have n2 := Aside0.mk (blk_below B3.out hb); have n3 := Aside0.mk (hbox); have n4 := Aside0.mk ((by rw [hg]; exact HB.out.size : w.heap.size ≤ g4)); clear HB B2 B3; have HB := n0; have B2 := n1; have B3 := n2; have B4 := n3; have G4 := n4; clear n0 n1 n2 n3 n4; clear hg hbox hb; have hcg20 : w4.cell? ⟨g2, 0, none⟩ = some (.slice A l.length c) := (blk_cell B2.out 0).trans rfl; have hcg21 : w4.cell? ⟨g2, 1, none⟩ = some (.int .i64 m) := (blk_cell B2.out 1).trans rfl)
        | (have tok := B4.out; go_at_call 15; refine (bits_Check.calls k A c l m 0 _ (Kd.C_below HR.out HB.out) HC.out HE.out).mono ?_; rintro e_ w5 ⟨rfl, hb⟩; have n0 := Aside0.mk (below_then HB.out HB.out.size hb); have n1 := Aside0.mk (blk_below B2.out hb); have n2 := Aside0.mk (blk_below B3.out hb); have n3 := Aside0.mk (blk_below B4.out hb); clear HB B2 B3 B4; have HB := n0; have B2 := n1; have B3 := n2; have B4 := n3; clear n0 n1 n2 n3; clear hb HE tok; clear hcg20 hcg21; have hcg20 : w5.cell? ⟨g2, 0, none⟩ = some (.slice A l.length c) := (blk_cell B2.out 0).trans rfl; have hcg21 : w5.cell? ⟨g2, 1, none⟩ = some (.int .i64 m) := (blk_cell B2.out 1).trans rfl; have hcg30 : w5.cell? ⟨g3, 0, none⟩ = some (.slice Am lm.length cm) := (blk_cell B3.out 0).trans rfl; have hcg31 : w5.cell? ⟨g3, 1, none⟩ = some (.int .i64 nm) := (blk_cell B3.out 1).trans rfl; have hcg40 : w5.cell? ⟨g4, 0, none⟩ = some (.slice none 0 0) := (blk_cell B4.out 0).trans rfl; have hcg41 : w5.cell? ⟨g4, 1, none⟩ = some (.int .i64 0) := (blk_cell B4.out 1).trans rfl; have hfg40 := blk_frozen B4.out 0; have hfg41 := blk_frozen B4.out 1)
        | (go_at_call 15; refine (bits_Check.calls k Am cm lm nm t _ (Kd.C_below HRM.out HB.out) HCM.out HF.out).mono ?_; rintro e_ w6 ⟨rfl, hb⟩; have n0 := Aside0.mk (below_then HB.out HB.out.size hb); have n1 := Aside0.mk (blk_below B2.out hb); have n2 := Aside0.mk (blk_below B3.out hb); have n3 := Aside0.mk (blk_below B4.out hb); clear HB B2 B3 B4; have HB := n0; have B2 := n1; have B3 := n2; have B4 := n3; clear n0 n1 n2 n3; clear hb HF; clear hcg20 hcg21; clear hcg30 hcg31; clear hcg40 hcg41; have hcg20 : w6.cell? ⟨g2, 0, none⟩ = some (.slice A l.length c) := (blk_cell B2.out 0).trans rfl; have hcg21 : w6.cell? ⟨g2, 1, none⟩ = some (.int .i64 m) := (blk_cell B2.out 1).trans rfl; have hcg40 : w6.cell? ⟨g4, 0, none⟩ = some (.slice none 0 0) := (blk_cell B4.out 0).trans rfl; have hcg41 : w6.cell? ⟨g4, 1, none⟩ = some (.int .i64 0) := (blk_cell B4.out 1).trans rfl; have hfg40 := blk_frozen B4.out 0; have hfg41 := blk_frozen B4.out 1)
        )
      refine bodyPost_ret (results_ct rfl _ _ g4 24 #[.slice none 0 0, .int .i64 0] (0, 0) _ rfl (by (with_reducible repeat (first | refine blk_drewN ?_ _ | refine blk_drew ?_ | refine blk_alloc ?_ _)); refine blk_put (cs := #[.slice none 0 0, .int .i64 0]) ?_ 1 _ rfl; (with_reducible repeat (first | refine blk_drewN ?_ _ | refine blk_drew ?_ | refine blk_alloc ?_ _)); refine blk_put (cs := #[.slice none 0 0, .int .i64 0]) ?_ 0 _ rfl; (with_reducible repeat (first | refine blk_drewN ?_ _ | refine blk_drew ?_ | refine blk_alloc ?_ _)); exact B4.out) Try.underlying24 rfl (by kernel_rfl)) rfl ?_
      exact ⟨_, rfl, Kd.R_nil _ _ _ _ _, by repeat (first | (with_reducible first | exact HB.out | apply below_alloc | apply pw_below_drewN | apply below_drew1 | refine below_set ?_ G4.out) | exact HB.out)⟩
    · rw [if_pos c1] at h
      subst c1
      obtain ⟨l1, A3, h⟩ := Option.bind_eq_some_iff.mp h
      have HW := Aside0.mk A3
      clear A3
      obtain ⟨⟨q1, q2⟩, A4, h⟩ := Option.bind_eq_some_iff.mp h
      injection h with h
      injection h with h1 h
      injection h with h2 h3
      subst h1 h2 h3
      have H' := Aside0.mk A4
      clear A4
      go_enter Try.func26, Try.ntmps26
      go_wp2_with (first
        | ((with_reducible refine gate_dst (N := 2) rfl ?_); refine box_event ?hg (N := 2) ?hd (cs := #[.slice A l.length c, .int .i64 m]) (t := 24) ?hr ?_; (case hd => rfl); (case hg => rfl); (case hr => first | (go_simp; done) | (go_simp; rfl)); intro g2 hg w2 hbox hb; have n0 := Aside0.mk (below_then HB.out HB.out.size hb); have n1 := Aside0.mk (hbox); have n2 := Aside0.mk ((by rw [hg]; exact HB.out.size : w.heap.size ≤ g2)); clear HB; have HB := n0; have B2 := n1; have G2 := n2; clear n0 n1 n2; clear hg hbox hb)
        | ((with_reducible refine gate_dst (N := 3) rfl ?_); refine box_event ?hg (N := 3) ?hd (cs := #[.slice Am lm.length cm, .int .i64 nm]) (t := 24) ?hr ?_; (case hd => rfl); (case hg => rfl); (case hr => first | (go_simp; done) | (go_simp; rfl)); intro g3 hg w3 hbox hb; have n0 := Aside0.mk (below_then HB.out HB.out.size hb); have n1 := Aside0.mk (blk_below B2.out hb); have n2 := Aside0.mk (hbox); have n3 := Aside0.mk ((by rw [hg]; exact HB.out.size : w.heap.size ≤ g3)); clear HB B2; have HB := n0; have B2 := n1; have B3 := n2; have G3 := n3; clear n0 n1 n2 n3; clear hg hbox hb)
        | ((with_reducible refine gate_dst (N := 4) rfl ?_); refine box_event ?hg (N := 4) ?hd (cs := #[.slice none 0 0, .int .i64 0]) (t := 24) ?hr ?_; (case hd => rfl); (case hg => rfl); (case hr => first | (go_simp; done) | (go_simp; rfl)); intro g4 hg w4 hbox hb; have n0 := Aside0.mk (below_then HB.out HB.out.size hb); have n1 := Aside0.mk (blk_below B2.out hb); have n2 := Aside0.mk (blk_below B3.out hb); have n3 := Aside0.mk (hbox); have n4 := Aside0.mk ((by rw [hg]; exact HB.out.size : w.heap.size ≤ g4)); clear HB B2 B3; have HB := n0; have B2 := n1; have B3 := n2; have B4 := n3; have G4 := n4; clear n0 n1 n2 n3 n4; clear hg hbox hb; have hcg20 : w4.cell? ⟨g2, 0, none⟩ = some (.slice A l.length c) := (blk_cell B2.out 0).trans rfl; have hcg21 : w4.cell? ⟨g2, 1, none⟩ = some (.int .i64 m) := (blk_cell B2.out 1).trans rfl)
        | (have tok := B4.out; go_at_call 15; refine (bits_Check.calls k A c l m 0 _ (Kd.C_below HR.out HB.out) HC.out HE.out).mono ?_; rintro e_ w5 ⟨rfl, hb⟩; have n0 := Aside0.mk (below_then HB.out HB.out.size hb); have n1 := Aside0.mk (blk_below B2.out hb); have n2 := Aside0.mk (blk_below B3.out hb); have n3 := Aside0.mk (blk_below B4.out hb); clear HB B2 B3 B4; have HB := n0; have B2 := n1; have B3 := n2; have B4 := n3; clear n0 n1 n2 n3; clear hb HE tok; clear hcg20 hcg21; have hcg20 : w5.cell? ⟨g2, 0, none⟩ = some (.slice A l.length c) := (blk_cell B2.out 0).trans rfl; have hcg21 : w5.cell? ⟨g2, 1, none⟩ = some (.int .i64 m) := (blk_cell B2.out 1).trans rfl; have hcg30 : w5.cell? ⟨g3, 0, none⟩ = some (.slice Am lm.length cm) := (blk_cell B3.out 0).trans rfl; have hcg31 : w5.cell? ⟨g3, 1, none⟩ = some (.int .i64 nm) := (blk_cell B3.out 1).trans rfl; have hcg40 : w5.cell? ⟨g4, 0, none⟩ = some (.slice none 0 0) := (blk_cell B4.out 0).trans rfl; have hcg41 : w5.cell? ⟨g4, 1, none⟩ = some (.int .i64 0) := (blk_cell B4.out 1).trans rfl; have hfg40 := blk_frozen B4.out 0; have hfg41 := blk_frozen B4.out 1)
        | (go_at_call 15; refine (bits_Check.calls k Am cm lm nm 0 _ (Kd.C_below HRM.out HB.out) HCM.out HF.out).mono ?_; rintro e_ w6 ⟨rfl, hb⟩; have n0 := Aside0.mk (below_then HB.out HB.out.size hb); have n1 := Aside0.mk (blk_below B2.out hb); have n2 := Aside0.mk (blk_below B3.out hb); have n3 := Aside0.mk (blk_below B4.out hb); clear HB B2 B3 B4; have HB := n0; have B2 := n1; have B3 := n2; have B4 := n3; clear n0 n1 n2 n3; clear hb HF; clear hcg20 hcg21; clear hcg30 hcg31; clear hcg40 hcg41; have hcg20 : w6.cell? ⟨g2, 0, none⟩ = some (.slice A l.length c) := (blk_cell B2.out 0).trans rfl; have hcg21 : w6.cell? ⟨g2, 1, none⟩ = some (.int .i64 m) := (blk_cell B2.out 1).trans rfl; have hcg40 : w6.cell? ⟨g4, 0, none⟩ = some (.slice none 0 0) := (blk_cell B4.out 0).trans rfl; have hcg41 : w6.cell? ⟨g4, 1, none⟩ = some (.int .i64 0) := (blk_cell B4.out 1).trans rfl; have hfg40 := blk_frozen B4.out 0; have hfg41 := blk_frozen B4.out 1)
        | (go_at_call 30; refine (bits_writer.calls A c l m l1 _ (Kd.C_below HR.out HB.out) HC.out HW.out).mono ?_; rintro e_ w7 ⟨gb, gv, v1, rfl, gB, gV, bV, bB, ho, hb⟩; have n0 := Aside0.mk (below_then HB.out HB.out.size hb); have n1 := Aside0.mk (blk_below B3.out hb); have n2 := Aside0.mk (blk_below B4.out hb); have n3 := Aside0.mk (Nat.le_trans HB.out.size gB); have n4 := Aside0.mk (Nat.le_trans HB.out.size gV); have n5 := Aside0.mk (Nat.ne_of_lt (Nat.lt_of_lt_of_le (blk_lt B4.out) gB)); have n6 := Aside0.mk (Nat.ne_of_lt (Nat.lt_of_lt_of_le (blk_lt B3.out) gB)); have n7 := Aside0.mk (bV); have n8 := Aside0.mk (bB); have n9 := Aside0.mk (Kd.R_lower ho HB.out.size); clear HB B3 B4; have HB := n0; have B3 := n1; have B4 := n2; have GB := n3; have GV := n4; have N4 := n5; have N3 := n6; have BV := n7; have BB := n8; have HO := n9; clear n0 n1 n2 n3 n4 n5 n6 n7 n8 n9; clear gB gV bV bB ho hb; clear hcg20 hcg21; clear hcg40 hcg41; have hcg30 : w7.cell? ⟨g3, 0, none⟩ = some (.slice Am lm.length cm) := (blk_cell B3.out 0).trans rfl; have hcg31 : w7.cell? ⟨g3, 1, none⟩ = some (.int .i64 nm) := (blk_cell B3.out 1).trans rfl)
        )
      go_loopg [25] k (fun kq v25 w' => ∃ (i : Int) (l2 : List Int) (m2 : Int) (u : Value), v25 = .int .i64 i ∧ Aside0 (bits_Join.l0 kq l2 m2 lm nm i = some (q1, q2)) ∧ Aside0 (Kd.R (Kd.int .u8) 5 w' w.heap.size (fun _ => True) u l2) ∧ Aside0 (w'.heap[g4]? = some (.cells #[.slice none 0 0, .int .i64 0] 24 (0, 0))) ∧ Aside0 (w'.heap[g3]? = some (.cells #[.slice Am lm.length cm, .int .i64 nm] 24 (0, 0))) ∧ Aside0 (w'.heap[gv]? = some (.cells #[.pointer (some ⟨gb, 0, none⟩)] 53 (0, 0))) ∧ Aside0 (w'.heap[gb]? = some (.cells #[u, .int .i64 m2] 24 (0, 0))) ∧ Aside0 (Below w.heap.size w w'))
      case atStart => exact ⟨0, l1, m, _, rfl, H', HO, B4, B3, BV, BB, HB⟩
      case round =>
        clear H' HO B4 B3 BV BB HB
        obtain ⟨i, l2, m2, u, rfl, HA, HO, B4, B3, BV, BB, HB⟩ := hrel
        cases gk with
        | zero => exact absurd HA.out (by simp [bits_Join.l0])
        | succ k2 =>
          have H := HA.out
          clear HA
          simp only [bits_Join.l0] at H
          by_cases c2 : i < nm
          · rw [if_pos c2] at H
            have c2b : decide (i < nm) = true := decide_eq_true c2
            clear c2
            obtain ⟨bt, A5, H⟩ := Option.bind_eq_some_iff.mp H
            have HT := Aside0.mk A5
            clear A5
            obtain ⟨⟨l3, m3⟩, A5, H⟩ := Option.bind_eq_some_iff.mp H
            have HP := Aside0.mk A5
            clear A5
            have H2 := Aside0.mk H
            clear H
            have hcg30 : wr.cell? ⟨g3, 0, none⟩ = some (.slice Am lm.length cm) := (blk_cell B3.out 0).trans rfl
            have hcg31 : wr.cell? ⟨g3, 1, none⟩ = some (.int .i64 nm) := (blk_cell B3.out 1).trans rfl
            go_wp2_with (first
              | (go_at_call 35; refine (bits_bit.calls Am cm lm nm i bt _ (Kd.C_below HRM.out HB.out) HCM.out HT.out).mono ?_; rintro e_ w4 ⟨rfl, hb⟩; have n1 := Aside0.mk (Kd.R_below HO.out hb); have n2 := Aside0.mk (blk_below BV.out hb); have n3 := Aside0.mk (blk_below BB.out hb); have n4 := Aside0.mk (below_then HB.out HB.out.size hb); have n5 := Aside0.mk (blk_below B4.out hb); have n6 := Aside0.mk (blk_below B3.out hb); clear HO BV BB HB B4 B3 hb; have HO := n1; have BV := n2; have BB := n3; have HB := n4; have B4 := n5; have B3 := n6; clear n1 n2 n3 n4 n5 n6)
              | (go_at_call 38; refine (bits_writer1.calls gv gb l2 m2 bt l3 m3 u w _ HB.out GV.out GB.out BV.out BB.out HO.out HP.out).mono ?_; rintro e_ w5 ⟨rfl, u3, bv3, bb3, ho3, hb3, hk3⟩; have n1 := Aside0.mk ho3; have n2 := Aside0.mk bv3; have n3 := Aside0.mk bb3; have n4 := Aside0.mk hb3; have n5 := Aside0.mk (hk3.blk B4.out N4.out (Kd.R_ne HO.out B4.out (by decide))); have n6 := Aside0.mk (hk3.blk B3.out N3.out (Kd.R_ne HO.out B3.out (by decide))); clear HO BV BB HB B4 B3 ho3 bv3 bb3 hb3 hk3; have HO := n1; have BV := n2; have BB := n3; have HB := n4; have B4 := n5; have B3 := n6; clear n1 n2 n3 n4 n5 n6))
            go_roundg k2
            case measure => omega
            case rel => exact ⟨wrap64 (i + 1), l3, m3, u3, (by first | rfl | (simp; done) | (simp [*]; done)), H2, HO, B4, B3, BV, BB, HB⟩
          · rw [if_neg c2] at H
            have c2b : decide (i < nm) = false := decide_eq_false c2
            clear c2
            injection H with H
            injection H with H1 H2
            subst H1 H2
            obtain ⟨A2, c2, eu⟩ := Kd.R_slice HO.out
            subst eu
            have hnb := N4.out
            have hnc := Ne.symm N4.out
            have hcgb0 : wr.cell? ⟨gb, 0, none⟩ = some (.slice A2 l2.length c2) := (blk_cell BB.out 0).trans rfl
            have hcgb1 : wr.cell? ⟨gb, 1, none⟩ = some (.int .i64 m2) := (blk_cell BB.out 1).trans rfl
            have hcg40 : wr.cell? ⟨g4, 0, none⟩ = some (.slice none 0 0) := (blk_cell B4.out 0).trans rfl
            have hcg41 : wr.cell? ⟨g4, 1, none⟩ = some (.int .i64 0) := (blk_cell B4.out 1).trans rfl
            have hfgb0 := blk_frozen BB.out 0
            have hfgb1 := blk_frozen BB.out 1
            have hfg40 := blk_frozen B4.out 0
            have hfg41 := blk_frozen B4.out 1
            go_wp2
            refine bodyPost_ret (results_ct rfl _ _ g4 24 #[.slice A2 l2.length c2, .int .i64 m2] (0, 0) _ rfl (by (with_reducible repeat (first | refine blk_drewN ?_ _ | refine blk_drew ?_ | refine blk_alloc ?_ _)); refine blk_put (cs := #[.slice A2 l2.length c2, .int .i64 0]) ?_ 1 _ rfl; (with_reducible repeat (first | refine blk_drewN ?_ _ | refine blk_drew ?_ | refine blk_alloc ?_ _)); refine blk_put (cs := #[.slice none 0 0, .int .i64 0]) ?_ 0 _ rfl; (with_reducible repeat (first | refine blk_drewN ?_ _ | refine blk_drew ?_ | refine blk_alloc ?_ _)); exact B4.out) Try.underlying24 rfl (by kernel_rfl)) rfl ?_
            exact ⟨_, rfl, Kd.R_mono (Kd.R_far (p := ⟨g4, 1, none⟩) (Kd.R_far (p := ⟨g4, 0, none⟩) (Kd.R_types HO.out B4.out (by decide)) (fun _ hk => hk.2) _) (fun _ hk => hk.2) _) (fun _ hk => trivial), by repeat (first | (with_reducible first | exact HB.out | apply below_alloc | apply pw_below_drewN | apply below_drew1 | refine below_set ?_ G4.out) | exact HB.out)⟩
  · rw [if_neg c1] at h
    injection h with h
    injection h with h1 h
    injection h with h2 h3
    subst h1 h2 h3
    have c1b : (e == 0) = false := beq_eq_false_iff_ne.mpr c1
    have c1c : (e != 0) = true := bne_iff_ne.mpr c1
    clear c1
    go_enter Try.func26, Try.ntmps26
    go_wp2_with (first
        | ((with_reducible refine gate_dst (N := 2) rfl ?_); refine box_event ?hg (N := 2) ?hd (cs := #[.slice A l.length c, .int .i64 m]) (t := 24) ?hr ?_; (case hd => rfl); (case hg => rfl); (case hr => first | (go_simp; done) | (go_simp; rfl)); intro g2 hg w2 hbox hb; have n0 := Aside0.mk (below_then HB.out HB.out.size hb); have n1 := Aside0.mk (hbox); have n2 := Aside0.mk ((by rw [hg]; exact HB.out.size : w.heap.size ≤ g2)); clear HB; have HB := n0; have B2 := n1; have G2 := n2; clear n0 n1 n2; clear hg hbox hb)
        | ((with_reducible refine gate_dst (N := 3) rfl ?_); refine box_event ?hg (N := 3) ?hd (cs := #[.slice Am lm.length cm, .int .i64 nm]) (t := 24) ?hr ?_; (case hd => rfl); (case hg => rfl); (case hr => first | (go_simp; done) | (go_simp; rfl)); intro g3 hg w3 hbox hb; have n0 := Aside0.mk (below_then HB.out HB.out.size hb); have n1 := Aside0.mk (blk_below B2.out hb); have n2 := Aside0.mk (hbox); have n3 := Aside0.mk ((by rw [hg]; exact HB.out.size : w.heap.size ≤ g3)); clear HB B2; have HB := n0; have B2 := n1; have B3 := n2; have G3 := n3; clear n0 n1 n2 n3; clear hg hbox hb)
        | ((with_reducible refine gate_dst (N := 4) rfl ?_); refine box_event ?hg (N := 4) ?hd (cs := #[.slice none 0 0, .int .i64 0]) (t := 24) ?hr ?_; (case hd => rfl); (case hg => rfl); (case hr => first | (go_simp; done) | (go_simp; rfl)); intro g4 hg w4 hbox hb; have n0 := Aside0.mk (below_then HB.out HB.out.size hb); have n1 := Aside0.mk (blk_below B2.out hb); have n2 := Aside0.mk (blk_below B3.out hb); have n3 := Aside0.mk (hbox); have n4 := Aside0.mk ((by rw [hg]; exact HB.out.size : w.heap.size ≤ g4)); clear HB B2 B3; have HB := n0; have B2 := n1; have B3 := n2; have B4 := n3; have G4 := n4; clear n0 n1 n2 n3 n4; clear hg hbox hb; have hcg20 : w4.cell? ⟨g2, 0, none⟩ = some (.slice A l.length c) := (blk_cell B2.out 0).trans rfl; have hcg21 : w4.cell? ⟨g2, 1, none⟩ = some (.int .i64 m) := (blk_cell B2.out 1).trans rfl)
        | (have tok := B4.out; go_at_call 15; refine (bits_Check.calls k A c l m e _ (Kd.C_below HR.out HB.out) HC.out HE.out).mono ?_; rintro e_ w5 ⟨rfl, hb⟩; have n0 := Aside0.mk (below_then HB.out HB.out.size hb); have n1 := Aside0.mk (blk_below B2.out hb); have n2 := Aside0.mk (blk_below B3.out hb); have n3 := Aside0.mk (blk_below B4.out hb); clear HB B2 B3 B4; have HB := n0; have B2 := n1; have B3 := n2; have B4 := n3; clear n0 n1 n2 n3; clear hb HE tok; clear hcg20 hcg21; have hcg20 : w5.cell? ⟨g2, 0, none⟩ = some (.slice A l.length c) := (blk_cell B2.out 0).trans rfl; have hcg21 : w5.cell? ⟨g2, 1, none⟩ = some (.int .i64 m) := (blk_cell B2.out 1).trans rfl; have hcg30 : w5.cell? ⟨g3, 0, none⟩ = some (.slice Am lm.length cm) := (blk_cell B3.out 0).trans rfl; have hcg31 : w5.cell? ⟨g3, 1, none⟩ = some (.int .i64 nm) := (blk_cell B3.out 1).trans rfl; have hcg40 : w5.cell? ⟨g4, 0, none⟩ = some (.slice none 0 0) := (blk_cell B4.out 0).trans rfl; have hcg41 : w5.cell? ⟨g4, 1, none⟩ = some (.int .i64 0) := (blk_cell B4.out 1).trans rfl; have hfg40 := blk_frozen B4.out 0; have hfg41 := blk_frozen B4.out 1)
        )
    refine bodyPost_ret (results_ct rfl _ _ g4 24 #[.slice none 0 0, .int .i64 0] (0, 0) _ rfl (by (with_reducible repeat (first | refine blk_drewN ?_ _ | refine blk_drew ?_ | refine blk_alloc ?_ _)); refine blk_put (cs := #[.slice none 0 0, .int .i64 0]) ?_ 1 _ rfl; (with_reducible repeat (first | refine blk_drewN ?_ _ | refine blk_drew ?_ | refine blk_alloc ?_ _)); refine blk_put (cs := #[.slice none 0 0, .int .i64 0]) ?_ 0 _ rfl; (with_reducible repeat (first | refine blk_drewN ?_ _ | refine blk_drew ?_ | refine blk_alloc ?_ _)); exact B4.out) Try.underlying24 rfl (by kernel_rfl)) rfl ?_
    exact ⟨_, rfl, Kd.R_nil _ _ _ _ _, by repeat (first | (with_reducible first | exact HB.out | apply below_alloc | apply pw_below_drewN | apply below_drew1 | refine below_set ?_ G4.out) | exact HB.out)⟩

end Go.Proofs.Ytggmffmajgnhkaa.Pr
