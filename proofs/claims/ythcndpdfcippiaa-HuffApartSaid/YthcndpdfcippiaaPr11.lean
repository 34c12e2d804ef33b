-- Written by a program of this session (wip/tool/graft.py), which runs the kit's printer over texts by hand.
import Derived.Test.YthcndpdfcippiaaPr0
import Derived.Test.YthcndpdfcippiaaPr7
import Derived.Test.YthcndpdfcippiaaPr8
import Derived.Test.YthcndpdfcippiaaPr9
import Derived.Test.YthcndpdfcippiaaPr10
namespace Go.Proofs.Ythcndpdfcippiaa.Pr
open Go.RowKit Go.Proofs.YthcndpdfcippiaaW.PrintWords Go.Proofs.YthcndpdfcippiaaW.PrintLast Go.Proofs.YthcndpdfcippiaaW.PrintMore
attribute [local go_sem] max2_int min2_int max_two min_two max_three min_three max_four min_four   -- for this text's walks alone
set_option linter.unusedVariables false
set_option linter.unusedSimpArgs false

/-! ### bits_Put: function 32 (by hand) -/
def bits_Put.l0 : Nat → List Int → Int → Int → Int → Int → Option (List Int × Int)
  | 0, _, _, _, _, _ => none
  | k + 1, l, m, v, n, i => if i < n then (if 0 ≤ i then ((put1 l m (Go.bits .and .i64 (shr .i64 v i) 1)).bind fun t => bits_Put.l0 k t.1 t.2 v n (wrap64 (i + 1))) else none) else some (l, m)
theorem bits_Put.mono_l : ∀ k l m v n i, LeO (bits_Put.l0 k l m v n i) (bits_Put.l0 (k + 1) l m v n i)
  | 0, _, _, _, _, _ => fun r h => by simp [bits_Put.l0] at h
  | k + 1, l, m, v, n, i => by
    have ih := bits_Put.mono_l k
    rw [bits_Put.l0, bits_Put.l0]
    exact LeO.ite (LeO.ite (LeO.bind (LeO.refl _) (fun t => ih _ _ _ _ _)) (LeO.refl _)) (LeO.refl _)
def bits_Put.f (k : Nat) (l0 : List Int) (m0 v n : Int) : Option (List Int × Int × Int) :=
  (bits_Check.f k l0 m0).bind fun e => if e = 0 then ((bits_fits.f v n 32).bind fun t => if t = true then ((slices_Clone_byte_byte.f l0).bind fun l1 => (bits_Put.l0 k l1 m0 v n 0).bind fun t => some (t.1, t.2, 0)) else some ([], 0, 2)) else some ([], 0, 2)
theorem bits_Put.mono : ∀ l0 m0 v n k, LeO (bits_Put.f k l0 m0 v n) (bits_Put.f (k + 1) l0 m0 v n) := by
  intro l0 m0 v n k
  unfold bits_Put.f
  exact LeO.bind (bits_Check.mono _ _ _) (fun e => LeO.ite (LeO.bind (LeO.refl _) (fun t => LeO.ite (LeO.bind (LeO.refl _) (fun l1 => LeO.bind (bits_Put.mono_l k _ _ _ _ _) (fun t => LeO.refl _))) (LeO.refl _))) (LeO.refl _))
set_option maxHeartbeats 4000000 in
set_option maxRecDepth 100000 in
theorem bits_Put.calls (k : Nat) (A : Option Addr) (c : Nat) (l : List Int) (m vv n : Int) (r1 : List Int) (r2 r3 : Int) (w : World) (hr : Kd.C (Kd.int .u8) w A l.length l) (hc : l.length ≤ c) (h : bits_Put.f k l m vv n = some (r1, r2, r3)) :
    Calls Try.prog 32 #[.agg #[.slice A l.length c, .int .i64 m], .int .i64 vv, .int .i64 n] w fun e w' => ∃ v0_ : Value, e = .returned (.tuple #[.agg #[v0_, .int .i64 r2], .int .i64 r3]) ∧ Kd.R (Kd.int .u8) 5 w' w.heap.size (fun _ => True) v0_ r1 ∧ Below w.heap.size w w' := by
  have HR := Aside0.mk hr
  have HC := Aside0.mk hc
  have HB := Aside0.mk (Below.refl w.heap.size w)
  clear hr hc
  unfold bits_Put.f at h
  obtain ⟨e, A1, h⟩ := Option.bind_eq_some_iff.mp h
  have HE := Aside0.mk A1
  clear A1
  by_cases c1 : e = 0
  · rw [if_pos c1] at h
    subst c1
    obtain ⟨t, A2, h⟩ := Option.bind_eq_some_iff.mp h
    have HF := Aside0.mk A2
    clear A2
    cases t with
    | false =>
      rw [if_neg (by decide)] at h
      injection h with h
      injection h with h1 h
      injection h with h2 h3
      subst h1 h2 h3
      go_enter Try.func32, Try.ntmps32
      go_wp2_with (first
        | ((with_reducible refine gate_dst (N := 3) rfl ?_); refine box_event ?hg (N := 3) ?hd (cs := #[.slice A l.length c, .int .i64 m]) (t := 36) ?hr ?_; (case hd => rfl); (case hg => rfl); (case hr => first | (go_simp; done) | (go_simp; rfl)); intro g3 hg w3 hbox hb; have n0 := Aside0.mk (below_then HB.out HB.out.size hb); have n1 := Aside0.mk (hbox); have n2 := Aside0.mk ((by rw [hg]; exact HB.out.size : w.heap.size ≤ g3)); clear HB; have HB := n0; have B3 := n1; have G3 := n2; clear n0 n1 n2; clear hg hbox hb)
        | ((with_reducible refine gate_dst (N := 6) rfl ?_); refine box_event ?hg (N := 6) ?hd (cs := #[.slice none 0 0, .int .i64 0]) (t := 36) ?hr ?_; (case hd => rfl); (case hg => rfl); (case hr => first | (go_simp; done) | (go_simp; rfl)); intro g6 hg w4 hbox hb; have n0 := Aside0.mk (below_then HB.out HB.out.size hb); have n1 := Aside0.mk (blk_below B3.out hb); have n2 := Aside0.mk (hbox); have n3 := Aside0.mk ((by rw [hg]; exact HB.out.size : w.heap.size ≤ g6)); clear HB B3; have HB := n0; have B3 := n1; have B6 := n2; have G6 := n3; clear n0 n1 n2 n3; clear hg hbox hb; have hcg30 : w4.cell? ⟨g3, 0, none⟩ = some (.slice A l.length c) := (blk_cell B3.out 0).trans rfl; have hcg31 : w4.cell? ⟨g3, 1, none⟩ = some (.int .i64 m) := (blk_cell B3.out 1).trans rfl)
        | (go_at_call 30; refine (bits_Check.calls k A c l m 0 _ (Kd.C_below HR.out HB.out) HC.out HE.out).mono ?_; rintro e_ w5 ⟨rfl, hb⟩; have n0 := Aside0.mk (below_then HB.out HB.out.size hb); have n1 := Aside0.mk (blk_below B3.out hb); have n2 := Aside0.mk (blk_below B6.out hb); clear HB B3 B6; have HB := n0; have B3 := n1; have B6 := n2; clear n0 n1 n2; clear hb; clear hcg30 hcg31; have hcg30 : w5.cell? ⟨g3, 0, none⟩ = some (.slice A l.length c) := (blk_cell B3.out 0).trans rfl; have hcg31 : w5.cell? ⟨g3, 1, none⟩ = some (.int .i64 m) := (blk_cell B3.out 1).trans rfl; have hcg60 : w5.cell? ⟨g6, 0, none⟩ = some (.slice none 0 0) := (blk_cell B6.out 0).trans rfl; have hcg61 : w5.cell? ⟨g6, 1, none⟩ = some (.int .i64 0) := (blk_cell B6.out 1).trans rfl; have hfg60 := blk_frozen B6.out 0; have hfg61 := blk_frozen B6.out 1)
        | (go_at_call 42; refine (bits_fits.calls vv n 32 false _ HF.out).mono ?_; rintro e_ w6 ⟨rfl, hd⟩; obtain ⟨nd, rfl⟩ := hd.out; clear hd)
        )
      refine bodyPost_ret (results_ct rfl _ _ g6 36 #[.slice none 0 0, .int .i64 0] (0, 0) _ rfl (by (with_reducible repeat (first | refine blk_drewN ?_ _ | refine blk_drew ?_ | refine blk_alloc ?_ _)); refine blk_put (cs := #[.slice none 0 0, .int .i64 0]) ?_ 1 _ rfl; (with_reducible repeat (first | refine blk_drewN ?_ _ | refine blk_drew ?_ | refine blk_alloc ?_ _)); refine blk_put (cs := #[.slice none 0 0, .int .i64 0]) ?_ 0 _ rfl; (with_reducible repeat (first | refine blk_drewN ?_ _ | refine blk_drew ?_ | refine blk_alloc ?_ _)); exact B6.out) Try.underlying36 rfl (by kernel_rfl)) rfl ?_
      exact ⟨_, rfl, Kd.R_nil _ _ _ _ _, by repeat (first | (with_reducible first | exact HB.out | apply below_alloc | apply pw_below_drewN | apply below_drew1 | refine below_set ?_ G6.out) | exact HB.out)⟩
    | true =>
      rw [if_pos rfl] at h
      obtain ⟨l1, A3, h⟩ := Option.bind_eq_some_iff.mp h
      have HW := Aside0.mk A3
      clear A3
      obtain ⟨⟨q1, q2⟩, A4, h⟩ := Option.bind_eq_some_iff.mp h
      injection h with h
      injection h with h1 h
      injection h with h2 h3
      subst h1 h2 h3
      have H' := Aside0.mk A4
      clear A4
      go_enter Try.func32, Try.ntmps32
      go_wp2_with (first
        | ((with_reducible refine gate_dst (N := 3) rfl ?_); refine box_event ?hg (N := 3) ?hd (cs := #[.slice A l.length c, .int .i64 m]) (t := 36) ?hr ?_; (case hd => rfl); (case hg => rfl); (case hr => first | (go_simp; done) | (go_simp; rfl)); intro g3 hg w3 hbox hb; have n0 := Aside0.mk (below_then HB.out HB.out.size hb); have n1 := Aside0.mk (hbox); have n2 := Aside0.mk ((by rw [hg]; exact HB.out.size : w.heap.size ≤ g3)); clear HB; have HB := n0; have B3 := n1; have G3 := n2; clear n0 n1 n2; clear hg hbox hb)
        | ((with_reducible refine gate_dst (N := 6) rfl ?_); refine box_event ?hg (N := 6) ?hd (cs := #[.slice none 0 0, .int .i64 0]) (t := 36) ?hr ?_; (case hd => rfl); (case hg => rfl); (case hr => first | (go_simp; done) | (go_simp; rfl)); intro g6 hg w4 hbox hb; have n0 := Aside0.mk (below_then HB.out HB.out.size hb); have n1 := Aside0.mk (blk_below B3.out hb); have n2 := Aside0.mk (hbox); have n3 := Aside0.mk ((by rw [hg]; exact HB.out.size : w.heap.size ≤ g6)); clear HB B3; have HB := n0; have B3 := n1; have B6 := n2; have G6 := n3; clear n0 n1 n2 n3; clear hg hbox hb; have hcg30 : w4.cell? ⟨g3, 0, none⟩ = some (.slice A l.length c) := (blk_cell B3.out 0).trans rfl; have hcg31 : w4.cell? ⟨g3, 1, none⟩ = some (.int .i64 m) := (blk_cell B3.out 1).trans rfl)
        | (go_at_call 30; refine (bits_Check.calls k A c l m 0 _ (Kd.C_below HR.out HB.out) HC.out HE.out).mono ?_; rintro e_ w5 ⟨rfl, hb⟩; have n0 := Aside0.mk (below_then HB.out HB.out.size hb); have n1 := Aside0.mk (blk_below B3.out hb); have n2 := Aside0.mk (blk_below B6.out hb); clear HB B3 B6; have HB := n0; have B3 := n1; have B6 := n2; clear n0 n1 n2; clear hb; clear hcg30 hcg31; have hcg30 : w5.cell? ⟨g3, 0, none⟩ = some (.slice A l.length c) := (blk_cell B3.out 0).trans rfl; have hcg31 : w5.cell? ⟨g3, 1, none⟩ = some (.int .i64 m) := (blk_cell B3.out 1).trans rfl; have hcg60 : w5.cell? ⟨g6, 0, none⟩ = some (.slice none 0 0) := (blk_cell B6.out 0).trans rfl; have hcg61 : w5.cell? ⟨g6, 1, none⟩ = some (.int .i64 0) := (blk_cell B6.out 1).trans rfl; have hfg60 := blk_frozen B6.out 0; have hfg61 := blk_frozen B6.out 1)
        | (go_at_call 42; refine (bits_fits.calls vv n 32 true _ HF.out).mono ?_; rintro e_ w6 ⟨rfl, hd⟩; obtain ⟨nd, rfl⟩ := hd.out; clear hd)
        | (go_at_call 43; refine (bits_writer.calls A c l m l1 _ (Kd.C_drewN (Kd.C_below HR.out HB.out) _) HC.out HW.out).mono ?_; rintro e_ w7 ⟨gb, gv, v1, rfl, gB, gV, bV, bB, ho, hb⟩; have n0 := Aside0.mk (below_then (pw_below_drewN HB.out _) HB.out.size hb); have n1 := Aside0.mk (blk_below (blk_drewN B3.out _) hb); have n2 := Aside0.mk (blk_below (blk_drewN B6.out _) hb); have n3 := Aside0.mk (Nat.le_trans HB.out.size gB); have n4 := Aside0.mk (Nat.le_trans HB.out.size gV); have n5 := Aside0.mk (Nat.ne_of_lt (Nat.lt_of_lt_of_le (blk_lt B6.out) gB)); have n6 := Aside0.mk (bV); have n7 := Aside0.mk (bB); have n8 := Aside0.mk (Kd.R_lower ho HB.out.size); clear HB B3 B6; have HB := n0; have B3 := n1; have B6 := n2; have GB := n3; have GV := n4; have N6 := n5; have BV := n6; have BB := n7; have HO := n8; clear n0 n1 n2 n3 n4 n5 n6 n7 n8; clear gB gV bV bB ho hb; clear hcg30 hcg31; clear hcg60 hcg61)
        )
      go_loopg [27] k (fun kq v27 w' => ∃ (i : Int) (l2 : List Int) (m2 : Int) (u : Value), v27 = .int .i64 i ∧ Aside0 (bits_Put.l0 kq l2 m2 vv n i = some (q1, q2)) ∧ Aside0 (Kd.R (Kd.int .u8) 5 w' w.heap.size (fun _ => True) u l2) ∧ Aside0 (w'.heap[g6]? = some (.cells #[.slice none 0 0, .int .i64 0] 36 (0, 0))) ∧ Aside0 (w'.heap[gv]? = some (.cells #[.pointer (some ⟨gb, 0, none⟩)] 79 (0, 0))) ∧ Aside0 (w'.heap[gb]? = some (.cells #[u, .int .i64 m2] 36 (0, 0))) ∧ Aside0 (Below w.heap.size w w'))
      case atStart => exact ⟨0, l1, m, _, rfl, H', HO, B6, BV, BB, HB⟩
      case round =>
        clear H' HO B6 BV BB HB
        obtain ⟨i, l2, m2, u, rfl, HA, HO, B6, BV, BB, HB⟩ := hrel
        cases gk with
        | zero => exact absurd HA.out (by simp [bits_Put.l0])
        | succ k2 =>
          have H := HA.out
          clear HA
          simp only [bits_Put.l0] at H
          by_cases c2 : i < n
          · rw [if_pos c2] at H
            have c2b : decide (i < n) = true := decide_eq_true c2
            clear c2
            by_cases c3 : 0 ≤ i
            · rw [if_pos c3] at H
              have c3b := eq_true c3
              have c3c : decide (0 ≤ i) = true := decide_eq_true c3
              clear c3
              obtain ⟨ji, hji⟩ : ∃ j_ : Int, (shr .i64 vv i) = j_ := ⟨_, rfl⟩
              rw [hji] at H
              have hji_ : (vv / 2 ^ min i.toNat 64) = ji := hji
              have hjiz : i ≤ 64 → (vv / 2 ^ i.toNat) = ji := shr_small hji
              obtain ⟨⟨l3, m3⟩, A5, H⟩ := Option.bind_eq_some_iff.mp H
              have HP := Aside0.mk A5
              clear A5
              have H2 := Aside0.mk H
              clear H
              go_wp2_with (first
                | (go_at_call 48; refine (bits_writer1.calls gv gb l2 m2 (Go.bits .and .i64 ji 1) l3 m3 u w _ HB.out GV.out GB.out BV.out BB.out HO.out HP.out).mono ?_; rintro e_ w5 ⟨rfl, u3, bv3, bb3, ho3, hb3, hk3⟩; have n1 := Aside0.mk ho3; have n2 := Aside0.mk bv3; have n3 := Aside0.mk bb3; have n4 := Aside0.mk hb3; have n5 := Aside0.mk (hk3.blk B6.out N6.out (Kd.R_ne HO.out B6.out (by decide))); clear HO BV BB HB B6 ho3 bv3 bb3 hb3 hk3; have HO := n1; have BV := n2; have BB := n3; have HB := n4; have B6 := n5; clear n1 n2 n3 n4 n5))
              go_roundg k2
              case measure => omega
              case rel => exact ⟨wrap64 (i + 1), l3, m3, u3, (by first | rfl | (simp; done) | (simp [*]; done)), H2, HO, B6, BV, BB, HB⟩
            · rw [if_neg c3] at H
              cases H
          · rw [if_neg c2] at H
            have c2b : decide (i < n) = false := decide_eq_false c2
            clear c2
            injection H with H
            injection H with H1 H2
            subst H1 H2
            obtain ⟨A2, c2, eu⟩ := Kd.R_slice HO.out
            subst eu
            have hnb := N6.out
            have hnc := Ne.symm N6.out
            have hcgb0 : wr.cell? ⟨gb, 0, none⟩ = some (.slice A2 l2.length c2) := (blk_cell BB.out 0).trans rfl
            have hcgb1 : wr.cell? ⟨gb, 1, none⟩ = some (.int .i64 m2) := (blk_cell BB.out 1).trans rfl
            have hcg60 : wr.cell? ⟨g6, 0, none⟩ = some (.slice none 0 0) := (blk_cell B6.out 0).trans rfl
            have hcg61 : wr.cell? ⟨g6, 1, none⟩ = some (.int .i64 0) := (blk_cell B6.out 1).trans rfl
            have hfgb0 := blk_frozen BB.out 0
            have hfgb1 := blk_frozen BB.out 1
            have hfg60 := blk_frozen B6.out 0
            have hfg61 := blk_frozen B6.out 1
            go_wp2
            refine bodyPost_ret (results_ct rfl _ _ g6 36 #[.slice A2 l2.length c2, .int .i64 m2] (0, 0) _ rfl (by (with_reducible repeat (first | refine blk_drewN ?_ _ | refine blk_drew ?_ | refine blk_alloc ?_ _)); refine blk_put (cs := #[.slice A2 l2.length c2, .int .i64 0]) ?_ 1 _ rfl; (with_reducible repeat (first | refine blk_drewN ?_ _ | refine blk_drew ?_ | refine blk_alloc ?_ _)); refine blk_put (cs := #[.slice none 0 0, .int .i64 0]) ?_ 0 _ rfl; (with_reducible repeat (first | refine blk_drewN ?_ _ | refine blk_drew ?_ | refine blk_alloc ?_ _)); exact B6.out) Try.underlying36 rfl (by kernel_rfl)) rfl ?_
            exact ⟨_, rfl, Kd.R_mono (Kd.R_far (p := ⟨g6, 1, none⟩) (Kd.R_far (p := ⟨g6, 0, none⟩) (Kd.R_types HO.out B6.out (by decide)) (fun _ hk => hk.2) _) (fun _ hk => hk.2) _) (fun _ hk => trivial), by repeat (first | (with_reducible first | exact HB.out | apply below_alloc | apply pw_below_drewN | apply below_drew1 | refine below_set ?_ G6.out) | exact HB.out)⟩
  · rw [if_neg c1] at h
    injection h with h
    injection h with h1 h
    injection h with h2 h3
    subst h1 h2 h3
    have c1b : (e == 0) = false := beq_eq_false_iff_ne.mpr c1
    have c1c : (e != 0) = true := bne_iff_ne.mpr c1
    clear c1
    go_enter Try.func32, Try.ntmps32
    go_wp2_with (first
        | ((with_reducible refine gate_dst (N := 3) rfl ?_); refine box_event ?hg (N := 3) ?hd (cs := #[.slice A l.length c, .int .i64 m]) (t := 36) ?hr ?_; (case hd => rfl); (case hg => rfl); (case hr => first | (go_simp; done) | (go_simp; rfl)); intro g3 hg w3 hbox hb; have n0 := Aside0.mk (below_then HB.out HB.out.size hb); have n1 := Aside0.mk (hbox); have n2 := Aside0.mk ((by rw [hg]; exact HB.out.size : w.heap.size ≤ g3)); clear HB; have HB := n0; have B3 := n1; have G3 := n2; clear n0 n1 n2; clear hg hbox hb)
        | ((with_reducible refine gate_dst (N := 6) rfl ?_); refine box_event ?hg (N := 6) ?hd (cs := #[.slice none 0 0, .int .i64 0]) (t := 36) ?hr ?_; (case hd => rfl); (case hg => rfl); (case hr => first | (go_simp; done) | (go_simp; rfl)); intro g6 hg w4 hbox hb; have n0 := Aside0.mk (below_then HB.out HB.out.size hb); have n1 := Aside0.mk (blk_below B3.out hb); have n2 := Aside0.mk (hbox); have n3 := Aside0.mk ((by rw [hg]; exact HB.out.size : w.heap.size ≤ g6)); clear HB B3; have HB := n0; have B3 := n1; have B6 := n2; have G6 := n3; clear n0 n1 n2 n3; clear hg hbox hb; have hcg30 : w4.cell? ⟨g3, 0, none⟩ = some (.slice A l.length c) := (blk_cell B3.out 0).trans rfl; have hcg31 : w4.cell? ⟨g3, 1, none⟩ = some (.int .i64 m) := (blk_cell B3.out 1).trans rfl)
        | (go_at_call 30; refine (bits_Check.calls k A c l m e _ (Kd.C_below HR.out HB.out) HC.out HE.out).mono ?_; rintro e_ w5 ⟨rfl, hb⟩; have n0 := Aside0.mk (below_then HB.out HB.out.size hb); have n1 := Aside0.mk (blk_below B3.out hb); have n2 := Aside0.mk (blk_below B6.out hb); clear HB B3 B6; have HB := n0; have B3 := n1; have B6 := n2; clear n0 n1 n2; clear hb; clear hcg30 hcg31; have hcg30 : w5.cell? ⟨g3, 0, none⟩ = some (.slice A l.length c) := (blk_cell B3.out 0).trans rfl; have hcg31 : w5.cell? ⟨g3, 1, none⟩ = some (.int .i64 m) := (blk_cell B3.out 1).trans rfl; have hcg60 : w5.cell? ⟨g6, 0, none⟩ = some (.slice none 0 0) := (blk_cell B6.out 0).trans rfl; have hcg61 : w5.cell? ⟨g6, 1, none⟩ = some (.int .i64 0) := (blk_cell B6.out 1).trans rfl; have hfg60 := blk_frozen B6.out 0; have hfg61 := blk_frozen B6.out 1)
        )
    refine bodyPost_ret (results_ct rfl _ _ g6 36 #[.slice none 0 0, .int .i64 0] (0, 0) _ rfl (by (with_reducible repeat (first | refine blk_drewN ?_ _ | refine blk_drew ?_ | refine blk_alloc ?_ _)); refine blk_put (cs := #[.slice none 0 0, .int .i64 0]) ?_ 1 _ rfl; (with_reducible repeat (first | refine blk_drewN ?_ _ | refine blk_drew ?_ | refine blk_alloc ?_ _)); refine blk_put (cs := #[.slice none 0 0, .int .i64 0]) ?_ 0 _ rfl; (with_reducible repeat (first | refine blk_drewN ?_ _ | refine blk_drew ?_ | refine blk_alloc ?_ _)); exact B6.out) Try.underlying36 rfl (by kernel_rfl)) rfl ?_
    exact ⟨_, rfl, Kd.R_nil _ _ _ _ _, by repeat (first | (with_reducible first | exact HB.out | apply below_alloc | apply pw_below_drewN | apply below_drew1 | refine below_set ?_ G6.out) | exact HB.out)⟩

end Go.Proofs.Ythcndpdfcippiaa.Pr
