-- Written by a program of this session (wip/tool/graft.py), which runs the kit's printer over texts by hand.
import Derived.Test.YthcndpdfcippiaaPr0
import Derived.Test.YthcndpdfcippiaaPr7
import Derived.Test.YthcndpdfcippiaaPr8
import Derived.Test.YthcndpdfcippiaaPr11
namespace Go.Proofs.Ythcndpdfcippiaa.Pr
open Go.RowKit Go.Proofs.YthcndpdfcippiaaW.PrintWords Go.Proofs.YthcndpdfcippiaaW.PrintLast Go.Proofs.YthcndpdfcippiaaW.PrintMore
attribute [local go_sem] max2_int min2_int max_two min_two max_three min_three max_four min_four   -- for this text's walks alone
set_option linter.unusedVariables false
set_option linter.unusedSimpArgs false

/-! ### huff_Put: function 18 (by hand) -/
section
attribute [local go_sem] Oper.semAt_some
set_option maxHeartbeats 4000000 in
set_option maxRecDepth 100000 in
theorem huff_Put.c1 (k : Nat) (A : Option Addr) (c : Nat) (l : List Int) (m : Int) (A1 : Option Addr) (c1 : Nat) (zs : List Int) (sym : Int) (w : World) (hr : Kd.C (Kd.int .u8) w A l.length l) (hc : l.length ≤ c) (hr1 : Kd.C (Kd.int .i64) w A1 zs.length zs) (hok : (Hu.countedS zs).2 = false)  :
    Calls Try.prog 18 #[.agg #[.slice A l.length c, .int .i64 m], .slice A1 zs.length c1, .int .i64 sym] w fun e w' => ∃ v0_ : Value, e = .returned (.tuple #[.agg #[v0_, .int .i64 0], .int .i64 2]) ∧ Kd.R (Kd.int .u8) 5 w' w.heap.size (fun _ => True) v0_ [] ∧ Below w.heap.size w w' := by
  have HR := Aside0.mk hr
  have HC := Aside0.mk hc
  have HR1 := Aside0.mk hr1
  have HB := Aside0.mk (Below.refl w.heap.size w)
  have KC := Aside0.mk (fun (w' : World) (hb : Below w.heap.size w w') => Hu.huff_counted.calls A1 c1 zs w' (Kd.C_below hr1 hb))
  have KD := Aside0.mk (fun (w' : World) (hb : Below w.heap.size w w') => Hu.huff_Codes_in A1 c1 zs w' (Kd.C_below hr1 hb))
  unfold Hu.CountedPost at KC
  have hlen := Hu.countedS_len zs
  obtain ⟨cs, hcs⟩ : ∃ cs, Hu.countedS zs = cs := ⟨_, rfl⟩
  rw [hcs] at hlen KC hok
  clear hcs hr hc hr1
  obtain ⟨cl, ok⟩ := cs
  dsimp only at hlen KC hok
  subst hok
  obtain ⟨x0, cl, rfl⟩ := List.exists_cons_of_length_pos (l := cl) (by omega)
  obtain ⟨x1, cl, rfl⟩ := List.exists_cons_of_length_pos (l := cl) (by simp only [List.length_cons] at hlen; omega)
  obtain ⟨x2, cl, rfl⟩ := List.exists_cons_of_length_pos (l := cl) (by simp only [List.length_cons] at hlen; omega)
  obtain ⟨x3, cl, rfl⟩ := List.exists_cons_of_length_pos (l := cl) (by simp only [List.length_cons] at hlen; omega)
  obtain ⟨x4, cl, rfl⟩ := List.exists_cons_of_length_pos (l := cl) (by simp only [List.length_cons] at hlen; omega)
  obtain ⟨x5, cl, rfl⟩ := List.exists_cons_of_length_pos (l := cl) (by simp only [List.length_cons] at hlen; omega)
  obtain ⟨x6, cl, rfl⟩ := List.exists_cons_of_length_pos (l := cl) (by simp only [List.length_cons] at hlen; omega)
  obtain ⟨x7, cl, rfl⟩ := List.exists_cons_of_length_pos (l := cl) (by simp only [List.length_cons] at hlen; omega)
  obtain ⟨x8, cl, rfl⟩ := List.exists_cons_of_length_pos (l := cl) (by simp only [List.length_cons] at hlen; omega)
  obtain ⟨x9, cl, rfl⟩ := List.exists_cons_of_length_pos (l := cl) (by simp only [List.length_cons] at hlen; omega)
  obtain ⟨x10, cl, rfl⟩ := List.exists_cons_of_length_pos (l := cl) (by simp only [List.length_cons] at hlen; omega)
  obtain ⟨x11, cl, rfl⟩ := List.exists_cons_of_length_pos (l := cl) (by simp only [List.length_cons] at hlen; omega)
  obtain ⟨x12, cl, rfl⟩ := List.exists_cons_of_length_pos (l := cl) (by simp only [List.length_cons] at hlen; omega)
  obtain ⟨x13, cl, rfl⟩ := List.exists_cons_of_length_pos (l := cl) (by simp only [List.length_cons] at hlen; omega)
  obtain ⟨x14, cl, rfl⟩ := List.exists_cons_of_length_pos (l := cl) (by simp only [List.length_cons] at hlen; omega)
  obtain ⟨x15, cl, rfl⟩ := List.exists_cons_of_length_pos (l := cl) (by simp only [List.length_cons] at hlen; omega)
  obtain rfl : cl = [] := List.eq_nil_of_length_eq_zero (by simp only [List.length_cons] at hlen; omega)
  clear hlen
  go_enter Try.func18, Try.ntmps18
  go_upto_region 2 with (first
        | ((with_reducible refine gate_dst (N := 3) rfl ?_); refine box_event ?hg (N := 3) ?hd (cs := #[.slice A l.length c, .int .i64 m]) (t := 36) ?hr ?_; (case hd => rfl); (case hg => rfl); (case hr => first | (go_simp; done) | (go_simp; rfl)); intro g3 hg w3 hbox hb; have n0 := Aside0.mk (below_then HB.out HB.out.size hb); have n1 := Aside0.mk (hbox); have n2 := Aside0.mk ((by rw [hg]; exact HB.out.size : w.heap.size ≤ g3)); clear HB; have HB := n0; have B3 := n1; have G3 := n2; clear n0 n1 n2; clear hg hbox hb)
        | ((with_reducible refine gate_dst (N := 6) rfl ?_); refine box_event ?hg (N := 6) ?hd (cs := #[.slice none 0 0, .int .i64 0]) (t := 36) ?hr ?_; (case hd => rfl); (case hg => rfl); (case hr => first | (go_simp; done) | (go_simp; rfl)); intro g6 hg w4 hbox hb; have n0 := Aside0.mk (below_then HB.out HB.out.size hb); have n1 := Aside0.mk (blk_below B3.out hb); have n2 := Aside0.mk (hbox); have n3 := Aside0.mk ((by rw [hg]; exact HB.out.size : w.heap.size ≤ g6)); clear HB B3; have HB := n0; have B3 := n1; have B6 := n2; have G6 := n3; clear n0 n1 n2 n3; clear hg hbox hb; have hcg30 : w4.cell? ⟨g3, 0, none⟩ = some (.slice A l.length c) := (blk_cell B3.out 0).trans rfl; have hcg31 : w4.cell? ⟨g3, 1, none⟩ = some (.int .i64 m) := (blk_cell B3.out 1).trans rfl)
        | (go_at_call 25; refine (KC.out _ HB.out).mono ?_; rintro e_ w5 ⟨rfl, hb⟩; have n0 := Aside0.mk (below_then HB.out HB.out.size hb); have n1 := Aside0.mk (blk_below B3.out hb); have n2 := Aside0.mk (blk_below B6.out hb); clear HB B3 B6; have HB := n0; have B3 := n1; have B6 := n2; clear n0 n1 n2; clear hb; clear hcg30 hcg31; have hcg30 : w5.cell? ⟨g3, 0, none⟩ = some (.slice A l.length c) := (blk_cell B3.out 0).trans rfl; have hcg31 : w5.cell? ⟨g3, 1, none⟩ = some (.int .i64 m) := (blk_cell B3.out 1).trans rfl; have hcg60 : w5.cell? ⟨g6, 0, none⟩ = some (.slice none 0 0) := (blk_cell B6.out 0).trans rfl; have hcg61 : w5.cell? ⟨g6, 1, none⟩ = some (.int .i64 0) := (blk_cell B6.out 1).trans rfl; have hfg60 := blk_frozen B6.out 0; have hfg61 := blk_frozen B6.out 1; simp only [Hu.agg16, List.map_cons, List.map_nil])
        )
  have n0 := Aside0.mk (below_alloc HB.out (.cells #[Value.int IntKind.i64 x0, Value.int IntKind.i64 x1, Value.int IntKind.i64 x2, Value.int IntKind.i64 x3, Value.int IntKind.i64 x4, Value.int IntKind.i64 x5, Value.int IntKind.i64 x6, Value.int IntKind.i64 x7, Value.int IntKind.i64 x8, Value.int IntKind.i64 x9, Value.int IntKind.i64 x10, Value.int IntKind.i64 x11, Value.int IntKind.i64 x12, Value.int IntKind.i64 x13, Value.int IntKind.i64 x14, Value.int IntKind.i64 x15] 57 (0, 0)))
  have n1 := Aside0.mk (blk_alloc B3.out (.cells #[Value.int IntKind.i64 x0, Value.int IntKind.i64 x1, Value.int IntKind.i64 x2, Value.int IntKind.i64 x3, Value.int IntKind.i64 x4, Value.int IntKind.i64 x5, Value.int IntKind.i64 x6, Value.int IntKind.i64 x7, Value.int IntKind.i64 x8, Value.int IntKind.i64 x9, Value.int IntKind.i64 x10, Value.int IntKind.i64 x11, Value.int IntKind.i64 x12, Value.int IntKind.i64 x13, Value.int IntKind.i64 x14, Value.int IntKind.i64 x15] 57 (0, 0)))
  have n2 := Aside0.mk (blk_alloc B6.out (.cells #[Value.int IntKind.i64 x0, Value.int IntKind.i64 x1, Value.int IntKind.i64 x2, Value.int IntKind.i64 x3, Value.int IntKind.i64 x4, Value.int IntKind.i64 x5, Value.int IntKind.i64 x6, Value.int IntKind.i64 x7, Value.int IntKind.i64 x8, Value.int IntKind.i64 x9, Value.int IntKind.i64 x10, Value.int IntKind.i64 x11, Value.int IntKind.i64 x12, Value.int IntKind.i64 x13, Value.int IntKind.i64 x14, Value.int IntKind.i64 x15] 57 (0, 0)))
  clear HB B3 B6
  have HB := n0
  have B3 := n1
  have B6 := n2
  clear n0 n1 n2
  generalize (w5.alloc (.cells #[Value.int IntKind.i64 x0, Value.int IntKind.i64 x1, Value.int IntKind.i64 x2, Value.int IntKind.i64 x3, Value.int IntKind.i64 x4, Value.int IntKind.i64 x5, Value.int IntKind.i64 x6, Value.int IntKind.i64 x7, Value.int IntKind.i64 x8, Value.int IntKind.i64 x9, Value.int IntKind.i64 x10, Value.int IntKind.i64 x11, Value.int IntKind.i64 x12, Value.int IntKind.i64 x13, Value.int IntKind.i64 x14, Value.int IntKind.i64 x15] 57 (0, 0))) = wa at HB B3 B6 ⊢
  generalize (Value.agg #[Value.int IntKind.i64 x0, Value.int IntKind.i64 x1, Value.int IntKind.i64 x2, Value.int IntKind.i64 x3, Value.int IntKind.i64 x4, Value.int IntKind.i64 x5, Value.int IntKind.i64 x6, Value.int IntKind.i64 x7, Value.int IntKind.i64 x8, Value.int IntKind.i64 x9, Value.int IntKind.i64 x10, Value.int IntKind.i64 x11, Value.int IntKind.i64 x12, Value.int IntKind.i64 x13, Value.int IntKind.i64 x14, Value.int IntKind.i64 x15]) = vagg
  clear hcg30 hcg31 hcg60 hcg61
  clear hfg60 hfg61
  have hcg30 : wa.cell? ⟨g3, 0, none⟩ = some (.slice A l.length c) := (blk_cell B3.out 0).trans rfl
  have hcg31 : wa.cell? ⟨g3, 1, none⟩ = some (.int .i64 m) := (blk_cell B3.out 1).trans rfl
  have hcg60 : wa.cell? ⟨g6, 0, none⟩ = some (.slice none 0 0) := (blk_cell B6.out 0).trans rfl
  have hcg61 : wa.cell? ⟨g6, 1, none⟩ = some (.int .i64 0) := (blk_cell B6.out 1).trans rfl
  have hfg60 := blk_frozen B6.out 0
  have hfg61 := blk_frozen B6.out 1
  go_wp2
  refine bodyPost_ret (results_ct rfl _ _ g6 36 #[.slice none 0 0, .int .i64 0] (0, 0) _ rfl (by (with_reducible repeat (first | refine blk_drewN ?_ _ | refine blk_drew ?_ | refine blk_alloc ?_ _)); refine blk_put (cs := #[.slice none 0 0, .int .i64 0]) ?_ 1 _ rfl; (with_reducible repeat (first | refine blk_drewN ?_ _ | refine blk_drew ?_ | refine blk_alloc ?_ _)); refine blk_put (cs := #[.slice none 0 0, .int .i64 0]) ?_ 0 _ rfl; (with_reducible repeat (first | refine blk_drewN ?_ _ | refine blk_drew ?_ | refine blk_alloc ?_ _)); exact B6.out) Try.underlying36 rfl (by kernel_rfl)) rfl ?_
  exact ⟨_, rfl, Kd.R_nil _ _ _ _ _, by repeat (first | (with_reducible first | exact HB.out | apply below_alloc | apply pw_below_drewN | apply below_drew1 | refine below_set ?_ G6.out) | exact HB.out)⟩
end
section
attribute [local go_sem] Oper.semAt_some
set_option maxHeartbeats 4000000 in
set_option maxRecDepth 100000 in
theorem huff_Put.c2 (k : Nat) (A : Option Addr) (c : Nat) (l : List Int) (m : Int) (A1 : Option Addr) (c1 : Nat) (zs : List Int) (sym : Int) (w : World) (hr : Kd.C (Kd.int .u8) w A l.length l) (hc : l.length ≤ c) (hr1 : Kd.C (Kd.int .i64) w A1 zs.length zs) (hok : (Hu.countedS zs).2 = true) (e : Int) (he : bits_Check.f k l m = some e) (he0 : ¬ e = 0) :
    Calls Try.prog 18 #[.agg #[.slice A l.length c, .int .i64 m], .slice A1 zs.length c1, .int .i64 sym] w fun e w' => ∃ v0_ : Value, e = .returned (.tuple #[.agg #[v0_, .int .i64 0], .int .i64 2]) ∧ Kd.R (Kd.int .u8) 5 w' w.heap.size (fun _ => True) v0_ [] ∧ Below w.heap.size w w' := by
  have HR := Aside0.mk hr
  have HC := Aside0.mk hc
  have HR1 := Aside0.mk hr1
  have HB := Aside0.mk (Below.refl w.heap.size w)
  have KC := Aside0.mk (fun (w' : World) (hb : Below w.heap.size w w') => Hu.huff_counted.calls A1 c1 zs w' (Kd.C_below hr1 hb))
  have KD := Aside0.mk (fun (w' : World) (hb : Below w.heap.size w w') => Hu.huff_Codes_in A1 c1 zs w' (Kd.C_below hr1 hb))
  unfold Hu.CountedPost at KC
  have hlen := Hu.countedS_len zs
  obtain ⟨cs, hcs⟩ : ∃ cs, Hu.countedS zs = cs := ⟨_, rfl⟩
  rw [hcs] at hlen KC hok
  clear hcs hr hc hr1
  obtain ⟨cl, ok⟩ := cs
  dsimp only at hlen KC hok
  subst hok
  obtain ⟨x0, cl, rfl⟩ := List.exists_cons_of_length_pos (l := cl) (by omega)
  obtain ⟨x1, cl, rfl⟩ := List.exists_cons_of_length_pos (l := cl) (by simp only [List.length_cons] at hlen; omega)
  obtain ⟨x2, cl, rfl⟩ := List.exists_cons_of_length_pos (l := cl) (by simp only [List.length_cons] at hlen; omega)
  obtain ⟨x3, cl, rfl⟩ := List.exists_cons_of_length_pos (l := cl) (by simp only [List.length_cons] at hlen; omega)
  obtain ⟨x4, cl, rfl⟩ := List.exists_cons_of_length_pos (l := cl) (by simp only [List.length_cons] at hlen; omega)
  obtain ⟨x5, cl, rfl⟩ := List.exists_cons_of_length_pos (l := cl) (by simp only [List.length_cons] at hlen; omega)
  obtain ⟨x6, cl, rfl⟩ := List.exists_cons_of_length_pos (l := cl) (by simp only [List.length_cons] at hlen; omega)
  obtain ⟨x7, cl, rfl⟩ := List.exists_cons_of_length_pos (l := cl) (by simp only [List.length_cons] at hlen; omega)
  obtain ⟨x8, cl, rfl⟩ := List.exists_cons_of_length_pos (l := cl) (by simp only [List.length_cons] at hlen; omega)
  obtain ⟨x9, cl, rfl⟩ := List.exists_cons_of_length_pos (l := cl) (by simp only [List.length_cons] at hlen; omega)
  obtain ⟨x10, cl, rfl⟩ := List.exists_cons_of_length_pos (l := cl) (by simp only [List.length_cons] at hlen; omega)
  obtain ⟨x11, cl, rfl⟩ := List.exists_cons_of_length_pos (l := cl) (by simp only [List.length_cons] at hlen; omega)
  obtain ⟨x12, cl, rfl⟩ := List.exists_cons_of_length_pos (l := cl) (by simp only [List.length_cons] at hlen; omega)
  obtain ⟨x13, cl, rfl⟩ := List.exists_cons_of_length_pos (l := cl) (by simp only [List.length_cons] at hlen; omega)
  obtain ⟨x14, cl, rfl⟩ := List.exists_cons_of_length_pos (l := cl) (by simp only [List.length_cons] at hlen; omega)
  obtain ⟨x15, cl, rfl⟩ := List.exists_cons_of_length_pos (l := cl) (by simp only [List.length_cons] at hlen; omega)
  obtain rfl : cl = [] := List.eq_nil_of_length_eq_zero (by simp only [List.length_cons] at hlen; omega)
  clear hlen
  have HE := Aside0.mk he
  clear he
  have heb : (e == 0) = false := beq_eq_false_iff_ne.mpr he0
  have hec : (e != 0) = true := bne_iff_ne.mpr he0
  clear he0
  go_enter Try.func18, Try.ntmps18
  go_upto_region 2 with (first
        | ((with_reducible refine gate_dst (N := 3) rfl ?_); refine box_event ?hg (N := 3) ?hd (cs := #[.slice A l.length c, .int .i64 m]) (t := 36) ?hr ?_; (case hd => rfl); (case hg => rfl); (case hr => first | (go_simp; done) | (go_simp; rfl)); intro g3 hg w3 hbox hb; have n0 := Aside0.mk (below_then HB.out HB.out.size hb); have n1 := Aside0.mk (hbox); have n2 := Aside0.mk ((by rw [hg]; exact HB.out.size : w.heap.size ≤ g3)); clear HB; have HB := n0; have B3 := n1; have G3 := n2; clear n0 n1 n2; clear hg hbox hb)
        | ((with_reducible refine gate_dst (N := 6) rfl ?_); refine box_event ?hg (N := 6) ?hd (cs := #[.slice none 0 0, .int .i64 0]) (t := 36) ?hr ?_; (case hd => rfl); (case hg => rfl); (case hr => first | (go_simp; done) | (go_simp; rfl)); intro g6 hg w4 hbox hb; have n0 := Aside0.mk (below_then HB.out HB.out.size hb); have n1 := Aside0.mk (blk_below B3.out hb); have n2 := Aside0.mk (hbox); have n3 := Aside0.mk ((by rw [hg]; exact HB.out.size : w.heap.size ≤ g6)); clear HB B3; have HB := n0; have B3 := n1; have B6 := n2; have G6 := n3; clear n0 n1 n2 n3; clear hg hbox hb; have hcg30 : w4.cell? ⟨g3, 0, none⟩ = some (.slice A l.length c) := (blk_cell B3.out 0).trans rfl; have hcg31 : w4.cell? ⟨g3, 1, none⟩ = some (.int .i64 m) := (blk_cell B3.out 1).trans rfl)
        | (go_at_call 25; refine (KC.out _ HB.out).mono ?_; rintro e_ w5 ⟨rfl, hb⟩; have n0 := Aside0.mk (below_then HB.out HB.out.size hb); have n1 := Aside0.mk (blk_below B3.out hb); have n2 := Aside0.mk (blk_below B6.out hb); clear HB B3 B6; have HB := n0; have B3 := n1; have B6 := n2; clear n0 n1 n2; clear hb; clear hcg30 hcg31; have hcg30 : w5.cell? ⟨g3, 0, none⟩ = some (.slice A l.length c) := (blk_cell B3.out 0).trans rfl; have hcg31 : w5.cell? ⟨g3, 1, none⟩ = some (.int .i64 m) := (blk_cell B3.out 1).trans rfl; have hcg60 : w5.cell? ⟨g6, 0, none⟩ = some (.slice none 0 0) := (blk_cell B6.out 0).trans rfl; have hcg61 : w5.cell? ⟨g6, 1, none⟩ = some (.int .i64 0) := (blk_cell B6.out 1).trans rfl; have hfg60 := blk_frozen B6.out 0; have hfg61 := blk_frozen B6.out 1; simp only [Hu.agg16, List.map_cons, List.map_nil])
        )
  have n0 := Aside0.mk (below_alloc HB.out (.cells #[Value.int IntKind.i64 x0, Value.int IntKind.i64 x1, Value.int IntKind.i64 x2, Value.int IntKind.i64 x3, Value.int IntKind.i64 x4, Value.int IntKind.i64 x5, Value.int IntKind.i64 x6, Value.int IntKind.i64 x7, Value.int IntKind.i64 x8, Value.int IntKind.i64 x9, Value.int IntKind.i64 x10, Value.int IntKind.i64 x11, Value.int IntKind.i64 x12, Value.int IntKind.i64 x13, Value.int IntKind.i64 x14, Value.int IntKind.i64 x15] 57 (0, 0)))
  have n1 := Aside0.mk (blk_alloc B3.out (.cells #[Value.int IntKind.i64 x0, Value.int IntKind.i64 x1, Value.int IntKind.i64 x2, Value.int IntKind.i64 x3, Value.int IntKind.i64 x4, Value.int IntKind.i64 x5, Value.int IntKind.i64 x6, Value.int IntKind.i64 x7, Value.int IntKind.i64 x8, Value.int IntKind.i64 x9, Value.int IntKind.i64 x10, Value.int IntKind.i64 x11, Value.int IntKind.i64 x12, Value.int IntKind.i64 x13, Value.int IntKind.i64 x14, Value.int IntKind.i64 x15] 57 (0, 0)))
  have n2 := Aside0.mk (blk_alloc B6.out (.cells #[Value.int IntKind.i64 x0, Value.int IntKind.i64 x1, Value.int IntKind.i64 x2, Value.int IntKind.i64 x3, Value.int IntKind.i64 x4, Value.int IntKind.i64 x5, Value.int IntKind.i64 x6, Value.int IntKind.i64 x7, Value.int IntKind.i64 x8, Value.int IntKind.i64 x9, Value.int IntKind.i64 x10, Value.int IntKind.i64 x11, Value.int IntKind.i64 x12, Value.int IntKind.i64 x13, Value.int IntKind.i64 x14, Value.int IntKind.i64 x15] 57 (0, 0)))
  clear HB B3 B6
  have HB := n0
  have B3 := n1
  have B6 := n2
  clear n0 n1 n2
  generalize (w5.alloc (.cells #[Value.int IntKind.i64 x0, Value.int IntKind.i64 x1, Value.int IntKind.i64 x2, Value.int IntKind.i64 x3, Value.int IntKind.i64 x4, Value.int IntKind.i64 x5, Value.int IntKind.i64 x6, Value.int IntKind.i64 x7, Value.int IntKind.i64 x8, Value.int IntKind.i64 x9, Value.int IntKind.i64 x10, Value.int IntKind.i64 x11, Value.int IntKind.i64 x12, Value.int IntKind.i64 x13, Value.int IntKind.i64 x14, Value.int IntKind.i64 x15] 57 (0, 0))) = wa at HB B3 B6 ⊢
  generalize (Value.agg #[Value.int IntKind.i64 x0, Value.int IntKind.i64 x1, Value.int IntKind.i64 x2, Value.int IntKind.i64 x3, Value.int IntKind.i64 x4, Value.int IntKind.i64 x5, Value.int IntKind.i64 x6, Value.int IntKind.i64 x7, Value.int IntKind.i64 x8, Value.int IntKind.i64 x9, Value.int IntKind.i64 x10, Value.int IntKind.i64 x11, Value.int IntKind.i64 x12, Value.int IntKind.i64 x13, Value.int IntKind.i64 x14, Value.int IntKind.i64 x15]) = vagg
  clear hcg30 hcg31 hcg60 hcg61
  clear hfg60 hfg61
  have hcg30 : wa.cell? ⟨g3, 0, none⟩ = some (.slice A l.length c) := (blk_cell B3.out 0).trans rfl
  have hcg31 : wa.cell? ⟨g3, 1, none⟩ = some (.int .i64 m) := (blk_cell B3.out 1).trans rfl
  have hcg60 : wa.cell? ⟨g6, 0, none⟩ = some (.slice none 0 0) := (blk_cell B6.out 0).trans rfl
  have hcg61 : wa.cell? ⟨g6, 1, none⟩ = some (.int .i64 0) := (blk_cell B6.out 1).trans rfl
  have hfg60 := blk_frozen B6.out 0
  have hfg61 := blk_frozen B6.out 1
  go_wp2_with (first
        | (go_at_call 30; refine (bits_Check.calls k A c l m e _ (Kd.C_below HR.out HB.out) HC.out HE.out).mono ?_; rintro e_ w6 ⟨rfl, hb⟩; have n0 := Aside0.mk (below_then HB.out HB.out.size hb); have n1 := Aside0.mk (blk_below B3.out hb); have n2 := Aside0.mk (blk_below B6.out hb); clear HB B3 B6; have HB := n0; have B3 := n1; have B6 := n2; clear n0 n1 n2; clear hb; clear hcg30 hcg31 hcg60 hcg61; clear hfg60 hfg61; have hcg30 : w6.cell? ⟨g3, 0, none⟩ = some (.slice A l.length c) := (blk_cell B3.out 0).trans rfl; have hcg31 : w6.cell? ⟨g3, 1, none⟩ = some (.int .i64 m) := (blk_cell B3.out 1).trans rfl; have hcg60 : w6.cell? ⟨g6, 0, none⟩ = some (.slice none 0 0) := (blk_cell B6.out 0).trans rfl; have hcg61 : w6.cell? ⟨g6, 1, none⟩ = some (.int .i64 0) := (blk_cell B6.out 1).trans rfl; have hfg60 := blk_frozen B6.out 0; have hfg61 := blk_frozen B6.out 1)
        )
  refine bodyPost_ret (results_ct rfl _ _ g6 36 #[.slice none 0 0, .int .i64 0] (0, 0) _ rfl (by (with_reducible repeat (first | refine blk_drewN ?_ _ | refine blk_drew ?_ | refine blk_alloc ?_ _)); refine blk_put (cs := #[.slice none 0 0, .int .i64 0]) ?_ 1 _ rfl; (with_reducible repeat (first | refine blk_drewN ?_ _ | refine blk_drew ?_ | refine blk_alloc ?_ _)); refine blk_put (cs := #[.slice none 0 0, .int .i64 0]) ?_ 0 _ rfl; (with_reducible repeat (first | refine blk_drewN ?_ _ | refine blk_drew ?_ | refine blk_alloc ?_ _)); exact B6.out) Try.underlying36 rfl (by kernel_rfl)) rfl ?_
  exact ⟨_, rfl, Kd.R_nil _ _ _ _ _, by repeat (first | (with_reducible first | exact HB.out | apply below_alloc | apply pw_below_drewN | apply below_drew1 | refine below_set ?_ G6.out) | exact HB.out)⟩
end
section
attribute [local go_sem] Oper.semAt_some
set_option maxHeartbeats 4000000 in
set_option maxRecDepth 100000 in
theorem huff_Put.c3 (k : Nat) (A : Option Addr) (c : Nat) (l : List Int) (m : Int) (A1 : Option Addr) (c1 : Nat) (zs : List Int) (sym : Int) (w : World) (hr : Kd.C (Kd.int .u8) w A l.length l) (hc : l.length ≤ c) (hr1 : Kd.C (Kd.int .i64) w A1 zs.length zs) (hok : (Hu.countedS zs).2 = true) (he : bits_Check.f k l m = some 0) (s0 : sym < 0) :
    Calls Try.prog 18 #[.agg #[.slice A l.length c, .int .i64 m], .slice A1 zs.length c1, .int .i64 sym] w fun e w' => ∃ v0_ : Value, e = .returned (.tuple #[.agg #[v0_, .int .i64 0], .int .i64 2]) ∧ Kd.R (Kd.int .u8) 5 w' w.heap.size (fun _ => True) v0_ [] ∧ Below w.heap.size w w' := by
  have HR := Aside0.mk hr
  have HC := Aside0.mk hc
  have HR1 := Aside0.mk hr1
  have HB := Aside0.mk (Below.refl w.heap.size w)
  have KC := Aside0.mk (fun (w' : World) (hb : Below w.heap.size w w') => Hu.huff_counted.calls A1 c1 zs w' (Kd.C_below hr1 hb))
  have KD := Aside0.mk (fun (w' : World) (hb : Below w.heap.size w w') => Hu.huff_Codes_in A1 c1 zs w' (Kd.C_below hr1 hb))
  unfold Hu.CountedPost at KC
  have hlen := Hu.countedS_len zs
  obtain ⟨cs, hcs⟩ : ∃ cs, Hu.countedS zs = cs := ⟨_, rfl⟩
  rw [hcs] at hlen KC hok
  clear hcs hr hc hr1
  obtain ⟨cl, ok⟩ := cs
  dsimp only at hlen KC hok
  subst hok
  obtain ⟨x0, cl, rfl⟩ := List.exists_cons_of_length_pos (l := cl) (by omega)
  obtain ⟨x1, cl, rfl⟩ := List.exists_cons_of_length_pos (l := cl) (by simp only [List.length_cons] at hlen; omega)
  obtain ⟨x2, cl, rfl⟩ := List.exists_cons_of_length_pos (l := cl) (by simp only [List.length_cons] at hlen; omega)
  obtain ⟨x3, cl, rfl⟩ := List.exists_cons_of_length_pos (l := cl) (by simp only [List.length_cons] at hlen; omega)
  obtain ⟨x4, cl, rfl⟩ := List.exists_cons_of_length_pos (l := cl) (by simp only [List.length_cons] at hlen; omega)
  obtain ⟨x5, cl, rfl⟩ := List.exists_cons_of_length_pos (l := cl) (by simp only [List.length_cons] at hlen; omega)
  obtain ⟨x6, cl, rfl⟩ := List.exists_cons_of_length_pos (l := cl) (by simp only [List.length_cons] at hlen; omega)
  obtain ⟨x7, cl, rfl⟩ := List.exists_cons_of_length_pos (l := cl) (by simp only [List.length_cons] at hlen; omega)
  obtain ⟨x8, cl, rfl⟩ := List.exists_cons_of_length_pos (l := cl) (by simp only [List.length_cons] at hlen; omega)
  obtain ⟨x9, cl, rfl⟩ := List.exists_cons_of_length_pos (l := cl) (by simp only [List.length_cons] at hlen; omega)
  obtain ⟨x10, cl, rfl⟩ := List.exists_cons_of_length_pos (l := cl) (by simp only [List.length_cons] at hlen; omega)
  obtain ⟨x11, cl, rfl⟩ := List.exists_cons_of_length_pos (l := cl) (by simp only [List.length_cons] at hlen; omega)
  obtain ⟨x12, cl, rfl⟩ := List.exists_cons_of_length_pos (l := cl) (by simp only [List.length_cons] at hlen; omega)
  obtain ⟨x13, cl, rfl⟩ := List.exists_cons_of_length_pos (l := cl) (by simp only [List.length_cons] at hlen; omega)
  obtain ⟨x14, cl, rfl⟩ := List.exists_cons_of_length_pos (l := cl) (by simp only [List.length_cons] at hlen; omega)
  obtain ⟨x15, cl, rfl⟩ := List.exists_cons_of_length_pos (l := cl) (by simp only [List.length_cons] at hlen; omega)
  obtain rfl : cl = [] := List.eq_nil_of_length_eq_zero (by simp only [List.length_cons] at hlen; omega)
  clear hlen
  have HE := Aside0.mk he
  clear he
  have s0b : decide (sym < 0) = true := decide_eq_true s0
  replace s0 := eq_true s0
  go_enter Try.func18, Try.ntmps18
  go_upto_region 2 with (first
        | ((with_reducible refine gate_dst (N := 3) rfl ?_); refine box_event ?hg (N := 3) ?hd (cs := #[.slice A l.length c, .int .i64 m]) (t := 36) ?hr ?_; (case hd => rfl); (case hg => rfl); (case hr => first | (go_simp; done) | (go_simp; rfl)); intro g3 hg w3 hbox hb; have n0 := Aside0.mk (below_then HB.out HB.out.size hb); have n1 := Aside0.mk (hbox); have n2 := Aside0.mk ((by rw [hg]; exact HB.out.size : w.heap.size ≤ g3)); clear HB; have HB := n0; have B3 := n1; have G3 := n2; clear n0 n1 n2; clear hg hbox hb)
        | ((with_reducible refine gate_dst (N := 6) rfl ?_); refine box_event ?hg (N := 6) ?hd (cs := #[.slice none 0 0, .int .i64 0]) (t := 36) ?hr ?_; (case hd => rfl); (case hg => rfl); (case hr => first | (go_simp; done) | (go_simp; rfl)); intro g6 hg w4 hbox hb; have n0 := Aside0.mk (below_then HB.out HB.out.size hb); have n1 := Aside0.mk (blk_below B3.out hb); have n2 := Aside0.mk (hbox); have n3 := Aside0.mk ((by rw [hg]; exact HB.out.size : w.heap.size ≤ g6)); clear HB B3; have HB := n0; have B3 := n1; have B6 := n2; have G6 := n3; clear n0 n1 n2 n3; clear hg hbox hb; have hcg30 : w4.cell? ⟨g3, 0, none⟩ = some (.slice A l.length c) := (blk_cell B3.out 0).trans rfl; have hcg31 : w4.cell? ⟨g3, 1, none⟩ = some (.int .i64 m) := (blk_cell B3.out 1).trans rfl)
        | (go_at_call 25; refine (KC.out _ HB.out).mono ?_; rintro e_ w5 ⟨rfl, hb⟩; have n0 := Aside0.mk (below_then HB.out HB.out.size hb); have n1 := Aside0.mk (blk_below B3.out hb); have n2 := Aside0.mk (blk_below B6.out hb); clear HB B3 B6; have HB := n0; have B3 := n1; have B6 := n2; clear n0 n1 n2; clear hb; clear hcg30 hcg31; have hcg30 : w5.cell? ⟨g3, 0, none⟩ = some (.slice A l.length c) := (blk_cell B3.out 0).trans rfl; have hcg31 : w5.cell? ⟨g3, 1, none⟩ = some (.int .i64 m) := (blk_cell B3.out 1).trans rfl; have hcg60 : w5.cell? ⟨g6, 0, none⟩ = some (.slice none 0 0) := (blk_cell B6.out 0).trans rfl; have hcg61 : w5.cell? ⟨g6, 1, none⟩ = some (.int .i64 0) := (blk_cell B6.out 1).trans rfl; have hfg60 := blk_frozen B6.out 0; have hfg61 := blk_frozen B6.out 1; simp only [Hu.agg16, List.map_cons, List.map_nil])
        )
  have n0 := Aside0.mk (below_alloc HB.out (.cells #[Value.int IntKind.i64 x0, Value.int IntKind.i64 x1, Value.int IntKind.i64 x2, Value.int IntKind.i64 x3, Value.int IntKind.i64 x4, Value.int IntKind.i64 x5, Value.int IntKind.i64 x6, Value.int IntKind.i64 x7, Value.int IntKind.i64 x8, Value.int IntKind.i64 x9, Value.int IntKind.i64 x10, Value.int IntKind.i64 x11, Value.int IntKind.i64 x12, Value.int IntKind.i64 x13, Value.int IntKind.i64 x14, Value.int IntKind.i64 x15] 57 (0, 0)))
  have n1 := Aside0.mk (blk_alloc B3.out (.cells #[Value.int IntKind.i64 x0, Value.int IntKind.i64 x1, Value.int IntKind.i64 x2, Value.int IntKind.i64 x3, Value.int IntKind.i64 x4, Value.int IntKind.i64 x5, Value.int IntKind.i64 x6, Value.int IntKind.i64 x7, Value.int IntKind.i64 x8, Value.int IntKind.i64 x9, Value.int IntKind.i64 x10, Value.int IntKind.i64 x11, Value.int IntKind.i64 x12, Value.int IntKind.i64 x13, Value.int IntKind.i64 x14, Value.int IntKind.i64 x15] 57 (0, 0)))
  have n2 := Aside0.mk (blk_alloc B6.out (.cells #[Value.int IntKind.i64 x0, Value.int IntKind.i64 x1, Value.int IntKind.i64 x2, Value.int IntKind.i64 x3, Value.int IntKind.i64 x4, Value.int IntKind.i64 x5, Value.int IntKind.i64 x6, Value.int IntKind.i64 x7, Value.int IntKind.i64 x8, Value.int IntKind.i64 x9, Value.int IntKind.i64 x10, Value.int IntKind.i64 x11, Value.int IntKind.i64 x12, Value.int IntKind.i64 x13, Value.int IntKind.i64 x14, Value.int IntKind.i64 x15] 57 (0, 0)))
  clear HB B3 B6
  have HB := n0
  have B3 := n1
  have B6 := n2
  clear n0 n1 n2
  generalize (w5.alloc (.cells #[Value.int IntKind.i64 x0, Value.int IntKind.i64 x1, Value.int IntKind.i64 x2, Value.int IntKind.i64 x3, Value.int IntKind.i64 x4, Value.int IntKind.i64 x5, Value.int IntKind.i64 x6, Value.int IntKind.i64 x7, Value.int IntKind.i64 x8, Value.int IntKind.i64 x9, Value.int IntKind.i64 x10, Value.int IntKind.i64 x11, Value.int IntKind.i64 x12, Value.int IntKind.i64 x13, Value.int IntKind.i64 x14, Value.int IntKind.i64 x15] 57 (0, 0))) = wa at HB B3 B6 ⊢
  generalize (Value.agg #[Value.int IntKind.i64 x0, Value.int IntKind.i64 x1, Value.int IntKind.i64 x2, Value.int IntKind.i64 x3, Value.int IntKind.i64 x4, Value.int IntKind.i64 x5, Value.int IntKind.i64 x6, Value.int IntKind.i64 x7, Value.int IntKind.i64 x8, Value.int IntKind.i64 x9, Value.int IntKind.i64 x10, Value.int IntKind.i64 x11, Value.int IntKind.i64 x12, Value.int IntKind.i64 x13, Value.int IntKind.i64 x14, Value.int IntKind.i64 x15]) = vagg
  clear hcg30 hcg31 hcg60 hcg61
  clear hfg60 hfg61
  have hcg30 : wa.cell? ⟨g3, 0, none⟩ = some (.slice A l.length c) := (blk_cell B3.out 0).trans rfl
  have hcg31 : wa.cell? ⟨g3, 1, none⟩ = some (.int .i64 m) := (blk_cell B3.out 1).trans rfl
  have hcg60 : wa.cell? ⟨g6, 0, none⟩ = some (.slice none 0 0) := (blk_cell B6.out 0).trans rfl
  have hcg61 : wa.cell? ⟨g6, 1, none⟩ = some (.int .i64 0) := (blk_cell B6.out 1).trans rfl
  have hfg60 := blk_frozen B6.out 0
  have hfg61 := blk_frozen B6.out 1
  go_wp2_with (first
        | (go_at_call 30; refine (bits_Check.calls k A c l m 0 _ (Kd.C_below HR.out HB.out) HC.out HE.out).mono ?_; rintro e_ w6 ⟨rfl, hb⟩; have n0 := Aside0.mk (below_then HB.out HB.out.size hb); have n1 := Aside0.mk (blk_below B3.out hb); have n2 := Aside0.mk (blk_below B6.out hb); clear HB B3 B6; have HB := n0; have B3 := n1; have B6 := n2; clear n0 n1 n2; clear hb; clear hcg30 hcg31 hcg60 hcg61; clear hfg60 hfg61; have hcg30 : w6.cell? ⟨g3, 0, none⟩ = some (.slice A l.length c) := (blk_cell B3.out 0).trans rfl; have hcg31 : w6.cell? ⟨g3, 1, none⟩ = some (.int .i64 m) := (blk_cell B3.out 1).trans rfl; have hcg60 : w6.cell? ⟨g6, 0, none⟩ = some (.slice none 0 0) := (blk_cell B6.out 0).trans rfl; have hcg61 : w6.cell? ⟨g6, 1, none⟩ = some (.int .i64 0) := (blk_cell B6.out 1).trans rfl; have hfg60 := blk_frozen B6.out 0; have hfg61 := blk_frozen B6.out 1)
        )
  refine bodyPost_ret (results_ct rfl _ _ g6 36 #[.slice none 0 0, .int .i64 0] (0, 0) _ rfl (by (with_reducible repeat (first | refine blk_drewN ?_ _ | refine blk_drew ?_ | refine blk_alloc ?_ _)); refine blk_put (cs := #[.slice none 0 0, .int .i64 0]) ?_ 1 _ rfl; (with_reducible repeat (first | refine blk_drewN ?_ _ | refine blk_drew ?_ | refine blk_alloc ?_ _)); refine blk_put (cs := #[.slice none 0 0, .int .i64 0]) ?_ 0 _ rfl; (with_reducible repeat (first | refine blk_drewN ?_ _ | refine blk_drew ?_ | refine blk_alloc ?_ _)); exact B6.out) Try.underlying36 rfl (by kernel_rfl)) rfl ?_
  exact ⟨_, rfl, Kd.R_nil _ _ _ _ _, by repeat (first | (with_reducible first | exact HB.out | apply below_alloc | apply pw_below_drewN | apply below_drew1 | refine below_set ?_ G6.out) | exact HB.out)⟩
end
section
attribute [local go_sem] Oper.semAt_some
set_option maxHeartbeats 4000000 in
set_option maxRecDepth 100000 in
theorem huff_Put.c4 (k : Nat) (A : Option Addr) (c : Nat) (l : List Int) (m : Int) (A1 : Option Addr) (c1 : Nat) (zs : List Int) (sym : Int) (w : World) (hr : Kd.C (Kd.int .u8) w A l.length l) (hc : l.length ≤ c) (hr1 : Kd.C (Kd.int .i64) w A1 zs.length zs) (hok : (Hu.countedS zs).2 = true) (he : bits_Check.f k l m = some 0) (s0 : ¬ sym < 0) (s1 : (zs.length : Int) ≤ sym) :
    Calls Try.prog 18 #[.agg #[.slice A l.length c, .int .i64 m], .slice A1 zs.length c1, .int .i64 sym] w fun e w' => ∃ v0_ : Value, e = .returned (.tuple #[.agg #[v0_, .int .i64 0], .int .i64 2]) ∧ Kd.R (Kd.int .u8) 5 w' w.heap.size (fun _ => True) v0_ [] ∧ Below w.heap.size w w' := by
  have HR := Aside0.mk hr
  have HC := Aside0.mk hc
  have HR1 := Aside0.mk hr1
  have HB := Aside0.mk (Below.refl w.heap.size w)
  have KC := Aside0.mk (fun (w' : World) (hb : Below w.heap.size w w') => Hu.huff_counted.calls A1 c1 zs w' (Kd.C_below hr1 hb))
  have KD := Aside0.mk (fun (w' : World) (hb : Below w.heap.size w w') => Hu.huff_Codes_in A1 c1 zs w' (Kd.C_below hr1 hb))
  unfold Hu.CountedPost at KC
  have hlen := Hu.countedS_len zs
  obtain ⟨cs, hcs⟩ : ∃ cs, Hu.countedS zs = cs := ⟨_, rfl⟩
  rw [hcs] at hlen KC hok
  clear hcs hr hc hr1
  obtain ⟨cl, ok⟩ := cs
  dsimp only at hlen KC hok
  subst hok
  obtain ⟨x0, cl, rfl⟩ := List.exists_cons_of_length_pos (l := cl) (by omega)
  obtain ⟨x1, cl, rfl⟩ := List.exists_cons_of_length_pos (l := cl) (by simp only [List.length_cons] at hlen; omega)
  obtain ⟨x2, cl, rfl⟩ := List.exists_cons_of_length_pos (l := cl) (by simp only [List.length_cons] at hlen; omega)
  obtain ⟨x3, cl, rfl⟩ := List.exists_cons_of_length_pos (l := cl) (by simp only [List.length_cons] at hlen; omega)
  obtain ⟨x4, cl, rfl⟩ := List.exists_cons_of_length_pos (l := cl) (by simp only [List.length_cons] at hlen; omega)
  obtain ⟨x5, cl, rfl⟩ := List.exists_cons_of_length_pos (l := cl) (by simp only [List.length_cons] at hlen; omega)
  obtain ⟨x6, cl, rfl⟩ := List.exists_cons_of_length_pos (l := cl) (by simp only [List.length_cons] at hlen; omega)
  obtain ⟨x7, cl, rfl⟩ := List.exists_cons_of_length_pos (l := cl) (by simp only [List.length_cons] at hlen; omega)
  obtain ⟨x8, cl, rfl⟩ := List.exists_cons_of_length_pos (l := cl) (by simp only [List.length_cons] at hlen; omega)
  obtain ⟨x9, cl, rfl⟩ := List.exists_cons_of_length_pos (l := cl) (by simp only [List.length_cons] at hlen; omega)
  obtain ⟨x10, cl, rfl⟩ := List.exists_cons_of_length_pos (l := cl) (by simp only [List.length_cons] at hlen; omega)
  obtain ⟨x11, cl, rfl⟩ := List.exists_cons_of_length_pos (l := cl) (by simp only [List.length_cons] at hlen; omega)
  obtain ⟨x12, cl, rfl⟩ := List.exists_cons_of_length_pos (l := cl) (by simp only [List.length_cons] at hlen; omega)
  obtain ⟨x13, cl, rfl⟩ := List.exists_cons_of_length_pos (l := cl) (by simp only [List.length_cons] at hlen; omega)
  obtain ⟨x14, cl, rfl⟩ := List.exists_cons_of_length_pos (l := cl) (by simp only [List.length_cons] at hlen; omega)
  obtain ⟨x15, cl, rfl⟩ := List.exists_cons_of_length_pos (l := cl) (by simp only [List.length_cons] at hlen; omega)
  obtain rfl : cl = [] := List.eq_nil_of_length_eq_zero (by simp only [List.length_cons] at hlen; omega)
  clear hlen
  have HE := Aside0.mk he
  clear he
  have s0b : decide (sym < 0) = false := decide_eq_false s0
  have s1b : decide ((zs.length : Int) ≤ sym) = true := decide_eq_true s1
  replace s1 := eq_true s1
  replace s0 := eq_false s0
  go_enter Try.func18, Try.ntmps18
  go_upto_region 2 with (first
        | ((with_reducible refine gate_dst (N := 3) rfl ?_); refine box_event ?hg (N := 3) ?hd (cs := #[.slice A l.length c, .int .i64 m]) (t := 36) ?hr ?_; (case hd => rfl); (case hg => rfl); (case hr => first | (go_simp; done) | (go_simp; rfl)); intro g3 hg w3 hbox hb; have n0 := Aside0.mk (below_then HB.out HB.out.size hb); have n1 := Aside0.mk (hbox); have n2 := Aside0.mk ((by rw [hg]; exact HB.out.size : w.heap.size ≤ g3)); clear HB; have HB := n0; have B3 := n1; have G3 := n2; clear n0 n1 n2; clear hg hbox hb)
        | ((with_reducible refine gate_dst (N := 6) rfl ?_); refine box_event ?hg (N := 6) ?hd (cs := #[.slice none 0 0, .int .i64 0]) (t := 36) ?hr ?_; (case hd => rfl); (case hg => rfl); (case hr => first | (go_simp; done) | (go_simp; rfl)); intro g6 hg w4 hbox hb; have n0 := Aside0.mk (below_then HB.out HB.out.size hb); have n1 := Aside0.mk (blk_below B3.out hb); have n2 := Aside0.mk (hbox); have n3 := Aside0.mk ((by rw [hg]; exact HB.out.size : w.heap.size ≤ g6)); clear HB B3; have HB := n0; have B3 := n1; have B6 := n2; have G6 := n3; clear n0 n1 n2 n3; clear hg hbox hb; have hcg30 : w4.cell? ⟨g3, 0, none⟩ = some (.slice A l.length c) := (blk_cell B3.out 0).trans rfl; have hcg31 : w4.cell? ⟨g3, 1, none⟩ = some (.int .i64 m) := (blk_cell B3.out 1).trans rfl)
        | (go_at_call 25; refine (KC.out _ HB.out).mono ?_; rintro e_ w5 ⟨rfl, hb⟩; have n0 := Aside0.mk (below_then HB.out HB.out.size hb); have n1 := Aside0.mk (blk_below B3.out hb); have n2 := Aside0.mk (blk_below B6.out hb); clear HB B3 B6; have HB := n0; have B3 := n1; have B6 := n2; clear n0 n1 n2; clear hb; clear hcg30 hcg31; have hcg30 : w5.cell? ⟨g3, 0, none⟩ = some (.slice A l.length c) := (blk_cell B3.out 0).trans rfl; have hcg31 : w5.cell? ⟨g3, 1, none⟩ = some (.int .i64 m) := (blk_cell B3.out 1).trans rfl; have hcg60 : w5.cell? ⟨g6, 0, none⟩ = some (.slice none 0 0) := (blk_cell B6.out 0).trans rfl; have hcg61 : w5.cell? ⟨g6, 1, none⟩ = some (.int .i64 0) := (blk_cell B6.out 1).trans rfl; have hfg60 := blk_frozen B6.out 0; have hfg61 := blk_frozen B6.out 1; simp only [Hu.agg16, List.map_cons, List.map_nil])
        )
  have n0 := Aside0.mk (below_alloc HB.out (.cells #[Value.int IntKind.i64 x0, Value.int IntKind.i64 x1, Value.int IntKind.i64 x2, Value.int IntKind.i64 x3, Value.int IntKind.i64 x4, Value.int IntKind.i64 x5, Value.int IntKind.i64 x6, Value.int IntKind.i64 x7, Value.int IntKind.i64 x8, Value.int IntKind.i64 x9, Value.int IntKind.i64 x10, Value.int IntKind.i64 x11, Value.int IntKind.i64 x12, Value.int IntKind.i64 x13, Value.int IntKind.i64 x14, Value.int IntKind.i64 x15] 57 (0, 0)))
  have n1 := Aside0.mk (blk_alloc B3.out (.cells #[Value.int IntKind.i64 x0, Value.int IntKind.i64 x1, Value.int IntKind.i64 x2, Value.int IntKind.i64 x3, Value.int IntKind.i64 x4, Value.int IntKind.i64 x5, Value.int IntKind.i64 x6, Value.int IntKind.i64 x7, Value.int IntKind.i64 x8, Value.int IntKind.i64 x9, Value.int IntKind.i64 x10, Value.int IntKind.i64 x11, Value.int IntKind.i64 x12, Value.int IntKind.i64 x13, Value.int IntKind.i64 x14, Value.int IntKind.i64 x15] 57 (0, 0)))
  have n2 := Aside0.mk (blk_alloc B6.out (.cells #[Value.int IntKind.i64 x0, Value.int IntKind.i64 x1, Value.int IntKind.i64 x2, Value.int IntKind.i64 x3, Value.int IntKind.i64 x4, Value.int IntKind.i64 x5, Value.int IntKind.i64 x6, Value.int IntKind.i64 x7, Value.int IntKind.i64 x8, Value.int IntKind.i64 x9, Value.int IntKind.i64 x10, Value.int IntKind.i64 x11, Value.int IntKind.i64 x12, Value.int IntKind.i64 x13, Value.int IntKind.i64 x14, Value.int IntKind.i64 x15] 57 (0, 0)))
  clear HB B3 B6
  have HB := n0
  have B3 := n1
  have B6 := n2
  clear n0 n1 n2
  generalize (w5.alloc (.cells #[Value.int IntKind.i64 x0, Value.int IntKind.i64 x1, Value.int IntKind.i64 x2, Value.int IntKind.i64 x3, Value.int IntKind.i64 x4, Value.int IntKind.i64 x5, Value.int IntKind.i64 x6, Value.int IntKind.i64 x7, Value.int IntKind.i64 x8, Value.int IntKind.i64 x9, Value.int IntKind.i64 x10, Value.int IntKind.i64 x11, Value.int IntKind.i64 x12, Value.int IntKind.i64 x13, Value.int IntKind.i64 x14, Value.int IntKind.i64 x15] 57 (0, 0))) = wa at HB B3 B6 ⊢
  generalize (Value.agg #[Value.int IntKind.i64 x0, Value.int IntKind.i64 x1, Value.int IntKind.i64 x2, Value.int IntKind.i64 x3, Value.int IntKind.i64 x4, Value.int IntKind.i64 x5, Value.int IntKind.i64 x6, Value.int IntKind.i64 x7, Value.int IntKind.i64 x8, Value.int IntKind.i64 x9, Value.int IntKind.i64 x10, Value.int IntKind.i64 x11, Value.int IntKind.i64 x12, Value.int IntKind.i64 x13, Value.int IntKind.i64 x14, Value.int IntKind.i64 x15]) = vagg
  clear hcg30 hcg31 hcg60 hcg61
  clear hfg60 hfg61
  have hcg30 : wa.cell? ⟨g3, 0, none⟩ = some (.slice A l.length c) := (blk_cell B3.out 0).trans rfl
  have hcg31 : wa.cell? ⟨g3, 1, none⟩ = some (.int .i64 m) := (blk_cell B3.out 1).trans rfl
  have hcg60 : wa.cell? ⟨g6, 0, none⟩ = some (.slice none 0 0) := (blk_cell B6.out 0).trans rfl
  have hcg61 : wa.cell? ⟨g6, 1, none⟩ = some (.int .i64 0) := (blk_cell B6.out 1).trans rfl
  have hfg60 := blk_frozen B6.out 0
  have hfg61 := blk_frozen B6.out 1
  go_wp2_with (first
        | (go_at_call 30; refine (bits_Check.calls k A c l m 0 _ (Kd.C_below HR.out HB.out) HC.out HE.out).mono ?_; rintro e_ w6 ⟨rfl, hb⟩; have n0 := Aside0.mk (below_then HB.out HB.out.size hb); have n1 := Aside0.mk (blk_below B3.out hb); have n2 := Aside0.mk (blk_below B6.out hb); clear HB B3 B6; have HB := n0; have B3 := n1; have B6 := n2; clear n0 n1 n2; clear hb; clear hcg30 hcg31 hcg60 hcg61; clear hfg60 hfg61; have hcg30 : w6.cell? ⟨g3, 0, none⟩ = some (.slice A l.length c) := (blk_cell B3.out 0).trans rfl; have hcg31 : w6.cell? ⟨g3, 1, none⟩ = some (.int .i64 m) := (blk_cell B3.out 1).trans rfl; have hcg60 : w6.cell? ⟨g6, 0, none⟩ = some (.slice none 0 0) := (blk_cell B6.out 0).trans rfl; have hcg61 : w6.cell? ⟨g6, 1, none⟩ = some (.int .i64 0) := (blk_cell B6.out 1).trans rfl; have hfg60 := blk_frozen B6.out 0; have hfg61 := blk_frozen B6.out 1)
        )
  refine bodyPost_ret (results_ct rfl _ _ g6 36 #[.slice none 0 0, .int .i64 0] (0, 0) _ rfl (by (with_reducible repeat (first | refine blk_drewN ?_ _ | refine blk_drew ?_ | refine blk_alloc ?_ _)); refine blk_put (cs := #[.slice none 0 0, .int .i64 0]) ?_ 1 _ rfl; (with_reducible repeat (first | refine blk_drewN ?_ _ | refine blk_drew ?_ | refine blk_alloc ?_ _)); refine blk_put (cs := #[.slice none 0 0, .int .i64 0]) ?_ 0 _ rfl; (with_reducible repeat (first | refine blk_drewN ?_ _ | refine blk_drew ?_ | refine blk_alloc ?_ _)); exact B6.out) Try.underlying36 rfl (by kernel_rfl)) rfl ?_
  exact ⟨_, rfl, Kd.R_nil _ _ _ _ _, by repeat (first | (with_reducible first | exact HB.out | apply below_alloc | apply pw_below_drewN | apply below_drew1 | refine below_set ?_ G6.out) | exact HB.out)⟩
end
section
attribute [local go_sem] Oper.semAt_some
set_option maxHeartbeats 4000000 in
set_option maxRecDepth 100000 in
theorem huff_Put.c5 (k : Nat) (A : Option Addr) (c : Nat) (l : List Int) (m : Int) (A1 : Option Addr) (c1 : Nat) (zs : List Int) (sym : Int) (w : World) (hr : Kd.C (Kd.int .u8) w A l.length l) (hc : l.length ≤ c) (hr1 : Kd.C (Kd.int .i64) w A1 zs.length zs) (hok : (Hu.countedS zs).2 = true) (he : bits_Check.f k l m = some 0) (s0 : ¬ sym < 0) (s1 : ¬ (zs.length : Int) ≤ sym) (hec : ¬ (Hu.codesS zs).2 = 0) :
    Calls Try.prog 18 #[.agg #[.slice A l.length c, .int .i64 m], .slice A1 zs.length c1, .int .i64 sym] w fun e w' => ∃ v0_ : Value, e = .returned (.tuple #[.agg #[v0_, .int .i64 0], .int .i64 (Hu.codesS zs).2]) ∧ Kd.R (Kd.int .u8) 5 w' w.heap.size (fun _ => True) v0_ [] ∧ Below w.heap.size w w' := by
  have HR := Aside0.mk hr
  have HC := Aside0.mk hc
  have HR1 := Aside0.mk hr1
  have HB := Aside0.mk (Below.refl w.heap.size w)
  have KC := Aside0.mk (fun (w' : World) (hb : Below w.heap.size w w') => Hu.huff_counted.calls A1 c1 zs w' (Kd.C_below hr1 hb))
  have KD := Aside0.mk (fun (w' : World) (hb : Below w.heap.size w w') => Hu.huff_Codes_in A1 c1 zs w' (Kd.C_below hr1 hb))
  unfold Hu.CountedPost at KC
  have hlen := Hu.countedS_len zs
  obtain ⟨cs, hcs⟩ : ∃ cs, Hu.countedS zs = cs := ⟨_, rfl⟩
  rw [hcs] at hlen KC hok
  clear hcs hr hc hr1
  obtain ⟨cl, ok⟩ := cs
  dsimp only at hlen KC hok
  subst hok
  obtain ⟨x0, cl, rfl⟩ := List.exists_cons_of_length_pos (l := cl) (by omega)
  obtain ⟨x1, cl, rfl⟩ := List.exists_cons_of_length_pos (l := cl) (by simp only [List.length_cons] at hlen; omega)
  obtain ⟨x2, cl, rfl⟩ := List.exists_cons_of_length_pos (l := cl) (by simp only [List.length_cons] at hlen; omega)
  obtain ⟨x3, cl, rfl⟩ := List.exists_cons_of_length_pos (l := cl) (by simp only [List.length_cons] at hlen; omega)
  obtain ⟨x4, cl, rfl⟩ := List.exists_cons_of_length_pos (l := cl) (by simp only [List.length_cons] at hlen; omega)
  obtain ⟨x5, cl, rfl⟩ := List.exists_cons_of_length_pos (l := cl) (by simp only [List.length_cons] at hlen; omega)
  obtain ⟨x6, cl, rfl⟩ := List.exists_cons_of_length_pos (l := cl) (by simp only [List.length_cons] at hlen; omega)
  obtain ⟨x7, cl, rfl⟩ := List.exists_cons_of_length_pos (l := cl) (by simp only [List.length_cons] at hlen; omega)
  obtain ⟨x8, cl, rfl⟩ := List.exists_cons_of_length_pos (l := cl) (by simp only [List.length_cons] at hlen; omega)
  obtain ⟨x9, cl, rfl⟩ := List.exists_cons_of_length_pos (l := cl) (by simp only [List.length_cons] at hlen; omega)
  obtain ⟨x10, cl, rfl⟩ := List.exists_cons_of_length_pos (l := cl) (by simp only [List.length_cons] at hlen; omega)
  obtain ⟨x11, cl, rfl⟩ := List.exists_cons_of_length_pos (l := cl) (by simp only [List.length_cons] at hlen; omega)
  obtain ⟨x12, cl, rfl⟩ := List.exists_cons_of_length_pos (l := cl) (by simp only [List.length_cons] at hlen; omega)
  obtain ⟨x13, cl, rfl⟩ := List.exists_cons_of_length_pos (l := cl) (by simp only [List.length_cons] at hlen; omega)
  obtain ⟨x14, cl, rfl⟩ := List.exists_cons_of_length_pos (l := cl) (by simp only [List.length_cons] at hlen; omega)
  obtain ⟨x15, cl, rfl⟩ := List.exists_cons_of_length_pos (l := cl) (by simp only [List.length_cons] at hlen; omega)
  obtain rfl : cl = [] := List.eq_nil_of_length_eq_zero (by simp only [List.length_cons] at hlen; omega)
  clear hlen
  have HE := Aside0.mk he
  clear he
  have s0b : decide (sym < 0) = false := decide_eq_false s0
  have s1b : decide ((zs.length : Int) ≤ sym) = false := decide_eq_false s1
  have s1c := eq_false s1
  obtain ⟨cd, hcd⟩ : ∃ cd, Hu.codesS zs = cd := ⟨_, rfl⟩
  rw [hcd] at hec KD ⊢
  clear hcd
  obtain ⟨co, ec⟩ := cd
  dsimp only at hec KD ⊢
  have hecb : (ec == 0) = false := beq_eq_false_iff_ne.mpr hec
  have hecc : (ec != 0) = true := bne_iff_ne.mpr hec
  clear hec
  replace s0 := eq_false s0
  go_enter Try.func18, Try.ntmps18
  go_upto_region 2 with (first
        | ((with_reducible refine gate_dst (N := 3) rfl ?_); refine box_event ?hg (N := 3) ?hd (cs := #[.slice A l.length c, .int .i64 m]) (t := 36) ?hr ?_; (case hd => rfl); (case hg => rfl); (case hr => first | (go_simp; done) | (go_simp; rfl)); intro g3 hg w3 hbox hb; have n0 := Aside0.mk (below_then HB.out HB.out.size hb); have n1 := Aside0.mk (hbox); have n2 := Aside0.mk ((by rw [hg]; exact HB.out.size : w.heap.size ≤ g3)); clear HB; have HB := n0; have B3 := n1; have G3 := n2; clear n0 n1 n2; clear hg hbox hb)
        | ((with_reducible refine gate_dst (N := 6) rfl ?_); refine box_event ?hg (N := 6) ?hd (cs := #[.slice none 0 0, .int .i64 0]) (t := 36) ?hr ?_; (case hd => rfl); (case hg => rfl); (case hr => first | (go_simp; done) | (go_simp; rfl)); intro g6 hg w4 hbox hb; have n0 := Aside0.mk (below_then HB.out HB.out.size hb); have n1 := Aside0.mk (blk_below B3.out hb); have n2 := Aside0.mk (hbox); have n3 := Aside0.mk ((by rw [hg]; exact HB.out.size : w.heap.size ≤ g6)); clear HB B3; have HB := n0; have B3 := n1; have B6 := n2; have G6 := n3; clear n0 n1 n2 n3; clear hg hbox hb; have hcg30 : w4.cell? ⟨g3, 0, none⟩ = some (.slice A l.length c) := (blk_cell B3.out 0).trans rfl; have hcg31 : w4.cell? ⟨g3, 1, none⟩ = some (.int .i64 m) := (blk_cell B3.out 1).trans rfl)
        | (go_at_call 25; refine (KC.out _ HB.out).mono ?_; rintro e_ w5 ⟨rfl, hb⟩; have n0 := Aside0.mk (below_then HB.out HB.out.size hb); have n1 := Aside0.mk (blk_below B3.out hb); have n2 := Aside0.mk (blk_below B6.out hb); clear HB B3 B6; have HB := n0; have B3 := n1; have B6 := n2; clear n0 n1 n2; clear hb; clear hcg30 hcg31; have hcg30 : w5.cell? ⟨g3, 0, none⟩ = some (.slice A l.length c) := (blk_cell B3.out 0).trans rfl; have hcg31 : w5.cell? ⟨g3, 1, none⟩ = some (.int .i64 m) := (blk_cell B3.out 1).trans rfl; have hcg60 : w5.cell? ⟨g6, 0, none⟩ = some (.slice none 0 0) := (blk_cell B6.out 0).trans rfl; have hcg61 : w5.cell? ⟨g6, 1, none⟩ = some (.int .i64 0) := (blk_cell B6.out 1).trans rfl; have hfg60 := blk_frozen B6.out 0; have hfg61 := blk_frozen B6.out 1; simp only [Hu.agg16, List.map_cons, List.map_nil])
        )
  have n0 := Aside0.mk (below_alloc HB.out (.cells #[Value.int IntKind.i64 x0, Value.int IntKind.i64 x1, Value.int IntKind.i64 x2, Value.int IntKind.i64 x3, Value.int IntKind.i64 x4, Value.int IntKind.i64 x5, Value.int IntKind.i64 x6, Value.int IntKind.i64 x7, Value.int IntKind.i64 x8, Value.int IntKind.i64 x9, Value.int IntKind.i64 x10, Value.int IntKind.i64 x11, Value.int IntKind.i64 x12, Value.int IntKind.i64 x13, Value.int IntKind.i64 x14, Value.int IntKind.i64 x15] 57 (0, 0)))
  have n1 := Aside0.mk (blk_alloc B3.out (.cells #[Value.int IntKind.i64 x0, Value.int IntKind.i64 x1, Value.int IntKind.i64 x2, Value.int IntKind.i64 x3, Value.int IntKind.i64 x4, Value.int IntKind.i64 x5, Value.int IntKind.i64 x6, Value.int IntKind.i64 x7, Value.int IntKind.i64 x8, Value.int IntKind.i64 x9, Value.int IntKind.i64 x10, Value.int IntKind.i64 x11, Value.int IntKind.i64 x12, Value.int IntKind.i64 x13, Value.int IntKind.i64 x14, Value.int IntKind.i64 x15] 57 (0, 0)))
  have n2 := Aside0.mk (blk_alloc B6.out (.cells #[Value.int IntKind.i64 x0, Value.int IntKind.i64 x1, Value.int IntKind.i64 x2, Value.int IntKind.i64 x3, Value.int IntKind.i64 x4, Value.int IntKind.i64 x5, Value.int IntKind.i64 x6, Value.int IntKind.i64 x7, Value.int IntKind.i64 x8, Value.int IntKind.i64 x9, Value.int IntKind.i64 x10, Value.int IntKind.i64 x11, Value.int IntKind.i64 x12, Value.int IntKind.i64 x13, Value.int IntKind.i64 x14, Value.int IntKind.i64 x15] 57 (0, 0)))
  clear HB B3 B6
  have HB := n0
  have B3 := n1
  have B6 := n2
  clear n0 n1 n2
  generalize (w5.alloc (.cells #[Value.int IntKind.i64 x0, Value.int IntKind.i64 x1, Value.int IntKind.i64 x2, Value.int IntKind.i64 x3, Value.int IntKind.i64 x4, Value.int IntKind.i64 x5, Value.int IntKind.i64 x6, Value.int IntKind.i64 x7, Value.int IntKind.i64 x8, Value.int IntKind.i64 x9, Value.int IntKind.i64 x10, Value.int IntKind.i64 x11, Value.int IntKind.i64 x12, Value.int IntKind.i64 x13, Value.int IntKind.i64 x14, Value.int IntKind.i64 x15] 57 (0, 0))) = wa at HB B3 B6 ⊢
  generalize (Value.agg #[Value.int IntKind.i64 x0, Value.int IntKind.i64 x1, Value.int IntKind.i64 x2, Value.int IntKind.i64 x3, Value.int IntKind.i64 x4, Value.int IntKind.i64 x5, Value.int IntKind.i64 x6, Value.int IntKind.i64 x7, Value.int IntKind.i64 x8, Value.int IntKind.i64 x9, Value.int IntKind.i64 x10, Value.int IntKind.i64 x11, Value.int IntKind.i64 x12, Value.int IntKind.i64 x13, Value.int IntKind.i64 x14, Value.int IntKind.i64 x15]) = vagg
  clear hcg30 hcg31 hcg60 hcg61
  clear hfg60 hfg61
  have hcg30 : wa.cell? ⟨g3, 0, none⟩ = some (.slice A l.length c) := (blk_cell B3.out 0).trans rfl
  have hcg31 : wa.cell? ⟨g3, 1, none⟩ = some (.int .i64 m) := (blk_cell B3.out 1).trans rfl
  have hcg60 : wa.cell? ⟨g6, 0, none⟩ = some (.slice none 0 0) := (blk_cell B6.out 0).trans rfl
  have hcg61 : wa.cell? ⟨g6, 1, none⟩ = some (.int .i64 0) := (blk_cell B6.out 1).trans rfl
  have hfg60 := blk_frozen B6.out 0
  have hfg61 := blk_frozen B6.out 1
  go_wp2_with (first
        | (go_at_call 30; refine (bits_Check.calls k A c l m 0 _ (Kd.C_below HR.out HB.out) HC.out HE.out).mono ?_; rintro e_ w6 ⟨rfl, hb⟩; have n0 := Aside0.mk (below_then HB.out HB.out.size hb); have n1 := Aside0.mk (blk_below B3.out hb); have n2 := Aside0.mk (blk_below B6.out hb); clear HB B3 B6; have HB := n0; have B3 := n1; have B6 := n2; clear n0 n1 n2; clear hb; clear hcg30 hcg31 hcg60 hcg61; clear hfg60 hfg61; have hcg30 : w6.cell? ⟨g3, 0, none⟩ = some (.slice A l.length c) := (blk_cell B3.out 0).trans rfl; have hcg31 : w6.cell? ⟨g3, 1, none⟩ = some (.int .i64 m) := (blk_cell B3.out 1).trans rfl; have hcg60 : w6.cell? ⟨g6, 0, none⟩ = some (.slice none 0 0) := (blk_cell B6.out 0).trans rfl; have hcg61 : w6.cell? ⟨g6, 1, none⟩ = some (.int .i64 0) := (blk_cell B6.out 1).trans rfl; have hfg60 := blk_frozen B6.out 0; have hfg61 := blk_frozen B6.out 1)
        | (go_at_call 11; refine (KD.out _ HB.out).mono ?_; rintro e_ w7 ⟨vc, rfl, ho, hb⟩; have n0 := Aside0.mk (below_then HB.out HB.out.size hb); have n1 := Aside0.mk (blk_below B3.out hb); have n2 := Aside0.mk (blk_below B6.out hb); have n3 := Aside0.mk (Kd.R_lower ho HB.out.size); clear HB B3 B6; have HB := n0; have B3 := n1; have B6 := n2; have HO := n3; clear n0 n1 n2 n3; clear hb; clear ho; clear hcg30 hcg31 hcg60 hcg61; clear hfg60 hfg61; have hcg30 : w7.cell? ⟨g3, 0, none⟩ = some (.slice A l.length c) := (blk_cell B3.out 0).trans rfl; have hcg31 : w7.cell? ⟨g3, 1, none⟩ = some (.int .i64 m) := (blk_cell B3.out 1).trans rfl; have hcg60 : w7.cell? ⟨g6, 0, none⟩ = some (.slice none 0 0) := (blk_cell B6.out 0).trans rfl; have hcg61 : w7.cell? ⟨g6, 1, none⟩ = some (.int .i64 0) := (blk_cell B6.out 1).trans rfl; have hfg60 := blk_frozen B6.out 0; have hfg61 := blk_frozen B6.out 1)
        )
  refine bodyPost_ret (results_ct rfl _ _ g6 36 #[.slice none 0 0, .int .i64 0] (0, 0) _ rfl (by (with_reducible repeat (first | refine blk_drewN ?_ _ | refine blk_drew ?_ | refine blk_alloc ?_ _)); refine blk_put (cs := #[.slice none 0 0, .int .i64 0]) ?_ 1 _ rfl; (with_reducible repeat (first | refine blk_drewN ?_ _ | refine blk_drew ?_ | refine blk_alloc ?_ _)); refine blk_put (cs := #[.slice none 0 0, .int .i64 0]) ?_ 0 _ rfl; (with_reducible repeat (first | refine blk_drewN ?_ _ | refine blk_drew ?_ | refine blk_alloc ?_ _)); exact B6.out) Try.underlying36 rfl (by kernel_rfl)) rfl ?_
  exact ⟨_, rfl, Kd.R_nil _ _ _ _ _, by repeat (first | (with_reducible first | exact HB.out | apply below_alloc | apply pw_below_drewN | apply below_drew1 | refine below_set ?_ G6.out) | exact HB.out)⟩
end
section
attribute [local go_sem] Oper.semAt_some
set_option maxHeartbeats 4000000 in
set_option maxRecDepth 100000 in
theorem huff_Put.c6 (k : Nat) (A : Option Addr) (c : Nat) (l : List Int) (m : Int) (A1 : Option Addr) (c1 : Nat) (zs : List Int) (sym : Int) (w : World) (hr : Kd.C (Kd.int .u8) w A l.length l) (hc : l.length ≤ c) (hr1 : Kd.C (Kd.int .i64) w A1 zs.length zs) (hok : (Hu.countedS zs).2 = true) (he : bits_Check.f k l m = some 0) (s0 : ¬ sym < 0) (s1 : ¬ (zs.length : Int) ≤ sym) (hec : (Hu.codesS zs).2 = 0) (y0 : rd zs sym = 0) :
    Calls Try.prog 18 #[.agg #[.slice A l.length c, .int .i64 m], .slice A1 zs.length c1, .int .i64 sym] w fun e w' => ∃ v0_ : Value, e = .returned (.tuple #[.agg #[v0_, .int .i64 0], .int .i64 13]) ∧ Kd.R (Kd.int .u8) 5 w' w.heap.size (fun _ => True) v0_ [] ∧ Below w.heap.size w w' := by
  have HR := Aside0.mk hr
  have HC := Aside0.mk hc
  have HR1 := Aside0.mk hr1
  have HB := Aside0.mk (Below.refl w.heap.size w)
  have KC := Aside0.mk (fun (w' : World) (hb : Below w.heap.size w w') => Hu.huff_counted.calls A1 c1 zs w' (Kd.C_below hr1 hb))
  have KD := Aside0.mk (fun (w' : World) (hb : Below w.heap.size w w') => Hu.huff_Codes_in A1 c1 zs w' (Kd.C_below hr1 hb))
  unfold Hu.CountedPost at KC
  have hlen := Hu.countedS_len zs
  obtain ⟨cs, hcs⟩ : ∃ cs, Hu.countedS zs = cs := ⟨_, rfl⟩
  rw [hcs] at hlen KC hok
  clear hcs hr hc hr1
  obtain ⟨cl, ok⟩ := cs
  dsimp only at hlen KC hok
  subst hok
  obtain ⟨x0, cl, rfl⟩ := List.exists_cons_of_length_pos (l := cl) (by omega)
  obtain ⟨x1, cl, rfl⟩ := List.exists_cons_of_length_pos (l := cl) (by simp only [List.length_cons] at hlen; omega)
  obtain ⟨x2, cl, rfl⟩ := List.exists_cons_of_length_pos (l := cl) (by simp only [List.length_cons] at hlen; omega)
  obtain ⟨x3, cl, rfl⟩ := List.exists_cons_of_length_pos (l := cl) (by simp only [List.length_cons] at hlen; omega)
  obtain ⟨x4, cl, rfl⟩ := List.exists_cons_of_length_pos (l := cl) (by simp only [List.length_cons] at hlen; omega)
  obtain ⟨x5, cl, rfl⟩ := List.exists_cons_of_length_pos (l := cl) (by simp only [List.length_cons] at hlen; omega)
  obtain ⟨x6, cl, rfl⟩ := List.exists_cons_of_length_pos (l := cl) (by simp only [List.length_cons] at hlen; omega)
  obtain ⟨x7, cl, rfl⟩ := List.exists_cons_of_length_pos (l := cl) (by simp only [List.length_cons] at hlen; omega)
  obtain ⟨x8, cl, rfl⟩ := List.exists_cons_of_length_pos (l := cl) (by simp only [List.length_cons] at hlen; omega)
  obtain ⟨x9, cl, rfl⟩ := List.exists_cons_of_length_pos (l := cl) (by simp only [List.length_cons] at hlen; omega)
  obtain ⟨x10, cl, rfl⟩ := List.exists_cons_of_length_pos (l := cl) (by simp only [List.length_cons] at hlen; omega)
  obtain ⟨x11, cl, rfl⟩ := List.exists_cons_of_length_pos (l := cl) (by simp only [List.length_cons] at hlen; omega)
  obtain ⟨x12, cl, rfl⟩ := List.exists_cons_of_length_pos (l := cl) (by simp only [List.length_cons] at hlen; omega)
  obtain ⟨x13, cl, rfl⟩ := List.exists_cons_of_length_pos (l := cl) (by simp only [List.length_cons] at hlen; omega)
  obtain ⟨x14, cl, rfl⟩ := List.exists_cons_of_length_pos (l := cl) (by simp only [List.length_cons] at hlen; omega)
  obtain ⟨x15, cl, rfl⟩ := List.exists_cons_of_length_pos (l := cl) (by simp only [List.length_cons] at hlen; omega)
  obtain rfl : cl = [] := List.eq_nil_of_length_eq_zero (by simp only [List.length_cons] at hlen; omega)
  clear hlen
  have HE := Aside0.mk he
  clear he
  have s0b : decide (sym < 0) = false := decide_eq_false s0
  have s1b : decide ((zs.length : Int) ≤ sym) = false := decide_eq_false s1
  have s1c := eq_false s1
  obtain ⟨cd, hcd⟩ : ∃ cd, Hu.codesS zs = cd := ⟨_, rfl⟩
  rw [hcd] at hec KD
  clear hcd
  obtain ⟨co, ec⟩ := cd
  dsimp only at hec KD
  subst hec
  obtain ⟨ad, rfl, hx⟩ := Kd.at_int HR1.out sym (by omega) (by omega)
  obtain ⟨sn, rfl⟩ : ∃ sn : Nat, sym = (sn : Int) := ⟨sym.toNat, by omega⟩
  rw [Int.toNat_natCast] at hx
  have s2 := eq_true (show (0 : Int) ≤ (sn : Int) by omega)
  have s3 := eq_true (show (sn : Int) < (zs.length : Int) by omega)
  have s4 := eq_true (show sn < zs.length by omega)
  have s5 := eq_false (show ¬ zs.length ≤ sn by omega)
  have HX := Aside0.mk hx
  clear hx
  rw [y0] at HX
  clear y0
  replace s0 := eq_false s0
  go_enter Try.func18, Try.ntmps18
  go_upto_region 2 with (first
        | ((with_reducible refine gate_dst (N := 3) rfl ?_); refine box_event ?hg (N := 3) ?hd (cs := #[.slice A l.length c, .int .i64 m]) (t := 36) ?hr ?_; (case hd => rfl); (case hg => rfl); (case hr => first | (go_simp; done) | (go_simp; rfl)); intro g3 hg w3 hbox hb; have n0 := Aside0.mk (below_then HB.out HB.out.size hb); have n1 := Aside0.mk (hbox); have n2 := Aside0.mk ((by rw [hg]; exact HB.out.size : w.heap.size ≤ g3)); clear HB; have HB := n0; have B3 := n1; have G3 := n2; clear n0 n1 n2; clear hg hbox hb)
        | ((with_reducible refine gate_dst (N := 6) rfl ?_); refine box_event ?hg (N := 6) ?hd (cs := #[.slice none 0 0, .int .i64 0]) (t := 36) ?hr ?_; (case hd => rfl); (case hg => rfl); (case hr => first | (go_simp; done) | (go_simp; rfl)); intro g6 hg w4 hbox hb; have n0 := Aside0.mk (below_then HB.out HB.out.size hb); have n1 := Aside0.mk (blk_below B3.out hb); have n2 := Aside0.mk (hbox); have n3 := Aside0.mk ((by rw [hg]; exact HB.out.size : w.heap.size ≤ g6)); clear HB B3; have HB := n0; have B3 := n1; have B6 := n2; have G6 := n3; clear n0 n1 n2 n3; clear hg hbox hb; have hcg30 : w4.cell? ⟨g3, 0, none⟩ = some (.slice A l.length c) := (blk_cell B3.out 0).trans rfl; have hcg31 : w4.cell? ⟨g3, 1, none⟩ = some (.int .i64 m) := (blk_cell B3.out 1).trans rfl)
        | (go_at_call 25; refine (KC.out _ HB.out).mono ?_; rintro e_ w5 ⟨rfl, hb⟩; have n0 := Aside0.mk (below_then HB.out HB.out.size hb); have n1 := Aside0.mk (blk_below B3.out hb); have n2 := Aside0.mk (blk_below B6.out hb); clear HB B3 B6; have HB := n0; have B3 := n1; have B6 := n2; clear n0 n1 n2; clear hb; clear hcg30 hcg31; have hcg30 : w5.cell? ⟨g3, 0, none⟩ = some (.slice A l.length c) := (blk_cell B3.out 0).trans rfl; have hcg31 : w5.cell? ⟨g3, 1, none⟩ = some (.int .i64 m) := (blk_cell B3.out 1).trans rfl; have hcg60 : w5.cell? ⟨g6, 0, none⟩ = some (.slice none 0 0) := (blk_cell B6.out 0).trans rfl; have hcg61 : w5.cell? ⟨g6, 1, none⟩ = some (.int .i64 0) := (blk_cell B6.out 1).trans rfl; have hfg60 := blk_frozen B6.out 0; have hfg61 := blk_frozen B6.out 1; simp only [Hu.agg16, List.map_cons, List.map_nil])
        )
  have n0 := Aside0.mk (below_alloc HB.out (.cells #[Value.int IntKind.i64 x0, Value.int IntKind.i64 x1, Value.int IntKind.i64 x2, Value.int IntKind.i64 x3, Value.int IntKind.i64 x4, Value.int IntKind.i64 x5, Value.int IntKind.i64 x6, Value.int IntKind.i64 x7, Value.int IntKind.i64 x8, Value.int IntKind.i64 x9, Value.int IntKind.i64 x10, Value.int IntKind.i64 x11, Value.int IntKind.i64 x12, Value.int IntKind.i64 x13, Value.int IntKind.i64 x14, Value.int IntKind.i64 x15] 57 (0, 0)))
  have n1 := Aside0.mk (blk_alloc B3.out (.cells #[Value.int IntKind.i64 x0, Value.int IntKind.i64 x1, Value.int IntKind.i64 x2, Value.int IntKind.i64 x3, Value.int IntKind.i64 x4, Value.int IntKind.i64 x5, Value.int IntKind.i64 x6, Value.int IntKind.i64 x7, Value.int IntKind.i64 x8, Value.int IntKind.i64 x9, Value.int IntKind.i64 x10, Value.int IntKind.i64 x11, Value.int IntKind.i64 x12, Value.int IntKind.i64 x13, Value.int IntKind.i64 x14, Value.int IntKind.i64 x15] 57 (0, 0)))
  have n2 := Aside0.mk (blk_alloc B6.out (.cells #[Value.int IntKind.i64 x0, Value.int IntKind.i64 x1, Value.int IntKind.i64 x2, Value.int IntKind.i64 x3, Value.int IntKind.i64 x4, Value.int IntKind.i64 x5, Value.int IntKind.i64 x6, Value.int IntKind.i64 x7, Value.int IntKind.i64 x8, Value.int IntKind.i64 x9, Value.int IntKind.i64 x10, Value.int IntKind.i64 x11, Value.int IntKind.i64 x12, Value.int IntKind.i64 x13, Value.int IntKind.i64 x14, Value.int IntKind.i64 x15] 57 (0, 0)))
  clear HB B3 B6
  have HB := n0
  have B3 := n1
  have B6 := n2
  clear n0 n1 n2
  generalize (w5.alloc (.cells #[Value.int IntKind.i64 x0, Value.int IntKind.i64 x1, Value.int IntKind.i64 x2, Value.int IntKind.i64 x3, Value.int IntKind.i64 x4, Value.int IntKind.i64 x5, Value.int IntKind.i64 x6, Value.int IntKind.i64 x7, Value.int IntKind.i64 x8, Value.int IntKind.i64 x9, Value.int IntKind.i64 x10, Value.int IntKind.i64 x11, Value.int IntKind.i64 x12, Value.int IntKind.i64 x13, Value.int IntKind.i64 x14, Value.int IntKind.i64 x15] 57 (0, 0))) = wa at HB B3 B6 ⊢
  generalize (Value.agg #[Value.int IntKind.i64 x0, Value.int IntKind.i64 x1, Value.int IntKind.i64 x2, Value.int IntKind.i64 x3, Value.int IntKind.i64 x4, Value.int IntKind.i64 x5, Value.int IntKind.i64 x6, Value.int IntKind.i64 x7, Value.int IntKind.i64 x8, Value.int IntKind.i64 x9, Value.int IntKind.i64 x10, Value.int IntKind.i64 x11, Value.int IntKind.i64 x12, Value.int IntKind.i64 x13, Value.int IntKind.i64 x14, Value.int IntKind.i64 x15]) = vagg
  clear hcg30 hcg31 hcg60 hcg61
  clear hfg60 hfg61
  have hcg30 : wa.cell? ⟨g3, 0, none⟩ = some (.slice A l.length c) := (blk_cell B3.out 0).trans rfl
  have hcg31 : wa.cell? ⟨g3, 1, none⟩ = some (.int .i64 m) := (blk_cell B3.out 1).trans rfl
  have hcg60 : wa.cell? ⟨g6, 0, none⟩ = some (.slice none 0 0) := (blk_cell B6.out 0).trans rfl
  have hcg61 : wa.cell? ⟨g6, 1, none⟩ = some (.int .i64 0) := (blk_cell B6.out 1).trans rfl
  have hfg60 := blk_frozen B6.out 0
  have hfg61 := blk_frozen B6.out 1
  go_wp2_with (first
        | (go_at_call 30; refine (bits_Check.calls k A c l m 0 _ (Kd.C_below HR.out HB.out) HC.out HE.out).mono ?_; rintro e_ w6 ⟨rfl, hb⟩; have n0 := Aside0.mk (below_then HB.out HB.out.size hb); have n1 := Aside0.mk (blk_below B3.out hb); have n2 := Aside0.mk (blk_below B6.out hb); clear HB B3 B6; have HB := n0; have B3 := n1; have B6 := n2; clear n0 n1 n2; clear hb; clear hcg30 hcg31 hcg60 hcg61; clear hfg60 hfg61; have hcg30 : w6.cell? ⟨g3, 0, none⟩ = some (.slice A l.length c) := (blk_cell B3.out 0).trans rfl; have hcg31 : w6.cell? ⟨g3, 1, none⟩ = some (.int .i64 m) := (blk_cell B3.out 1).trans rfl; have hcg60 : w6.cell? ⟨g6, 0, none⟩ = some (.slice none 0 0) := (blk_cell B6.out 0).trans rfl; have hcg61 : w6.cell? ⟨g6, 1, none⟩ = some (.int .i64 0) := (blk_cell B6.out 1).trans rfl; have hfg60 := blk_frozen B6.out 0; have hfg61 := blk_frozen B6.out 1)
        | (go_at_call 11; refine (KD.out _ HB.out).mono ?_; rintro e_ w7 ⟨vc, rfl, ho, hb⟩; have n0 := Aside0.mk (below_then HB.out HB.out.size hb); have n1 := Aside0.mk (blk_below B3.out hb); have n2 := Aside0.mk (blk_below B6.out hb); have n3 := Aside0.mk (Kd.R_lower ho HB.out.size); clear HB B3 B6; have HB := n0; have B3 := n1; have B6 := n2; have HO := n3; clear n0 n1 n2 n3; clear hb; clear ho; clear hcg30 hcg31 hcg60 hcg61; clear hfg60 hfg61; have hcg30 : w7.cell? ⟨g3, 0, none⟩ = some (.slice A l.length c) := (blk_cell B3.out 0).trans rfl; have hcg31 : w7.cell? ⟨g3, 1, none⟩ = some (.int .i64 m) := (blk_cell B3.out 1).trans rfl; have hcg60 : w7.cell? ⟨g6, 0, none⟩ = some (.slice none 0 0) := (blk_cell B6.out 0).trans rfl; have hcg61 : w7.cell? ⟨g6, 1, none⟩ = some (.int .i64 0) := (blk_cell B6.out 1).trans rfl; have hfg60 := blk_frozen B6.out 0; have hfg61 := blk_frozen B6.out 1; have hxc := pw_cell_below HB.out HX.out)
        )
  refine bodyPost_ret (results_ct rfl _ _ g6 36 #[.slice none 0 0, .int .i64 0] (0, 0) _ rfl (by (with_reducible repeat (first | refine blk_drewN ?_ _ | refine blk_drew ?_ | refine blk_alloc ?_ _)); refine blk_put (cs := #[.slice none 0 0, .int .i64 0]) ?_ 1 _ rfl; (with_reducible repeat (first | refine blk_drewN ?_ _ | refine blk_drew ?_ | refine blk_alloc ?_ _)); refine blk_put (cs := #[.slice none 0 0, .int .i64 0]) ?_ 0 _ rfl; (with_reducible repeat (first | refine blk_drewN ?_ _ | refine blk_drew ?_ | refine blk_alloc ?_ _)); exact B6.out) Try.underlying36 rfl (by kernel_rfl)) rfl ?_
  exact ⟨_, rfl, Kd.R_nil _ _ _ _ _, by repeat (first | (with_reducible first | exact HB.out | apply below_alloc | apply pw_below_drewN | apply below_drew1 | refine below_set ?_ G6.out) | exact HB.out)⟩
end
section
attribute [local go_sem] Oper.semAt_some
set_option maxHeartbeats 4000000 in
set_option maxRecDepth 100000 in
theorem huff_Put.c7 (k : Nat) (A : Option Addr) (c : Nat) (l : List Int) (m : Int) (A1 : Option Addr) (c1 : Nat) (zs : List Int) (sym : Int) (w : World) (hr : Kd.C (Kd.int .u8) w A l.length l) (hc : l.length ≤ c) (hr1 : Kd.C (Kd.int .i64) w A1 zs.length zs) (hok : (Hu.countedS zs).2 = true) (he : bits_Check.f k l m = some 0) (s0 : ¬ sym < 0) (s1 : ¬ (zs.length : Int) ≤ sym) (hec : (Hu.codesS zs).2 = 0) (y0 : ¬ rd zs sym = 0) (hsl : sym < ((Hu.codesS zs).1.length : Int)) (v vv : Int) (ht : bits_Turn.f k (rd (Hu.codesS zs).1 sym) (rd zs sym) = some (v, vv)) (r1 : List Int) (r2 r3 : Int) (hp : bits_Put.f k l m v (rd zs sym) = some (r1, r2, r3)) :
    Calls Try.prog 18 #[.agg #[.slice A l.length c, .int .i64 m], .slice A1 zs.length c1, .int .i64 sym] w fun e w' => ∃ v0_ : Value, e = .returned (.tuple #[.agg #[v0_, .int .i64 r2], .int .i64 r3]) ∧ Kd.R (Kd.int .u8) 5 w' w.heap.size (fun _ => True) v0_ r1 ∧ Below w.heap.size w w' := by
  have HR := Aside0.mk hr
  have HC := Aside0.mk hc
  have HR1 := Aside0.mk hr1
  have HB := Aside0.mk (Below.refl w.heap.size w)
  have KC := Aside0.mk (fun (w' : World) (hb : Below w.heap.size w w') => Hu.huff_counted.calls A1 c1 zs w' (Kd.C_below hr1 hb))
  have KD := Aside0.mk (fun (w' : World) (hb : Below w.heap.size w w') => Hu.huff_Codes_in A1 c1 zs w' (Kd.C_below hr1 hb))
  unfold Hu.CountedPost at KC
  have hlen := Hu.countedS_len zs
  obtain ⟨cs, hcs⟩ : ∃ cs, Hu.countedS zs = cs := ⟨_, rfl⟩
  rw [hcs] at hlen KC hok
  clear hcs hr hc hr1
  obtain ⟨cl, ok⟩ := cs
  dsimp only at hlen KC hok
  subst hok
  obtain ⟨x0, cl, rfl⟩ := List.exists_cons_of_length_pos (l := cl) (by omega)
  obtain ⟨x1, cl, rfl⟩ := List.exists_cons_of_length_pos (l := cl) (by simp only [List.length_cons] at hlen; omega)
  obtain ⟨x2, cl, rfl⟩ := List.exists_cons_of_length_pos (l := cl) (by simp only [List.length_cons] at hlen; omega)
  obtain ⟨x3, cl, rfl⟩ := List.exists_cons_of_length_pos (l := cl) (by simp only [List.length_cons] at hlen; omega)
  obtain ⟨x4, cl, rfl⟩ := List.exists_cons_of_length_pos (l := cl) (by simp only [List.length_cons] at hlen; omega)
  obtain ⟨x5, cl, rfl⟩ := List.exists_cons_of_length_pos (l := cl) (by simp only [List.length_cons] at hlen; omega)
  obtain ⟨x6, cl, rfl⟩ := List.exists_cons_of_length_pos (l := cl) (by simp only [List.length_cons] at hlen; omega)
  obtain ⟨x7, cl, rfl⟩ := List.exists_cons_of_length_pos (l := cl) (by simp only [List.length_cons] at hlen; omega)
  obtain ⟨x8, cl, rfl⟩ := List.exists_cons_of_length_pos (l := cl) (by simp only [List.length_cons] at hlen; omega)
  obtain ⟨x9, cl, rfl⟩ := List.exists_cons_of_length_pos (l := cl) (by simp only [List.length_cons] at hlen; omega)
  obtain ⟨x10, cl, rfl⟩ := List.exists_cons_of_length_pos (l := cl) (by simp only [List.length_cons] at hlen; omega)
  obtain ⟨x11, cl, rfl⟩ := List.exists_cons_of_length_pos (l := cl) (by simp only [List.length_cons] at hlen; omega)
  obtain ⟨x12, cl, rfl⟩ := List.exists_cons_of_length_pos (l := cl) (by simp only [List.length_cons] at hlen; omega)
  obtain ⟨x13, cl, rfl⟩ := List.exists_cons_of_length_pos (l := cl) (by simp only [List.length_cons] at hlen; omega)
  obtain ⟨x14, cl, rfl⟩ := List.exists_cons_of_length_pos (l := cl) (by simp only [List.length_cons] at hlen; omega)
  obtain ⟨x15, cl, rfl⟩ := List.exists_cons_of_length_pos (l := cl) (by simp only [List.length_cons] at hlen; omega)
  obtain rfl : cl = [] := List.eq_nil_of_length_eq_zero (by simp only [List.length_cons] at hlen; omega)
  clear hlen
  have HE := Aside0.mk he
  clear he
  have s0b : decide (sym < 0) = false := decide_eq_false s0
  have s1b : decide ((zs.length : Int) ≤ sym) = false := decide_eq_false s1
  have s1c := eq_false s1
  obtain ⟨cd, hcd⟩ : ∃ cd, Hu.codesS zs = cd := ⟨_, rfl⟩
  rw [hcd] at hec KD ht hsl
  clear hcd
  obtain ⟨co, ec⟩ := cd
  dsimp only at hec KD ht hsl
  subst hec
  obtain ⟨ad, rfl, hx⟩ := Kd.at_int HR1.out sym (by omega) (by omega)
  obtain ⟨sn, rfl⟩ : ∃ sn : Nat, sym = (sn : Int) := ⟨sym.toNat, by omega⟩
  rw [Int.toNat_natCast] at hx
  have s2 := eq_true (show (0 : Int) ≤ (sn : Int) by omega)
  have s3 := eq_true (show (sn : Int) < (zs.length : Int) by omega)
  have s4 := eq_true (show sn < zs.length by omega)
  have s5 := eq_false (show ¬ zs.length ≤ sn by omega)
  have HX := Aside0.mk hx
  clear hx
  obtain ⟨y, hy⟩ : ∃ y, rd zs (sn : Int) = y := ⟨_, rfl⟩
  rw [hy] at HX y0 ht hp
  clear hy
  have y0b : (y == 0) = false := beq_eq_false_iff_ne.mpr y0
  have y0c : (y != 0) = true := bne_iff_ne.mpr y0
  clear y0
  replace s0 := eq_false s0
  have HT := Aside0.mk ht
  have HP := Aside0.mk hp
  clear ht hp
  go_enter Try.func18, Try.ntmps18
  go_upto_region 2 with (first
        | ((with_reducible refine gate_dst (N := 3) rfl ?_); refine box_event ?hg (N := 3) ?hd (cs := #[.slice A l.length c, .int .i64 m]) (t := 36) ?hr ?_; (case hd => rfl); (case hg => rfl); (case hr => first | (go_simp; done) | (go_simp; rfl)); intro g3 hg w3 hbox hb; have n0 := Aside0.mk (below_then HB.out HB.out.size hb); have n1 := Aside0.mk (hbox); have n2 := Aside0.mk ((by rw [hg]; exact HB.out.size : w.heap.size ≤ g3)); clear HB; have HB := n0; have B3 := n1; have G3 := n2; clear n0 n1 n2; clear hg hbox hb)
        | ((with_reducible refine gate_dst (N := 6) rfl ?_); refine box_event ?hg (N := 6) ?hd (cs := #[.slice none 0 0, .int .i64 0]) (t := 36) ?hr ?_; (case hd => rfl); (case hg => rfl); (case hr => first | (go_simp; done) | (go_simp; rfl)); intro g6 hg w4 hbox hb; have n0 := Aside0.mk (below_then HB.out HB.out.size hb); have n1 := Aside0.mk (blk_below B3.out hb); have n2 := Aside0.mk (hbox); have n3 := Aside0.mk ((by rw [hg]; exact HB.out.size : w.heap.size ≤ g6)); clear HB B3; have HB := n0; have B3 := n1; have B6 := n2; have G6 := n3; clear n0 n1 n2 n3; clear hg hbox hb; have hcg30 : w4.cell? ⟨g3, 0, none⟩ = some (.slice A l.length c) := (blk_cell B3.out 0).trans rfl; have hcg31 : w4.cell? ⟨g3, 1, none⟩ = some (.int .i64 m) := (blk_cell B3.out 1).trans rfl)
        | (go_at_call 25; refine (KC.out _ HB.out).mono ?_; rintro e_ w5 ⟨rfl, hb⟩; have n0 := Aside0.mk (below_then HB.out HB.out.size hb); have n1 := Aside0.mk (blk_below B3.out hb); have n2 := Aside0.mk (blk_below B6.out hb); clear HB B3 B6; have HB := n0; have B3 := n1; have B6 := n2; clear n0 n1 n2; clear hb; clear hcg30 hcg31; have hcg30 : w5.cell? ⟨g3, 0, none⟩ = some (.slice A l.length c) := (blk_cell B3.out 0).trans rfl; have hcg31 : w5.cell? ⟨g3, 1, none⟩ = some (.int .i64 m) := (blk_cell B3.out 1).trans rfl; have hcg60 : w5.cell? ⟨g6, 0, none⟩ = some (.slice none 0 0) := (blk_cell B6.out 0).trans rfl; have hcg61 : w5.cell? ⟨g6, 1, none⟩ = some (.int .i64 0) := (blk_cell B6.out 1).trans rfl; have hfg60 := blk_frozen B6.out 0; have hfg61 := blk_frozen B6.out 1; simp only [Hu.agg16, List.map_cons, List.map_nil])
        )
  have n0 := Aside0.mk (below_alloc HB.out (.cells #[Value.int IntKind.i64 x0, Value.int IntKind.i64 x1, Value.int IntKind.i64 x2, Value.int IntKind.i64 x3, Value.int IntKind.i64 x4, Value.int IntKind.i64 x5, Value.int IntKind.i64 x6, Value.int IntKind.i64 x7, Value.int IntKind.i64 x8, Value.int IntKind.i64 x9, Value.int IntKind.i64 x10, Value.int IntKind.i64 x11, Value.int IntKind.i64 x12, Value.int IntKind.i64 x13, Value.int IntKind.i64 x14, Value.int IntKind.i64 x15] 57 (0, 0)))
  have n1 := Aside0.mk (blk_alloc B3.out (.cells #[Value.int IntKind.i64 x0, Value.int IntKind.i64 x1, Value.int IntKind.i64 x2, Value.int IntKind.i64 x3, Value.int IntKind.i64 x4, Value.int IntKind.i64 x5, Value.int IntKind.i64 x6, Value.int IntKind.i64 x7, Value.int IntKind.i64 x8, Value.int IntKind.i64 x9, Value.int IntKind.i64 x10, Value.int IntKind.i64 x11, Value.int IntKind.i64 x12, Value.int IntKind.i64 x13, Value.int IntKind.i64 x14, Value.int IntKind.i64 x15] 57 (0, 0)))
  have n2 := Aside0.mk (blk_alloc B6.out (.cells #[Value.int IntKind.i64 x0, Value.int IntKind.i64 x1, Value.int IntKind.i64 x2, Value.int IntKind.i64 x3, Value.int IntKind.i64 x4, Value.int IntKind.i64 x5, Value.int IntKind.i64 x6, Value.int IntKind.i64 x7, Value.int IntKind.i64 x8, Value.int IntKind.i64 x9, Value.int IntKind.i64 x10, Value.int IntKind.i64 x11, Value.int IntKind.i64 x12, Value.int IntKind.i64 x13, Value.int IntKind.i64 x14, Value.int IntKind.i64 x15] 57 (0, 0)))
  clear HB B3 B6
  have HB := n0
  have B3 := n1
  have B6 := n2
  clear n0 n1 n2
  generalize (w5.alloc (.cells #[Value.int IntKind.i64 x0, Value.int IntKind.i64 x1, Value.int IntKind.i64 x2, Value.int IntKind.i64 x3, Value.int IntKind.i64 x4, Value.int IntKind.i64 x5, Value.int IntKind.i64 x6, Value.int IntKind.i64 x7, Value.int IntKind.i64 x8, Value.int IntKind.i64 x9, Value.int IntKind.i64 x10, Value.int IntKind.i64 x11, Value.int IntKind.i64 x12, Value.int IntKind.i64 x13, Value.int IntKind.i64 x14, Value.int IntKind.i64 x15] 57 (0, 0))) = wa at HB B3 B6 ⊢
  generalize (Value.agg #[Value.int IntKind.i64 x0, Value.int IntKind.i64 x1, Value.int IntKind.i64 x2, Value.int IntKind.i64 x3, Value.int IntKind.i64 x4, Value.int IntKind.i64 x5, Value.int IntKind.i64 x6, Value.int IntKind.i64 x7, Value.int IntKind.i64 x8, Value.int IntKind.i64 x9, Value.int IntKind.i64 x10, Value.int IntKind.i64 x11, Value.int IntKind.i64 x12, Value.int IntKind.i64 x13, Value.int IntKind.i64 x14, Value.int IntKind.i64 x15]) = vagg
  clear hcg30 hcg31 hcg60 hcg61
  clear hfg60 hfg61
  have hcg30 : wa.cell? ⟨g3, 0, none⟩ = some (.slice A l.length c) := (blk_cell B3.out 0).trans rfl
  have hcg31 : wa.cell? ⟨g3, 1, none⟩ = some (.int .i64 m) := (blk_cell B3.out 1).trans rfl
  have hcg60 : wa.cell? ⟨g6, 0, none⟩ = some (.slice none 0 0) := (blk_cell B6.out 0).trans rfl
  have hcg61 : wa.cell? ⟨g6, 1, none⟩ = some (.int .i64 0) := (blk_cell B6.out 1).trans rfl
  have hfg60 := blk_frozen B6.out 0
  have hfg61 := blk_frozen B6.out 1
  go_upto_region 9 with (first
        | (go_at_call 30; refine (bits_Check.calls k A c l m 0 _ (Kd.C_below HR.out HB.out) HC.out HE.out).mono ?_; rintro e_ w6 ⟨rfl, hb⟩; have n0 := Aside0.mk (below_then HB.out HB.out.size hb); have n1 := Aside0.mk (blk_below B3.out hb); have n2 := Aside0.mk (blk_below B6.out hb); clear HB B3 B6; have HB := n0; have B3 := n1; have B6 := n2; clear n0 n1 n2; clear hb; clear hcg30 hcg31 hcg60 hcg61; clear hfg60 hfg61; have hcg30 : w6.cell? ⟨g3, 0, none⟩ = some (.slice A l.length c) := (blk_cell B3.out 0).trans rfl; have hcg31 : w6.cell? ⟨g3, 1, none⟩ = some (.int .i64 m) := (blk_cell B3.out 1).trans rfl; have hcg60 : w6.cell? ⟨g6, 0, none⟩ = some (.slice none 0 0) := (blk_cell B6.out 0).trans rfl; have hcg61 : w6.cell? ⟨g6, 1, none⟩ = some (.int .i64 0) := (blk_cell B6.out 1).trans rfl; have hfg60 := blk_frozen B6.out 0; have hfg61 := blk_frozen B6.out 1)
        | (go_at_call 11; refine (KD.out _ HB.out).mono ?_; rintro e_ w7 ⟨vc, rfl, ho, hb⟩; have n0 := Aside0.mk (below_then HB.out HB.out.size hb); have n1 := Aside0.mk (blk_below B3.out hb); have n2 := Aside0.mk (blk_below B6.out hb); have n3 := Aside0.mk (Kd.R_lower ho HB.out.size); clear HB B3 B6; have HB := n0; have B3 := n1; have B6 := n2; have HO := n3; clear n0 n1 n2 n3; clear hb; clear ho; clear hcg30 hcg31 hcg60 hcg61; clear hfg60 hfg61; have hcg30 : w7.cell? ⟨g3, 0, none⟩ = some (.slice A l.length c) := (blk_cell B3.out 0).trans rfl; have hcg31 : w7.cell? ⟨g3, 1, none⟩ = some (.int .i64 m) := (blk_cell B3.out 1).trans rfl; have hcg60 : w7.cell? ⟨g6, 0, none⟩ = some (.slice none 0 0) := (blk_cell B6.out 0).trans rfl; have hcg61 : w7.cell? ⟨g6, 1, none⟩ = some (.int .i64 0) := (blk_cell B6.out 1).trans rfl; have hfg60 := blk_frozen B6.out 0; have hfg61 := blk_frozen B6.out 1; have hxc := pw_cell_below HB.out HX.out)
        )
  obtain ⟨go, cco, eo, ggo, glo, clo, hgo⟩ := Kd.R_form HO.out (by omega)
  subst eo
  have hx0 : w7.cell? ⟨go, sn, none⟩ = some (.int .i64 (rd co (sn : Int))) := (Kd.R_celln 0 HO.out (sn : Int) (by omega) hsl).1
  have s6 := eq_true hsl
  have s7 := eq_true (show sn < co.length by omega)
  clear hsl hgo clo
  refine start_ (n := 14) (S := fun w' => w'.cell? ⟨go, sn, none⟩ = some (.int .i64 (rd co (sn : Int))) ∧ w'.cell? (ad.add sn) = some (.int .i64 y)) (ds := []) #[false, false, false, false, false, false, false, false, false, false, false, false, false, false] (by kernel_rfl) rfl rfl ⟨hx0, hxc⟩ (fun hHeld => ?_)
  refine pure_ (i := 0) (N := some 55) (v := ?_) (a' := ?_) #[true, false, false, false, false, false, false, false, false, false, false, false, false, false] rfl rfl (by kernel_rfl) (fun _ _ _ h => h) (Or.inl ⟨by rfl, ?_⟩) ?_ ?_
  rotate_left
  · intro w'
    go_simp
    with_reducible rfl
  rotate_left
  · simp only [Act.put, List.setIfInBounds_toArray, List.set_cons_zero, List.set_cons_succ, i64_w, i32_w, u8_w]
    rfl
  refine pure_ (i := 1) (N := some 56) (v := ?_) (a' := ?_) #[true, true, false, false, false, false, false, false, false, false, false, false, false, false] rfl rfl (by kernel_rfl) (fun _ _ _ h => h) (Or.inl ⟨by rfl, ?_⟩) ?_ ?_
  rotate_left
  · intro w'
    go_simp
    with_reducible rfl
  rotate_left
  · simp only [Act.put, List.setIfInBounds_toArray, List.set_cons_zero, List.set_cons_succ, i64_w, i32_w, u8_w]
    rfl
  refine pure_ (i := 2) (N := some 57) (v := ?_) (a' := ?_) #[true, true, true, false, false, false, false, false, false, false, false, false, false, false] rfl rfl (by kernel_rfl) (fun _ _ _ h => h) (Or.inl ⟨by rfl, ?_⟩) ?_ ?_
  rotate_left
  · intro w'
    go_simp
    with_reducible rfl
  rotate_left
  · simp only [Act.put, List.setIfInBounds_toArray, List.set_cons_zero, List.set_cons_succ, i64_w, i32_w, u8_w]
    rfl
  refine pure_ (i := 4) (N := some 59) (v := ?_) (a' := ?_) #[true, true, true, false, true, false, false, false, false, false, false, false, false, false] rfl rfl (by kernel_rfl) (fun _ _ _ h => h) (Or.inl ⟨by rfl, ?_⟩) ?_ ?_
  rotate_left
  · intro w'
    go_simp
    with_reducible rfl
  rotate_left
  · simp only [Act.put, List.setIfInBounds_toArray, List.set_cons_zero, List.set_cons_succ, i64_w, i32_w, u8_w]
    rfl
  refine pure_ (i := 5) (N := some 60) (v := ?_) (a' := ?_) #[true, true, true, false, true, true, false, false, false, false, false, false, false, false] rfl rfl (by kernel_rfl) (fun _ _ _ h => h) (Or.inl ⟨by rfl, ?_⟩) ?_ ?_
  rotate_left
  · intro w'
    go_simp
    with_reducible rfl
  rotate_left
  · simp only [Act.put, List.setIfInBounds_toArray, List.set_cons_zero, List.set_cons_succ, i64_w, i32_w, u8_w]
    rfl
  refine pure_ (i := 6) (N := some 61) (v := ?_) (a' := ?_) #[true, true, true, false, true, true, true, false, false, false, false, false, false, false] rfl rfl (by kernel_rfl) (fun _ _ _ h => h) (Or.inl ⟨by rfl, ?_⟩) ?_ ?_
  rotate_left
  · intro w'
    go_simp
    with_reducible rfl
  rotate_left
  · simp only [Act.put, List.setIfInBounds_toArray, List.set_cons_zero, List.set_cons_succ, i64_w, i32_w, u8_w]
    rfl
  refine take_ (i := 3) (N := some 58) (v := ?_) (a' := ?_) #[true, true, true, true, true, true, true, false, false, false, false, false, false, false] rfl rfl (by kernel_rfl) (fun _ _ _ h => h) (Or.inl ⟨by rfl, ?_⟩) hHeld ?_ ?_
  rotate_left
  · rintro w' ⟨s0, s1⟩
    go_simp
    with_reducible rfl
  rotate_left
  · simp only [Act.put, List.setIfInBounds_toArray, List.set_cons_zero, List.set_cons_succ, i64_w, i32_w, u8_w]
    rfl
  refine take_ (i := 7) (N := some 62) (v := ?_) (a' := ?_) #[true, true, true, true, true, true, true, true, false, false, false, false, false, false] rfl rfl (by kernel_rfl) (fun _ _ _ h => h) (Or.inl ⟨by rfl, ?_⟩) hHeld ?_ ?_
  rotate_left
  · rintro w' ⟨s0, s1⟩
    go_simp
    with_reducible rfl
  rotate_left
  · simp only [Act.put, List.setIfInBounds_toArray, List.set_cons_zero, List.set_cons_succ, i64_w, i32_w, u8_w]
    rfl
  refine one_ (i := 8) (N := some 63) #[true, true, true, true, true, true, true, true, true, false, false, false, false, false] rfl rfl (by kernel_rfl) (by decide) (fun K hK => ?_)
  refine goes_ Try.func31 (by kernel_rfl) rfl #[.int .i64 (rd co (sn : Int)), .int .i64 y] (by rfl) rfl rfl (by simp only [List.map_toArray, List.map_cons, List.map_nil]; rfl) ?_
  with_reducible refine (bits_Turn.calls k (rd co (sn : Int)) y v vv _ HT.out).mono ?_
  rintro e w8 ⟨rfl, hd⟩
  refine ⟨_, rfl, ?_⟩
  obtain ⟨nd, rfl⟩ := hd.out
  clear hd
  refine hK.out _ _ ⟨hx0, hxc⟩ (fun hHeld => ?_)
  clear hK K
  refine norm_ (a' := ?_) ?_ ?_
  rotate_left
  · show Act.put _ (some 63) _ = _
    simp only [Act.put, List.setIfInBounds_toArray, List.set_cons_zero, List.set_cons_succ, i64_w, i32_w, u8_w]
    rfl
  refine pure_ (i := 9) (N := some 54) (v := ?_) (a' := ?_) #[true, true, true, true, true, true, true, true, true, true, false, false, false, false] rfl rfl (by kernel_rfl) (fun _ _ _ h => h) (Or.inl ⟨by rfl, ?_⟩) ?_ ?_
  rotate_left
  · intro w'
    go_simp
    with_reducible rfl
  rotate_left
  · simp only [Act.put, List.setIfInBounds_toArray, List.set_cons_zero, List.set_cons_succ, i64_w, i32_w, u8_w]
    rfl
  refine pure_ (i := 10) (N := some 64) (v := ?_) (a' := ?_) #[true, true, true, true, true, true, true, true, true, true, true, false, false, false] rfl rfl (by kernel_rfl) (fun _ _ _ h => h) (Or.inl ⟨by rfl, ?_⟩) ?_ ?_
  rotate_left
  · intro w'
    go_simp
    with_reducible rfl
  rotate_left
  · simp only [Act.put, List.setIfInBounds_toArray, List.set_cons_zero, List.set_cons_succ, i64_w, i32_w, u8_w]
    rfl
  refine pure_ (i := 11) (N := some 65) (v := ?_) (a' := ?_) #[true, true, true, true, true, true, true, true, true, true, true, true, false, false] rfl rfl (by kernel_rfl) (fun _ _ _ h => h) (Or.inl ⟨by rfl, ?_⟩) ?_ ?_
  rotate_left
  · intro w'
    go_simp
    with_reducible rfl
  rotate_left
  · simp only [Act.put, List.setIfInBounds_toArray, List.set_cons_zero, List.set_cons_succ, i64_w, i32_w, u8_w]
    rfl
  refine pure_ (i := 12) (N := some 12) (v := ?_) (a' := ?_) #[true, true, true, true, true, true, true, true, true, true, true, true, true, false] rfl rfl (by kernel_rfl) (fun _ _ _ h => h) (Or.inl ⟨by rfl, ?_⟩) ?_ ?_
  rotate_left
  · intro w'
    go_simp
    with_reducible rfl
  rotate_left
  · simp only [Act.put, List.setIfInBounds_toArray, List.set_cons_zero, List.set_cons_succ, i64_w, i32_w, u8_w]
    rfl
  refine pure_ (i := 13) (N := some 13) (v := ?_) (a' := ?_) #[true, true, true, true, true, true, true, true, true, true, true, true, true, true] rfl rfl (by kernel_rfl) (fun _ _ _ h => h) (Or.inl ⟨by rfl, ?_⟩) ?_ ?_
  rotate_left
  · intro w'
    go_simp
    with_reducible rfl
  rotate_left
  · simp only [Act.put, List.setIfInBounds_toArray, List.set_cons_zero, List.set_cons_succ, i64_w, i32_w, u8_w]
    rfl
  refine done_ (by kernel_rfl) ?_
  go_upto_region 10 with fail
  have HXC := Aside0.mk (show ((w7.drew.drewN nd).drew).cell? (ad.add sn) = some (.int .i64 y) from hxc)
  have n0 := Aside0.mk (below_drew1 (pw_below_drewN (below_drew1 HB.out) nd))
  have n1 := Aside0.mk (blk_drew (blk_drewN (blk_drew B3.out) nd))
  have n2 := Aside0.mk (blk_drew (blk_drewN (blk_drew B6.out) nd))
  clear HB B3 B6
  have HB := n0
  have B3 := n1
  have B6 := n2
  clear n0 n1 n2
  clear hx0 hxc hcg30 hcg31 hcg60 hcg61 hfg60 hfg61
  refine start_ (n := 11) (S := fun w' => w'.cell? ⟨g3, 0, none⟩ = some (.slice A l.length c) ∧ w'.cell? ⟨g3, 1, none⟩ = some (.int .i64 m) ∧ w'.cell? (ad.add sn) = some (.int .i64 y)) (ds := [6, 9]) #[false, false, false, false, false, false, false, false, false, false, false] (by kernel_rfl) rfl rfl ⟨(blk_cell B3.out 0).trans rfl, (blk_cell B3.out 1).trans rfl, HXC.out⟩ (fun hHeld => ?_)
  generalize (w7.drew.drewN nd).drew = wd at HB B3 B6 HXC hHeld ⊢
  refine pure_ (i := 1) (N := some 67) (v := ?_) (a' := ?_) #[false, true, false, false, false, false, false, false, false, false, false] rfl rfl (by kernel_rfl) (fun _ _ _ h => h) (Or.inl ⟨by rfl, ?_⟩) ?_ ?_
  rotate_left
  · intro w'
    go_simp
    with_reducible rfl
  rotate_left
  · simp only [Act.put, List.setIfInBounds_toArray, List.set_cons_zero, List.set_cons_succ, i64_w, i32_w, u8_w]
    rfl
  refine pure_ (i := 2) (N := some 68) (v := ?_) (a' := ?_) #[false, true, true, false, false, false, false, false, false, false, false] rfl rfl (by kernel_rfl) (fun _ _ _ h => h) (Or.inl ⟨by rfl, ?_⟩) ?_ ?_
  rotate_left
  · intro w'
    go_simp
    with_reducible rfl
  rotate_left
  · simp only [Act.put, List.setIfInBounds_toArray, List.set_cons_zero, List.set_cons_succ, i64_w, i32_w, u8_w]
    rfl
  refine pure_ (i := 3) (N := some 69) (v := ?_) (a' := ?_) #[false, true, true, true, false, false, false, false, false, false, false] rfl rfl (by kernel_rfl) (fun _ _ _ h => h) (Or.inl ⟨by rfl, ?_⟩) ?_ ?_
  rotate_left
  · intro w'
    go_simp
    with_reducible rfl
  rotate_left
  · simp only [Act.put, List.setIfInBounds_toArray, List.set_cons_zero, List.set_cons_succ, i64_w, i32_w, u8_w]
    rfl
  refine pure_ (i := 4) (N := some 70) (v := ?_) (a' := ?_) #[false, true, true, true, true, false, false, false, false, false, false] rfl rfl (by kernel_rfl) (fun _ _ _ h => h) (Or.inl ⟨by rfl, ?_⟩) ?_ ?_
  rotate_left
  · intro w'
    go_simp
    with_reducible rfl
  rotate_left
  · simp only [Act.put, List.setIfInBounds_toArray, List.set_cons_zero, List.set_cons_succ, i64_w, i32_w, u8_w]
    rfl
  refine take_ (i := 0) (N := some 66) (v := ?_) (a' := ?_) #[true, true, true, true, true, false, false, false, false, false, false] rfl rfl (by kernel_rfl) (fun _ _ _ h => h) (Or.inl ⟨by rfl, ?_⟩) hHeld ?_ ?_
  rotate_left
  · rintro w' ⟨s0, s1, s2⟩
    go_simp
    with_reducible rfl
  rotate_left
  · simp only [Act.put, List.setIfInBounds_toArray, List.set_cons_zero, List.set_cons_succ, i64_w, i32_w, u8_w]
    rfl
  refine take_ (i := 5) (N := some 71) (v := ?_) (a' := ?_) #[true, true, true, true, true, true, false, false, false, false, false] rfl rfl (by kernel_rfl) (fun _ _ _ h => h) (Or.inl ⟨by rfl, ?_⟩) hHeld ?_ ?_
  rotate_left
  · rintro w' ⟨s0, s1, s2⟩
    go_simp
    with_reducible rfl
  rotate_left
  · simp only [Act.put, List.setIfInBounds_toArray, List.set_cons_zero, List.set_cons_succ, i64_w, i32_w, u8_w]
    rfl
  refine last_ (i := 6) (N := some 72) #[true, true, true, true, true, true, true, false, false, false, false] rfl rfl (by kernel_rfl) (by decide) (fun K hK => ?_)
  refine goes_ Try.func32 (by kernel_rfl) rfl #[.agg #[.slice A l.length c, .int .i64 m], .int .i64 v, .int .i64 y] (by rfl) rfl rfl (by simp only [List.map_toArray, List.map_cons, List.map_nil]; rfl) ?_
  with_reducible refine (bits_Put.calls k A c l m v y r1 r2 r3 _ (Kd.C_below HR.out HB.out) HC.out HP.out).mono ?_
  rintro e w9 ⟨v0, rfl, ho9, hb⟩
  refine ⟨_, rfl, ?_⟩
  obtain ⟨A9, c9, ev⟩ := Kd.R_slice ho9
  subst ev
  have n0 := Aside0.mk (blk_below B6.out hb)
  have n1 := Aside0.mk (below_then HB.out HB.out.size hb)
  have n2 := Aside0.mk (Kd.R_lower ho9 HB.out.size)
  clear B6
  have B6 := n0
  have HB9 := n1
  have HO9 := n2
  clear n0 n1 n2
  clear ho9 hb
  refine hK.out _ _ ?_
  clear hK K
  refine norm_ (a' := ?_) ?_ ?_
  rotate_left
  · show Act.put _ (some 72) _ = _
    simp only [Act.put, List.setIfInBounds_toArray, List.set_cons_zero, List.set_cons_succ, i64_w, i32_w, u8_w]
    rfl
  refine pure_ (i := 7) (N := some 73) (v := ?_) (a' := ?_) #[true, true, true, true, true, true, true, true, false, false, false] rfl rfl (by kernel_rfl) (fun _ _ _ h => h) (Or.inl ⟨by rfl, ?_⟩) ?_ ?_
  rotate_left
  · intro w'
    go_simp
    with_reducible rfl
  rotate_left
  · simp only [Act.put, List.setIfInBounds_toArray, List.set_cons_zero, List.set_cons_succ, i64_w, i32_w, u8_w]
    rfl
  refine pure_ (i := 8) (N := some 74) (v := ?_) (a' := ?_) #[true, true, true, true, true, true, true, true, true, false, false] rfl rfl (by kernel_rfl) (fun _ _ _ h => h) (Or.inl ⟨by rfl, ?_⟩) ?_ ?_
  rotate_left
  · intro w'
    go_simp
    with_reducible rfl
  rotate_left
  · simp only [Act.put, List.setIfInBounds_toArray, List.set_cons_zero, List.set_cons_succ, i64_w, i32_w, u8_w]
    rfl
  refine last_ (i := 9) (N := none) #[true, true, true, true, true, true, true, true, true, true, false] rfl rfl (by kernel_rfl) (by decide) (fun K hK => ?_)
  have hz0 : w9.cell? ⟨g6, 0, none⟩ = some (.slice none 0 0) := (blk_cell B6.out 0).trans rfl
  have hz1 : w9.cell? ⟨g6, 1, none⟩ = some (.int .i64 0) := (blk_cell B6.out 1).trans rfl
  have hf0 := blk_frozen B6.out 0
  have hf1 := blk_frozen B6.out 1
  refine skip_ (w1 := ?_) (by rfl) rfl ?_ ?_
  rotate_left
  · go_simp
    rfl
  refine hK.out _ _ ?_
  clear hK K
  refine pure_ (i := 10) (N := some 7) (v := ?_) (a' := ?_) #[true, true, true, true, true, true, true, true, true, true, true] rfl rfl (by kernel_rfl) (fun _ _ _ h => h) (Or.inl ⟨by rfl, ?_⟩) ?_ ?_
  rotate_left
  · intro w'
    go_simp
    with_reducible rfl
  rotate_left
  · simp only [Act.put, List.setIfInBounds_toArray, List.set_cons_zero, List.set_cons_succ, i64_w, i32_w, u8_w]
    rfl
  refine done_ (by kernel_rfl) ?_
  go_wp2
  refine bodyPost_ret (results_ct rfl _ _ g6 36 #[.slice A9 r1.length c9, .int .i64 r2] (0, 0) _ rfl (by refine blk_put (cs := #[.slice A9 r1.length c9, .int .i64 0]) ?_ 1 _ rfl; refine blk_put (cs := #[.slice none 0 0, .int .i64 0]) ?_ 0 _ rfl; exact B6.out) Try.underlying36 rfl (by kernel_rfl)) rfl ?_
  exact ⟨_, rfl, Kd.R_mono (Kd.R_far (p := ⟨g6, 1, none⟩) (Kd.R_far (p := ⟨g6, 0, none⟩) (Kd.R_types HO9.out B6.out (by decide)) (fun _ hk => hk.2) _) (fun _ hk => hk.2) _) (fun _ hk => trivial), (HB9.out.setCell (p := ⟨g6, 0, none⟩) G6.out _).setCell (p := ⟨g6, 1, none⟩) G6.out _⟩
end

def huff_Put.f (k : Nat) (l : List Int) (m : Int) (zs : List Int) (sym : Int) : Option (List Int × Int × Int) :=
  if (Hu.countedS zs).2 = false then some ([], 0, 2) else (bits_Check.f k l m).bind fun e => if e = 0 then (if sym < 0 then some ([], 0, 2) else if (zs.length : Int) ≤ sym then some ([], 0, 2) else
    if (Hu.codesS zs).2 = 0 then (if rd zs sym = 0 then some ([], 0, 13) else if sym < ((Hu.codesS zs).1.length : Int) then (bits_Turn.f k (rd (Hu.codesS zs).1 sym) (rd zs sym)).bind fun t => bits_Put.f k l m t.1 (rd zs sym) else none) else some ([], 0, (Hu.codesS zs).2)) else some ([], 0, 2)
theorem huff_Put.mono : ∀ l m zs sym k, LeO (huff_Put.f k l m zs sym) (huff_Put.f (k + 1) l m zs sym) := by
  intro l m zs sym k
  unfold huff_Put.f
  exact LeO.ite (LeO.refl _) (LeO.bind (bits_Check.mono _ _ _) (fun e => LeO.ite (LeO.ite (LeO.refl _) (LeO.ite (LeO.refl _) (LeO.ite (LeO.ite (LeO.refl _) (LeO.ite (LeO.bind (bits_Turn.mono _ _ _) (fun t => bits_Put.mono _ _ _ _ _)) (LeO.refl _))) (LeO.refl _)))) (LeO.refl _)))
theorem huff_Put.calls (k : Nat) (A : Option Addr) (c : Nat) (l : List Int) (m : Int) (A1 : Option Addr) (c1 : Nat) (zs : List Int) (sym : Int) (r1 : List Int) (r2 r3 : Int) (w : World) (hr : Kd.C (Kd.int .u8) w A l.length l) (hc : l.length ≤ c) (hr1 : Kd.C (Kd.int .i64) w A1 zs.length zs) (hc1 : zs.length ≤ c1) (h : huff_Put.f k l m zs sym = some (r1, r2, r3)) :
    Calls Try.prog 18 #[.agg #[.slice A l.length c, .int .i64 m], .slice A1 zs.length c1, .int .i64 sym] w fun e w' => ∃ v0_ : Value, e = .returned (.tuple #[.agg #[v0_, .int .i64 r2], .int .i64 r3]) ∧ Kd.R (Kd.int .u8) 5 w' w.heap.size (fun _ => True) v0_ r1 ∧ Below w.heap.size w w' := by
  unfold huff_Put.f at h
  by_cases hok : (Hu.countedS zs).2 = false
  · rw [if_pos hok] at h
    injection h with h
    injection h with h1 h
    injection h with h2 h3
    subst h1 h2 h3
    exact huff_Put.c1 k A c l m A1 c1 zs sym w hr hc hr1 hok
  · rw [if_neg hok] at h
    have hok := eq_true_of_ne_false hok
    obtain ⟨e, he, h⟩ := Option.bind_eq_some_iff.mp h
    by_cases he0 : e = 0
    · rw [if_pos he0] at h
      subst he0
      by_cases s0 : sym < 0
      · rw [if_pos s0] at h
        injection h with h
        injection h with h1 h
        injection h with h2 h3
        subst h1 h2 h3
        exact huff_Put.c3 k A c l m A1 c1 zs sym w hr hc hr1 hok he s0
      · rw [if_neg s0] at h
        by_cases s1 : (zs.length : Int) ≤ sym
        · rw [if_pos s1] at h
          injection h with h
          injection h with h1 h
          injection h with h2 h3
          subst h1 h2 h3
          exact huff_Put.c4 k A c l m A1 c1 zs sym w hr hc hr1 hok he s0 s1
        · rw [if_neg s1] at h
          by_cases hec : (Hu.codesS zs).2 = 0
          · rw [if_pos hec] at h
            by_cases y0 : rd zs sym = 0
            · rw [if_pos y0] at h
              injection h with h
              injection h with h1 h
              injection h with h2 h3
              subst h1 h2 h3
              exact huff_Put.c6 k A c l m A1 c1 zs sym w hr hc hr1 hok he s0 s1 hec y0
            · rw [if_neg y0] at h
              by_cases hsl : sym < ((Hu.codesS zs).1.length : Int)
              · rw [if_pos hsl] at h
                obtain ⟨⟨v, vv⟩, ht, hp⟩ := Option.bind_eq_some_iff.mp h
                exact huff_Put.c7 k A c l m A1 c1 zs sym w hr hc hr1 hok he s0 s1 hec y0 hsl v vv ht r1 r2 r3 hp
              · rw [if_neg hsl] at h
                cases h
          · rw [if_neg hec] at h
            injection h with h
            injection h with h1 h
            injection h with h2 h3
            subst h1 h2 h3
            exact huff_Put.c5 k A c l m A1 c1 zs sym w hr hc hr1 hok he s0 s1 hec
    · rw [if_neg he0] at h
      injection h with h
      injection h with h1 h
      injection h with h2 h3
      subst h1 h2 h3
      exact huff_Put.c2 k A c l m A1 c1 zs sym w hr hc hr1 hok e he he0

end Go.Proofs.Ythcndpdfcippiaa.Pr
