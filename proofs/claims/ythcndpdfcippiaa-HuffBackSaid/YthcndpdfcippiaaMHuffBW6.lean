-- Texts by hand and by programs of this session, joined (wip/tool/merge.py).
import Derived.Test.YthcndpdfcippiaaMHuffBW4
import Derived.Test.YthcndpdfcippiaaMHuffBW5
-- YthcndpdfcippiaaPr12
namespace Go.Proofs.Ythcndpdfcippiaa.Pr
open Go.RowKit Go.Proofs.YthcndpdfcippiaaW.PrintWords Go.Proofs.YthcndpdfcippiaaW.PrintLast Go.Proofs.YthcndpdfcippiaaW.PrintMore
attribute [local go_sem] max2_int min2_int max_two min_two max_three min_three max_four min_four   -- for this text's walks alone
set_option linter.unusedVariables false
set_option linter.unusedSimpArgs false

/-! ### huff_Put: function 18 (by hand) -/
section
attribute [local go_sem] Oper.semAt_some
set_option maxHeartbeats 4000000 in
set_option maxRecDepth 100000 in
theorem huff_Put.c1 (k : Nat) (A : Option Addr) (c : Nat) (l : List Int) (m : Int) (A1 : Option Addr) (c1 : Nat) (zs : List Int) (sym : Int) (w : World) (hr : Kd.C (Kd.int .u8) w A l.length l) (hc : l.length ≤ c) (hr1 : Kd.C (Kd.int .i64) w A1 zs.length zs) (hok : (Hu.countedS zs).2 = false)  :
    Calls Try.prog 18 #[.agg #[.slice A l.length c, .int .i64 m], .slice A1 zs.length c1, .int .i64 sym] w fun e w' => ∃ v0_ : Value, e = .returned (.tuple #[.agg #[v0_, .int .i64 0], .int .i64 2]) ∧ Kd.R (Kd.int .u8) 5 w' w.heap.size (fun _ => True) v0_ [] ∧ Below w.heap.size w w' := by
  have HR := Aside0.mk hr
  have HC := Aside0.mk hc
  have HR1 := Aside0.mk hr1
  have HB := Aside0.mk (Below.refl w.heap.size w)
  have KC := Aside0.mk (fun (w' : World) (hb : Below w.heap.size w w') => Hu.huff_counted.calls A1 c1 zs w' (Kd.C_below hr1 hb))
  have KD := Aside0.mk (fun (w' : World) (hb : Below w.heap.size w w') => Hu.huff_Codes_in A1 c1 zs w' (Kd.C_below hr1 hb))
  unfold Hu.CountedPost at KC
  have hlen := Hu.countedS_len zs
  obtain ⟨cs, hcs⟩ : ∃ cs, Hu.countedS zs = cs := ⟨_, rfl⟩
  rw [hcs] at hlen KC hok
  clear hcs hr hc hr1
  obtain ⟨cl, ok⟩ := cs
  dsimp only at hlen KC hok
  subst hok
  obtain ⟨x0, cl, rfl⟩ := List.exists_cons_of_length_pos (l := cl) (by omega)
  obtain ⟨x1, cl, rfl⟩ := List.exists_cons_of_length_pos (l := cl) (by simp only [List.length_cons] at hlen; omega)
  obtain ⟨x2, cl, rfl⟩ := List.exists_cons_of_length_pos (l := cl) (by simp only [List.length_cons] at hlen; omega)
  obtain ⟨x3, cl, rfl⟩ := List.exists_cons_of_length_pos (l := cl) (by simp only [List.length_cons] at hlen; omega)
  obtain ⟨x4, cl, rfl⟩ := List.exists_cons_of_length_pos (l := cl) (by simp only [List.length_cons] at hlen; omega)
  obtain ⟨x5, cl, rfl⟩ := List.exists_cons_of_length_pos (l := cl) (by simp only [List.length_cons] at hlen; omega)
  obtain ⟨x6, cl, rfl⟩ := List.exists_cons_of_length_pos (l := cl) (by simp only [List.length_cons] at hlen; omega)
  obtain ⟨x7, cl, rfl⟩ := List.exists_cons_of_length_pos (l := cl) (by simp only [List.length_cons] at hlen; omega)
  obtain ⟨x8, cl, rfl⟩ := List.exists_cons_of_length_pos (l := cl) (by simp only [List.length_cons] at hlen; omega)
  obtain ⟨x9, cl, rfl⟩ := List.exists_cons_of_length_pos (l := cl) (by simp only [List.length_cons] at hlen; omega)
  obtain ⟨x10, cl, rfl⟩ := List.exists_cons_of_length_pos (l := cl) (by simp only [List.length_cons] at hlen; omega)
  obtain ⟨x11, cl, rfl⟩ := List.exists_cons_of_length_pos (l := cl) (by simp only [List.length_cons] at hlen; omega)
  obtain ⟨x12, cl, rfl⟩ := List.exists_cons_of_length_pos (l := cl) (by simp only [List.length_cons] at hlen; omega)
  obtain ⟨x13, cl, rfl⟩ := List.exists_cons_of_length_pos (l := cl) (by simp only [List.length_cons] at hlen; omega)
  obtain ⟨x14, cl, rfl⟩ := List.exists_cons_of_length_pos (l := cl) (by simp only [List.length_cons] at hlen; omega)
  obtain ⟨x15, cl, rfl⟩ := List.exists_cons_of_length_pos (l := cl) (by simp only [List.length_cons] at hlen; omega)
  obtain rfl : cl = [] := List.eq_nil_of_length_eq_zero (by simp only [List.length_cons] at hlen; omega)
  clear hlen
  go_enter Try.func18, Try.ntmps18
  go_upto_region 2 with (first
        | ((with_reducible refine gate_dst (N := 3) rfl ?_); refine box_event ?hg (N := 3) ?hd (cs := #[.slice A l.length c, .int .i64 m]) (t := 36) ?hr ?_; (case hd => rfl); (case hg => rfl); (case hr => first | (go_simp; done) | (go_simp; rfl)); intro g3 hg w3 hbox hb; have n0 := Aside0.mk (below_then HB.out HB.out.size hb); have n1 := Aside0.mk (hbox); have n2 := Aside0.mk ((by rw [hg]; exact HB.out.size : w.heap.size ≤ g3)); clear HB; have HB := n0; have B3 := n1; have G3 := n2; clear n0 n1 n2; clear hg hbox hb)
        | ((with_reducible refine gate_dst (N := 6) rfl ?_); refine box_event ?hg (N := 6) ?hd (cs := #[.slice none 0 0, .int .i64 0]) (t := 36) ?hr ?_; (case hd => rfl); (case hg => rfl); (case hr => first | (go_simp; done) | (go_simp; rfl)); intro g6 hg w4 hbox hb; have n0 := Aside0.mk (below_then HB.out HB.out.size hb); have n1 := Aside0.mk (blk_below B3.out hb); have n2 := Aside0.mk (hbox); have n3 := Aside0.mk ((by rw [hg]; exact HB.out.size : w.heap.size ≤ g6)); clear HB B3; have HB := n0; have B3 := n1; have B6 := n2; have G6 := n3; clear n0 n1 n2 n3; clear hg hbox hb; have hcg30 : w4.cell? ⟨g3, 0, none⟩ = some (.slice A l.length c) := (blk_cell B3.out 0).trans rfl; have hcg31 : w4.cell? ⟨g3, 1, none⟩ = some (.int .i64 m) := (blk_cell B3.out 1).trans rfl)
        | (go_at_call 25; refine (KC.out _ HB.out).mono ?_; rintro e_ w5 ⟨rfl, hb⟩; have n0 := Aside0.mk (below_then HB.out HB.out.size hb); have n1 := Aside0.mk (blk_below B3.out hb); have n2 := Aside0.mk (blk_below B6.out hb); clear HB B3 B6; have HB := n0; have B3 := n1; have B6 := n2; clear n0 n1 n2; clear hb; clear hcg30 hcg31; have hcg30 : w5.cell? ⟨g3, 0, none⟩ = some (.slice A l.length c) := (blk_cell B3.out 0).trans rfl; have hcg31 : w5.cell? ⟨g3, 1, none⟩ = some (.int .i64 m) := (blk_cell B3.out 1).trans rfl; have hcg60 : w5.cell? ⟨g6, 0, none⟩ = some (.slice none 0 0) := (blk_cell B6.out 0).trans rfl; have hcg61 : w5.cell? ⟨g6, 1, none⟩ = some (.int .i64 0) := (blk_cell B6.out 1).trans rfl; have hfg60 := blk_frozen B6.out 0; have hfg61 := blk_frozen B6.out 1; simp only [Hu.agg16, List.map_cons, List.map_nil])
        )
  have n0 := Aside0.mk (below_alloc HB.out (.cells #[Value.int IntKind.i64 x0, Value.int IntKind.i64 x1, Value.int IntKind.i64 x2, Value.int IntKind.i64 x3, Value.int IntKind.i64 x4, Value.int IntKind.i64 x5, Value.int IntKind.i64 x6, Value.int IntKind.i64 x7, Value.int IntKind.i64 x8, Value.int IntKind.i64 x9, Value.int IntKind.i64 x10, Value.int IntKind.i64 x11, Value.int IntKind.i64 x12, Value.int IntKind.i64 x13, Value.int IntKind.i64 x14, Value.int IntKind.i64 x15] 57 (0, 0)))
  have n1 := Aside0.mk (blk_alloc B3.out (.cells #[Value.int IntKind.i64 x0, Value.int IntKind.i64 x1, Value.int IntKind.i64 x2, Value.int IntKind.i64 x3, Value.int IntKind.i64 x4, Value.int IntKind.i64 x5, Value.int IntKind.i64 x6, Value.int IntKind.i64 x7, Value.int IntKind.i64 x8, Value.int IntKind.i64 x9, Value.int IntKind.i64 x10, Value.int IntKind.i64 x11, Value.int IntKind.i64 x12, Value.int IntKind.i64 x13, Value.int IntKind.i64 x14, Value.int IntKind.i64 x15] 57 (0, 0)))
  have n2 := Aside0.mk (blk_alloc B6.out (.cells #[Value.int IntKind.i64 x0, Value.int IntKind.i64 x1, Value.int IntKind.i64 x2, Value.int IntKind.i64 x3, Value.int IntKind.i64 x4, Value.int IntKind.i64 x5, Value.int IntKind.i64 x6, Value.int IntKind.i64 x7, Value.int IntKind.i64 x8, Value.int IntKind.i64 x9, Value.int IntKind.i64 x10, Value.int IntKind.i64 x11, Value.int IntKind.i64 x12, Value.int IntKind.i64 x13, Value.int IntKind.i64 x14, Value.int IntKind.i64 x15] 57 (0, 0)))
  clear HB B3 B6
  have HB := n0
  have B3 := n1
  have B6 := n2
  clear n0 n1 n2
  generalize (w5.alloc (.cells #[Value.int IntKind.i64 x0, Value.int IntKind.i64 x1, Value.int IntKind.i64 x2, Value.int IntKind.i64 x3, Value.int IntKind.i64 x4, Value.int IntKind.i64 x5, Value.int IntKind.i64 x6, Value.int IntKind.i64 x7, Value.int IntKind.i64 x8, Value.int IntKind.i64 x9, Value.int IntKind.i64 x10, Value.int IntKind.i64 x11, Value.int IntKind.i64 x12, Value.int IntKind.i64 x13, Value.int IntKind.i64 x14, Value.int IntKind.i64 x15] 57 (0, 0))) = wa at HB B3 B6 ⊢
  generalize (Value.agg #[Value.int IntKind.i64 x0, Value.int IntKind.i64 x1, Value.int IntKind.i64 x2, Value.int IntKind.i64 x3, Value.int IntKind.i64 x4, Value.int IntKind.i64 x5, Value.int IntKind.i64 x6, Value.int IntKind.i64 x7, Value.int IntKind.i64 x8, Value.int IntKind.i64 x9, Value.int IntKind.i64 x10, Value.int IntKind.i64 x11, Value.int IntKind.i64 x12, Value.int IntKind.i64 x13, Value.int IntKind.i64 x14, Value.int IntKind.i64 x15]) = vagg
  clear hcg30 hcg31 hcg60 hcg61
  clear hfg60 hfg61
  have hcg30 : wa.cell? ⟨g3, 0, none⟩ = some (.slice A l.length c) := (blk_cell B3.out 0).trans rfl
  have hcg31 : wa.cell? ⟨g3, 1, none⟩ = some (.int .i64 m) := (blk_cell B3.out 1).trans rfl
  have hcg60 : wa.cell? ⟨g6, 0, none⟩ = some (.slice none 0 0) := (blk_cell B6.out 0).trans rfl
  have hcg61 : wa.cell? ⟨g6, 1, none⟩ = some (.int .i64 0) := (blk_cell B6.out 1).trans rfl
  have hfg60 := blk_frozen B6.out 0
  have hfg61 := blk_frozen B6.out 1
  go_wp2
  refine bodyPost_ret (results_ct rfl _ _ g6 36 #[.slice none 0 0, .int .i64 0] (0, 0) _ rfl (by (with_reducible repeat (first | refine blk_drewN ?_ _ | refine blk_drew ?_ | refine blk_alloc ?_ _)); refine blk_put (cs := #[.slice none 0 0, .int .i64 0]) ?_ 1 _ rfl; (with_reducible repeat (first | refine blk_drewN ?_ _ | refine blk_drew ?_ | refine blk_alloc ?_ _)); refine blk_put (cs := #[.slice none 0 0, .int .i64 0]) ?_ 0 _ rfl; (with_reducible repeat (first | refine blk_drewN ?_ _ | refine blk_drew ?_ | refine blk_alloc ?_ _)); exact B6.out) Try.underlying36 rfl (by kernel_rfl)) rfl ?_
  exact ⟨_, rfl, Kd.R_nil _ _ _ _ _, by repeat (first | (with_reducible first | exact HB.out | apply below_alloc | apply pw_below_drewN | apply below_drew1 | refine below_set ?_ G6.out) | exact HB.out)⟩
end
section
attribute [local go_sem] Oper.semAt_some
set_option maxHeartbeats 4000000 in
set_option maxRecDepth 100000 in
theorem huff_Put.c2 (k : Nat) (A : Option Addr) (c : Nat) (l : List Int) (m : Int) (A1 : Option Addr) (c1 : Nat) (zs : List Int) (sym : Int) (w : World) (hr : Kd.C (Kd.int .u8) w A l.length l) (hc : l.length ≤ c) (hr1 : Kd.C (Kd.int .i64) w A1 zs.length zs) (hok : (Hu.countedS zs).2 = true) (e : Int) (he : bits_Check.f k l m = some e) (he0 : ¬ e = 0) :
    Calls Try.prog 18 #[.agg #[.slice A l.length c, .int .i64 m], .slice A1 zs.length c1, .int .i64 sym] w fun e w' => ∃ v0_ : Value, e = .returned (.tuple #[.agg #[v0_, .int .i64 0], .int .i64 2]) ∧ Kd.R (Kd.int .u8) 5 w' w.heap.size (fun _ => True) v0_ [] ∧ Below w.heap.size w w' := by
  have HR := Aside0.mk hr
  have HC := Aside0.mk hc
  have HR1 := Aside0.mk hr1
  have HB := Aside0.mk (Below.refl w.heap.size w)
  have KC := Aside0.mk (fun (w' : World) (hb : Below w.heap.size w w') => Hu.huff_counted.calls A1 c1 zs w' (Kd.C_below hr1 hb))
  have KD := Aside0.mk (fun (w' : World) (hb : Below w.heap.size w w') => Hu.huff_Codes_in A1 c1 zs w' (Kd.C_below hr1 hb))
  unfold Hu.CountedPost at KC
  have hlen := Hu.countedS_len zs
  obtain ⟨cs, hcs⟩ : ∃ cs, Hu.countedS zs = cs := ⟨_, rfl⟩
  rw [hcs] at hlen KC hok
  clear hcs hr hc hr1
  obtain ⟨cl, ok⟩ := cs
  dsimp only at hlen KC hok
  subst hok
  obtain ⟨x0, cl, rfl⟩ := List.exists_cons_of_length_pos (l := cl) (by omega)
  obtain ⟨x1, cl, rfl⟩ := List.exists_cons_of_length_pos (l := cl) (by simp only [List.length_cons] at hlen; omega)
  obtain ⟨x2, cl, rfl⟩ := List.exists_cons_of_length_pos (l := cl) (by simp only [List.length_cons] at hlen; omega)
  obtain ⟨x3, cl, rfl⟩ := List.exists_cons_of_length_pos (l := cl) (by simp only [List.length_cons] at hlen; omega)
  obtain ⟨x4, cl, rfl⟩ := List.exists_cons_of_length_pos (l := cl) (by simp only [List.length_cons] at hlen; omega)
  obtain ⟨x5, cl, rfl⟩ := List.exists_cons_of_length_pos (l := cl) (by simp only [List.length_cons] at hlen; omega)
  obtain ⟨x6, cl, rfl⟩ := List.exists_cons_of_length_pos (l := cl) (by simp only [List.length_cons] at hlen; omega)
  obtain ⟨x7, cl, rfl⟩ := List.exists_cons_of_length_pos (l := cl) (by simp only [List.length_cons] at hlen; omega)
  obtain ⟨x8, cl, rfl⟩ := List.exists_cons_of_length_pos (l := cl) (by simp only [List.length_cons] at hlen; omega)
  obtain ⟨x9, cl, rfl⟩ := List.exists_cons_of_length_pos (l := cl) (by simp only [List.length_cons] at hlen; omega)
  obtain ⟨x10, cl, rfl⟩ := List.exists_cons_of_length_pos (l := cl) (by simp only [List.length_cons] at hlen; omega)
  obtain ⟨x11, cl, rfl⟩ := List.exists_cons_of_length_pos (l := cl) (by simp only [List.length_cons] at hlen; omega)
  obtain ⟨x12, cl, rfl⟩ := List.exists_cons_of_length_pos (l := cl) (by simp only [List.length_cons] at hlen; omega)
  obtain ⟨x13, cl, rfl⟩ := List.exists_cons_of_length_pos (l := cl) (by simp only [List.length_cons] at hlen; omega)
  obtain ⟨x14, cl, rfl⟩ := List.exists_cons_of_length_pos (l := cl) (by simp only [List.length_cons] at hlen; omega)
  obtain ⟨x15, cl, rfl⟩ := List.exists_cons_of_length_pos (l := cl) (by simp only [List.length_cons] at hlen; omega)
  obtain rfl : cl = [] := List.eq_nil_of_length_eq_zero (by simp only [List.length_cons] at hlen; omega)
  clear hlen
  have HE := Aside0.mk he
  clear he
  have heb : (e == 0) = false := beq_eq_false_iff_ne.mpr he0
  have hec : (e != 0) = true := bne_iff_ne.mpr he0
  clear he0
  go_enter Try.func18, Try.ntmps18
  go_upto_region 2 with (first
        | ((with_reducible refine gate_dst (N := 3) rfl ?_); refine box_event ?hg (N := 3) ?hd (cs := #[.slice A l.length c, .int .i64 m]) (t := 36) ?hr ?_; (case hd => rfl); (case hg => rfl); (case hr => first | (go_simp; done) | (go_simp; rfl)); intro g3 hg w3 hbox hb; have n0 := Aside0.mk (below_then HB.out HB.out.size hb); have n1 := Aside0.mk (hbox); have n2 := Aside0.mk ((by rw [hg]; exact HB.out.size : w.heap.size ≤ g3)); clear HB; have HB := n0; have B3 := n1; have G3 := n2; clear n0 n1 n2; clear hg hbox hb)
        | ((with_reducible refine gate_dst (N := 6) rfl ?_); refine box_event ?hg (N := 6) ?hd (cs := #[.slice none 0 0, .int .i64 0]) (t := 36) ?hr ?_; (case hd => rfl); (case hg => rfl); (case hr => first | (go_simp; done) | (go_simp; rfl)); intro g6 hg w4 hbox hb; have n0 := Aside0.mk (below_then HB.out HB.out.size hb); have n1 := Aside0.mk (blk_below B3.out hb); have n2 := Aside0.mk (hbox); have n3 := Aside0.mk ((by rw [hg]; exact HB.out.size : w.heap.size ≤ g6)); clear HB B3; have HB := n0; have B3 := n1; have B6 := n2; have G6 := n3; clear n0 n1 n2 n3; clear hg hbox hb; have hcg30 : w4.cell? ⟨g3, 0, none⟩ = some (.slice A l.length c) := (blk_cell B3.out 0).trans rfl; have hcg31 : w4.cell? ⟨g3, 1, none⟩ = some (.int .i64 m) := (blk_cell B3.out 1).trans rfl)
        | (go_at_call 25; refine (KC.out _ HB.out).mono ?_; rintro e_ w5 ⟨rfl, hb⟩; have n0 := Aside0.mk (below_then HB.out HB.out.size hb); have n1 := Aside0.mk (blk_below B3.out hb); have n2 := Aside0.mk (blk_below B6.out hb); clear HB B3 B6; have HB := n0; have B3 := n1; have B6 := n2; clear n0 n1 n2; clear hb; clear hcg30 hcg31; have hcg30 : w5.cell? ⟨g3, 0, none⟩ = some (.slice A l.length c) := (blk_cell B3.out 0).trans rfl; have hcg31 : w5.cell? ⟨g3, 1, none⟩ = some (.int .i64 m) := (blk_cell B3.out 1).trans rfl; have hcg60 : w5.cell? ⟨g6, 0, none⟩ = some (.slice none 0 0) := (blk_cell B6.out 0).trans rfl; have hcg61 : w5.cell? ⟨g6, 1, none⟩ = some (.int .i64 0) := (blk_cell B6.out 1).trans rfl; have hfg60 := blk_frozen B6.out 0; have hfg61 := blk_frozen B6.out 1; simp only [Hu.agg16, List.map_cons, List.map_nil])
        )
  have n0 := Aside0.mk (below_alloc HB.out (.cells #[Value.int IntKind.i64 x0, Value.int IntKind.i64 x1, Value.int IntKind.i64 x2, Value.int IntKind.i64 x3, Value.int IntKind.i64 x4, Value.int IntKind.i64 x5, Value.int IntKind.i64 x6, Value.int IntKind.i64 x7, Value.int IntKind.i64 x8, Value.int IntKind.i64 x9, Value.int IntKind.i64 x10, Value.int IntKind.i64 x11, Value.int IntKind.i64 x12, Value.int IntKind.i64 x13, Value.int IntKind.i64 x14, Value.int IntKind.i64 x15] 57 (0, 0)))
  have n1 := Aside0.mk (blk_alloc B3.out (.cells #[Value.int IntKind.i64 x0, Value.int IntKind.i64 x1, Value.int IntKind.i64 x2, Value.int IntKind.i64 x3, Value.int IntKind.i64 x4, Value.int IntKind.i64 x5, Value.int IntKind.i64 x6, Value.int IntKind.i64 x7, Value.int IntKind.i64 x8, Value.int IntKind.i64 x9, Value.int IntKind.i64 x10, Value.int IntKind.i64 x11, Value.int IntKind.i64 x12, Value.int IntKind.i64 x13, Value.int IntKind.i64 x14, Value.int IntKind.i64 x15] 57 (0, 0)))
  have n2 := Aside0.mk (blk_alloc B6.out (.cells #[Value.int IntKind.i64 x0, Value.int IntKind.i64 x1, Value.int IntKind.i64 x2, Value.int IntKind.i64 x3, Value.int IntKind.i64 x4, Value.int IntKind.i64 x5, Value.int IntKind.i64 x6, Value.int IntKind.i64 x7, Value.int IntKind.i64 x8, Value.int IntKind.i64 x9, Value.int IntKind.i64 x10, Value.int IntKind.i64 x11, Value.int IntKind.i64 x12, Value.int IntKind.i64 x13, Value.int IntKind.i64 x14, Value.int IntKind.i64 x15] 57 (0, 0)))
  clear HB B3 B6
  have HB := n0
  have B3 := n1
  have B6 := n2
  clear n0 n1 n2
  generalize (w5.alloc (.cells #[Value.int IntKind.i64 x0, Value.int IntKind.i64 x1, Value.int IntKind.i64 x2, Value.int IntKind.i64 x3, Value.int IntKind.i64 x4, Value.int IntKind.i64 x5, Value.int IntKind.i64 x6, Value.int IntKind.i64 x7, Value.int IntKind.i64 x8, Value.int IntKind.i64 x9, Value.int IntKind.i64 x10, Value.int IntKind.i64 x11, Value.int IntKind.i64 x12, Value.int IntKind.i64 x13, Value.int IntKind.i64 x14, Value.int IntKind.i64 x15] 57 (0, 0))) = wa at HB B3 B6 ⊢
  generalize (Value.agg #[Value.int IntKind.i64 x0, Value.int IntKind.i64 x1, Value.int IntKind.i64 x2, Value.int IntKind.i64 x3, Value.int IntKind.i64 x4, Value.int IntKind.i64 x5, Value.int IntKind.i64 x6, Value.int IntKind.i64 x7, Value.int IntKind.i64 x8, Value.int IntKind.i64 x9, Value.int IntKind.i64 x10, Value.int IntKind.i64 x11, Value.int IntKind.i64 x12, Value.int IntKind.i64 x13, Value.int IntKind.i64 x14, Value.int IntKind.i64 x15]) = vagg
  clear hcg30 hcg31 hcg60 hcg61
  clear hfg60 hfg61
  have hcg30 : wa.cell? ⟨g3, 0, none⟩ = some (.slice A l.length c) := (blk_cell B3.out 0).trans rfl
  have hcg31 : wa.cell? ⟨g3, 1, none⟩ = some (.int .i64 m) := (blk_cell B3.out 1).trans rfl
  have hcg60 : wa.cell? ⟨g6, 0, none⟩ = some (.slice none 0 0) := (blk_cell B6.out 0).trans rfl
  have hcg61 : wa.cell? ⟨g6, 1, none⟩ = some (.int .i64 0) := (blk_cell B6.out 1).trans rfl
  have hfg60 := blk_frozen B6.out 0
  have hfg61 := blk_frozen B6.out 1
  go_wp2_with (first
        | (go_at_call 30; refine (bits_Check.calls k A c l m e _ (Kd.C_below HR.out HB.out) HC.out HE.out).mono ?_; rintro e_ w6 ⟨rfl, hb⟩; have n0 := Aside0.mk (below_then HB.out HB.out.size hb); have n1 := Aside0.mk (blk_below B3.out hb); have n2 := Aside0.mk (blk_below B6.out hb); clear HB B3 B6; have HB := n0; have B3 := n1; have B6 := n2; clear n0 n1 n2; clear hb; clear hcg30 hcg31 hcg60 hcg61; clear hfg60 hfg61; have hcg30 : w6.cell? ⟨g3, 0, none⟩ = some (.slice A l.length c) := (blk_cell B3.out 0).trans rfl; have hcg31 : w6.cell? ⟨g3, 1, none⟩ = some (.int .i64 m) := (blk_cell B3.out 1).trans rfl; have hcg60 : w6.cell? ⟨g6, 0, none⟩ = some (.slice none 0 0) := (blk_cell B6.out 0).trans rfl; have hcg61 : w6.cell? ⟨g6, 1, none⟩ = some (.int .i64 0) := (blk_cell B6.out 1).trans rfl; have hfg60 := blk_frozen B6.out 0; have hfg61 := blk_frozen B6.out 1)
        )
  refine bodyPost_ret (results_ct rfl _ _ g6 36 #[.slice none 0 0, .int .i64 0] (0, 0) _ rfl (by (with_reducible repeat (first | refine blk_drewN ?_ _ | refine blk_drew ?_ | refine blk_alloc ?_ _)); refine blk_put (cs := #[.slice none 0 0, .int .i64 0]) ?_ 1 _ rfl; (with_reducible repeat (first | refine blk_drewN ?_ _ | refine blk_drew ?_ | refine blk_alloc ?_ _)); refine blk_put (cs := #[.slice none 0 0, .int .i64 0]) ?_ 0 _ rfl; (with_reducible repeat (first | refine blk_drewN ?_ _ | refine blk_drew ?_ | refine blk_alloc ?_ _)); exact B6.out) Try.underlying36 rfl (by kernel_rfl)) rfl ?_
  exact ⟨_, rfl, Kd.R_nil _ _ _ _ _, by repeat (first | (with_reducible first | exact HB.out | apply below_alloc | apply pw_below_drewN | apply below_drew1 | refine below_set ?_ G6.out) | exact HB.out)⟩
end
section
attribute [local go_sem] Oper.semAt_some
set_option maxHeartbeats 4000000 in
set_option maxRecDepth 100000 in
theorem huff_Put.c3 (k : Nat) (A : Option Addr) (c : Nat) (l : List Int) (m : Int) (A1 : Option Addr) (c1 : Nat) (zs : List Int) (sym : Int) (w : World) (hr : Kd.C (Kd.int .u8) w A l.length l) (hc : l.length ≤ c) (hr1 : Kd.C (Kd.int .i64) w A1 zs.length zs) (hok : (Hu.countedS zs).2 = true) (he : bits_Check.f k l m = some 0) (s0 : sym < 0) :
    Calls Try.prog 18 #[.agg #[.slice A l.length c, .int .i64 m], .slice A1 zs.length c1, .int .i64 sym] w fun e w' => ∃ v0_ : Value, e = .returned (.tuple #[.agg #[v0_, .int .i64 0], .int .i64 2]) ∧ Kd.R (Kd.int .u8) 5 w' w.heap.size (fun _ => True) v0_ [] ∧ Below w.heap.size w w' := by
  have HR := Aside0.mk hr
  have HC := Aside0.mk hc
  have HR1 := Aside0.mk hr1
  have HB := Aside0.mk (Below.refl w.heap.size w)
  have KC := Aside0.mk (fun (w' : World) (hb : Below w.heap.size w w') => Hu.huff_counted.calls A1 c1 zs w' (Kd.C_below hr1 hb))
  have KD := Aside0.mk (fun (w' : World) (hb : Below w.heap.size w w') => Hu.huff_Codes_in A1 c1 zs w' (Kd.C_below hr1 hb))
  unfold Hu.CountedPost at KC
  have hlen := Hu.countedS_len zs
  obtain ⟨cs, hcs⟩ : ∃ cs, Hu.countedS zs = cs := ⟨_, rfl⟩
  rw [hcs] at hlen KC hok
  clear hcs hr hc hr1
  obtain ⟨cl, ok⟩ := cs
  dsimp only at hlen KC hok
  subst hok
  obtain ⟨x0, cl, rfl⟩ := List.exists_cons_of_length_pos (l := cl) (by omega)
  obtain ⟨x1, cl, rfl⟩ := List.exists_cons_of_length_pos (l := cl) (by simp only [List.length_cons] at hlen; omega)
  obtain ⟨x2, cl, rfl⟩ := List.exists_cons_of_length_pos (l := cl) (by simp only [List.length_cons] at hlen; omega)
  obtain ⟨x3, cl, rfl⟩ := List.exists_cons_of_length_pos (l := cl) (by simp only [List.length_cons] at hlen; omega)
  obtain ⟨x4, cl, rfl⟩ := List.exists_cons_of_length_pos (l := cl) (by simp only [List.length_cons] at hlen; omega)
  obtain ⟨x5, cl, rfl⟩ := List.exists_cons_of_length_pos (l := cl) (by simp only [List.length_cons] at hlen; omega)
  obtain ⟨x6, cl, rfl⟩ := List.exists_cons_of_length_pos (l := cl) (by simp only [List.length_cons] at hlen; omega)
  obtain ⟨x7, cl, rfl⟩ := List.exists_cons_of_length_pos (l := cl) (by simp only [List.length_cons] at hlen; omega)
  obtain ⟨x8, cl, rfl⟩ := List.exists_cons_of_length_pos (l := cl) (by simp only [List.length_cons] at hlen; omega)
  obtain ⟨x9, cl, rfl⟩ := List.exists_cons_of_length_pos (l := cl) (by simp only [List.length_cons] at hlen; omega)
  obtain ⟨x10, cl, rfl⟩ := List.exists_cons_of_length_pos (l := cl) (by simp only [List.length_cons] at hlen; omega)
  obtain ⟨x11, cl, rfl⟩ := List.exists_cons_of_length_pos (l := cl) (by simp only [List.length_cons] at hlen; omega)
  obtain ⟨x12, cl, rfl⟩ := List.exists_cons_of_length_pos (l := cl) (by simp only [List.length_cons] at hlen; omega)
  obtain ⟨x13, cl, rfl⟩ := List.exists_cons_of_length_pos (l := cl) (by simp only [List.length_cons] at hlen; omega)
  obtain ⟨x14, cl, rfl⟩ := List.exists_cons_of_length_pos (l := cl) (by simp only [List.length_cons] at hlen; omega)
  obtain ⟨x15, cl, rfl⟩ := List.exists_cons_of_length_pos (l := cl) (by simp only [List.length_cons] at hlen; omega)
  obtain rfl : cl = [] := List.eq_nil_of_length_eq_zero (by simp only [List.length_cons] at hlen; omega)
  clear hlen
  have HE := Aside0.mk he
  clear he
  have s0b : decide (sym < 0) = true := decide_eq_true s0
  replace s0 := eq_true s0
  go_enter Try.func18, Try.ntmps18
  go_upto_region 2 with (first
        | ((with_reducible refine gate_dst (N := 3) rfl ?_); refine box_event ?hg (N := 3) ?hd (cs := #[.slice A l.length c, .int .i64 m]) (t := 36) ?hr ?_; (case hd => rfl); (case hg => rfl); (case hr => first | (go_simp; done) | (go_simp; rfl)); intro g3 hg w3 hbox hb; have n0 := Aside0.mk (below_then HB.out HB.out.size hb); have n1 := Aside0.mk (hbox); have n2 := Aside0.mk ((by rw [hg]; exact HB.out.size : w.heap.size ≤ g3)); clear HB; have HB := n0; have B3 := n1; have G3 := n2; clear n0 n1 n2; clear hg hbox hb)
        | ((with_reducible refine gate_dst (N := 6) rfl ?_); refine box_event ?hg (N := 6) ?hd (cs := #[.slice none 0 0, .int .i64 0]) (t := 36) ?hr ?_; (case hd => rfl); (case hg => rfl); (case hr => first | (go_simp; done) | (go_simp; rfl)); intro g6 hg w4 hbox hb; have n0 := Aside0.mk (below_then HB.out HB.out.size hb); have n1 := Aside0.mk (blk_below B3.out hb); have n2 := Aside0.mk (hbox); have n3 := Aside0.mk ((by rw [hg]; exact HB.out.size : w.heap.size ≤ g6)); clear HB B3; have HB := n0; have B3 := n1; have B6 := n2; have G6 := n3; clear n0 n1 n2 n3; clear hg hbox hb; have hcg30 : w4.cell? ⟨g3, 0, none⟩ = some (.slice A l.length c) := (blk_cell B3.out 0).trans rfl; have hcg31 : w4.cell? ⟨g3, 1, none⟩ = some (.int .i64 m) := (blk_cell B3.out 1).trans rfl)
        | (go_at_call 25; refine (KC.out _ HB.out).mono ?_; rintro e_ w5 ⟨rfl, hb⟩; have n0 := Aside0.mk (below_then HB.out HB.out.size hb); have n1 := Aside0.mk (blk_below B3.out hb); have n2 := Aside0.mk (blk_below B6.out hb); clear HB B3 B6; have HB := n0; have B3 := n1; have B6 := n2; clear n0 n1 n2; clear hb; clear hcg30 hcg31; have hcg30 : w5.cell? ⟨g3, 0, none⟩ = some (.slice A l.length c) := (blk_cell B3.out 0).trans rfl; have hcg31 : w5.cell? ⟨g3, 1, none⟩ = some (.int .i64 m) := (blk_cell B3.out 1).trans rfl; have hcg60 : w5.cell? ⟨g6, 0, none⟩ = some (.slice none 0 0) := (blk_cell B6.out 0).trans rfl; have hcg61 : w5.cell? ⟨g6, 1, none⟩ = some (.int .i64 0) := (blk_cell B6.out 1).trans rfl; have hfg60 := blk_frozen B6.out 0; have hfg61 := blk_frozen B6.out 1; simp only [Hu.agg16, List.map_cons, List.map_nil])
        )
  have n0 := Aside0.mk (below_alloc HB.out (.cells #[Value.int IntKind.i64 x0, Value.int IntKind.i64 x1, Value.int IntKind.i64 x2, Value.int IntKind.i64 x3, Value.int IntKind.i64 x4, Value.int IntKind.i64 x5, Value.int IntKind.i64 x6, Value.int IntKind.i64 x7, Value.int IntKind.i64 x8, Value.int IntKind.i64 x9, Value.int IntKind.i64 x10, Value.int IntKind.i64 x11, Value.int IntKind.i64 x12, Value.int IntKind.i64 x13, Value.int IntKind.i64 x14, Value.int IntKind.i64 x15] 57 (0, 0)))
  have n1 := Aside0.mk (blk_alloc B3.out (.cells #[Value.int IntKind.i64 x0, Value.int IntKind.i64 x1, Value.int IntKind.i64 x2, Value.int IntKind.i64 x3, Value.int IntKind.i64 x4, Value.int IntKind.i64 x5, Value.int IntKind.i64 x6, Value.int IntKind.i64 x7, Value.int IntKind.i64 x8, Value.int IntKind.i64 x9, Value.int IntKind.i64 x10, Value.int IntKind.i64 x11, Value.int IntKind.i64 x12, Value.int IntKind.i64 x13, Value.int IntKind.i64 x14, Value.int IntKind.i64 x15] 57 (0, 0)))
  have n2 := Aside0.mk (blk_alloc B6.out (.cells #[Value.int IntKind.i64 x0, Value.int IntKind.i64 x1, Value.int IntKind.i64 x2, Value.int IntKind.i64 x3, Value.int IntKind.i64 x4, Value.int IntKind.i64 x5, Value.int IntKind.i64 x6, Value.int IntKind.i64 x7, Value.int IntKind.i64 x8, Value.int IntKind.i64 x9, Value.int IntKind.i64 x10, Value.int IntKind.i64 x11, Value.int IntKind.i64 x12, Value.int IntKind.i64 x13, Value.int IntKind.i64 x14, Value.int IntKind.i64 x15] 57 (0, 0)))
  clear HB B3 B6
  have HB := n0
  have B3 := n1
  have B6 := n2
  clear n0 n1 n2
  generalize (w5.alloc (.cells #[Value.int IntKind.i64 x0, Value.int IntKind.i64 x1, Value.int IntKind.i64 x2, Value.int IntKind.i64 x3, Value.int IntKind.i64 x4, Value.int IntKind.i64 x5, Value.int IntKind.i64 x6, Value.int IntKind.i64 x7, Value.int IntKind.i64 x8, Value.int IntKind.i64 x9, Value.int IntKind.i64 x10, Value.int IntKind.i64 x11, Value.int IntKind.i64 x12, Value.int IntKind.i64 x13, Value.int IntKind.i64 x14, Value.int IntKind.i64 x15] 57 (0, 0))) = wa at HB B3 B6 ⊢
  generalize (Value.agg #[Value.int IntKind.i64 x0, Value.int IntKind.i64 x1, Value.int IntKind.i64 x2, Value.int IntKind.i64 x3, Value.int IntKind.i64 x4, Value.int IntKind.i64 x5, Value.int IntKind.i64 x6, Value.int IntKind.i64 x7, Value.int IntKind.i64 x8, Value.int IntKind.i64 x9, Value.int IntKind.i64 x10, Value.int IntKind.i64 x11, Value.int IntKind.i64 x12, Value.int IntKind.i64 x13, Value.int IntKind.i64 x14, Value.int IntKind.i64 x15]) = vagg
  clear hcg30 hcg31 hcg60 hcg61
  clear hfg60 hfg61
  have hcg30 : wa.cell? ⟨g3, 0, none⟩ = some (.slice A l.length c) := (blk_cell B3.out 0).trans rfl
  have hcg31 : wa.cell? ⟨g3, 1, none⟩ = some (.int .i64 m) := (blk_cell B3.out 1).trans rfl
  have hcg60 : wa.cell? ⟨g6, 0, none⟩ = some (.slice none 0 0) := (blk_cell B6.out 0).trans rfl
  have hcg61 : wa.cell? ⟨g6, 1, none⟩ = some (.int .i64 0) := (blk_cell B6.out 1).trans rfl
  have hfg60 := blk_frozen B6.out 0
  have hfg61 := blk_frozen B6.out 1
  go_wp2_with (first
        | (go_at_call 30; refine (bits_Check.calls k A c l m 0 _ (Kd.C_below HR.out HB.out) HC.out HE.out).mono ?_; rintro e_ w6 ⟨rfl, hb⟩; have n0 := Aside0.mk (below_then HB.out HB.out.size hb); have n1 := Aside0.mk (blk_below B3.out hb); have n2 := Aside0.mk (blk_below B6.out hb); clear HB B3 B6; have HB := n0; have B3 := n1; have B6 := n2; clear n0 n1 n2; clear hb; clear hcg30 hcg31 hcg60 hcg61; clear hfg60 hfg61; have hcg30 : w6.cell? ⟨g3, 0, none⟩ = some (.slice A l.length c) := (blk_cell B3.out 0).trans rfl; have hcg31 : w6.cell? ⟨g3, 1, none⟩ = some (.int .i64 m) := (blk_cell B3.out 1).trans rfl; have hcg60 : w6.cell? ⟨g6, 0, none⟩ = some (.slice none 0 0) := (blk_cell B6.out 0).trans rfl; have hcg61 : w6.cell? ⟨g6, 1, none⟩ = some (.int .i64 0) := (blk_cell B6.out 1).trans rfl; have hfg60 := blk_frozen B6.out 0; have hfg61 := blk_frozen B6.out 1)
        )
  refine bodyPost_ret (results_ct rfl _ _ g6 36 #[.slice none 0 0, .int .i64 0] (0, 0) _ rfl (by (with_reducible repeat (first | refine blk_drewN ?_ _ | refine blk_drew ?_ | refine blk_alloc ?_ _)); refine blk_put (cs := #[.slice none 0 0, .int .i64 0]) ?_ 1 _ rfl; (with_reducible repeat (first | refine blk_drewN ?_ _ | refine blk_drew ?_ | refine blk_alloc ?_ _)); refine blk_put (cs := #[.slice none 0 0, .int .i64 0]) ?_ 0 _ rfl; (with_reducible repeat (first | refine blk_drewN ?_ _ | refine blk_drew ?_ | refine blk_alloc ?_ _)); exact B6.out) Try.underlying36 rfl (by kernel_rfl)) rfl ?_
  exact ⟨_, rfl, Kd.R_nil _ _ _ _ _, by repeat (first | (with_reducible first | exact HB.out | apply below_alloc | apply pw_below_drewN | apply below_drew1 | refine below_set ?_ G6.out) | exact HB.out)⟩
end
section
attribute [local go_sem] Oper.semAt_some
set_option maxHeartbeats 4000000 in
set_option maxRecDepth 100000 in
theorem huff_Put.c4 (k : Nat) (A : Option Addr) (c : Nat) (l : List Int) (m : Int) (A1 : Option Addr) (c1 : Nat) (zs : List Int) (sym : Int) (w : World) (hr : Kd.C (Kd.int .u8) w A l.length l) (hc : l.length ≤ c) (hr1 : Kd.C (Kd.int .i64) w A1 zs.length zs) (hok : (Hu.countedS zs).2 = true) (he : bits_Check.f k l m = some 0) (s0 : ¬ sym < 0) (s1 : (zs.length : Int) ≤ sym) :
    Calls Try.prog 18 #[.agg #[.slice A l.length c, .int .i64 m], .slice A1 zs.length c1, .int .i64 sym] w fun e w' => ∃ v0_ : Value, e = .returned (.tuple #[.agg #[v0_, .int .i64 0], .int .i64 2]) ∧ Kd.R (Kd.int .u8) 5 w' w.heap.size (fun _ => True) v0_ [] ∧ Below w.heap.size w w' := by
  have HR := Aside0.mk hr
  have HC := Aside0.mk hc
  have HR1 := Aside0.mk hr1
  have HB := Aside0.mk (Below.refl w.heap.size w)
  have KC := Aside0.mk (fun (w' : World) (hb : Below w.heap.size w w') => Hu.huff_counted.calls A1 c1 zs w' (Kd.C_below hr1 hb))
  have KD := Aside0.mk (fun (w' : World) (hb : Below w.heap.size w w') => Hu.huff_Codes_in A1 c1 zs w' (Kd.C_below hr1 hb))
  unfold Hu.CountedPost at KC
  have hlen := Hu.countedS_len zs
  obtain ⟨cs, hcs⟩ : ∃ cs, Hu.countedS zs = cs := ⟨_, rfl⟩
  rw [hcs] at hlen KC hok
  clear hcs hr hc hr1
  obtain ⟨cl, ok⟩ := cs
  dsimp only at hlen KC hok
  subst hok
  obtain ⟨x0, cl, rfl⟩ := List.exists_cons_of_length_pos (l := cl) (by omega)
  obtain ⟨x1, cl, rfl⟩ := List.exists_cons_of_length_pos (l := cl) (by simp only [List.length_cons] at hlen; omega)
  obtain ⟨x2, cl, rfl⟩ := List.exists_cons_of_length_pos (l := cl) (by simp only [List.length_cons] at hlen; omega)
  obtain ⟨x3, cl, rfl⟩ := List.exists_cons_of_length_pos (l := cl) (by simp only [List.length_cons] at hlen; omega)
  obtain ⟨x4, cl, rfl⟩ := List.exists_cons_of_length_pos (l := cl) (by simp only [List.length_cons] at hlen; omega)
  obtain ⟨x5, cl, rfl⟩ := List.exists_cons_of_length_pos (l := cl) (by simp only [List.length_cons] at hlen; omega)
  obtain ⟨x6, cl, rfl⟩ := List.exists_cons_of_length_pos (l := cl) (by simp only [List.length_cons] at hlen; omega)
  obtain ⟨x7, cl, rfl⟩ := List.exists_cons_of_length_pos (l := cl) (by simp only [List.length_cons] at hlen; omega)
  obtain ⟨x8, cl, rfl⟩ := List.exists_cons_of_length_pos (l := cl) (by simp only [List.length_cons] at hlen; omega)
  obtain ⟨x9, cl, rfl⟩ := List.exists_cons_of_length_pos (l := cl) (by simp only [List.length_cons] at hlen; omega)
  obtain ⟨x10, cl, rfl⟩ := List.exists_cons_of_length_pos (l := cl) (by simp only [List.length_cons] at hlen; omega)
  obtain ⟨x11, cl, rfl⟩ := List.exists_cons_of_length_pos (l := cl) (by simp only [List.length_cons] at hlen; omega)
  obtain ⟨x12, cl, rfl⟩ := List.exists_cons_of_length_pos (l := cl) (by simp only [List.length_cons] at hlen; omega)
  obtain ⟨x13, cl, rfl⟩ := List.exists_cons_of_length_pos (l := cl) (by simp only [List.length_cons] at hlen; omega)
  obtain ⟨x14, cl, rfl⟩ := List.exists_cons_of_length_pos (l := cl) (by simp only [List.length_cons] at hlen; omega)
  obtain ⟨x15, cl, rfl⟩ := List.exists_cons_of_length_pos (l := cl) (by simp only [List.length_cons] at hlen; omega)
  obtain rfl : cl = [] := List.eq_nil_of_length_eq_zero (by simp only [List.length_cons] at hlen; omega)
  clear hlen
  have HE := Aside0.mk he
  clear he
  have s0b : decide (sym < 0) = false := decide_eq_false s0
  have s1b : decide ((zs.length : Int) ≤ sym) = true := decide_eq_true s1
  replace s1 := eq_true s1
  replace s0 := eq_false s0
  go_enter Try.func18, Try.ntmps18
  go_upto_region 2 with (first
        | ((with_reducible refine gate_dst (N := 3) rfl ?_); refine box_event ?hg (N := 3) ?hd (cs := #[.slice A l.length c, .int .i64 m]) (t := 36) ?hr ?_; (case hd => rfl); (case hg => rfl); (case hr => first | (go_simp; done) | (go_simp; rfl)); intro g3 hg w3 hbox hb; have n0 := Aside0.mk (below_then HB.out HB.out.size hb); have n1 := Aside0.mk (hbox); have n2 := Aside0.mk ((by rw [hg]; exact HB.out.size : w.heap.size ≤ g3)); clear HB; have HB := n0; have B3 := n1; have G3 := n2; clear n0 n1 n2; clear hg hbox hb)
        | ((with_reducible refine gate_dst (N := 6) rfl ?_); refine box_event ?hg (N := 6) ?hd (cs := #[.slice none 0 0, .int .i64 0]) (t := 36) ?hr ?_; (case hd => rfl); (case hg => rfl); (case hr => first | (go_simp; done) | (go_simp; rfl)); intro g6 hg w4 hbox hb; have n0 := Aside0.mk (below_then HB.out HB.out.size hb); have n1 := Aside0.mk (blk_below B3.out hb); have n2 := Aside0.mk (hbox); have n3 := Aside0.mk ((by rw [hg]; exact HB.out.size : w.heap.size ≤ g6)); clear HB B3; have HB := n0; have B3 := n1; have B6 := n2; have G6 := n3; clear n0 n1 n2 n3; clear hg hbox hb; have hcg30 : w4.cell? ⟨g3, 0, none⟩ = some (.slice A l.length c) := (blk_cell B3.out 0).trans rfl; have hcg31 : w4.cell? ⟨g3, 1, none⟩ = some (.int .i64 m) := (blk_cell B3.out 1).trans rfl)
        | (go_at_call 25; refine (KC.out _ HB.out).mono ?_; rintro e_ w5 ⟨rfl, hb⟩; have n0 := Aside0.mk (below_then HB.out HB.out.size hb); have n1 := Aside0.mk (blk_below B3.out hb); have n2 := Aside0.mk (blk_below B6.out hb); clear HB B3 B6; have HB := n0; have B3 := n1; have B6 := n2; clear n0 n1 n2; clear hb; clear hcg30 hcg31; have hcg30 : w5.cell? ⟨g3, 0, none⟩ = some (.slice A l.length c) := (blk_cell B3.out 0).trans rfl; have hcg31 : w5.cell? ⟨g3, 1, none⟩ = some (.int .i64 m) := (blk_cell B3.out 1).trans rfl; have hcg60 : w5.cell? ⟨g6, 0, none⟩ = some (.slice none 0 0) := (blk_cell B6.out 0).trans rfl; have hcg61 : w5.cell? ⟨g6, 1, none⟩ = some (.int .i64 0) := (blk_cell B6.out 1).trans rfl; have hfg60 := blk_frozen B6.out 0; have hfg61 := blk_frozen B6.out 1; simp only [Hu.agg16, List.map_cons, List.map_nil])
        )
  have n0 := Aside0.mk (below_alloc HB.out (.cells #[Value.int IntKind.i64 x0, Value.int IntKind.i64 x1, Value.int IntKind.i64 x2, Value.int IntKind.i64 x3, Value.int IntKind.i64 x4, Value.int IntKind.i64 x5, Value.int IntKind.i64 x6, Value.int IntKind.i64 x7, Value.int IntKind.i64 x8, Value.int IntKind.i64 x9, Value.int IntKind.i64 x10, Value.int IntKind.i64 x11, Value.int IntKind.i64 x12, Value.int IntKind.i64 x13, Value.int IntKind.i64 x14, Value.int IntKind.i64 x15] 57 (0, 0)))
  have n1 := Aside0.mk (blk_alloc B3.out (.cells #[Value.int IntKind.i64 x0, Value.int IntKind.i64 x1, Value.int IntKind.i64 x2, Value.int IntKind.i64 x3, Value.int IntKind.i64 x4, Value.int IntKind.i64 x5, Value.int IntKind.i64 x6, Value.int IntKind.i64 x7, Value.int IntKind.i64 x8, Value.int IntKind.i64 x9, Value.int IntKind.i64 x10, Value.int IntKind.i64 x11, Value.int IntKind.i64 x12, Value.int IntKind.i64 x13, Value.int IntKind.i64 x14, Value.int IntKind.i64 x15] 57 (0, 0)))
  have n2 := Aside0.mk (blk_alloc B6.out (.cells #[Value.int IntKind.i64 x0, Value.int IntKind.i64 x1, Value.int IntKind.i64 x2, Value.int IntKind.i64 x3, Value.int IntKind.i64 x4, Value.int IntKind.i64 x5, Value.int IntKind.i64 x6, Value.int IntKind.i64 x7, Value.int IntKind.i64 x8, Value.int IntKind.i64 x9, Value.int IntKind.i64 x10, Value.int IntKind.i64 x11, Value.int IntKind.i64 x12, Value.int IntKind.i64 x13, Value.int IntKind.i64 x14, Value.int IntKind.i64 x15] 57 (0, 0)))
  clear HB B3 B6
  have HB := n0
  have B3 := n1
  have B6 := n2
  clear n0 n1 n2
  generalize (w5.alloc (.cells #[Value.int IntKind.i64 x0, Value.int IntKind.i64 x1, Value.int IntKind.i64 x2, Value.int IntKind.i64 x3, Value.int IntKind.i64 x4, Value.int IntKind.i64 x5, Value.int IntKind.i64 x6, Value.int IntKind.i64 x7, Value.int IntKind.i64 x8, Value.int IntKind.i64 x9, Value.int IntKind.i64 x10, Value.int IntKind.i64 x11, Value.int IntKind.i64 x12, Value.int IntKind.i64 x13, Value.int IntKind.i64 x14, Value.int IntKind.i64 x15] 57 (0, 0))) = wa at HB B3 B6 ⊢
  generalize (Value.agg #[Value.int IntKind.i64 x0, Value.int IntKind.i64 x1, Value.int IntKind.i64 x2, Value.int IntKind.i64 x3, Value.int IntKind.i64 x4, Value.int IntKind.i64 x5, Value.int IntKind.i64 x6, Value.int IntKind.i64 x7, Value.int IntKind.i64 x8, Value.int IntKind.i64 x9, Value.int IntKind.i64 x10, Value.int IntKind.i64 x11, Value.int IntKind.i64 x12, Value.int IntKind.i64 x13, Value.int IntKind.i64 x14, Value.int IntKind.i64 x15]) = vagg
  clear hcg30 hcg31 hcg60 hcg61
  clear hfg60 hfg61
  have hcg30 : wa.cell? ⟨g3, 0, none⟩ = some (.slice A l.length c) := (blk_cell B3.out 0).trans rfl
  have hcg31 : wa.cell? ⟨g3, 1, none⟩ = some (.int .i64 m) := (blk_cell B3.out 1).trans rfl
  have hcg60 : wa.cell? ⟨g6, 0, none⟩ = some (.slice none 0 0) := (blk_cell B6.out 0).trans rfl
  have hcg61 : wa.cell? ⟨g6, 1, none⟩ = some (.int .i64 0) := (blk_cell B6.out 1).trans rfl
  have hfg60 := blk_frozen B6.out 0
  have hfg61 := blk_frozen B6.out 1
  go_wp2_with (first
        | (go_at_call 30; refine (bits_Check.calls k A c l m 0 _ (Kd.C_below HR.out HB.out) HC.out HE.out).mono ?_; rintro e_ w6 ⟨rfl, hb⟩; have n0 := Aside0.mk (below_then HB.out HB.out.size hb); have n1 := Aside0.mk (blk_below B3.out hb); have n2 := Aside0.mk (blk_below B6.out hb); clear HB B3 B6; have HB := n0; have B3 := n1; have B6 := n2; clear n0 n1 n2; clear hb; clear hcg30 hcg31 hcg60 hcg61; clear hfg60 hfg61; have hcg30 : w6.cell? ⟨g3, 0, none⟩ = some (.slice A l.length c) := (blk_cell B3.out 0).trans rfl; have hcg31 : w6.cell? ⟨g3, 1, none⟩ = some (.int .i64 m) := (blk_cell B3.out 1).trans rfl; have hcg60 : w6.cell? ⟨g6, 0, none⟩ = some (.slice none 0 0) := (blk_cell B6.out 0).trans rfl; have hcg61 : w6.cell? ⟨g6, 1, none⟩ = some (.int .i64 0) := (blk_cell B6.out 1).trans rfl; have hfg60 := blk_frozen B6.out 0; have hfg61 := blk_frozen B6.out 1)
        )
  refine bodyPost_ret (results_ct rfl _ _ g6 36 #[.slice none 0 0, .int .i64 0] (0, 0) _ rfl (by (with_reducible repeat (first | refine blk_drewN ?_ _ | refine blk_drew ?_ | refine blk_alloc ?_ _)); refine blk_put (cs := #[.slice none 0 0, .int .i64 0]) ?_ 1 _ rfl; (with_reducible repeat (first | refine blk_drewN ?_ _ | refine blk_drew ?_ | refine blk_alloc ?_ _)); refine blk_put (cs := #[.slice none 0 0, .int .i64 0]) ?_ 0 _ rfl; (with_reducible repeat (first | refine blk_drewN ?_ _ | refine blk_drew ?_ | refine blk_alloc ?_ _)); exact B6.out) Try.underlying36 rfl (by kernel_rfl)) rfl ?_
  exact ⟨_, rfl, Kd.R_nil _ _ _ _ _, by repeat (first | (with_reducible first | exact HB.out | apply below_alloc | apply pw_below_drewN | apply below_drew1 | refine below_set ?_ G6.out) | exact HB.out)⟩
end
section
attribute [local go_sem] Oper.semAt_some
set_option maxHeartbeats 4000000 in
set_option maxRecDepth 100000 in
theorem huff_Put.c5 (k : Nat) (A : Option Addr) (c : Nat) (l : List Int) (m : Int) (A1 : Option Addr) (c1 : Nat) (zs : List Int) (sym : Int) (w : World) (hr : Kd.C (Kd.int .u8) w A l.length l) (hc : l.length ≤ c) (hr1 : Kd.C (Kd.int .i64) w A1 zs.length zs) (hok : (Hu.countedS zs).2 = true) (he : bits_Check.f k l m = some 0) (s0 : ¬ sym < 0) (s1 : ¬ (zs.length : Int) ≤ sym) (hec : ¬ (Hu.codesS zs).2 = 0) :
    Calls Try.prog 18 #[.agg #[.slice A l.length c, .int .i64 m], .slice A1 zs.length c1, .int .i64 sym] w fun e w' => ∃ v0_ : Value, e = .returned (.tuple #[.agg #[v0_, .int .i64 0], .int .i64 (Hu.codesS zs).2]) ∧ Kd.R (Kd.int .u8) 5 w' w.heap.size (fun _ => True) v0_ [] ∧ Below w.heap.size w w' := by
  have HR := Aside0.mk hr
  have HC := Aside0.mk hc
  have HR1 := Aside0.mk hr1
  have HB := Aside0.mk (Below.refl w.heap.size w)
  have KC := Aside0.mk (fun (w' : World) (hb : Below w.heap.size w w') => Hu.huff_counted.calls A1 c1 zs w' (Kd.C_below hr1 hb))
  have KD := Aside0.mk (fun (w' : World) (hb : Below w.heap.size w w') => Hu.huff_Codes_in A1 c1 zs w' (Kd.C_below hr1 hb))
  unfold Hu.CountedPost at KC
  have hlen := Hu.countedS_len zs
  obtain ⟨cs, hcs⟩ : ∃ cs, Hu.countedS zs = cs := ⟨_, rfl⟩
  rw [hcs] at hlen KC hok
  clear hcs hr hc hr1
  obtain ⟨cl, ok⟩ := cs
  dsimp only at hlen KC hok
  subst hok
  obtain ⟨x0, cl, rfl⟩ := List.exists_cons_of_length_pos (l := cl) (by omega)
  obtain ⟨x1, cl, rfl⟩ := List.exists_cons_of_length_pos (l := cl) (by simp only [List.length_cons] at hlen; omega)
  obtain ⟨x2, cl, rfl⟩ := List.exists_cons_of_length_pos (l := cl) (by simp only [List.length_cons] at hlen; omega)
  obtain ⟨x3, cl, rfl⟩ := List.exists_cons_of_length_pos (l := cl) (by simp only [List.length_cons] at hlen; omega)
  obtain ⟨x4, cl, rfl⟩ := List.exists_cons_of_length_pos (l := cl) (by simp only [List.length_cons] at hlen; omega)
  obtain ⟨x5, cl, rfl⟩ := List.exists_cons_of_length_pos (l := cl) (by simp only [List.length_cons] at hlen; omega)
  obtain ⟨x6, cl, rfl⟩ := List.exists_cons_of_length_pos (l := cl) (by simp only [List.length_cons] at hlen; omega)
  obtain ⟨x7, cl, rfl⟩ := List.exists_cons_of_length_pos (l := cl) (by simp only [List.length_cons] at hlen; omega)
  obtain ⟨x8, cl, rfl⟩ := List.exists_cons_of_length_pos (l := cl) (by simp only [List.length_cons] at hlen; omega)
  obtain ⟨x9, cl, rfl⟩ := List.exists_cons_of_length_pos (l := cl) (by simp only [List.length_cons] at hlen; omega)
  obtain ⟨x10, cl, rfl⟩ := List.exists_cons_of_length_pos (l := cl) (by simp only [List.length_cons] at hlen; omega)
  obtain ⟨x11, cl, rfl⟩ := List.exists_cons_of_length_pos (l := cl) (by simp only [List.length_cons] at hlen; omega)
  obtain ⟨x12, cl, rfl⟩ := List.exists_cons_of_length_pos (l := cl) (by simp only [List.length_cons] at hlen; omega)
  obtain ⟨x13, cl, rfl⟩ := List.exists_cons_of_length_pos (l := cl) (by simp only [List.length_cons] at hlen; omega)
  obtain ⟨x14, cl, rfl⟩ := List.exists_cons_of_length_pos (l := cl) (by simp only [List.length_cons] at hlen; omega)
  obtain ⟨x15, cl, rfl⟩ := List.exists_cons_of_length_pos (l := cl) (by simp only [List.length_cons] at hlen; omega)
  obtain rfl : cl = [] := List.eq_nil_of_length_eq_zero (by simp only [List.length_cons] at hlen; omega)
  clear hlen
  have HE := Aside0.mk he
  clear he
  have s0b : decide (sym < 0) = false := decide_eq_false s0
  have s1b : decide ((zs.length : Int) ≤ sym) = false := decide_eq_false s1
  have s1c := eq_false s1
  obtain ⟨cd, hcd⟩ : ∃ cd, Hu.codesS zs = cd := ⟨_, rfl⟩
  rw [hcd] at hec KD ⊢
  clear hcd
  obtain ⟨co, ec⟩ := cd
  dsimp only at hec KD ⊢
  have hecb : (ec == 0) = false := beq_eq_false_iff_ne.mpr hec
  have hecc : (ec != 0) = true := bne_iff_ne.mpr hec
  clear hec
  replace s0 := eq_false s0
  go_enter Try.func18, Try.ntmps18
  go_upto_region 2 with (first
        | ((with_reducible refine gate_dst (N := 3) rfl ?_); refine box_event ?hg (N := 3) ?hd (cs := #[.slice A l.length c, .int .i64 m]) (t := 36) ?hr ?_; (case hd => rfl); (case hg => rfl); (case hr => first | (go_simp; done) | (go_simp; rfl)); intro g3 hg w3 hbox hb; have n0 := Aside0.mk (below_then HB.out HB.out.size hb); have n1 := Aside0.mk (hbox); have n2 := Aside0.mk ((by rw [hg]; exact HB.out.size : w.heap.size ≤ g3)); clear HB; have HB := n0; have B3 := n1; have G3 := n2; clear n0 n1 n2; clear hg hbox hb)
        | ((with_reducible refine gate_dst (N := 6) rfl ?_); refine box_event ?hg (N := 6) ?hd (cs := #[.slice none 0 0, .int .i64 0]) (t := 36) ?hr ?_; (case hd => rfl); (case hg => rfl); (case hr => first | (go_simp; done) | (go_simp; rfl)); intro g6 hg w4 hbox hb; have n0 := Aside0.mk (below_then HB.out HB.out.size hb); have n1 := Aside0.mk (blk_below B3.out hb); have n2 := Aside0.mk (hbox); have n3 := Aside0.mk ((by rw [hg]; exact HB.out.size : w.heap.size ≤ g6)); clear HB B3; have HB := n0; have B3 := n1; have B6 := n2; have G6 := n3; clear n0 n1 n2 n3; clear hg hbox hb; have hcg30 : w4.cell? ⟨g3, 0, none⟩ = some (.slice A l.length c) := (blk_cell B3.out 0).trans rfl; have hcg31 : w4.cell? ⟨g3, 1, none⟩ = some (.int .i64 m) := (blk_cell B3.out 1).trans rfl)
        | (go_at_call 25; refine (KC.out _ HB.out).mono ?_; rintro e_ w5 ⟨rfl, hb⟩; have n0 := Aside0.mk (below_then HB.out HB.out.size hb); have n1 := Aside0.mk (blk_below B3.out hb); have n2 := Aside0.mk (blk_below B6.out hb); clear HB B3 B6; have HB := n0; have B3 := n1; have B6 := n2; clear n0 n1 n2; clear hb; clear hcg30 hcg31; have hcg30 : w5.cell? ⟨g3, 0, none⟩ = some (.slice A l.length c) := (blk_cell B3.out 0).trans rfl; have hcg31 : w5.cell? ⟨g3, 1, none⟩ = some (.int .i64 m) := (blk_cell B3.out 1).trans rfl; have hcg60 : w5.cell? ⟨g6, 0, none⟩ = some (.slice none 0 0) := (blk_cell B6.out 0).trans rfl; have hcg61 : w5.cell? ⟨g6, 1, none⟩ = some (.int .i64 0) := (blk_cell B6.out 1).trans rfl; have hfg60 := blk_frozen B6.out 0; have hfg61 := blk_frozen B6.out 1; simp only [Hu.agg16, List.map_cons, List.map_nil])
        )
  have n0 := Aside0.mk (below_alloc HB.out (.cells #[Value.int IntKind.i64 x0, Value.int IntKind.i64 x1, Value.int IntKind.i64 x2, Value.int IntKind.i64 x3, Value.int IntKind.i64 x4, Value.int IntKind.i64 x5, Value.int IntKind.i64 x6, Value.int IntKind.i64 x7, Value.int IntKind.i64 x8, Value.int IntKind.i64 x9, Value.int IntKind.i64 x10, Value.int IntKind.i64 x11, Value.int IntKind.i64 x12, Value.int IntKind.i64 x13, Value.int IntKind.i64 x14, Value.int IntKind.i64 x15] 57 (0, 0)))
  have n1 := Aside0.mk (blk_alloc B3.out (.cells #[Value.int IntKind.i64 x0, Value.int IntKind.i64 x1, Value.int IntKind.i64 x2, Value.int IntKind.i64 x3, Value.int IntKind.i64 x4, Value.int IntKind.i64 x5, Value.int IntKind.i64 x6, Value.int IntKind.i64 x7, Value.int IntKind.i64 x8, Value.int IntKind.i64 x9, Value.int IntKind.i64 x10, Value.int IntKind.i64 x11, Value.int IntKind.i64 x12, Value.int IntKind.i64 x13, Value.int IntKind.i64 x14, Value.int IntKind.i64 x15] 57 (0, 0)))
  have n2 := Aside0.mk (blk_alloc B6.out (.cells #[Value.int IntKind.i64 x0, Value.int IntKind.i64 x1, Value.int IntKind.i64 x2, Value.int IntKind.i64 x3, Value.int IntKind.i64 x4, Value.int IntKind.i64 x5, Value.int IntKind.i64 x6, Value.int IntKind.i64 x7, Value.int IntKind.i64 x8, Value.int IntKind.i64 x9, Value.int IntKind.i64 x10, Value.int IntKind.i64 x11, Value.int IntKind.i64 x12, Value.int IntKind.i64 x13, Value.int IntKind.i64 x14, Value.int IntKind.i64 x15] 57 (0, 0)))
  clear HB B3 B6
  have HB := n0
  have B3 := n1
  have B6 := n2
  clear n0 n1 n2
  generalize (w5.alloc (.cells #[Value.int IntKind.i64 x0, Value.int IntKind.i64 x1, Value.int IntKind.i64 x2, Value.int IntKind.i64 x3, Value.int IntKind.i64 x4, Value.int IntKind.i64 x5, Value.int IntKind.i64 x6, Value.int IntKind.i64 x7, Value.int IntKind.i64 x8, Value.int IntKind.i64 x9, Value.int IntKind.i64 x10, Value.int IntKind.i64 x11, Value.int IntKind.i64 x12, Value.int IntKind.i64 x13, Value.int IntKind.i64 x14, Value.int IntKind.i64 x15] 57 (0, 0))) = wa at HB B3 B6 ⊢
  generalize (Value.agg #[Value.int IntKind.i64 x0, Value.int IntKind.i64 x1, Value.int IntKind.i64 x2, Value.int IntKind.i64 x3, Value.int IntKind.i64 x4, Value.int IntKind.i64 x5, Value.int IntKind.i64 x6, Value.int IntKind.i64 x7, Value.int IntKind.i64 x8, Value.int IntKind.i64 x9, Value.int IntKind.i64 x10, Value.int IntKind.i64 x11, Value.int IntKind.i64 x12, Value.int IntKind.i64 x13, Value.int IntKind.i64 x14, Value.int IntKind.i64 x15]) = vagg
  clear hcg30 hcg31 hcg60 hcg61
  clear hfg60 hfg61
  have hcg30 : wa.cell? ⟨g3, 0, none⟩ = some (.slice A l.length c) := (blk_cell B3.out 0).trans rfl
  have hcg31 : wa.cell? ⟨g3, 1, none⟩ = some (.int .i64 m) := (blk_cell B3.out 1).trans rfl
  have hcg60 : wa.cell? ⟨g6, 0, none⟩ = some (.slice none 0 0) := (blk_cell B6.out 0).trans rfl
  have hcg61 : wa.cell? ⟨g6, 1, none⟩ = some (.int .i64 0) := (blk_cell B6.out 1).trans rfl
  have hfg60 := blk_frozen B6.out 0
  have hfg61 := blk_frozen B6.out 1
  go_wp2_with (first
        | (go_at_call 30; refine (bits_Check.calls k A c l m 0 _ (Kd.C_below HR.out HB.out) HC.out HE.out).mono ?_; rintro e_ w6 ⟨rfl, hb⟩; have n0 := Aside0.mk (below_then HB.out HB.out.size hb); have n1 := Aside0.mk (blk_below B3.out hb); have n2 := Aside0.mk (blk_below B6.out hb); clear HB B3 B6; have HB := n0; have B3 := n1; have B6 := n2; clear n0 n1 n2; clear hb; clear hcg30 hcg31 hcg60 hcg61; clear hfg60 hfg61; have hcg30 : w6.cell? ⟨g3, 0, none⟩ = some (.slice A l.length c) := (blk_cell B3.out 0).trans rfl; have hcg31 : w6.cell? ⟨g3, 1, none⟩ = some (.int .i64 m) := (blk_cell B3.out 1).trans rfl; have hcg60 : w6.cell? ⟨g6, 0, none⟩ = some (.slice none 0 0) := (blk_cell B6.out 0).trans rfl; have hcg61 : w6.cell? ⟨g6, 1, none⟩ = some (.int .i64 0) := (blk_cell B6.out 1).trans rfl; have hfg60 := blk_frozen B6.out 0; have hfg61 := blk_frozen B6.out 1)
        | (go_at_call 11; refine (KD.out _ HB.out).mono ?_; rintro e_ w7 ⟨vc, rfl, ho, hb⟩; have n0 := Aside0.mk (below_then HB.out HB.out.size hb); have n1 := Aside0.mk (blk_below B3.out hb); have n2 := Aside0.mk (blk_below B6.out hb); have n3 := Aside0.mk (Kd.R_lower ho HB.out.size); clear HB B3 B6; have HB := n0; have B3 := n1; have B6 := n2; have HO := n3; clear n0 n1 n2 n3; clear hb; clear ho; clear hcg30 hcg31 hcg60 hcg61; clear hfg60 hfg61; have hcg30 : w7.cell? ⟨g3, 0, none⟩ = some (.slice A l.length c) := (blk_cell B3.out 0).trans rfl; have hcg31 : w7.cell? ⟨g3, 1, none⟩ = some (.int .i64 m) := (blk_cell B3.out 1).trans rfl; have hcg60 : w7.cell? ⟨g6, 0, none⟩ = some (.slice none 0 0) := (blk_cell B6.out 0).trans rfl; have hcg61 : w7.cell? ⟨g6, 1, none⟩ = some (.int .i64 0) := (blk_cell B6.out 1).trans rfl; have hfg60 := blk_frozen B6.out 0; have hfg61 := blk_frozen B6.out 1)
        )
  refine bodyPost_ret (results_ct rfl _ _ g6 36 #[.slice none 0 0, .int .i64 0] (0, 0) _ rfl (by (with_reducible repeat (first | refine blk_drewN ?_ _ | refine blk_drew ?_ | refine blk_alloc ?_ _)); refine blk_put (cs := #[.slice none 0 0, .int .i64 0]) ?_ 1 _ rfl; (with_reducible repeat (first | refine blk_drewN ?_ _ | refine blk_drew ?_ | refine blk_alloc ?_ _)); refine blk_put (cs := #[.slice none 0 0, .int .i64 0]) ?_ 0 _ rfl; (with_reducible repeat (first | refine blk_drewN ?_ _ | refine blk_drew ?_ | refine blk_alloc ?_ _)); exact B6.out) Try.underlying36 rfl (by kernel_rfl)) rfl ?_
  exact ⟨_, rfl, Kd.R_nil _ _ _ _ _, by repeat (first | (with_reducible first | exact HB.out | apply below_alloc | apply pw_below_drewN | apply below_drew1 | refine below_set ?_ G6.out) | exact HB.out)⟩
end
section
attribute [local go_sem] Oper.semAt_some
set_option maxHeartbeats 4000000 in
set_option maxRecDepth 100000 in
theorem huff_Put.c6 (k : Nat) (A : Option Addr) (c : Nat) (l : List Int) (m : Int) (A1 : Option Addr) (c1 : Nat) (zs : List Int) (sym : Int) (w : World) (hr : Kd.C (Kd.int .u8) w A l.length l) (hc : l.length ≤ c) (hr1 : Kd.C (Kd.int .i64) w A1 zs.length zs) (hok : (Hu.countedS zs).2 = true) (he : bits_Check.f k l m = some 0) (s0 : ¬ sym < 0) (s1 : ¬ (zs.length : Int) ≤ sym) (hec : (Hu.codesS zs).2 = 0) (y0 : rd zs sym = 0) :
    Calls Try.prog 18 #[.agg #[.slice A l.length c, .int .i64 m], .slice A1 zs.length c1, .int .i64 sym] w fun e w' => ∃ v0_ : Value, e = .returned (.tuple #[.agg #[v0_, .int .i64 0], .int .i64 13]) ∧ Kd.R (Kd.int .u8) 5 w' w.heap.size (fun _ => True) v0_ [] ∧ Below w.heap.size w w' := by
  have HR := Aside0.mk hr
  have HC := Aside0.mk hc
  have HR1 := Aside0.mk hr1
  have HB := Aside0.mk (Below.refl w.heap.size w)
  have KC := Aside0.mk (fun (w' : World) (hb : Below w.heap.size w w') => Hu.huff_counted.calls A1 c1 zs w' (Kd.C_below hr1 hb))
  have KD := Aside0.mk (fun (w' : World) (hb : Below w.heap.size w w') => Hu.huff_Codes_in A1 c1 zs w' (Kd.C_below hr1 hb))
  unfold Hu.CountedPost at KC
  have hlen := Hu.countedS_len zs
  obtain ⟨cs, hcs⟩ : ∃ cs, Hu.countedS zs = cs := ⟨_, rfl⟩
  rw [hcs] at hlen KC hok
  clear hcs hr hc hr1
  obtain ⟨cl, ok⟩ := cs
  dsimp only at hlen KC hok
  subst hok
  obtain ⟨x0, cl, rfl⟩ := List.exists_cons_of_length_pos (l := cl) (by omega)
  obtain ⟨x1, cl, rfl⟩ := List.exists_cons_of_length_pos (l := cl) (by simp only [List.length_cons] at hlen; omega)
  obtain ⟨x2, cl, rfl⟩ := List.exists_cons_of_length_pos (l := cl) (by simp only [List.length_cons] at hlen; omega)
  obtain ⟨x3, cl, rfl⟩ := List.exists_cons_of_length_pos (l := cl) (by simp only [List.length_cons] at hlen; omega)
  obtain ⟨x4, cl, rfl⟩ := List.exists_cons_of_length_pos (l := cl) (by simp only [List.length_cons] at hlen; omega)
  obtain ⟨x5, cl, rfl⟩ := List.exists_cons_of_length_pos (l := cl) (by simp only [List.length_cons] at hlen; omega)
  obtain ⟨x6, cl, rfl⟩ := List.exists_cons_of_length_pos (l := cl) (by simp only [List.length_cons] at hlen; omega)
  obtain ⟨x7, cl, rfl⟩ := List.exists_cons_of_length_pos (l := cl) (by simp only [List.length_cons] at hlen; omega)
  obtain ⟨x8, cl, rfl⟩ := List.exists_cons_of_length_pos (l := cl) (by simp only [List.length_cons] at hlen; omega)
  obtain ⟨x9, cl, rfl⟩ := List.exists_cons_of_length_pos (l := cl) (by simp only [List.length_cons] at hlen; omega)
  obtain ⟨x10, cl, rfl⟩ := List.exists_cons_of_length_pos (l := cl) (by simp only [List.length_cons] at hlen; omega)
  obtain ⟨x11, cl, rfl⟩ := List.exists_cons_of_length_pos (l := cl) (by simp only [List.length_cons] at hlen; omega)
  obtain ⟨x12, cl, rfl⟩ := List.exists_cons_of_length_pos (l := cl) (by simp only [List.length_cons] at hlen; omega)
  obtain ⟨x13, cl, rfl⟩ := List.exists_cons_of_length_pos (l := cl) (by simp only [List.length_cons] at hlen; omega)
  obtain ⟨x14, cl, rfl⟩ := List.exists_cons_of_length_pos (l := cl) (by simp only [List.length_cons] at hlen; omega)
  obtain ⟨x15, cl, rfl⟩ := List.exists_cons_of_length_pos (l := cl) (by simp only [List.length_cons] at hlen; omega)
  obtain rfl : cl = [] := List.eq_nil_of_length_eq_zero (by simp only [List.length_cons] at hlen; omega)
  clear hlen
  have HE := Aside0.mk he
  clear he
  have s0b : decide (sym < 0) = false := decide_eq_false s0
  have s1b : decide ((zs.length : Int) ≤ sym) = false := decide_eq_false s1
  have s1c := eq_false s1
  obtain ⟨cd, hcd⟩ : ∃ cd, Hu.codesS zs = cd := ⟨_, rfl⟩
  rw [hcd] at hec KD
  clear hcd
  obtain ⟨co, ec⟩ := cd
  dsimp only at hec KD
  subst hec
  obtain ⟨ad, rfl, hx⟩ := Kd.at_int HR1.out sym (by omega) (by omega)
  obtain ⟨sn, rfl⟩ : ∃ sn : Nat, sym = (sn : Int) := ⟨sym.toNat, by omega⟩
  rw [Int.toNat_natCast] at hx
  have s2 := eq_true (show (0 : Int) ≤ (sn : Int) by omega)
  have s3 := eq_true (show (sn : Int) < (zs.length : Int) by omega)
  have s4 := eq_true (show sn < zs.length by omega)
  have s5 := eq_false (show ¬ zs.length ≤ sn by omega)
  have HX := Aside0.mk hx
  clear hx
  rw [y0] at HX
  clear y0
  replace s0 := eq_false s0
  go_enter Try.func18, Try.ntmps18
  go_upto_region 2 with (first
        | ((with_reducible refine gate_dst (N := 3) rfl ?_); refine box_event ?hg (N := 3) ?hd (cs := #[.slice A l.length c, .int .i64 m]) (t := 36) ?hr ?_; (case hd => rfl); (case hg => rfl); (case hr => first | (go_simp; done) | (go_simp; rfl)); intro g3 hg w3 hbox hb; have n0 := Aside0.mk (below_then HB.out HB.out.size hb); have n1 := Aside0.mk (hbox); have n2 := Aside0.mk ((by rw [hg]; exact HB.out.size : w.heap.size ≤ g3)); clear HB; have HB := n0; have B3 := n1; have G3 := n2; clear n0 n1 n2; clear hg hbox hb)
        | ((with_reducible refine gate_dst (N := 6) rfl ?_); refine box_event ?hg (N := 6) ?hd (cs := #[.slice none 0 0, .int .i64 0]) (t := 36) ?hr ?_; (case hd => rfl); (case hg => rfl); (case hr => first | (go_simp; done) | (go_simp; rfl)); intro g6 hg w4 hbox hb; have n0 := Aside0.mk (below_then HB.out HB.out.size hb); have n1 := Aside0.mk (blk_below B3.out hb); have n2 := Aside0.mk (hbox); have n3 := Aside0.mk ((by rw [hg]; exact HB.out.size : w.heap.size ≤ g6)); clear HB B3; have HB := n0; have B3 := n1; have B6 := n2; have G6 := n3; clear n0 n1 n2 n3; clear hg hbox hb; have hcg30 : w4.cell? ⟨g3, 0, none⟩ = some (.slice A l.length c) := (blk_cell B3.out 0).trans rfl; have hcg31 : w4.cell? ⟨g3, 1, none⟩ = some (.int .i64 m) := (blk_cell B3.out 1).trans rfl)
        | (go_at_call 25; refine (KC.out _ HB.out).mono ?_; rintro e_ w5 ⟨rfl, hb⟩; have n0 := Aside0.mk (below_then HB.out HB.out.size hb); have n1 := Aside0.mk (blk_below B3.out hb); have n2 := Aside0.mk (blk_below B6.out hb); clear HB B3 B6; have HB := n0; have B3 := n1; have B6 := n2; clear n0 n1 n2; clear hb; clear hcg30 hcg31; have hcg30 : w5.cell? ⟨g3, 0, none⟩ = some (.slice A l.length c) := (blk_cell B3.out 0).trans rfl; have hcg31 : w5.cell? ⟨g3, 1, none⟩ = some (.int .i64 m) := (blk_cell B3.out 1).trans rfl; have hcg60 : w5.cell? ⟨g6, 0, none⟩ = some (.slice none 0 0) := (blk_cell B6.out 0).trans rfl; have hcg61 : w5.cell? ⟨g6, 1, none⟩ = some (.int .i64 0) := (blk_cell B6.out 1).trans rfl; have hfg60 := blk_frozen B6.out 0; have hfg61 := blk_frozen B6.out 1; simp only [Hu.agg16, List.map_cons, List.map_nil])
        )
  have n0 := Aside0.mk (below_alloc HB.out (.cells #[Value.int IntKind.i64 x0, Value.int IntKind.i64 x1, Value.int IntKind.i64 x2, Value.int IntKind.i64 x3, Value.int IntKind.i64 x4, Value.int IntKind.i64 x5, Value.int IntKind.i64 x6, Value.int IntKind.i64 x7, Value.int IntKind.i64 x8, Value.int IntKind.i64 x9, Value.int IntKind.i64 x10, Value.int IntKind.i64 x11, Value.int IntKind.i64 x12, Value.int IntKind.i64 x13, Value.int IntKind.i64 x14, Value.int IntKind.i64 x15] 57 (0, 0)))
  have n1 := Aside0.mk (blk_alloc B3.out (.cells #[Value.int IntKind.i64 x0, Value.int IntKind.i64 x1, Value.int IntKind.i64 x2, Value.int IntKind.i64 x3, Value.int IntKind.i64 x4, Value.int IntKind.i64 x5, Value.int IntKind.i64 x6, Value.int IntKind.i64 x7, Value.int IntKind.i64 x8, Value.int IntKind.i64 x9, Value.int IntKind.i64 x10, Value.int IntKind.i64 x11, Value.int IntKind.i64 x12, Value.int IntKind.i64 x13, Value.int IntKind.i64 x14, Value.int IntKind.i64 x15] 57 (0, 0)))
  have n2 := Aside0.mk (blk_alloc B6.out (.cells #[Value.int IntKind.i64 x0, Value.int IntKind.i64 x1, Value.int IntKind.i64 x2, Value.int IntKind.i64 x3, Value.int IntKind.i64 x4, Value.int IntKind.i64 x5, Value.int IntKind.i64 x6, Value.int IntKind.i64 x7, Value.int IntKind.i64 x8, Value.int IntKind.i64 x9, Value.int IntKind.i64 x10, Value.int IntKind.i64 x11, Value.int IntKind.i64 x12, Value.int IntKind.i64 x13, Value.int IntKind.i64 x14, Value.int IntKind.i64 x15] 57 (0, 0)))
  clear HB B3 B6
  have HB := n0
  have B3 := n1
  have B6 := n2
  clear n0 n1 n2
  generalize (w5.alloc (.cells #[Value.int IntKind.i64 x0, Value.int IntKind.i64 x1, Value.int IntKind.i64 x2, Value.int IntKind.i64 x3, Value.int IntKind.i64 x4, Value.int IntKind.i64 x5, Value.int IntKind.i64 x6, Value.int IntKind.i64 x7, Value.int IntKind.i64 x8, Value.int IntKind.i64 x9, Value.int IntKind.i64 x10, Value.int IntKind.i64 x11, Value.int IntKind.i64 x12, Value.int IntKind.i64 x13, Value.int IntKind.i64 x14, Value.int IntKind.i64 x15] 57 (0, 0))) = wa at HB B3 B6 ⊢
  generalize (Value.agg #[Value.int IntKind.i64 x0, Value.int IntKind.i64 x1, Value.int IntKind.i64 x2, Value.int IntKind.i64 x3, Value.int IntKind.i64 x4, Value.int IntKind.i64 x5, Value.int IntKind.i64 x6, Value.int IntKind.i64 x7, Value.int IntKind.i64 x8, Value.int IntKind.i64 x9, Value.int IntKind.i64 x10, Value.int IntKind.i64 x11, Value.int IntKind.i64 x12, Value.int IntKind.i64 x13, Value.int IntKind.i64 x14, Value.int IntKind.i64 x15]) = vagg
  clear hcg30 hcg31 hcg60 hcg61
  clear hfg60 hfg61
  have hcg30 : wa.cell? ⟨g3, 0, none⟩ = some (.slice A l.length c) := (blk_cell B3.out 0).trans rfl
  have hcg31 : wa.cell? ⟨g3, 1, none⟩ = some (.int .i64 m) := (blk_cell B3.out 1).trans rfl
  have hcg60 : wa.cell? ⟨g6, 0, none⟩ = some (.slice none 0 0) := (blk_cell B6.out 0).trans rfl
  have hcg61 : wa.cell? ⟨g6, 1, none⟩ = some (.int .i64 0) := (blk_cell B6.out 1).trans rfl
  have hfg60 := blk_frozen B6.out 0
  have hfg61 := blk_frozen B6.out 1
  go_wp2_with (first
        | (go_at_call 30; refine (bits_Check.calls k A c l m 0 _ (Kd.C_below HR.out HB.out) HC.out HE.out).mono ?_; rintro e_ w6 ⟨rfl, hb⟩; have n0 := Aside0.mk (below_then HB.out HB.out.size hb); have n1 := Aside0.mk (blk_below B3.out hb); have n2 := Aside0.mk (blk_below B6.out hb); clear HB B3 B6; have HB := n0; have B3 := n1; have B6 := n2; clear n0 n1 n2; clear hb; clear hcg30 hcg31 hcg60 hcg61; clear hfg60 hfg61; have hcg30 : w6.cell? ⟨g3, 0, none⟩ = some (.slice A l.length c) := (blk_cell B3.out 0).trans rfl; have hcg31 : w6.cell? ⟨g3, 1, none⟩ = some (.int .i64 m) := (blk_cell B3.out 1).trans rfl; have hcg60 : w6.cell? ⟨g6, 0, none⟩ = some (.slice none 0 0) := (blk_cell B6.out 0).trans rfl; have hcg61 : w6.cell? ⟨g6, 1, none⟩ = some (.int .i64 0) := (blk_cell B6.out 1).trans rfl; have hfg60 := blk_frozen B6.out 0; have hfg61 := blk_frozen B6.out 1)
        | (go_at_call 11; refine (KD.out _ HB.out).mono ?_; rintro e_ w7 ⟨vc, rfl, ho, hb⟩; have n0 := Aside0.mk (below_then HB.out HB.out.size hb); have n1 := Aside0.mk (blk_below B3.out hb); have n2 := Aside0.mk (blk_below B6.out hb); have n3 := Aside0.mk (Kd.R_lower ho HB.out.size); clear HB B3 B6; have HB := n0; have B3 := n1; have B6 := n2; have HO := n3; clear n0 n1 n2 n3; clear hb; clear ho; clear hcg30 hcg31 hcg60 hcg61; clear hfg60 hfg61; have hcg30 : w7.cell? ⟨g3, 0, none⟩ = some (.slice A l.length c) := (blk_cell B3.out 0).trans rfl; have hcg31 : w7.cell? ⟨g3, 1, none⟩ = some (.int .i64 m) := (blk_cell B3.out 1).trans rfl; have hcg60 : w7.cell? ⟨g6, 0, none⟩ = some (.slice none 0 0) := (blk_cell B6.out 0).trans rfl; have hcg61 : w7.cell? ⟨g6, 1, none⟩ = some (.int .i64 0) := (blk_cell B6.out 1).trans rfl; have hfg60 := blk_frozen B6.out 0; have hfg61 := blk_frozen B6.out 1; have hxc := pw_cell_below HB.out HX.out)
        )
  refine bodyPost_ret (results_ct rfl _ _ g6 36 #[.slice none 0 0, .int .i64 0] (0, 0) _ rfl (by (with_reducible repeat (first | refine blk_drewN ?_ _ | refine blk_drew ?_ | refine blk_alloc ?_ _)); refine blk_put (cs := #[.slice none 0 0, .int .i64 0]) ?_ 1 _ rfl; (with_reducible repeat (first | refine blk_drewN ?_ _ | refine blk_drew ?_ | refine blk_alloc ?_ _)); refine blk_put (cs := #[.slice none 0 0, .int .i64 0]) ?_ 0 _ rfl; (with_reducible repeat (first | refine blk_drewN ?_ _ | refine blk_drew ?_ | refine blk_alloc ?_ _)); exact B6.out) Try.underlying36 rfl (by kernel_rfl)) rfl ?_
  exact ⟨_, rfl, Kd.R_nil _ _ _ _ _, by repeat (first | (with_reducible first | exact HB.out | apply below_alloc | apply pw_below_drewN | apply below_drew1 | refine below_set ?_ G6.out) | exact HB.out)⟩
end
section
attribute [local go_sem] Oper.semAt_some
set_option maxHeartbeats 4000000 in
set_option maxRecDepth 100000 in
theorem huff_Put.c7 (k : Nat) (A : Option Addr) (c : Nat) (l : List Int) (m : Int) (A1 : Option Addr) (c1 : Nat) (zs : List Int) (sym : Int) (w : World) (hr : Kd.C (Kd.int .u8) w A l.length l) (hc : l.length ≤ c) (hr1 : Kd.C (Kd.int .i64) w A1 zs.length zs) (hok : (Hu.countedS zs).2 = true) (he : bits_Check.f k l m = some 0) (s0 : ¬ sym < 0) (s1 : ¬ (zs.length : Int) ≤ sym) (hec : (Hu.codesS zs).2 = 0) (y0 : ¬ rd zs sym = 0) (hsl : sym < ((Hu.codesS zs).1.length : Int)) (v vv : Int) (ht : bits_Turn.f k (rd (Hu.codesS zs).1 sym) (rd zs sym) = some (v, vv)) (r1 : List Int) (r2 r3 : Int) (hp : bits_Put.f k l m v (rd zs sym) = some (r1, r2, r3)) :
    Calls Try.prog 18 #[.agg #[.slice A l.length c, .int .i64 m], .slice A1 zs.length c1, .int .i64 sym] w fun e w' => ∃ v0_ : Value, e = .returned (.tuple #[.agg #[v0_, .int .i64 r2], .int .i64 r3]) ∧ Kd.R (Kd.int .u8) 5 w' w.heap.size (fun _ => True) v0_ r1 ∧ Below w.heap.size w w' := by
  have HR := Aside0.mk hr
  have HC := Aside0.mk hc
  have HR1 := Aside0.mk hr1
  have HB := Aside0.mk (Below.refl w.heap.size w)
  have KC := Aside0.mk (fun (w' : World) (hb : Below w.heap.size w w') => Hu.huff_counted.calls A1 c1 zs w' (Kd.C_below hr1 hb))
  have KD := Aside0.mk (fun (w' : World) (hb : Below w.heap.size w w') => Hu.huff_Codes_in A1 c1 zs w' (Kd.C_below hr1 hb))
  unfold Hu.CountedPost at KC
  have hlen := Hu.countedS_len zs
  obtain ⟨cs, hcs⟩ : ∃ cs, Hu.countedS zs = cs := ⟨_, rfl⟩
  rw [hcs] at hlen KC hok
  clear hcs hr hc hr1
  obtain ⟨cl, ok⟩ := cs
  dsimp only at hlen KC hok
  subst hok
  obtain ⟨x0, cl, rfl⟩ := List.exists_cons_of_length_pos (l := cl) (by omega)
  obtain ⟨x1, cl, rfl⟩ := List.exists_cons_of_length_pos (l := cl) (by simp only [List.length_cons] at hlen; omega)
  obtain ⟨x2, cl, rfl⟩ := List.exists_cons_of_length_pos (l := cl) (by simp only [List.length_cons] at hlen; omega)
  obtain ⟨x3, cl, rfl⟩ := List.exists_cons_of_length_pos (l := cl) (by simp only [List.length_cons] at hlen; omega)
  obtain ⟨x4, cl, rfl⟩ := List.exists_cons_of_length_pos (l := cl) (by simp only [List.length_cons] at hlen; omega)
  obtain ⟨x5, cl, rfl⟩ := List.exists_cons_of_length_pos (l := cl) (by simp only [List.length_cons] at hlen; omega)
  obtain ⟨x6, cl, rfl⟩ := List.exists_cons_of_length_pos (l := cl) (by simp only [List.length_cons] at hlen; omega)
  obtain ⟨x7, cl, rfl⟩ := List.exists_cons_of_length_pos (l := cl) (by simp only [List.length_cons] at hlen; omega)
  obtain ⟨x8, cl, rfl⟩ := List.exists_cons_of_length_pos (l := cl) (by simp only [List.length_cons] at hlen; omega)
  obtain ⟨x9, cl, rfl⟩ := List.exists_cons_of_length_pos (l := cl) (by simp only [List.length_cons] at hlen; omega)
  obtain ⟨x10, cl, rfl⟩ := List.exists_cons_of_length_pos (l := cl) (by simp only [List.length_cons] at hlen; omega)
  obtain ⟨x11, cl, rfl⟩ := List.exists_cons_of_length_pos (l := cl) (by simp only [List.length_cons] at hlen; omega)
  obtain ⟨x12, cl, rfl⟩ := List.exists_cons_of_length_pos (l := cl) (by simp only [List.length_cons] at hlen; omega)
  obtain ⟨x13, cl, rfl⟩ := List.exists_cons_of_length_pos (l := cl) (by simp only [List.length_cons] at hlen; omega)
  obtain ⟨x14, cl, rfl⟩ := List.exists_cons_of_length_pos (l := cl) (by simp only [List.length_cons] at hlen; omega)
  obtain ⟨x15, cl, rfl⟩ := List.exists_cons_of_length_pos (l := cl) (by simp only [List.length_cons] at hlen; omega)
  obtain rfl : cl = [] := List.eq_nil_of_length_eq_zero (by simp only [List.length_cons] at hlen; omega)
  clear hlen
  have HE := Aside0.mk he
  clear he
  have s0b : decide (sym < 0) = false := decide_eq_false s0
  have s1b : decide ((zs.length : Int) ≤ sym) = false := decide_eq_false s1
  have s1c := eq_false s1
  obtain ⟨cd, hcd⟩ : ∃ cd, Hu.codesS zs = cd := ⟨_, rfl⟩
  rw [hcd] at hec KD ht hsl
  clear hcd
  obtain ⟨co, ec⟩ := cd
  dsimp only at hec KD ht hsl
  subst hec
  obtain ⟨ad, rfl, hx⟩ := Kd.at_int HR1.out sym (by omega) (by omega)
  obtain ⟨sn, rfl⟩ : ∃ sn : Nat, sym = (sn : Int) := ⟨sym.toNat, by omega⟩
  rw [Int.toNat_natCast] at hx
  have s2 := eq_true (show (0 : Int) ≤ (sn : Int) by omega)
  have s3 := eq_true (show (sn : Int) < (zs.length : Int) by omega)
  have s4 := eq_true (show sn < zs.length by omega)
  have s5 := eq_false (show ¬ zs.length ≤ sn by omega)
  have HX := Aside0.mk hx
  clear hx
  obtain ⟨y, hy⟩ : ∃ y, rd zs (sn : Int) = y := ⟨_, rfl⟩
  rw [hy] at HX y0 ht hp
  clear hy
  have y0b : (y == 0) = false := beq_eq_false_iff_ne.mpr y0
  have y0c : (y != 0) = true := bne_iff_ne.mpr y0
  clear y0
  replace s0 := eq_false s0
  have HT := Aside0.mk ht
  have HP := Aside0.mk hp
  clear ht hp
  go_enter Try.func18, Try.ntmps18
  go_upto_region 2 with (first
        | ((with_reducible refine gate_dst (N := 3) rfl ?_); refine box_event ?hg (N := 3) ?hd (cs := #[.slice A l.length c, .int .i64 m]) (t := 36) ?hr ?_; (case hd => rfl); (case hg => rfl); (case hr => first | (go_simp; done) | (go_simp; rfl)); intro g3 hg w3 hbox hb; have n0 := Aside0.mk (below_then HB.out HB.out.size hb); have n1 := Aside0.mk (hbox); have n2 := Aside0.mk ((by rw [hg]; exact HB.out.size : w.heap.size ≤ g3)); clear HB; have HB := n0; have B3 := n1; have G3 := n2; clear n0 n1 n2; clear hg hbox hb)
        | ((with_reducible refine gate_dst (N := 6) rfl ?_); refine box_event ?hg (N := 6) ?hd (cs := #[.slice none 0 0, .int .i64 0]) (t := 36) ?hr ?_; (case hd => rfl); (case hg => rfl); (case hr => first | (go_simp; done) | (go_simp; rfl)); intro g6 hg w4 hbox hb; have n0 := Aside0.mk (below_then HB.out HB.out.size hb); have n1 := Aside0.mk (blk_below B3.out hb); have n2 := Aside0.mk (hbox); have n3 := Aside0.mk ((by rw [hg]; exact HB.out.size : w.heap.size ≤ g6)); clear HB B3; have HB := n0; have B3 := n1; have B6 := n2; have G6 := n3; clear n0 n1 n2 n3; clear hg hbox hb; have hcg30 : w4.cell? ⟨g3, 0, none⟩ = some (.slice A l.length c) := (blk_cell B3.out 0).trans rfl; have hcg31 : w4.cell? ⟨g3, 1, none⟩ = some (.int .i64 m) := (blk_cell B3.out 1).trans rfl)
        | (go_at_call 25; refine (KC.out _ HB.out).mono ?_; rintro e_ w5 ⟨rfl, hb⟩; have n0 := Aside0.mk (below_then HB.out HB.out.size hb); have n1 := Aside0.mk (blk_below B3.out hb); have n2 := Aside0.mk (blk_below B6.out hb); clear HB B3 B6; have HB := n0; have B3 := n1; have B6 := n2; clear n0 n1 n2; clear hb; clear hcg30 hcg31; have hcg30 : w5.cell? ⟨g3, 0, none⟩ = some (.slice A l.length c) := (blk_cell B3.out 0).trans rfl; have hcg31 : w5.cell? ⟨g3, 1, none⟩ = some (.int .i64 m) := (blk_cell B3.out 1).trans rfl; have hcg60 : w5.cell? ⟨g6, 0, none⟩ = some (.slice none 0 0) := (blk_cell B6.out 0).trans rfl; have hcg61 : w5.cell? ⟨g6, 1, none⟩ = some (.int .i64 0) := (blk_cell B6.out 1).trans rfl; have hfg60 := blk_frozen B6.out 0; have hfg61 := blk_frozen B6.out 1; simp only [Hu.agg16, List.map_cons, List.map_nil])
        )
  have n0 := Aside0.mk (below_alloc HB.out (.cells #[Value.int IntKind.i64 x0, Value.int IntKind.i64 x1, Value.int IntKind.i64 x2, Value.int IntKind.i64 x3, Value.int IntKind.i64 x4, Value.int IntKind.i64 x5, Value.int IntKind.i64 x6, Value.int IntKind.i64 x7, Value.int IntKind.i64 x8, Value.int IntKind.i64 x9, Value.int IntKind.i64 x10, Value.int IntKind.i64 x11, Value.int IntKind.i64 x12, Value.int IntKind.i64 x13, Value.int IntKind.i64 x14, Value.int IntKind.i64 x15] 57 (0, 0)))
  have n1 := Aside0.mk (blk_alloc B3.out (.cells #[Value.int IntKind.i64 x0, Value.int IntKind.i64 x1, Value.int IntKind.i64 x2, Value.int IntKind.i64 x3, Value.int IntKind.i64 x4, Value.int IntKind.i64 x5, Value.int IntKind.i64 x6, Value.int IntKind.i64 x7, Value.int IntKind.i64 x8, Value.int IntKind.i64 x9, Value.int IntKind.i64 x10, Value.int IntKind.i64 x11, Value.int IntKind.i64 x12, Value.int IntKind.i64 x13, Value.int IntKind.i64 x14, Value.int IntKind.i64 x15] 57 (0, 0)))
  have n2 := Aside0.mk (blk_alloc B6.out (.cells #[Value.int IntKind.i64 x0, Value.int IntKind.i64 x1, Value.int IntKind.i64 x2, Value.int IntKind.i64 x3, Value.int IntKind.i64 x4, Value.int IntKind.i64 x5, Value.int IntKind.i64 x6, Value.int IntKind.i64 x7, Value.int IntKind.i64 x8, Value.int IntKind.i64 x9, Value.int IntKind.i64 x10, Value.int IntKind.i64 x11, Value.int IntKind.i64 x12, Value.int IntKind.i64 x13, Value.int IntKind.i64 x14, Value.int IntKind.i64 x15] 57 (0, 0)))
  clear HB B3 B6
  have HB := n0
  have B3 := n1
  have B6 := n2
  clear n0 n1 n2
  generalize (w5.alloc (.cells #[Value.int IntKind.i64 x0, Value.int IntKind.i64 x1, Value.int IntKind.i64 x2, Value.int IntKind.i64 x3, Value.int IntKind.i64 x4, Value.int IntKind.i64 x5, Value.int IntKind.i64 x6, Value.int IntKind.i64 x7, Value.int IntKind.i64 x8, Value.int IntKind.i64 x9, Value.int IntKind.i64 x10, Value.int IntKind.i64 x11, Value.int IntKind.i64 x12, Value.int IntKind.i64 x13, Value.int IntKind.i64 x14, Value.int IntKind.i64 x15] 57 (0, 0))) = wa at HB B3 B6 ⊢
  generalize (Value.agg #[Value.int IntKind.i64 x0, Value.int IntKind.i64 x1, Value.int IntKind.i64 x2, Value.int IntKind.i64 x3, Value.int IntKind.i64 x4, Value.int IntKind.i64 x5, Value.int IntKind.i64 x6, Value.int IntKind.i64 x7, Value.int IntKind.i64 x8, Value.int IntKind.i64 x9, Value.int IntKind.i64 x10, Value.int IntKind.i64 x11, Value.int IntKind.i64 x12, Value.int IntKind.i64 x13, Value.int IntKind.i64 x14, Value.int IntKind.i64 x15]) = vagg
  clear hcg30 hcg31 hcg60 hcg61
  clear hfg60 hfg61
  have hcg30 : wa.cell? ⟨g3, 0, none⟩ = some (.slice A l.length c) := (blk_cell B3.out 0).trans rfl
  have hcg31 : wa.cell? ⟨g3, 1, none⟩ = some (.int .i64 m) := (blk_cell B3.out 1).trans rfl
  have hcg60 : wa.cell? ⟨g6, 0, none⟩ = some (.slice none 0 0) := (blk_cell B6.out 0).trans rfl
  have hcg61 : wa.cell? ⟨g6, 1, none⟩ = some (.int .i64 0) := (blk_cell B6.out 1).trans rfl
  have hfg60 := blk_frozen B6.out 0
  have hfg61 := blk_frozen B6.out 1
  go_upto_region 9 with (first
        | (go_at_call 30; refine (bits_Check.calls k A c l m 0 _ (Kd.C_below HR.out HB.out) HC.out HE.out).mono ?_; rintro e_ w6 ⟨rfl, hb⟩; have n0 := Aside0.mk (below_then HB.out HB.out.size hb); have n1 := Aside0.mk (blk_below B3.out hb); have n2 := Aside0.mk (blk_below B6.out hb); clear HB B3 B6; have HB := n0; have B3 := n1; have B6 := n2; clear n0 n1 n2; clear hb; clear hcg30 hcg31 hcg60 hcg61; clear hfg60 hfg61; have hcg30 : w6.cell? ⟨g3, 0, none⟩ = some (.slice A l.length c) := (blk_cell B3.out 0).trans rfl; have hcg31 : w6.cell? ⟨g3, 1, none⟩ = some (.int .i64 m) := (blk_cell B3.out 1).trans rfl; have hcg60 : w6.cell? ⟨g6, 0, none⟩ = some (.slice none 0 0) := (blk_cell B6.out 0).trans rfl; have hcg61 : w6.cell? ⟨g6, 1, none⟩ = some (.int .i64 0) := (blk_cell B6.out 1).trans rfl; have hfg60 := blk_frozen B6.out 0; have hfg61 := blk_frozen B6.out 1)
        | (go_at_call 11; refine (KD.out _ HB.out).mono ?_; rintro e_ w7 ⟨vc, rfl, ho, hb⟩; have n0 := Aside0.mk (below_then HB.out HB.out.size hb); have n1 := Aside0.mk (blk_below B3.out hb); have n2 := Aside0.mk (blk_below B6.out hb); have n3 := Aside0.mk (Kd.R_lower ho HB.out.size); clear HB B3 B6; have HB := n0; have B3 := n1; have B6 := n2; have HO := n3; clear n0 n1 n2 n3; clear hb; clear ho; clear hcg30 hcg31 hcg60 hcg61; clear hfg60 hfg61; have hcg30 : w7.cell? ⟨g3, 0, none⟩ = some (.slice A l.length c) := (blk_cell B3.out 0).trans rfl; have hcg31 : w7.cell? ⟨g3, 1, none⟩ = some (.int .i64 m) := (blk_cell B3.out 1).trans rfl; have hcg60 : w7.cell? ⟨g6, 0, none⟩ = some (.slice none 0 0) := (blk_cell B6.out 0).trans rfl; have hcg61 : w7.cell? ⟨g6, 1, none⟩ = some (.int .i64 0) := (blk_cell B6.out 1).trans rfl; have hfg60 := blk_frozen B6.out 0; have hfg61 := blk_frozen B6.out 1; have hxc := pw_cell_below HB.out HX.out)
        )
  obtain ⟨go, cco, eo, ggo, glo, clo, hgo⟩ := Kd.R_form HO.out (by omega)
  subst eo
  have hx0 : w7.cell? ⟨go, sn, none⟩ = some (.int .i64 (rd co (sn : Int))) := (Kd.R_celln 0 HO.out (sn : Int) (by omega) hsl).1
  have s6 := eq_true hsl
  have s7 := eq_true (show sn < co.length by omega)
  clear hsl hgo clo
  refine start_ (n := 14) (S := fun w' => w'.cell? ⟨go, sn, none⟩ = some (.int .i64 (rd co (sn : Int))) ∧ w'.cell? (ad.add sn) = some (.int .i64 y)) (ds := []) #[false, false, false, false, false, false, false, false, false, false, false, false, false, false] (by kernel_rfl) rfl rfl ⟨hx0, hxc⟩ (fun hHeld => ?_)
  refine pure_ (i := 0) (N := some 55) (v := ?_) (a' := ?_) #[true, false, false, false, false, false, false, false, false, false, false, false, false, false] rfl rfl (by kernel_rfl) (fun _ _ _ h => h) (Or.inl ⟨by rfl, ?_⟩) ?_ ?_
  rotate_left
  · intro w'
    go_simp
    with_reducible rfl
  rotate_left
  · simp only [Act.put, List.setIfInBounds_toArray, List.set_cons_zero, List.set_cons_succ, i64_w, i32_w, u8_w]
    rfl
  refine pure_ (i := 1) (N := some 56) (v := ?_) (a' := ?_) #[true, true, false, false, false, false, false, false, false, false, false, false, false, false] rfl rfl (by kernel_rfl) (fun _ _ _ h => h) (Or.inl ⟨by rfl, ?_⟩) ?_ ?_
  rotate_left
  · intro w'
    go_simp
    with_reducible rfl
  rotate_left
  · simp only [Act.put, List.setIfInBounds_toArray, List.set_cons_zero, List.set_cons_succ, i64_w, i32_w, u8_w]
    rfl
  refine pure_ (i := 2) (N := some 57) (v := ?_) (a' := ?_) #[true, true, true, false, false, false, false, false, false, false, false, false, false, false] rfl rfl (by kernel_rfl) (fun _ _ _ h => h) (Or.inl ⟨by rfl, ?_⟩) ?_ ?_
  rotate_left
  · intro w'
    go_simp
    with_reducible rfl
  rotate_left
  · simp only [Act.put, List.setIfInBounds_toArray, List.set_cons_zero, List.set_cons_succ, i64_w, i32_w, u8_w]
    rfl
  refine pure_ (i := 4) (N := some 59) (v := ?_) (a' := ?_) #[true, true, true, false, true, false, false, false, false, false, false, false, false, false] rfl rfl (by kernel_rfl) (fun _ _ _ h => h) (Or.inl ⟨by rfl, ?_⟩) ?_ ?_
  rotate_left
  · intro w'
    go_simp
    with_reducible rfl
  rotate_left
  · simp only [Act.put, List.setIfInBounds_toArray, List.set_cons_zero, List.set_cons_succ, i64_w, i32_w, u8_w]
    rfl
  refine pure_ (i := 5) (N := some 60) (v := ?_) (a' := ?_) #[true, true, true, false, true, true, false, false, false, false, false, false, false, false] rfl rfl (by kernel_rfl) (fun _ _ _ h => h) (Or.inl ⟨by rfl, ?_⟩) ?_ ?_
  rotate_left
  · intro w'
    go_simp
    with_reducible rfl
  rotate_left
  · simp only [Act.put, List.setIfInBounds_toArray, List.set_cons_zero, List.set_cons_succ, i64_w, i32_w, u8_w]
    rfl
  refine pure_ (i := 6) (N := some 61) (v := ?_) (a' := ?_) #[true, true, true, false, true, true, true, false, false, false, false, false, false, false] rfl rfl (by kernel_rfl) (fun _ _ _ h => h) (Or.inl ⟨by rfl, ?_⟩) ?_ ?_
  rotate_left
  · intro w'
    go_simp
    with_reducible rfl
  rotate_left
  · simp only [Act.put, List.setIfInBounds_toArray, List.set_cons_zero, List.set_cons_succ, i64_w, i32_w, u8_w]
    rfl
  refine take_ (i := 3) (N := some 58) (v := ?_) (a' := ?_) #[true, true, true, true, true, true, true, false, false, false, false, false, false, false] rfl rfl (by kernel_rfl) (fun _ _ _ h => h) (Or.inl ⟨by rfl, ?_⟩) hHeld ?_ ?_
  rotate_left
  · rintro w' ⟨s0, s1⟩
    go_simp
    with_reducible rfl
  rotate_left
  · simp only [Act.put, List.setIfInBounds_toArray, List.set_cons_zero, List.set_cons_succ, i64_w, i32_w, u8_w]
    rfl
  refine take_ (i := 7) (N := some 62) (v := ?_) (a' := ?_) #[true, true, true, true, true, true, true, true, false, false, false, false, false, false] rfl rfl (by kernel_rfl) (fun _ _ _ h => h) (Or.inl ⟨by rfl, ?_⟩) hHeld ?_ ?_
  rotate_left
  · rintro w' ⟨s0, s1⟩
    go_simp
    with_reducible rfl
  rotate_left
  · simp only [Act.put, List.setIfInBounds_toArray, List.set_cons_zero, List.set_cons_succ, i64_w, i32_w, u8_w]
    rfl
  refine one_ (i := 8) (N := some 63) #[true, true, true, true, true, true, true, true, true, false, false, false, false, false] rfl rfl (by kernel_rfl) (by decide) (fun K hK => ?_)
  refine goes_ Try.func31 (by kernel_rfl) rfl #[.int .i64 (rd co (sn : Int)), .int .i64 y] (by rfl) rfl rfl (by simp only [List.map_toArray, List.map_cons, List.map_nil]; rfl) ?_
  with_reducible refine (bits_Turn.calls k (rd co (sn : Int)) y v vv _ HT.out).mono ?_
  rintro e w8 ⟨rfl, hd⟩
  refine ⟨_, rfl, ?_⟩
  obtain ⟨nd, rfl⟩ := hd.out
  clear hd
  refine hK.out _ _ ⟨hx0, hxc⟩ (fun hHeld => ?_)
  clear hK K
  refine norm_ (a' := ?_) ?_ ?_
  rotate_left
  · show Act.put _ (some 63) _ = _
    simp only [Act.put, List.setIfInBounds_toArray, List.set_cons_zero, List.set_cons_succ, i64_w, i32_w, u8_w]
    rfl
  refine pure_ (i := 9) (N := some 54) (v := ?_) (a' := ?_) #[true, true, true, true, true, true, true, true, true, true, false, false, false, false] rfl rfl (by kernel_rfl) (fun _ _ _ h => h) (Or.inl ⟨by rfl, ?_⟩) ?_ ?_
  rotate_left
  · intro w'
    go_simp
    with_reducible rfl
  rotate_left
  · simp only [Act.put, List.setIfInBounds_toArray, List.set_cons_zero, List.set_cons_succ, i64_w, i32_w, u8_w]
    rfl
  refine pure_ (i := 10) (N := some 64) (v := ?_) (a' := ?_) #[true, true, true, true, true, true, true, true, true, true, true, false, false, false] rfl rfl (by kernel_rfl) (fun _ _ _ h => h) (Or.inl ⟨by rfl, ?_⟩) ?_ ?_
  rotate_left
  · intro w'
    go_simp
    with_reducible rfl
  rotate_left
  · simp only [Act.put, List.setIfInBounds_toArray, List.set_cons_zero, List.set_cons_succ, i64_w, i32_w, u8_w]
    rfl
  refine pure_ (i := 11) (N := some 65) (v := ?_) (a' := ?_) #[true, true, true, true, true, true, true, true, true, true, true, true, false, false] rfl rfl (by kernel_rfl) (fun _ _ _ h => h) (Or.inl ⟨by rfl, ?_⟩) ?_ ?_
  rotate_left
  · intro w'
    go_simp
    with_reducible rfl
  rotate_left
  · simp only [Act.put, List.setIfInBounds_toArray, List.set_cons_zero, List.set_cons_succ, i64_w, i32_w, u8_w]
    rfl
  refine pure_ (i := 12) (N := some 12) (v := ?_) (a' := ?_) #[true, true, true, true, true, true, true, true, true, true, true, true, true, false] rfl rfl (by kernel_rfl) (fun _ _ _ h => h) (Or.inl ⟨by rfl, ?_⟩) ?_ ?_
  rotate_left
  · intro w'
    go_simp
    with_reducible rfl
  rotate_left
  · simp only [Act.put, List.setIfInBounds_toArray, List.set_cons_zero, List.set_cons_succ, i64_w, i32_w, u8_w]
    rfl
  refine pure_ (i := 13) (N := some 13) (v := ?_) (a' := ?_) #[true, true, true, true, true, true, true, true, true, true, true, true, true, true] rfl rfl (by kernel_rfl) (fun _ _ _ h => h) (Or.inl ⟨by rfl, ?_⟩) ?_ ?_
  rotate_left
  · intro w'
    go_simp
    with_reducible rfl
  rotate_left
  · simp only [Act.put, List.setIfInBounds_toArray, List.set_cons_zero, List.set_cons_succ, i64_w, i32_w, u8_w]
    rfl
  refine done_ (by kernel_rfl) ?_
  go_upto_region 10 with fail
  have HXC := Aside0.mk (show ((w7.drew.drewN nd).drew).cell? (ad.add sn) = some (.int .i64 y) from hxc)
  have n0 := Aside0.mk (below_drew1 (pw_below_drewN (below_drew1 HB.out) nd))
  have n1 := Aside0.mk (blk_drew (blk_drewN (blk_drew B3.out) nd))
  have n2 := Aside0.mk (blk_drew (blk_drewN (blk_drew B6.out) nd))
  clear HB B3 B6
  have HB := n0
  have B3 := n1
  have B6 := n2
  clear n0 n1 n2
  clear hx0 hxc hcg30 hcg31 hcg60 hcg61 hfg60 hfg61
  refine start_ (n := 11) (S := fun w' => w'.cell? ⟨g3, 0, none⟩ = some (.slice A l.length c) ∧ w'.cell? ⟨g3, 1, none⟩ = some (.int .i64 m) ∧ w'.cell? (ad.add sn) = some (.int .i64 y)) (ds := [6, 9]) #[false, false, false, false, false, false, false, false, false, false, false] (by kernel_rfl) rfl rfl ⟨(blk_cell B3.out 0).trans rfl, (blk_cell B3.out 1).trans rfl, HXC.out⟩ (fun hHeld => ?_)
  generalize (w7.drew.drewN nd).drew = wd at HB B3 B6 HXC hHeld ⊢
  refine pure_ (i := 1) (N := some 67) (v := ?_) (a' := ?_) #[false, true, false, false, false, false, false, false, false, false, false] rfl rfl (by kernel_rfl) (fun _ _ _ h => h) (Or.inl ⟨by rfl, ?_⟩) ?_ ?_
  rotate_left
  · intro w'
    go_simp
    with_reducible rfl
  rotate_left
  · simp only [Act.put, List.setIfInBounds_toArray, List.set_cons_zero, List.set_cons_succ, i64_w, i32_w, u8_w]
    rfl
  refine pure_ (i := 2) (N := some 68) (v := ?_) (a' := ?_) #[false, true, true, false, false, false, false, false, false, false, false] rfl rfl (by kernel_rfl) (fun _ _ _ h => h) (Or.inl ⟨by rfl, ?_⟩) ?_ ?_
  rotate_left
  · intro w'
    go_simp
    with_reducible rfl
  rotate_left
  · simp only [Act.put, List.setIfInBounds_toArray, List.set_cons_zero, List.set_cons_succ, i64_w, i32_w, u8_w]
    rfl
  refine pure_ (i := 3) (N := some 69) (v := ?_) (a' := ?_) #[false, true, true, true, false, false, false, false, false, false, false] rfl rfl (by kernel_rfl) (fun _ _ _ h => h) (Or.inl ⟨by rfl, ?_⟩) ?_ ?_
  rotate_left
  · intro w'
    go_simp
    with_reducible rfl
  rotate_left
  · simp only [Act.put, List.setIfInBounds_toArray, List.set_cons_zero, List.set_cons_succ, i64_w, i32_w, u8_w]
    rfl
  refine pure_ (i := 4) (N := some 70) (v := ?_) (a' := ?_) #[false, true, true, true, true, false, false, false, false, false, false] rfl rfl (by kernel_rfl) (fun _ _ _ h => h) (Or.inl ⟨by rfl, ?_⟩) ?_ ?_
  rotate_left
  · intro w'
    go_simp
    with_reducible rfl
  rotate_left
  · simp only [Act.put, List.setIfInBounds_toArray, List.set_cons_zero, List.set_cons_succ, i64_w, i32_w, u8_w]
    rfl
  refine take_ (i := 0) (N := some 66) (v := ?_) (a' := ?_) #[true, true, true, true, true, false, false, false, false, false, false] rfl rfl (by kernel_rfl) (fun _ _ _ h => h) (Or.inl ⟨by rfl, ?_⟩) hHeld ?_ ?_
  rotate_left
  · rintro w' ⟨s0, s1, s2⟩
    go_simp
    with_reducible rfl
  rotate_left
  · simp only [Act.put, List.setIfInBounds_toArray, List.set_cons_zero, List.set_cons_succ, i64_w, i32_w, u8_w]
    rfl
  refine take_ (i := 5) (N := some 71) (v := ?_) (a' := ?_) #[true, true, true, true, true, true, false, false, false, false, false] rfl rfl (by kernel_rfl) (fun _ _ _ h => h) (Or.inl ⟨by rfl, ?_⟩) hHeld ?_ ?_
  rotate_left
  · rintro w' ⟨s0, s1, s2⟩
    go_simp
    with_reducible rfl
  rotate_left
  · simp only [Act.put, List.setIfInBounds_toArray, List.set_cons_zero, List.set_cons_succ, i64_w, i32_w, u8_w]
    rfl
  refine last_ (i := 6) (N := some 72) #[true, true, true, true, true, true, true, false, false, false, false] rfl rfl (by kernel_rfl) (by decide) (fun K hK => ?_)
  refine goes_ Try.func32 (by kernel_rfl) rfl #[.agg #[.slice A l.length c, .int .i64 m], .int .i64 v, .int .i64 y] (by rfl) rfl rfl (by simp only [List.map_toArray, List.map_cons, List.map_nil]; rfl) ?_
  with_reducible refine (bits_Put.calls k A c l m v y r1 r2 r3 _ (Kd.C_below HR.out HB.out) HC.out HP.out).mono ?_
  rintro e w9 ⟨v0, rfl, ho9, hb⟩
  refine ⟨_, rfl, ?_⟩
  obtain ⟨A9, c9, ev⟩ := Kd.R_slice ho9
  subst ev
  have n0 := Aside0.mk (blk_below B6.out hb)
  have n1 := Aside0.mk (below_then HB.out HB.out.size hb)
  have n2 := Aside0.mk (Kd.R_lower ho9 HB.out.size)
  clear B6
  have B6 := n0
  have HB9 := n1
  have HO9 := n2
  clear n0 n1 n2
  clear ho9 hb
  refine hK.out _ _ ?_
  clear hK K
  refine norm_ (a' := ?_) ?_ ?_
  rotate_left
  · show Act.put _ (some 72) _ = _
    simp only [Act.put, List.setIfInBounds_toArray, List.set_cons_zero, List.set_cons_succ, i64_w, i32_w, u8_w]
    rfl
  refine pure_ (i := 7) (N := some 73) (v := ?_) (a' := ?_) #[true, true, true, true, true, true, true, true, false, false, false] rfl rfl (by kernel_rfl) (fun _ _ _ h => h) (Or.inl ⟨by rfl, ?_⟩) ?_ ?_
  rotate_left
  · intro w'
    go_simp
    with_reducible rfl
  rotate_left
  · simp only [Act.put, List.setIfInBounds_toArray, List.set_cons_zero, List.set_cons_succ, i64_w, i32_w, u8_w]
    rfl
  refine pure_ (i := 8) (N := some 74) (v := ?_) (a' := ?_) #[true, true, true, true, true, true, true, true, true, false, false] rfl rfl (by kernel_rfl) (fun _ _ _ h => h) (Or.inl ⟨by rfl, ?_⟩) ?_ ?_
  rotate_left
  · intro w'
    go_simp
    with_reducible rfl
  rotate_left
  · simp only [Act.put, List.setIfInBounds_toArray, List.set_cons_zero, List.set_cons_succ, i64_w, i32_w, u8_w]
    rfl
  refine last_ (i := 9) (N := none) #[true, true, true, true, true, true, true, true, true, true, false] rfl rfl (by kernel_rfl) (by decide) (fun K hK => ?_)
  have hz0 : w9.cell? ⟨g6, 0, none⟩ = some (.slice none 0 0) := (blk_cell B6.out 0).trans rfl
  have hz1 : w9.cell? ⟨g6, 1, none⟩ = some (.int .i64 0) := (blk_cell B6.out 1).trans rfl
  have hf0 := blk_frozen B6.out 0
  have hf1 := blk_frozen B6.out 1
  refine skip_ (w1 := ?_) (by rfl) rfl ?_ ?_
  rotate_left
  · go_simp
    rfl
  refine hK.out _ _ ?_
  clear hK K
  refine pure_ (i := 10) (N := some 7) (v := ?_) (a' := ?_) #[true, true, true, true, true, true, true, true, true, true, true] rfl rfl (by kernel_rfl) (fun _ _ _ h => h) (Or.inl ⟨by rfl, ?_⟩) ?_ ?_
  rotate_left
  · intro w'
    go_simp
    with_reducible rfl
  rotate_left
  · simp only [Act.put, List.setIfInBounds_toArray, List.set_cons_zero, List.set_cons_succ, i64_w, i32_w, u8_w]
    rfl
  refine done_ (by kernel_rfl) ?_
  go_wp2
  refine bodyPost_ret (results_ct rfl _ _ g6 36 #[.slice A9 r1.length c9, .int .i64 r2] (0, 0) _ rfl (by refine blk_put (cs := #[.slice A9 r1.length c9, .int .i64 0]) ?_ 1 _ rfl; refine blk_put (cs := #[.slice none 0 0, .int .i64 0]) ?_ 0 _ rfl; exact B6.out) Try.underlying36 rfl (by kernel_rfl)) rfl ?_
  exact ⟨_, rfl, Kd.R_mono (Kd.R_far (p := ⟨g6, 1, none⟩) (Kd.R_far (p := ⟨g6, 0, none⟩) (Kd.R_types HO9.out B6.out (by decide)) (fun _ hk => hk.2) _) (fun _ hk => hk.2) _) (fun _ hk => trivial), (HB9.out.setCell (p := ⟨g6, 0, none⟩) G6.out _).setCell (p := ⟨g6, 1, none⟩) G6.out _⟩
end

def huff_Put.f (k : Nat) (l : List Int) (m : Int) (zs : List Int) (sym : Int) : Option (List Int × Int × Int) :=
  if (Hu.countedS zs).2 = false then some ([], 0, 2) else (bits_Check.f k l m).bind fun e => if e = 0 then (if sym < 0 then some ([], 0, 2) else if (zs.length : Int) ≤ sym then some ([], 0, 2) else
    if (Hu.codesS zs).2 = 0 then (if rd zs sym = 0 then some ([], 0, 13) else if sym < ((Hu.codesS zs).1.length : Int) then (bits_Turn.f k (rd (Hu.codesS zs).1 sym) (rd zs sym)).bind fun t => bits_Put.f k l m t.1 (rd zs sym) else none) else some ([], 0, (Hu.codesS zs).2)) else some ([], 0, 2)
theorem huff_Put.mono : ∀ l m zs sym k, LeO (huff_Put.f k l m zs sym) (huff_Put.f (k + 1) l m zs sym) := by
  intro l m zs sym k
  unfold huff_Put.f
  exact LeO.ite (LeO.refl _) (LeO.bind (bits_Check.mono _ _ _) (fun e => LeO.ite (LeO.ite (LeO.refl _) (LeO.ite (LeO.refl _) (LeO.ite (LeO.ite (LeO.refl _) (LeO.ite (LeO.bind (bits_Turn.mono _ _ _) (fun t => bits_Put.mono _ _ _ _ _)) (LeO.refl _))) (LeO.refl _)))) (LeO.refl _)))
theorem huff_Put.calls (k : Nat) (A : Option Addr) (c : Nat) (l : List Int) (m : Int) (A1 : Option Addr) (c1 : Nat) (zs : List Int) (sym : Int) (r1 : List Int) (r2 r3 : Int) (w : World) (hr : Kd.C (Kd.int .u8) w A l.length l) (hc : l.length ≤ c) (hr1 : Kd.C (Kd.int .i64) w A1 zs.length zs) (hc1 : zs.length ≤ c1) (h : huff_Put.f k l m zs sym = some (r1, r2, r3)) :
    Calls Try.prog 18 #[.agg #[.slice A l.length c, .int .i64 m], .slice A1 zs.length c1, .int .i64 sym] w fun e w' => ∃ v0_ : Value, e = .returned (.tuple #[.agg #[v0_, .int .i64 r2], .int .i64 r3]) ∧ Kd.R (Kd.int .u8) 5 w' w.heap.size (fun _ => True) v0_ r1 ∧ Below w.heap.size w w' := by
  unfold huff_Put.f at h
  by_cases hok : (Hu.countedS zs).2 = false
  · rw [if_pos hok] at h
    injection h with h
    injection h with h1 h
    injection h with h2 h3
    subst h1 h2 h3
    exact huff_Put.c1 k A c l m A1 c1 zs sym w hr hc hr1 hok
  · rw [if_neg hok] at h
    have hok := eq_true_of_ne_false hok
    obtain ⟨e, he, h⟩ := Option.bind_eq_some_iff.mp h
    by_cases he0 : e = 0
    · rw [if_pos he0] at h
      subst he0
      by_cases s0 : sym < 0
      · rw [if_pos s0] at h
        injection h with h
        injection h with h1 h
        injection h with h2 h3
        subst h1 h2 h3
        exact huff_Put.c3 k A c l m A1 c1 zs sym w hr hc hr1 hok he s0
      · rw [if_neg s0] at h
        by_cases s1 : (zs.length : Int) ≤ sym
        · rw [if_pos s1] at h
          injection h with h
          injection h with h1 h
          injection h with h2 h3
          subst h1 h2 h3
          exact huff_Put.c4 k A c l m A1 c1 zs sym w hr hc hr1 hok he s0 s1
        · rw [if_neg s1] at h
          by_cases hec : (Hu.codesS zs).2 = 0
          · rw [if_pos hec] at h
            by_cases y0 : rd zs sym = 0
            · rw [if_pos y0] at h
              injection h with h
              injection h with h1 h
              injection h with h2 h3
              subst h1 h2 h3
              exact huff_Put.c6 k A c l m A1 c1 zs sym w hr hc hr1 hok he s0 s1 hec y0
            · rw [if_neg y0] at h
              by_cases hsl : sym < ((Hu.codesS zs).1.length : Int)
              · rw [if_pos hsl] at h
                obtain ⟨⟨v, vv⟩, ht, hp⟩ := Option.bind_eq_some_iff.mp h
                exact huff_Put.c7 k A c l m A1 c1 zs sym w hr hc hr1 hok he s0 s1 hec y0 hsl v vv ht r1 r2 r3 hp
              · rw [if_neg hsl] at h
                cases h
          · rw [if_neg hec] at h
            injection h with h
            injection h with h1 h
            injection h with h2 h3
            subst h1 h2 h3
            exact huff_Put.c5 k A c l m A1 c1 zs sym w hr hc hr1 hok he s0 s1 hec
    · rw [if_neg he0] at h
      injection h with h
      injection h with h1 h
      injection h with h2 h3
      subst h1 h2 h3
      exact huff_Put.c2 k A c l m A1 c1 zs sym w hr hc hr1 hok e he he0

end Go.Proofs.Ythcndpdfcippiaa.Pr

-- YthcndpdfcippiaaPr6
namespace Go.Proofs.Ythcndpdfcippiaa.Pr
open Go.RowKit Go.Proofs.YthcndpdfcippiaaW.PrintWords Go.Proofs.YthcndpdfcippiaaW.PrintLast Go.Proofs.YthcndpdfcippiaaW.PrintMore
attribute [local go_sem] max2_int min2_int max_two min_two max_three min_three max_four min_four   -- for this text's walks alone
set_option linter.unusedVariables false
set_option linter.unusedSimpArgs false

/-! ### valiseref04_Same: function 15 -/
def valiseref04_Same.l0 : Nat → List Int → List Int → Int → Option (Bool)
  | 0, _, _, _ => none
  | k + 1, x0, x1, x5 => if x5 < (x0.length : Int) then (if 0 ≤ x5 then (if x5 < (x1.length : Int) then (if (rd x0 x5) = (rd x1 x5) then (valiseref04_Same.l0 k x0 x1 (wrap64 (x5 + 1))) else (some false)) else (none)) else (none)) else (some true)
def valiseref04_Same.f (k : Nat) (l0 : List Int) (l1 : List Int) : Option (Bool) := if (l0.length : Int) = (l1.length : Int) then (valiseref04_Same.l0 k l0 l1 0) else (some false)
theorem valiseref04_Same.mono_l : ∀ k, (∀ y0 y1 y2, LeO (valiseref04_Same.l0 k y0 y1 y2) (valiseref04_Same.l0 (k + 1) y0 y1 y2))
  | 0 => fun _ _ _ r h => by simp [valiseref04_Same.l0] at h
  | k + 1 => by
    have ih0 := valiseref04_Same.mono_l k
    · intro y0 y1 y2
      unfold valiseref04_Same.l0
      repeat' first
      | (with_reducible exact ih0 _ _ _)
      | (with_reducible exact LeO.refl _)
      | (with_reducible exact LeO.none _)
      | (with_reducible refine LeO.ite ?_ ?_)
      | (with_reducible refine LeO.bind ?_ (fun _ => ?_))
      | exact ih0 _ _ _
      | exact LeO.none _
      | refine LeO.ite ?_ ?_
      | refine LeO.bind ?_ (fun _ => ?_)
theorem valiseref04_Same.mono : ∀ a0 a1 k, LeO (valiseref04_Same.f k a0 a1) (valiseref04_Same.f (k + 1) a0 a1) := by
  intro a0 a1 k
  have ih0 := valiseref04_Same.mono_l k
  unfold valiseref04_Same.f
  repeat' first
      | (with_reducible exact ih0 _ _ _)
      | (with_reducible exact LeO.refl _)
      | (with_reducible exact LeO.none _)
      | (with_reducible refine LeO.ite ?_ ?_)
      | (with_reducible refine LeO.bind ?_ (fun _ => ?_))
      | exact ih0 _ _ _
      | exact LeO.none _
      | refine LeO.ite ?_ ?_
      | refine LeO.bind ?_ (fun _ => ?_)
set_option maxHeartbeats 8000000 in
set_option maxRecDepth 100000 in
theorem valiseref04_Same.calls (k : Nat) (A0 : Option Addr) (c0 : Nat) (l0 : List Int) (A1 : Option Addr) (c1 : Nat) (l1 : List Int) (r : Bool) (w : World) (hr0 : Kd.C (Kd.int .i64) w A0 l0.length l0) (hc0 : l0.length ≤ c0) (hr1 : Kd.C (Kd.int .i64) w A1 l1.length l1) (hc1 : l1.length ≤ c1) (h : valiseref04_Same.f k l0 l1 = some r) :
    Calls Try.prog 15 #[.slice A0 l0.length c0, .slice A1 l1.length c1] w fun e w' => e = .returned (.bool r) ∧ Drawn0 w w' := by
  have HR0 := Aside0.mk hr0
  have HC0 := Aside0.mk hc0
  clear hr0 hc0
  have HR1 := Aside0.mk hr1
  have HC1 := Aside0.mk hc1
  clear hr1 hc1
  have H : (if (l0.length : Int) = (l1.length : Int) then (valiseref04_Same.l0 k l0 l1 0) else (some false)) = some r := h
  clear h
  by_cases c3 : (l0.length : Int) = (l1.length : Int)
  · rw [if_pos c3] at H
    have c3b0 : ((l0.length : Int) == (l1.length : Int)) = true := beq_iff_eq.mpr c3
    have c3b1 : ((l0.length : Int) != (l1.length : Int)) = false := bne_eq_false_iff_eq.mpr c3
    have c3b2 : (l0.length == l1.length) = true := by first | simpa using c3 | (simp at c3 ⊢; omega)
    clear c3
    have H' := Aside0.mk H
    clear H
    go_enter Try.func15, Try.ntmps15
    go_wp2
    repeat (go_quiet (fail); try go_wp2)
    go_loopg [5] k (fun kq v5 w' => ∃ (x5_1 : Int), v5 = .int .i64 x5_1 ∧ Aside0 (valiseref04_Same.l0 kq l0 l1 x5_1 = some r) ∧ Aside0 (kq ≤ k) ∧ Drawn0 w w')
    case atStart => exact ⟨(0), (by first | rfl | (simp; done) | (simp [*]; done)), H', ⟨Nat.le_refl _⟩, by repeat (first | exact Drawn0.refl _ | apply Drawn0.step)⟩
    case round =>
      clear H'
      try clear c1
      try clear p2
      try clear c3
      try clear c3b0
      try clear c3b1
      try clear c3b2
      obtain ⟨x5_1, rfl, HA, HK1, ⟨m1, rfl⟩⟩ := hrel
      cases gk with
      | zero => exact absurd HA.out (by simp [valiseref04_Same.l0])
      | succ k1 =>
        have H := HA.out
        clear HA
        simp only [valiseref04_Same.l0] at H
        by_cases c4 : x5_1 < (l0.length : Int)
        · rw [if_pos c4] at H
          have c4b0 : decide (x5_1 < (l0.length : Int)) = true := decide_eq_true c4
          clear c4
          by_cases c5 : 0 ≤ x5_1
          · rw [if_pos c5] at H
            have c5b0 : decide (0 ≤ x5_1) = true := decide_eq_true c5
            clear c5
            by_cases c6 : x5_1 < (l1.length : Int)
            · rw [if_pos c6] at H
              have c6b0 : decide (x5_1 < (l1.length : Int)) = true := decide_eq_true c6
              clear c6
              by_cases c7 : (rd l0 x5_1) = (rd l1 x5_1)
              · rw [if_pos c7] at H
                have c7b0 : ((rd l0 x5_1) == (rd l1 x5_1)) = true := beq_iff_eq.mpr c7
                have c7b1 : ((rd l0 x5_1) != (rd l1 x5_1)) = false := bne_eq_false_iff_eq.mpr c7
                clear c7
                have H' := Aside0.mk H
                clear H
                have p119 : 0 ≤ (x5_1 : Int) := of_decide_eq_true (by first | (with_reducible assumption) | assumption)
                have q119 : x5_1 < (l0.length : Int) := of_decide_eq_true (by first | (with_reducible assumption) | assumption)
                obtain ⟨ad119, e119, hx119_0⟩ := Kd.at_int HR0.out x5_1 p119 q119
                cases e119
                replace p119 := eq_true p119
                replace q119 := eq_true q119
                have p120 : 0 ≤ (x5_1 : Int) := of_decide_eq_true (by first | (with_reducible assumption) | assumption)
                have q120 : x5_1 < (l1.length : Int) := of_decide_eq_true (by first | (with_reducible assumption) | assumption)
                obtain ⟨ad120, e120, hx120_0⟩ := Kd.at_int HR1.out x5_1 p120 q120
                cases e120
                replace p120 := eq_true p120
                replace q120 := eq_true q120
                go_wp2
                repeat (go_quiet (fail); try go_wp2)
                go_roundg k1
                case measure => have := HK1.out; omega
                case rel => exact ⟨(wrap64 (x5_1 + 1)), (by first | rfl | (simp; done) | (simp [*]; done)), H', ⟨by have := HK1.out; omega⟩, by repeat (first | exact Drawn0.refl _ | apply Drawn0.step)⟩
              · rw [if_neg c7] at H
                have c7b0 : ((rd l0 x5_1) == (rd l1 x5_1)) = false := beq_eq_false_iff_ne.mpr c7
                have c7b1 : ((rd l0 x5_1) != (rd l1 x5_1)) = true := bne_iff_ne.mpr c7
                obtain rfl := Option.some.inj H
                have p119 : 0 ≤ (x5_1 : Int) := of_decide_eq_true (by first | (with_reducible assumption) | assumption)
                have q119 : x5_1 < (l0.length : Int) := of_decide_eq_true (by first | (with_reducible assumption) | assumption)
                obtain ⟨ad119, e119, hx119_0⟩ := Kd.at_int HR0.out x5_1 p119 q119
                cases e119
                replace p119 := eq_true p119
                replace q119 := eq_true q119
                have p120 : 0 ≤ (x5_1 : Int) := of_decide_eq_true (by first | (with_reducible assumption) | assumption)
                have q120 : x5_1 < (l1.length : Int) := of_decide_eq_true (by first | (with_reducible assumption) | assumption)
                obtain ⟨ad120, e120, hx120_0⟩ := Kd.at_int HR1.out x5_1 p120 q120
                cases e120
                replace p120 := eq_true p120
                replace q120 := eq_true q120
                go_wp2
                repeat (go_quiet (fail); try go_wp2)
                go_ret
                exact ⟨by first | rfl | (simp; done) | (simp [*]; done), by repeat (first | exact Drawn0.refl _ | apply Drawn0.step)⟩
            · rw [if_neg c6] at H
              exact absurd H (by simp)
          · rw [if_neg c5] at H
            exact absurd H (by simp)
        · rw [if_neg c4] at H
          have c4b0 : decide (x5_1 < (l0.length : Int)) = false := decide_eq_false c4
          clear c4
          obtain rfl := Option.some.inj H
          go_wp2
          repeat (go_quiet (fail); try go_wp2)
          go_ret
          exact ⟨by first | rfl | (simp; done) | (simp [*]; done), by repeat (first | exact Drawn0.refl _ | apply Drawn0.step)⟩
  · rw [if_neg c3] at H
    have c3b0 : ((l0.length : Int) == (l1.length : Int)) = false := beq_eq_false_iff_ne.mpr c3
    have c3b1 : ((l0.length : Int) != (l1.length : Int)) = true := bne_iff_ne.mpr c3
    have c3b2 : (l0.length == l1.length) = false := by first | simpa using c3 | (simp at c3 ⊢; omega)
    obtain rfl := Option.some.inj H
    go_enter Try.func15, Try.ntmps15
    go_wp2
    repeat (go_quiet (fail); try go_wp2)
    go_ret
    exact ⟨by first | rfl | (simp; done) | (simp [*]; done), by repeat (first | exact Drawn0.refl _ | apply Drawn0.step)⟩

end Go.Proofs.Ythcndpdfcippiaa.Pr

-- YthcndpdfcippiaaPr13
namespace Go.Proofs.Ythcndpdfcippiaa.Pr
open Go.RowKit Go.Proofs.YthcndpdfcippiaaW.PrintWords Go.Proofs.YthcndpdfcippiaaW.PrintLast Go.Proofs.YthcndpdfcippiaaW.PrintMore
attribute [local go_sem] max2_int min2_int max_two min_two max_three min_three max_four min_four   -- for this text's walks alone
set_option linter.unusedVariables false
set_option linter.unusedSimpArgs false

/-! ### valiseref01_Same: function 20 -/
def valiseref01_Same.f (l0_0 : List Int) (a0_1 : Int) (l1_0 : List Int) (a1_1 : Int) : Option (Bool) := if a0_1 = a1_1 then (some ((strOfNums l0_0).toList == (strOfNums l1_0).toList)) else (some false)
set_option maxHeartbeats 8000000 in
set_option maxRecDepth 100000 in
theorem valiseref01_Same.calls (A0_0 : Option Addr) (c0_0 : Nat) (l0_0 : List Int) (a0_1 : Int) (A1_0 : Option Addr) (c1_0 : Nat) (l1_0 : List Int) (a1_1 : Int) (r : Bool) (w : World) (hr0_0 : Kd.C (Kd.int .u8) w A0_0 l0_0.length l0_0) (hc0_0 : l0_0.length ≤ c0_0) (hr1_0 : Kd.C (Kd.int .u8) w A1_0 l1_0.length l1_0) (hc1_0 : l1_0.length ≤ c1_0) (h : valiseref01_Same.f l0_0 a0_1 l1_0 a1_1 = some r) :
    Calls Try.prog 20 #[.agg #[.slice A0_0 l0_0.length c0_0, .int .i64 a0_1], .agg #[.slice A1_0 l1_0.length c1_0, .int .i64 a1_1]] w fun e w' => e = .returned (.bool r) ∧ Below w.heap.size w w' := by
  have hu36 := Try.underlying36
  have HR0_0 := Aside0.mk hr0_0
  have HC0_0 := Aside0.mk hc0_0
  clear hr0_0 hc0_0
  have HR1_0 := Aside0.mk hr1_0
  have HC1_0 := Aside0.mk hc1_0
  clear hr1_0 hc1_0
  have HB := Aside0.mk (Below.refl w.heap.size w)
  have H : (if a0_1 = a1_1 then (some ((strOfNums l0_0).toList == (strOfNums l1_0).toList)) else (some false)) = some r := h
  clear h
  by_cases c3 : a0_1 = a1_1
  · rw [if_pos c3] at H
    have c3b0 : (a0_1 == a1_1) = true := beq_iff_eq.mpr c3
    have c3b1 : (a0_1 != a1_1) = false := bne_eq_false_iff_eq.mpr c3
    clear c3
    obtain rfl := Option.some.inj H
    go_enter Try.func20, Try.ntmps20
    go_wp2_with (first | ((with_reducible refine gate_dst (N := 2) rfl ?_); refine box_event ?hg (N := 2) ?hd (cs := #[.slice A0_0 l0_0.length c0_0, .int .i64 a0_1]) (t := 36) ?hr ?_; (case hd => rfl); (case hg => rfl); (case hr => first | (go_simp; done) | (go_simp; rfl)); intro gb124 hg w4 hbox hb; have n0_ := Aside0.mk (below_step (by repeat (first | (with_reducible first | exact HB.out | apply below_alloc | apply pw_below_drewN | apply below_drew1) | exact HB.out)) hb); have n1_ := Aside0.mk (hbox); have n2_ := Aside0.mk ((by rw [hg]; exact (below_size (by repeat (first | (with_reducible first | exact HB.out | apply below_alloc | apply pw_below_drewN | apply below_drew1) | exact HB.out))) : w.heap.size ≤ gb124)); have n3_ := Aside0.mk ((by rw [hg]; exact (below_size (by repeat (first | (with_reducible first | exact HB.out | apply below_alloc | apply pw_below_drewN | apply below_drew1) | exact HB.out))) : w.heap.size ≤ gb124)); clear HB; have HB := n0_; have BK124 := n1_; have GW124 := n2_; have GE124 := n3_; clear n0_ n1_ n2_ n3_; clear hb hbox hg) | ((with_reducible refine gate_dst (N := 3) rfl ?_); refine box_event ?hg (N := 3) ?hd (cs := #[.slice A1_0 l1_0.length c1_0, .int .i64 a1_1]) (t := 36) ?hr ?_; (case hd => rfl); (case hg => rfl); (case hr => first | (go_simp; done) | (go_simp; rfl)); intro gb125 hg w5 hbox hb; have n0_ := Aside0.mk (blk_below (g := gb124) (o := .cells #[.slice A0_0 l0_0.length c0_0, .int .i64 a0_1] 36 (0, 0)) (by (with_reducible repeat (first | refine blk_drewN ?_ _ | refine blk_drew ?_ | refine blk_alloc ?_ _)); exact BK124.out) hb); have n1_ := Aside0.mk (below_step (by repeat (first | (with_reducible first | exact HB.out | apply below_alloc | apply pw_below_drewN | apply below_drew1 | refine below_set ?_ GE124.out) | exact HB.out)) hb); have n2_ := Aside0.mk (hbox); have n3_ := Aside0.mk ((by rw [hg]; exact (below_size (by repeat (first | (with_reducible first | exact HB.out | apply below_alloc | apply pw_below_drewN | apply below_drew1 | refine below_set ?_ GE124.out) | exact HB.out))) : w.heap.size ≤ gb125)); have n4_ := Aside0.mk ((by rw [hg]; exact (below_size (by repeat (first | (with_reducible first | exact HB.out | apply below_alloc | apply pw_below_drewN | apply below_drew1 | refine below_set ?_ GE124.out) | exact HB.out))) : w.heap.size ≤ gb125)); have n5_ := Aside0.mk ((by rw [hg]; exact Nat.ne_of_lt (blk_lt (g := gb124) (o := .cells #[.slice A0_0 l0_0.length c0_0, .int .i64 a0_1] 36 (0, 0)) (by (with_reducible repeat (first | refine blk_drewN ?_ _ | refine blk_drew ?_ | refine blk_alloc ?_ _)); exact BK124.out)) : gb124 ≠ gb125)); have n6_ := Aside0.mk ((by rw [hg]; exact Nat.ne_of_gt (blk_lt (g := gb124) (o := .cells #[.slice A0_0 l0_0.length c0_0, .int .i64 a0_1] 36 (0, 0)) (by (with_reducible repeat (first | refine blk_drewN ?_ _ | refine blk_drew ?_ | refine blk_alloc ?_ _)); exact BK124.out)) : gb125 ≠ gb124)); clear BK124; clear HB; have BK124 := n0_; have HB := n1_; have BK125 := n2_; have GW125 := n3_; have GE125 := n4_; have NB124_125 := n5_; have NB125_124 := n6_; clear n0_ n1_ n2_ n3_ n4_ n5_ n6_; clear hb hbox hg; have hnb6 := NB124_125.out; have hnc6 := NB125_124.out; have hcz7_0 : w5.cell? ⟨gb124, 0, none⟩ = some (.slice A0_0 l0_0.length c0_0) := (blk_cell BK124.out 0).trans rfl; have hcz7_1 : w5.cell? ⟨gb124, 1, none⟩ = some (.int .i64 a0_1) := (blk_cell BK124.out 1).trans rfl; have hfz7_0 := blk_frozen BK124.out 0; have hfz7_1 := blk_frozen BK124.out 1; have hcz8_0 : w5.cell? ⟨gb125, 0, none⟩ = some (.slice A1_0 l1_0.length c1_0) := (blk_cell BK125.out 0).trans rfl; have hcz8_1 : w5.cell? ⟨gb125, 1, none⟩ = some (.int .i64 a1_1) := (blk_cell BK125.out 1).trans rfl; have hfz8_0 := blk_frozen BK125.out 0; have hfz8_1 := blk_frozen BK125.out 1; have hcv9 := Kd.C_string (P := Try.prog) (A := A0_0) (c := c0_0) Try.underlying34 Try.underlying5 Try.underlying9 (Kd.C_below HR0_0.out HB.out); have hcv10 := Kd.C_string (P := Try.prog) (A := A1_0) (c := c1_0) Try.underlying34 Try.underlying5 Try.underlying9 (Kd.C_below HR1_0.out HB.out)))
    go_ret
    exact ⟨by first | rfl | (simp [errW_none, errW_some] <;> rfl) | (simp [*, errW_none, errW_some] <;> rfl), by repeat (first | (with_reducible first | exact HB.out | apply below_alloc | apply pw_below_drewN | apply below_drew1 | refine below_set ?_ GE124.out | refine below_set ?_ GE125.out) | exact HB.out)⟩
  · rw [if_neg c3] at H
    have c3b0 : (a0_1 == a1_1) = false := beq_eq_false_iff_ne.mpr c3
    have c3b1 : (a0_1 != a1_1) = true := bne_iff_ne.mpr c3
    obtain rfl := Option.some.inj H
    go_enter Try.func20, Try.ntmps20
    go_wp2_with (first | ((with_reducible refine gate_dst (N := 2) rfl ?_); refine box_event ?hg (N := 2) ?hd (cs := #[.slice A0_0 l0_0.length c0_0, .int .i64 a0_1]) (t := 36) ?hr ?_; (case hd => rfl); (case hg => rfl); (case hr => first | (go_simp; done) | (go_simp; rfl)); intro gb124 hg w11 hbox hb; have n0_ := Aside0.mk (below_step (by repeat (first | (with_reducible first | exact HB.out | apply below_alloc | apply pw_below_drewN | apply below_drew1) | exact HB.out)) hb); have n1_ := Aside0.mk (hbox); have n2_ := Aside0.mk ((by rw [hg]; exact (below_size (by repeat (first | (with_reducible first | exact HB.out | apply below_alloc | apply pw_below_drewN | apply below_drew1) | exact HB.out))) : w.heap.size ≤ gb124)); have n3_ := Aside0.mk ((by rw [hg]; exact (below_size (by repeat (first | (with_reducible first | exact HB.out | apply below_alloc | apply pw_below_drewN | apply below_drew1) | exact HB.out))) : w.heap.size ≤ gb124)); clear HB; have HB := n0_; have BK124 := n1_; have GW124 := n2_; have GE124 := n3_; clear n0_ n1_ n2_ n3_; clear hb hbox hg) | ((with_reducible refine gate_dst (N := 3) rfl ?_); refine box_event ?hg (N := 3) ?hd (cs := #[.slice A1_0 l1_0.length c1_0, .int .i64 a1_1]) (t := 36) ?hr ?_; (case hd => rfl); (case hg => rfl); (case hr => first | (go_simp; done) | (go_simp; rfl)); intro gb125 hg w12 hbox hb; have n0_ := Aside0.mk (blk_below (g := gb124) (o := .cells #[.slice A0_0 l0_0.length c0_0, .int .i64 a0_1] 36 (0, 0)) (by (with_reducible repeat (first | refine blk_drewN ?_ _ | refine blk_drew ?_ | refine blk_alloc ?_ _)); exact BK124.out) hb); have n1_ := Aside0.mk (below_step (by repeat (first | (with_reducible first | exact HB.out | apply below_alloc | apply pw_below_drewN | apply below_drew1 | refine below_set ?_ GE124.out) | exact HB.out)) hb); have n2_ := Aside0.mk (hbox); have n3_ := Aside0.mk ((by rw [hg]; exact (below_size (by repeat (first | (with_reducible first | exact HB.out | apply below_alloc | apply pw_below_drewN | apply below_drew1 | refine below_set ?_ GE124.out) | exact HB.out))) : w.heap.size ≤ gb125)); have n4_ := Aside0.mk ((by rw [hg]; exact (below_size (by repeat (first | (with_reducible first | exact HB.out | apply below_alloc | apply pw_below_drewN | apply below_drew1 | refine below_set ?_ GE124.out) | exact HB.out))) : w.heap.size ≤ gb125)); have n5_ := Aside0.mk ((by rw [hg]; exact Nat.ne_of_lt (blk_lt (g := gb124) (o := .cells #[.slice A0_0 l0_0.length c0_0, .int .i64 a0_1] 36 (0, 0)) (by (with_reducible repeat (first | refine blk_drewN ?_ _ | refine blk_drew ?_ | refine blk_alloc ?_ _)); exact BK124.out)) : gb124 ≠ gb125)); have n6_ := Aside0.mk ((by rw [hg]; exact Nat.ne_of_gt (blk_lt (g := gb124) (o := .cells #[.slice A0_0 l0_0.length c0_0, .int .i64 a0_1] 36 (0, 0)) (by (with_reducible repeat (first | refine blk_drewN ?_ _ | refine blk_drew ?_ | refine blk_alloc ?_ _)); exact BK124.out)) : gb125 ≠ gb124)); clear BK124; clear HB; have BK124 := n0_; have HB := n1_; have BK125 := n2_; have GW125 := n3_; have GE125 := n4_; have NB124_125 := n5_; have NB125_124 := n6_; clear n0_ n1_ n2_ n3_ n4_ n5_ n6_; clear hb hbox hg; have hnb13 := NB124_125.out; have hnc13 := NB125_124.out; have hcz14_0 : w12.cell? ⟨gb124, 0, none⟩ = some (.slice A0_0 l0_0.length c0_0) := (blk_cell BK124.out 0).trans rfl; have hcz14_1 : w12.cell? ⟨gb124, 1, none⟩ = some (.int .i64 a0_1) := (blk_cell BK124.out 1).trans rfl; have hfz14_0 := blk_frozen BK124.out 0; have hfz14_1 := blk_frozen BK124.out 1; have hcz15_0 : w12.cell? ⟨gb125, 0, none⟩ = some (.slice A1_0 l1_0.length c1_0) := (blk_cell BK125.out 0).trans rfl; have hcz15_1 : w12.cell? ⟨gb125, 1, none⟩ = some (.int .i64 a1_1) := (blk_cell BK125.out 1).trans rfl; have hfz15_0 := blk_frozen BK125.out 0; have hfz15_1 := blk_frozen BK125.out 1))
    go_ret
    exact ⟨by first | rfl | (simp [errW_none, errW_some] <;> rfl) | (simp [*, errW_none, errW_some] <;> rfl), by repeat (first | (with_reducible first | exact HB.out | apply below_alloc | apply pw_below_drewN | apply below_drew1 | refine below_set ?_ GE124.out | refine below_set ?_ GE125.out) | exact HB.out)⟩

-- NOT PRINTED: function 50 (slices_insertionSortCmpFunc_int)

-- NOT PRINTED: function 53 (slices_swapRangeCmpFunc_int)

-- NOT PRINTED: function 52 (slices_rotateCmpFunc_int)

-- NOT PRINTED: function 51 (slices_symMergeCmpFunc_int)

-- NOT PRINTED: function 49 (slices_stableCmpFunc_int)

-- NOT PRINTED: function 44 (slices_SortStableFunc_int_int)

-- NOT PRINTED: function 36 (huff_ordered_int)

-- NOT PRINTED: function 21 (huff_New)

end Go.Proofs.Ythcndpdfcippiaa.Pr

-- YthcndpdfcippiaaPr14
namespace Go.Proofs.Ythcndpdfcippiaa.Pr
open Go.RowKit Go.Proofs.YthcndpdfcippiaaW.PrintWords Go.Proofs.YthcndpdfcippiaaW.PrintLast Go.Proofs.YthcndpdfcippiaaW.PrintMore
attribute [local go_sem] max2_int min2_int max_two min_two max_three min_three max_four min_four   -- for this text's walks alone
set_option linter.unusedVariables false
set_option linter.unusedSimpArgs false

/-! ### bits_bit: function 46 -/
def bits_bit.f (l0_0 : List Int) (a0_1 : Int) (a1 : Int) : Option (Int) := if 0 ≤ (a1 / 8) then (if (a1 / 8) < (l0_0.length : Int) then (if 0 ≤ (Go.bits .and .i64 a1 7) then (some (Go.bits .and .i64 (shr .i64 (wrap64 (rd l0_0 (a1 / 8))) (Go.bits .and .i64 a1 7)) 1)) else (none)) else (none)) else (none)
set_option maxHeartbeats 8000000 in
set_option maxRecDepth 100000 in
theorem bits_bit.calls (A0_0 : Option Addr) (c0_0 : Nat) (l0_0 : List Int) (a0_1 : Int) (a1 : Int) (r : Int) (w : World) (hr0_0 : Kd.C (Kd.int .u8) w A0_0 l0_0.length l0_0) (hc0_0 : l0_0.length ≤ c0_0) (h : bits_bit.f l0_0 a0_1 a1 = some r) :
    Calls Try.prog 46 #[.agg #[.slice A0_0 l0_0.length c0_0, .int .i64 a0_1], .int .i64 a1] w fun e w' => e = .returned (.int .i64 r) ∧ Below w.heap.size w w' := by
  have hu36 := Try.underlying36
  have HR0_0 := Aside0.mk hr0_0
  have HC0_0 := Aside0.mk hc0_0
  clear hr0_0 hc0_0
  have HB := Aside0.mk (Below.refl w.heap.size w)
  have H : (if 0 ≤ (a1 / 8) then (if (a1 / 8) < (l0_0.length : Int) then (if 0 ≤ (Go.bits .and .i64 a1 7) then (some (Go.bits .and .i64 (shr .i64 (wrap64 (rd l0_0 (a1 / 8))) (Go.bits .and .i64 a1 7)) 1)) else (none)) else (none)) else (none)) = some r := h
  clear h
  obtain ⟨ji3, hji3⟩ : ∃ j_ : Int, (a1 / 8) = j_ := ⟨_, rfl⟩
  replace H : (if 0 ≤ (ji3) then (if (ji3) < (l0_0.length : Int) then (if 0 ≤ (Go.bits .and .i64 a1 7) then (some (Go.bits .and .i64 (shr .i64 (wrap64 (rd l0_0 (ji3))) (Go.bits .and .i64 a1 7)) 1)) else (none)) else (none)) else (none)) = some r := by first | (rw [hji3] at H; exact H) | (simp only [hji3] at H ⊢; exact H)
  by_cases c4 : 0 ≤ (ji3)
  · rw [if_pos c4] at H
    have c4b0 : decide (0 ≤ (ji3)) = true := decide_eq_true c4
    clear c4
    by_cases c5 : (ji3) < (l0_0.length : Int)
    · rw [if_pos c5] at H
      have c5b0 : decide ((ji3) < (l0_0.length : Int)) = true := decide_eq_true c5
      clear c5
      by_cases c6 : 0 ≤ (Go.bits .and .i64 a1 7)
      · rw [if_pos c6] at H
        have c6b0 := eq_true c6
        have c6b1 : decide (0 ≤ (Go.bits .and .i64 a1 7)) = true := decide_eq_true c6
        clear c6
        obtain ⟨ji7, hji7⟩ : ∃ j_ : Int, (shr .i64 (wrap64 (rd l0_0 (ji3))) (Go.bits .and .i64 a1 7)) = j_ := ⟨_, rfl⟩
        replace H : (some (Go.bits .and .i64 (ji7) 1)) = some r := by first | (rw [hji7] at H; exact H) | (simp only [hji7] at H ⊢; exact H)
        have hji7_ : ((wrap64 (rd l0_0 (ji3))) / 2 ^ min (Go.bits .and .i64 a1 7).toNat 64) = ji7 := hji7
        have hji7z : (Go.bits .and .i64 a1 7) ≤ 64 → ((wrap64 (rd l0_0 (ji3))) / 2 ^ (Go.bits .and .i64 a1 7).toNat) = ji7 := shr_small hji7
        obtain rfl := Option.some.inj H
        go_enter Try.func46, Try.ntmps46
        go_wp2_with (first | ((with_reducible refine gate_dst (N := 2) rfl ?_); refine box_event ?hg (N := 2) ?hd (cs := #[.slice A0_0 l0_0.length c0_0, .int .i64 a0_1]) (t := 36) ?hr ?_; (case hd => rfl); (case hg => rfl); (case hr => first | (go_simp; done) | (go_simp; rfl)); intro gb126 hg w8 hbox hb; have n0_ := Aside0.mk (below_step (by repeat (first | (with_reducible first | exact HB.out | apply below_alloc | apply pw_below_drewN | apply below_drew1) | exact HB.out)) hb); have n1_ := Aside0.mk (hbox); have n2_ := Aside0.mk ((by rw [hg]; exact (below_size (by repeat (first | (with_reducible first | exact HB.out | apply below_alloc | apply pw_below_drewN | apply below_drew1) | exact HB.out))) : w.heap.size ≤ gb126)); have n3_ := Aside0.mk ((by rw [hg]; exact (below_size (by repeat (first | (with_reducible first | exact HB.out | apply below_alloc | apply pw_below_drewN | apply below_drew1) | exact HB.out))) : w.heap.size ≤ gb126)); clear HB; have HB := n0_; have BK126 := n1_; have GW126 := n2_; have GE126 := n3_; clear n0_ n1_ n2_ n3_; clear hb hbox hg; have hcz9_0 : w8.cell? ⟨gb126, 0, none⟩ = some (.slice A0_0 l0_0.length c0_0) := (blk_cell BK126.out 0).trans rfl; have hcz9_1 : w8.cell? ⟨gb126, 1, none⟩ = some (.int .i64 a0_1) := (blk_cell BK126.out 1).trans rfl; have hfz9_0 := blk_frozen BK126.out 0; have hfz9_1 := blk_frozen BK126.out 1; have p127 : 0 ≤ ((ji3) : Int) := of_decide_eq_true (by first | (with_reducible assumption) | assumption); have q127 : (ji3) < (l0_0.length : Int) := of_decide_eq_true (by first | (with_reducible assumption) | assumption); obtain ⟨ad127, e127, hx127_0⟩ := Kd.at_int HR0_0.out (ji3) p127 q127; cases e127; replace hx127_0 := (HB.out.cell (World.block_lt_of_cell? w _ hx127_0)).trans hx127_0; replace p127 := eq_true p127; replace q127 := eq_true q127))
        go_ret
        exact ⟨by first | rfl | (simp [errW_none, errW_some] <;> rfl) | (simp only [← hji3, ← hji7]; first | rfl | (simp [errW_none, errW_some] <;> rfl)) | (simp [*, errW_none, errW_some] <;> rfl), by repeat (first | (with_reducible first | exact HB.out | apply below_alloc | apply pw_below_drewN | apply below_drew1 | refine below_set ?_ GE126.out) | exact HB.out)⟩
      · rw [if_neg c6] at H
        exact absurd H (by simp)
    · rw [if_neg c5] at H
      exact absurd H (by simp)
  · rw [if_neg c4] at H
    exact absurd H (by simp)

end Go.Proofs.Ythcndpdfcippiaa.Pr

