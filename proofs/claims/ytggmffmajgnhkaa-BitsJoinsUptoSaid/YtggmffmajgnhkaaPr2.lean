-- Written by a program of this session (wip/tool/graft.py), which runs the kit's printer over texts by hand.
import Derived.Test.YtggmffmajgnhkaaPr0
import Derived.Test.YtggmffmajgnhkaaPr1
namespace Go.Proofs.Ytggmffmajgnhkaa.Pr
open Go.RowKit Go.Proofs.YtggmffmajgnhkaaW.PrintWords Go.Proofs.YtggmffmajgnhkaaW.PrintLast Go.Proofs.YtggmffmajgnhkaaW.PrintMore
attribute [local go_sem] max2_int min2_int max_two min_two max_three min_three max_four min_four   -- for this text's walks alone
set_option linter.unusedVariables false
set_option linter.unusedSimpArgs false

/-! ### valiselaw01_own: function 11 (by hand) -/

def valiselaw01_own.f (l0 : List Int) (n0 : Int) : Option (List Int × Int) := if l0.length + 1 < 140737488355328 then some (l0, n0) else none
/-- What own tells: the row, with room for one byte more, which is 119. -/
def OwnPost (l : List Int) (n : Int) (w : World) (e : Ending) (w' : World) : Prop :=
  ∃ A' c', e = .returned (.agg #[.slice A' l.length c', .int .i64 n]) ∧ l.length + 1 ≤ c' ∧ Kd.R (Kd.int .u8) 5 w' w.heap.size (fun _ => True) (.slice A' (l.length + 1) c') (l ++ [119]) ∧ Below w.heap.size w w'
set_option maxHeartbeats 4000000 in
set_option maxRecDepth 100000 in
theorem own_full (A : Option Addr) (c : Nat) (l : List Int) (n : Int) (w : World) (hr : Kd.C (Kd.int .u8) w A l.length l) (hc : l.length ≤ c) (h : l.length + 1 < 140737488355328) :
    Calls Try.prog 11 #[.agg #[.slice A l.length c, .int .i64 n]] w (OwnPost l n w) := by
  have HR := Aside0.mk hr
  have HC := Aside0.mk hc
  have HL := Aside0.mk h
  have HB := Aside0.mk (Below.refl w.heap.size w)
  clear hr hc h
  go_enter Try.func11, Try.ntmps11
  go_wp2_with (first
        | ((with_reducible refine gate_dst (N := 1) rfl ?_); refine box_event ?hg (N := 1) ?hd (cs := #[.slice A l.length c, .int .i64 n]) (t := 24) ?hr ?_; (case hd => rfl); (case hg => rfl); (case hr => first | (go_simp; done) | (go_simp; rfl)); intro g1 hg w3 hbox hb; have n0 := Aside0.mk (below_then HB.out HB.out.size hb); have n1 := Aside0.mk (hbox); have n2 := Aside0.mk ((by rw [hg]; exact HB.out.size : w.heap.size ≤ g1)); clear HB; have HB := n0; have B1 := n1; have G1 := n2; clear n0 n1 n2; clear hg hbox hb)
        | ((with_reducible refine gate_dst (N := 2) rfl ?_); refine box_event ?hg (N := 2) ?hd (cs := #[.slice none 0 0, .int .i64 0]) (t := 24) ?hr ?_; (case hd => rfl); (case hg => rfl); (case hr => first | (go_simp; done) | (go_simp; rfl)); intro g2 hg w4 hbox hb; have N21 := Aside0.mk (show g1 ≠ g2 from by rw [hg]; exact Nat.ne_of_lt (blk_lt B1.out)); have n0 := Aside0.mk (below_then HB.out HB.out.size hb); have n1 := Aside0.mk (blk_below B1.out hb); have n2 := Aside0.mk (hbox); have n3 := Aside0.mk ((by rw [hg]; exact HB.out.size : w.heap.size ≤ g2)); clear HB B1; have HB := n0; have B1 := n1; have B2 := n2; have G2 := n3; clear n0 n1 n2 n3; clear hg hbox hb)
        )
  have n0 := Aside0.mk (below_drew1 HB.out)
  have n1 := Aside0.mk (blk_drew B1.out)
  have n2 := Aside0.mk (blk_drew B2.out)
  clear HB B1 B2
  have HB := n0
  have B1 := n1
  have B2 := n2
  clear n0 n1 n2
  refine start_ (n := 14) (S := fun w' => w'.cell? ⟨g1, 0, none⟩ = some (.slice A l.length c) ∧ w'.cell? ⟨g1, 1, none⟩ = some (.int .i64 n)) (ds := [13]) #[false, false, false, false, false, false, false, false, false, false, false, false, false, false] (by kernel_rfl) rfl rfl ⟨(blk_cell B1.out 0).trans rfl, (blk_cell B1.out 1).trans rfl⟩ (fun hHeld => ?_)
  generalize w4.drew = w5 at HB B1 B2 hHeld ⊢
  refine pure_ (i := 1) (N := some 4) (v := ?_) (a' := ?_) #[false, true, false, false, false, false, false, false, false, false, false, false, false, false] rfl rfl (by kernel_rfl) (fun _ _ _ h => h) (Or.inl ⟨by rfl, ?_⟩) ?_ ?_
  rotate_left
  · intro w'
    go_simp
    with_reducible rfl
  rotate_left
  · simp only [Act.put, List.setIfInBounds_toArray, List.set_cons_zero, List.set_cons_succ, i64_w, i32_w, u8_w]
    rfl
  refine pure_ (i := 6) (N := some 9) (v := ?_) (a' := ?_) #[false, true, false, false, false, false, true, false, false, false, false, false, false, false] rfl rfl (by kernel_rfl) (fun _ _ _ h => h) (Or.inl ⟨by rfl, ?_⟩) ?_ ?_
  rotate_left
  · intro w'
    go_simp
    with_reducible rfl
  rotate_left
  · simp only [Act.put, List.setIfInBounds_toArray, List.set_cons_zero, List.set_cons_succ, i64_w, i32_w, u8_w]
    rfl
  refine pure_ (i := 10) (N := some 13) (v := ?_) (a' := ?_) #[false, true, false, false, false, false, true, false, false, false, true, false, false, false] rfl rfl (by kernel_rfl) (fun _ _ _ h => h) (Or.inl ⟨by rfl, ?_⟩) ?_ ?_
  rotate_left
  · intro w'
    go_simp
    with_reducible rfl
  rotate_left
  · simp only [Act.put, List.setIfInBounds_toArray, List.set_cons_zero, List.set_cons_succ, i64_w, i32_w, u8_w]
    rfl
  refine take_ (i := 2) (N := some 5) (v := ?_) (a' := ?_) #[false, true, true, false, false, false, true, false, false, false, true, false, false, false] rfl rfl (by kernel_rfl) (fun _ _ _ h => h) (Or.inl ⟨by rfl, ?_⟩) hHeld ?_ ?_
  rotate_left
  · rintro w' ⟨s0, s1⟩
    go_simp
    with_reducible rfl
  rotate_left
  · simp only [Act.put, List.setIfInBounds_toArray, List.set_cons_zero, List.set_cons_succ, i64_w, i32_w, u8_w]
    rfl
  refine take_ (i := 7) (N := some 10) (v := ?_) (a' := ?_) #[false, true, true, false, false, false, true, true, false, false, true, false, false, false] rfl rfl (by kernel_rfl) (fun _ _ _ h => h) (Or.inl ⟨by rfl, ?_⟩) hHeld ?_ ?_
  rotate_left
  · rintro w' ⟨s0, s1⟩
    go_simp
    with_reducible rfl
  rotate_left
  · simp only [Act.put, List.setIfInBounds_toArray, List.set_cons_zero, List.set_cons_succ, i64_w, i32_w, u8_w]
    rfl
  refine pure_ (i := 8) (N := some 11) (v := ?_) (a' := ?_) #[false, true, true, false, false, false, true, true, true, false, true, false, false, false] rfl rfl (by kernel_rfl) (fun _ _ _ h => h) (Or.inl ⟨by rfl, ?_⟩) ?_ ?_
  rotate_left
  · intro w'
    go_simp
    with_reducible rfl
  rotate_left
  · simp only [Act.put, List.setIfInBounds_toArray, List.set_cons_zero, List.set_cons_succ, i64_w, i32_w, u8_w]
    rfl
  refine take_ (i := 11) (N := some 14) (v := ?_) (a' := ?_) #[false, true, true, false, false, false, true, true, true, false, true, true, false, false] rfl rfl (by kernel_rfl) (fun _ _ _ h => h) (Or.inl ⟨by rfl, ?_⟩) hHeld ?_ ?_
  rotate_left
  · rintro w' ⟨s0, s1⟩
    go_simp
    with_reducible rfl
  rotate_left
  · simp only [Act.put, List.setIfInBounds_toArray, List.set_cons_zero, List.set_cons_succ, i64_w, i32_w, u8_w]
    rfl
  refine join_ (σ := Option Addr × Nat × Option Addr × Nat × Nat) 4 #[true, true, true, true, true, false, true, true, true, false, true, true, false, false] (fun s => [(3, .slice s.1 ([] : List Int).length s.2.1), (6, .slice s.2.2.1 l.length s.2.2.2.1), (7, .slice (some ⟨s.2.2.2.2, 0, none⟩) 1 1)]) (fun s w' => (Kd.R (Kd.int .u8) 5 w' w.heap.size (fun _ => True) (.slice s.2.2.1 l.length s.2.2.2.1) l ∧ w'.heap[s.2.2.2.2]? = some (.cells #[.int .u8 119] 5 (0, 0)) ∧ some s.2.2.2.2 ≠ (Value.slice s.2.2.1 l.length s.2.2.2.1).ownBlock ∧ w'.heap[g1]? = some (.cells #[.slice A l.length c, .int .i64 n] 24 (0, 0)) ∧ w'.heap[g2]? = some (.cells #[.slice none 0 0, .int .i64 0] 24 (0, 0)) ∧ Below w.heap.size w w') ∧ (w'.cell? ⟨g1, 0, none⟩ = some (.slice A l.length c) ∧ w'.cell? ⟨g1, 1, none⟩ = some (.int .i64 n))) ?_ ?_
  rotate_left
  · intro hCont
    refine two_ (i := 0) (j := 4) (Ni := some 3) (Nj := some 7) #[true, true, true, false, false, false, true, true, true, false, true, true, false, false] #[false, true, true, false, true, false, true, true, true, false, true, true, false, false] rfl rfl rfl rfl (by kernel_rfl) (by decide) (by decide) (fun K hK => ?_) (fun K hK => ?_)
    · skip
      refine Kd.R_lit_step (Kd.int .u8) _ 5 ?hg (N := 3) ?hd (xs := ([] : List Int)) (inner := []) (ok := fun _ => True) (okp := fun _ => True) ?hr ?hp (fun _ hk => hk) trivial (Below.refl _ _) (Nat.le_refl _) (by simp) ?_; (case hd => rfl); (case hg => rfl); (case hr => first | (go_simp; done) | (go_simp; rfl)); (case hp => exact (Reps.none _ _))
      intro v1 w4 ho hb hg_ hnew_
      have n0 := Aside0.mk (below_then HB.out HB.out.size hb)
      have n1 := Aside0.mk (blk_below B1.out hb)
      have n2 := Aside0.mk (blk_below B2.out hb)
      have n3 := Aside0.mk (Kd.R_lower ho HB.out.size)
      clear HB B1 B2
      have HB := n0
      have B1 := n1
      have B2 := n2
      have HO := n3
      clear n0 n1 n2 n3
      clear ho hb hg_ hnew_
      obtain ⟨A1, c1, ev⟩ := Kd.R_slice HO.out
      subst ev
      refine hK.out _ _ ⟨(blk_cell B1.out 0).trans rfl, (blk_cell B1.out 1).trans rfl⟩ (fun hHeld => ?_)
      clear hK K
      refine norm_ (a' := ?_) ?_ ?_
      rotate_left
      · show Act.put _ (some 3) _ = _
        simp only [Act.put, List.setIfInBounds_toArray, List.set_cons_zero, List.set_cons_succ, i64_w, i32_w, u8_w]
        rfl
      refine two_ (i := 3) (j := 4) (Ni := some 6) (Nj := some 7) #[true, true, true, true, false, false, true, true, true, false, true, true, false, false] #[true, true, true, false, true, false, true, true, true, false, true, true, false, false] rfl rfl rfl rfl (by kernel_rfl) (by decide) (by decide) (fun K hK => ?_) (fun K hK => ?_)
      · skip
        refine Kd.R_append_rows_step (Kd.int .u8) (w0 := w) w.heap.size (by rfl) (.tmp 3) (.tmp 5) 22 5 (.int .u8 0) 1 rfl Try.underlying22 info5 rfl (by decide) (by omega) (.slice A1 ([] : List Int).length c1) [] l _ _ _ (fun _ => True) (fun _ => False) rfl rfl HO.out (Kd.C_below HR.out HB.out) (fun _ _ h => h) (fun _ h => h.elim) (fun _ _ => trivial) HB.out HB.out.size ?aL ?_
        (case aL => have := HL.out; simp; omega)
        intro v2 w5 ho hb hg hat
        rw [List.nil_append] at ho
        have n0 := Aside0.mk (hb)
        have n1 := Aside0.mk (blk_grown B1.out hg (Kd.R_ne HO.out B1.out (by decide)))
        have n2 := Aside0.mk (blk_grown B2.out hg (Kd.R_ne HO.out B2.out (by decide)))
        have n3 := Aside0.mk (ho)
        clear HB B1 B2 HO
        have HB := n0
        have B1 := n1
        have B2 := n2
        have HO := n3
        clear n0 n1 n2 n3
        clear ho hb hg hat
        obtain ⟨A2, c2, ev⟩ := Kd.R_slice HO.out
        subst ev
        refine hK.out _ _ ⟨(blk_cell B1.out 0).trans rfl, (blk_cell B1.out 1).trans rfl⟩ (fun hHeld => ?_)
        clear hK K
        refine norm_ (a' := ?_) ?_ ?_
        rotate_left
        · show Act.put _ (some 6) _ = _
          simp only [Act.put, List.setIfInBounds_toArray, List.set_cons_zero, List.set_cons_succ, i64_w, i32_w, u8_w]
          rfl
        refine one_ (i := 4) (N := some 7) #[true, true, true, true, true, false, true, true, true, false, true, true, false, false] rfl rfl (by kernel_rfl) (by decide) (fun K hK => ?_)
        refine lit_step (by rfl) ?hd (N := 7) (cs := #[.int .u8 119]) (t := 5) (n := 1) ?hr ?_; (case hd => rfl); (case hr => first | (go_simp; done) | (go_simp; rfl))
        intro g4 hg w6 hbox hb
        have n0 := Aside0.mk (below_then HB.out HB.out.size hb)
        have n1 := Aside0.mk (blk_below B1.out hb)
        have n2 := Aside0.mk (blk_below B2.out hb)
        have n3 := Aside0.mk (Kd.R_below HO.out hb)
        have n4 := Aside0.mk (hbox)
        have n5 := Aside0.mk (ne_lit HO.out hg)
        clear HB B1 B2 HO
        have HB := n0
        have B1 := n1
        have B2 := n2
        have HO := n3
        have B4 := n4
        have NE := n5
        clear n0 n1 n2 n3 n4 n5
        clear hg hbox hb
        refine hK.out _ _ ⟨(blk_cell B1.out 0).trans rfl, (blk_cell B1.out 1).trans rfl⟩ (fun hHeld => ?_)
        clear hK K
        refine norm_ (a' := ?_) ?_ ?_
        rotate_left
        · show Act.put _ (some 7) _ = _
          simp only [Act.put, List.setIfInBounds_toArray, List.set_cons_zero, List.set_cons_succ, i64_w, i32_w, u8_w]
          rfl
        exact norm_ (by simp only [putAll, Act.put, List.setIfInBounds_toArray, List.set_cons_zero, List.set_cons_succ]) (hCont (A1, c1, A2, c2, g4) _ ⟨⟨HO.out, B4.out, NE.out, B1.out, B2.out, HB.out⟩, (blk_cell B1.out 0).trans rfl, (blk_cell B1.out 1).trans rfl⟩)
      · skip
        refine lit_step (by rfl) ?hd (N := 7) (cs := #[.int .u8 119]) (t := 5) (n := 1) ?hr ?_; (case hd => rfl); (case hr => first | (go_simp; done) | (go_simp; rfl))
        intro g4 hg w5 hbox hb
        have n0 := Aside0.mk (below_then HB.out HB.out.size hb)
        have n1 := Aside0.mk (blk_below B1.out hb)
        have n2 := Aside0.mk (blk_below B2.out hb)
        have n3 := Aside0.mk (Kd.R_below HO.out hb)
        have n4 := Aside0.mk (hbox)
        have n5 := Aside0.mk (ne_lit HO.out hg)
        clear HB B1 B2 HO
        have HB := n0
        have B1 := n1
        have B2 := n2
        have HO := n3
        have B4 := n4
        have NE := n5
        clear n0 n1 n2 n3 n4 n5
        clear hg hbox hb
        refine hK.out _ _ ⟨(blk_cell B1.out 0).trans rfl, (blk_cell B1.out 1).trans rfl⟩ (fun hHeld => ?_)
        clear hK K
        refine norm_ (a' := ?_) ?_ ?_
        rotate_left
        · show Act.put _ (some 7) _ = _
          simp only [Act.put, List.setIfInBounds_toArray, List.set_cons_zero, List.set_cons_succ, i64_w, i32_w, u8_w]
          rfl
        refine one_ (i := 3) (N := some 6) #[true, true, true, true, true, false, true, true, true, false, true, true, false, false] rfl rfl (by kernel_rfl) (by decide) (fun K hK => ?_)
        refine Kd.R_append_rows_step (Kd.int .u8) (w0 := w) w.heap.size (by rfl) (.tmp 3) (.tmp 5) 22 5 (.int .u8 0) 1 rfl Try.underlying22 info5 rfl (by decide) (by omega) (.slice A1 ([] : List Int).length c1) [] l _ _ _ (fun _ => True) (fun _ => False) rfl rfl HO.out (Kd.C_below HR.out HB.out) (fun _ _ h => h) (fun _ h => h.elim) (fun _ _ => trivial) HB.out HB.out.size ?aL ?_
        (case aL => have := HL.out; simp; omega)
        intro v2 w6 ho hb hg hat
        rw [List.nil_append] at ho
        have n0 := Aside0.mk (hb)
        have n1 := Aside0.mk (blk_grown B1.out hg (Kd.R_ne HO.out B1.out (by decide)))
        have n2 := Aside0.mk (blk_grown B2.out hg (Kd.R_ne HO.out B2.out (by decide)))
        have n3 := Aside0.mk (ho)
        have n4 := Aside0.mk (blk_grown B4.out hg NE.out)
        have n5 := Aside0.mk (ne_grown B4.out NE.out hat)
        clear HB B1 B2 HO B4 NE
        have HB := n0
        have B1 := n1
        have B2 := n2
        have HO := n3
        have B4 := n4
        have NE := n5
        clear n0 n1 n2 n3 n4 n5
        clear ho hb hg hat
        obtain ⟨A2, c2, ev⟩ := Kd.R_slice HO.out
        subst ev
        refine hK.out _ _ ⟨(blk_cell B1.out 0).trans rfl, (blk_cell B1.out 1).trans rfl⟩ (fun hHeld => ?_)
        clear hK K
        refine norm_ (a' := ?_) ?_ ?_
        rotate_left
        · show Act.put _ (some 6) _ = _
          simp only [Act.put, List.setIfInBounds_toArray, List.set_cons_zero, List.set_cons_succ, i64_w, i32_w, u8_w]
          rfl
        exact norm_ (by simp only [putAll, Act.put, List.setIfInBounds_toArray, List.set_cons_zero, List.set_cons_succ]) (hCont (A1, c1, A2, c2, g4) _ ⟨⟨HO.out, B4.out, NE.out, B1.out, B2.out, HB.out⟩, (blk_cell B1.out 0).trans rfl, (blk_cell B1.out 1).trans rfl⟩)
    · skip
      refine lit_step (by rfl) ?hd (N := 7) (cs := #[.int .u8 119]) (t := 5) (n := 1) ?hr ?_; (case hd => rfl); (case hr => first | (go_simp; done) | (go_simp; rfl))
      intro g4 hg w4 hbox hb
      have n0 := Aside0.mk (below_then HB.out HB.out.size hb)
      have n1 := Aside0.mk (blk_below B1.out hb)
      have n2 := Aside0.mk (blk_below B2.out hb)
      have n3 := Aside0.mk (hbox)
      clear HB B1 B2
      have HB := n0
      have B1 := n1
      have B2 := n2
      have B4 := n3
      clear n0 n1 n2 n3
      clear hg hbox hb
      refine hK.out _ _ ⟨(blk_cell B1.out 0).trans rfl, (blk_cell B1.out 1).trans rfl⟩ (fun hHeld => ?_)
      clear hK K
      refine norm_ (a' := ?_) ?_ ?_
      rotate_left
      · show Act.put _ (some 7) _ = _
        simp only [Act.put, List.setIfInBounds_toArray, List.set_cons_zero, List.set_cons_succ, i64_w, i32_w, u8_w]
        rfl
      refine one_ (i := 0) (N := some 3) #[true, true, true, false, true, false, true, true, true, false, true, true, false, false] rfl rfl (by kernel_rfl) (by decide) (fun K hK => ?_)
      refine Kd.R_lit_step (Kd.int .u8) _ 5 ?hg (N := 3) ?hd (xs := ([] : List Int)) (inner := []) (ok := fun _ => True) (okp := fun _ => True) ?hr ?hp (fun _ hk => hk) trivial (Below.refl _ _) (Nat.le_refl _) (by simp) ?_; (case hd => rfl); (case hg => rfl); (case hr => first | (go_simp; done) | (go_simp; rfl)); (case hp => exact (Reps.none _ _))
      intro v1 w5 ho hb hg_ hnew_
      have n0 := Aside0.mk (below_then HB.out HB.out.size hb)
      have n1 := Aside0.mk (blk_below B1.out hb)
      have n2 := Aside0.mk (blk_below B2.out hb)
      have n3 := Aside0.mk (blk_below B4.out hb)
      have n4 := Aside0.mk (Kd.R_lower ho HB.out.size)
      have n5 := Aside0.mk (ne_row B4.out ho)
      clear HB B1 B2 B4
      have HB := n0
      have B1 := n1
      have B2 := n2
      have B4 := n3
      have HO := n4
      have NE := n5
      clear n0 n1 n2 n3 n4 n5
      clear ho hb hg_ hnew_
      obtain ⟨A1, c1, ev⟩ := Kd.R_slice HO.out
      subst ev
      refine hK.out _ _ ⟨(blk_cell B1.out 0).trans rfl, (blk_cell B1.out 1).trans rfl⟩ (fun hHeld => ?_)
      clear hK K
      refine norm_ (a' := ?_) ?_ ?_
      rotate_left
      · show Act.put _ (some 3) _ = _
        simp only [Act.put, List.setIfInBounds_toArray, List.set_cons_zero, List.set_cons_succ, i64_w, i32_w, u8_w]
        rfl
      refine one_ (i := 3) (N := some 6) #[true, true, true, true, true, false, true, true, true, false, true, true, false, false] rfl rfl (by kernel_rfl) (by decide) (fun K hK => ?_)
      refine Kd.R_append_rows_step (Kd.int .u8) (w0 := w) w.heap.size (by rfl) (.tmp 3) (.tmp 5) 22 5 (.int .u8 0) 1 rfl Try.underlying22 info5 rfl (by decide) (by omega) (.slice A1 ([] : List Int).length c1) [] l _ _ _ (fun _ => True) (fun _ => False) rfl rfl HO.out (Kd.C_below HR.out HB.out) (fun _ _ h => h) (fun _ h => h.elim) (fun _ _ => trivial) HB.out HB.out.size ?aL ?_
      (case aL => have := HL.out; simp; omega)
      intro v2 w6 ho hb hg hat
      rw [List.nil_append] at ho
      have n0 := Aside0.mk (hb)
      have n1 := Aside0.mk (blk_grown B1.out hg (Kd.R_ne HO.out B1.out (by decide)))
      have n2 := Aside0.mk (blk_grown B2.out hg (Kd.R_ne HO.out B2.out (by decide)))
      have n3 := Aside0.mk (ho)
      have n4 := Aside0.mk (blk_grown B4.out hg NE.out)
      have n5 := Aside0.mk (ne_grown B4.out NE.out hat)
      clear HB B1 B2 HO B4 NE
      have HB := n0
      have B1 := n1
      have B2 := n2
      have HO := n3
      have B4 := n4
      have NE := n5
      clear n0 n1 n2 n3 n4 n5
      clear ho hb hg hat
      obtain ⟨A2, c2, ev⟩ := Kd.R_slice HO.out
      subst ev
      refine hK.out _ _ ⟨(blk_cell B1.out 0).trans rfl, (blk_cell B1.out 1).trans rfl⟩ (fun hHeld => ?_)
      clear hK K
      refine norm_ (a' := ?_) ?_ ?_
      rotate_left
      · show Act.put _ (some 6) _ = _
        simp only [Act.put, List.setIfInBounds_toArray, List.set_cons_zero, List.set_cons_succ, i64_w, i32_w, u8_w]
        rfl
      exact norm_ (by simp only [putAll, Act.put, List.setIfInBounds_toArray, List.set_cons_zero, List.set_cons_succ]) (hCont (A1, c1, A2, c2, g4) _ ⟨⟨HO.out, B4.out, NE.out, B1.out, B2.out, HB.out⟩, (blk_cell B1.out 0).trans rfl, (blk_cell B1.out 1).trans rfl⟩)
  rintro ⟨A1, c1, A2, c2, g4⟩ w9 ⟨⟨hO, b4, ne, b1, b2, hB⟩, hHeld⟩
  have HO := Aside0.mk hO
  have B4 := Aside0.mk b4
  have NE := Aside0.mk ne
  have B1 := Aside0.mk b1
  have B2 := Aside0.mk b2
  have HB := Aside0.mk hB
  clear hO b4 ne b1 b2 hB
  refine norm_ (a' := ?_) ?_ ?_
  rotate_left
  · simp only [putAll, Act.put, List.setIfInBounds_toArray, List.set_cons_zero, List.set_cons_succ]
    rfl
  refine one_ (i := 5) (N := some 8) #[true, true, true, true, true, true, true, true, true, false, true, true, false, false] rfl rfl (by kernel_rfl) (by decide) (fun K hK => ?_)
  refine Kd.R_append_rows_step (Kd.int .u8) (w0 := w) w.heap.size (by rfl) (.tmp 6) (.tmp 7) 22 5 (.int .u8 0) 1 rfl Try.underlying22 info5 rfl (by decide) (by omega) (.slice A2 l.length c2) l [119] _ _ _ (fun _ => True) (fun _ => False) rfl rfl HO.out (lit_C B4.out) (fun _ _ h => h) (fun _ h => h.elim) (fun _ _ => trivial) HB.out HB.out.size ?aL ?_
  (case aL => have := HL.out; simp; omega)
  intro v2 w10 ho hb hg hat
  have n0 := Aside0.mk (hb)
  have n1 := Aside0.mk (blk_grown B1.out hg (Kd.R_ne HO.out B1.out (by decide)))
  have n2 := Aside0.mk (blk_grown B2.out hg (Kd.R_ne HO.out B2.out (by decide)))
  have n3 := Aside0.mk (ho)
  clear HB B1 B2 HO B4 NE
  have HB := n0
  have B1 := n1
  have B2 := n2
  have HO := n3
  clear n0 n1 n2 n3
  clear ho hb hg hat
  obtain ⟨A3, c3, ev⟩ := Kd.R_slice HO.out
  subst ev
  obtain ⟨i0, hi0, _, hsz, _⟩ := info_parts info5
  have hcl : (l.length : Int) ≤ ((l ++ [119]).length : Int) := by simp; omega
  have hcut := cut_to (P := Try.prog) 22 5 .i64 Try.underlying22 hi0 A3 (l ++ [119]).length c3 (l.length : Int) (Int.natCast_nonneg _) hcl (Kd.R_reads' HO.out).2.1
  rw [Int.toNat_natCast] at hcut
  have HLE := Aside0.mk (Kd.R_reads' HO.out).2.1
  have hle1 : l.length + 1 ≤ c3 := by have := HLE.out; simpa using this
  simp only [List.length_append, List.length_cons, List.length_nil, Nat.zero_add] at hcut ⊢
  refine hK.out _ _ ⟨(blk_cell B1.out 0).trans rfl, (blk_cell B1.out 1).trans rfl⟩ (fun hHeld => ?_)
  clear hK K
  refine norm_ (a' := ?_) ?_ ?_
  rotate_left
  · show Act.put _ (some 8) _ = _
    simp only [Act.put, List.setIfInBounds_toArray, List.set_cons_zero, List.set_cons_succ, i64_w, i32_w, u8_w]
    rfl
  refine pure_ (i := 9) (N := some 12) (v := ?_) (a' := ?_) #[true, true, true, true, true, true, true, true, true, true, true, true, false, false] rfl rfl (by kernel_rfl) (fun _ _ _ h => h) (Or.inl ⟨by rfl, ?_⟩) ?_ ?_
  rotate_left
  · intro w'
    go_simp
    with_reducible rfl
  rotate_left
  · simp only [Act.put, List.setIfInBounds_toArray, List.set_cons_zero, List.set_cons_succ, i64_w, i32_w, u8_w]
    rfl
  refine pure_ (i := 12) (N := some 15) (v := ?_) (a' := ?_) #[true, true, true, true, true, true, true, true, true, true, true, true, true, false] rfl rfl (by kernel_rfl) (fun _ _ _ h => h) (Or.inl ⟨by rfl, ?_⟩) ?_ ?_
  rotate_left
  · intro w'
    go_simp
    with_reducible rfl
  rotate_left
  · simp only [Act.put, List.setIfInBounds_toArray, List.set_cons_zero, List.set_cons_succ, i64_w, i32_w, u8_w]
    rfl
  refine last_ (i := 13) (N := none) #[true, true, true, true, true, true, true, true, true, true, true, true, true, true] rfl rfl (by kernel_rfl) (by decide) (fun K hK => ?_)
  have hz0 : w10.cell? ⟨g2, 0, none⟩ = some (.slice none 0 0) := (blk_cell B2.out 0).trans rfl
  have hz1 : w10.cell? ⟨g2, 1, none⟩ = some (.int .i64 0) := (blk_cell B2.out 1).trans rfl
  have hf0 := blk_frozen B2.out 0
  have hf1 := blk_frozen B2.out 1
  refine skip_ (w1 := ?_) (by rfl) rfl ?_ ?_
  rotate_left
  · go_simp
    rfl
  refine hK.out _ _ ?_
  clear hK K
  refine done_ (by kernel_rfl) ?_
  go_wp2
  refine bodyPost_ret (results_cell_row rfl _ _ g2 24 #[.slice A3 l.length c3, .int .i64 n] (0, 0) _ rfl (by refine blk_put (cs := #[.slice A3 l.length c3, .int .i64 0]) ?_ 1 _ rfl; refine blk_put (cs := #[.slice none 0 0, .int .i64 0]) ?_ 0 _ rfl; exact B2.out) Try.underlying24 rfl (by kernel_rfl)) rfl ?_
  have HOx := HO.out
  simp only [List.length_append, List.length_cons, List.length_nil, Nat.zero_add] at HOx
  exact ⟨A3, c3, rfl, hle1, Kd.R_mono (Kd.R_far (p := ⟨g2, 1, none⟩) (Kd.R_far (p := ⟨g2, 0, none⟩) (Kd.R_types HOx B2.out (by decide)) (fun _ hk => hk.2) _) (fun _ hk => hk.2) _) (fun _ hk => trivial), (HB.out.setCell (p := ⟨g2, 0, none⟩) G2.out _).setCell (p := ⟨g2, 1, none⟩) G2.out _⟩

theorem valiselaw01_own.calls (A : Option Addr) (c : Nat) (l : List Int) (n : Int) (r1 : List Int) (r2 : Int) (w : World) (hr : Kd.C (Kd.int .u8) w A l.length l) (hc : l.length ≤ c) (h : valiselaw01_own.f l n = some (r1, r2)) :
    Calls Try.prog 11 #[.agg #[.slice A l.length c, .int .i64 n]] w fun e w' => ∃ v0_ : Value, e = .returned (.agg #[v0_, .int .i64 r2]) ∧ Kd.R (Kd.int .u8) 5 w' w.heap.size (fun _ => True) v0_ r1 ∧ Below w.heap.size w w' := by
  unfold valiselaw01_own.f at h
  by_cases hl : l.length + 1 < 140737488355328
  · rw [if_pos hl] at h
    injection h with h
    injection h with h1 h2
    subst h1 h2
    refine (own_full A c l n w hr hc hl).mono ?_
    rintro e w' ⟨A', c', rfl, hc', hR, hB⟩
    have h2 := Kd.R_take (m := l.length) hR (by simp)
    rw [List.take_left' rfl] at h2
    exact ⟨_, rfl, h2, hB⟩
  · rw [if_neg hl] at h
    cases h

end Go.Proofs.Ytggmffmajgnhkaa.Pr
