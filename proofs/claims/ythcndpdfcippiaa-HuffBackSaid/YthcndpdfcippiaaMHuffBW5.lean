-- Texts by hand and by programs of this session, joined (wip/tool/merge.py).
import Derived.Test.YthcndpdfcippiaaMHuffBW4
-- YthcndpdfcippiaaPr10
namespace Go.Proofs.Ythcndpdfcippiaa.Pr
open Go.RowKit Go.Proofs.YthcndpdfcippiaaW.PrintWords Go.Proofs.YthcndpdfcippiaaW.PrintLast Go.Proofs.YthcndpdfcippiaaW.PrintMore
attribute [local go_sem] max2_int min2_int max_two min_two max_three min_three max_four min_four   -- for this text's walks alone
set_option linter.unusedVariables false
set_option linter.unusedSimpArgs false

/-! ### bits_writer: function 43 (by hand) -/

/-- A bit is laid behind a row (what the closure of bits.writer does). -/
def put1 (l : List Int) (n bit : Int) : Option (List Int × Int) :=
  (if Go.bits .and .i64 n 7 = 0 then (if l.length < 140737488355328 then some (l ++ [0]) else none) else some l).bind fun l1 =>
    if 0 ≤ n / 8 then (if n / 8 < (l1.length : Int) then (if 0 ≤ Go.bits .and .i64 n 7 then some (l1.set (n / 8).toNat (Go.bits .or .u8 (rd l1 (n / 8)) ((shl .i64 bit (Go.bits .and .i64 n 7)) % 256)), wrap64 (n + 1)) else none) else none) else none

theorem put1_some {l : List Int} {nn bit : Int} {l' : List Int} {n' : Int} (h : put1 l nn bit = some (l', n')) :
    ∃ l1 : List Int, ((Go.bits .and .i64 nn 7 = 0 ∧ l.length < 140737488355328 ∧ l1 = l ++ [0]) ∨ (¬ Go.bits .and .i64 nn 7 = 0 ∧ l1 = l)) ∧ 0 ≤ nn / 8 ∧ nn / 8 < (l1.length : Int) ∧ 0 ≤ Go.bits .and .i64 nn 7 ∧
      l' = l1.set (nn / 8).toNat (Go.bits .or .u8 (rd l1 (nn / 8)) ((shl .i64 bit (Go.bits .and .i64 nn 7)) % 256)) ∧ n' = wrap64 (nn + 1) := by
  unfold put1 at h
  obtain ⟨l1, h1, h2⟩ := Option.bind_eq_some_iff.mp h
  by_cases q0 : 0 ≤ nn / 8
  · rw [if_pos q0] at h2
    by_cases q1 : nn / 8 < (l1.length : Int)
    · rw [if_pos q1] at h2
      by_cases q2 : 0 ≤ Go.bits .and .i64 nn 7
      · rw [if_pos q2] at h2
        injection h2 with h2
        injection h2 with h3 h4
        refine ⟨l1, ?_, q0, q1, q2, h3.symm, h4.symm⟩
        by_cases c3 : Go.bits .and .i64 nn 7 = 0
        · rw [if_pos c3] at h1
          by_cases hl : l.length < 140737488355328
          · rw [if_pos hl] at h1
            injection h1 with h1
            exact .inl ⟨c3, hl, h1.symm⟩
          · rw [if_neg hl] at h1
            cases h1
        · rw [if_neg c3] at h1
          injection h1 with h1
          exact .inr ⟨c3, h1.symm⟩
      · rw [if_neg q2] at h2
        cases h2
    · rw [if_neg q1] at h2
      cases h2
  · rw [if_neg q0] at h2
    cases h2

/-- What a bit leaves: the variable, the row, and all else as it was. -/
def PutPost (gv gb : Nat) (l' : List Int) (n' : Int) (v : Value) (w0 w : World) (e : Ending) (w' : World) : Prop :=
  e = .returned (.tuple #[]) ∧ ∃ v', w'.heap[gv]? = some (.cells #[.pointer (some ⟨gb, 0, none⟩)] 79 (0, 0)) ∧ w'.heap[gb]? = some (.cells #[v', .int .i64 n'] 36 (0, 0)) ∧ Kd.R (Kd.int .u8) 5 w' w0.heap.size (fun _ => True) v' l' ∧ Below w0.heap.size w0 w' ∧ KeepBut w w' gb v.ownBlock
set_option maxHeartbeats 4000000 in
set_option maxRecDepth 100000 in
theorem bits_writer1.calls
    (gv gb : Nat) (l : List Int) (nn bit : Int) (l' : List Int) (n' : Int) (v : Value) (w0 w : World) (hB : Below w0.heap.size w0 w) (hgv : w0.heap.size ≤ gv) (hgb : w0.heap.size ≤ gb)
    (bv : w.heap[gv]? = some (.cells #[.pointer (some ⟨gb, 0, none⟩)] 79 (0, 0))) (bb : w.heap[gb]? = some (.cells #[v, .int .i64 nn] 36 (0, 0))) (ho : Kd.R (Kd.int .u8) 5 w w0.heap.size (fun _ => True) v l) (h : put1 l nn bit = some (l', n')) :
    Calls Try.prog 48 #[.int .i64 bit, .pointer (some ⟨gv, 0, none⟩)] w (PutPost gv gb l' n' v w0 w) := by
  have HO := Aside0.mk ho
  have BV := Aside0.mk bv
  have BB := Aside0.mk bb
  have HB := Aside0.mk hB
  have HK := Aside0.mk (KeepBut.refl w gb v.ownBlock)
  have GVL := Aside0.mk hgv
  have GBL := Aside0.mk hgb
  have NVB := Aside0.mk (blk_ne bv bb (by decide))
  obtain ⟨A, c, ev⟩ := Kd.R_slice ho
  subst ev
  have HV := Aside0.mk (show RowOk w (Value.slice A l.length c).ownBlock (Value.slice A l.length c) from fun k hk => .inl hk)
  clear ho bv bb hB hgv hgb
  obtain ⟨l1, hl1, q0, q1, q2, rfl, rfl⟩ := put1_some h
  clear h
  obtain ⟨j7, hj7⟩ : ∃ j_ : Int, Go.bits .and .i64 nn 7 = j_ := ⟨_, rfl⟩
  rw [hj7] at q2 ⊢
  obtain ⟨js, hjs⟩ : ∃ j_ : Int, shl .i64 bit j7 = j_ := ⟨_, rfl⟩
  rw [hjs]
  have hjs_ : (wrap64 (bit * 2 ^ min j7.toNat 64)) = js := (i64_w _).symm.trans hjs
  have hjs2 : (IntKind.i64.wrap (bit * 2 ^ min j7.toNat 64)) = js := hjs
  have hjsz : j7 ≤ 64 → (IntKind.i64.wrap (bit * 2 ^ j7.toNat)) = js := shl_small hjs
  have hjsx : j7 ≤ 64 → (wrap64 (bit * 2 ^ j7.toNat)) = js := fun h_ => (i64_w _).symm.trans (hjsz h_)
  obtain ⟨jx, hjx⟩ : ∃ j_ : Int, nn / 8 = j_ := ⟨_, rfl⟩
  rw [hjx] at q0 q1 ⊢
  obtain ⟨ln, hln⟩ : ∃ y_ : List Int, y_ = l1.set jx.toNat (Go.bits .or .u8 (rd l1 jx) (js % 256)) := ⟨_, rfl⟩
  rw [← hln]
  have NL := Aside0.mk hln
  clear hln
  have Q2 := eq_true q2
  have Q0 := Aside0.mk (decide_eq_true q0)
  have Q1 := Aside0.mk (decide_eq_true q1)
  have q0b : decide (0 ≤ jx) = true := decide_eq_true q0
  have q1b : decide (jx < (l1.length : Int)) = true := decide_eq_true q1
  have q2b : decide (0 ≤ j7) = true := decide_eq_true q2
  clear q0 q1 q2
  rw [hj7] at hl1
  rcases hl1 with ⟨c3, hl, hly⟩ | ⟨c3, rfl⟩
  · skip
    have LM := Aside0.mk hl
    have NY := Aside0.mk hly
    clear hl hly
    have c3b0 : (j7 == 0) = true := beq_iff_eq.mpr c3
    have hjs3 := hjsz (by omega)
    have hjs4 := hjsx (by omega)
    clear c3
    have hc1 : w.cell? ⟨gv, 0, none⟩ = some (.pointer (some ⟨gb, 0, none⟩)) := (blk_cell BV.out 0).trans rfl
    have hc2 : w.cell? ⟨gb, 0, none⟩ = some (.slice A l.length c) := (blk_cell BB.out 0).trans rfl
    have hc3 : w.cell? ⟨gb, 1, none⟩ = some (.int .i64 nn) := (blk_cell BB.out 1).trans rfl
    have hf1 := blk_frozen BV.out 0
    have hf2 := blk_frozen BB.out 0
    have hf3 := blk_frozen BB.out 1
    go_enter Try.func48, Try.ntmps48
    go_wp2
    clear hc1 hc2 hc3 hf1 hf2 hf3
    have n0 := Aside0.mk (Kd.R_drew HO.out)
    have n1 := Aside0.mk (blk_drew BV.out)
    have n2 := Aside0.mk (blk_drew BB.out)
    have n3 := Aside0.mk (below_drew1 HB.out)
    have n4 := Aside0.mk (keep_drew HK.out)
    clear HO BV BB HB HK
    have HO := n0
    have BV := n1
    have BB := n2
    have HB := n3
    have HK := n4
    clear n0 n1 n2 n3 n4
    refine start_ (n := 10) (S := fun w' => w'.cell? ⟨gv, 0, none⟩ = some (.pointer (some ⟨gb, 0, none⟩)) ∧ w'.cell? ⟨gb, 0, none⟩ = some (.slice A l.length c)) (ds := [9]) #[false, false, false, false, false, false, false, false, false, false] (by kernel_rfl) rfl rfl ⟨(blk_cell BV.out 0).trans rfl, (blk_cell BB.out 0).trans rfl⟩ (fun hHeld => ?_)
    generalize w.drew = wd at HO BV BB HB HK hHeld ⊢
    refine take_ (i := 0) (N := some 9) (v := ?_) (a' := ?_) #[true, false, false, false, false, false, false, false, false, false] rfl rfl (by kernel_rfl) (fun _ _ _ h => h) (Or.inl ⟨by rfl, ?_⟩) hHeld ?_ ?_
    rotate_left
    · rintro w' ⟨s0, s1⟩
      go_simp
      with_reducible rfl
    rotate_left
    · simp only [Act.put, List.setIfInBounds_toArray, List.set_cons_zero, List.set_cons_succ, i64_w, i32_w, u8_w]
      rfl
    refine take_ (i := 1) (N := some 10) (v := ?_) (a' := ?_) #[true, true, false, false, false, false, false, false, false, false] rfl rfl (by kernel_rfl) (fun _ _ _ h => h) (Or.inl ⟨by rfl, ?_⟩) hHeld ?_ ?_
    rotate_left
    · rintro w' ⟨s0, s1⟩
      go_simp
      with_reducible rfl
    rotate_left
    · simp only [Act.put, List.setIfInBounds_toArray, List.set_cons_zero, List.set_cons_succ, i64_w, i32_w, u8_w]
      rfl
    refine pure_ (i := 2) (N := some 11) (v := ?_) (a' := ?_) #[true, true, true, false, false, false, false, false, false, false] rfl rfl (by kernel_rfl) (fun _ _ _ h => h) (Or.inl ⟨by rfl, ?_⟩) ?_ ?_
    rotate_left
    · intro w'
      go_simp
      with_reducible rfl
    rotate_left
    · simp only [Act.put, List.setIfInBounds_toArray, List.set_cons_zero, List.set_cons_succ, i64_w, i32_w, u8_w]
      rfl
    refine pure_ (i := 3) (N := some 12) (v := ?_) (a' := ?_) #[true, true, true, true, false, false, false, false, false, false] rfl rfl (by kernel_rfl) (fun _ _ _ h => h) (Or.inl ⟨by rfl, ?_⟩) ?_ ?_
    rotate_left
    · intro w'
      go_simp
      with_reducible rfl
    rotate_left
    · simp only [Act.put, List.setIfInBounds_toArray, List.set_cons_zero, List.set_cons_succ, i64_w, i32_w, u8_w]
      rfl
    refine take_ (i := 4) (N := some 13) (v := ?_) (a' := ?_) #[true, true, true, true, true, false, false, false, false, false] rfl rfl (by kernel_rfl) (fun _ _ _ h => h) (Or.inl ⟨by rfl, ?_⟩) hHeld ?_ ?_
    rotate_left
    · rintro w' ⟨s0, s1⟩
      go_simp
      with_reducible rfl
    rotate_left
    · simp only [Act.put, List.setIfInBounds_toArray, List.set_cons_zero, List.set_cons_succ, i64_w, i32_w, u8_w]
      rfl
    refine one_ (i := 5) (N := some 14) #[true, true, true, true, true, true, false, false, false, false] rfl rfl (by kernel_rfl) (by decide) (fun K hK => ?_)
    refine Kd.R_lit_step (Kd.int .u8) _ 5 ?hg (N := 14) ?hd (xs := ([0] : List Int)) (inner := [.int .u8 0]) (ok := fun _ => True) (okp := fun _ => True) ?hr ?hp (fun _ hk => hk) trivial (Below.refl _ _) (Nat.le_refl _) (by simp) ?_; (case hd => rfl); (case hg => rfl); (case hr => first | (go_simp; done) | (go_simp; rfl)); (case hp => exact (Reps.snoc (Reps.none _ _) rfl rfl))
    intro v1 w1 ho1 hb hg_ hnew_
    obtain ⟨A1, c1, eo1⟩ := Kd.R_slice ho1
    subst eo1
    have n0 := Aside0.mk ((Kd.R_reads' ho1).2.2)
    have n1 := Aside0.mk (Kd.R_below HO.out hb)
    have n2 := Aside0.mk (blk_below BV.out hb)
    have n3 := Aside0.mk (blk_below BB.out hb)
    have n4 := Aside0.mk (below_then HB.out HB.out.size hb)
    have n5 := Aside0.mk (keep2 HK.out hb)
    clear HO BV BB HB HK
    have HL1 := n0
    have HO := n1
    have BV := n2
    have BB := n3
    have HB := n4
    have HK := n5
    clear n0 n1 n2 n3 n4 n5
    clear hb hg_ hnew_ ho1
    refine hK.out _ _ ⟨(blk_cell BV.out 0).trans rfl, (blk_cell BB.out 0).trans rfl⟩ (fun hHeld => ?_)
    clear hK K
    refine norm_ (a' := ?_) ?_ ?_
    rotate_left
    · show Act.put _ (some 14) _ = _
      simp only [Act.put, List.setIfInBounds_toArray, List.set_cons_zero, List.set_cons_succ, i64_w, i32_w, u8_w]
      rfl
    refine one_ (i := 6) (N := some 15) #[true, true, true, true, true, true, true, false, false, false] rfl rfl (by kernel_rfl) (by decide) (fun K hK => ?_)
    refine Kd.R_append_rows_step (Kd.int .u8) (w0 := w0) w0.heap.size (by rfl) (.tmp 13) (.tmp 14) 34 5 (.int .u8 0) 1 rfl Try.underlying34 info5 rfl (by decide) (by omega) (.slice A l.length c) l [0] _ _ _ (fun _ => True) (fun _ => False) rfl rfl HO.out HL1.out (fun _ _ h => h) (fun _ h => h.elim) (fun _ _ => trivial) HB.out HB.out.size ?aL ?_
    (case aL => have := LM.out; simp; omega)
    intro v2 w2 ho hb hg hat
    rw [← NY.out] at ho
    have n0 := Aside0.mk (ho)
    have n1 := Aside0.mk (blk_grown BV.out hg (Kd.R_ne HO.out BV.out (by decide)))
    have n2 := Aside0.mk (blk_grown BB.out hg (Kd.R_ne HO.out BB.out (by decide)))
    have n3 := Aside0.mk (hb)
    have n4 := Aside0.mk (keep3 HK.out HV.out hg)
    have n5 := Aside0.mk (row_new HV.out HK.out.1 hat)
    clear HO BV BB HB HK HL1 HV
    have HO := n0
    have BV := n1
    have BB := n2
    have HB := n3
    have HK := n4
    have HV := n5
    clear n0 n1 n2 n3 n4 n5
    clear ho hb hg hat
    obtain ⟨A2, c2, eo2⟩ := Kd.R_slice HO.out
    subst eo2
    refine hK.out _ _ ⟨(blk_cell BV.out 0).trans rfl, (blk_cell BB.out 0).trans rfl⟩ (fun hHeld => ?_)
    clear hK K
    refine norm_ (a' := ?_) ?_ ?_
    rotate_left
    · show Act.put _ (some 15) _ = _
      simp only [Act.put, List.setIfInBounds_toArray, List.set_cons_zero, List.set_cons_succ, i64_w, i32_w, u8_w]
      rfl
    refine pure_ (i := 7) (N := some 16) (v := ?_) (a' := ?_) #[true, true, true, true, true, true, true, true, false, false] rfl rfl (by kernel_rfl) (fun _ _ _ h => h) (Or.inl ⟨by rfl, ?_⟩) ?_ ?_
    rotate_left
    · intro w'
      go_simp
      with_reducible rfl
    rotate_left
    · simp only [Act.put, List.setIfInBounds_toArray, List.set_cons_zero, List.set_cons_succ, i64_w, i32_w, u8_w]
      rfl
    refine pure_ (i := 8) (N := some 17) (v := ?_) (a' := ?_) #[true, true, true, true, true, true, true, true, true, false] rfl rfl (by kernel_rfl) (fun _ _ _ h => h) (Or.inl ⟨by rfl, ?_⟩) ?_ ?_
    rotate_left
    · intro w'
      go_simp
      with_reducible rfl
    rotate_left
    · simp only [Act.put, List.setIfInBounds_toArray, List.set_cons_zero, List.set_cons_succ, i64_w, i32_w, u8_w]
      rfl
    refine last_ (i := 9) (N := none) #[true, true, true, true, true, true, true, true, true, true] rfl rfl (by kernel_rfl) (by decide) (fun K hK => ?_)
    have hf2 := blk_frozen BB.out 0
    have hc2 : w2.cell? ⟨gb, 0, none⟩ = some (.slice A l.length c) := (blk_cell BB.out 0).trans rfl
    refine skip_ (w1 := ?_) (by rfl) rfl ?_ ?_
    rotate_left
    · go_simp
      rfl
    refine hK.out _ _ ?_
    clear hK K
    refine done_ (by kernel_rfl) ?_
    have n0 := Aside0.mk (Kd.R_mono (Kd.R_far (p := ⟨gb, 0, none⟩) (Kd.R_types HO.out BB.out (by decide)) (fun _ hk => hk.2) (.slice A2 l1.length c2)) (fun _ hk => hk.1))
    have n1 := Aside0.mk (blk_far (p := ⟨gb, 0, none⟩) BV.out NVB.out (.slice A2 l1.length c2))
    have n2 := Aside0.mk (blk_put BB.out 0 (.slice A2 l1.length c2) rfl)
    have n3 := Aside0.mk (HB.out.setCell (p := ⟨gb, 0, none⟩) GBL.out (.slice A2 l1.length c2))
    have n4 := Aside0.mk (KeepBut.set_ HK.out 0 (.slice A2 l1.length c2))
    clear HO BV BB HB HK hHeld hf2 hc2
    have HO := n0
    have BV := n1
    have BB := n2
    have HB := n3
    have HK := n4
    clear n0 n1 n2 n3 n4
    generalize w2.setCell ⟨gb, 0, none⟩ (.slice A2 l1.length c2) = wx at HO BV BB HB HK ⊢
    clear NY LM
    have hc1 : wx.cell? ⟨gv, 0, none⟩ = some (.pointer (some ⟨gb, 0, none⟩)) := (blk_cell BV.out 0).trans rfl
    have hc2 : wx.cell? ⟨gb, 0, none⟩ = some (.slice A2 l1.length c2) := (blk_cell BB.out 0).trans rfl
    have hc3 : wx.cell? ⟨gb, 1, none⟩ = some (.int .i64 nn) := (blk_cell BB.out 1).trans rfl
    have hf1 := blk_frozen BV.out 0
    have hf2 := blk_frozen BB.out 0
    have hf3 := blk_frozen BB.out 1
    go_wp2
    clear hc1 hc2 hc3 hf1 hf2 hf3
    have P0 : (0 : Int) ≤ jx := of_decide_eq_true Q0.out
    have P1 : jx < (l1.length : Int) := of_decide_eq_true Q1.out
    obtain ⟨go, co, eo, ggo, glo, clo, hgo⟩ := Kd.R_form HO.out (by omega)
    injection eo with ea en ec
    subst ea
    subst ec
    clear en
    have n0 := Aside0.mk (Kd.R_drew HO.out)
    have n1 := Aside0.mk (blk_drew BV.out)
    have n2 := Aside0.mk (blk_drew BB.out)
    have n3 := Aside0.mk (below_drew1 HB.out)
    have n4 := Aside0.mk (keep_drew HK.out)
    have n5 := Aside0.mk (ggo)
    clear HO BV BB HB HK hgo ggo glo
    have HO := n0
    have BV := n1
    have BB := n2
    have HB := n3
    have HK := n4
    have GL := n5
    clear n0 n1 n2 n3 n4 n5
    obtain ⟨hx0, hf0⟩ := Kd.R_celln 0 HO.out jx P0 P1
    have HP := Aside0.mk (Kd.R_putn HO.out jx (Go.bits .or .u8 (rd l1 jx) (js % 256)))
    have HX := Aside0.mk hx0
    clear hx0
    have HFX := Aside0.mk hf0
    clear hf0
    have NV := Aside0.mk (fun e : gv = go => (Kd.R_ne HO.out BV.out (by decide)) (by rw [e]; rfl))
    have NB := Aside0.mk (fun e : gb = go => (Kd.R_ne HO.out BB.out (by decide)) (by rw [e]; rfl))
    replace P0 := eq_true P0
    replace P1 := eq_true P1
    refine start_ (n := 22) (S := fun w' => w'.cell? ⟨gv, 0, none⟩ = some (.pointer (some ⟨gb, 0, none⟩)) ∧ w'.cell? ⟨gb, 0, none⟩ = some (.slice (some ⟨go, 0, none⟩) l1.length c2) ∧ w'.cell? ⟨gb, 1, none⟩ = some (.int .i64 nn) ∧ w'.cell? ⟨go, jx.toNat, none⟩ = some (.int .u8 (rd l1 jx))) (ds := [21]) #[false, false, false, false, false, false, false, false, false, false, false, false, false, false, false, false, false, false, false, false, false, false] (by kernel_rfl) rfl rfl ⟨(blk_cell BV.out 0).trans rfl, (blk_cell BB.out 0).trans rfl, (blk_cell BB.out 1).trans rfl, HX.out⟩ (fun hHeld => ?_)
    generalize wx.drew = we at HO BV BB HB HK HX HFX HP hHeld ⊢
    refine pure_ (i := 11) (N := some 29) (v := ?_) (a' := ?_) #[false, false, false, false, false, false, false, false, false, false, false, true, false, false, false, false, false, false, false, false, false, false] rfl rfl (by kernel_rfl) (fun _ _ _ h => h) (Or.inl ⟨by rfl, ?_⟩) ?_ ?_
    rotate_left
    · intro w'
      go_simp
      with_reducible rfl
    rotate_left
    · simp only [Act.put, List.setIfInBounds_toArray, List.set_cons_zero, List.set_cons_succ, i64_w, i32_w, u8_w]
      rfl
    refine take_ (i := 0) (N := some 18) (v := ?_) (a' := ?_) #[true, false, false, false, false, false, false, false, false, false, false, true, false, false, false, false, false, false, false, false, false, false] rfl rfl (by kernel_rfl) (fun _ _ _ h => h) (Or.inl ⟨by rfl, ?_⟩) hHeld ?_ ?_
    rotate_left
    · rintro w' ⟨s0, s1, s2, s3⟩
      go_simp
      with_reducible rfl
    rotate_left
    · simp only [Act.put, List.setIfInBounds_toArray, List.set_cons_zero, List.set_cons_succ, i64_w, i32_w, u8_w]
      rfl
    refine pure_ (i := 1) (N := some 19) (v := ?_) (a' := ?_) #[true, true, false, false, false, false, false, false, false, false, false, true, false, false, false, false, false, false, false, false, false, false] rfl rfl (by kernel_rfl) (fun _ _ _ h => h) (Or.inl ⟨by rfl, ?_⟩) ?_ ?_
    rotate_left
    · intro w'
      go_simp
      with_reducible rfl
    rotate_left
    · simp only [Act.put, List.setIfInBounds_toArray, List.set_cons_zero, List.set_cons_succ, i64_w, i32_w, u8_w]
      rfl
    refine pure_ (i := 2) (N := some 20) (v := ?_) (a' := ?_) #[true, true, true, false, false, false, false, false, false, false, false, true, false, false, false, false, false, false, false, false, false, false] rfl rfl (by kernel_rfl) (fun _ _ _ h => h) (Or.inl ⟨by rfl, ?_⟩) ?_ ?_
    rotate_left
    · intro w'
      go_simp
      with_reducible rfl
    rotate_left
    · simp only [Act.put, List.setIfInBounds_toArray, List.set_cons_zero, List.set_cons_succ, i64_w, i32_w, u8_w]
      rfl
    refine take_ (i := 3) (N := some 21) (v := ?_) (a' := ?_) #[true, true, true, true, false, false, false, false, false, false, false, true, false, false, false, false, false, false, false, false, false, false] rfl rfl (by kernel_rfl) (fun _ _ _ h => h) (Or.inl ⟨by rfl, ?_⟩) hHeld ?_ ?_
    rotate_left
    · rintro w' ⟨s0, s1, s2, s3⟩
      go_simp
      with_reducible rfl
    rotate_left
    · simp only [Act.put, List.setIfInBounds_toArray, List.set_cons_zero, List.set_cons_succ, i64_w, i32_w, u8_w]
      rfl
    refine take_ (i := 4) (N := some 22) (v := ?_) (a' := ?_) #[true, true, true, true, true, false, false, false, false, false, false, true, false, false, false, false, false, false, false, false, false, false] rfl rfl (by kernel_rfl) (fun _ _ _ h => h) (Or.inl ⟨by rfl, ?_⟩) hHeld ?_ ?_
    rotate_left
    · rintro w' ⟨s0, s1, s2, s3⟩
      go_simp
      with_reducible rfl
    rotate_left
    · simp only [Act.put, List.setIfInBounds_toArray, List.set_cons_zero, List.set_cons_succ, i64_w, i32_w, u8_w]
      rfl
    refine pure_ (i := 5) (N := some 23) (v := ?_) (a' := ?_) #[true, true, true, true, true, true, false, false, false, false, false, true, false, false, false, false, false, false, false, false, false, false] rfl rfl (by kernel_rfl) (fun _ _ _ h => h) (Or.inl ⟨by rfl, ?_⟩) ?_ ?_
    rotate_left
    · intro w'
      go_simp
      with_reducible rfl
    rotate_left
    · simp only [Act.put, List.setIfInBounds_toArray, List.set_cons_zero, List.set_cons_succ, i64_w, i32_w, u8_w]
      rfl
    refine pure_ (i := 6) (N := some 24) (v := ?_) (a' := ?_) #[true, true, true, true, true, true, true, false, false, false, false, true, false, false, false, false, false, false, false, false, false, false] rfl rfl (by kernel_rfl) (fun _ _ _ h => h) (Or.inl ⟨by rfl, ?_⟩) ?_ ?_
    rotate_left
    · intro w'
      go_simp
      with_reducible rfl
    rotate_left
    · simp only [Act.put, List.setIfInBounds_toArray, List.set_cons_zero, List.set_cons_succ, i64_w, i32_w, u8_w]
      rfl
    refine take_ (i := 7) (N := some 25) (v := ?_) (a' := ?_) #[true, true, true, true, true, true, true, true, false, false, false, true, false, false, false, false, false, false, false, false, false, false] rfl rfl (by kernel_rfl) (fun _ _ _ h => h) (Or.inl ⟨by rfl, ?_⟩) hHeld ?_ ?_
    rotate_left
    · rintro w' ⟨s0, s1, s2, s3⟩
      go_simp
      with_reducible rfl
    rotate_left
    · simp only [Act.put, List.setIfInBounds_toArray, List.set_cons_zero, List.set_cons_succ, i64_w, i32_w, u8_w]
      rfl
    refine pure_ (i := 8) (N := some 26) (v := ?_) (a' := ?_) #[true, true, true, true, true, true, true, true, true, false, false, true, false, false, false, false, false, false, false, false, false, false] rfl rfl (by kernel_rfl) (fun _ _ _ h => h) (Or.inl ⟨by rfl, ?_⟩) ?_ ?_
    rotate_left
    · intro w'
      go_simp
      with_reducible rfl
    rotate_left
    · simp only [Act.put, List.setIfInBounds_toArray, List.set_cons_zero, List.set_cons_succ, i64_w, i32_w, u8_w]
      rfl
    refine pure_ (i := 9) (N := some 27) (v := ?_) (a' := ?_) #[true, true, true, true, true, true, true, true, true, true, false, true, false, false, false, false, false, false, false, false, false, false] rfl rfl (by kernel_rfl) (fun _ _ _ h => h) (Or.inl ⟨by rfl, ?_⟩) ?_ ?_
    rotate_left
    · intro w'
      go_simp
      with_reducible rfl
    rotate_left
    · simp only [Act.put, List.setIfInBounds_toArray, List.set_cons_zero, List.set_cons_succ, i64_w, i32_w, u8_w]
      rfl
    refine take_ (i := 10) (N := some 28) (v := ?_) (a' := ?_) #[true, true, true, true, true, true, true, true, true, true, true, true, false, false, false, false, false, false, false, false, false, false] rfl rfl (by kernel_rfl) (fun _ _ _ h => h) (Or.inl ⟨by rfl, ?_⟩) hHeld ?_ ?_
    rotate_left
    · rintro w' ⟨s0, s1, s2, s3⟩
      go_simp
      with_reducible rfl
    rotate_left
    · simp only [Act.put, List.setIfInBounds_toArray, List.set_cons_zero, List.set_cons_succ, i64_w, i32_w, u8_w]
      rfl
    refine take_ (i := 12) (N := some 30) (v := ?_) (a' := ?_) #[true, true, true, true, true, true, true, true, true, true, true, true, true, false, false, false, false, false, false, false, false, false] rfl rfl (by kernel_rfl) (fun _ _ _ h => h) (Or.inl ⟨by rfl, ?_⟩) hHeld ?_ ?_
    rotate_left
    · rintro w' ⟨s0, s1, s2, s3⟩
      go_simp
      with_reducible rfl
    rotate_left
    · simp only [Act.put, List.setIfInBounds_toArray, List.set_cons_zero, List.set_cons_succ, i64_w, i32_w, u8_w]
      rfl
    refine pure_ (i := 13) (N := some 31) (v := ?_) (a' := ?_) #[true, true, true, true, true, true, true, true, true, true, true, true, true, true, false, false, false, false, false, false, false, false] rfl rfl (by kernel_rfl) (fun _ _ _ h => h) (Or.inl ⟨by rfl, ?_⟩) ?_ ?_
    rotate_left
    · intro w'
      go_simp
      with_reducible rfl
    rotate_left
    · simp only [Act.put, List.setIfInBounds_toArray, List.set_cons_zero, List.set_cons_succ, i64_w, i32_w, u8_w]
      rfl
    refine pure_ (i := 14) (N := some 32) (v := ?_) (a' := ?_) #[true, true, true, true, true, true, true, true, true, true, true, true, true, true, true, false, false, false, false, false, false, false] rfl rfl (by kernel_rfl) (fun _ _ _ h => h) (Or.inl ⟨by rfl, ?_⟩) ?_ ?_
    rotate_left
    · intro w'
      go_simp
      with_reducible rfl
    rotate_left
    · simp only [Act.put, List.setIfInBounds_toArray, List.set_cons_zero, List.set_cons_succ, i64_w, i32_w, u8_w]
      rfl
    refine take_ (i := 15) (N := some 33) (v := ?_) (a' := ?_) #[true, true, true, true, true, true, true, true, true, true, true, true, true, true, true, true, false, false, false, false, false, false] rfl rfl (by kernel_rfl) (fun _ _ _ h => h) (Or.inl ⟨by rfl, ?_⟩) hHeld ?_ ?_
    rotate_left
    · rintro w' ⟨s0, s1, s2, s3⟩
      go_simp
      with_reducible rfl
    rotate_left
    · simp only [Act.put, List.setIfInBounds_toArray, List.set_cons_zero, List.set_cons_succ, i64_w, i32_w, u8_w]
      rfl
    refine pure_ (i := 16) (N := some 34) (v := ?_) (a' := ?_) #[true, true, true, true, true, true, true, true, true, true, true, true, true, true, true, true, true, false, false, false, false, false] rfl rfl (by kernel_rfl) (fun _ _ _ h => h) (Or.inl ⟨by rfl, ?_⟩) ?_ ?_
    rotate_left
    · intro w'
      go_simp
      with_reducible rfl
    rotate_left
    · simp only [Act.put, List.setIfInBounds_toArray, List.set_cons_zero, List.set_cons_succ, i64_w, i32_w, u8_w]
      rfl
    refine pure_ (i := 17) (N := some 35) (v := ?_) (a' := ?_) #[true, true, true, true, true, true, true, true, true, true, true, true, true, true, true, true, true, true, false, false, false, false] rfl rfl (by kernel_rfl) (fun _ _ _ h => h) (Or.inl ⟨by rfl, ?_⟩) ?_ ?_
    rotate_left
    · intro w'
      go_simp
      with_reducible rfl
    rotate_left
    · simp only [Act.put, List.setIfInBounds_toArray, List.set_cons_zero, List.set_cons_succ, i64_w, i32_w, u8_w]
      rfl
    refine pure_ (i := 18) (N := some 36) (v := ?_) (a' := ?_) #[true, true, true, true, true, true, true, true, true, true, true, true, true, true, true, true, true, true, true, false, false, false] rfl rfl (by kernel_rfl) (fun _ _ _ h => h) (Or.inl ⟨by rfl, ?_⟩) ?_ ?_
    rotate_left
    · intro w'
      go_simp
      with_reducible rfl
    rotate_left
    · simp only [Act.put, List.setIfInBounds_toArray, List.set_cons_zero, List.set_cons_succ, i64_w, i32_w, u8_w]
      rfl
    refine pure_ (i := 19) (N := some 37) (v := ?_) (a' := ?_) #[true, true, true, true, true, true, true, true, true, true, true, true, true, true, true, true, true, true, true, true, false, false] rfl rfl (by kernel_rfl) (fun _ _ _ h => h) (Or.inl ⟨by rfl, ?_⟩) ?_ ?_
    rotate_left
    · intro w'
      go_simp
      with_reducible rfl
    rotate_left
    · simp only [Act.put, List.setIfInBounds_toArray, List.set_cons_zero, List.set_cons_succ, i64_w, i32_w, u8_w]
      rfl
    refine pure_ (i := 20) (N := some 38) (v := ?_) (a' := ?_) #[true, true, true, true, true, true, true, true, true, true, true, true, true, true, true, true, true, true, true, true, true, false] rfl rfl (by kernel_rfl) (fun _ _ _ h => h) (Or.inl ⟨by rfl, ?_⟩) ?_ ?_
    rotate_left
    · intro w'
      go_simp
      with_reducible rfl
    rotate_left
    · simp only [Act.put, List.setIfInBounds_toArray, List.set_cons_zero, List.set_cons_succ, i64_w, i32_w, u8_w]
      rfl
    refine last_ (i := 21) (N := none) #[true, true, true, true, true, true, true, true, true, true, true, true, true, true, true, true, true, true, true, true, true, true] rfl rfl (by kernel_rfl) (by decide) (fun K hK => ?_)
    have hf0 := HFX.out
    have hx0 := HX.out
    refine skip_ (w1 := ?_) (by rfl) rfl ?_ ?_
    rotate_left
    · go_simp
      rfl
    refine hK.out _ _ ?_
    clear hK K
    refine done_ (by kernel_rfl) ?_
    rw [← NL.out] at HP
    have HVg := HV.out go rfl
    have n0 := Aside0.mk (HP.out)
    have n1 := Aside0.mk (blk_far (p := ⟨go, jx.toNat, none⟩) BV.out NV.out (.int .u8 (Go.bits .or .u8 (rd l1 jx) (js % 256))))
    have n2 := Aside0.mk (blk_far (p := ⟨go, jx.toNat, none⟩) BB.out NB.out (.int .u8 (Go.bits .or .u8 (rd l1 jx) (js % 256))))
    have n3 := Aside0.mk (HB.out.setCell (p := ⟨go, jx.toNat, none⟩) GL.out (.int .u8 (Go.bits .or .u8 (rd l1 jx) (js % 256))))
    have n4 := Aside0.mk (keep_row (o := jx.toNat) HK.out HVg (.int .u8 (Go.bits .or .u8 (rd l1 jx) (js % 256))))
    clear HO BV BB HB HK hHeld HX HFX HP HVg hf0 hx0
    have HO := n0
    have BV := n1
    have BB := n2
    have HB := n3
    have HK := n4
    clear n0 n1 n2 n3 n4
    generalize we.setCell ⟨go, jx.toNat, none⟩ (.int .u8 (Go.bits .or .u8 (rd l1 jx) (js % 256))) = wy at HO BV BB HB HK ⊢
    have hc1 : wy.cell? ⟨gv, 0, none⟩ = some (.pointer (some ⟨gb, 0, none⟩)) := (blk_cell BV.out 0).trans rfl
    have hc2 : wy.cell? ⟨gb, 0, none⟩ = some (.slice (some ⟨go, 0, none⟩) l1.length c2) := (blk_cell BB.out 0).trans rfl
    have hc3 : wy.cell? ⟨gb, 1, none⟩ = some (.int .i64 nn) := (blk_cell BB.out 1).trans rfl
    have hf1 := blk_frozen BV.out 0
    have hf2 := blk_frozen BB.out 0
    have hf3 := blk_frozen BB.out 1
    go_wp2
    first | go_end0 | ((try simp only [Exit.inBlock, Exit.then]); refine bodyPost_ret (results_none rfl _ _ _) rfl ?_)
    refine ⟨rfl, .slice (some ⟨go, 0, none⟩) l1.length c2, blk_far (p := ⟨gb, 1, none⟩) BV.out NVB.out _, blk_put BB.out 1 _ rfl, Kd.R_mono (Kd.R_far (p := ⟨gb, 1, none⟩) (Kd.R_types HO.out BB.out (by decide)) (fun _ hk => hk.2) _) (fun _ hk => hk.1), HB.out.setCell (p := ⟨gb, 1, none⟩) GBL.out _, KeepBut.set_ HK.out 1 _⟩
  · skip
    have c3b0 : (j7 == 0) = false := beq_eq_false_iff_ne.mpr c3
    clear c3
    have hc1 : w.cell? ⟨gv, 0, none⟩ = some (.pointer (some ⟨gb, 0, none⟩)) := (blk_cell BV.out 0).trans rfl
    have hc2 : w.cell? ⟨gb, 0, none⟩ = some (.slice A l1.length c) := (blk_cell BB.out 0).trans rfl
    have hc3 : w.cell? ⟨gb, 1, none⟩ = some (.int .i64 nn) := (blk_cell BB.out 1).trans rfl
    have hf1 := blk_frozen BV.out 0
    have hf2 := blk_frozen BB.out 0
    have hf3 := blk_frozen BB.out 1
    go_enter Try.func48, Try.ntmps48
    go_wp2
    clear hc1 hc2 hc3 hf1 hf2 hf3
    have P0 : (0 : Int) ≤ jx := of_decide_eq_true Q0.out
    have P1 : jx < (l1.length : Int) := of_decide_eq_true Q1.out
    obtain ⟨go, co, eo, ggo, glo, clo, hgo⟩ := Kd.R_form HO.out (by omega)
    injection eo with ea en ec
    subst ea
    subst ec
    clear en
    have n0 := Aside0.mk (Kd.R_drew HO.out)
    have n1 := Aside0.mk (blk_drew BV.out)
    have n2 := Aside0.mk (blk_drew BB.out)
    have n3 := Aside0.mk (below_drew1 HB.out)
    have n4 := Aside0.mk (keep_drew HK.out)
    have n5 := Aside0.mk (ggo)
    clear HO BV BB HB HK hgo ggo glo
    have HO := n0
    have BV := n1
    have BB := n2
    have HB := n3
    have HK := n4
    have GL := n5
    clear n0 n1 n2 n3 n4 n5
    obtain ⟨hx0, hf0⟩ := Kd.R_celln 0 HO.out jx P0 P1
    have HP := Aside0.mk (Kd.R_putn HO.out jx (Go.bits .or .u8 (rd l1 jx) (js % 256)))
    have HX := Aside0.mk hx0
    clear hx0
    have HFX := Aside0.mk hf0
    clear hf0
    have NV := Aside0.mk (fun e : gv = go => (Kd.R_ne HO.out BV.out (by decide)) (by rw [e]; rfl))
    have NB := Aside0.mk (fun e : gb = go => (Kd.R_ne HO.out BB.out (by decide)) (by rw [e]; rfl))
    replace P0 := eq_true P0
    replace P1 := eq_true P1
    refine start_ (n := 22) (S := fun w' => w'.cell? ⟨gv, 0, none⟩ = some (.pointer (some ⟨gb, 0, none⟩)) ∧ w'.cell? ⟨gb, 0, none⟩ = some (.slice (some ⟨go, 0, none⟩) l1.length c) ∧ w'.cell? ⟨gb, 1, none⟩ = some (.int .i64 nn) ∧ w'.cell? ⟨go, jx.toNat, none⟩ = some (.int .u8 (rd l1 jx))) (ds := [21]) #[false, false, false, false, false, false, false, false, false, false, false, false, false, false, false, false, false, false, false, false, false, false] (by kernel_rfl) rfl rfl ⟨(blk_cell BV.out 0).trans rfl, (blk_cell BB.out 0).trans rfl, (blk_cell BB.out 1).trans rfl, HX.out⟩ (fun hHeld => ?_)
    generalize w.drew = we at HO BV BB HB HK HX HFX HP hHeld ⊢
    refine pure_ (i := 11) (N := some 29) (v := ?_) (a' := ?_) #[false, false, false, false, false, false, false, false, false, false, false, true, false, false, false, false, false, false, false, false, false, false] rfl rfl (by kernel_rfl) (fun _ _ _ h => h) (Or.inl ⟨by rfl, ?_⟩) ?_ ?_
    rotate_left
    · intro w'
      go_simp
      with_reducible rfl
    rotate_left
    · simp only [Act.put, List.setIfInBounds_toArray, List.set_cons_zero, List.set_cons_succ, i64_w, i32_w, u8_w]
      rfl
    refine take_ (i := 0) (N := some 18) (v := ?_) (a' := ?_) #[true, false, false, false, false, false, false, false, false, false, false, true, false, false, false, false, false, false, false, false, false, false] rfl rfl (by kernel_rfl) (fun _ _ _ h => h) (Or.inl ⟨by rfl, ?_⟩) hHeld ?_ ?_
    rotate_left
    · rintro w' ⟨s0, s1, s2, s3⟩
      go_simp
      with_reducible rfl
    rotate_left
    · simp only [Act.put, List.setIfInBounds_toArray, List.set_cons_zero, List.set_cons_succ, i64_w, i32_w, u8_w]
      rfl
    refine pure_ (i := 1) (N := some 19) (v := ?_) (a' := ?_) #[true, true, false, false, false, false, false, false, false, false, false, true, false, false, false, false, false, false, false, false, false, false] rfl rfl (by kernel_rfl) (fun _ _ _ h => h) (Or.inl ⟨by rfl, ?_⟩) ?_ ?_
    rotate_left
    · intro w'
      go_simp
      with_reducible rfl
    rotate_left
    · simp only [Act.put, List.setIfInBounds_toArray, List.set_cons_zero, List.set_cons_succ, i64_w, i32_w, u8_w]
      rfl
    refine pure_ (i := 2) (N := some 20) (v := ?_) (a' := ?_) #[true, true, true, false, false, false, false, false, false, false, false, true, false, false, false, false, false, false, false, false, false, false] rfl rfl (by kernel_rfl) (fun _ _ _ h => h) (Or.inl ⟨by rfl, ?_⟩) ?_ ?_
    rotate_left
    · intro w'
      go_simp
      with_reducible rfl
    rotate_left
    · simp only [Act.put, List.setIfInBounds_toArray, List.set_cons_zero, List.set_cons_succ, i64_w, i32_w, u8_w]
      rfl
    refine take_ (i := 3) (N := some 21) (v := ?_) (a' := ?_) #[true, true, true, true, false, false, false, false, false, false, false, true, false, false, false, false, false, false, false, false, false, false] rfl rfl (by kernel_rfl) (fun _ _ _ h => h) (Or.inl ⟨by rfl, ?_⟩) hHeld ?_ ?_
    rotate_left
    · rintro w' ⟨s0, s1, s2, s3⟩
      go_simp
      with_reducible rfl
    rotate_left
    · simp only [Act.put, List.setIfInBounds_toArray, List.set_cons_zero, List.set_cons_succ, i64_w, i32_w, u8_w]
      rfl
    refine take_ (i := 4) (N := some 22) (v := ?_) (a' := ?_) #[true, true, true, true, true, false, false, false, false, false, false, true, false, false, false, false, false, false, false, false, false, false] rfl rfl (by kernel_rfl) (fun _ _ _ h => h) (Or.inl ⟨by rfl, ?_⟩) hHeld ?_ ?_
    rotate_left
    · rintro w' ⟨s0, s1, s2, s3⟩
      go_simp
      with_reducible rfl
    rotate_left
    · simp only [Act.put, List.setIfInBounds_toArray, List.set_cons_zero, List.set_cons_succ, i64_w, i32_w, u8_w]
      rfl
    refine pure_ (i := 5) (N := some 23) (v := ?_) (a' := ?_) #[true, true, true, true, true, true, false, false, false, false, false, true, false, false, false, false, false, false, false, false, false, false] rfl rfl (by kernel_rfl) (fun _ _ _ h => h) (Or.inl ⟨by rfl, ?_⟩) ?_ ?_
    rotate_left
    · intro w'
      go_simp
      with_reducible rfl
    rotate_left
    · simp only [Act.put, List.setIfInBounds_toArray, List.set_cons_zero, List.set_cons_succ, i64_w, i32_w, u8_w]
      rfl
    refine pure_ (i := 6) (N := some 24) (v := ?_) (a' := ?_) #[true, true, true, true, true, true, true, false, false, false, false, true, false, false, false, false, false, false, false, false, false, false] rfl rfl (by kernel_rfl) (fun _ _ _ h => h) (Or.inl ⟨by rfl, ?_⟩) ?_ ?_
    rotate_left
    · intro w'
      go_simp
      with_reducible rfl
    rotate_left
    · simp only [Act.put, List.setIfInBounds_toArray, List.set_cons_zero, List.set_cons_succ, i64_w, i32_w, u8_w]
      rfl
    refine take_ (i := 7) (N := some 25) (v := ?_) (a' := ?_) #[true, true, true, true, true, true, true, true, false, false, false, true, false, false, false, false, false, false, false, false, false, false] rfl rfl (by kernel_rfl) (fun _ _ _ h => h) (Or.inl ⟨by rfl, ?_⟩) hHeld ?_ ?_
    rotate_left
    · rintro w' ⟨s0, s1, s2, s3⟩
      go_simp
      with_reducible rfl
    rotate_left
    · simp only [Act.put, List.setIfInBounds_toArray, List.set_cons_zero, List.set_cons_succ, i64_w, i32_w, u8_w]
      rfl
    refine pure_ (i := 8) (N := some 26) (v := ?_) (a' := ?_) #[true, true, true, true, true, true, true, true, true, false, false, true, false, false, false, false, false, false, false, false, false, false] rfl rfl (by kernel_rfl) (fun _ _ _ h => h) (Or.inl ⟨by rfl, ?_⟩) ?_ ?_
    rotate_left
    · intro w'
      go_simp
      with_reducible rfl
    rotate_left
    · simp only [Act.put, List.setIfInBounds_toArray, List.set_cons_zero, List.set_cons_succ, i64_w, i32_w, u8_w]
      rfl
    refine pure_ (i := 9) (N := some 27) (v := ?_) (a' := ?_) #[true, true, true, true, true, true, true, true, true, true, false, true, false, false, false, false, false, false, false, false, false, false] rfl rfl (by kernel_rfl) (fun _ _ _ h => h) (Or.inl ⟨by rfl, ?_⟩) ?_ ?_
    rotate_left
    · intro w'
      go_simp
      with_reducible rfl
    rotate_left
    · simp only [Act.put, List.setIfInBounds_toArray, List.set_cons_zero, List.set_cons_succ, i64_w, i32_w, u8_w]
      rfl
    refine take_ (i := 10) (N := some 28) (v := ?_) (a' := ?_) #[true, true, true, true, true, true, true, true, true, true, true, true, false, false, false, false, false, false, false, false, false, false] rfl rfl (by kernel_rfl) (fun _ _ _ h => h) (Or.inl ⟨by rfl, ?_⟩) hHeld ?_ ?_
    rotate_left
    · rintro w' ⟨s0, s1, s2, s3⟩
      go_simp
      with_reducible rfl
    rotate_left
    · simp only [Act.put, List.setIfInBounds_toArray, List.set_cons_zero, List.set_cons_succ, i64_w, i32_w, u8_w]
      rfl
    refine take_ (i := 12) (N := some 30) (v := ?_) (a' := ?_) #[true, true, true, true, true, true, true, true, true, true, true, true, true, false, false, false, false, false, false, false, false, false] rfl rfl (by kernel_rfl) (fun _ _ _ h => h) (Or.inl ⟨by rfl, ?_⟩) hHeld ?_ ?_
    rotate_left
    · rintro w' ⟨s0, s1, s2, s3⟩
      go_simp
      with_reducible rfl
    rotate_left
    · simp only [Act.put, List.setIfInBounds_toArray, List.set_cons_zero, List.set_cons_succ, i64_w, i32_w, u8_w]
      rfl
    refine pure_ (i := 13) (N := some 31) (v := ?_) (a' := ?_) #[true, true, true, true, true, true, true, true, true, true, true, true, true, true, false, false, false, false, false, false, false, false] rfl rfl (by kernel_rfl) (fun _ _ _ h => h) (Or.inl ⟨by rfl, ?_⟩) ?_ ?_
    rotate_left
    · intro w'
      go_simp
      with_reducible rfl
    rotate_left
    · simp only [Act.put, List.setIfInBounds_toArray, List.set_cons_zero, List.set_cons_succ, i64_w, i32_w, u8_w]
      rfl
    refine pure_ (i := 14) (N := some 32) (v := ?_) (a' := ?_) #[true, true, true, true, true, true, true, true, true, true, true, true, true, true, true, false, false, false, false, false, false, false] rfl rfl (by kernel_rfl) (fun _ _ _ h => h) (Or.inl ⟨by rfl, ?_⟩) ?_ ?_
    rotate_left
    · intro w'
      go_simp
      with_reducible rfl
    rotate_left
    · simp only [Act.put, List.setIfInBounds_toArray, List.set_cons_zero, List.set_cons_succ, i64_w, i32_w, u8_w]
      rfl
    refine take_ (i := 15) (N := some 33) (v := ?_) (a' := ?_) #[true, true, true, true, true, true, true, true, true, true, true, true, true, true, true, true, false, false, false, false, false, false] rfl rfl (by kernel_rfl) (fun _ _ _ h => h) (Or.inl ⟨by rfl, ?_⟩) hHeld ?_ ?_
    rotate_left
    · rintro w' ⟨s0, s1, s2, s3⟩
      go_simp
      with_reducible rfl
    rotate_left
    · simp only [Act.put, List.setIfInBounds_toArray, List.set_cons_zero, List.set_cons_succ, i64_w, i32_w, u8_w]
      rfl
    refine pure_ (i := 16) (N := some 34) (v := ?_) (a' := ?_) #[true, true, true, true, true, true, true, true, true, true, true, true, true, true, true, true, true, false, false, false, false, false] rfl rfl (by kernel_rfl) (fun _ _ _ h => h) (Or.inl ⟨by rfl, ?_⟩) ?_ ?_
    rotate_left
    · intro w'
      go_simp
      with_reducible rfl
    rotate_left
    · simp only [Act.put, List.setIfInBounds_toArray, List.set_cons_zero, List.set_cons_succ, i64_w, i32_w, u8_w]
      rfl
    refine pure_ (i := 17) (N := some 35) (v := ?_) (a' := ?_) #[true, true, true, true, true, true, true, true, true, true, true, true, true, true, true, true, true, true, false, false, false, false] rfl rfl (by kernel_rfl) (fun _ _ _ h => h) (Or.inl ⟨by rfl, ?_⟩) ?_ ?_
    rotate_left
    · intro w'
      go_simp
      with_reducible rfl
    rotate_left
    · simp only [Act.put, List.setIfInBounds_toArray, List.set_cons_zero, List.set_cons_succ, i64_w, i32_w, u8_w]
      rfl
    refine pure_ (i := 18) (N := some 36) (v := ?_) (a' := ?_) #[true, true, true, true, true, true, true, true, true, true, true, true, true, true, true, true, true, true, true, false, false, false] rfl rfl (by kernel_rfl) (fun _ _ _ h => h) (Or.inl ⟨by rfl, ?_⟩) ?_ ?_
    rotate_left
    · intro w'
      go_simp
      with_reducible rfl
    rotate_left
    · simp only [Act.put, List.setIfInBounds_toArray, List.set_cons_zero, List.set_cons_succ, i64_w, i32_w, u8_w]
      rfl
    refine pure_ (i := 19) (N := some 37) (v := ?_) (a' := ?_) #[true, true, true, true, true, true, true, true, true, true, true, true, true, true, true, true, true, true, true, true, false, false] rfl rfl (by kernel_rfl) (fun _ _ _ h => h) (Or.inl ⟨by rfl, ?_⟩) ?_ ?_
    rotate_left
    · intro w'
      go_simp
      with_reducible rfl
    rotate_left
    · simp only [Act.put, List.setIfInBounds_toArray, List.set_cons_zero, List.set_cons_succ, i64_w, i32_w, u8_w]
      rfl
    refine pure_ (i := 20) (N := some 38) (v := ?_) (a' := ?_) #[true, true, true, true, true, true, true, true, true, true, true, true, true, true, true, true, true, true, true, true, true, false] rfl rfl (by kernel_rfl) (fun _ _ _ h => h) (Or.inl ⟨by rfl, ?_⟩) ?_ ?_
    rotate_left
    · intro w'
      go_simp
      with_reducible rfl
    rotate_left
    · simp only [Act.put, List.setIfInBounds_toArray, List.set_cons_zero, List.set_cons_succ, i64_w, i32_w, u8_w]
      rfl
    refine last_ (i := 21) (N := none) #[true, true, true, true, true, true, true, true, true, true, true, true, true, true, true, true, true, true, true, true, true, true] rfl rfl (by kernel_rfl) (by decide) (fun K hK => ?_)
    have hf0 := HFX.out
    have hx0 := HX.out
    refine skip_ (w1 := ?_) (by rfl) rfl ?_ ?_
    rotate_left
    · go_simp
      rfl
    refine hK.out _ _ ?_
    clear hK K
    refine done_ (by kernel_rfl) ?_
    rw [← NL.out] at HP
    have HVg := HV.out go rfl
    have n0 := Aside0.mk (HP.out)
    have n1 := Aside0.mk (blk_far (p := ⟨go, jx.toNat, none⟩) BV.out NV.out (.int .u8 (Go.bits .or .u8 (rd l1 jx) (js % 256))))
    have n2 := Aside0.mk (blk_far (p := ⟨go, jx.toNat, none⟩) BB.out NB.out (.int .u8 (Go.bits .or .u8 (rd l1 jx) (js % 256))))
    have n3 := Aside0.mk (HB.out.setCell (p := ⟨go, jx.toNat, none⟩) GL.out (.int .u8 (Go.bits .or .u8 (rd l1 jx) (js % 256))))
    have n4 := Aside0.mk (keep_row (o := jx.toNat) HK.out HVg (.int .u8 (Go.bits .or .u8 (rd l1 jx) (js % 256))))
    clear HO BV BB HB HK hHeld HX HFX HP HVg hf0 hx0
    have HO := n0
    have BV := n1
    have BB := n2
    have HB := n3
    have HK := n4
    clear n0 n1 n2 n3 n4
    generalize we.setCell ⟨go, jx.toNat, none⟩ (.int .u8 (Go.bits .or .u8 (rd l1 jx) (js % 256))) = wy at HO BV BB HB HK ⊢
    have hc1 : wy.cell? ⟨gv, 0, none⟩ = some (.pointer (some ⟨gb, 0, none⟩)) := (blk_cell BV.out 0).trans rfl
    have hc2 : wy.cell? ⟨gb, 0, none⟩ = some (.slice (some ⟨go, 0, none⟩) l1.length c) := (blk_cell BB.out 0).trans rfl
    have hc3 : wy.cell? ⟨gb, 1, none⟩ = some (.int .i64 nn) := (blk_cell BB.out 1).trans rfl
    have hf1 := blk_frozen BV.out 0
    have hf2 := blk_frozen BB.out 0
    have hf3 := blk_frozen BB.out 1
    go_wp2
    first | go_end0 | ((try simp only [Exit.inBlock, Exit.then]); refine bodyPost_ret (results_none rfl _ _ _) rfl ?_)
    refine ⟨rfl, .slice (some ⟨go, 0, none⟩) l1.length c, blk_far (p := ⟨gb, 1, none⟩) BV.out NVB.out _, blk_put BB.out 1 _ rfl, Kd.R_mono (Kd.R_far (p := ⟨gb, 1, none⟩) (Kd.R_types HO.out BB.out (by decide)) (fun _ hk => hk.2) _) (fun _ hk => hk.1), HB.out.setCell (p := ⟨gb, 1, none⟩) GBL.out _, KeepBut.set_ HK.out 1 _⟩

def WriterPost (l : List Int) (n : Int) (w : World) (e : Ending) (w' : World) : Prop :=
  ∃ gb gv v, e = .returned (.tuple #[.pointer (some ⟨gb, 0, none⟩), .func (.func 48) #[] #[.pointer (some ⟨gv, 0, none⟩)]]) ∧ w.heap.size ≤ gb ∧ w.heap.size ≤ gv ∧
    w'.heap[gv]? = some (.cells #[.pointer (some ⟨gb, 0, none⟩)] 79 (0, 0)) ∧ w'.heap[gb]? = some (.cells #[v, .int .i64 n] 36 (0, 0)) ∧ Kd.R (Kd.int .u8) 5 w' w.heap.size (fun _ => True) v l ∧ Below w.heap.size w w'
set_option maxHeartbeats 4000000 in
set_option maxRecDepth 100000 in
theorem bits_writer.calls (A : Option Addr) (c : Nat) (l : List Int) (n : Int) (r : List Int) (w : World) (hr : Kd.C (Kd.int .u8) w A l.length l) (hc : l.length ≤ c) (h : slices_Clone_byte_byte.f l = some r) :
    Calls Try.prog 43 #[.agg #[.slice A l.length c, .int .i64 n]] w (WriterPost r n w) := by
  have HR := Aside0.mk hr
  have HC := Aside0.mk hc
  have HH := Aside0.mk h
  clear hr hc h
  go_enter Try.func43, Try.ntmps43
  go_wp2
  have BK := Aside0.mk (blk_drew (blk_new w (.cells #[.slice A l.length c, .int .i64 n] 36 (0, 0))))
  have HB := Aside0.mk (below_drew1 (below_alloc (Below.refl w.heap.size w) (.cells #[.slice A l.length c, .int .i64 n] 36 (0, 0))))
  refine start_ (n := 9) (S := fun w' => w'.cell? ⟨w.heap.size, 0, none⟩ = some (.slice A l.length c) ∧ w'.cell? ⟨w.heap.size, 1, none⟩ = some (.int .i64 n)) (ds := [8]) #[false, false, false, false, false, false, false, false, false] (by kernel_rfl) rfl rfl ⟨(blk_cell BK.out 0).trans rfl, (blk_cell BK.out 1).trans rfl⟩ (fun hHeld => ?_)
  generalize (w.alloc (.cells #[.slice A l.length c, .int .i64 n] 36 (0, 0))).drew = w2 at BK HB hHeld ⊢
  refine pure_ (i := 0) (N := some 5) (v := ?_) (a' := ?_) #[true, false, false, false, false, false, false, false, false] rfl rfl (by kernel_rfl) (fun _ _ _ h => h) (Or.inl ⟨by rfl, ?_⟩) ?_ ?_
  rotate_left
  · intro w'
    go_simp
    with_reducible rfl
  rotate_left
  · simp only [Act.put, List.setIfInBounds_toArray, List.set_cons_zero, List.set_cons_succ, i64_w, i32_w, u8_w]
    rfl
  refine pure_ (i := 3) (N := some 8) (v := ?_) (a' := ?_) #[true, false, false, true, false, false, false, false, false] rfl rfl (by kernel_rfl) (fun _ _ _ h => h) (Or.inl ⟨by rfl, ?_⟩) ?_ ?_
  rotate_left
  · intro w'
    go_simp
    with_reducible rfl
  rotate_left
  · simp only [Act.put, List.setIfInBounds_toArray, List.set_cons_zero, List.set_cons_succ, i64_w, i32_w, u8_w]
    rfl
  refine take_ (i := 1) (N := some 6) (v := ?_) (a' := ?_) #[true, true, false, true, false, false, false, false, false] rfl rfl (by kernel_rfl) (fun _ _ _ h => h) (Or.inl ⟨by rfl, ?_⟩) hHeld ?_ ?_
  rotate_left
  · rintro w' ⟨s0, s1⟩
    go_simp
    with_reducible rfl
  rotate_left
  · simp only [Act.put, List.setIfInBounds_toArray, List.set_cons_zero, List.set_cons_succ, i64_w, i32_w, u8_w]
    rfl
  refine take_ (i := 4) (N := some 9) (v := ?_) (a' := ?_) #[true, true, false, true, true, false, false, false, false] rfl rfl (by kernel_rfl) (fun _ _ _ h => h) (Or.inl ⟨by rfl, ?_⟩) hHeld ?_ ?_
  rotate_left
  · rintro w' ⟨s0, s1⟩
    go_simp
    with_reducible rfl
  rotate_left
  · simp only [Act.put, List.setIfInBounds_toArray, List.set_cons_zero, List.set_cons_succ, i64_w, i32_w, u8_w]
    rfl
  refine join_ (σ := Option Addr × Nat × Nat × Nat) 1 #[true, true, true, true, true, true, true, true, false] (fun s => [(7, .slice s.1 r.length s.2.1), (10, .agg #[.slice s.1 r.length s.2.1, .int .i64 n]), (11, .pointer (some ⟨s.2.2.1, 0, none⟩)), (4, .pointer (some ⟨s.2.2.2, 0, none⟩))]) (fun s w' => (w.heap.size ≤ s.2.2.1 ∧ w.heap.size ≤ s.2.2.2 ∧ w'.heap[s.2.2.2]? = some (.cells #[.pointer none] 79 (0, 0)) ∧ w'.heap[s.2.2.1]? = some (.cells #[.slice s.1 r.length s.2.1, .int .i64 n] 36 (0, 0)) ∧ Kd.R (Kd.int .u8) 5 w' w.heap.size (fun _ => True) (.slice s.1 r.length s.2.1) r ∧ Below w.heap.size w w') ∧ (w'.cell? ⟨w.heap.size, 0, none⟩ = some (.slice A l.length c) ∧ w'.cell? ⟨w.heap.size, 1, none⟩ = some (.int .i64 n))) ?_ ?_
  rotate_left
  · intro hCont
    refine two_ (i := 2) (j := 7) (Ni := some 7) (Nj := some 4) #[true, true, true, true, true, false, false, false, false] #[true, true, false, true, true, false, false, true, false] rfl rfl rfl rfl (by kernel_rfl) (by decide) (by decide) (fun K hK => ?_) (fun K hK => ?_)
    · skip
      refine goes_ Try.func47 (by kernel_rfl) rfl #[.slice A l.length c] (by rfl) rfl rfl (by simp only [List.map_toArray, List.map_cons, List.map_nil]; rfl) ?_
      with_reducible refine (slices_Clone_byte_byte.calls A c l r _ (Kd.C_below HR.out HB.out) HC.out HH.out).mono ?_
      rintro e w3 ⟨v, rfl, ho, hb⟩
      refine ⟨_, rfl, ?_⟩
      have n0 := Aside0.mk (below_then HB.out HB.out.size hb)
      have n1 := Aside0.mk (blk_below BK.out hb)
      have n2 := Aside0.mk (Kd.R_lower ho HB.out.size)
      clear HB BK
      have HB := n0
      have BK := n1
      have HO := n2
      clear n0 n1 n2
      clear ho hb
      obtain ⟨A1, c1, ev⟩ := Kd.R_slice HO.out
      subst ev
      refine hK.out _ _ ⟨(blk_cell BK.out 0).trans rfl, (blk_cell BK.out 1).trans rfl⟩ (fun hHeld => ?_)
      clear hK K
      refine norm_ (a' := ?_) ?_ ?_
      rotate_left
      · show Act.put _ (some 7) _ = _
        simp only [Act.put, List.setIfInBounds_toArray, List.set_cons_zero, List.set_cons_succ, i64_w, i32_w, u8_w]
        rfl
      refine pure_ (i := 5) (N := some 10) (v := ?_) (a' := ?_) #[true, true, true, true, true, true, false, false, false] rfl rfl (by kernel_rfl) (fun _ _ _ h => h) (Or.inl ⟨by rfl, ?_⟩) ?_ ?_
      rotate_left
      · intro w'
        go_simp
        with_reducible rfl
      rotate_left
      · simp only [Act.put, List.setIfInBounds_toArray, List.set_cons_zero, List.set_cons_succ, i64_w, i32_w, u8_w]
        rfl
      refine two_ (i := 6) (j := 7) (Ni := some 11) (Nj := some 4) #[true, true, true, true, true, true, true, false, false] #[true, true, true, true, true, true, false, true, false] rfl rfl rfl rfl (by kernel_rfl) (by decide) (by decide) (fun K hK => ?_) (fun K hK => ?_)
      · skip
        refine box_step (by rfl) ?hd (N := 11) (cs := #[.slice A1 r.length c1, .int .i64 n]) (t := 36) ?hr ?_; (case hd => rfl); (case hr => first | (go_simp; done) | (go_simp; rfl))
        intro gb hg w4 hbox hb
        have n0 := Aside0.mk (below_then HB.out HB.out.size hb)
        have n1 := Aside0.mk (blk_below BK.out hb)
        have n2 := Aside0.mk (Kd.R_below HO.out hb)
        have n3 := Aside0.mk (hbox)
        have n4 := Aside0.mk ((by rw [hg]; exact HB.out.size : w.heap.size ≤ gb))
        clear HB BK HO
        have HB := n0
        have BK := n1
        have HO := n2
        have BB := n3
        have GB := n4
        clear n0 n1 n2 n3 n4
        clear hg hbox hb
        refine hK.out _ _ ⟨(blk_cell BK.out 0).trans rfl, (blk_cell BK.out 1).trans rfl⟩ (fun hHeld => ?_)
        clear hK K
        refine norm_ (a' := ?_) ?_ ?_
        rotate_left
        · show Act.put _ (some 11) _ = _
          simp only [Act.put, List.setIfInBounds_toArray, List.set_cons_zero, List.set_cons_succ, i64_w, i32_w, u8_w]
          rfl
        refine one_ (i := 7) (N := some 4) #[true, true, true, true, true, true, true, true, false] rfl rfl (by kernel_rfl) (by decide) (fun K hK => ?_)
        refine box_step (by rfl) ?hd (N := 4) (cs := #[.pointer none]) (t := 79) ?hr ?_; (case hd => rfl); (case hr => first | (go_simp; done) | (go_simp; rfl))
        intro gv hg w5 hbox hb
        have n0 := Aside0.mk (below_then HB.out HB.out.size hb)
        have n1 := Aside0.mk (blk_below BK.out hb)
        have n2 := Aside0.mk (Kd.R_below HO.out hb)
        have n3 := Aside0.mk (blk_below BB.out hb)
        have n4 := Aside0.mk (hbox)
        have n5 := Aside0.mk ((by rw [hg]; exact HB.out.size : w.heap.size ≤ gv))
        clear HB BK HO BB
        have HB := n0
        have BK := n1
        have HO := n2
        have BB := n3
        have BV := n4
        have GV := n5
        clear n0 n1 n2 n3 n4 n5
        clear hg hbox hb
        refine hK.out _ _ ⟨(blk_cell BK.out 0).trans rfl, (blk_cell BK.out 1).trans rfl⟩ (fun hHeld => ?_)
        clear hK K
        refine norm_ (a' := ?_) ?_ ?_
        rotate_left
        · show Act.put _ (some 4) _ = _
          simp only [Act.put, List.setIfInBounds_toArray, List.set_cons_zero, List.set_cons_succ, i64_w, i32_w, u8_w]
          rfl
        exact norm_ (by simp only [putAll, Act.put, List.setIfInBounds_toArray, List.set_cons_zero, List.set_cons_succ]) (hCont (A1, c1, gb, gv) _ ⟨⟨GB.out, GV.out, BV.out, BB.out, HO.out, HB.out⟩, (blk_cell BK.out 0).trans rfl, (blk_cell BK.out 1).trans rfl⟩)
      · skip
        refine box_step (by rfl) ?hd (N := 4) (cs := #[.pointer none]) (t := 79) ?hr ?_; (case hd => rfl); (case hr => first | (go_simp; done) | (go_simp; rfl))
        intro gv hg w4 hbox hb
        have n0 := Aside0.mk (below_then HB.out HB.out.size hb)
        have n1 := Aside0.mk (blk_below BK.out hb)
        have n2 := Aside0.mk (Kd.R_below HO.out hb)
        have n3 := Aside0.mk (hbox)
        have n4 := Aside0.mk ((by rw [hg]; exact HB.out.size : w.heap.size ≤ gv))
        clear HB BK HO
        have HB := n0
        have BK := n1
        have HO := n2
        have BV := n3
        have GV := n4
        clear n0 n1 n2 n3 n4
        clear hg hbox hb
        refine hK.out _ _ ⟨(blk_cell BK.out 0).trans rfl, (blk_cell BK.out 1).trans rfl⟩ (fun hHeld => ?_)
        clear hK K
        refine norm_ (a' := ?_) ?_ ?_
        rotate_left
        · show Act.put _ (some 4) _ = _
          simp only [Act.put, List.setIfInBounds_toArray, List.set_cons_zero, List.set_cons_succ, i64_w, i32_w, u8_w]
          rfl
        refine one_ (i := 6) (N := some 11) #[true, true, true, true, true, true, true, true, false] rfl rfl (by kernel_rfl) (by decide) (fun K hK => ?_)
        refine box_step (by rfl) ?hd (N := 11) (cs := #[.slice A1 r.length c1, .int .i64 n]) (t := 36) ?hr ?_; (case hd => rfl); (case hr => first | (go_simp; done) | (go_simp; rfl))
        intro gb hg w5 hbox hb
        have n0 := Aside0.mk (below_then HB.out HB.out.size hb)
        have n1 := Aside0.mk (blk_below BK.out hb)
        have n2 := Aside0.mk (Kd.R_below HO.out hb)
        have n3 := Aside0.mk (blk_below BV.out hb)
        have n4 := Aside0.mk (hbox)
        have n5 := Aside0.mk ((by rw [hg]; exact HB.out.size : w.heap.size ≤ gb))
        clear HB BK HO BV
        have HB := n0
        have BK := n1
        have HO := n2
        have BV := n3
        have BB := n4
        have GB := n5
        clear n0 n1 n2 n3 n4 n5
        clear hg hbox hb
        refine hK.out _ _ ⟨(blk_cell BK.out 0).trans rfl, (blk_cell BK.out 1).trans rfl⟩ (fun hHeld => ?_)
        clear hK K
        refine norm_ (a' := ?_) ?_ ?_
        rotate_left
        · show Act.put _ (some 11) _ = _
          simp only [Act.put, List.setIfInBounds_toArray, List.set_cons_zero, List.set_cons_succ, i64_w, i32_w, u8_w]
          rfl
        exact norm_ (by simp only [putAll, Act.put, List.setIfInBounds_toArray, List.set_cons_zero, List.set_cons_succ]) (hCont (A1, c1, gb, gv) _ ⟨⟨GB.out, GV.out, BV.out, BB.out, HO.out, HB.out⟩, (blk_cell BK.out 0).trans rfl, (blk_cell BK.out 1).trans rfl⟩)
    · skip
      refine box_step (by rfl) ?hd (N := 4) (cs := #[.pointer none]) (t := 79) ?hr ?_; (case hd => rfl); (case hr => first | (go_simp; done) | (go_simp; rfl))
      intro gv hg w3 hbox hb
      have n0 := Aside0.mk (below_then HB.out HB.out.size hb)
      have n1 := Aside0.mk (blk_below BK.out hb)
      have n2 := Aside0.mk (hbox)
      have n3 := Aside0.mk ((by rw [hg]; exact HB.out.size : w.heap.size ≤ gv))
      clear HB BK
      have HB := n0
      have BK := n1
      have BV := n2
      have GV := n3
      clear n0 n1 n2 n3
      clear hg hbox hb
      refine hK.out _ _ ⟨(blk_cell BK.out 0).trans rfl, (blk_cell BK.out 1).trans rfl⟩ (fun hHeld => ?_)
      clear hK K
      refine norm_ (a' := ?_) ?_ ?_
      rotate_left
      · show Act.put _ (some 4) _ = _
        simp only [Act.put, List.setIfInBounds_toArray, List.set_cons_zero, List.set_cons_succ, i64_w, i32_w, u8_w]
        rfl
      refine one_ (i := 2) (N := some 7) #[true, true, true, true, true, false, false, true, false] rfl rfl (by kernel_rfl) (by decide) (fun K hK => ?_)
      refine goes_ Try.func47 (by kernel_rfl) rfl #[.slice A l.length c] (by rfl) rfl rfl (by simp only [List.map_toArray, List.map_cons, List.map_nil]; rfl) ?_
      with_reducible refine (slices_Clone_byte_byte.calls A c l r _ (Kd.C_below HR.out HB.out) HC.out HH.out).mono ?_
      rintro e w4 ⟨v, rfl, ho, hb⟩
      refine ⟨_, rfl, ?_⟩
      have n0 := Aside0.mk (below_then HB.out HB.out.size hb)
      have n1 := Aside0.mk (blk_below BK.out hb)
      have n2 := Aside0.mk (blk_below BV.out hb)
      have n3 := Aside0.mk (Kd.R_lower ho HB.out.size)
      clear HB BK BV
      have HB := n0
      have BK := n1
      have BV := n2
      have HO := n3
      clear n0 n1 n2 n3
      clear ho hb
      obtain ⟨A1, c1, ev⟩ := Kd.R_slice HO.out
      subst ev
      refine hK.out _ _ ⟨(blk_cell BK.out 0).trans rfl, (blk_cell BK.out 1).trans rfl⟩ (fun hHeld => ?_)
      clear hK K
      refine norm_ (a' := ?_) ?_ ?_
      rotate_left
      · show Act.put _ (some 7) _ = _
        simp only [Act.put, List.setIfInBounds_toArray, List.set_cons_zero, List.set_cons_succ, i64_w, i32_w, u8_w]
        rfl
      refine pure_ (i := 5) (N := some 10) (v := ?_) (a' := ?_) #[true, true, true, true, true, true, false, true, false] rfl rfl (by kernel_rfl) (fun _ _ _ h => h) (Or.inl ⟨by rfl, ?_⟩) ?_ ?_
      rotate_left
      · intro w'
        go_simp
        with_reducible rfl
      rotate_left
      · simp only [Act.put, List.setIfInBounds_toArray, List.set_cons_zero, List.set_cons_succ, i64_w, i32_w, u8_w]
        rfl
      refine one_ (i := 6) (N := some 11) #[true, true, true, true, true, true, true, true, false] rfl rfl (by kernel_rfl) (by decide) (fun K hK => ?_)
      refine box_step (by rfl) ?hd (N := 11) (cs := #[.slice A1 r.length c1, .int .i64 n]) (t := 36) ?hr ?_; (case hd => rfl); (case hr => first | (go_simp; done) | (go_simp; rfl))
      intro gb hg w5 hbox hb
      have n0 := Aside0.mk (below_then HB.out HB.out.size hb)
      have n1 := Aside0.mk (blk_below BK.out hb)
      have n2 := Aside0.mk (Kd.R_below HO.out hb)
      have n3 := Aside0.mk (blk_below BV.out hb)
      have n4 := Aside0.mk (hbox)
      have n5 := Aside0.mk ((by rw [hg]; exact HB.out.size : w.heap.size ≤ gb))
      clear HB BK HO BV
      have HB := n0
      have BK := n1
      have HO := n2
      have BV := n3
      have BB := n4
      have GB := n5
      clear n0 n1 n2 n3 n4 n5
      clear hg hbox hb
      refine hK.out _ _ ⟨(blk_cell BK.out 0).trans rfl, (blk_cell BK.out 1).trans rfl⟩ (fun hHeld => ?_)
      clear hK K
      refine norm_ (a' := ?_) ?_ ?_
      rotate_left
      · show Act.put _ (some 11) _ = _
        simp only [Act.put, List.setIfInBounds_toArray, List.set_cons_zero, List.set_cons_succ, i64_w, i32_w, u8_w]
        rfl
      exact norm_ (by simp only [putAll, Act.put, List.setIfInBounds_toArray, List.set_cons_zero, List.set_cons_succ]) (hCont (A1, c1, gb, gv) _ ⟨⟨GB.out, GV.out, BV.out, BB.out, HO.out, HB.out⟩, (blk_cell BK.out 0).trans rfl, (blk_cell BK.out 1).trans rfl⟩)
  rintro ⟨A1, c1, gb, gv⟩ w9 ⟨⟨gB, gV, bV, bB, hO, hB⟩, hHeld⟩
  have GB := Aside0.mk gB
  have GV := Aside0.mk gV
  have BV := Aside0.mk bV
  have BB := Aside0.mk bB
  have HO := Aside0.mk hO
  have HB := Aside0.mk hB
  clear gB gV bV bB hO hB
  refine norm_ (a' := ?_) ?_ ?_
  rotate_left
  · simp only [putAll, Act.put, List.setIfInBounds_toArray, List.set_cons_zero, List.set_cons_succ]
    rfl
  refine last_ (i := 8) (N := none) #[true, true, true, true, true, true, true, true, true] rfl rfl (by kernel_rfl) (by decide) (fun K hK => ?_)
  have hcv : w9.cell? ⟨gv, 0, none⟩ = some (.pointer none) := (blk_cell BV.out 0).trans rfl
  have hfv := blk_frozen BV.out 0
  refine skip_ (w1 := ?_) (by rfl) rfl ?_ ?_
  rotate_left
  · go_simp
    rfl
  refine hK.out _ _ ?_
  clear hK K
  refine done_ (by kernel_rfl) ?_
  have NE := Aside0.mk (blk_ne BB.out BV.out (by decide))
  have n0 := Aside0.mk (blk_put (cs := #[.pointer none]) BV.out 0 (.pointer (some ⟨gb, 0, none⟩)) rfl)
  have n1 := Aside0.mk (blk_far (p := ⟨gv, 0, none⟩) BB.out NE.out (.pointer (some ⟨gb, 0, none⟩)))
  have n2 := Aside0.mk (Kd.R_mono (Kd.R_far (p := ⟨gv, 0, none⟩) (Kd.R_types HO.out BV.out (by decide)) (fun _ hk => hk.2) (.pointer (some ⟨gb, 0, none⟩))) (fun _ hk => hk.1))
  have n3 := Aside0.mk (HB.out.setCell (p := ⟨gv, 0, none⟩) GV.out (.pointer (some ⟨gb, 0, none⟩)))
  clear BV BB HO HB hHeld BK hcv hfv
  have BV := n0
  have BB := n1
  have HO := n2
  have HB := n3
  clear n0 n1 n2 n3
  generalize w9.setCell ⟨gv, 0, none⟩ (.pointer (some ⟨gb, 0, none⟩)) = wx at HO BV BB HB ⊢
  have hc1 : wx.cell? ⟨gv, 0, none⟩ = some (.pointer (some ⟨gb, 0, none⟩)) := (blk_cell BV.out 0).trans rfl
  go_wp2
  go_ret2
  exact ⟨gb, gv, _, rfl, GB.out, GV.out, BV.out, BB.out, HO.out, HB.out⟩

end Go.Proofs.Ythcndpdfcippiaa.Pr

-- YthcndpdfcippiaaPr11
namespace Go.Proofs.Ythcndpdfcippiaa.Pr
open Go.RowKit Go.Proofs.YthcndpdfcippiaaW.PrintWords Go.Proofs.YthcndpdfcippiaaW.PrintLast Go.Proofs.YthcndpdfcippiaaW.PrintMore
attribute [local go_sem] max2_int min2_int max_two min_two max_three min_three max_four min_four   -- for this text's walks alone
set_option linter.unusedVariables false
set_option linter.unusedSimpArgs false

/-! ### bits_Put: function 32 (by hand) -/
def bits_Put.l0 : Nat → List Int → Int → Int → Int → Int → Option (List Int × Int)
  | 0, _, _, _, _, _ => none
  | k + 1, l, m, v, n, i => if i < n then (if 0 ≤ i then ((put1 l m (Go.bits .and .i64 (shr .i64 v i) 1)).bind fun t => bits_Put.l0 k t.1 t.2 v n (wrap64 (i + 1))) else none) else some (l, m)
theorem bits_Put.mono_l : ∀ k l m v n i, LeO (bits_Put.l0 k l m v n i) (bits_Put.l0 (k + 1) l m v n i)
  | 0, _, _, _, _, _ => fun r h => by simp [bits_Put.l0] at h
  | k + 1, l, m, v, n, i => by
    have ih := bits_Put.mono_l k
    rw [bits_Put.l0, bits_Put.l0]
    exact LeO.ite (LeO.ite (LeO.bind (LeO.refl _) (fun t => ih _ _ _ _ _)) (LeO.refl _)) (LeO.refl _)
def bits_Put.f (k : Nat) (l0 : List Int) (m0 v n : Int) : Option (List Int × Int × Int) :=
  (bits_Check.f k l0 m0).bind fun e => if e = 0 then ((bits_fits.f v n 32).bind fun t => if t = true then ((slices_Clone_byte_byte.f l0).bind fun l1 => (bits_Put.l0 k l1 m0 v n 0).bind fun t => some (t.1, t.2, 0)) else some ([], 0, 2)) else some ([], 0, 2)
theorem bits_Put.mono : ∀ l0 m0 v n k, LeO (bits_Put.f k l0 m0 v n) (bits_Put.f (k + 1) l0 m0 v n) := by
  intro l0 m0 v n k
  unfold bits_Put.f
  exact LeO.bind (bits_Check.mono _ _ _) (fun e => LeO.ite (LeO.bind (LeO.refl _) (fun t => LeO.ite (LeO.bind (LeO.refl _) (fun l1 => LeO.bind (bits_Put.mono_l k _ _ _ _ _) (fun t => LeO.refl _))) (LeO.refl _))) (LeO.refl _))
set_option maxHeartbeats 4000000 in
set_option maxRecDepth 100000 in
theorem bits_Put.calls (k : Nat) (A : Option Addr) (c : Nat) (l : List Int) (m vv n : Int) (r1 : List Int) (r2 r3 : Int) (w : World) (hr : Kd.C (Kd.int .u8) w A l.length l) (hc : l.length ≤ c) (h : bits_Put.f k l m vv n = some (r1, r2, r3)) :
    Calls Try.prog 32 #[.agg #[.slice A l.length c, .int .i64 m], .int .i64 vv, .int .i64 n] w fun e w' => ∃ v0_ : Value, e = .returned (.tuple #[.agg #[v0_, .int .i64 r2], .int .i64 r3]) ∧ Kd.R (Kd.int .u8) 5 w' w.heap.size (fun _ => True) v0_ r1 ∧ Below w.heap.size w w' := by
  have HR := Aside0.mk hr
  have HC := Aside0.mk hc
  have HB := Aside0.mk (Below.refl w.heap.size w)
  clear hr hc
  unfold bits_Put.f at h
  obtain ⟨e, A1, h⟩ := Option.bind_eq_some_iff.mp h
  have HE := Aside0.mk A1
  clear A1
  by_cases c1 : e = 0
  · rw [if_pos c1] at h
    subst c1
    obtain ⟨t, A2, h⟩ := Option.bind_eq_some_iff.mp h
    have HF := Aside0.mk A2
    clear A2
    cases t with
    | false =>
      rw [if_neg (by decide)] at h
      injection h with h
      injection h with h1 h
      injection h with h2 h3
      subst h1 h2 h3
      go_enter Try.func32, Try.ntmps32
      go_wp2_with (first
        | ((with_reducible refine gate_dst (N := 3) rfl ?_); refine box_event ?hg (N := 3) ?hd (cs := #[.slice A l.length c, .int .i64 m]) (t := 36) ?hr ?_; (case hd => rfl); (case hg => rfl); (case hr => first | (go_simp; done) | (go_simp; rfl)); intro g3 hg w3 hbox hb; have n0 := Aside0.mk (below_then HB.out HB.out.size hb); have n1 := Aside0.mk (hbox); have n2 := Aside0.mk ((by rw [hg]; exact HB.out.size : w.heap.size ≤ g3)); clear HB; have HB := n0; have B3 := n1; have G3 := n2; clear n0 n1 n2; clear hg hbox hb)
        | ((with_reducible refine gate_dst (N := 6) rfl ?_); refine box_event ?hg (N := 6) ?hd (cs := #[.slice none 0 0, .int .i64 0]) (t := 36) ?hr ?_; (case hd => rfl); (case hg => rfl); (case hr => first | (go_simp; done) | (go_simp; rfl)); intro g6 hg w4 hbox hb; have n0 := Aside0.mk (below_then HB.out HB.out.size hb); have n1 := Aside0.mk (blk_below B3.out hb); have n2 := Aside0.mk (hbox); have n3 := Aside0.mk ((by rw [hg]; exact HB.out.size : w.heap.size ≤ g6)); clear HB B3; have HB := n0; have B3 := n1; have B6 := n2; have G6 := n3; clear n0 n1 n2 n3; clear hg hbox hb; have hcg30 : w4.cell? ⟨g3, 0, none⟩ = some (.slice A l.length c) := (blk_cell B3.out 0).trans rfl; have hcg31 : w4.cell? ⟨g3, 1, none⟩ = some (.int .i64 m) := (blk_cell B3.out 1).trans rfl)
        | (go_at_call 30; refine (bits_Check.calls k A c l m 0 _ (Kd.C_below HR.out HB.out) HC.out HE.out).mono ?_; rintro e_ w5 ⟨rfl, hb⟩; have n0 := Aside0.mk (below_then HB.out HB.out.size hb); have n1 := Aside0.mk (blk_below B3.out hb); have n2 := Aside0.mk (blk_below B6.out hb); clear HB B3 B6; have HB := n0; have B3 := n1; have B6 := n2; clear n0 n1 n2; clear hb; clear hcg30 hcg31; have hcg30 : w5.cell? ⟨g3, 0, none⟩ = some (.slice A l.length c) := (blk_cell B3.out 0).trans rfl; have hcg31 : w5.cell? ⟨g3, 1, none⟩ = some (.int .i64 m) := (blk_cell B3.out 1).trans rfl; have hcg60 : w5.cell? ⟨g6, 0, none⟩ = some (.slice none 0 0) := (blk_cell B6.out 0).trans rfl; have hcg61 : w5.cell? ⟨g6, 1, none⟩ = some (.int .i64 0) := (blk_cell B6.out 1).trans rfl; have hfg60 := blk_frozen B6.out 0; have hfg61 := blk_frozen B6.out 1)
        | (go_at_call 42; refine (bits_fits.calls vv n 32 false _ HF.out).mono ?_; rintro e_ w6 ⟨rfl, hd⟩; obtain ⟨nd, rfl⟩ := hd.out; clear hd)
        )
      refine bodyPost_ret (results_ct rfl _ _ g6 36 #[.slice none 0 0, .int .i64 0] (0, 0) _ rfl (by (with_reducible repeat (first | refine blk_drewN ?_ _ | refine blk_drew ?_ | refine blk_alloc ?_ _)); refine blk_put (cs := #[.slice none 0 0, .int .i64 0]) ?_ 1 _ rfl; (with_reducible repeat (first | refine blk_drewN ?_ _ | refine blk_drew ?_ | refine blk_alloc ?_ _)); refine blk_put (cs := #[.slice none 0 0, .int .i64 0]) ?_ 0 _ rfl; (with_reducible repeat (first | refine blk_drewN ?_ _ | refine blk_drew ?_ | refine blk_alloc ?_ _)); exact B6.out) Try.underlying36 rfl (by kernel_rfl)) rfl ?_
      exact ⟨_, rfl, Kd.R_nil _ _ _ _ _, by repeat (first | (with_reducible first | exact HB.out | apply below_alloc | apply pw_below_drewN | apply below_drew1 | refine below_set ?_ G6.out) | exact HB.out)⟩
    | true =>
      rw [if_pos rfl] at h
      obtain ⟨l1, A3, h⟩ := Option.bind_eq_some_iff.mp h
      have HW := Aside0.mk A3
      clear A3
      obtain ⟨⟨q1, q2⟩, A4, h⟩ := Option.bind_eq_some_iff.mp h
      injection h with h
      injection h with h1 h
      injection h with h2 h3
      subst h1 h2 h3
      have H' := Aside0.mk A4
      clear A4
      go_enter Try.func32, Try.ntmps32
      go_wp2_with (first
        | ((with_reducible refine gate_dst (N := 3) rfl ?_); refine box_event ?hg (N := 3) ?hd (cs := #[.slice A l.length c, .int .i64 m]) (t := 36) ?hr ?_; (case hd => rfl); (case hg => rfl); (case hr => first | (go_simp; done) | (go_simp; rfl)); intro g3 hg w3 hbox hb; have n0 := Aside0.mk (below_then HB.out HB.out.size hb); have n1 := Aside0.mk (hbox); have n2 := Aside0.mk ((by rw [hg]; exact HB.out.size : w.heap.size ≤ g3)); clear HB; have HB := n0; have B3 := n1; have G3 := n2; clear n0 n1 n2; clear hg hbox hb)
        | ((with_reducible refine gate_dst (N := 6) rfl ?_); refine box_event ?hg (N := 6) ?hd (cs := #[.slice none 0 0, .int .i64 0]) (t := 36) ?hr ?_; (case hd => rfl); (case hg => rfl); (case hr => first | (go_simp; done) | (go_simp; rfl)); intro g6 hg w4 hbox hb; have n0 := Aside0.mk (below_then HB.out HB.out.size hb); have n1 := Aside0.mk (blk_below B3.out hb); have n2 := Aside0.mk (hbox); have n3 := Aside0.mk ((by rw [hg]; exact HB.out.size : w.heap.size ≤ g6)); clear HB B3; have HB := n0; have B3 := n1; have B6 := n2; have G6 := n3; clear n0 n1 n2 n3; clear hg hbox hb; have hcg30 : w4.cell? ⟨g3, 0, none⟩ = some (.slice A l.length c) := (blk_cell B3.out 0).trans rfl; have hcg31 : w4.cell? ⟨g3, 1, none⟩ = some (.int .i64 m) := (blk_cell B3.out 1).trans rfl)
        | (go_at_call 30; refine (bits_Check.calls k A c l m 0 _ (Kd.C_below HR.out HB.out) HC.out HE.out).mono ?_; rintro e_ w5 ⟨rfl, hb⟩; have n0 := Aside0.mk (below_then HB.out HB.out.size hb); have n1 := Aside0.mk (blk_below B3.out hb); have n2 := Aside0.mk (blk_below B6.out hb); clear HB B3 B6; have HB := n0; have B3 := n1; have B6 := n2; clear n0 n1 n2; clear hb; clear hcg30 hcg31; have hcg30 : w5.cell? ⟨g3, 0, none⟩ = some (.slice A l.length c) := (blk_cell B3.out 0).trans rfl; have hcg31 : w5.cell? ⟨g3, 1, none⟩ = some (.int .i64 m) := (blk_cell B3.out 1).trans rfl; have hcg60 : w5.cell? ⟨g6, 0, none⟩ = some (.slice none 0 0) := (blk_cell B6.out 0).trans rfl; have hcg61 : w5.cell? ⟨g6, 1, none⟩ = some (.int .i64 0) := (blk_cell B6.out 1).trans rfl; have hfg60 := blk_frozen B6.out 0; have hfg61 := blk_frozen B6.out 1)
        | (go_at_call 42; refine (bits_fits.calls vv n 32 true _ HF.out).mono ?_; rintro e_ w6 ⟨rfl, hd⟩; obtain ⟨nd, rfl⟩ := hd.out; clear hd)
        | (go_at_call 43; refine (bits_writer.calls A c l m l1 _ (Kd.C_drewN (Kd.C_below HR.out HB.out) _) HC.out HW.out).mono ?_; rintro e_ w7 ⟨gb, gv, v1, rfl, gB, gV, bV, bB, ho, hb⟩; have n0 := Aside0.mk (below_then (pw_below_drewN HB.out _) HB.out.size hb); have n1 := Aside0.mk (blk_below (blk_drewN B3.out _) hb); have n2 := Aside0.mk (blk_below (blk_drewN B6.out _) hb); have n3 := Aside0.mk (Nat.le_trans HB.out.size gB); have n4 := Aside0.mk (Nat.le_trans HB.out.size gV); have n5 := Aside0.mk (Nat.ne_of_lt (Nat.lt_of_lt_of_le (blk_lt B6.out) gB)); have n6 := Aside0.mk (bV); have n7 := Aside0.mk (bB); have n8 := Aside0.mk (Kd.R_lower ho HB.out.size); clear HB B3 B6; have HB := n0; have B3 := n1; have B6 := n2; have GB := n3; have GV := n4; have N6 := n5; have BV := n6; have BB := n7; have HO := n8; clear n0 n1 n2 n3 n4 n5 n6 n7 n8; clear gB gV bV bB ho hb; clear hcg30 hcg31; clear hcg60 hcg61)
        )
      go_loopg [27] k (fun kq v27 w' => ∃ (i : Int) (l2 : List Int) (m2 : Int) (u : Value), v27 = .int .i64 i ∧ Aside0 (bits_Put.l0 kq l2 m2 vv n i = some (q1, q2)) ∧ Aside0 (Kd.R (Kd.int .u8) 5 w' w.heap.size (fun _ => True) u l2) ∧ Aside0 (w'.heap[g6]? = some (.cells #[.slice none 0 0, .int .i64 0] 36 (0, 0))) ∧ Aside0 (w'.heap[gv]? = some (.cells #[.pointer (some ⟨gb, 0, none⟩)] 79 (0, 0))) ∧ Aside0 (w'.heap[gb]? = some (.cells #[u, .int .i64 m2] 36 (0, 0))) ∧ Aside0 (Below w.heap.size w w'))
      case atStart => exact ⟨0, l1, m, _, rfl, H', HO, B6, BV, BB, HB⟩
      case round =>
        clear H' HO B6 BV BB HB
        obtain ⟨i, l2, m2, u, rfl, HA, HO, B6, BV, BB, HB⟩ := hrel
        cases gk with
        | zero => exact absurd HA.out (by simp [bits_Put.l0])
        | succ k2 =>
          have H := HA.out
          clear HA
          simp only [bits_Put.l0] at H
          by_cases c2 : i < n
          · rw [if_pos c2] at H
            have c2b : decide (i < n) = true := decide_eq_true c2
            clear c2
            by_cases c3 : 0 ≤ i
            · rw [if_pos c3] at H
              have c3b := eq_true c3
              have c3c : decide (0 ≤ i) = true := decide_eq_true c3
              clear c3
              obtain ⟨ji, hji⟩ : ∃ j_ : Int, (shr .i64 vv i) = j_ := ⟨_, rfl⟩
              rw [hji] at H
              have hji_ : (vv / 2 ^ min i.toNat 64) = ji := hji
              have hjiz : i ≤ 64 → (vv / 2 ^ i.toNat) = ji := shr_small hji
              obtain ⟨⟨l3, m3⟩, A5, H⟩ := Option.bind_eq_some_iff.mp H
              have HP := Aside0.mk A5
              clear A5
              have H2 := Aside0.mk H
              clear H
              go_wp2_with (first
                | (go_at_call 48; refine (bits_writer1.calls gv gb l2 m2 (Go.bits .and .i64 ji 1) l3 m3 u w _ HB.out GV.out GB.out BV.out BB.out HO.out HP.out).mono ?_; rintro e_ w5 ⟨rfl, u3, bv3, bb3, ho3, hb3, hk3⟩; have n1 := Aside0.mk ho3; have n2 := Aside0.mk bv3; have n3 := Aside0.mk bb3; have n4 := Aside0.mk hb3; have n5 := Aside0.mk (hk3.blk B6.out N6.out (Kd.R_ne HO.out B6.out (by decide))); clear HO BV BB HB B6 ho3 bv3 bb3 hb3 hk3; have HO := n1; have BV := n2; have BB := n3; have HB := n4; have B6 := n5; clear n1 n2 n3 n4 n5))
              go_roundg k2
              case measure => omega
              case rel => exact ⟨wrap64 (i + 1), l3, m3, u3, (by first | rfl | (simp; done) | (simp [*]; done)), H2, HO, B6, BV, BB, HB⟩
            · rw [if_neg c3] at H
              cases H
          · rw [if_neg c2] at H
            have c2b : decide (i < n) = false := decide_eq_false c2
            clear c2
            injection H with H
            injection H with H1 H2
            subst H1 H2
            obtain ⟨A2, c2, eu⟩ := Kd.R_slice HO.out
            subst eu
            have hnb := N6.out
            have hnc := Ne.symm N6.out
            have hcgb0 : wr.cell? ⟨gb, 0, none⟩ = some (.slice A2 l2.length c2) := (blk_cell BB.out 0).trans rfl
            have hcgb1 : wr.cell? ⟨gb, 1, none⟩ = some (.int .i64 m2) := (blk_cell BB.out 1).trans rfl
            have hcg60 : wr.cell? ⟨g6, 0, none⟩ = some (.slice none 0 0) := (blk_cell B6.out 0).trans rfl
            have hcg61 : wr.cell? ⟨g6, 1, none⟩ = some (.int .i64 0) := (blk_cell B6.out 1).trans rfl
            have hfgb0 := blk_frozen BB.out 0
            have hfgb1 := blk_frozen BB.out 1
            have hfg60 := blk_frozen B6.out 0
            have hfg61 := blk_frozen B6.out 1
            go_wp2
            refine bodyPost_ret (results_ct rfl _ _ g6 36 #[.slice A2 l2.length c2, .int .i64 m2] (0, 0) _ rfl (by (with_reducible repeat (first | refine blk_drewN ?_ _ | refine blk_drew ?_ | refine blk_alloc ?_ _)); refine blk_put (cs := #[.slice A2 l2.length c2, .int .i64 0]) ?_ 1 _ rfl; (with_reducible repeat (first | refine blk_drewN ?_ _ | refine blk_drew ?_ | refine blk_alloc ?_ _)); refine blk_put (cs := #[.slice none 0 0, .int .i64 0]) ?_ 0 _ rfl; (with_reducible repeat (first | refine blk_drewN ?_ _ | refine blk_drew ?_ | refine blk_alloc ?_ _)); exact B6.out) Try.underlying36 rfl (by kernel_rfl)) rfl ?_
            exact ⟨_, rfl, Kd.R_mono (Kd.R_far (p := ⟨g6, 1, none⟩) (Kd.R_far (p := ⟨g6, 0, none⟩) (Kd.R_types HO.out B6.out (by decide)) (fun _ hk => hk.2) _) (fun _ hk => hk.2) _) (fun _ hk => trivial), by repeat (first | (with_reducible first | exact HB.out | apply below_alloc | apply pw_below_drewN | apply below_drew1 | refine below_set ?_ G6.out) | exact HB.out)⟩
  · rw [if_neg c1] at h
    injection h with h
    injection h with h1 h
    injection h with h2 h3
    subst h1 h2 h3
    have c1b : (e == 0) = false := beq_eq_false_iff_ne.mpr c1
    have c1c : (e != 0) = true := bne_iff_ne.mpr c1
    clear c1
    go_enter Try.func32, Try.ntmps32
    go_wp2_with (first
        | ((with_reducible refine gate_dst (N := 3) rfl ?_); refine box_event ?hg (N := 3) ?hd (cs := #[.slice A l.length c, .int .i64 m]) (t := 36) ?hr ?_; (case hd => rfl); (case hg => rfl); (case hr => first | (go_simp; done) | (go_simp; rfl)); intro g3 hg w3 hbox hb; have n0 := Aside0.mk (below_then HB.out HB.out.size hb); have n1 := Aside0.mk (hbox); have n2 := Aside0.mk ((by rw [hg]; exact HB.out.size : w.heap.size ≤ g3)); clear HB; have HB := n0; have B3 := n1; have G3 := n2; clear n0 n1 n2; clear hg hbox hb)
        | ((with_reducible refine gate_dst (N := 6) rfl ?_); refine box_event ?hg (N := 6) ?hd (cs := #[.slice none 0 0, .int .i64 0]) (t := 36) ?hr ?_; (case hd => rfl); (case hg => rfl); (case hr => first | (go_simp; done) | (go_simp; rfl)); intro g6 hg w4 hbox hb; have n0 := Aside0.mk (below_then HB.out HB.out.size hb); have n1 := Aside0.mk (blk_below B3.out hb); have n2 := Aside0.mk (hbox); have n3 := Aside0.mk ((by rw [hg]; exact HB.out.size : w.heap.size ≤ g6)); clear HB B3; have HB := n0; have B3 := n1; have B6 := n2; have G6 := n3; clear n0 n1 n2 n3; clear hg hbox hb; have hcg30 : w4.cell? ⟨g3, 0, none⟩ = some (.slice A l.length c) := (blk_cell B3.out 0).trans rfl; have hcg31 : w4.cell? ⟨g3, 1, none⟩ = some (.int .i64 m) := (blk_cell B3.out 1).trans rfl)
        | (go_at_call 30; refine (bits_Check.calls k A c l m e _ (Kd.C_below HR.out HB.out) HC.out HE.out).mono ?_; rintro e_ w5 ⟨rfl, hb⟩; have n0 := Aside0.mk (below_then HB.out HB.out.size hb); have n1 := Aside0.mk (blk_below B3.out hb); have n2 := Aside0.mk (blk_below B6.out hb); clear HB B3 B6; have HB := n0; have B3 := n1; have B6 := n2; clear n0 n1 n2; clear hb; clear hcg30 hcg31; have hcg30 : w5.cell? ⟨g3, 0, none⟩ = some (.slice A l.length c) := (blk_cell B3.out 0).trans rfl; have hcg31 : w5.cell? ⟨g3, 1, none⟩ = some (.int .i64 m) := (blk_cell B3.out 1).trans rfl; have hcg60 : w5.cell? ⟨g6, 0, none⟩ = some (.slice none 0 0) := (blk_cell B6.out 0).trans rfl; have hcg61 : w5.cell? ⟨g6, 1, none⟩ = some (.int .i64 0) := (blk_cell B6.out 1).trans rfl; have hfg60 := blk_frozen B6.out 0; have hfg61 := blk_frozen B6.out 1)
        )
    refine bodyPost_ret (results_ct rfl _ _ g6 36 #[.slice none 0 0, .int .i64 0] (0, 0) _ rfl (by (with_reducible repeat (first | refine blk_drewN ?_ _ | refine blk_drew ?_ | refine blk_alloc ?_ _)); refine blk_put (cs := #[.slice none 0 0, .int .i64 0]) ?_ 1 _ rfl; (with_reducible repeat (first | refine blk_drewN ?_ _ | refine blk_drew ?_ | refine blk_alloc ?_ _)); refine blk_put (cs := #[.slice none 0 0, .int .i64 0]) ?_ 0 _ rfl; (with_reducible repeat (first | refine blk_drewN ?_ _ | refine blk_drew ?_ | refine blk_alloc ?_ _)); exact B6.out) Try.underlying36 rfl (by kernel_rfl)) rfl ?_
    exact ⟨_, rfl, Kd.R_nil _ _ _ _ _, by repeat (first | (with_reducible first | exact HB.out | apply below_alloc | apply pw_below_drewN | apply below_drew1 | refine below_set ?_ G6.out) | exact HB.out)⟩

end Go.Proofs.Ythcndpdfcippiaa.Pr

