-- Written by a program of this session (wip/tool/graft.py), which runs the kit's printer over texts by hand.
import Derived.Test.YthcndpdfcippiaaPr0
import Derived.Test.YthcndpdfcippiaaPr1
import Derived.Test.YthcndpdfcippiaaPr9
namespace Go.Proofs.Ythcndpdfcippiaa.Pr
open Go.RowKit Go.Proofs.YthcndpdfcippiaaW.PrintWords Go.Proofs.YthcndpdfcippiaaW.PrintLast Go.Proofs.YthcndpdfcippiaaW.PrintMore
attribute [local go_sem] max2_int min2_int max_two min_two max_three min_three max_four min_four   -- for this text's walks alone
set_option linter.unusedVariables false
set_option linter.unusedSimpArgs false

/-! ### bits_writer: function 43 (by hand) -/

/-- A bit is laid behind a row (what the closure of bits.writer does). -/
def put1 (l : List Int) (n bit : Int) : Option (List Int × Int) :=
  (if Go.bits .and .i64 n 7 = 0 then (if l.length < 140737488355328 then some (l ++ [0]) else none) else some l).bind fun l1 =>
    if 0 ≤ n / 8 then (if n / 8 < (l1.length : Int) then (if 0 ≤ Go.bits .and .i64 n 7 then some (l1.set (n / 8).toNat (Go.bits .or .u8 (rd l1 (n / 8)) ((shl .i64 bit (Go.bits .and .i64 n 7)) % 256)), wrap64 (n + 1)) else none) else none) else none

theorem put1_some {l : List Int} {nn bit : Int} {l' : List Int} {n' : Int} (h : put1 l nn bit = some (l', n')) :
    ∃ l1 : List Int, ((Go.bits .and .i64 nn 7 = 0 ∧ l.length < 140737488355328 ∧ l1 = l ++ [0]) ∨ (¬ Go.bits .and .i64 nn 7 = 0 ∧ l1 = l)) ∧ 0 ≤ nn / 8 ∧ nn / 8 < (l1.length : Int) ∧ 0 ≤ Go.bits .and .i64 nn 7 ∧
      l' = l1.set (nn / 8).toNat (Go.bits .or .u8 (rd l1 (nn / 8)) ((shl .i64 bit (Go.bits .and .i64 nn 7)) % 256)) ∧ n' = wrap64 (nn + 1) := by
  unfold put1 at h
  obtain ⟨l1, h1, h2⟩ := Option.bind_eq_some_iff.mp h
  by_cases q0 : 0 ≤ nn / 8
  · rw [if_pos q0] at h2
    by_cases q1 : nn / 8 < (l1.length : Int)
    · rw [if_pos q1] at h2
      by_cases q2 : 0 ≤ Go.bits .and .i64 nn 7
      · rw [if_pos q2] at h2
        injection h2 with h2
        injection h2 with h3 h4
        refine ⟨l1, ?_, q0, q1, q2, h3.symm, h4.symm⟩
        by_cases c3 : Go.bits .and .i64 nn 7 = 0
        · rw [if_pos c3] at h1
          by_cases hl : l.length < 140737488355328
          · rw [if_pos hl] at h1
            injection h1 with h1
            exact .inl ⟨c3, hl, h1.symm⟩
          · rw [if_neg hl] at h1
            cases h1
        · rw [if_neg c3] at h1
          injection h1 with h1
          exact .inr ⟨c3, h1.symm⟩
      · rw [if_neg q2] at h2
        cases h2
    · rw [if_neg q1] at h2
      cases h2
  · rw [if_neg q0] at h2
    cases h2

/-- What a bit leaves: the variable, the row, and all else as it was. -/
def PutPost (gv gb : Nat) (l' : List Int) (n' : Int) (v : Value) (w0 w : World) (e : Ending) (w' : World) : Prop :=
  e = .returned (.tuple #[]) ∧ ∃ v', w'.heap[gv]? = some (.cells #[.pointer (some ⟨gb, 0, none⟩)] 79 (0, 0)) ∧ w'.heap[gb]? = some (.cells #[v', .int .i64 n'] 36 (0, 0)) ∧ Kd.R (Kd.int .u8) 5 w' w0.heap.size (fun _ => True) v' l' ∧ Below w0.heap.size w0 w' ∧ KeepBut w w' gb v.ownBlock
set_option maxHeartbeats 4000000 in
set_option maxRecDepth 100000 in
theorem bits_writer1.calls
    (gv gb : Nat) (l : List Int) (nn bit : Int) (l' : List Int) (n' : Int) (v : Value) (w0 w : World) (hB : Below w0.heap.size w0 w) (hgv : w0.heap.size ≤ gv) (hgb : w0.heap.size ≤ gb)
    (bv : w.heap[gv]? = some (.cells #[.pointer (some ⟨gb, 0, none⟩)] 79 (0, 0))) (bb : w.heap[gb]? = some (.cells #[v, .int .i64 nn] 36 (0, 0))) (ho : Kd.R (Kd.int .u8) 5 w w0.heap.size (fun _ => True) v l) (h : put1 l nn bit = some (l', n')) :
    Calls Try.prog 48 #[.int .i64 bit, .pointer (some ⟨gv, 0, none⟩)] w (PutPost gv gb l' n' v w0 w) := by
  have HO := Aside0.mk ho
  have BV := Aside0.mk bv
  have BB := Aside0.mk bb
  have HB := Aside0.mk hB
  have HK := Aside0.mk (KeepBut.refl w gb v.ownBlock)
  have GVL := Aside0.mk hgv
  have GBL := Aside0.mk hgb
  have NVB := Aside0.mk (blk_ne bv bb (by decide))
  obtain ⟨A, c, ev⟩ := Kd.R_slice ho
  subst ev
  have HV := Aside0.mk (show RowOk w (Value.slice A l.length c).ownBlock (Value.slice A l.length c) from fun k hk => .inl hk)
  clear ho bv bb hB hgv hgb
  obtain ⟨l1, hl1, q0, q1, q2, rfl, rfl⟩ := put1_some h
  clear h
  obtain ⟨j7, hj7⟩ : ∃ j_ : Int, Go.bits .and .i64 nn 7 = j_ := ⟨_, rfl⟩
  rw [hj7] at q2 ⊢
  obtain ⟨js, hjs⟩ : ∃ j_ : Int, shl .i64 bit j7 = j_ := ⟨_, rfl⟩
  rw [hjs]
  have hjs_ : (wrap64 (bit * 2 ^ min j7.toNat 64)) = js := (i64_w _).symm.trans hjs
  have hjs2 : (IntKind.i64.wrap (bit * 2 ^ min j7.toNat 64)) = js := hjs
  have hjsz : j7 ≤ 64 → (IntKind.i64.wrap (bit * 2 ^ j7.toNat)) = js := shl_small hjs
  have hjsx : j7 ≤ 64 → (wrap64 (bit * 2 ^ j7.toNat)) = js := fun h_ => (i64_w _).symm.trans (hjsz h_)
  obtain ⟨jx, hjx⟩ : ∃ j_ : Int, nn / 8 = j_ := ⟨_, rfl⟩
  rw [hjx] at q0 q1 ⊢
  obtain ⟨ln, hln⟩ : ∃ y_ : List Int, y_ = l1.set jx.toNat (Go.bits .or .u8 (rd l1 jx) (js % 256)) := ⟨_, rfl⟩
  rw [← hln]
  have NL := Aside0.mk hln
  clear hln
  have Q2 := eq_true q2
  have Q0 := Aside0.mk (decide_eq_true q0)
  have Q1 := Aside0.mk (decide_eq_true q1)
  have q0b : decide (0 ≤ jx) = true := decide_eq_true q0
  have q1b : decide (jx < (l1.length : Int)) = true := decide_eq_true q1
  have q2b : decide (0 ≤ j7) = true := decide_eq_true q2
  clear q0 q1 q2
  rw [hj7] at hl1
  rcases hl1 with ⟨c3, hl, hly⟩ | ⟨c3, rfl⟩
  · skip
    have LM := Aside0.mk hl
    have NY := Aside0.mk hly
    clear hl hly
    have c3b0 : (j7 == 0) = true := beq_iff_eq.mpr c3
    have hjs3 := hjsz (by omega)
    have hjs4 := hjsx (by omega)
    clear c3
    have hc1 : w.cell? ⟨gv, 0, none⟩ = some (.pointer (some ⟨gb, 0, none⟩)) := (blk_cell BV.out 0).trans rfl
    have hc2 : w.cell? ⟨gb, 0, none⟩ = some (.slice A l.length c) := (blk_cell BB.out 0).trans rfl
    have hc3 : w.cell? ⟨gb, 1, none⟩ = some (.int .i64 nn) := (blk_cell BB.out 1).trans rfl
    have hf1 := blk_frozen BV.out 0
    have hf2 := blk_frozen BB.out 0
    have hf3 := blk_frozen BB.out 1
    go_enter Try.func48, Try.ntmps48
    go_wp2
    clear hc1 hc2 hc3 hf1 hf2 hf3
    have n0 := Aside0.mk (Kd.R_drew HO.out)
    have n1 := Aside0.mk (blk_drew BV.out)
    have n2 := Aside0.mk (blk_drew BB.out)
    have n3 := Aside0.mk (below_drew1 HB.out)
    have n4 := Aside0.mk (keep_drew HK.out)
    clear HO BV BB HB HK
    have HO := n0
    have BV := n1
    have BB := n2
    have HB := n3
    have HK := n4
    clear n0 n1 n2 n3 n4
    refine start_ (n := 10) (S := fun w' => w'.cell? ⟨gv, 0, none⟩ = some (.pointer (some ⟨gb, 0, none⟩)) ∧ w'.cell? ⟨gb, 0, none⟩ = some (.slice A l.length c)) (ds := [9]) #[false, false, false, false, false, false, false, false, false, false] (by kernel_rfl) rfl rfl ⟨(blk_cell BV.out 0).trans rfl, (blk_cell BB.out 0).trans rfl⟩ (fun hHeld => ?_)
    generalize w.drew = wd at HO BV BB HB HK hHeld ⊢
    refine take_ (i := 0) (N := some 9) (v := ?_) (a' := ?_) #[true, false, false, false, false, false, false, false, false, false] rfl rfl (by kernel_rfl) (fun _ _ _ h => h) (Or.inl ⟨by rfl, ?_⟩) hHeld ?_ ?_
    rotate_left
    · rintro w' ⟨s0, s1⟩
      go_simp
      with_reducible rfl
    rotate_left
    · simp only [Act.put, List.setIfInBounds_toArray, List.set_cons_zero, List.set_cons_succ, i64_w, i32_w, u8_w]
      rfl
    refine take_ (i := 1) (N := some 10) (v := ?_) (a' := ?_) #[true, true, false, false, false, false, false, false, false, false] rfl rfl (by kernel_rfl) (fun _ _ _ h => h) (Or.inl ⟨by rfl, ?_⟩) hHeld ?_ ?_
    rotate_left
    · rintro w' ⟨s0, s1⟩
      go_simp
      with_reducible rfl
    rotate_left
    · simp only [Act.put, List.setIfInBounds_toArray, List.set_cons_zero, List.set_cons_succ, i64_w, i32_w, u8_w]
      rfl
    refine pure_ (i := 2) (N := some 11) (v := ?_) (a' := ?_) #[true, true, true, false, false, false, false, false, false, false] rfl rfl (by kernel_rfl) (fun _ _ _ h => h) (Or.inl ⟨by rfl, ?_⟩) ?_ ?_
    rotate_left
    · intro w'
      go_simp
      with_reducible rfl
    rotate_left
    · simp only [Act.put, List.setIfInBounds_toArray, List.set_cons_zero, List.set_cons_succ, i64_w, i32_w, u8_w]
      rfl
    refine pure_ (i := 3) (N := some 12) (v := ?_) (a' := ?_) #[true, true, true, true, false, false, false, false, false, false] rfl rfl (by kernel_rfl) (fun _ _ _ h => h) (Or.inl ⟨by rfl, ?_⟩) ?_ ?_
    rotate_left
    · intro w'
      go_simp
      with_reducible rfl
    rotate_left
    · simp only [Act.put, List.setIfInBounds_toArray, List.set_cons_zero, List.set_cons_succ, i64_w, i32_w, u8_w]
      rfl
    refine take_ (i := 4) (N := some 13) (v := ?_) (a' := ?_) #[true, true, true, true, true, false, false, false, false, false] rfl rfl (by kernel_rfl) (fun _ _ _ h => h) (Or.inl ⟨by rfl, ?_⟩) hHeld ?_ ?_
    rotate_left
    · rintro w' ⟨s0, s1⟩
      go_simp
      with_reducible rfl
    rotate_left
    · simp only [Act.put, List.setIfInBounds_toArray, List.set_cons_zero, List.set_cons_succ, i64_w, i32_w, u8_w]
      rfl
    refine one_ (i := 5) (N := some 14) #[true, true, true, true, true, true, false, false, false, false] rfl rfl (by kernel_rfl) (by decide) (fun K hK => ?_)
    refine Kd.R_lit_step (Kd.int .u8) _ 5 ?hg (N := 14) ?hd (xs := ([0] : List Int)) (inner := [.int .u8 0]) (ok := fun _ => True) (okp := fun _ => True) ?hr ?hp (fun _ hk => hk) trivial (Below.refl _ _) (Nat.le_refl _) (by simp) ?_; (case hd => rfl); (case hg => rfl); (case hr => first | (go_simp; done) | (go_simp; rfl)); (case hp => exact (Reps.snoc (Reps.none _ _) rfl rfl))
    intro v1 w1 ho1 hb hg_ hnew_
    obtain ⟨A1, c1, eo1⟩ := Kd.R_slice ho1
    subst eo1
    have n0 := Aside0.mk ((Kd.R_reads' ho1).2.2)
    have n1 := Aside0.mk (Kd.R_below HO.out hb)
    have n2 := Aside0.mk (blk_below BV.out hb)
    have n3 := Aside0.mk (blk_below BB.out hb)
    have n4 := Aside0.mk (below_then HB.out HB.out.size hb)
    have n5 := Aside0.mk (keep2 HK.out hb)
    clear HO BV BB HB HK
    have HL1 := n0
    have HO := n1
    have BV := n2
    have BB := n3
    have HB := n4
    have HK := n5
    clear n0 n1 n2 n3 n4 n5
    clear hb hg_ hnew_ ho1
    refine hK.out _ _ ⟨(blk_cell BV.out 0).trans rfl, (blk_cell BB.out 0).trans rfl⟩ (fun hHeld => ?_)
    clear hK K
    refine norm_ (a' := ?_) ?_ ?_
    rotate_left
    · show Act.put _ (some 14) _ = _
      simp only [Act.put, List.setIfInBounds_toArray, List.set_cons_zero, List.set_cons_succ, i64_w, i32_w, u8_w]
      rfl
    refine one_ (i := 6) (N := some 15) #[true, true, true, true, true, true, true, false, false, false] rfl rfl (by kernel_rfl) (by decide) (fun K hK => ?_)
    refine Kd.R_append_rows_step (Kd.int .u8) (w0 := w0) w0.heap.size (by rfl) (.tmp 13) (.tmp 14) 34 5 (.int .u8 0) 1 rfl Try.underlying34 info5 rfl (by decide) (by omega) (.slice A l.length c) l [0] _ _ _ (fun _ => True) (fun _ => False) rfl rfl HO.out HL1.out (fun _ _ h => h) (fun _ h => h.elim) (fun _ _ => trivial) HB.out HB.out.size ?aL ?_
    (case aL => have := LM.out; simp; omega)
    intro v2 w2 ho hb hg hat
    rw [← NY.out] at ho
    have n0 := Aside0.mk (ho)
    have n1 := Aside0.mk (blk_grown BV.out hg (Kd.R_ne HO.out BV.out (by decide)))
    have n2 := Aside0.mk (blk_grown BB.out hg (Kd.R_ne HO.out BB.out (by decide)))
    have n3 := Aside0.mk (hb)
    have n4 := Aside0.mk (keep3 HK.out HV.out hg)
    have n5 := Aside0.mk (row_new HV.out HK.out.1 hat)
    clear HO BV BB HB HK HL1 HV
    have HO := n0
    have BV := n1
    have BB := n2
    have HB := n3
    have HK := n4
    have HV := n5
    clear n0 n1 n2 n3 n4 n5
    clear ho hb hg hat
    obtain ⟨A2, c2, eo2⟩ := Kd.R_slice HO.out
    subst eo2
    refine hK.out _ _ ⟨(blk_cell BV.out 0).trans rfl, (blk_cell BB.out 0).trans rfl⟩ (fun hHeld => ?_)
    clear hK K
    refine norm_ (a' := ?_) ?_ ?_
    rotate_left
    · show Act.put _ (some 15) _ = _
      simp only [Act.put, List.setIfInBounds_toArray, List.set_cons_zero, List.set_cons_succ, i64_w, i32_w, u8_w]
      rfl
    refine pure_ (i := 7) (N := some 16) (v := ?_) (a' := ?_) #[true, true, true, true, true, true, true, true, false, false] rfl rfl (by kernel_rfl) (fun _ _ _ h => h) (Or.inl ⟨by rfl, ?_⟩) ?_ ?_
    rotate_left
    · intro w'
      go_simp
      with_reducible rfl
    rotate_left
    · simp only [Act.put, List.setIfInBounds_toArray, List.set_cons_zero, List.set_cons_succ, i64_w, i32_w, u8_w]
      rfl
    refine pure_ (i := 8) (N := some 17) (v := ?_) (a' := ?_) #[true, true, true, true, true, true, true, true, true, false] rfl rfl (by kernel_rfl) (fun _ _ _ h => h) (Or.inl ⟨by rfl, ?_⟩) ?_ ?_
    rotate_left
    · intro w'
      go_simp
      with_reducible rfl
    rotate_left
    · simp only [Act.put, List.setIfInBounds_toArray, List.set_cons_zero, List.set_cons_succ, i64_w, i32_w, u8_w]
      rfl
    refine last_ (i := 9) (N := none) #[true, true, true, true, true, true, true, true, true, true] rfl rfl (by kernel_rfl) (by decide) (fun K hK => ?_)
    have hf2 := blk_frozen BB.out 0
    have hc2 : w2.cell? ⟨gb, 0, none⟩ = some (.slice A l.length c) := (blk_cell BB.out 0).trans rfl
    refine skip_ (w1 := ?_) (by rfl) rfl ?_ ?_
    rotate_left
    · go_simp
      rfl
    refine hK.out _ _ ?_
    clear hK K
    refine done_ (by kernel_rfl) ?_
    have n0 := Aside0.mk (Kd.R_mono (Kd.R_far (p := ⟨gb, 0, none⟩) (Kd.R_types HO.out BB.out (by decide)) (fun _ hk => hk.2) (.slice A2 l1.length c2)) (fun _ hk => hk.1))
    have n1 := Aside0.mk (blk_far (p := ⟨gb, 0, none⟩) BV.out NVB.out (.slice A2 l1.length c2))
    have n2 := Aside0.mk (blk_put BB.out 0 (.slice A2 l1.length c2) rfl)
    have n3 := Aside0.mk (HB.out.setCell (p := ⟨gb, 0, none⟩) GBL.out (.slice A2 l1.length c2))
    have n4 := Aside0.mk (KeepBut.set_ HK.out 0 (.slice A2 l1.length c2))
    clear HO BV BB HB HK hHeld hf2 hc2
    have HO := n0
    have BV := n1
    have BB := n2
    have HB := n3
    have HK := n4
    clear n0 n1 n2 n3 n4
    generalize w2.setCell ⟨gb, 0, none⟩ (.slice A2 l1.length c2) = wx at HO BV BB HB HK ⊢
    clear NY LM
    have hc1 : wx.cell? ⟨gv, 0, none⟩ = some (.pointer (some ⟨gb, 0, none⟩)) := (blk_cell BV.out 0).trans rfl
    have hc2 : wx.cell? ⟨gb, 0, none⟩ = some (.slice A2 l1.length c2) := (blk_cell BB.out 0).trans rfl
    have hc3 : wx.cell? ⟨gb, 1, none⟩ = some (.int .i64 nn) := (blk_cell BB.out 1).trans rfl
    have hf1 := blk_frozen BV.out 0
    have hf2 := blk_frozen BB.out 0
    have hf3 := blk_frozen BB.out 1
    go_wp2
    clear hc1 hc2 hc3 hf1 hf2 hf3
    have P0 : (0 : Int) ≤ jx := of_decide_eq_true Q0.out
    have P1 : jx < (l1.length : Int) := of_decide_eq_true Q1.out
    obtain ⟨go, co, eo, ggo, glo, clo, hgo⟩ := Kd.R_form HO.out (by omega)
    injection eo with ea en ec
    subst ea
    subst ec
    clear en
    have n0 := Aside0.mk (Kd.R_drew HO.out)
    have n1 := Aside0.mk (blk_drew BV.out)
    have n2 := Aside0.mk (blk_drew BB.out)
    have n3 := Aside0.mk (below_drew1 HB.out)
    have n4 := Aside0.mk (keep_drew HK.out)
    have n5 := Aside0.mk (ggo)
    clear HO BV BB HB HK hgo ggo glo
    have HO := n0
    have BV := n1
    have BB := n2
    have HB := n3
    have HK := n4
    have GL := n5
    clear n0 n1 n2 n3 n4 n5
    obtain ⟨hx0, hf0⟩ := Kd.R_celln 0 HO.out jx P0 P1
    have HP := Aside0.mk (Kd.R_putn HO.out jx (Go.bits .or .u8 (rd l1 jx) (js % 256)))
    have HX := Aside0.mk hx0
    clear hx0
    have HFX := Aside0.mk hf0
    clear hf0
    have NV := Aside0.mk (fun e : gv = go => (Kd.R_ne HO.out BV.out (by decide)) (by rw [e]; rfl))
    have NB := Aside0.mk (fun e : gb = go => (Kd.R_ne HO.out BB.out (by decide)) (by rw [e]; rfl))
    replace P0 := eq_true P0
    replace P1 := eq_true P1
    refine start_ (n := 22) (S := fun w' => w'.cell? ⟨gv, 0, none⟩ = some (.pointer (some ⟨gb, 0, none⟩)) ∧ w'.cell? ⟨gb, 0, none⟩ = some (.slice (some ⟨go, 0, none⟩) l1.length c2) ∧ w'.cell? ⟨gb, 1, none⟩ = some (.int .i64 nn) ∧ w'.cell? ⟨go, jx.toNat, none⟩ = some (.int .u8 (rd l1 jx))) (ds := [21]) #[false, false, false, false, false, false, false, false, false, false, false, false, false, false, false, false, false, false, false, false, false, false] (by kernel_rfl) rfl rfl ⟨(blk_cell BV.out 0).trans rfl, (blk_cell BB.out 0).trans rfl, (blk_cell BB.out 1).trans rfl, HX.out⟩ (fun hHeld => ?_)
    generalize wx.drew = we at HO BV BB HB HK HX HFX HP hHeld ⊢
    refine pure_ (i := 11) (N := some 29) (v := ?_) (a' := ?_) #[false, false, false, false, false, false, false, false, false, false, false, true, false, false, false, false, false, false, false, false, false, false] rfl rfl (by kernel_rfl) (fun _ _ _ h => h) (Or.inl ⟨by rfl, ?_⟩) ?_ ?_
    rotate_left
    · intro w'
      go_simp
      with_reducible rfl
    rotate_left
    · simp only [Act.put, List.setIfInBounds_toArray, List.set_cons_zero, List.set_cons_succ, i64_w, i32_w, u8_w]
      rfl
    refine take_ (i := 0) (N := some 18) (v := ?_) (a' := ?_) #[true, false, false, false, false, false, false, false, false, false, false, true, false, false, false, false, false, false, false, false, false, false] rfl rfl (by kernel_rfl) (fun _ _ _ h => h) (Or.inl ⟨by rfl, ?_⟩) hHeld ?_ ?_
    rotate_left
    · rintro w' ⟨s0, s1, s2, s3⟩
      go_simp
      with_reducible rfl
    rotate_left
    · simp only [Act.put, List.setIfInBounds_toArray, List.set_cons_zero, List.set_cons_succ, i64_w, i32_w, u8_w]
      rfl
    refine pure_ (i := 1) (N := some 19) (v := ?_) (a' := ?_) #[true, true, false, false, false, false, false, false, false, false, false, true, false, false, false, false, false, false, false, false, false, false] rfl rfl (by kernel_rfl) (fun _ _ _ h => h) (Or.inl ⟨by rfl, ?_⟩) ?_ ?_
    rotate_left
    · intro w'
      go_simp
      with_reducible rfl
    rotate_left
    · simp only [Act.put, List.setIfInBounds_toArray, List.set_cons_zero, List.set_cons_succ, i64_w, i32_w, u8_w]
      rfl
    refine pure_ (i := 2) (N := some 20) (v := ?_) (a' := ?_) #[true, true, true, false, false, false, false, false, false, false, false, true, false, false, false, false, false, false, false, false, false, false] rfl rfl (by kernel_rfl) (fun _ _ _ h => h) (Or.inl ⟨by rfl, ?_⟩) ?_ ?_
    rotate_left
    · intro w'
      go_simp
      with_reducible rfl
    rotate_left
    · simp only [Act.put, List.setIfInBounds_toArray, List.set_cons_zero, List.set_cons_succ, i64_w, i32_w, u8_w]
      rfl
    refine take_ (i := 3) (N := some 21) (v := ?_) (a' := ?_) #[true, true, true, true, false, false, false, false, false, false, false, true, false, false, false, false, false, false, false, false, false, false] rfl rfl (by kernel_rfl) (fun _ _ _ h => h) (Or.inl ⟨by rfl, ?_⟩) hHeld ?_ ?_
    rotate_left
    · rintro w' ⟨s0, s1, s2, s3⟩
      go_simp
      with_reducible rfl
    rotate_left
    · simp only [Act.put, List.setIfInBounds_toArray, List.set_cons_zero, List.set_cons_succ, i64_w, i32_w, u8_w]
      rfl
    refine take_ (i := 4) (N := some 22) (v := ?_) (a' := ?_) #[true, true, true, true, true, false, false, false, false, false, false, true, false, false, false, false, false, false, false, false, false, false] rfl rfl (by kernel_rfl) (fun _ _ _ h => h) (Or.inl ⟨by rfl, ?_⟩) hHeld ?_ ?_
    rotate_left
    · rintro w' ⟨s0, s1, s2, s3⟩
      go_simp
      with_reducible rfl
    rotate_left
    · simp only [Act.put, List.setIfInBounds_toArray, List.set_cons_zero, List.set_cons_succ, i64_w, i32_w, u8_w]
      rfl
    refine pure_ (i := 5) (N := some 23) (v := ?_) (a' := ?_) #[true, true, true, true, true, true, false, false, false, false, false, true, false, false, false, false, false, false, false, false, false, false] rfl rfl (by kernel_rfl) (fun _ _ _ h => h) (Or.inl ⟨by rfl, ?_⟩) ?_ ?_
    rotate_left
    · intro w'
      go_simp
      with_reducible rfl
    rotate_left
    · simp only [Act.put, List.setIfInBounds_toArray, List.set_cons_zero, List.set_cons_succ, i64_w, i32_w, u8_w]
      rfl
    refine pure_ (i := 6) (N := some 24) (v := ?_) (a' := ?_) #[true, true, true, true, true, true, true, false, false, false, false, true, false, false, false, false, false, false, false, false, false, false] rfl rfl (by kernel_rfl) (fun _ _ _ h => h) (Or.inl ⟨by rfl, ?_⟩) ?_ ?_
    rotate_left
    · intro w'
      go_simp
      with_reducible rfl
    rotate_left
    · simp only [Act.put, List.setIfInBounds_toArray, List.set_cons_zero, List.set_cons_succ, i64_w, i32_w, u8_w]
      rfl
    refine take_ (i := 7) (N := some 25) (v := ?_) (a' := ?_) #[true, true, true, true, true, true, true, true, false, false, false, true, false, false, false, false, false, false, false, false, false, false] rfl rfl (by kernel_rfl) (fun _ _ _ h => h) (Or.inl ⟨by rfl, ?_⟩) hHeld ?_ ?_
    rotate_left
    · rintro w' ⟨s0, s1, s2, s3⟩
      go_simp
      with_reducible rfl
    rotate_left
    · simp only [Act.put, List.setIfInBounds_toArray, List.set_cons_zero, List.set_cons_succ, i64_w, i32_w, u8_w]
      rfl
    refine pure_ (i := 8) (N := some 26) (v := ?_) (a' := ?_) #[true, true, true, true, true, true, true, true, true, false, false, true, false, false, false, false, false, false, false, false, false, false] rfl rfl (by kernel_rfl) (fun _ _ _ h => h) (Or.inl ⟨by rfl, ?_⟩) ?_ ?_
    rotate_left
    · intro w'
      go_simp
      with_reducible rfl
    rotate_left
    · simp only [Act.put, List.setIfInBounds_toArray, List.set_cons_zero, List.set_cons_succ, i64_w, i32_w, u8_w]
      rfl
    refine pure_ (i := 9) (N := some 27) (v := ?_) (a' := ?_) #[true, true, true, true, true, true, true, true, true, true, false, true, false, false, false, false, false, false, false, false, false, false] rfl rfl (by kernel_rfl) (fun _ _ _ h => h) (Or.inl ⟨by rfl, ?_⟩) ?_ ?_
    rotate_left
    · intro w'
      go_simp
      with_reducible rfl
    rotate_left
    · simp only [Act.put, List.setIfInBounds_toArray, List.set_cons_zero, List.set_cons_succ, i64_w, i32_w, u8_w]
      rfl
    refine take_ (i := 10) (N := some 28) (v := ?_) (a' := ?_) #[true, true, true, true, true, true, true, true, true, true, true, true, false, false, false, false, false, false, false, false, false, false] rfl rfl (by kernel_rfl) (fun _ _ _ h => h) (Or.inl ⟨by rfl, ?_⟩) hHeld ?_ ?_
    rotate_left
    · rintro w' ⟨s0, s1, s2, s3⟩
      go_simp
      with_reducible rfl
    rotate_left
    · simp only [Act.put, List.setIfInBounds_toArray, List.set_cons_zero, List.set_cons_succ, i64_w, i32_w, u8_w]
      rfl
    refine take_ (i := 12) (N := some 30) (v := ?_) (a' := ?_) #[true, true, true, true, true, true, true, true, true, true, true, true, true, false, false, false, false, false, false, false, false, false] rfl rfl (by kernel_rfl) (fun _ _ _ h => h) (Or.inl ⟨by rfl, ?_⟩) hHeld ?_ ?_
    rotate_left
    · rintro w' ⟨s0, s1, s2, s3⟩
      go_simp
      with_reducible rfl
    rotate_left
    · simp only [Act.put, List.setIfInBounds_toArray, List.set_cons_zero, List.set_cons_succ, i64_w, i32_w, u8_w]
      rfl
    refine pure_ (i := 13) (N := some 31) (v := ?_) (a' := ?_) #[true, true, true, true, true, true, true, true, true, true, true, true, true, true, false, false, false, false, false, false, false, false] rfl rfl (by kernel_rfl) (fun _ _ _ h => h) (Or.inl ⟨by rfl, ?_⟩) ?_ ?_
    rotate_left
    · intro w'
      go_simp
      with_reducible rfl
    rotate_left
    · simp only [Act.put, List.setIfInBounds_toArray, List.set_cons_zero, List.set_cons_succ, i64_w, i32_w, u8_w]
      rfl
    refine pure_ (i := 14) (N := some 32) (v := ?_) (a' := ?_) #[true, true, true, true, true, true, true, true, true, true, true, true, true, true, true, false, false, false, false, false, false, false] rfl rfl (by kernel_rfl) (fun _ _ _ h => h) (Or.inl ⟨by rfl, ?_⟩) ?_ ?_
    rotate_left
    · intro w'
      go_simp
      with_reducible rfl
    rotate_left
    · simp only [Act.put, List.setIfInBounds_toArray, List.set_cons_zero, List.set_cons_succ, i64_w, i32_w, u8_w]
      rfl
    refine take_ (i := 15) (N := some 33) (v := ?_) (a' := ?_) #[true, true, true, true, true, true, true, true, true, true, true, true, true, true, true, true, false, false, false, false, false, false] rfl rfl (by kernel_rfl) (fun _ _ _ h => h) (Or.inl ⟨by rfl, ?_⟩) hHeld ?_ ?_
    rotate_left
    · rintro w' ⟨s0, s1, s2, s3⟩
      go_simp
      with_reducible rfl
    rotate_left
    · simp only [Act.put, List.setIfInBounds_toArray, List.set_cons_zero, List.set_cons_succ, i64_w, i32_w, u8_w]
      rfl
    refine pure_ (i := 16) (N := some 34) (v := ?_) (a' := ?_) #[true, true, true, true, true, true, true, true, true, true, true, true, true, true, true, true, true, false, false, false, false, false] rfl rfl (by kernel_rfl) (fun _ _ _ h => h) (Or.inl ⟨by rfl, ?_⟩) ?_ ?_
    rotate_left
    · intro w'
      go_simp
      with_reducible rfl
    rotate_left
    · simp only [Act.put, List.setIfInBounds_toArray, List.set_cons_zero, List.set_cons_succ, i64_w, i32_w, u8_w]
      rfl
    refine pure_ (i := 17) (N := some 35) (v := ?_) (a' := ?_) #[true, true, true, true, true, true, true, true, true, true, true, true, true, true, true, true, true, true, false, false, false, false] rfl rfl (by kernel_rfl) (fun _ _ _ h => h) (Or.inl ⟨by rfl, ?_⟩) ?_ ?_
    rotate_left
    · intro w'
      go_simp
      with_reducible rfl
    rotate_left
    · simp only [Act.put, List.setIfInBounds_toArray, List.set_cons_zero, List.set_cons_succ, i64_w, i32_w, u8_w]
      rfl
    refine pure_ (i := 18) (N := some 36) (v := ?_) (a' := ?_) #[true, true, true, true, true, true, true, true, true, true, true, true, true, true, true, true, true, true, true, false, false, false] rfl rfl (by kernel_rfl) (fun _ _ _ h => h) (Or.inl ⟨by rfl, ?_⟩) ?_ ?_
    rotate_left
    · intro w'
      go_simp
      with_reducible rfl
    rotate_left
    · simp only [Act.put, List.setIfInBounds_toArray, List.set_cons_zero, List.set_cons_succ, i64_w, i32_w, u8_w]
      rfl
    refine pure_ (i := 19) (N := some 37) (v := ?_) (a' := ?_) #[true, true, true, true, true, true, true, true, true, true, true, true, true, true, true, true, true, true, true, true, false, false] rfl rfl (by kernel_rfl) (fun _ _ _ h => h) (Or.inl ⟨by rfl, ?_⟩) ?_ ?_
    rotate_left
    · intro w'
      go_simp
      with_reducible rfl
    rotate_left
    · simp only [Act.put, List.setIfInBounds_toArray, List.set_cons_zero, List.set_cons_succ, i64_w, i32_w, u8_w]
      rfl
    refine pure_ (i := 20) (N := some 38) (v := ?_) (a' := ?_) #[true, true, true, true, true, true, true, true, true, true, true, true, true, true, true, true, true, true, true, true, true, false] rfl rfl (by kernel_rfl) (fun _ _ _ h => h) (Or.inl ⟨by rfl, ?_⟩) ?_ ?_
    rotate_left
    · intro w'
      go_simp
      with_reducible rfl
    rotate_left
    · simp only [Act.put, List.setIfInBounds_toArray, List.set_cons_zero, List.set_cons_succ, i64_w, i32_w, u8_w]
      rfl
    refine last_ (i := 21) (N := none) #[true, true, true, true, true, true, true, true, true, true, true, true, true, true, true, true, true, true, true, true, true, true] rfl rfl (by kernel_rfl) (by decide) (fun K hK => ?_)
    have hf0 := HFX.out
    have hx0 := HX.out
    refine skip_ (w1 := ?_) (by rfl) rfl ?_ ?_
    rotate_left
    · go_simp
      rfl
    refine hK.out _ _ ?_
    clear hK K
    refine done_ (by kernel_rfl) ?_
    rw [← NL.out] at HP
    have HVg := HV.out go rfl
    have n0 := Aside0.mk (HP.out)
    have n1 := Aside0.mk (blk_far (p := ⟨go, jx.toNat, none⟩) BV.out NV.out (.int .u8 (Go.bits .or .u8 (rd l1 jx) (js % 256))))
    have n2 := Aside0.mk (blk_far (p := ⟨go, jx.toNat, none⟩) BB.out NB.out (.int .u8 (Go.bits .or .u8 (rd l1 jx) (js % 256))))
    have n3 := Aside0.mk (HB.out.setCell (p := ⟨go, jx.toNat, none⟩) GL.out (.int .u8 (Go.bits .or .u8 (rd l1 jx) (js % 256))))
    have n4 := Aside0.mk (keep_row (o := jx.toNat) HK.out HVg (.int .u8 (Go.bits .or .u8 (rd l1 jx) (js % 256))))
    clear HO BV BB HB HK hHeld HX HFX HP HVg hf0 hx0
    have HO := n0
    have BV := n1
    have BB := n2
    have HB := n3
    have HK := n4
    clear n0 n1 n2 n3 n4
    generalize we.setCell ⟨go, jx.toNat, none⟩ (.int .u8 (Go.bits .or .u8 (rd l1 jx) (js % 256))) = wy at HO BV BB HB HK ⊢
    have hc1 : wy.cell? ⟨gv, 0, none⟩ = some (.pointer (some ⟨gb, 0, none⟩)) := (blk_cell BV.out 0).trans rfl
    have hc2 : wy.cell? ⟨gb, 0, none⟩ = some (.slice (some ⟨go, 0, none⟩) l1.length c2) := (blk_cell BB.out 0).trans rfl
    have hc3 : wy.cell? ⟨gb, 1, none⟩ = some (.int .i64 nn) := (blk_cell BB.out 1).trans rfl
    have hf1 := blk_frozen BV.out 0
    have hf2 := blk_frozen BB.out 0
    have hf3 := blk_frozen BB.out 1
    go_wp2
    first | go_end0 | ((try simp only [Exit.inBlock, Exit.then]); refine bodyPost_ret (results_none rfl _ _ _) rfl ?_)
    refine ⟨rfl, .slice (some ⟨go, 0, none⟩) l1.length c2, blk_far (p := ⟨gb, 1, none⟩) BV.out NVB.out _, blk_put BB.out 1 _ rfl, Kd.R_mono (Kd.R_far (p := ⟨gb, 1, none⟩) (Kd.R_types HO.out BB.out (by decide)) (fun _ hk => hk.2) _) (fun _ hk => hk.1), HB.out.setCell (p := ⟨gb, 1, none⟩) GBL.out _, KeepBut.set_ HK.out 1 _⟩
  · skip
    have c3b0 : (j7 == 0) = false := beq_eq_false_iff_ne.mpr c3
    clear c3
    have hc1 : w.cell? ⟨gv, 0, none⟩ = some (.pointer (some ⟨gb, 0, none⟩)) := (blk_cell BV.out 0).trans rfl
    have hc2 : w.cell? ⟨gb, 0, none⟩ = some (.slice A l1.length c) := (blk_cell BB.out 0).trans rfl
    have hc3 : w.cell? ⟨gb, 1, none⟩ = some (.int .i64 nn) := (blk_cell BB.out 1).trans rfl
    have hf1 := blk_frozen BV.out 0
    have hf2 := blk_frozen BB.out 0
    have hf3 := blk_frozen BB.out 1
    go_enter Try.func48, Try.ntmps48
    go_wp2
    clear hc1 hc2 hc3 hf1 hf2 hf3
    have P0 : (0 : Int) ≤ jx := of_decide_eq_true Q0.out
    have P1 : jx < (l1.length : Int) := of_decide_eq_true Q1.out
    obtain ⟨go, co, eo, ggo, glo, clo, hgo⟩ := Kd.R_form HO.out (by omega)
    injection eo with ea en ec
    subst ea
    subst ec
    clear en
    have n0 := Aside0.mk (Kd.R_drew HO.out)
    have n1 := Aside0.mk (blk_drew BV.out)
    have n2 := Aside0.mk (blk_drew BB.out)
    have n3 := Aside0.mk (below_drew1 HB.out)
    have n4 := Aside0.mk (keep_drew HK.out)
    have n5 := Aside0.mk (ggo)
    clear HO BV BB HB HK hgo ggo glo
    have HO := n0
    have BV := n1
    have BB := n2
    have HB := n3
    have HK := n4
    have GL := n5
    clear n0 n1 n2 n3 n4 n5
    obtain ⟨hx0, hf0⟩ := Kd.R_celln 0 HO.out jx P0 P1
    have HP := Aside0.mk (Kd.R_putn HO.out jx (Go.bits .or .u8 (rd l1 jx) (js % 256)))
    have HX := Aside0.mk hx0
    clear hx0
    have HFX := Aside0.mk hf0
    clear hf0
    have NV := Aside0.mk (fun e : gv = go => (Kd.R_ne HO.out BV.out (by decide)) (by rw [e]; rfl))
    have NB := Aside0.mk (fun e : gb = go => (Kd.R_ne HO.out BB.out (by decide)) (by rw [e]; rfl))
    replace P0 := eq_true P0
    replace P1 := eq_true P1
    refine start_ (n := 22) (S := fun w' => w'.cell? ⟨gv, 0, none⟩ = some (.pointer (some ⟨gb, 0, none⟩)) ∧ w'.cell? ⟨gb, 0, none⟩ = some (.slice (some ⟨go, 0, none⟩) l1.length c) ∧ w'.cell? ⟨gb, 1, none⟩ = some (.int .i64 nn) ∧ w'.cell? ⟨go, jx.toNat, none⟩ = some (.int .u8 (rd l1 jx))) (ds := [21]) #[false, false, false, false, false, false, false, false, false, false, false, false, false, false, false, false, false, false, false, false, false, false] (by kernel_rfl) rfl rfl ⟨(blk_cell BV.out 0).trans rfl, (blk_cell BB.out 0).trans rfl, (blk_cell BB.out 1).trans rfl, HX.out⟩ (fun hHeld => ?_)
    generalize w.drew = we at HO BV BB HB HK HX HFX HP hHeld ⊢
    refine pure_ (i := 11) (N := some 29) (v := ?_) (a' := ?_) #[false, false, false, false, false, false, false, false, false, false, false, true, false, false, false, false, false, false, false, false, false, false] rfl rfl (by kernel_rfl) (fun _ _ _ h => h) (Or.inl ⟨by rfl, ?_⟩) ?_ ?_
    rotate_left
    · intro w'
      go_simp
      with_reducible rfl
    rotate_left
    · simp only [Act.put, List.setIfInBounds_toArray, List.set_cons_zero, List.set_cons_succ, i64_w, i32_w, u8_w]
      rfl
    refine take_ (i := 0) (N := some 18) (v := ?_) (a' := ?_) #[true, false, false, false, false, false, false, false, false, false, false, true, false, false, false, false, false, false, false, false, false, false] rfl rfl (by kernel_rfl) (fun _ _ _ h => h) (Or.inl ⟨by rfl, ?_⟩) hHeld ?_ ?_
    rotate_left
    · rintro w' ⟨s0, s1, s2, s3⟩
      go_simp
      with_reducible rfl
    rotate_left
    · simp only [Act.put, List.setIfInBounds_toArray, List.set_cons_zero, List.set_cons_succ, i64_w, i32_w, u8_w]
      rfl
    refine pure_ (i := 1) (N := some 19) (v := ?_) (a' := ?_) #[true, true, false, false, false, false, false, false, false, false, false, true, false, false, false, false, false, false, false, false, false, false] rfl rfl (by kernel_rfl) (fun _ _ _ h => h) (Or.inl ⟨by rfl, ?_⟩) ?_ ?_
    rotate_left
    · intro w'
      go_simp
      with_reducible rfl
    rotate_left
    · simp only [Act.put, List.setIfInBounds_toArray, List.set_cons_zero, List.set_cons_succ, i64_w, i32_w, u8_w]
      rfl
    refine pure_ (i := 2) (N := some 20) (v := ?_) (a' := ?_) #[true, true, true, false, false, false, false, false, false, false, false, true, false, false, false, false, false, false, false, false, false, false] rfl rfl (by kernel_rfl) (fun _ _ _ h => h) (Or.inl ⟨by rfl, ?_⟩) ?_ ?_
    rotate_left
    · intro w'
      go_simp
      with_reducible rfl
    rotate_left
    · simp only [Act.put, List.setIfInBounds_toArray, List.set_cons_zero, List.set_cons_succ, i64_w, i32_w, u8_w]
      rfl
    refine take_ (i := 3) (N := some 21) (v := ?_) (a' := ?_) #[true, true, true, true, false, false, false, false, false, false, false, true, false, false, false, false, false, false, false, false, false, false] rfl rfl (by kernel_rfl) (fun _ _ _ h => h) (Or.inl ⟨by rfl, ?_⟩) hHeld ?_ ?_
    rotate_left
    · rintro w' ⟨s0, s1, s2, s3⟩
      go_simp
      with_reducible rfl
    rotate_left
    · simp only [Act.put, List.setIfInBounds_toArray, List.set_cons_zero, List.set_cons_succ, i64_w, i32_w, u8_w]
      rfl
    refine take_ (i := 4) (N := some 22) (v := ?_) (a' := ?_) #[true, true, true, true, true, false, false, false, false, false, false, true, false, false, false, false, false, false, false, false, false, false] rfl rfl (by kernel_rfl) (fun _ _ _ h => h) (Or.inl ⟨by rfl, ?_⟩) hHeld ?_ ?_
    rotate_left
    · rintro w' ⟨s0, s1, s2, s3⟩
      go_simp
      with_reducible rfl
    rotate_left
    · simp only [Act.put, List.setIfInBounds_toArray, List.set_cons_zero, List.set_cons_succ, i64_w, i32_w, u8_w]
      rfl
    refine pure_ (i := 5) (N := some 23) (v := ?_) (a' := ?_) #[true, true, true, true, true, true, false, false, false, false, false, true, false, false, false, false, false, false, false, false, false, false] rfl rfl (by kernel_rfl) (fun _ _ _ h => h) (Or.inl ⟨by rfl, ?_⟩) ?_ ?_
    rotate_left
    · intro w'
      go_simp
      with_reducible rfl
    rotate_left
    · simp only [Act.put, List.setIfInBounds_toArray, List.set_cons_zero, List.set_cons_succ, i64_w, i32_w, u8_w]
      rfl
    refine pure_ (i := 6) (N := some 24) (v := ?_) (a' := ?_) #[true, true, true, true, true, true, true, false, false, false, false, true, false, false, false, false, false, false, false, false, false, false] rfl rfl (by kernel_rfl) (fun _ _ _ h => h) (Or.inl ⟨by rfl, ?_⟩) ?_ ?_
    rotate_left
    · intro w'
      go_simp
      with_reducible rfl
    rotate_left
    · simp only [Act.put, List.setIfInBounds_toArray, List.set_cons_zero, List.set_cons_succ, i64_w, i32_w, u8_w]
      rfl
    refine take_ (i := 7) (N := some 25) (v := ?_) (a' := ?_) #[true, true, true, true, true, true, true, true, false, false, false, true, false, false, false, false, false, false, false, false, false, false] rfl rfl (by kernel_rfl) (fun _ _ _ h => h) (Or.inl ⟨by rfl, ?_⟩) hHeld ?_ ?_
    rotate_left
    · rintro w' ⟨s0, s1, s2, s3⟩
      go_simp
      with_reducible rfl
    rotate_left
    · simp only [Act.put, List.setIfInBounds_toArray, List.set_cons_zero, List.set_cons_succ, i64_w, i32_w, u8_w]
      rfl
    refine pure_ (i := 8) (N := some 26) (v := ?_) (a' := ?_) #[true, true, true, true, true, true, true, true, true, false, false, true, false, false, false, false, false, false, false, false, false, false] rfl rfl (by kernel_rfl) (fun _ _ _ h => h) (Or.inl ⟨by rfl, ?_⟩) ?_ ?_
    rotate_left
    · intro w'
      go_simp
      with_reducible rfl
    rotate_left
    · simp only [Act.put, List.setIfInBounds_toArray, List.set_cons_zero, List.set_cons_succ, i64_w, i32_w, u8_w]
      rfl
    refine pure_ (i := 9) (N := some 27) (v := ?_) (a' := ?_) #[true, true, true, true, true, true, true, true, true, true, false, true, false, false, false, false, false, false, false, false, false, false] rfl rfl (by kernel_rfl) (fun _ _ _ h => h) (Or.inl ⟨by rfl, ?_⟩) ?_ ?_
    rotate_left
    · intro w'
      go_simp
      with_reducible rfl
    rotate_left
    · simp only [Act.put, List.setIfInBounds_toArray, List.set_cons_zero, List.set_cons_succ, i64_w, i32_w, u8_w]
      rfl
    refine take_ (i := 10) (N := some 28) (v := ?_) (a' := ?_) #[true, true, true, true, true, true, true, true, true, true, true, true, false, false, false, false, false, false, false, false, false, false] rfl rfl (by kernel_rfl) (fun _ _ _ h => h) (Or.inl ⟨by rfl, ?_⟩) hHeld ?_ ?_
    rotate_left
    · rintro w' ⟨s0, s1, s2, s3⟩
      go_simp
      with_reducible rfl
    rotate_left
    · simp only [Act.put, List.setIfInBounds_toArray, List.set_cons_zero, List.set_cons_succ, i64_w, i32_w, u8_w]
      rfl
    refine take_ (i := 12) (N := some 30) (v := ?_) (a' := ?_) #[true, true, true, true, true, true, true, true, true, true, true, true, true, false, false, false, false, false, false, false, false, false] rfl rfl (by kernel_rfl) (fun _ _ _ h => h) (Or.inl ⟨by rfl, ?_⟩) hHeld ?_ ?_
    rotate_left
    · rintro w' ⟨s0, s1, s2, s3⟩
      go_simp
      with_reducible rfl
    rotate_left
    · simp only [Act.put, List.setIfInBounds_toArray, List.set_cons_zero, List.set_cons_succ, i64_w, i32_w, u8_w]
      rfl
    refine pure_ (i := 13) (N := some 31) (v := ?_) (a' := ?_) #[true, true, true, true, true, true, true, true, true, true, true, true, true, true, false, false, false, false, false, false, false, false] rfl rfl (by kernel_rfl) (fun _ _ _ h => h) (Or.inl ⟨by rfl, ?_⟩) ?_ ?_
    rotate_left
    · intro w'
      go_simp
      with_reducible rfl
    rotate_left
    · simp only [Act.put, List.setIfInBounds_toArray, List.set_cons_zero, List.set_cons_succ, i64_w, i32_w, u8_w]
      rfl
    refine pure_ (i := 14) (N := some 32) (v := ?_) (a' := ?_) #[true, true, true, true, true, true, true, true, true, true, true, true, true, true, true, false, false, false, false, false, false, false] rfl rfl (by kernel_rfl) (fun _ _ _ h => h) (Or.inl ⟨by rfl, ?_⟩) ?_ ?_
    rotate_left
    · intro w'
      go_simp
      with_reducible rfl
    rotate_left
    · simp only [Act.put, List.setIfInBounds_toArray, List.set_cons_zero, List.set_cons_succ, i64_w, i32_w, u8_w]
      rfl
    refine take_ (i := 15) (N := some 33) (v := ?_) (a' := ?_) #[true, true, true, true, true, true, true, true, true, true, true, true, true, true, true, true, false, false, false, false, false, false] rfl rfl (by kernel_rfl) (fun _ _ _ h => h) (Or.inl ⟨by rfl, ?_⟩) hHeld ?_ ?_
    rotate_left
    · rintro w' ⟨s0, s1, s2, s3⟩
      go_simp
      with_reducible rfl
    rotate_left
    · simp only [Act.put, List.setIfInBounds_toArray, List.set_cons_zero, List.set_cons_succ, i64_w, i32_w, u8_w]
      rfl
    refine pure_ (i := 16) (N := some 34) (v := ?_) (a' := ?_) #[true, true, true, true, true, true, true, true, true, true, true, true, true, true, true, true, true, false, false, false, false, false] rfl rfl (by kernel_rfl) (fun _ _ _ h => h) (Or.inl ⟨by rfl, ?_⟩) ?_ ?_
    rotate_left
    · intro w'
      go_simp
      with_reducible rfl
    rotate_left
    · simp only [Act.put, List.setIfInBounds_toArray, List.set_cons_zero, List.set_cons_succ, i64_w, i32_w, u8_w]
      rfl
    refine pure_ (i := 17) (N := some 35) (v := ?_) (a' := ?_) #[true, true, true, true, true, true, true, true, true, true, true, true, true, true, true, true, true, true, false, false, false, false] rfl rfl (by kernel_rfl) (fun _ _ _ h => h) (Or.inl ⟨by rfl, ?_⟩) ?_ ?_
    rotate_left
    · intro w'
      go_simp
      with_reducible rfl
    rotate_left
    · simp only [Act.put, List.setIfInBounds_toArray, List.set_cons_zero, List.set_cons_succ, i64_w, i32_w, u8_w]
      rfl
    refine pure_ (i := 18) (N := some 36) (v := ?_) (a' := ?_) #[true, true, true, true, true, true, true, true, true, true, true, true, true, true, true, true, true, true, true, false, false, false] rfl rfl (by kernel_rfl) (fun _ _ _ h => h) (Or.inl ⟨by rfl, ?_⟩) ?_ ?_
    rotate_left
    · intro w'
      go_simp
      with_reducible rfl
    rotate_left
    · simp only [Act.put, List.setIfInBounds_toArray, List.set_cons_zero, List.set_cons_succ, i64_w, i32_w, u8_w]
      rfl
    refine pure_ (i := 19) (N := some 37) (v := ?_) (a' := ?_) #[true, true, true, true, true, true, true, true, true, true, true, true, true, true, true, true, true, true, true, true, false, false] rfl rfl (by kernel_rfl) (fun _ _ _ h => h) (Or.inl ⟨by rfl, ?_⟩) ?_ ?_
    rotate_left
    · intro w'
      go_simp
      with_reducible rfl
    rotate_left
    · simp only [Act.put, List.setIfInBounds_toArray, List.set_cons_zero, List.set_cons_succ, i64_w, i32_w, u8_w]
      rfl
    refine pure_ (i := 20) (N := some 38) (v := ?_) (a' := ?_) #[true, true, true, true, true, true, true, true, true, true, true, true, true, true, true, true, true, true, true, true, true, false] rfl rfl (by kernel_rfl) (fun _ _ _ h => h) (Or.inl ⟨by rfl, ?_⟩) ?_ ?_
    rotate_left
    · intro w'
      go_simp
      with_reducible rfl
    rotate_left
    · simp only [Act.put, List.setIfInBounds_toArray, List.set_cons_zero, List.set_cons_succ, i64_w, i32_w, u8_w]
      rfl
    refine last_ (i := 21) (N := none) #[true, true, true, true, true, true, true, true, true, true, true, true, true, true, true, true, true, true, true, true, true, true] rfl rfl (by kernel_rfl) (by decide) (fun K hK => ?_)
    have hf0 := HFX.out
    have hx0 := HX.out
    refine skip_ (w1 := ?_) (by rfl) rfl ?_ ?_
    rotate_left
    · go_simp
      rfl
    refine hK.out _ _ ?_
    clear hK K
    refine done_ (by kernel_rfl) ?_
    rw [← NL.out] at HP
    have HVg := HV.out go rfl
    have n0 := Aside0.mk (HP.out)
    have n1 := Aside0.mk (blk_far (p := ⟨go, jx.toNat, none⟩) BV.out NV.out (.int .u8 (Go.bits .or .u8 (rd l1 jx) (js % 256))))
    have n2 := Aside0.mk (blk_far (p := ⟨go, jx.toNat, none⟩) BB.out NB.out (.int .u8 (Go.bits .or .u8 (rd l1 jx) (js % 256))))
    have n3 := Aside0.mk (HB.out.setCell (p := ⟨go, jx.toNat, none⟩) GL.out (.int .u8 (Go.bits .or .u8 (rd l1 jx) (js % 256))))
    have n4 := Aside0.mk (keep_row (o := jx.toNat) HK.out HVg (.int .u8 (Go.bits .or .u8 (rd l1 jx) (js % 256))))
    clear HO BV BB HB HK hHeld HX HFX HP HVg hf0 hx0
    have HO := n0
    have BV := n1
    have BB := n2
    have HB := n3
    have HK := n4
    clear n0 n1 n2 n3 n4
    generalize we.setCell ⟨go, jx.toNat, none⟩ (.int .u8 (Go.bits .or .u8 (rd l1 jx) (js % 256))) = wy at HO BV BB HB HK ⊢
    have hc1 : wy.cell? ⟨gv, 0, none⟩ = some (.pointer (some ⟨gb, 0, none⟩)) := (blk_cell BV.out 0).trans rfl
    have hc2 : wy.cell? ⟨gb, 0, none⟩ = some (.slice (some ⟨go, 0, none⟩) l1.length c) := (blk_cell BB.out 0).trans rfl
    have hc3 : wy.cell? ⟨gb, 1, none⟩ = some (.int .i64 nn) := (blk_cell BB.out 1).trans rfl
    have hf1 := blk_frozen BV.out 0
    have hf2 := blk_frozen BB.out 0
    have hf3 := blk_frozen BB.out 1
    go_wp2
    first | go_end0 | ((try simp only [Exit.inBlock, Exit.then]); refine bodyPost_ret (results_none rfl _ _ _) rfl ?_)
    refine ⟨rfl, .slice (some ⟨go, 0, none⟩) l1.length c, blk_far (p := ⟨gb, 1, none⟩) BV.out NVB.out _, blk_put BB.out 1 _ rfl, Kd.R_mono (Kd.R_far (p := ⟨gb, 1, none⟩) (Kd.R_types HO.out BB.out (by decide)) (fun _ hk => hk.2) _) (fun _ hk => hk.1), HB.out.setCell (p := ⟨gb, 1, none⟩) GBL.out _, KeepBut.set_ HK.out 1 _⟩

def WriterPost (l : List Int) (n : Int) (w : World) (e : Ending) (w' : World) : Prop :=
  ∃ gb gv v, e = .returned (.tuple #[.pointer (some ⟨gb, 0, none⟩), .func (.func 48) #[] #[.pointer (some ⟨gv, 0, none⟩)]]) ∧ w.heap.size ≤ gb ∧ w.heap.size ≤ gv ∧
    w'.heap[gv]? = some (.cells #[.pointer (some ⟨gb, 0, none⟩)] 79 (0, 0)) ∧ w'.heap[gb]? = some (.cells #[v, .int .i64 n] 36 (0, 0)) ∧ Kd.R (Kd.int .u8) 5 w' w.heap.size (fun _ => True) v l ∧ Below w.heap.size w w'
set_option maxHeartbeats 4000000 in
set_option maxRecDepth 100000 in
theorem bits_writer.calls (A : Option Addr) (c : Nat) (l : List Int) (n : Int) (r : List Int) (w : World) (hr : Kd.C (Kd.int .u8) w A l.length l) (hc : l.length ≤ c) (h : slices_Clone_byte_byte.f l = some r) :
    Calls Try.prog 43 #[.agg #[.slice A l.length c, .int .i64 n]] w (WriterPost r n w) := by
  have HR := Aside0.mk hr
  have HC := Aside0.mk hc
  have HH := Aside0.mk h
  clear hr hc h
  go_enter Try.func43, Try.ntmps43
  go_wp2
  have BK := Aside0.mk (blk_drew (blk_new w (.cells #[.slice A l.length c, .int .i64 n] 36 (0, 0))))
  have HB := Aside0.mk (below_drew1 (below_alloc (Below.refl w.heap.size w) (.cells #[.slice A l.length c, .int .i64 n] 36 (0, 0))))
  refine start_ (n := 9) (S := fun w' => w'.cell? ⟨w.heap.size, 0, none⟩ = some (.slice A l.length c) ∧ w'.cell? ⟨w.heap.size, 1, none⟩ = some (.int .i64 n)) (ds := [8]) #[false, false, false, false, false, false, false, false, false] (by kernel_rfl) rfl rfl ⟨(blk_cell BK.out 0).trans rfl, (blk_cell BK.out 1).trans rfl⟩ (fun hHeld => ?_)
  generalize (w.alloc (.cells #[.slice A l.length c, .int .i64 n] 36 (0, 0))).drew = w2 at BK HB hHeld ⊢
  refine pure_ (i := 0) (N := some 5) (v := ?_) (a' := ?_) #[true, false, false, false, false, false, false, false, false] rfl rfl (by kernel_rfl) (fun _ _ _ h => h) (Or.inl ⟨by rfl, ?_⟩) ?_ ?_
  rotate_left
  · intro w'
    go_simp
    with_reducible rfl
  rotate_left
  · simp only [Act.put, List.setIfInBounds_toArray, List.set_cons_zero, List.set_cons_succ, i64_w, i32_w, u8_w]
    rfl
  refine pure_ (i := 3) (N := some 8) (v := ?_) (a' := ?_) #[true, false, false, true, false, false, false, false, false] rfl rfl (by kernel_rfl) (fun _ _ _ h => h) (Or.inl ⟨by rfl, ?_⟩) ?_ ?_
  rotate_left
  · intro w'
    go_simp
    with_reducible rfl
  rotate_left
  · simp only [Act.put, List.setIfInBounds_toArray, List.set_cons_zero, List.set_cons_succ, i64_w, i32_w, u8_w]
    rfl
  refine take_ (i := 1) (N := some 6) (v := ?_) (a' := ?_) #[true, true, false, true, false, false, false, false, false] rfl rfl (by kernel_rfl) (fun _ _ _ h => h) (Or.inl ⟨by rfl, ?_⟩) hHeld ?_ ?_
  rotate_left
  · rintro w' ⟨s0, s1⟩
    go_simp
    with_reducible rfl
  rotate_left
  · simp only [Act.put, List.setIfInBounds_toArray, List.set_cons_zero, List.set_cons_succ, i64_w, i32_w, u8_w]
    rfl
  refine take_ (i := 4) (N := some 9) (v := ?_) (a' := ?_) #[true, true, false, true, true, false, false, false, false] rfl rfl (by kernel_rfl) (fun _ _ _ h => h) (Or.inl ⟨by rfl, ?_⟩) hHeld ?_ ?_
  rotate_left
  · rintro w' ⟨s0, s1⟩
    go_simp
    with_reducible rfl
  rotate_left
  · simp only [Act.put, List.setIfInBounds_toArray, List.set_cons_zero, List.set_cons_succ, i64_w, i32_w, u8_w]
    rfl
  refine join_ (σ := Option Addr × Nat × Nat × Nat) 1 #[true, true, true, true, true, true, true, true, false] (fun s => [(7, .slice s.1 r.length s.2.1), (10, .agg #[.slice s.1 r.length s.2.1, .int .i64 n]), (11, .pointer (some ⟨s.2.2.1, 0, none⟩)), (4, .pointer (some ⟨s.2.2.2, 0, none⟩))]) (fun s w' => (w.heap.size ≤ s.2.2.1 ∧ w.heap.size ≤ s.2.2.2 ∧ w'.heap[s.2.2.2]? = some (.cells #[.pointer none] 79 (0, 0)) ∧ w'.heap[s.2.2.1]? = some (.cells #[.slice s.1 r.length s.2.1, .int .i64 n] 36 (0, 0)) ∧ Kd.R (Kd.int .u8) 5 w' w.heap.size (fun _ => True) (.slice s.1 r.length s.2.1) r ∧ Below w.heap.size w w') ∧ (w'.cell? ⟨w.heap.size, 0, none⟩ = some (.slice A l.length c) ∧ w'.cell? ⟨w.heap.size, 1, none⟩ = some (.int .i64 n))) ?_ ?_
  rotate_left
  · intro hCont
    refine two_ (i := 2) (j := 7) (Ni := some 7) (Nj := some 4) #[true, true, true, true, true, false, false, false, false] #[true, true, false, true, true, false, false, true, false] rfl rfl rfl rfl (by kernel_rfl) (by decide) (by decide) (fun K hK => ?_) (fun K hK => ?_)
    · skip
      refine goes_ Try.func47 (by kernel_rfl) rfl #[.slice A l.length c] (by rfl) rfl rfl (by simp only [List.map_toArray, List.map_cons, List.map_nil]; rfl) ?_
      with_reducible refine (slices_Clone_byte_byte.calls A c l r _ (Kd.C_below HR.out HB.out) HC.out HH.out).mono ?_
      rintro e w3 ⟨v, rfl, ho, hb⟩
      refine ⟨_, rfl, ?_⟩
      have n0 := Aside0.mk (below_then HB.out HB.out.size hb)
      have n1 := Aside0.mk (blk_below BK.out hb)
      have n2 := Aside0.mk (Kd.R_lower ho HB.out.size)
      clear HB BK
      have HB := n0
      have BK := n1
      have HO := n2
      clear n0 n1 n2
      clear ho hb
      obtain ⟨A1, c1, ev⟩ := Kd.R_slice HO.out
      subst ev
      refine hK.out _ _ ⟨(blk_cell BK.out 0).trans rfl, (blk_cell BK.out 1).trans rfl⟩ (fun hHeld => ?_)
      clear hK K
      refine norm_ (a' := ?_) ?_ ?_
      rotate_left
      · show Act.put _ (some 7) _ = _
        simp only [Act.put, List.setIfInBounds_toArray, List.set_cons_zero, List.set_cons_succ, i64_w, i32_w, u8_w]
        rfl
      refine pure_ (i := 5) (N := some 10) (v := ?_) (a' := ?_) #[true, true, true, true, true, true, false, false, false] rfl rfl (by kernel_rfl) (fun _ _ _ h => h) (Or.inl ⟨by rfl, ?_⟩) ?_ ?_
      rotate_left
      · intro w'
        go_simp
        with_reducible rfl
      rotate_left
      · simp only [Act.put, List.setIfInBounds_toArray, List.set_cons_zero, List.set_cons_succ, i64_w, i32_w, u8_w]
        rfl
      refine two_ (i := 6) (j := 7) (Ni := some 11) (Nj := some 4) #[true, true, true, true, true, true, true, false, false] #[true, true, true, true, true, true, false, true, false] rfl rfl rfl rfl (by kernel_rfl) (by decide) (by decide) (fun K hK => ?_) (fun K hK => ?_)
      · skip
        refine box_step (by rfl) ?hd (N := 11) (cs := #[.slice A1 r.length c1, .int .i64 n]) (t := 36) ?hr ?_; (case hd => rfl); (case hr => first | (go_simp; done) | (go_simp; rfl))
        intro gb hg w4 hbox hb
        have n0 := Aside0.mk (below_then HB.out HB.out.size hb)
        have n1 := Aside0.mk (blk_below BK.out hb)
        have n2 := Aside0.mk (Kd.R_below HO.out hb)
        have n3 := Aside0.mk (hbox)
        have n4 := Aside0.mk ((by rw [hg]; exact HB.out.size : w.heap.size ≤ gb))
        clear HB BK HO
        have HB := n0
        have BK := n1
        have HO := n2
        have BB := n3
        have GB := n4
        clear n0 n1 n2 n3 n4
        clear hg hbox hb
        refine hK.out _ _ ⟨(blk_cell BK.out 0).trans rfl, (blk_cell BK.out 1).trans rfl⟩ (fun hHeld => ?_)
        clear hK K
        refine norm_ (a' := ?_) ?_ ?_
        rotate_left
        · show Act.put _ (some 11) _ = _
          simp only [Act.put, List.setIfInBounds_toArray, List.set_cons_zero, List.set_cons_succ, i64_w, i32_w, u8_w]
          rfl
        refine one_ (i := 7) (N := some 4) #[true, true, true, true, true, true, true, true, false] rfl rfl (by kernel_rfl) (by decide) (fun K hK => ?_)
        refine box_step (by rfl) ?hd (N := 4) (cs := #[.pointer none]) (t := 79) ?hr ?_; (case hd => rfl); (case hr => first | (go_simp; done) | (go_simp; rfl))
        intro gv hg w5 hbox hb
        have n0 := Aside0.mk (below_then HB.out HB.out.size hb)
        have n1 := Aside0.mk (blk_below BK.out hb)
        have n2 := Aside0.mk (Kd.R_below HO.out hb)
        have n3 := Aside0.mk (blk_below BB.out hb)
        have n4 := Aside0.mk (hbox)
        have n5 := Aside0.mk ((by rw [hg]; exact HB.out.size : w.heap.size ≤ gv))
        clear HB BK HO BB
        have HB := n0
        have BK := n1
        have HO := n2
        have BB := n3
        have BV := n4
        have GV := n5
        clear n0 n1 n2 n3 n4 n5
        clear hg hbox hb
        refine hK.out _ _ ⟨(blk_cell BK.out 0).trans rfl, (blk_cell BK.out 1).trans rfl⟩ (fun hHeld => ?_)
        clear hK K
        refine norm_ (a' := ?_) ?_ ?_
        rotate_left
        · show Act.put _ (some 4) _ = _
          simp only [Act.put, List.setIfInBounds_toArray, List.set_cons_zero, List.set_cons_succ, i64_w, i32_w, u8_w]
          rfl
        exact norm_ (by simp only [putAll, Act.put, List.setIfInBounds_toArray, List.set_cons_zero, List.set_cons_succ]) (hCont (A1, c1, gb, gv) _ ⟨⟨GB.out, GV.out, BV.out, BB.out, HO.out, HB.out⟩, (blk_cell BK.out 0).trans rfl, (blk_cell BK.out 1).trans rfl⟩)
      · skip
        refine box_step (by rfl) ?hd (N := 4) (cs := #[.pointer none]) (t := 79) ?hr ?_; (case hd => rfl); (case hr => first | (go_simp; done) | (go_simp; rfl))
        intro gv hg w4 hbox hb
        have n0 := Aside0.mk (below_then HB.out HB.out.size hb)
        have n1 := Aside0.mk (blk_below BK.out hb)
        have n2 := Aside0.mk (Kd.R_below HO.out hb)
        have n3 := Aside0.mk (hbox)
        have n4 := Aside0.mk ((by rw [hg]; exact HB.out.size : w.heap.size ≤ gv))
        clear HB BK HO
        have HB := n0
        have BK := n1
        have HO := n2
        have BV := n3
        have GV := n4
        clear n0 n1 n2 n3 n4
        clear hg hbox hb
        refine hK.out _ _ ⟨(blk_cell BK.out 0).trans rfl, (blk_cell BK.out 1).trans rfl⟩ (fun hHeld => ?_)
        clear hK K
        refine norm_ (a' := ?_) ?_ ?_
        rotate_left
        · show Act.put _ (some 4) _ = _
          simp only [Act.put, List.setIfInBounds_toArray, List.set_cons_zero, List.set_cons_succ, i64_w, i32_w, u8_w]
          rfl
        refine one_ (i := 6) (N := some 11) #[true, true, true, true, true, true, true, true, false] rfl rfl (by kernel_rfl) (by decide) (fun K hK => ?_)
        refine box_step (by rfl) ?hd (N := 11) (cs := #[.slice A1 r.length c1, .int .i64 n]) (t := 36) ?hr ?_; (case hd => rfl); (case hr => first | (go_simp; done) | (go_simp; rfl))
        intro gb hg w5 hbox hb
        have n0 := Aside0.mk (below_then HB.out HB.out.size hb)
        have n1 := Aside0.mk (blk_below BK.out hb)
        have n2 := Aside0.mk (Kd.R_below HO.out hb)
        have n3 := Aside0.mk (blk_below BV.out hb)
        have n4 := Aside0.mk (hbox)
        have n5 := Aside0.mk ((by rw [hg]; exact HB.out.size : w.heap.size ≤ gb))
        clear HB BK HO BV
        have HB := n0
        have BK := n1
        have HO := n2
        have BV := n3
        have BB := n4
        have GB := n5
        clear n0 n1 n2 n3 n4 n5
        clear hg hbox hb
        refine hK.out _ _ ⟨(blk_cell BK.out 0).trans rfl, (blk_cell BK.out 1).trans rfl⟩ (fun hHeld => ?_)
        clear hK K
        refine norm_ (a' := ?_) ?_ ?_
        rotate_left
        · show Act.put _ (some 11) _ = _
          simp only [Act.put, List.setIfInBounds_toArray, List.set_cons_zero, List.set_cons_succ, i64_w, i32_w, u8_w]
          rfl
        exact norm_ (by simp only [putAll, Act.put, List.setIfInBounds_toArray, List.set_cons_zero, List.set_cons_succ]) (hCont (A1, c1, gb, gv) _ ⟨⟨GB.out, GV.out, BV.out, BB.out, HO.out, HB.out⟩, (blk_cell BK.out 0).trans rfl, (blk_cell BK.out 1).trans rfl⟩)
    · skip
      refine box_step (by rfl) ?hd (N := 4) (cs := #[.pointer none]) (t := 79) ?hr ?_; (case hd => rfl); (case hr => first | (go_simp; done) | (go_simp; rfl))
      intro gv hg w3 hbox hb
      have n0 := Aside0.mk (below_then HB.out HB.out.size hb)
      have n1 := Aside0.mk (blk_below BK.out hb)
      have n2 := Aside0.mk (hbox)
      have n3 := Aside0.mk ((by rw [hg]; exact HB.out.size : w.heap.size ≤ gv))
      clear HB BK
      have HB := n0
      have BK := n1
      have BV := n2
      have GV := n3
      clear n0 n1 n2 n3
      clear hg hbox hb
      refine hK.out _ _ ⟨(blk_cell BK.out 0).trans rfl, (blk_cell BK.out 1).trans rfl⟩ (fun hHeld => ?_)
      clear hK K
      refine norm_ (a' := ?_) ?_ ?_
      rotate_left
      · show Act.put _ (some 4) _ = _
        simp only [Act.put, List.setIfInBounds_toArray, List.set_cons_zero, List.set_cons_succ, i64_w, i32_w, u8_w]
        rfl
      refine one_ (i := 2) (N := some 7) #[true, true, true, true, true, false, false, true, false] rfl rfl (by kernel_rfl) (by decide) (fun K hK => ?_)
      refine goes_ Try.func47 (by kernel_rfl) rfl #[.slice A l.length c] (by rfl) rfl rfl (by simp only [List.map_toArray, List.map_cons, List.map_nil]; rfl) ?_
      with_reducible refine (slices_Clone_byte_byte.calls A c l r _ (Kd.C_below HR.out HB.out) HC.out HH.out).mono ?_
      rintro e w4 ⟨v, rfl, ho, hb⟩
      refine ⟨_, rfl, ?_⟩
      have n0 := Aside0.mk (below_then HB.out HB.out.size hb)
      have n1 := Aside0.mk (blk_below BK.out hb)
      have n2 := Aside0.mk (blk_below BV.out hb)
      have n3 := Aside0.mk (Kd.R_lower ho HB.out.size)
      clear HB BK BV
      have HB := n0
      have BK := n1
      have BV := n2
      have HO := n3
      clear n0 n1 n2 n3
      clear ho hb
      obtain ⟨A1, c1, ev⟩ := Kd.R_slice HO.out
      subst ev
      refine hK.out _ _ ⟨(blk_cell BK.out 0).trans rfl, (blk_cell BK.out 1).trans rfl⟩ (fun hHeld => ?_)
      clear hK K
      refine norm_ (a' := ?_) ?_ ?_
      rotate_left
      · show Act.put _ (some 7) _ = _
        simp only [Act.put, List.setIfInBounds_toArray, List.set_cons_zero, List.set_cons_succ, i64_w, i32_w, u8_w]
        rfl
      refine pure_ (i := 5) (N := some 10) (v := ?_) (a' := ?_) #[true, true, true, true, true, true, false, true, false] rfl rfl (by kernel_rfl) (fun _ _ _ h => h) (Or.inl ⟨by rfl, ?_⟩) ?_ ?_
      rotate_left
      · intro w'
        go_simp
        with_reducible rfl
      rotate_left
      · simp only [Act.put, List.setIfInBounds_toArray, List.set_cons_zero, List.set_cons_succ, i64_w, i32_w, u8_w]
        rfl
      refine one_ (i := 6) (N := some 11) #[true, true, true, true, true, true, true, true, false] rfl rfl (by kernel_rfl) (by decide) (fun K hK => ?_)
      refine box_step (by rfl) ?hd (N := 11) (cs := #[.slice A1 r.length c1, .int .i64 n]) (t := 36) ?hr ?_; (case hd => rfl); (case hr => first | (go_simp; done) | (go_simp; rfl))
      intro gb hg w5 hbox hb
      have n0 := Aside0.mk (below_then HB.out HB.out.size hb)
      have n1 := Aside0.mk (blk_below BK.out hb)
      have n2 := Aside0.mk (Kd.R_below HO.out hb)
      have n3 := Aside0.mk (blk_below BV.out hb)
      have n4 := Aside0.mk (hbox)
      have n5 := Aside0.mk ((by rw [hg]; exact HB.out.size : w.heap.size ≤ gb))
      clear HB BK HO BV
      have HB := n0
      have BK := n1
      have HO := n2
      have BV := n3
      have BB := n4
      have GB := n5
      clear n0 n1 n2 n3 n4 n5
      clear hg hbox hb
      refine hK.out _ _ ⟨(blk_cell BK.out 0).trans rfl, (blk_cell BK.out 1).trans rfl⟩ (fun hHeld => ?_)
      clear hK K
      refine norm_ (a' := ?_) ?_ ?_
      rotate_left
      · show Act.put _ (some 11) _ = _
        simp only [Act.put, List.setIfInBounds_toArray, List.set_cons_zero, List.set_cons_succ, i64_w, i32_w, u8_w]
        rfl
      exact norm_ (by simp only [putAll, Act.put, List.setIfInBounds_toArray, List.set_cons_zero, List.set_cons_succ]) (hCont (A1, c1, gb, gv) _ ⟨⟨GB.out, GV.out, BV.out, BB.out, HO.out, HB.out⟩, (blk_cell BK.out 0).trans rfl, (blk_cell BK.out 1).trans rfl⟩)
  rintro ⟨A1, c1, gb, gv⟩ w9 ⟨⟨gB, gV, bV, bB, hO, hB⟩, hHeld⟩
  have GB := Aside0.mk gB
  have GV := Aside0.mk gV
  have BV := Aside0.mk bV
  have BB := Aside0.mk bB
  have HO := Aside0.mk hO
  have HB := Aside0.mk hB
  clear gB gV bV bB hO hB
  refine norm_ (a' := ?_) ?_ ?_
  rotate_left
  · simp only [putAll, Act.put, List.setIfInBounds_toArray, List.set_cons_zero, List.set_cons_succ]
    rfl
  refine last_ (i := 8) (N := none) #[true, true, true, true, true, true, true, true, true] rfl rfl (by kernel_rfl) (by decide) (fun K hK => ?_)
  have hcv : w9.cell? ⟨gv, 0, none⟩ = some (.pointer none) := (blk_cell BV.out 0).trans rfl
  have hfv := blk_frozen BV.out 0
  refine skip_ (w1 := ?_) (by rfl) rfl ?_ ?_
  rotate_left
  · go_simp
    rfl
  refine hK.out _ _ ?_
  clear hK K
  refine done_ (by kernel_rfl) ?_
  have NE := Aside0.mk (blk_ne BB.out BV.out (by decide))
  have n0 := Aside0.mk (blk_put (cs := #[.pointer none]) BV.out 0 (.pointer (some ⟨gb, 0, none⟩)) rfl)
  have n1 := Aside0.mk (blk_far (p := ⟨gv, 0, none⟩) BB.out NE.out (.pointer (some ⟨gb, 0, none⟩)))
  have n2 := Aside0.mk (Kd.R_mono (Kd.R_far (p := ⟨gv, 0, none⟩) (Kd.R_types HO.out BV.out (by decide)) (fun _ hk => hk.2) (.pointer (some ⟨gb, 0, none⟩))) (fun _ hk => hk.1))
  have n3 := Aside0.mk (HB.out.setCell (p := ⟨gv, 0, none⟩) GV.out (.pointer (some ⟨gb, 0, none⟩)))
  clear BV BB HO HB hHeld BK hcv hfv
  have BV := n0
  have BB := n1
  have HO := n2
  have HB := n3
  clear n0 n1 n2 n3
  generalize w9.setCell ⟨gv, 0, none⟩ (.pointer (some ⟨gb, 0, none⟩)) = wx at HO BV BB HB ⊢
  have hc1 : wx.cell? ⟨gv, 0, none⟩ = some (.pointer (some ⟨gb, 0, none⟩)) := (blk_cell BV.out 0).trans rfl
  go_wp2
  go_ret2
  exact ⟨gb, gv, _, rfl, GB.out, GV.out, BV.out, BB.out, HO.out, HB.out⟩

end Go.Proofs.Ythcndpdfcippiaa.Pr
