-- Written by a program of this session (wip/tool/graft.py), which runs the kit's printer over texts by hand.
import Derived.Test.YtggmffmajgnhkaaPr0
import Derived.Test.YtggmffmajgnhkaaPr2
import Derived.Test.YtggmffmajgnhkaaPr12
namespace Go.Proofs.Ytggmffmajgnhkaa.Pr
open Go.RowKit Go.Proofs.YtggmffmajgnhkaaW.PrintWords Go.Proofs.YtggmffmajgnhkaaW.PrintLast Go.Proofs.YtggmffmajgnhkaaW.PrintMore
attribute [local go_sem] max2_int min2_int max_two min_two max_three min_three max_four min_four   -- for this text's walks alone
set_option linter.unusedVariables false
set_option linter.unusedSimpArgs false

/-! ### valiselaw01_kept: function 18 (by hand) -/
theorem wrapw {x : Int} (h0 : -9223372036854775808 ≤ x) (h1 : x ≤ 9223372036854775807) : wrap64 x = x := by unfold wrap64; omega
theorem same_self (l : List Int) (n : Int) : valiseref01_Same.f l n l n = some true := by
  unfold valiseref01_Same.f
  simp
theorem cut_cap {P : Program} (t e : TypeId) (kh : IntKind) {i : TypeInfo} (ht : P.underlying t = some (.slice e)) (hi : P.info? e = some i) (A : Option Addr) (n c : Nat) (j : Int) (h0 : 0 ≤ j) (hm : j ≤ c) :
    ∀ W : World, (Instr.slice t (.slice A n c) none (some (.int kh j)) none).run P W = .ok (.slice A j.toNat c) W := by
  intro W
  have hel : P.elem t = e := by simp [Program.elem, ht]
  have hu : P.underlying t = some (.slice (P.elem t)) := by rw [hel]; exact ht
  have ha : (A.map fun x => x.add 0) = A := by cases A <;> simp [Addr.add]
  rw [run_slice_h W t A n c hu kh j h0 (by omega), hel]
  simp [sizeOf, typeInfo, hi, sliced, Result.andThen, ha]
theorem own_narrow {w : World} {A : Option Addr} {l : List Int} (h : (Kd.int .u8).C w A (l ++ [119]).length (l ++ [119])) : (Kd.int .u8).C w A l.length l := by
  have h2 := Kd.C_take (m := l.length) h (by simp)
  rwa [List.take_left' rfl] at h2
theorem own_some {l : List Int} {n : Int} {l' : List Int} {n' : Int} (h : valiselaw01_own.f l n = some (l', n')) : l.length + 1 < 140737488355328 ∧ l' = l ∧ n' = n := by
  unfold valiselaw01_own.f at h
  by_cases hl : l.length + 1 < 140737488355328
  · rw [if_pos hl] at h
    injection h with h
    injection h with h1 h2
    exact ⟨hl, h1.symm, h2.symm⟩
  · rw [if_neg hl] at h
    cases h
/-- own, with the byte behind the row's end. -/
theorem own_wide (A : Option Addr) (c : Nat) (l : List Int) (n : Int) (l' : List Int) (n' : Int) (w : World) (hr : Kd.C (Kd.int .u8) w A l.length l) (hc : l.length ≤ c) (h : valiselaw01_own.f l n = some (l', n')) :
    Calls Try.prog 11 #[.agg #[.slice A l.length c, .int .i64 n]] w fun e w' => ∃ A' c', e = .returned (.agg #[.slice A' l'.length c', .int .i64 n']) ∧ Kd.R (Kd.int .u8) 5 w' w.heap.size (fun _ => True) (.slice A' (l'.length + 1) c') (l' ++ [119]) ∧ Below w.heap.size w w' := by
  obtain ⟨hl, rfl, rfl⟩ := own_some h
  refine (own_full A c l' n' w hr hc hl).mono ?_
  rintro e w' ⟨A', c', rfl, hc', hR, hB⟩
  exact ⟨A', c', rfl, hR, hB⟩
/-- A row's value with one cell more. -/
def wideV : Value → Value
  | .slice A n c => .slice A (n + 1) c
  | v => v
theorem wide_slice {e : TypeId} {w : World} {base : Nat} {ok : Nat → Prop} {v : Value} {l : List Int} (h : Kd.R (Kd.int .u8) e w base ok (wideV v) (l ++ [119])) : ∃ A c, v = .slice A l.length c := by
  obtain ⟨A, c, hv⟩ := Kd.R_slice h
  rw [List.length_append] at hv
  cases v <;> simp only [wideV] at hv <;> first | (injection hv with h1 h2 h3; refine ⟨A, c, ?_⟩; subst h1 h3; rw [show _ = l.length from Nat.succ.inj h2]) | cases hv
theorem wide_fact {e : TypeId} {w : World} {base : Nat} {ok : Nat → Prop} {A : Option Addr} {n c : Nat} {l : List Int} (h : Aside0 (Kd.R (Kd.int .u8) e w base ok (wideV (.slice A n c)) l)) : Aside0 (Kd.R (Kd.int .u8) e w base ok (.slice A (n + 1) c) l) := ⟨h.out⟩
theorem own_wideV (A : Option Addr) (c : Nat) (l : List Int) (n : Int) (l' : List Int) (n' : Int) (w : World) (hr : Kd.C (Kd.int .u8) w A l.length l) (hc : l.length ≤ c) (h : valiselaw01_own.f l n = some (l', n')) :
    Calls Try.prog 11 #[.agg #[.slice A l.length c, .int .i64 n]] w fun e w' => ∃ v' : Value, e = .returned (.agg #[v', .int .i64 n']) ∧ Kd.R (Kd.int .u8) 5 w' w.heap.size (fun _ => True) (wideV v') (l' ++ [119]) ∧ Below w.heap.size w w' := by
  refine (own_wide A c l n l' n' w hr hc h).mono ?_
  rintro e w' ⟨A', c', rfl, hR, hB⟩
  exact ⟨_, rfl, hR, hB⟩
def valiselaw01_kept.f (l0 : List Int) (n0 : Int) (l1 : List Int) (n1 : Int) : Option Bool := if l0 = l1 ∧ n0 = n1 ∧ l0.length < 140737488355328 then some true else none
set_option maxHeartbeats 4000000 in
set_option maxRecDepth 100000 in
theorem valiselaw01_kept.calls (A : Option Addr) (c : Nat) (l0 : List Int) (n0 : Int) (A1 : Option Addr) (c1 : Nat) (l : List Int) (n : Int) (r : Bool) (w : World) (hr : Kd.C (Kd.int .u8) w A (l0 ++ [119]).length (l0 ++ [119])) (hc : l0.length + 1 ≤ c) (hr1 : Kd.C (Kd.int .u8) w A1 l.length l) (hc1 : l.length ≤ c1) (h : valiselaw01_kept.f l0 n0 l n = some r) :
    Calls Try.prog 18 #[.agg #[.slice A l0.length c, .int .i64 n0], .agg #[.slice A1 l.length c1, .int .i64 n]] w fun e w' => e = .returned (.bool r) ∧ Below w.heap.size w w' := by
  unfold valiselaw01_kept.f at h
  by_cases hq : l0 = l ∧ n0 = n ∧ l0.length < 140737488355328
  · rw [if_pos hq] at h
    obtain ⟨rfl, rfl, hlen⟩ := hq
    injection h with h
    subst h
    have HR := Aside0.mk hr
    have HC := Aside0.mk hc
    have HR1 := Aside0.mk hr1
    have HC1 := Aside0.mk hc1
    have HB := Aside0.mk (Below.refl w.heap.size w)
    obtain ⟨ad, rfl, hx⟩ := Kd.at_int hr (l0.length : Int) (by omega) (by simp; omega)
    rw [show rd (l0 ++ [119]) (l0.length : Int) = 119 by unfold rd; simp, Int.toNat_natCast] at hx
    have HX := Aside0.mk hx
    obtain ⟨i0, hi0, _, hsz, _⟩ := info_parts info5
    obtain ⟨jn, hjn⟩ : ∃ j : Int, ((l0.length : Int) + 1) = j := ⟨_, rfl⟩
    have hcut := cut_cap (P := Try.prog) 22 5 .i64 Try.underlying22 hi0 (some ad) l0.length c jn (by omega) (by omega)
    have hj1 : wrap64 ((l0.length : Int) + 1) = jn := by rw [wrapw (by omega) (by omega)]; exact hjn
    have hj2 : IntKind.i64.wrap ((l0.length : Int) + 1) = jn := (i64_w _).trans hj1
    obtain ⟨jm, hjm⟩ : ∃ m : Nat, jn.toNat = m := ⟨_, rfl⟩
    rw [hjm] at hcut
    have hq0 := eq_true (show 0 ≤ (l0.length : Int) by omega)
    have hq1 := eq_true (show (l0.length : Int) < (jm : Int) by omega)
    have hq2 := eq_true (show l0.length < jm by omega)
    clear hr hc hr1 hc1 hx hlen
    clear hjn hjm
    go_enter Try.func18, Try.ntmps18
    go_wp2_with (first
        | ((with_reducible refine gate_dst (N := 2) rfl ?_); refine box_event ?hg (N := 2) ?hd (cs := #[.slice (some ad) l0.length c, .int .i64 n0]) (t := 24) ?hr ?_; (case hd => rfl); (case hg => rfl); (case hr => first | (go_simp; done) | (go_simp; rfl)); intro g2 hg w2 hbox hb; have n0 := Aside0.mk (below_then HB.out HB.out.size hb); have n1 := Aside0.mk (hbox); have n2 := Aside0.mk ((by rw [hg]; exact HB.out.size : w.heap.size ≤ g2)); clear HB; have HB := n0; have B2 := n1; have G2 := n2; clear n0 n1 n2; clear hg hbox hb)
        | ((with_reducible refine gate_dst (N := 3) rfl ?_); refine box_event ?hg (N := 3) ?hd (cs := #[.slice A1 l0.length c1, .int .i64 n0]) (t := 24) ?hr ?_; (case hd => rfl); (case hg => rfl); (case hr => first | (go_simp; done) | (go_simp; rfl)); intro g3 hg w3 hbox hb; have n0 := Aside0.mk (below_then HB.out HB.out.size hb); have n1 := Aside0.mk (blk_below B2.out hb); have n2 := Aside0.mk (hbox); have n3 := Aside0.mk ((by rw [hg]; exact HB.out.size : w.heap.size ≤ g3)); clear HB B2; have HB := n0; have B2 := n1; have B3 := n2; have G3 := n3; clear n0 n1 n2 n3; clear hg hbox hb; have hcg20 : w3.cell? ⟨g2, 0, none⟩ = some (.slice (some ad) l0.length c) := (blk_cell B2.out 0).trans rfl; have hcg21 : w3.cell? ⟨g2, 1, none⟩ = some (.int .i64 n0) := (blk_cell B2.out 1).trans rfl; have hcg30 : w3.cell? ⟨g3, 0, none⟩ = some (.slice A1 l0.length c1) := (blk_cell B3.out 0).trans rfl; have hcg31 : w3.cell? ⟨g3, 1, none⟩ = some (.int .i64 n0) := (blk_cell B3.out 1).trans rfl)
        )
    have n0 := Aside0.mk (below_drew1 HB.out)
    have n1 := Aside0.mk (blk_drew B2.out)
    have n2 := Aside0.mk (blk_drew B3.out)
    clear HB B2 B3
    have HB := n0
    have B2 := n1
    have B3 := n2
    clear n0 n1 n2
    clear hcg20 hcg21 hcg30 hcg31
    refine start_ (n := 19) (S := fun w' => w'.cell? ⟨g2, 0, none⟩ = some (.slice (some ad) l0.length c) ∧ w'.cell? ⟨g2, 1, none⟩ = some (.int .i64 n0) ∧ w'.cell? ⟨g3, 0, none⟩ = some (.slice A1 l0.length c1) ∧ w'.cell? ⟨g3, 1, none⟩ = some (.int .i64 n0) ∧ w'.cell? (ad.add l0.length) = some (.int .u8 119)) (ds := []) #[false, false, false, false, false, false, false, false, false, false, false, false, false, false, false, false, false, false, false] (by kernel_rfl) rfl rfl ⟨(blk_cell B2.out 0).trans rfl, (blk_cell B2.out 1).trans rfl, (blk_cell B3.out 0).trans rfl, (blk_cell B3.out 1).trans rfl, (HB.out.cell (World.block_lt_of_cell? w _ HX.out)).trans HX.out⟩ (fun hHeld => ?_)
    generalize w3.drew = w5 at HB B2 B3 hHeld ⊢
    refine take_ (i := 0) (N := some 5) (v := ?_) (a' := ?_) #[true, false, false, false, false, false, false, false, false, false, false, false, false, false, false, false, false, false, false] rfl rfl (by kernel_rfl) (fun _ _ _ h => h) (Or.inl ⟨by rfl, ?_⟩) hHeld ?_ ?_
    rotate_left
    · rintro w' ⟨s0, s1, s2, s3, s4⟩
      go_simp
      with_reducible rfl
    rotate_left
    · simp only [Act.put, List.setIfInBounds_toArray, List.set_cons_zero, List.set_cons_succ, i64_w, i32_w, u8_w]
      rfl
    refine take_ (i := 1) (N := some 6) (v := ?_) (a' := ?_) #[true, true, false, false, false, false, false, false, false, false, false, false, false, false, false, false, false, false, false] rfl rfl (by kernel_rfl) (fun _ _ _ h => h) (Or.inl ⟨by rfl, ?_⟩) hHeld ?_ ?_
    rotate_left
    · rintro w' ⟨s0, s1, s2, s3, s4⟩
      go_simp
      with_reducible rfl
    rotate_left
    · simp only [Act.put, List.setIfInBounds_toArray, List.set_cons_zero, List.set_cons_succ, i64_w, i32_w, u8_w]
      rfl
    refine one_ (i := 2) (N := some 7) #[true, true, true, false, false, false, false, false, false, false, false, false, false, false, false, false, false, false, false] rfl rfl (by kernel_rfl) (by decide) (fun K hK => ?_)
    refine goes_ Try.func14 (by kernel_rfl) rfl #[.agg #[.slice (some ad) l0.length c, .int .i64 n0], .agg #[.slice A1 l0.length c1, .int .i64 n0]] (by rfl) rfl rfl (by simp only [List.map_toArray, List.map_cons, List.map_nil]; rfl) ?_
    with_reducible refine (valiseref01_Same.calls (some ad) c l0 n0 A1 c1 l0 n0 true _ (own_narrow (Kd.C_below HR.out HB.out)) (by have := HC.out; omega) (Kd.C_below HR1.out HB.out) HC1.out (same_self l0 n0)).mono ?_
    rintro e w6 ⟨rfl, hb⟩
    refine ⟨_, rfl, ?_⟩
    have n0 := Aside0.mk (below_then HB.out HB.out.size hb)
    have n1 := Aside0.mk (blk_below B2.out hb)
    have n2 := Aside0.mk (blk_below B3.out hb)
    clear HB B2 B3
    have HB := n0
    have B2 := n1
    have B3 := n2
    clear n0 n1 n2
    clear hb
    refine hK.out _ _ ⟨(blk_cell B2.out 0).trans rfl, (blk_cell B2.out 1).trans rfl, (blk_cell B3.out 0).trans rfl, (blk_cell B3.out 1).trans rfl, (HB.out.cell (World.block_lt_of_cell? w _ HX.out)).trans HX.out⟩ (fun hHeld => ?_)
    clear hK K
    refine norm_ (a' := ?_) ?_ ?_
    rotate_left
    · show Act.put _ (some 7) _ = _
      simp only [Act.put, List.setIfInBounds_toArray, List.set_cons_zero, List.set_cons_succ, i64_w, i32_w, u8_w]
      rfl
    refine pure_ (i := 3) (N := some 8) (v := ?_) (a' := ?_) #[true, true, true, true, false, false, false, false, false, false, false, false, false, false, false, false, false, false, false] rfl rfl (by kernel_rfl) (fun _ _ _ h => h) (Or.inl ⟨by rfl, ?_⟩) ?_ ?_
    rotate_left
    · intro w'
      go_simp
      with_reducible rfl
    rotate_left
    · simp only [Act.put, List.setIfInBounds_toArray, List.set_cons_zero, List.set_cons_succ, i64_w, i32_w, u8_w]
      rfl
    refine pure_ (i := 4) (N := some 9) (v := ?_) (a' := ?_) #[true, true, true, true, true, false, false, false, false, false, false, false, false, false, false, false, false, false, false] rfl rfl (by kernel_rfl) (fun _ _ _ h => h) (Or.inl ⟨by rfl, ?_⟩) ?_ ?_
    rotate_left
    · intro w'
      go_simp
      with_reducible rfl
    rotate_left
    · simp only [Act.put, List.setIfInBounds_toArray, List.set_cons_zero, List.set_cons_succ, i64_w, i32_w, u8_w]
      rfl
    refine pure_ (i := 6) (N := some 11) (v := ?_) (a' := ?_) #[true, true, true, true, true, false, true, false, false, false, false, false, false, false, false, false, false, false, false] rfl rfl (by kernel_rfl) (fun _ _ _ h => h) (Or.inl ⟨by rfl, ?_⟩) ?_ ?_
    rotate_left
    · intro w'
      go_simp
      with_reducible rfl
    rotate_left
    · simp only [Act.put, List.setIfInBounds_toArray, List.set_cons_zero, List.set_cons_succ, i64_w, i32_w, u8_w]
      rfl
    refine pure_ (i := 11) (N := some 16) (v := ?_) (a' := ?_) #[true, true, true, true, true, false, true, false, false, false, false, true, false, false, false, false, false, false, false] rfl rfl (by kernel_rfl) (fun _ _ _ h => h) (Or.inl ⟨by rfl, ?_⟩) ?_ ?_
    rotate_left
    · intro w'
      go_simp
      with_reducible rfl
    rotate_left
    · simp only [Act.put, List.setIfInBounds_toArray, List.set_cons_zero, List.set_cons_succ, i64_w, i32_w, u8_w]
      rfl
    refine take_ (i := 5) (N := some 10) (v := ?_) (a' := ?_) #[true, true, true, true, true, true, true, false, false, false, false, true, false, false, false, false, false, false, false] rfl rfl (by kernel_rfl) (fun _ _ _ h => h) (Or.inl ⟨by rfl, ?_⟩) hHeld ?_ ?_
    rotate_left
    · rintro w' ⟨s0, s1, s2, s3, s4⟩
      go_simp
      with_reducible rfl
    rotate_left
    · simp only [Act.put, List.setIfInBounds_toArray, List.set_cons_zero, List.set_cons_succ, i64_w, i32_w, u8_w]
      rfl
    refine take_ (i := 7) (N := some 12) (v := ?_) (a' := ?_) #[true, true, true, true, true, true, true, true, false, false, false, true, false, false, false, false, false, false, false] rfl rfl (by kernel_rfl) (fun _ _ _ h => h) (Or.inl ⟨by rfl, ?_⟩) hHeld ?_ ?_
    rotate_left
    · rintro w' ⟨s0, s1, s2, s3, s4⟩
      go_simp
      with_reducible rfl
    rotate_left
    · simp only [Act.put, List.setIfInBounds_toArray, List.set_cons_zero, List.set_cons_succ, i64_w, i32_w, u8_w]
      rfl
    refine pure_ (i := 8) (N := some 13) (v := ?_) (a' := ?_) #[true, true, true, true, true, true, true, true, true, false, false, true, false, false, false, false, false, false, false] rfl rfl (by kernel_rfl) (fun _ _ _ h => h) (Or.inl ⟨by rfl, ?_⟩) ?_ ?_
    rotate_left
    · intro w'
      go_simp
      with_reducible rfl
    rotate_left
    · simp only [Act.put, List.setIfInBounds_toArray, List.set_cons_zero, List.set_cons_succ, i64_w, i32_w, u8_w]
      rfl
    refine pure_ (i := 9) (N := some 14) (v := ?_) (a' := ?_) #[true, true, true, true, true, true, true, true, true, true, false, true, false, false, false, false, false, false, false] rfl rfl (by kernel_rfl) (fun _ _ _ h => h) (Or.inl ⟨by rfl, ?_⟩) ?_ ?_
    rotate_left
    · intro w'
      go_simp
      with_reducible rfl
    rotate_left
    · simp only [Act.put, List.setIfInBounds_toArray, List.set_cons_zero, List.set_cons_succ, i64_w, i32_w, u8_w]
      rfl
    refine pure_ (i := 10) (N := some 15) (v := ?_) (a' := ?_) #[true, true, true, true, true, true, true, true, true, true, true, true, false, false, false, false, false, false, false] rfl rfl (by kernel_rfl) (fun _ _ _ h => h) (Or.inl ⟨by rfl, ?_⟩) ?_ ?_
    rotate_left
    · intro w'
      go_simp
      with_reducible rfl
    rotate_left
    · simp only [Act.put, List.setIfInBounds_toArray, List.set_cons_zero, List.set_cons_succ, i64_w, i32_w, u8_w]
      rfl
    refine take_ (i := 12) (N := some 17) (v := ?_) (a' := ?_) #[true, true, true, true, true, true, true, true, true, true, true, true, true, false, false, false, false, false, false] rfl rfl (by kernel_rfl) (fun _ _ _ h => h) (Or.inl ⟨by rfl, ?_⟩) hHeld ?_ ?_
    rotate_left
    · rintro w' ⟨s0, s1, s2, s3, s4⟩
      go_simp
      with_reducible rfl
    rotate_left
    · simp only [Act.put, List.setIfInBounds_toArray, List.set_cons_zero, List.set_cons_succ, i64_w, i32_w, u8_w]
      rfl
    refine pure_ (i := 13) (N := some 18) (v := ?_) (a' := ?_) #[true, true, true, true, true, true, true, true, true, true, true, true, true, true, false, false, false, false, false] rfl rfl (by kernel_rfl) (fun _ _ _ h => h) (Or.inl ⟨by rfl, ?_⟩) ?_ ?_
    rotate_left
    · intro w'
      go_simp
      with_reducible rfl
    rotate_left
    · simp only [Act.put, List.setIfInBounds_toArray, List.set_cons_zero, List.set_cons_succ, i64_w, i32_w, u8_w]
      rfl
    refine pure_ (i := 14) (N := some 19) (v := ?_) (a' := ?_) #[true, true, true, true, true, true, true, true, true, true, true, true, true, true, true, false, false, false, false] rfl rfl (by kernel_rfl) (fun _ _ _ h => h) (Or.inl ⟨by rfl, ?_⟩) ?_ ?_
    rotate_left
    · intro w'
      go_simp
      with_reducible rfl
    rotate_left
    · simp only [Act.put, List.setIfInBounds_toArray, List.set_cons_zero, List.set_cons_succ, i64_w, i32_w, u8_w]
      rfl
    refine take_ (i := 15) (N := some 20) (v := ?_) (a' := ?_) #[true, true, true, true, true, true, true, true, true, true, true, true, true, true, true, true, false, false, false] rfl rfl (by kernel_rfl) (fun _ _ _ h => h) (Or.inl ⟨by rfl, ?_⟩) hHeld ?_ ?_
    rotate_left
    · rintro w' ⟨s0, s1, s2, s3, s4⟩
      go_simp
      with_reducible rfl
    rotate_left
    · simp only [Act.put, List.setIfInBounds_toArray, List.set_cons_zero, List.set_cons_succ, i64_w, i32_w, u8_w]
      rfl
    refine pure_ (i := 16) (N := some 21) (v := ?_) (a' := ?_) #[true, true, true, true, true, true, true, true, true, true, true, true, true, true, true, true, true, false, false] rfl rfl (by kernel_rfl) (fun _ _ _ h => h) (Or.inl ⟨by rfl, ?_⟩) ?_ ?_
    rotate_left
    · intro w'
      go_simp
      with_reducible rfl
    rotate_left
    · simp only [Act.put, List.setIfInBounds_toArray, List.set_cons_zero, List.set_cons_succ, i64_w, i32_w, u8_w]
      rfl
    refine pure_ (i := 17) (N := some 22) (v := ?_) (a' := ?_) #[true, true, true, true, true, true, true, true, true, true, true, true, true, true, true, true, true, true, false] rfl rfl (by kernel_rfl) (fun _ _ _ h => h) (Or.inl ⟨by rfl, ?_⟩) ?_ ?_
    rotate_left
    · intro w'
      go_simp
      with_reducible rfl
    rotate_left
    · simp only [Act.put, List.setIfInBounds_toArray, List.set_cons_zero, List.set_cons_succ, i64_w, i32_w, u8_w]
      rfl
    refine pure_ (i := 18) (N := some 4) (v := ?_) (a' := ?_) #[true, true, true, true, true, true, true, true, true, true, true, true, true, true, true, true, true, true, true] rfl rfl (by kernel_rfl) (fun _ _ _ h => h) (Or.inl ⟨by rfl, ?_⟩) ?_ ?_
    rotate_left
    · intro w'
      go_simp
      with_reducible rfl
    rotate_left
    · simp only [Act.put, List.setIfInBounds_toArray, List.set_cons_zero, List.set_cons_succ, i64_w, i32_w, u8_w]
      rfl
    refine done_ (by kernel_rfl) ?_
    go_wp2
    go_ret
    exact ⟨rfl, HB.out⟩
  · rw [if_neg hq] at h
    cases h

end Go.Proofs.Ytggmffmajgnhkaa.Pr
