-- A text by hand (wip/inflate).
import Derived.Shelf.Abstract
import Derived.Shelf.RegionOpen
import Derived.OwnWalkIn
import Derived.TacticsInMore
import Derived.LoopNIn
import Derived.LoopIn
import Derived.Test.YtgflkkjhckcipaaGreatDoorMID24
set_option maxHeartbeats 16000000
set_option maxRecDepth 1000000
namespace Go.Proofs.YtgflkkjhckcipaaGreatDoor.Pg
open Go.RowKit Go.Shelf Go.Proofs.YtgflkkjhckcipaaGreatDoorW.PrintWords Go.Proofs.YtgflkkjhckcipaaGreatDoorW.PrintLast Go.Proofs.YtgflkkjhckcipaaGreatDoorW.PrintMore
set_option linter.unusedVariables false
set_option linter.unusedSimpArgs false
open Pr (Byt val_next nat_next rd_nat)
section
attribute [local go_sem] Oper.semAt_some
theorem bits_u8 (o : BinOp) (a b : Int) : 0 ≤ Go.bits o .u8 a b ∧ Go.bits o .u8 a b < 256 := by
  show 0 ≤ IntKind.u8.wrap _ ∧ IntKind.u8.wrap _ < 256
  rw [IntKind.wrap_u8]
  omega
theorem blocks_told (a0 : Int) (a1 : Bool) (B : Option Addr) (c2 : Nat) (l2 : List Int) (a3 : Int) (w : World) (hr2 : Kd.C (Kd.int .u8) w B l2.length l2) (hc2 : l2.length ≤ c2) (hb2 : Byt l2) (hg : Pr.Handle w) :
    Calls Tryz.prog 4 #[.int .i64 a0, .bool a1, .slice B l2.length c2, .int .i64 a3] w fun e w' => e = .returned (.bool true) ∧ Below w.heap.size w w' := by
  have HR2 := Ak hr2
  have HBY := Ak hb2
  have HG := Ak hg
  have HB := Ak (Below.refl w.heap.size w)
  clear hr2 hb2 hg
  by_cases c5 : (l2.length : Int) > 500
  · have c5b0 : decide (500 < (l2.length : Int)) = true := decide_eq_true c5
    have c5b1 : decide (500 < l2.length) = true := decide_eq_true (by omega)
    clear c5
    go_enter Tryz.func4, Tryz.ntmps4
    go_wp2_with (go_at_call 5; refine (Pr.lives_calls _ HG.out).mono ?_; rintro e w7 ⟨rfl, hb⟩; have HB_ := Ak hb; clear hb)
    go_ret
    exact ⟨rfl, HB_.out⟩
  have c5b0 : decide (500 < (l2.length : Int)) = false := decide_eq_false c5
  have c5b1 : decide (500 < l2.length) = false := decide_eq_false (by omega)
  have HLN := Ak (show l2.length ≤ 500 by omega)
  clear c5
  go_enter Tryz.func4, Tryz.ntmps4
  go_upto_if 21 with (fail)
  go_cut [9] (fun v9 wc => ∃ x9 : Int, v9 = .int .u8 x9 ∧ Aside0 (0 ≤ x9 ∧ x9 < 256) ∧ Aside0 (w = wc))
  case first =>
    cases a1 with
    | true =>
      go_wp2
      go_meet
      case rel => exact ⟨_, rfl, ⟨by omega⟩, ⟨rfl⟩⟩
    | false =>
      go_wp2
      go_meet
      case rel => exact ⟨_, rfl, ⟨by omega⟩, ⟨rfl⟩⟩
  obtain ⟨x9, rfl, HX9, ⟨rfl⟩⟩ := hcut
  by_cases hk : Go.bits .and .i64 a0 3 = 0
  · have q0 : (Go.bits .and .i64 a0 3 == 0) = true := beq_iff_eq.mpr hk
    obtain ⟨y5, hy5⟩ : ∃ y_ : List Int, y_ = [x9, ((l2.length : Int)) % 256, ((l2.length : Int) / 256) % 256, Go.bits .xor .u8 255 (((l2.length : Int)) % 256), Go.bits .xor .u8 255 (((l2.length : Int) / 256) % 256)] := ⟨_, rfl⟩
    have HY := Ak hy5
    have HBY5 := Ak (show Byt y5 from fun x hx => by
      rw [hy5] at hx
      have h1 := HX9.out
      have h2 := bits_u8 .xor 255 ((l2.length : Int) % 256)
      have h3 := bits_u8 .xor 255 (((l2.length : Int) / 256) % 256)
      simp only [List.mem_cons, List.not_mem_nil, or_false] at hx
      rcases hx with rfl | rfl | rfl | rfl | rfl <;> omega)
    have HL5 := Ak (show y5.length = 5 from by rw [hy5]; rfl)
    clear hy5 hk
    go_wp2_with (first
        | ((with_reducible refine gate_dst (N := 45) rfl ?_); refine Kd.R_lit (Kd.int .u8) _ 5 ?hg (N := 45) ?hd (xs := ([x9, ((l2.length : Int)) % 256, ((l2.length : Int) / 256) % 256, Go.bits .xor .u8 255 (((l2.length : Int)) % 256), Go.bits .xor .u8 255 (((l2.length : Int) / 256) % 256)] : List Int)) (inner := [.int .u8 (x9), .int .u8 (((l2.length : Int)) % 256), .int .u8 (((l2.length : Int) / 256) % 256), .int .u8 (Go.bits .xor .u8 255 (((l2.length : Int)) % 256)), .int .u8 (Go.bits .xor .u8 255 (((l2.length : Int) / 256) % 256))]) (ok := fun _ => True) (okp := fun _ => True) ?hr ?hp (fun _ hk => hk) trivial HB.out HB.out.size (by simp) ?_; (case hd => rfl); (case hg => rfl); (case hr => first | (go_simp; done) | (go_simp; rfl)); (case hp => exact (Reps.one (show Kd.M (Kd.int .u8) _ _ _ (x9) [.int .u8 (x9)] from rfl) (Reps.one (show Kd.M (Kd.int .u8) _ _ _ (((l2.length : Int)) % 256) [.int .u8 (((l2.length : Int)) % 256)] from rfl) (Reps.one (show Kd.M (Kd.int .u8) _ _ _ (((l2.length : Int) / 256) % 256) [.int .u8 (((l2.length : Int) / 256) % 256)] from rfl) (Reps.one (show Kd.M (Kd.int .u8) _ _ _ (Go.bits .xor .u8 255 (((l2.length : Int)) % 256)) [.int .u8 (Go.bits .xor .u8 255 (((l2.length : Int)) % 256))] from rfl) (Reps.one (show Kd.M (Kd.int .u8) _ _ _ (Go.bits .xor .u8 255 (((l2.length : Int) / 256) % 256)) [.int .u8 (Go.bits .xor .u8 255 (((l2.length : Int) / 256) % 256))] from rfl) (Reps.none _ _))))))); intro v4 w4 ho hb hg_ hnew_; rw [← HY.out] at ho; obtain ⟨A4, c4, rfl⟩ := Kd.R_slice ho; clear HB; have HB := Ak hb; have HS := Ak ho; clear hb hg_ hnew_ ho)
        | ((with_reducible refine gate_builtin (b := .append) (xs := #[.tmp 27, .tmp 45]) rfl ?_); at_builtin; refine Kd.R_append_rows (Kd.int .u8) (w0 := w) w.heap.size rfl (.tmp 27) (.tmp 45) 22 5 (.int .u8 0) 1 rfl Tryz.underlying22 Hu.info5 rfl (by decide) (by omega) (.slice none 0 0) ([] : List Int) y5 _ _ _ (fun _ => True) (fun _ => False) rfl rfl ?aO ?aR (fun _ _ h => h) (fun _ h => h.elim) (fun _ _ => trivial) ?aB ?aS ?aL ?_; (case aO => exact (Kd.R_nil _ _ _ _ _)); (case aR => exact (Kd.R_reads' HS.out).2.2); (case aB => exact HB.out); (case aS => exact HB.out.size); (case aL => have := HL5.out; simp; omega); intro v_ w5 ho hb hg hat; obtain ⟨z1, hz1⟩ : ∃ z_, z_ = ([] : List Int) ++ y5 := ⟨_, rfl⟩; rw [← hz1] at ho; have Hz1 := Ak hz1; clear hz1; obtain ⟨Ax5, cx5, ev⟩ := Kd.R_slice ho; subst ev; clear HB; have HB := Ak hb; have H1 := Ak ho; clear HS; clear hb hg hat ho)
        | ((with_reducible refine gate_builtin (b := .append) (xs := #[.tmp 47, .tmp 48]) rfl ?_); at_builtin; refine Kd.R_append_rows (Kd.int .u8) (w0 := w) w.heap.size rfl (.tmp 47) (.tmp 48) 22 5 (.int .u8 0) 1 rfl Tryz.underlying22 Hu.info5 rfl (by decide) (by omega) (.slice Ax5 z1.length cx5) z1 l2 _ _ _ (fun _ => True) (fun _ => False) rfl rfl ?aO ?aR (fun _ _ h => h) (fun _ h => h.elim) (fun _ _ => trivial) ?aB ?aS ?aL ?_; (case aO => exact H1.out); (case aR => exact (Kd.C_below HR2.out HB.out)); (case aB => exact HB.out); (case aS => exact HB.out.size); (case aL => have h5_ := HL5.out; have hn_ := HLN.out; rw [Hz1.out]; simp; omega); intro v_ w6 ho hb hg hat; obtain ⟨z2, hz2⟩ : ∃ z_, z_ = z1 ++ l2 := ⟨_, rfl⟩; rw [← hz2] at ho; have Hz2 := Ak hz2; clear hz2; obtain ⟨Ax6, cx6, ev⟩ := Kd.R_slice ho; subst ev; clear HB; have HB := Ak hb; have H2 := Ak ho; clear H1; clear hb hg hat ho)
        | (go_at_call 8; refine (Pr.abc_told _).mono ?_; rintro e w_ ⟨rfl, rfl⟩; have HBA := Ak (below_alloc HB.out (.cells #[.int .u8 1, .int .u8 3, .int .u8 0, .int .u8 252, .int .u8 255, .int .u8 97, .int .u8 98, .int .u8 99] 5 (8, 9))); have H2_ := Ak (Kd.R_below H2.out (below_alloc (Below.refl w6.heap.size w6) (.cells #[.int .u8 1, .int .u8 3, .int .u8 0, .int .u8 252, .int .u8 255, .int .u8 97, .int .u8 98, .int .u8 99] 5 (8, 9)))); clear HB H2; have HB := HBA; have H2 := H2_; clear HBA H2_)
        | ((with_reducible refine gate_builtin (b := .append) (xs := #[.tmp 49, .tmp 50]) rfl ?_); at_builtin; refine Kd.R_append_rows (Kd.int .u8) (w0 := w) w.heap.size rfl (.tmp 49) (.tmp 50) 22 5 (.int .u8 0) 1 rfl Tryz.underlying22 Hu.info5 rfl (by decide) (by omega) (.slice Ax6 z2.length cx6) z2 ([1, 3, 0, 252, 255, 97, 98, 99] : List Int) _ _ _ (fun _ => True) (fun _ => False) rfl rfl ?aO ?aR (fun _ _ h => h) (fun _ h => h.elim) (fun _ _ => trivial) ?aB ?aS ?aL ?_; (case aO => exact H2.out); (case aR => exact (Pr.lit_C w6 ([1, 3, 0, 252, 255, 97, 98, 99] : List Int) 5 (8, 9) (by decide))); (case aB => exact HB.out); (case aS => exact HB.out.size); (case aL => have h5_ := HL5.out; have hn_ := HLN.out; rw [Hz2.out, Hz1.out]; simp; omega); intro v_ w7 ho hb hg hat; obtain ⟨z3, hz3⟩ : ∃ z_, z_ = z2 ++ ([1, 3, 0, 252, 255, 97, 98, 99] : List Int) := ⟨_, rfl⟩; rw [← hz3] at ho; have Hz3 := Ak hz3; clear hz3; obtain ⟨Ax7, cx7, ev⟩ := Kd.R_slice ho; subst ev; clear HB; have HB := Ak hb; have H3 := Ak ho; clear H2; clear hb hg hat ho)
        | (go_at_call 3; refine (valiselaw09_InflateDecodes.calls Ax7 cx7 z3 a3 true _ (Kd.R_reads' H3.out).2.2 (Kd.R_reads' H3.out).2.1 (HG.out.on HB.out HG.out.pos) (PureInflateDecodes.decodes_true z3 a3 (by have e1 := Hz1.out; have e2 := Hz2.out; rw [Hz3.out, e2, e1]; intro x hx; simp only [List.nil_append, List.mem_append] at hx; rcases hx with (h | h) | h; exact HBY5.out x h; exact HBY.out x h; revert x; decide) (by have e1 := Hz1.out; have e2 := Hz2.out; have := HL5.out; have := HLN.out; rw [Hz3.out, e2, e1]; simp; omega)) rfl).mono ?_; rintro e w8 ⟨rfl, hb⟩; have HBE := Ak (below_then HB.out HB.out.size hb); clear HB hb)
        )
    go_ret
    exact ⟨rfl, HBE.out⟩
  have q0 : (Go.bits .and .i64 a0 3 == 0) = false := beq_eq_false_iff_ne.mpr hk
  clear hk
  have HO := Ak (show Kd.R (Kd.int .u8) 5 w w.heap.size (fun _ => True) (.slice none 0 0) [] from Kd.R_nil _ _ _ _ _)
  go_wp2
  go_loopw [10, 11] (fun v10 v11 w' => ∃ (i : Nat) (xs : List Int), v11 = .int .i64 (i : Int) ∧ Aside0 (i ≤ l2.length ∧ xs.length = i) ∧ Aside0 (Byt xs) ∧ Aside0 (Kd.R (Kd.int .u8) 5 w' w.heap.size (fun _ => True) v10 xs) ∧ Aside0 (Below w.heap.size w w')) (fun _ v11 _ => 501 - (intOf v11).toNat)
  case atStart => exact ⟨0, [], rfl, ⟨Nat.zero_le _, rfl⟩, ⟨fun x hx => by cases hx⟩, HO, HB⟩
  case round =>
    clear HO HB
    obtain ⟨i, xs, rfl, HI, HX, HO, HB⟩ := hrel
    obtain ⟨A1, c1, rfl⟩ := Kd.R_slice HO.out
    have hln := HLN.out
    by_cases hlt : i < l2.length
    · obtain ⟨ad, ead, hcell⟩ := Kd.at_int (Kd.C_below HR2.out HB.out) ((i : Nat) : Int) (by omega) (by omega)
      subst ead
      rw [Int.toNat_natCast, rd_nat] at hcell
      obtain ⟨b, hb0⟩ : ∃ b, b = l2.getD i 0 := ⟨_, rfl⟩
      rw [← hb0] at hcell
      have HBB := Ak (show 0 ≤ b ∧ b < 256 from by rw [hb0, List.getD_eq_getElem?_getD, List.getElem?_eq_getElem hlt]; exact HBY.out _ (List.getElem_mem hlt))
      have HLT := Ak hlt
      have q1 := eq_true (show (i : Int) < (l2.length : Int) by omega)
      have q1n := eq_true hlt
      have q2 := eq_true (show 0 ≤ (i : Int) by omega)
      clear hb0 hlt hln
      by_cases hi : i = 0
      · have q3 : ((i : Int) == 0) = true := by rw [hi]; rfl
        have q4 := eq_true (show (i : Int) = 0 by omega)
        have q5 := eq_true hi
        clear hi
        go_wp2_with ((with_reducible refine gate_builtin (b := .append) (xs := #[.tmp 68, .tmp 70]) rfl ?_); at_builtin; refine Kd.R_append (Kd.int .u8) (w0 := w) w.heap.size rfl (.tmp 68) (.tmp 70) 22 5 (.int .u8 0) 1 rfl Tryz.underlying22 Hu.info5 rfl (by decide) (by omega) (.slice A1 xs.length c1) xs (Go.bits .or .u8 (Go.bits .andNot .u8 b 7) x9) [.int .u8 (Go.bits .or .u8 (Go.bits .andNot .u8 b 7) x9)] (fun _ => True) (fun _ => False) rfl rfl ?aP (fun _ hk => hk.elim) ?aF ?aO ?aB ?aS ?aL ?_; (case aP => exact rfl); (case aF => exact (fun _ _ => trivial)); (case aO => exact HO.out); (case aB => exact HB.out); (case aS => exact HB.out.size); (case aL => have := HI.out; have := HLN.out; omega); intro v3 w6 ho hb hg hat; clear HB HO; have HB := Ak hb; have HO := Ak ho; clear hb hg hat ho)
        go_roundw
        case rel => exact ⟨i + 1, _, val_next _ (by have := HLT.out; have := HLN.out; omega), ⟨by have := HLT.out; omega, by rw [List.length_append, List.length_singleton, HI.out.2]⟩, ⟨fun x hx => (List.mem_append.1 hx).elim (HX.out x) fun h => by rw [List.mem_singleton.1 h]; exact (bits_u8 _ _ _)⟩, HO, HB⟩
        case measure => rw [nat_next _ (by have := HLT.out; have := HLN.out; omega)]; simp only [intOf, Int.toNat_natCast]; have := HLT.out; have := HLN.out; omega
      · have q3 : ((i : Int) == 0) = false := beq_eq_false_iff_ne.mpr (by omega)
        have q4 := eq_false (show ¬ (i : Int) = 0 by omega)
        have q5 := eq_false hi
        clear hi
        go_wp2_with ((with_reducible refine gate_builtin (b := .append) (xs := #[.tmp 68, .tmp 70]) rfl ?_); at_builtin; refine Kd.R_append (Kd.int .u8) (w0 := w) w.heap.size rfl (.tmp 68) (.tmp 70) 22 5 (.int .u8 0) 1 rfl Tryz.underlying22 Hu.info5 rfl (by decide) (by omega) (.slice A1 xs.length c1) xs (b) [.int .u8 (b)] (fun _ => True) (fun _ => False) rfl rfl ?aP (fun _ hk => hk.elim) ?aF ?aO ?aB ?aS ?aL ?_; (case aP => exact rfl); (case aF => exact (fun _ _ => trivial)); (case aO => exact HO.out); (case aB => exact HB.out); (case aS => exact HB.out.size); (case aL => have := HI.out; have := HLN.out; omega); intro v3 w6 ho hb hg hat; clear HB HO; have HB := Ak hb; have HO := Ak ho; clear hb hg hat ho)
        go_roundw
        case rel => exact ⟨i + 1, _, val_next _ (by have := HLT.out; have := HLN.out; omega), ⟨by have := HLT.out; omega, by rw [List.length_append, List.length_singleton, HI.out.2]⟩, ⟨fun x hx => (List.mem_append.1 hx).elim (HX.out x) fun h => by rw [List.mem_singleton.1 h]; exact HBB.out⟩, HO, HB⟩
        case measure => rw [nat_next _ (by have := HLT.out; have := HLN.out; omega)]; simp only [intOf, Int.toNat_natCast]; have := HLT.out; have := HLN.out; omega
    · obtain rfl : i = l2.length := by have := HI.out; omega
      have q1 := eq_false (show ¬ (l2.length : Int) < (l2.length : Int) by omega)
      clear hlt hln
      go_wp2_with (go_at_call 3; refine (valiselaw09_InflateDecodes.calls A1 c1 xs a3 true _ (Kd.R_reads' HO.out).2.2 (Kd.R_reads' HO.out).2.1 (HG.out.on HB.out HG.out.pos) (PureInflateDecodes.decodes_true xs a3 HX.out (by have := HI.out; have := HLN.out; omega)) rfl).mono ?_; rintro e w8 ⟨rfl, hb⟩; have HBE := Ak (below_then HB.out HB.out.size hb); clear HB hb)
      go_ret
      exact ⟨rfl, HBE.out⟩
end
def valiselaw09_InflateBlocks.Pure : Prop := True
theorem valiselaw09_InflateBlocks.walk (_ : valiselaw09_InflateBlocks.Pure) (a0 : Int) (a1 : Bool) (a2 : Option Addr) (len2 cap2 : Nat) (z2 : List Int) (a3 : Int) (w : World) (HGL : Pr.Handle w) (w0 : (Lit.int .i64 a0).wf = true) (w2 : (a2 = none ∧ len2 = 0 ∧ cap2 = 0 ∧ z2 = []) ∨ ∃ x, a2 = some x ∧ len2 ≤ cap2 ∧ cap2 ≤ maxLen ∧ z2.length = cap2 ∧ (∀ i, i < z2.length → w.cell? (x.add i) = some (.int .u8 (z2.getD i 0))) ∧ ∀ n ∈ z2, (Lit.int .u8 n).wf = true) (y2 : len2 * 1 ≤ 140737488351232) (w3 : (Lit.int .i64 a3).wf = true) :
    Calls Tryz.prog 4 #[.int .i64 a0, .bool a1, .slice a2 len2 cap2, .int .i64 a3] w fun e w' => e = .returned (.bool true) ∧ Below w.heap.size w w' := by
  obtain ⟨l2, rfl, hr2, hm2, hw2, hc2⟩ := ReadsInt.ofRowC w2
  exact blocks_told a0 a1 _ _ l2 a3 w (Kd.C_of_reads (d := (0 : Int)) (h1 := fun _ => rfl) hr2) hc2 (PureInflateDecodes.byt_of hw2) HGL
theorem blocksPure : valiselaw09_InflateBlocks.Pure := trivial
end Go.Proofs.YtgflkkjhckcipaaGreatDoor.Pg
