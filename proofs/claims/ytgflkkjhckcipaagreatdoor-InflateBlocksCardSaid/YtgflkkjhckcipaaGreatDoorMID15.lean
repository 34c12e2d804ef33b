-- Texts by hand and by programs of this session, joined (wip/tool/merge.py).
import Derived.Shelf.Abstract
import Derived.Shelf.RegionOpen
import Derived.OwnWalkIn
import Derived.TacticsInMore
import Derived.LoopNIn
import Derived.LoopIn
import Derived.Recover
import Derived.Defers
import Derived.Test.YtgflkkjhckcipaaGreatDoorMID4
import Derived.Test.YtgflkkjhckcipaaGreatDoorMID14
import Derived.Test.YtgflkkjhckcipaaGreatDoorMID13
import Derived.Lib.SlBytesConst
import Derived.Test.YtgflkkjhckcipaaGreatDoorProg
import Derived.Below
import Derived.Deep.Draws
import Derived.Deep.AppendLies
import Derived.Maps.AppendAt
import Derived.OwnWalk
import Derived.Laws.BytesArg
import Derived.Laws.MakeOwn
import Derived.Laws.OwnMore
import Derived.Deep.OwnRows
import Derived.Tactics
import Derived.Lib.ConvBytes
import Derived.Laws.Slices
import Derived.WalkKit
import Derived.KernelRfl
import Derived.RowKit3
import Derived.Deep.LoopGhost
import Derived.Deep.QuietTactic
import Derived.BigQuiet
import Derived.WideLaws
import Derived.Deep.DeepCutAuto
import Derived.Deep.CutBlock
import Derived.Deep.RegionHeld3
import Derived.Laws.Rows
import Derived.Lib.AppendStr
import Derived.ArgAppend
import Derived.Laws.IdiomCopy
import Derived.OrdersHeld
import Derived.Laws.BitsLemmas
import Derived.RowKit
import Derived.Test.YtgflkkjhckcipaaGreatDoorMID1
import Derived.Test.YtgflkkjhckcipaaGreatDoorMID2
-- YtgflkkjhckcipaaGreatDoorIf27
set_option maxHeartbeats 16000000
set_option maxRecDepth 1000000
namespace Go.Proofs.YtgflkkjhckcipaaGreatDoor.Pr
open Go.RowKit Go.Shelf Go.Proofs.YtgflkkjhckcipaaGreatDoorW.PrintWords Go.Proofs.YtgflkkjhckcipaaGreatDoorW.PrintLast Go.Proofs.YtgflkkjhckcipaaGreatDoorW.PrintMore
set_option linter.unusedVariables false
set_option linter.unusedSimpArgs false
section
attribute [local go_sem] Oper.semAt_some
theorem R_store_old8 {W : World} {base e g j : Nat} {v u : Value} {xs : List Int} (h : Kd.R (Kd.int .u8) e W base (fun _ => True) v xs) (hg : g < base) : Kd.R (Kd.int .u8) e (W.setCell ⟨g, j, none⟩ u) base (fun _ => True) v xs :=
  Kd.R_mono (Kd.R_far (p := ⟨g, j, none⟩) (Kd.R_mono (Kd.R_bound h) (fun k hk => (⟨trivial, by have := hk.2.1; omega⟩ : True ∧ k ≠ g))) (fun k hk => hk.2) u) (fun _ _ => trivial)
def DTold (w : World) (e : Ending) (w' : World) : Except Int (Nat × List Int) → Prop
  | .ok (n, ys) => ∃ v, e = .returned (.tuple #[v, .int .i64 (n : Int), .int .i64 0]) ∧ (Kd.int .u8).R 5 w' w.heap.size (fun _ => True) v ys ∧ Below w.heap.size w w'
  | .error er => e = .returned (.tuple #[.slice none 0 0, .int .i64 0, .int .i64 er]) ∧ Below w.heap.size w w' ∧ er ≠ 0
theorem decode_arg {w : World} {A : Option Addr} {c : Nat} {l : List Int} (most : Int) (hm : most < 0 ∨ most > 65536) :
    Calls Tryz.prog 6 #[.slice A l.length c, .int .i64 most] w fun e w' => DTold w e w' (.error 2) := by
  have hmf : ∀ (fn : Fn) (first cap : Array Value) (w : World), (Instr.makeFunc fn first cap).run Tryz.prog w = .ok (.func fn first cap) w := fun _ _ _ _ => rfl
  by_cases h0 : most < 0
  · have q0 := eq_true h0; have q0b := decide_eq_true h0; clear hm
    go_enter_defers Tryz.func6, Tryz.ntmps6
    go_wp2_with (first | ((with_reducible refine gate_dst (N := 4) rfl ?_); refine box_event ?hg (N := 4) ?hd (cs := #[.slice none 0 0]) (t := 22) ?hr ?_; (case hd => rfl); (case hg => rfl); (case hr => (go_simp; done)); intro g4 hg w4 hbox hb; have HB := Ak hb; have Bg4 := Ak hbox; have Gg4 := Ak (show w.heap.size ≤ g4 from by rw [hg]; exact Nat.le_refl _); clear hg hbox hb) | ((with_reducible refine gate_dst (N := 5) rfl ?_); refine box_event ?hg (N := 5) ?hd (cs := #[.int .i64 0]) (t := 3) ?hr ?_; (case hd => rfl); (case hg => rfl); (case hr => (go_simp; done)); intro g5 hg w5 hbox hb; have hb2 := below_then HB.out HB.out.size hb; have Bg4_ := Ak (blk_below Bg4.out hb); have Bg5 := Ak hbox; have Gg5 := Ak (show g4 < g5 from by rw [hg]; exact blk_lt Bg4.out); clear HB Bg4 hg hbox hb; have HB := Ak hb2; clear hb2; have Bg4 := Bg4_; clear Bg4_) | ((with_reducible refine gate_dst (N := 6) rfl ?_); refine box_event ?hg (N := 6) ?hd (cs := #[.int .i64 0]) (t := 24) ?hr ?_; (case hd => rfl); (case hg => rfl); (case hr => (go_simp; done)); intro g6 hg w6 hbox hb; have hb2 := below_then HB.out HB.out.size hb; have Bg4_ := Ak (blk_below Bg4.out hb); have Bg5_ := Ak (blk_below Bg5.out hb); have Bg6 := Ak hbox; have Gg6 := Ak (show g5 < g6 from by rw [hg]; exact blk_lt Bg5.out); clear HB Bg4 Bg5 hg hbox hb; have HB := Ak hb2; clear hb2; have Bg4 := Bg4_; clear Bg4_; have Bg5 := Bg5_; clear Bg5_; have hc4 := ((blk_cell Bg4.out 0).trans rfl : w6.cell? ⟨g4, 0, none⟩ = some (.slice none 0 0)); have hf4 := blk_frozen Bg4.out 0; have hc5 := ((blk_cell Bg5.out 0).trans rfl : w6.cell? ⟨g5, 0, none⟩ = some (.int .i64 0)); have hf5 := blk_frozen Bg5.out 0; have hc6 := ((blk_cell Bg6.out 0).trans rfl : w6.cell? ⟨g6, 0, none⟩ = some (.int .i64 0)); have hf6 := blk_frozen Bg6.out 0; have n45 : g4 ≠ g5 := (by have := Gg5.out; omega); have n46 : g4 ≠ g6 := (by have := Gg5.out; have := Gg6.out; omega); have n56 : g5 ≠ g6 := (by have := Gg6.out; omega)))
    have s4 := blk_set Bg4.out 0 (.slice none 0 0); have k1 : ∀ (W : World) (g j : Nat) (u : Value), j ≠ g → (W.setCell ⟨g, 0, none⟩ u).heap[j]? = W.heap[j]? := fun W g j u hne => Below.heap_setCell W ⟨g, 0, none⟩ u j hne; have s5 := blk_set ((k1 _ g4 g5 (.slice none 0 0) (fun e => n45 e.symm)).trans Bg5.out) 0 (.int .i64 0); have s6 := blk_set ((k1 _ g5 g6 (.int .i64 0) (fun e => n56 e.symm)).trans ((k1 _ g4 g6 (.slice none 0 0) (fun e => n46 e.symm)).trans Bg6.out)) 0 (.int .i64 2); have e4 := (blk_cell ((k1 _ g6 g4 (.int .i64 2) n46).trans ((k1 _ g5 g4 (.int .i64 0) n45).trans s4)) 0).trans rfl; have e5 := (blk_cell ((k1 _ g6 g5 (.int .i64 2) n56).trans s5) 0).trans rfl; have e6 := (blk_cell s6 0).trans rfl
    simp [bodyPostD, Leaves, settle, results, Tryz.results6, go_sem, e4, e5, e6]
    exact ⟨rfl, ((HB.out.setCell (p := ⟨g4, 0, none⟩) Gg4.out _).setCell (p := ⟨g5, 0, none⟩) (by have h1_ := Gg4.out; have h2_ := Gg5.out; show w.heap.size ≤ g5; omega) _).setCell (p := ⟨g6, 0, none⟩) (by have h1_ := Gg4.out; have h2_ := Gg5.out; have h3_ := Gg6.out; show w.heap.size ≤ g6; omega) _, by decide⟩
  have h1 : most > 65536 := by omega
  have q0 := eq_false h0; have q0b := decide_eq_false h0; have q1 := eq_true (show (65536 : Int) < most from h1); have q1b := decide_eq_true (show (65536 : Int) < most from h1); clear hm
  go_enter_defers Tryz.func6, Tryz.ntmps6
  go_wp2_with (first | ((with_reducible refine gate_dst (N := 4) rfl ?_); refine box_event ?hg (N := 4) ?hd (cs := #[.slice none 0 0]) (t := 22) ?hr ?_; (case hd => rfl); (case hg => rfl); (case hr => (go_simp; done)); intro g4 hg w4 hbox hb; have HB := Ak hb; have Bg4 := Ak hbox; have Gg4 := Ak (show w.heap.size ≤ g4 from by rw [hg]; exact Nat.le_refl _); clear hg hbox hb) | ((with_reducible refine gate_dst (N := 5) rfl ?_); refine box_event ?hg (N := 5) ?hd (cs := #[.int .i64 0]) (t := 3) ?hr ?_; (case hd => rfl); (case hg => rfl); (case hr => (go_simp; done)); intro g5 hg w5 hbox hb; have hb2 := below_then HB.out HB.out.size hb; have Bg4_ := Ak (blk_below Bg4.out hb); have Bg5 := Ak hbox; have Gg5 := Ak (show g4 < g5 from by rw [hg]; exact blk_lt Bg4.out); clear HB Bg4 hg hbox hb; have HB := Ak hb2; clear hb2; have Bg4 := Bg4_; clear Bg4_) | ((with_reducible refine gate_dst (N := 6) rfl ?_); refine box_event ?hg (N := 6) ?hd (cs := #[.int .i64 0]) (t := 24) ?hr ?_; (case hd => rfl); (case hg => rfl); (case hr => (go_simp; done)); intro g6 hg w6 hbox hb; have hb2 := below_then HB.out HB.out.size hb; have Bg4_ := Ak (blk_below Bg4.out hb); have Bg5_ := Ak (blk_below Bg5.out hb); have Bg6 := Ak hbox; have Gg6 := Ak (show g5 < g6 from by rw [hg]; exact blk_lt Bg5.out); clear HB Bg4 Bg5 hg hbox hb; have HB := Ak hb2; clear hb2; have Bg4 := Bg4_; clear Bg4_; have Bg5 := Bg5_; clear Bg5_; have hc4 := ((blk_cell Bg4.out 0).trans rfl : w6.cell? ⟨g4, 0, none⟩ = some (.slice none 0 0)); have hf4 := blk_frozen Bg4.out 0; have hc5 := ((blk_cell Bg5.out 0).trans rfl : w6.cell? ⟨g5, 0, none⟩ = some (.int .i64 0)); have hf5 := blk_frozen Bg5.out 0; have hc6 := ((blk_cell Bg6.out 0).trans rfl : w6.cell? ⟨g6, 0, none⟩ = some (.int .i64 0)); have hf6 := blk_frozen Bg6.out 0; have n45 : g4 ≠ g5 := (by have := Gg5.out; omega); have n46 : g4 ≠ g6 := (by have := Gg5.out; have := Gg6.out; omega); have n56 : g5 ≠ g6 := (by have := Gg6.out; omega)))
  have s4 := blk_set Bg4.out 0 (.slice none 0 0); have k1 : ∀ (W : World) (g j : Nat) (u : Value), j ≠ g → (W.setCell ⟨g, 0, none⟩ u).heap[j]? = W.heap[j]? := fun W g j u hne => Below.heap_setCell W ⟨g, 0, none⟩ u j hne; have s5 := blk_set ((k1 _ g4 g5 (.slice none 0 0) (fun e => n45 e.symm)).trans Bg5.out) 0 (.int .i64 0); have s6 := blk_set ((k1 _ g5 g6 (.int .i64 0) (fun e => n56 e.symm)).trans ((k1 _ g4 g6 (.slice none 0 0) (fun e => n46 e.symm)).trans Bg6.out)) 0 (.int .i64 2); have e4 := (blk_cell ((k1 _ g6 g4 (.int .i64 2) n46).trans ((k1 _ g5 g4 (.int .i64 0) n45).trans s4)) 0).trans rfl; have e5 := (blk_cell ((k1 _ g6 g5 (.int .i64 2) n56).trans s5) 0).trans rfl; have e6 := (blk_cell s6 0).trans rfl
  simp [bodyPostD, Leaves, settle, results, Tryz.results6, go_sem, e4, e5, e6]
  exact ⟨rfl, ((HB.out.setCell (p := ⟨g4, 0, none⟩) Gg4.out _).setCell (p := ⟨g5, 0, none⟩) (by have h1_ := Gg4.out; have h2_ := Gg5.out; show w.heap.size ≤ g5; omega) _).setCell (p := ⟨g6, 0, none⟩) (by have h1_ := Gg4.out; have h2_ := Gg5.out; have h3_ := Gg6.out; show w.heap.size ≤ g6; omega) _, by decide⟩
theorem decode_run {w : World} {A : Option Addr} {c : Nat} {l : List Int} (hr : RowOk w A c l) (most : Int) (hg : Handle w) (hm0 : 0 ≤ most) (hm1 : most ≤ 65536) (R : Except Int (Nat × List Int)) (hR : decodeM l most (8 * l.length + 1) (8 * l.length + 1) 0 [] = R) (hbad : ∀ er, R = .error er → er ≠ 0) :
    Calls Tryz.prog 6 #[.slice A l.length c, .int .i64 most] w fun e w' => DTold w e w' (bnd R fun r => .ok ((r.1 + 7) / 8, r.2)) := by
  have hmf : ∀ (fn : Fn) (first cap : Array Value) (w : World), (Instr.makeFunc fn first cap).run Tryz.prog w = .ok (.func fn first cap) w := fun _ _ _ _ => rfl; have HR := Ak hr; have HG := Ak hg; have HBD := Ak hbad; have HRR := Ak hR; have HM1 := Ak hm1; have HM0 := Ak hm0; have huR := Tryz.underlying45; have huB := Tryz.underlying43; have q0 := eq_false (show ¬ most < 0 by omega); have q0b := decide_eq_false (show ¬ most < 0 by omega); have q1 := eq_false (show ¬ (65536 : Int) < most by omega); have q1b := decide_eq_false (show ¬ (65536 : Int) < most by omega); have hlen := hr.len; have hw8 : wrap64 (8 * (l.length : Int)) = NN l := (by rw [wrap64_id (by omega) (by omega)]; unfold NN; omega); clear hr hg hbad hR hm1 hm0
  go_enter_defers Tryz.func6, Tryz.ntmps6
  go_wp2_with (first | ((with_reducible refine gate_dst (N := 4) rfl ?_); refine box_event ?hg (N := 4) ?hd (cs := #[.slice none 0 0]) (t := 22) ?hr ?_; (case hd => rfl); (case hg => rfl); (case hr => (go_simp; done)); intro g4 hg w4 hbox hb; have HB := Ak hb; have Bg4 := Ak hbox; have Gg4 := Ak (show w.heap.size ≤ g4 from by rw [hg]; exact Nat.le_refl _); clear hg hbox hb) | ((with_reducible refine gate_dst (N := 5) rfl ?_); refine box_event ?hg (N := 5) ?hd (cs := #[.int .i64 0]) (t := 3) ?hr ?_; (case hd => rfl); (case hg => rfl); (case hr => (go_simp; done)); intro g5 hg w5 hbox hb; have hb2 := below_then HB.out HB.out.size hb; have Bg4_ := Ak (blk_below Bg4.out hb); have Bg5 := Ak hbox; have Gg5 := Ak (show g4 < g5 from by rw [hg]; exact blk_lt Bg4.out); clear HB Bg4 hg hbox hb; have HB := Ak hb2; clear hb2; have Bg4 := Bg4_; clear Bg4_) | ((with_reducible refine gate_dst (N := 6) rfl ?_); refine box_event ?hg (N := 6) ?hd (cs := #[.int .i64 0]) (t := 24) ?hr ?_; (case hd => rfl); (case hg => rfl); (case hr => (go_simp; done)); intro g6 hg w6 hbox hb; have hb2 := below_then HB.out HB.out.size hb; have Bg4_ := Ak (blk_below Bg4.out hb); have Bg5_ := Ak (blk_below Bg5.out hb); have Bg6 := Ak hbox; have Gg6 := Ak (show g5 < g6 from by rw [hg]; exact blk_lt Bg5.out); clear HB Bg4 Bg5 hg hbox hb; have HB := Ak hb2; clear hb2; have Bg4 := Bg4_; clear Bg4_; have Bg5 := Bg5_; clear Bg5_) | ((with_reducible refine gate_dst (N := 22) rfl ?_); refine box_event ?hg (N := 22) ?hd (cs := #[.slice A l.length c, .int .i64 (NN l), .int .i64 0, .slice none 0 0, .int .i64 most]) (t := 45) ?hr ?_; (case hd => rfl); (case hg => rfl); (case hr => (go_simp; done)); intro g hg w9 hbox hb; have AT := Ak (show RdrAt w6 w9 g A c l (NN l) ((0 : Nat) : Int) (.slice none 0 0) [] most from ⟨hb, by rw [hg]; exact Nat.le_refl _, hbox, Kd.R_nil _ _ _ _ _⟩); clear hg hbox hb))
  have HR6 := Ak (show RowOk w6 A c l from ⟨Kd.C_below HR.out.C HB.out, HR.out.cap, HR.out.byt, HR.out.len⟩); have HG6 := Ak (HG.out.on HB.out HG.out.pos)
  go_loopg [] (8 * l.length + 1) (fun kq w' => ∃ (p' : Nat) (ys : List Int) (v1 : Value), Aside0 (RdrAt w6 w' g A c l (NN l) (p' : Int) v1 ys most) ∧ Aside0 (p' ≤ 8 * l.length) ∧ Aside0 ((ys.length : Int) ≤ most) ∧ Aside0 (decodeM l most (8 * l.length + 1) kq p' ys = R) ∧ Aside0 (8 * l.length < kq + p'))
  case atStart => exact ⟨0, [], .slice none 0 0, AT, ⟨Nat.zero_le _⟩, ⟨by simpa using HM0.out⟩, HRR, ⟨by omega⟩⟩
  case round =>
    clear AT HRR; obtain ⟨p0, ys, v1, AT, HP, HM0_, HRR, HK⟩ := hrel; obtain ⟨A1, c1, rfl⟩ := Kd.R_slice AT.out.row; have hRR := HRR.out; clear HRR
    cases gk with
    | zero => exact absurd HK.out (by have := HP.out; omega)
    | succ k1 => ?_
    rw [decodeM] at hRR
    cases h1 : blockM l most (8 * l.length + 1) p0 ys with
    | error er =>
      rw [h1] at hRR; have HRR := Ak (show R = .error er from hRR.symm); have H1 := Ak h1; clear h1 hRR
      go_wp2_with (go_at_call 11; have hcc := block_told HR6.out _ g p0 (.slice A1 ys.length c1) ys most AT.out HP.out HM0_.out HM1.out (8 * l.length + 1) (Nat.lt_succ_self _); rw [H1.out] at hcc; refine hcc.mono ?_; clear hcc; rintro e w' ⟨pp, rfl, hfa, hb⟩; obtain ⟨qq, hpp, hqq⟩ := hfa; have HF := Ak (AT.out.below.trans hb); have HPP := Ak hpp; have HQQ := Ak hqq; clear hpp hqq hb)
      refine leaves_cons (f := 9) (args := #[.pointer (some ⟨g4, 0, none⟩), .pointer (some ⟨g5, 0, none⟩), .pointer (some ⟨g6, 0, none⟩)]) (by simp) (by simp [go_sem]) ?_; refine (dcatch w.heap.size g4 g5 g6 pp qq _ _ _ _ _ _ er [] _ Gg4.out Gg5.out Gg6.out (HG6.out.on HF.out HG6.out.pos) (blk_below Bg4.out HF.out) (blk_below Bg5.out HF.out) (blk_below Bg6.out HF.out) HPP.out HQQ.out).mono ?_; rintro e u' w'' ⟨rfl, rfl, hc4, hc5, hc6, hbw⟩; have HBF := Ak (HB.out.trans ((HF.out.mono HB.out.size).trans hbw)); clear hbw
      simp [Leaves, settle, results, Tryz.results6, go_sem, hc4, hc5, hc6]
      rw [HRR.out]; exact ⟨rfl, HBF.out, HBD.out _ HRR.out⟩
    | ok r1 => ?_
    obtain ⟨last, p1, zs⟩ := r1; rw [h1] at hRR; have hmo := block_more h1; have hfi := block_fits l most (8 * l.length + 1) p0 ys HM0_.out _ h1; dsimp only at hmo hfi; have H1 := Ak h1; have hKK := HK.out; have HM2 := Ak hfi; clear h1 hfi
    cases last with
    | false =>
      have HRR := Ak (show decodeM l most (8 * l.length + 1) k1 p1 zs = R from hRR); have HKN := Ak (show 8 * l.length < k1 + p1 by omega); clear hRR hmo hKK
      go_wp2_with (go_at_call 11; have hcc := block_told HR6.out _ g p0 (.slice A1 ys.length c1) ys most AT.out HP.out HM0_.out HM1.out (8 * l.length + 1) (Nat.lt_succ_self _); rw [H1.out] at hcc; refine hcc.mono ?_; clear hcc; rintro e w' ⟨rfl, hq_, v2, hat_, hm_⟩; clear AT HP; have AT := Ak hat_; have HP := Ak hq_; clear hat_ hq_ hm_)
      go_roundg k1
      case measure => omega
      case rel => exact ⟨p1, zs, _, AT, HP, HM2, HRR, HKN⟩
    | true => ?_
    have HRR := Ak (show R = .ok (p1, zs) from hRR.symm); have hp1 : p1 ≤ 8 * l.length := block_in l most (8 * l.length + 1) p0 ys _ H1.out; have hw7 : wrap64 ((p1 : Int) + 7) = ((p1 + 7 : Nat) : Int) := (by rw [wrap64_id (by omega) (by omega)]; omega); have hs3 : shr .i64 ((p1 + 7 : Nat) : Int) 3 = (((p1 + 7) / 8 : Nat) : Int) := (by rw [show (3 : Int) = ((3 : Nat) : Int) from rfl, shr_eq _ 3 (by omega)]; omega); clear hRR hmo hKK hp1
    go_upto_region 6 with (go_at_call 11; have hcc := block_told HR6.out _ g p0 (.slice A1 ys.length c1) ys most AT.out HP.out HM0_.out HM1.out (8 * l.length + 1) (Nat.lt_succ_self _); rw [H1.out] at hcc; refine hcc.mono ?_; clear hcc; rintro e wz ⟨rfl, hq_, v2, hat_, hm_⟩; clear AT HP; have AT := Ak hat_; have HP := Ak hq_; clear hat_ hq_ hm_)
    obtain ⟨A2, c2, rfl⟩ := Kd.R_slice AT.out.row; have F4 := Ak (blk_below Bg4.out AT.out.below); have F5 := Ak (blk_below Bg5.out AT.out.below); have F6 := Ak (blk_below Bg6.out AT.out.below); have HBZ := Ak (HB.out.trans (AT.out.below.mono HB.out.size)); have HO := Ak AT.out.row; have BG := Ak AT.out.blk; have GG := Ak (show g6 < g from Nat.lt_of_lt_of_le (blk_lt Bg6.out) AT.out.ge); have L6 := Ak (blk_lt Bg6.out); have HS6 := Ak HB.out.size; clear AT Bg4 Bg5 Bg6 HB; have hb := below_drew (Below.refl wz.heap.size wz); replace F4 := Ak (blk_below F4.out hb); replace F5 := Ak (blk_below F5.out hb); replace F6 := Ak (blk_below F6.out hb); replace BG := Ak (blk_below BG.out hb); replace HO := Ak (Kd.R_below HO.out hb); replace HBZ := Ak (HBZ.out.trans (hb.mono HBZ.out.size)); clear hb; refine wp_onlyN ?_; refine sq 13 (S := fun w' => w'.cell? ⟨g, 3, none⟩ = some (.slice A2 zs.length c2) ∧ w'.cell? ⟨g, 2, none⟩ = some (.int .i64 (p1 : Int))) (ds := [12]) ⟨(blk_cell BG.out 3).trans rfl, (blk_cell BG.out 2).trans rfl⟩ fun hHeld => ?_; generalize wz.drew = wa at F4 F5 F6 BG HO HBZ hHeld ⊢; refine pq 0 26 ?_; refine pq 1 27 ?_; refine pq 2 28 ?_; refine pq 4 30 ?_; refine pq 5 31 ?_; refine pq 6 32 ?_; refine tq 3 29 ?_ hHeld; refine tq 7 33 ?_ hHeld; refine pq 8 34 ?_; refine pq 9 35 ?_; refine one_ (i := 10) (N := none) #[true, true, true, true, true, true, true, true, true, true, true, false, false] rfl rfl (by kernel_rfl) (by decide) (fun K hK => ?_); have hz := ((blk_cell F4.out 0).trans rfl : wa.cell? ⟨g4, 0, none⟩ = some (.slice none 0 0)); have hf := blk_frozen F4.out 0; refine skip_ (w1 := ?_) (by rfl) rfl ?_ ?_; rotate_left
    · go_simp
      rfl
    clear hz hf; replace F4 := Ak (blk_set F4.out 0 (.slice A2 zs.length c2)); replace F5 := Ak ((Below.heap_setCell wa ⟨g4, 0, none⟩ (.slice A2 zs.length c2) g5 (by have h1 := Gg5.out; have h2 := Gg6.out; have h4 := GG.out; have h5 := L6.out; have h6 := Gg4.out; show g5 ≠ g4; omega)).trans F5.out); replace F6 := Ak ((Below.heap_setCell wa ⟨g4, 0, none⟩ (.slice A2 zs.length c2) g6 (by have h1 := Gg5.out; have h2 := Gg6.out; have h4 := GG.out; have h5 := L6.out; have h6 := Gg4.out; show g6 ≠ g4; omega)).trans F6.out); replace BG := Ak ((Below.heap_setCell wa ⟨g4, 0, none⟩ (.slice A2 zs.length c2) g (by have h1 := Gg5.out; have h2 := Gg6.out; have h4 := GG.out; have h5 := L6.out; have h6 := Gg4.out; show g ≠ g4; omega)).trans BG.out); replace HO := Ak (R_store_old8 (g := g4) (j := 0) (u := (.slice A2 zs.length c2)) HO.out (by have h1 := Gg5.out; have h2 := Gg6.out; have h4 := GG.out; have h5 := L6.out; have h6 := Gg4.out; omega)); replace HBZ := Ak (HBZ.out.setCell (p := ⟨g4, 0, none⟩) (by have h1 := Gg5.out; have h2 := Gg6.out; have h4 := GG.out; have h5 := L6.out; have h6 := Gg4.out; show w.heap.size ≤ g4; omega) (.slice A2 zs.length c2)); generalize (wa.setCell ⟨g4, 0, none⟩ (.slice A2 zs.length c2)) = wb at F4 F5 F6 BG HO HBZ ⊢; refine hK.out _ _ ⟨(blk_cell BG.out 3).trans rfl, (blk_cell BG.out 2).trans rfl⟩ (fun hHeld => ?_); clear hK K; refine one_ (i := 11) (N := none) #[true, true, true, true, true, true, true, true, true, true, true, true, false] rfl rfl (by kernel_rfl) (by decide) (fun K hK => ?_); have hz := ((blk_cell F5.out 0).trans rfl : wb.cell? ⟨g5, 0, none⟩ = some (.int .i64 0)); have hf := blk_frozen F5.out 0; refine skip_ (w1 := ?_) (by rfl) rfl ?_ ?_; rotate_left
    · go_simp
      rfl
    clear hz hf; replace F4 := Ak ((Below.heap_setCell wb ⟨g5, 0, none⟩ (.int .i64 (((p1 : Int) + 7) / 8)) g4 (by have h1 := Gg5.out; have h2 := Gg6.out; have h4 := GG.out; have h5 := L6.out; have h6 := Gg4.out; show g4 ≠ g5; omega)).trans F4.out); replace F5 := Ak (blk_set F5.out 0 (.int .i64 (((p1 : Int) + 7) / 8))); replace F6 := Ak ((Below.heap_setCell wb ⟨g5, 0, none⟩ (.int .i64 (((p1 : Int) + 7) / 8)) g6 (by have h1 := Gg5.out; have h2 := Gg6.out; have h4 := GG.out; have h5 := L6.out; have h6 := Gg4.out; show g6 ≠ g5; omega)).trans F6.out); replace BG := Ak ((Below.heap_setCell wb ⟨g5, 0, none⟩ (.int .i64 (((p1 : Int) + 7) / 8)) g (by have h1 := Gg5.out; have h2 := Gg6.out; have h4 := GG.out; have h5 := L6.out; have h6 := Gg4.out; show g ≠ g5; omega)).trans BG.out); replace HO := Ak (R_store_old8 (g := g5) (j := 0) (u := (.int .i64 (((p1 : Int) + 7) / 8))) HO.out (by have h1 := Gg5.out; have h2 := Gg6.out; have h4 := GG.out; have h5 := L6.out; have h6 := Gg4.out; omega)); replace HBZ := Ak (HBZ.out.setCell (p := ⟨g5, 0, none⟩) (by have h1 := Gg5.out; have h2 := Gg6.out; have h4 := GG.out; have h5 := L6.out; have h6 := Gg4.out; show w.heap.size ≤ g5; omega) (.int .i64 (((p1 : Int) + 7) / 8))); generalize (wb.setCell ⟨g5, 0, none⟩ (.int .i64 (((p1 : Int) + 7) / 8))) = wc at F4 F5 F6 BG HO HBZ ⊢; refine hK.out _ _ ⟨(blk_cell BG.out 3).trans rfl, (blk_cell BG.out 2).trans rfl⟩ (fun hHeld => ?_); clear hK K; refine lq 12 fun K hK => ?_; have hz := ((blk_cell F6.out 0).trans rfl : wc.cell? ⟨g6, 0, none⟩ = some (.int .i64 0)); have hf := blk_frozen F6.out 0; refine skip_ (w1 := ?_) (by rfl) rfl ?_ ?_; rotate_left
    · go_simp
      rfl
    clear hz hf; replace F4 := Ak ((Below.heap_setCell wc ⟨g6, 0, none⟩ (.int .i64 0) g4 (by have h1 := Gg5.out; have h2 := Gg6.out; have h4 := GG.out; have h5 := L6.out; have h6 := Gg4.out; show g4 ≠ g6; omega)).trans F4.out); replace F5 := Ak ((Below.heap_setCell wc ⟨g6, 0, none⟩ (.int .i64 0) g5 (by have h1 := Gg5.out; have h2 := Gg6.out; have h4 := GG.out; have h5 := L6.out; have h6 := Gg4.out; show g5 ≠ g6; omega)).trans F5.out); replace F6 := Ak (blk_set F6.out 0 (.int .i64 0)); replace BG := Ak ((Below.heap_setCell wc ⟨g6, 0, none⟩ (.int .i64 0) g (by have h1 := Gg5.out; have h2 := Gg6.out; have h4 := GG.out; have h5 := L6.out; have h6 := Gg4.out; show g ≠ g6; omega)).trans BG.out); replace HO := Ak (R_store_old8 (g := g6) (j := 0) (u := (.int .i64 0)) HO.out (by have h1 := Gg5.out; have h2 := Gg6.out; have h4 := GG.out; have h5 := L6.out; have h6 := Gg4.out; omega)); replace HBZ := Ak (HBZ.out.setCell (p := ⟨g6, 0, none⟩) (by have h1 := Gg5.out; have h2 := Gg6.out; have h4 := GG.out; have h5 := L6.out; have h6 := Gg4.out; show w.heap.size ≤ g6; omega) (.int .i64 0)); generalize (wc.setCell ⟨g6, 0, none⟩ (.int .i64 0)) = wd at F4 F5 F6 BG HO HBZ ⊢; refine hK.out _ _ ?_; clear hK K; refine dq ?_; refine onlyN_normal ?_; go_wp2; refine leaves_cons (f := 9) (args := #[.pointer (some ⟨g4, 0, none⟩), .pointer (some ⟨g5, 0, none⟩), .pointer (some ⟨g6, 0, none⟩)]) (by simp) (by simp [go_sem]) ?_; refine (didle g4 g5 g6 _).mono ?_; rintro e u' w'' ⟨rfl, rfl, rfl⟩; have hc4 := ((blk_cell F4.out 0).trans rfl : w''.cell? ⟨g4, 0, none⟩ = some (.slice A2 zs.length c2)); have hc5 := ((blk_cell F5.out 0).trans rfl : w''.cell? ⟨g5, 0, none⟩ = some (.int .i64 (((p1 : Int) + 7) / 8))); have hc6 := ((blk_cell F6.out 0).trans rfl : w''.cell? ⟨g6, 0, none⟩ = some (.int .i64 0))
    simp [Leaves, settle, results, Tryz.results6, go_sem, hc4, hc5, hc6]
    rw [HRR.out]; refine ⟨_, ?_, Kd.R_lower HO.out HS6.out, HBZ.out⟩
    show _ = Ending.returned (.tuple #[_, .int .i64 (((p1 + 7) / 8 : Nat) : Int), .int .i64 0])
    rw [show (((p1 + 7) / 8 : Nat) : Int) = ((p1 : Int) + 7) / 8 by omega]
end
theorem decode_told {w : World} {A : Option Addr} {c : Nat} {l : List Int} (hr : RowOk w A c l) (most : Int) (hg : Handle w) :
    Calls Tryz.prog 6 #[.slice A l.length c, .int .i64 most] w fun e w' => DTold w e w' (inflM l most) := by
  by_cases hm : most < 0 ∨ most > 65536
  · unfold inflM; rw [if_pos hm]; exact decode_arg most hm
  unfold inflM; rw [if_neg hm]; exact decode_run hr most hg (by omega) (by omega) _ rfl (decode_bad l most _ (Nat.lt_succ_self _) _ 0 [] (Nat.zero_le _) (by omega))
-- YtgflkkjhckcipaaGreatDoorIf28
def bytB (l : List Int) : Bool := l.all (fun x => decide (0 ≤ x ∧ x < 256)) && decide (l.length ≤ 1000000)
theorem bytB_iff {l : List Int} : bytB l = true ↔ Byt l ∧ l.length ≤ 1000000 := by
  unfold bytB Byt; rw [Bool.and_eq_true, decide_eq_true_eq, List.all_eq_true]; exact and_congr_left fun _ => ⟨fun h x hx => of_decide_eq_true (h x hx), fun h x hx => decide_eq_true (h x hx)⟩
def decS (l : List Int) (most : Int) : List Int × Int × Int := match inflM l most with
  | .ok (n, ys) => (ys, (n : Int), 0)
  | .error er => ([], 0, er)
-- YtgflkkjhckcipaaGreatDoorIf29
section
attribute [local go_sem] Oper.semAt_some
theorem blk_cell2 {w : World} {g : Nat} {cells : Array Value} {t : TypeId} {fr : Nat × Nat} (h : w.heap[g]? = some (.cells cells t fr)) (j : Nat) : w.cell? ⟨g, j, none⟩ = cells[j]? := by
  simp [World.cell?, h]
theorem lit_C (w : World) (xs : List Int) (t : TypeId) (fr : Nat × Nat) (hl : xs.length ≤ 1000) : Kd.C (Kd.int .u8) (w.alloc (.cells (nums .u8 xs).toArray t fr)) (some ⟨w.heap.size, 0, none⟩) xs.length xs := by
  refine Kd.C_of_reads (d := (0 : Int)) (h1 := fun _ => rfl) ⟨rfl, by omega, fun _ => ⟨_, rfl, fun j hj => ?_⟩⟩; have hb := blk_new w (.cells (nums .u8 xs).toArray t fr)
  have e : (⟨w.heap.size, 0, none⟩ : Addr).add j = ⟨w.heap.size, j, none⟩ := by
    simp [Addr.add]
    intro h; exact h.symm
  rw [e]; refine (blk_cell2 hb j).trans ?_
  simp [nums, List.getD_eq_getElem?_getD, hj]
theorem conv_const (w : World) (C : Array Value) (n c : Nat) : (convert 22 22 (.slice (some ⟨w.heap.size, 0, none⟩) n c)).run Tryz.prog (w.alloc (.cells C 5)) = .ok (.slice (some ⟨w.heap.size, 0, none⟩) n c) (w.alloc (.cells C 5 (C.size, C.size + 1))) := Go.Lib.run_convert_bytes_const w 22 5 C n c Tryz.underlying22 Tryz.underlying5
attribute [local go_sem] conv_const
theorem abc_told (w : World) : Calls Tryz.prog 8 #[] w fun e w' => e = .returned (.slice (some ⟨w.heap.size, 0, none⟩) 8 8) ∧ w' = w.alloc (.cells #[.int .u8 1, .int .u8 3, .int .u8 0, .int .u8 252, .int .u8 255, .int .u8 97, .int .u8 98, .int .u8 99] 5 (8, 9)) := by
  go_enter Tryz.func8, Tryz.ntmps8; go_wp2; go_ret; exact ⟨rfl, rfl⟩
theorem symM_of {l z : List Int} {p N q : Nat} {s : Int} (hN : 8 * l.length = N) (h : scan z l N 15 p 0 = (s, (q : Int), 0)) : symM l (some z) p = .ok (s, q) := by
  subst hN; unfold symM; dsimp only; rw [h]
  simp
theorem ex1 : bytB [1, 3, 0, 252, 255, 97, 98, 99] = true ∧ decS [1, 3, 0, 252, 255, 97, 98, 99] 3 = ([97, 98, 99], 8, 0) := by decide +kernel
theorem sy20 : symM [75, 4, 0] (some fixLit) 3 = .ok (97, 11) := symM_of (N := 24) rfl (by decide +kernel)
theorem sy21 : symM [75, 4, 0] (some fixLit) 11 = .ok (256, 18) := symM_of (N := 24) rfl (by decide +kernel)
theorem ex2 : bytB [75, 4, 0] = true ∧ decS [75, 4, 0] 9 = ([97], 3, 0) := by
  refine ⟨by decide +kernel, ?_⟩
  have hs : symbolsM [75, 4, 0] 9 fixLit (some fixDist) 25 3 [] = .ok (18, [97]) := by
    rw [symbolsM_b, sy20]; unfold bnd; dsimp only; rw [if_neg (by decide), if_neg (by decide), if_neg (by decide), symbolsM_b, sy21]
    rfl
  have hb : blockM [75, 4, 0] 9 25 0 [] = .ok (true, 18, [97]) := by
    rw [blockM_b, show bitsM [75, 4, 0] 0 1 = .ok (1, 1) from rfl]; unfold bnd; dsimp only; rw [show bitsM [75, 4, 0] 1 2 = .ok (1, 3) from rfl]; dsimp only; unfold typedM; rw [if_neg (by decide), if_pos rfl, show fixedM [75, 4, 0] 9 25 3 [] = _ from hs]
    rfl
  unfold decS inflM
  rw [if_neg (by decide), show decodeM [75, 4, 0] 9 (8 * ([75, 4, 0] : List Int).length + 1) (8 * ([75, 4, 0] : List Int).length + 1) 0 [] = .ok (18, [97]) from by
    show decodeM [75, 4, 0] 9 25 (24 + 1) 0 [] = _
    rw [decodeM, hb]
    rfl]
  rfl
theorem ex3 : bytB [7] = true ∧ decS [7] 9 = ([], 0, 13) := by decide +kernel
theorem ex4 : bytB [1, 3, 0, 253, 255, 97, 98, 99] = true ∧ decS [1, 3, 0, 253, 255, 97, 98, 99] 9 = ([], 0, 5) := by decide +kernel
theorem sy50 : symM [3, 0] (some fixLit) 3 = .ok (256, 10) := symM_of (N := 16) rfl (by decide +kernel)
theorem ex5 : bytB [3, 0] = true ∧ decS [3, 0] 0 = ([], 2, 0) := by
  refine ⟨by decide +kernel, ?_⟩
  have hs : symbolsM [3, 0] 0 fixLit (some fixDist) 17 3 [] = .ok (10, []) := by
    rw [symbolsM_b, sy50]; unfold bnd; dsimp only; rw [if_pos rfl]
  have hb : blockM [3, 0] 0 17 0 [] = .ok (true, 10, []) := by
    rw [blockM_b, show bitsM [3, 0] 0 1 = .ok (1, 1) from rfl]; unfold bnd; dsimp only; rw [show bitsM [3, 0] 1 2 = .ok (1, 3) from rfl]; dsimp only; unfold typedM; rw [if_neg (by decide), if_pos rfl, show fixedM [3, 0] 0 17 3 [] = _ from hs]
    rfl
  unfold decS inflM
  rw [if_neg (by decide), show decodeM [3, 0] 0 (8 * ([3, 0] : List Int).length + 1) (8 * ([3, 0] : List Int).length + 1) 0 [] = .ok (10, []) from by
    show decodeM [3, 0] 0 17 (16 + 1) 0 [] = _
    rw [decodeM, hb]
    rfl]
  rfl
theorem dec_ex {l : List Int} {a : Int} {ys : List Int} {n er : Int} (h : bytB l = true ∧ decS l a = (ys, n, er)) (A : Option Addr) (c m : Nat) (w : World) (hm : l.length = m) (hC : Kd.C (Kd.int .u8) w A m l) (hc : m ≤ c) (hg : Handle w) :
    Calls Tryz.prog 6 #[.slice A m c, .int .i64 a] w fun e w' => ∃ v, e = .returned (.tuple #[v, .int .i64 n, .int .i64 er]) ∧ (Kd.int .u8).R 5 w' w.heap.size (fun _ => True) v ys ∧ Below w.heap.size w w' := by
  subst hm; obtain ⟨hb, hd⟩ := h; have hb2 := bytB_iff.1 hb; refine (decode_told (A := A) (c := c) (l := l) (w := w) ⟨hC, hc, hb2.1, hb2.2⟩ a hg).mono ?_; intro e w' ht; unfold decS at hd
  cases hi : inflM l a with
  | error er2 =>
    rw [hi] at hd ht
    injection hd with h1 h2
    injection h2 with h2 h3
    subst h1 h2 h3; obtain ⟨he, hB, _⟩ := ht; exact ⟨_, he, Kd.R_nil _ _ _ _ _, hB⟩
  | ok r => ?_
  obtain ⟨n2, ys2⟩ := r; rw [hi] at hd ht
  injection hd with h1 h2
  injection h2 with h2 h3
  subst h1 h2 h3; obtain ⟨v, he, hR, hB⟩ := ht; exact ⟨v, he, hR, hB⟩
theorem str_abc : strOfNums [97, 98, 99] = ⟨#[97, 98, 99]⟩ := by decide +kernel
theorem str_a : strOfNums [97] = ⟨#[97]⟩ := by decide +kernel
end
-- YtgflkkjhckcipaaGreatDoorIf30
section
attribute [local go_sem] Oper.semAt_some
attribute [local go_sem] conv_const
theorem lives_calls (w : World) (hg : Handle w) : Calls Tryz.prog 5 #[] w fun e w' => e = .returned (.bool true) ∧ Below w.heap.size w w' := by
  have HG := Ak hg; have HB := Ak (Below.refl w.heap.size w); clear hg; go_enter Tryz.func5, Tryz.ntmps5
  go_upto_region 6 with (first | (go_at_call 8; refine (abc_told _).mono ?_; rintro e w_ ⟨rfl, rfl⟩) | (go_at_call 6; refine (dec_ex ex5 (some ⟨w4.heap.size, 0, none⟩) 2 2 _ rfl (lit_C w4 [3, 0] 5 (0, 0) (by decide)) (Nat.le_refl _) (HG.out.on (below_alloc HB.out (.cells #[.int .u8 3, .int .u8 0] 5 (0, 0))) HG.out.pos)).mono ?_; rintro e w5 ⟨v5, rfl, ho_, hb_⟩; have hb2_ := below_alloc (Below.refl w4.heap.size w4) (.cells #[.int .u8 3, .int .u8 0] 5 (0, 0)); have hb3_ := below_then hb2_ hb2_.size hb_; replace R1 := Ak (Kd.R_below R1.out hb3_); replace R2 := Ak (Kd.R_below R2.out hb3_); replace R3 := Ak (Kd.R_below R3.out hb3_); replace R4 := Ak (Kd.R_below R4.out hb3_); have R5 := Ak (Kd.R_lower ho_ (Nat.le_trans HB.out.size hb2_.size)); replace HB := Ak (below_then HB.out HB.out.size hb3_); clear ho_ hb_ hb2_ hb3_) | (go_at_call 6; refine (dec_ex ex4 (some ⟨w3.heap.size, 0, none⟩) 8 8 _ rfl (lit_C w3 [1, 3, 0, 253, 255, 97, 98, 99] 5 (8, 9) (by decide)) (Nat.le_refl _) (HG.out.on (below_alloc HB.out (.cells #[.int .u8 1, .int .u8 3, .int .u8 0, .int .u8 253, .int .u8 255, .int .u8 97, .int .u8 98, .int .u8 99] 5 (8, 9))) HG.out.pos)).mono ?_; rintro e w4 ⟨v4, rfl, ho_, hb_⟩; have hb2_ := below_alloc (Below.refl w3.heap.size w3) (.cells #[.int .u8 1, .int .u8 3, .int .u8 0, .int .u8 253, .int .u8 255, .int .u8 97, .int .u8 98, .int .u8 99] 5 (8, 9)); have hb3_ := below_then hb2_ hb2_.size hb_; replace R1 := Ak (Kd.R_below R1.out hb3_); replace R2 := Ak (Kd.R_below R2.out hb3_); replace R3 := Ak (Kd.R_below R3.out hb3_); have R4 := Ak (Kd.R_lower ho_ (Nat.le_trans HB.out.size hb2_.size)); replace HB := Ak (below_then HB.out HB.out.size hb3_); clear ho_ hb_ hb2_ hb3_) | (go_at_call 6; refine (dec_ex ex3 (some ⟨w2.heap.size, 0, none⟩) 1 1 _ rfl (lit_C w2 [7] 5 (0, 0) (by decide)) (Nat.le_refl _) (HG.out.on (below_alloc HB.out (.cells #[.int .u8 7] 5 (0, 0))) HG.out.pos)).mono ?_; rintro e w3 ⟨v3, rfl, ho_, hb_⟩; have hb2_ := below_alloc (Below.refl w2.heap.size w2) (.cells #[.int .u8 7] 5 (0, 0)); have hb3_ := below_then hb2_ hb2_.size hb_; replace R1 := Ak (Kd.R_below R1.out hb3_); replace R2 := Ak (Kd.R_below R2.out hb3_); have R3 := Ak (Kd.R_lower ho_ (Nat.le_trans HB.out.size hb2_.size)); replace HB := Ak (below_then HB.out HB.out.size hb3_); clear ho_ hb_ hb2_ hb3_) | (go_at_call 6; refine (dec_ex ex2 (some ⟨w1.heap.size, 0, none⟩) 3 3 _ rfl (lit_C w1 [75, 4, 0] 5 (0, 0) (by decide)) (Nat.le_refl _) (HG.out.on (below_alloc HB.out (.cells #[.int .u8 75, .int .u8 4, .int .u8 0] 5 (0, 0))) HG.out.pos)).mono ?_; rintro e w2 ⟨v2, rfl, ho_, hb_⟩; have hb2_ := below_alloc (Below.refl w1.heap.size w1) (.cells #[.int .u8 75, .int .u8 4, .int .u8 0] 5 (0, 0)); have hb3_ := below_then hb2_ hb2_.size hb_; replace R1 := Ak (Kd.R_below R1.out hb3_); have R2 := Ak (Kd.R_lower ho_ (Nat.le_trans HB.out.size hb2_.size)); replace HB := Ak (below_then HB.out HB.out.size hb3_); clear ho_ hb_ hb2_ hb3_) | (go_at_call 6; refine (dec_ex ex1 (some ⟨w.heap.size, 0, none⟩) 8 8 _ rfl (lit_C w [1, 3, 0, 252, 255, 97, 98, 99] 5 (8, 9) (by decide)) (Nat.le_refl _) (HG.out.on (below_alloc HB.out (.cells #[.int .u8 1, .int .u8 3, .int .u8 0, .int .u8 252, .int .u8 255, .int .u8 97, .int .u8 98, .int .u8 99] 5 (8, 9))) HG.out.pos)).mono ?_; rintro e w1 ⟨v1, rfl, ho_, hb_⟩; have hb2_ := below_alloc (Below.refl w.heap.size w) (.cells #[.int .u8 1, .int .u8 3, .int .u8 0, .int .u8 252, .int .u8 255, .int .u8 97, .int .u8 98, .int .u8 99] 5 (8, 9)); have hb3_ := below_then hb2_ hb2_.size hb_; have R1 := Ak (Kd.R_lower ho_ (Nat.le_trans HB.out.size hb2_.size)); replace HB := Ak (below_then HB.out HB.out.size hb3_); clear ho_ hb_ hb2_ hb3_))
  have hc1 := own_string (P := Tryz.prog) Tryz.underlying22 Tryz.underlying5 Tryz.underlying9 (Kd.own_of_R R1.out); have hc2 := own_string (P := Tryz.prog) Tryz.underlying22 Tryz.underlying5 Tryz.underlying9 (Kd.own_of_R R2.out); rw [str_abc] at hc1; rw [str_a] at hc2; obtain ⟨A5, c5, rfl⟩ := Kd.R_slice R5.out; go_wp2; go_ret; exact ⟨rfl, HB.out⟩
end
end Go.Proofs.YtgflkkjhckcipaaGreatDoor.Pr

-- YtgflkkjhckcipaaGreatDoorPv0
namespace Go.Proofs.YtgflkkjhckcipaaGreatDoor.Pv
open Go.RowKit Go.Proofs.YtgflkkjhckcipaaGreatDoorW.PrintWords Go.Proofs.YtgflkkjhckcipaaGreatDoorW.PrintLast Go.Proofs.YtgflkkjhckcipaaGreatDoorW.PrintMore
attribute [local go_sem] max2_int min2_int max_two min_two max_three min_three max_four min_four   -- for this text's walks alone
set_option linter.unusedVariables false
set_option linter.unusedSimpArgs false

theorem u8_w (n : Int) : IntKind.u8.wrap n = n % 256 := IntKind.wrap_u8 n



def errW : Option Int → Value
  | none => .nilIface
  | some c => .iface 0 (.int .i64 c)
theorem errW_none : errW none = .nilIface := rfl
theorem errW_some (c : Int) : errW (some c) = .iface 0 (.int .i64 c) := rfl

theorem info3 : (Tryz.prog.info? 3).map (fun i => (i.zero, i.size, i.bytes)) = some (some (.int .i64 0), 1, 8) := by kernel_rfl
-- the values' own types

end Go.Proofs.YtgflkkjhckcipaaGreatDoor.Pv

