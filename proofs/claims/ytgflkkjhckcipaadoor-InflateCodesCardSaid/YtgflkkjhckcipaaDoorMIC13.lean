-- Texts by hand and by programs of this session, joined (wip/tool/merge.py).
import Derived.Shelf.Abstract
import Derived.Shelf.RegionOpen
import Derived.OwnWalkIn
import Derived.TacticsInMore
import Derived.LoopNIn
import Derived.LoopIn
import Derived.Recover
import Derived.Defers
import Derived.Test.YtgflkkjhckcipaaDoorMIC12
-- YtgflkkjhckcipaaDoorIf20
set_option maxHeartbeats 16000000
set_option maxRecDepth 1000000
namespace Go.Proofs.YtgflkkjhckcipaaDoor.Pr
open Go.RowKit Go.Shelf Go.Proofs.YtgflkkjhckcipaaDoorW.PrintWords Go.Proofs.YtgflkkjhckcipaaDoorW.PrintLast Go.Proofs.YtgflkkjhckcipaaDoorW.PrintMore
set_option linter.unusedVariables false
set_option linter.unusedSimpArgs false
structure RowAt (w : World) (A : Option Addr) (xs : List Int) : Prop where
  C : (Kd.int .i64).C w A xs.length xs
  typed : ∀ ad, A = some ad → ∃ cells, w.heap[ad.block]? = some (.cells cells 3 (0, 0))
theorem RowAt.same {w w' : World} {A : Option Addr} {xs : List Int} (h : RowAt w A xs) (hk : ∀ (k : Nat) (cells : Array Value), w.heap[k]? = some (.cells cells 3 (0, 0)) → w'.heap[k]? = w.heap[k]?) : RowAt w' A xs := by
  refine ⟨C_eq h.C (fun ad e => ?_), fun ad e => ?_⟩
  · obtain ⟨cells, hc⟩ := h.typed ad e
    exact hk _ _ hc
  obtain ⟨cells, hc⟩ := h.typed ad e
  exact ⟨cells, (hk _ _ hc).trans hc⟩
theorem RowAt.on {w w' : World} {A : Option Addr} {xs : List Int} (h : RowAt w A xs) (hb : Below w.heap.size w w') : RowAt w' A xs := h.same fun k _ hc => hb.block k (blk_lt hc)
theorem RowAt.set_ {w : World} {A : Option Addr} {xs : List Int} {g j t : Nat} {cells : Array Value} (h : RowAt w A xs) (hb : w.heap[g]? = some (.cells cells t (0, 0))) (ht : t ≠ 3) (u : Value) : RowAt (w.setCell ⟨g, j, none⟩ u) A xs := h.same fun k c2 hc => Below.heap_setCell w ⟨g, j, none⟩ u k (fun e => by
  have e2 : k = g := e
  subst e2
  rw [hc] at hb
  injection hb with hb
  injection hb with _ hb _
  exact ht hb.symm)
def HToldR (w : World) (e : Ending) (w' : World) : Except Int (List Int × List Int × Nat) → Prop
  | .ok (lit, dist, p') => ∃ A1 c1 A2 c2, e = .returned (.tuple #[.slice A1 lit.length c1, .slice A2 dist.length c2, .int .i64 (p' : Int), .int .i64 0]) ∧ RowAt w' A1 lit ∧ RowAt w' A2 dist ∧ Below w.heap.size w w'
  | .error er => e = .returned (.tuple #[.slice none 0 0, .slice none 0 0, .int .i64 0, .int .i64 er]) ∧ Below w.heap.size w w' ∧ er ≠ 0
theorem hcatch2 (n a b c d : Nat) (x0 x1 x2 x3 : Value) (t0 t1 t2 t3 : TypeId) (er : Int) (older : List PanicEntry) (w : World) (hn : n ≤ a) (h01 : a < b) (h12 : b < c) (h23 : c < d)
    (h0 : w.heap[a]? = some (.cells #[x0] t0 (0, 0))) (h1 : w.heap[b]? = some (.cells #[x1] t1 (0, 0))) (h2 : w.heap[c]? = some (.cells #[x2] t2 (0, 0))) (h3 : w.heap[d]? = some (.cells #[x3] t3 (0, 0))) :
    CallsD Tryd.prog 45 #[.pointer (some ⟨a, 0, none⟩), .pointer (some ⟨b, 0, none⟩), .pointer (some ⟨c, 0, none⟩), .pointer (some ⟨d, 0, none⟩)] (.panicking ({ v := .iface 24 (.int .i64 er), recovered := false } :: older)) w fun e u' w' =>
      e = .returned (.tuple #[]) ∧ u' = .panicking ({ v := .iface 24 (.int .i64 er), recovered := true } :: older) ∧ w'.cell? ⟨a, 0, none⟩ = some (.slice none 0 0) ∧ w'.cell? ⟨b, 0, none⟩ = some (.slice none 0 0) ∧ w'.cell? ⟨c, 0, none⟩ = some (.int .i64 0) ∧ w'.cell? ⟨d, 0, none⟩ = some (.int .i64 er) ∧ Below n w w' := by
  refine (hcatch a b c d x0 x1 x2 x3 er older w ⟨by omega, by omega, by omega, by omega, by omega, by omega⟩ ((blk_cell h0 0).trans rfl) ((blk_cell h1 0).trans rfl) ((blk_cell h2 0).trans rfl) ((blk_cell h3 0).trans rfl) (blk_frozen h0 0) (blk_frozen h1 0) (blk_frozen h2 0) (blk_frozen h3 0)).mono ?_
  rintro e u' w' ⟨h4, h5, rfl⟩
  have s0 := blk_set h0 0 (.slice none 0 0)
  have k1 : ∀ (W : World) (g j : Nat) (u : Value), j ≠ g → (W.setCell ⟨g, 0, none⟩ u).heap[j]? = W.heap[j]? := fun W g j u hne => Below.heap_setCell W ⟨g, 0, none⟩ u j hne
  have s1 := blk_set ((k1 w a b (.slice none 0 0) (by omega)).trans h1) 0 (.slice none 0 0)
  have s2 := blk_set ((k1 _ b c (.slice none 0 0) (by omega)).trans ((k1 w a c (.slice none 0 0) (by omega)).trans h2)) 0 (.int .i64 0)
  have s3 := blk_set ((k1 _ c d (.int .i64 0) (by omega)).trans ((k1 _ b d (.slice none 0 0) (by omega)).trans ((k1 w a d (.slice none 0 0) (by omega)).trans h3))) 0 (.int .i64 er)
  refine ⟨h4, h5, ?_, ?_, ?_, (blk_cell s3 0).trans rfl, ?_⟩
  · exact (blk_cell ((k1 _ d a (.int .i64 er) (by omega)).trans ((k1 _ c a (.int .i64 0) (by omega)).trans ((k1 _ b a (.slice none 0 0) (by omega)).trans s0))) 0).trans rfl
  · exact (blk_cell ((k1 _ d b (.int .i64 er) (by omega)).trans ((k1 _ c b (.int .i64 0) (by omega)).trans s1)) 0).trans rfl
  · exact (blk_cell ((k1 _ d c (.int .i64 er) (by omega)).trans s2) 0).trans rfl
  exact ((((Below.refl n w).setCell (p := ⟨a, 0, none⟩) hn _).setCell (p := ⟨b, 0, none⟩) (by show n ≤ b; omega) _).setCell (p := ⟨c, 0, none⟩) (by show n ≤ c; omega) _).setCell (p := ⟨d, 0, none⟩) (by show n ≤ d; omega) _
theorem bitsM_bad {l : List Int} {p n : Nat} {er : Int} (h : bitsM l p n = .error er) : er ≠ 0 := by
  unfold bitsM at h
  split at h
  · cases h
  injection h with h
  omega
theorem newS_bad {l : List Int} : ∀ {d i p : Nat} {z : List Int} {er : Int}, codesM l d i p z = .error er → er ≠ 0
  | 0, i, p, z, er, h => by
    unfold codesM at h
    split at h
    · cases h
    · next hz =>
      injection h with h
      rw [← h]
      exact hz
  | d + 1, i, p, z, er, h => by
    unfold codesM at h
    cases hb : bitsM l p 3 with
    | error e =>
      rw [hb] at h
      injection h with h
      rw [← h]
      exact bitsM_bad hb
    | ok r =>
      obtain ⟨x, p1⟩ := r
      rw [hb] at h
      exact newS_bad h
theorem takeM_bad {out : List Int} {s x : Int} {n : Nat} {er : Int} (h : takeM out s x n = .error er) : er ≠ 0 := by
  rw [takeM_eq] at h
  split at h
  · injection h with h
    omega
  split at h
  · injection h with h
    omega
  cases h
theorem lengthsM_bad {l z : List Int} (hb : Byt l) (hl : l.length ≤ 1000000) (hz : OKL z) {n : Nat} : ∀ {k p : Nat} {out : List Int} {er : Int}, 8 * l.length - p < k → p ≤ 8 * l.length → lengthsM l z n k p out = .error er → er ≠ 0
  | 0, p, out, er, hk, hp, h => by omega
  | k + 1, p, out, er, hk, hp, h => by
    unfold lengthsM at h
    split at h
    · cases hs : symM l (some z) p with
      | error e =>
        rw [hs] at h
        injection h with h
        obtain ⟨_, _, _, h0⟩ := read_sym_bad hb hl hz hp hs
        rw [← h]
        exact h0
      | ok r =>
        obtain ⟨s, p1⟩ := r
        have hso := symM_ok hz hp hs
        rw [hs] at h
        dsimp only at h
        cases hx : bitsM l p1 (extraN s) with
        | error e =>
          rw [hx] at h
          injection h with h
          rw [← h]
          exact bitsM_bad hx
        | ok r2 =>
          obtain ⟨x, p2⟩ := r2
          have hbo := bitsM_ok hx
          rw [hx] at h
          dsimp only at h
          cases ht : takeM out s x n with
          | error e =>
            rw [ht] at h
            injection h with h
            rw [← h]
            exact takeM_bad ht
          | ok o2 =>
            rw [ht] at h
            exact lengthsM_bad hb hl hz (by omega) (by omega) h
    · cases h
theorem R_store_old {W : World} {base e g j : Nat} {v u : Value} {xs : List Int} (h : Kd.R (Kd.int .i64) e W base (fun _ => True) v xs) (hg : g < base) : Kd.R (Kd.int .i64) e (W.setCell ⟨g, j, none⟩ u) base (fun _ => True) v xs :=
  Kd.R_mono (Kd.R_far (p := ⟨g, j, none⟩) (Kd.R_mono (Kd.R_bound h) (fun k hk => (⟨trivial, by have := hk.2.1; omega⟩ : True ∧ k ≠ g))) (fun k hk => hk.2) u) (fun _ _ => trivial)
def OnlyN (Q : Exit → Act → World → Prop) : Exit → Act → World → Prop
  | .normal, a, w => Q .normal a w
  | _, _, _ => False
theorem wp_onlyN {P : Program} {s : Code} {Q : Exit → Act → World → Prop} {a : Act} {w : World} (h : s.wp P (OnlyN Q) a w) : s.wp P Q a w :=
  wp_mono h (fun e a' w' hq => by cases e <;> first | exact hq | exact hq.elim)
theorem onlyN_normal {Q : Exit → Act → World → Prop} {a : Act} {w : World} (h : Q .normal a w) : OnlyN Q .normal a w := h
section
attribute [local go_sem] Oper.semAt_some
theorem header_told {w : World} {A : Option Addr} {c : Nat} {l : List Int} (hr : RowOk w A c l) (p : Nat) (hp : p ≤ 8 * l.length) (k : Nat) (hk : 8 * l.length < k) :
    Calls Tryd.prog 39 #[.agg #[.slice A l.length c, .int .i64 (NN l)], .int .i64 (p : Int)] w fun e w' => HToldR w e w' (headerM l k p) := by
  have HR := Ak hr
  have HP := Ak hp
  have HK := Ak hk
  have huR := Tryd.underlying106
  have huB := Tryd.underlying35
  have hmf : ∀ (fn : Fn) (first cap : Array Value) (w : World), (Instr.makeFunc fn first cap).run Tryd.prog w = .ok (.func fn first cap) w := fun _ _ _ _ => rfl
  have hlen := hr.len
  have HCK := Ak (show bits_Check.f 40 l (NN l) = some 0 from by rw [check_eq (by omega) hr.byt (by omega) (by unfold NN; omega) (by unfold NN; omega), okR_whole hr.byt, if_pos rfl])
  have q0 := eq_false (show ¬ (p : Int) < 0 by omega)
  have q0b := decide_eq_false (show ¬ (p : Int) < 0 by omega)
  have q1 := eq_false (show ¬ (NN l) < (p : Int) by unfold NN; omega)
  have q1b := decide_eq_false (show ¬ (NN l) < (p : Int) by unfold NN; omega)
  have q1c := eq_false (show ¬ 8 * (l.length : Int) < (p : Int) by omega)
  obtain ⟨R, hR⟩ : ∃ R, headerM l k p = R := ⟨_, rfl⟩
  rw [hR]
  have HRR := Ak hR
  clear hr hp hk hR hlen
  go_enter_defers Tryd.func39, Tryd.ntmps39
  go_upto_region 5 with (first | ((with_reducible refine gate_dst (N := 2) rfl ?_); refine box_event ?hg (N := 2) ?hd (cs := #[.slice A l.length c, .int .i64 (NN l)]) (t := 35) ?hr ?_; (case hd => rfl); (case hg => rfl); (case hr => first | (go_simp; done) | (go_simp; rfl)); intro gb hg w2 hbox hb; have HB := Ak hb; have Bgb := Ak hbox; have Ggb := Ak (show w.heap.size ≤ gb from by rw [hg]; exact Nat.le_refl _); clear hg hbox hb) | ((with_reducible refine gate_dst (N := 4) rfl ?_); refine box_event ?hg (N := 4) ?hd (cs := #[.slice none 0 0]) (t := 32) ?hr ?_; (case hd => rfl); (case hg => rfl); (case hr => first | (go_simp; done) | (go_simp; rfl)); intro g4 hg w4 hbox hb; have hb2 := below_then HB.out HB.out.size hb; have Bgb_ := Ak (blk_below Bgb.out hb); have Bg4 := Ak hbox; have Gg4 := Ak (show gb < g4 from by rw [hg]; exact blk_lt Bgb.out); clear HB Bgb hg hbox hb; have HB := Ak hb2; clear hb2; have Bgb := Bgb_; clear Bgb_) | ((with_reducible refine gate_dst (N := 5) rfl ?_); refine box_event ?hg (N := 5) ?hd (cs := #[.slice none 0 0]) (t := 32) ?hr ?_; (case hd => rfl); (case hg => rfl); (case hr => first | (go_simp; done) | (go_simp; rfl)); intro g5 hg w5 hbox hb; have hb2 := below_then HB.out HB.out.size hb; have Bgb_ := Ak (blk_below Bgb.out hb); have Bg4_ := Ak (blk_below Bg4.out hb); have Bg5 := Ak hbox; have Gg5 := Ak (show g4 < g5 from by rw [hg]; exact blk_lt Bg4.out); clear HB Bgb Bg4 hg hbox hb; have HB := Ak hb2; clear hb2; have Bgb := Bgb_; clear Bgb_; have Bg4 := Bg4_; clear Bg4_) | ((with_reducible refine gate_dst (N := 6) rfl ?_); refine box_event ?hg (N := 6) ?hd (cs := #[.int .i64 0]) (t := 3) ?hr ?_; (case hd => rfl); (case hg => rfl); (case hr => first | (go_simp; done) | (go_simp; rfl)); intro g6 hg w6 hbox hb; have hb2 := below_then HB.out HB.out.size hb; have Bgb_ := Ak (blk_below Bgb.out hb); have Bg4_ := Ak (blk_below Bg4.out hb); have Bg5_ := Ak (blk_below Bg5.out hb); have Bg6 := Ak hbox; have Gg6 := Ak (show g5 < g6 from by rw [hg]; exact blk_lt Bg5.out); clear HB Bgb Bg4 Bg5 hg hbox hb; have HB := Ak hb2; clear hb2; have Bgb := Bgb_; clear Bgb_; have Bg4 := Bg4_; clear Bg4_; have Bg5 := Bg5_; clear Bg5_) | ((with_reducible refine gate_dst (N := 7) rfl ?_); refine box_event ?hg (N := 7) ?hd (cs := #[.int .i64 0]) (t := 24) ?hr ?_; (case hd => rfl); (case hg => rfl); (case hr => first | (go_simp; done) | (go_simp; rfl)); intro g7 hg w7 hbox hb; have hb2 := below_then HB.out HB.out.size hb; have Bgb_ := Ak (blk_below Bgb.out hb); have Bg4_ := Ak (blk_below Bg4.out hb); have Bg5_ := Ak (blk_below Bg5.out hb); have Bg6_ := Ak (blk_below Bg6.out hb); have Bg7 := Ak hbox; have Gg7 := Ak (show g6 < g7 from by rw [hg]; exact blk_lt Bg6.out); clear HB Bgb Bg4 Bg5 Bg6 hg hbox hb; have HB := Ak hb2; clear hb2; have Bgb := Bgb_; clear Bgb_; have Bg4 := Bg4_; clear Bg4_; have Bg5 := Bg5_; clear Bg5_; have Bg6 := Bg6_; clear Bg6_; have hcb0 := ((blk_cell Bgb.out 0).trans rfl : w7.cell? ⟨gb, 0, none⟩ = some (.slice A l.length c)); have hcb1 := ((blk_cell Bgb.out 1).trans rfl : w7.cell? ⟨gb, 1, none⟩ = some (.int .i64 (NN l)))) | (go_at_call 40; refine (bits_Check.calls 40 A c l (NN l) 0 _ (Kd.C_below HR.out.C HB.out) HR.out.cap HCK.out).mono ?_; rintro e w8 ⟨rfl, hb⟩; have hb2 := below_then HB.out HB.out.size hb; have Bgb_ := Ak (blk_below Bgb.out hb); have Bg4_ := Ak (blk_below Bg4.out hb); have Bg5_ := Ak (blk_below Bg5.out hb); have Bg6_ := Ak (blk_below Bg6.out hb); have Bg7_ := Ak (blk_below Bg7.out hb); clear HB Bgb Bg4 Bg5 Bg6 Bg7 hb; have HB := Ak hb2; clear hb2; have Bgb := Bgb_; clear Bgb_; have Bg4 := Bg4_; clear Bg4_; have Bg5 := Bg5_; clear Bg5_; have Bg6 := Bg6_; clear Bg6_; have Bg7 := Bg7_; clear Bg7_; have hcb0 := ((blk_cell Bgb.out 0).trans rfl : w8.cell? ⟨gb, 0, none⟩ = some (.slice A l.length c)); have hcb1 := ((blk_cell Bgb.out 1).trans rfl : w8.cell? ⟨gb, 1, none⟩ = some (.int .i64 (NN l)))) | ((with_reducible refine gate_dst (N := 30) rfl ?_); refine box_event ?hg (N := 30) ?hd (cs := #[.slice A l.length c, .int .i64 (NN l), .int .i64 (p : Int)]) (t := 106) ?hr ?_; (case hd => rfl); (case hg => rfl); (case hr => first | (go_simp; done) | (go_simp; rfl)); intro g hg w9 hbox hb; have AT := Ak (show HRdrAt w8 w9 g A c l (NN l) (p : Int) from ⟨hb, by rw [hg]; exact Nat.le_refl _, hbox⟩); have HB9 := Ak hb; clear hg hbox hb) )
  clear hcb0 hcb1
  have HR8 := Ak (show RowOk w8 A c l from ⟨Kd.C_below HR.out.C HB.out, HR.out.cap, HR.out.byt, HR.out.len⟩)
  have HX := Ak AT.out
  have hRR := HRR.out
  clear HRR HCK
  unfold headerM at hRR
  cases h1 : bitsM l p 5 with
  | error er =>
    rw [h1] at hRR
    have HRR := Ak hRR.symm
    have HE0 := Ak (bitsM_bad h1)
    have H1 := Ak h1
    clear hRR h1
    go_wp2_with (go_at_call 46; have hcc := hbits_told HR8.out _ g _ 5 5 rfl AT.out HP.out (by decide); rw [H1.out] at hcc; refine hcc.mono ?_; clear hcc; rintro e w' ⟨rfl, hb⟩; have HF := Ak (AT.out.below.trans hb); clear hb)
    refine leaves_cons (f := 45) (args := #[.pointer (some ⟨g4, 0, none⟩), .pointer (some ⟨g5, 0, none⟩), .pointer (some ⟨g6, 0, none⟩), .pointer (some ⟨g7, 0, none⟩)]) (by simp) (by simp [go_sem]) ?_
    refine (hcatch2 w.heap.size g4 g5 g6 g7 _ _ _ _ _ _ _ _ er [] _ (by have h1 := Ggb.out; have h2 := Gg4.out; omega) Gg5.out Gg6.out Gg7.out (blk_below Bg4.out HF.out) (blk_below Bg5.out HF.out) (blk_below Bg6.out HF.out) (blk_below Bg7.out HF.out)).mono ?_
    rintro e u' w'' ⟨rfl, rfl, hc4, hc5, hc6, hc7, hbw⟩
    have HBF := Ak (HB.out.trans ((HF.out.mono HB.out.size).trans hbw))
    clear hbw
    simp [Leaves, settle, results, Tryd.results39, go_sem, hc4, hc5, hc6, hc7]
    rw [HRR.out]
    exact ⟨rfl, HBF.out, HE0.out⟩
  | ok r1 => ?_
  obtain ⟨x, p1⟩ := r1
  rw [h1] at hRR
  dsimp only at hRR
  obtain ⟨hxe, hxp, hxb⟩ := bitsM_ok h1
  obtain ⟨xn, hxn⟩ : ∃ n : Nat, x = (n : Int) := ⟨x.toNat, by have h1_ := getV_range l p 5; rw [hxe]; omega⟩
  have hxl : xn < 32 := (by have h1_ := getV_range l p 5; have h2_ : (2 : Int) ^ 5 = 32 := (by decide); rw [← hxe, hxn] at h1_; omega)
  subst hxn
  clear hxe hxp hxb
  have H1 := Ak h1
  obtain ⟨N1, hN1⟩ : ∃ N1, N1 = 257 + xn := ⟨_, rfl⟩
  have hw1 : wrap64 (257 + (xn : Int)) = (N1 : Int) := (by rw [wrap64_id (by omega) (by omega)]; omega)
  have HXL := Ak hxl
  clear h1 hxl
  cases h2 : bitsM l p1 5 with
  | error er =>
    rw [h2] at hRR
    have HRR := Ak hRR.symm
    have HE0 := Ak (bitsM_bad h2)
    have H2 := Ak h2
    clear hRR h2
    go_wp2_with (first | (go_at_call 46; have hcc := hbits_told HR8.out _ g _ 5 5 rfl AT.out HP.out (by decide); rw [H1.out] at hcc; refine hcc.mono ?_; clear hcc; rintro e w' ⟨rfl, hq_, hat_, hm_⟩; clear AT HP; have AT := Ak hat_; have HP := Ak hq_; clear hat_ hq_ hm_ H1) | (go_at_call 46; have hcc := hbits_told HR8.out _ g _ 5 5 rfl AT.out HP.out (by decide); rw [H2.out] at hcc; refine hcc.mono ?_; clear hcc; rintro e w' ⟨rfl, hb⟩; have HF := Ak (AT.out.below.trans hb); clear hb) )
    refine leaves_cons (f := 45) (args := #[.pointer (some ⟨g4, 0, none⟩), .pointer (some ⟨g5, 0, none⟩), .pointer (some ⟨g6, 0, none⟩), .pointer (some ⟨g7, 0, none⟩)]) (by simp) (by simp [go_sem]) ?_
    refine (hcatch2 w.heap.size g4 g5 g6 g7 _ _ _ _ _ _ _ _ er [] _ (by have h1 := Ggb.out; have h2 := Gg4.out; omega) Gg5.out Gg6.out Gg7.out (blk_below Bg4.out HF.out) (blk_below Bg5.out HF.out) (blk_below Bg6.out HF.out) (blk_below Bg7.out HF.out)).mono ?_
    rintro e u' w'' ⟨rfl, rfl, hc4, hc5, hc6, hc7, hbw⟩
    have HBF := Ak (HB.out.trans ((HF.out.mono HB.out.size).trans hbw))
    clear hbw
    simp [Leaves, settle, results, Tryd.results39, go_sem, hc4, hc5, hc6, hc7]
    rw [HRR.out]
    exact ⟨rfl, HBF.out, HE0.out⟩
  | ok r2 => ?_
  obtain ⟨y, p2⟩ := r2
  rw [h2] at hRR
  dsimp only at hRR
  obtain ⟨hxe, hxp, hxb⟩ := bitsM_ok h2
  obtain ⟨yn, hxn⟩ : ∃ n : Nat, y = (n : Int) := ⟨y.toNat, by have h1_ := getV_range l p1 5; rw [hxe]; omega⟩
  have hxl : yn < 32 := (by have h1_ := getV_range l p1 5; have h2_ : (2 : Int) ^ 5 = 32 := (by decide); rw [← hxe, hxn] at h1_; omega)
  subst hxn
  clear hxe hxp hxb
  have H2 := Ak h2
  obtain ⟨N2, hN2⟩ : ∃ N2, N2 = 1 + yn := ⟨_, rfl⟩
  have hw2 : wrap64 (1 + (yn : Int)) = (N2 : Int) := (by rw [wrap64_id (by omega) (by omega)]; omega)
  clear h2
  rw [Int.toNat_natCast, Int.toNat_natCast, ← hN1, ← hN2] at hRR
  have HN0 := Ak (show 257 ≤ N1 ∧ 1 ≤ N2 by omega)
  by_cases hA : N1 > 286
  · rw [if_pos (.inl (by omega))] at hRR
    have HRR := Ak hRR.symm
    have HE0 := Ak (show (3 : Int) ≠ 0 by decide)
    have t0 := eq_true (show (286 : Int) < (N1 : Int) by omega)
    have t0b := decide_eq_true (show (286 : Int) < (N1 : Int) by omega)
    clear hRR hA hN1 hN2 hxl
    go_wp2_with (first | (go_at_call 46; have hcc := hbits_told HR8.out _ g _ 5 5 rfl AT.out HP.out (by decide); rw [H1.out] at hcc; refine hcc.mono ?_; clear hcc; rintro e w' ⟨rfl, hq_, hat_, hm_⟩; clear AT HP; have AT := Ak hat_; have HP := Ak hq_; clear hat_ hq_ hm_ H1) | (go_at_call 46; have hcc := hbits_told HR8.out _ g _ 5 5 rfl AT.out HP.out (by decide); rw [H2.out] at hcc; refine hcc.mono ?_; clear hcc; rintro e w' ⟨rfl, hq_, hat_, hm_⟩; clear AT HP; have AT := Ak hat_; have HP := Ak hq_; clear hat_ hq_ hm_ H2) | (go_at_call 47; refine (hmust_else _ 3 (by decide) _).mono ?_; rintro e w' ⟨rfl, hb⟩; have HF := Ak (AT.out.below.trans (hb.mono AT.out.below.size)); clear hb) )
    refine leaves_cons (f := 45) (args := #[.pointer (some ⟨g4, 0, none⟩), .pointer (some ⟨g5, 0, none⟩), .pointer (some ⟨g6, 0, none⟩), .pointer (some ⟨g7, 0, none⟩)]) (by simp) (by simp [go_sem]) ?_
    refine (hcatch2 w.heap.size g4 g5 g6 g7 _ _ _ _ _ _ _ _ 3 [] _ (by have h1 := Ggb.out; have h2 := Gg4.out; omega) Gg5.out Gg6.out Gg7.out (blk_below Bg4.out HF.out) (blk_below Bg5.out HF.out) (blk_below Bg6.out HF.out) (blk_below Bg7.out HF.out)).mono ?_
    rintro e u' w'' ⟨rfl, rfl, hc4, hc5, hc6, hc7, hbw⟩
    have HBF := Ak (HB.out.trans ((HF.out.mono HB.out.size).trans hbw))
    clear hbw
    simp [Leaves, settle, results, Tryd.results39, go_sem, hc4, hc5, hc6, hc7]
    rw [HRR.out]
    exact ⟨rfl, HBF.out, HE0.out⟩
  have t0 := eq_false (show ¬ (286 : Int) < (N1 : Int) by omega)
  have t0b := decide_eq_false (show ¬ (286 : Int) < (N1 : Int) by omega)
  by_cases hB : N2 > 30
  · rw [if_pos (.inr (by omega))] at hRR
    have HRR := Ak hRR.symm
    have HE0 := Ak (show (3 : Int) ≠ 0 by decide)
    have t1 := eq_true (show (30 : Int) < (N2 : Int) by omega)
    have t1b := decide_eq_true (show (30 : Int) < (N2 : Int) by omega)
    clear hRR hA hB hN1 hN2 hxl
    go_wp2_with (first | (go_at_call 46; have hcc := hbits_told HR8.out _ g _ 5 5 rfl AT.out HP.out (by decide); rw [H1.out] at hcc; refine hcc.mono ?_; clear hcc; rintro e w' ⟨rfl, hq_, hat_, hm_⟩; clear AT HP; have AT := Ak hat_; have HP := Ak hq_; clear hat_ hq_ hm_ H1) | (go_at_call 46; have hcc := hbits_told HR8.out _ g _ 5 5 rfl AT.out HP.out (by decide); rw [H2.out] at hcc; refine hcc.mono ?_; clear hcc; rintro e w' ⟨rfl, hq_, hat_, hm_⟩; clear AT HP; have AT := Ak hat_; have HP := Ak hq_; clear hat_ hq_ hm_ H2) | (go_at_call 47; refine (hmust_else _ 3 (by decide) _).mono ?_; rintro e w' ⟨rfl, hb⟩; have HF := Ak (AT.out.below.trans (hb.mono AT.out.below.size)); clear hb) )
    refine leaves_cons (f := 45) (args := #[.pointer (some ⟨g4, 0, none⟩), .pointer (some ⟨g5, 0, none⟩), .pointer (some ⟨g6, 0, none⟩), .pointer (some ⟨g7, 0, none⟩)]) (by simp) (by simp [go_sem]) ?_
    refine (hcatch2 w.heap.size g4 g5 g6 g7 _ _ _ _ _ _ _ _ 3 [] _ (by have h1 := Ggb.out; have h2 := Gg4.out; omega) Gg5.out Gg6.out Gg7.out (blk_below Bg4.out HF.out) (blk_below Bg5.out HF.out) (blk_below Bg6.out HF.out) (blk_below Bg7.out HF.out)).mono ?_
    rintro e u' w'' ⟨rfl, rfl, hc4, hc5, hc6, hc7, hbw⟩
    have HBF := Ak (HB.out.trans ((HF.out.mono HB.out.size).trans hbw))
    clear hbw
    simp [Leaves, settle, results, Tryd.results39, go_sem, hc4, hc5, hc6, hc7]
    rw [HRR.out]
    exact ⟨rfl, HBF.out, HE0.out⟩
  rw [if_neg (by omega)] at hRR
  have t1 := eq_false (show ¬ (30 : Int) < (N2 : Int) by omega)
  have t1b := decide_eq_false (show ¬ (30 : Int) < (N2 : Int) by omega)
  have hx1 := HXL.out
  obtain ⟨NT, hNT⟩ : ∃ NT, NT = N1 + N2 := ⟨_, rfl⟩
  have hwt : wrap64 ((N1 : Int) + (N2 : Int)) = (NT : Int) := (by rw [wrap64_id (by omega) (by omega)]; omega)
  rw [← hNT] at hRR
  have HNT := Ak (show NT ≤ 1000 by omega)
  have HNE := Ak hNT
  clear hA hB hxl hx1
  cases h3 : bitsM l p2 4 with
  | error er =>
    rw [h3] at hRR
    have HRR := Ak hRR.symm
    have HE0 := Ak (bitsM_bad h3)
    have H3 := Ak h3
    clear hRR h3 hN1 hN2 hNT
    go_wp2_with (first | (go_at_call 46; have hcc := hbits_told HR8.out _ g _ 5 5 rfl AT.out HP.out (by decide); rw [H1.out] at hcc; refine hcc.mono ?_; clear hcc; rintro e w' ⟨rfl, hq_, hat_, hm_⟩; clear AT HP; have AT := Ak hat_; have HP := Ak hq_; clear hat_ hq_ hm_ H1) | (go_at_call 46; have hcc := hbits_told HR8.out _ g _ 5 5 rfl AT.out HP.out (by decide); rw [H2.out] at hcc; refine hcc.mono ?_; clear hcc; rintro e w' ⟨rfl, hq_, hat_, hm_⟩; clear AT HP; have AT := Ak hat_; have HP := Ak hq_; clear hat_ hq_ hm_ H2) | (go_at_call 46; have hcc := hbits_told HR8.out _ g _ 4 4 rfl AT.out HP.out (by decide); rw [H3.out] at hcc; refine hcc.mono ?_; clear hcc; rintro e w' ⟨rfl, hb⟩; have HF := Ak (AT.out.below.trans hb); clear hb) )
    refine leaves_cons (f := 45) (args := #[.pointer (some ⟨g4, 0, none⟩), .pointer (some ⟨g5, 0, none⟩), .pointer (some ⟨g6, 0, none⟩), .pointer (some ⟨g7, 0, none⟩)]) (by simp) (by simp [go_sem]) ?_
    refine (hcatch2 w.heap.size g4 g5 g6 g7 _ _ _ _ _ _ _ _ er [] _ (by have h1 := Ggb.out; have h2 := Gg4.out; omega) Gg5.out Gg6.out Gg7.out (blk_below Bg4.out HF.out) (blk_below Bg5.out HF.out) (blk_below Bg6.out HF.out) (blk_below Bg7.out HF.out)).mono ?_
    rintro e u' w'' ⟨rfl, rfl, hc4, hc5, hc6, hc7, hbw⟩
    have HBF := Ak (HB.out.trans ((HF.out.mono HB.out.size).trans hbw))
    clear hbw
    simp [Leaves, settle, results, Tryd.results39, go_sem, hc4, hc5, hc6, hc7]
    rw [HRR.out]
    exact ⟨rfl, HBF.out, HE0.out⟩
  | ok r3 => ?_
  obtain ⟨q, p3⟩ := r3
  rw [h3] at hRR
  dsimp only at hRR
  obtain ⟨hxe, hxp, hxb⟩ := bitsM_ok h3
  obtain ⟨qn, hxn⟩ : ∃ n : Nat, q = (n : Int) := ⟨q.toNat, by have h1_ := getV_range l p2 4; rw [hxe]; omega⟩
  have hxl : qn < 16 := (by have h1_ := getV_range l p2 4; have h2_ : (2 : Int) ^ 4 = 16 := (by decide); rw [← hxe, hxn] at h1_; omega)
  subst hxn
  clear hxe hxp hxb
  have H3 := Ak h3
  obtain ⟨M, hM⟩ : ∃ M, M = 4 + qn := ⟨_, rfl⟩
  have hw3 : wrap64 (4 + (qn : Int)) = (M : Int) := (by rw [wrap64_id (by omega) (by omega)]; omega)
  rw [Int.toNat_natCast, ← hM] at hRR
  have HM := Ak (show M ≤ 19 from by rw [hM]; exact Nat.add_le_add_left (Nat.le_of_lt_succ hxl) 4)
  clear h3 hM hxl
  cases h4 : codesM l M 0 p3 (List.replicate 19 0) with
  | error er =>
    rw [h4] at hRR
    have HRR := Ak hRR.symm
    have HE0 := Ak (newS_bad h4)
    have HC := Ak h4
    clear hRR h4 hN1 hN2 hNT
    go_wp2_with (first | (go_at_call 46; have hcc := hbits_told HR8.out _ g _ 5 5 rfl AT.out HP.out (by decide); rw [H1.out] at hcc; refine hcc.mono ?_; clear hcc; rintro e w' ⟨rfl, hq_, hat_, hm_⟩; clear AT HP; have AT := Ak hat_; have HP := Ak hq_; clear hat_ hq_ hm_ H1) | (go_at_call 46; have hcc := hbits_told HR8.out _ g _ 5 5 rfl AT.out HP.out (by decide); rw [H2.out] at hcc; refine hcc.mono ?_; clear hcc; rintro e w' ⟨rfl, hq_, hat_, hm_⟩; clear AT HP; have AT := Ak hat_; have HP := Ak hq_; clear hat_ hq_ hm_ H2) | (go_at_call 46; have hcc := hbits_told HR8.out _ g _ 4 4 rfl AT.out HP.out (by decide); rw [H3.out] at hcc; refine hcc.mono ?_; clear hcc; rintro e w' ⟨rfl, hq_, hat_, hm_⟩; clear AT HP; have AT := Ak hat_; have HP := Ak hq_; clear hat_ hq_ hm_ H3) | (go_at_call 48; have hcc := codes_told HR8.out _ g _ M _ rfl HM.out AT.out HP.out; rw [HC.out] at hcc; refine hcc.mono ?_; clear hcc; rintro e w' ⟨rfl, hb⟩; have HF := Ak (AT.out.below.trans hb); clear hb) )
    refine leaves_cons (f := 45) (args := #[.pointer (some ⟨g4, 0, none⟩), .pointer (some ⟨g5, 0, none⟩), .pointer (some ⟨g6, 0, none⟩), .pointer (some ⟨g7, 0, none⟩)]) (by simp) (by simp [go_sem]) ?_
    refine (hcatch2 w.heap.size g4 g5 g6 g7 _ _ _ _ _ _ _ _ er [] _ (by have h1 := Ggb.out; have h2 := Gg4.out; omega) Gg5.out Gg6.out Gg7.out (blk_below Bg4.out HF.out) (blk_below Bg5.out HF.out) (blk_below Bg6.out HF.out) (blk_below Bg7.out HF.out)).mono ?_
    rintro e u' w'' ⟨rfl, rfl, hc4, hc5, hc6, hc7, hbw⟩
    have HBF := Ak (HB.out.trans ((HF.out.mono HB.out.size).trans hbw))
    clear hbw
    simp [Leaves, settle, results, Tryd.results39, go_sem, hc4, hc5, hc6, hc7]
    rw [HRR.out]
    exact ⟨rfl, HBF.out, HE0.out⟩
  | ok r4 => ?_
  obtain ⟨z, p4⟩ := r4
  rw [h4] at hRR
  dsimp only at hRR
  have HC := Ak h4
  clear h4
  cases h5 : lengthsM l z NT k p4 [] with
  | error er =>
    rw [h5] at hRR
    have HRR := Ak hRR.symm
    have HL := Ak h5
    clear hRR h5 hN1 hN2 hNT
    go_wp2_with (first | (go_at_call 46; have hcc := hbits_told HR8.out _ g _ 5 5 rfl AT.out HP.out (by decide); rw [H1.out] at hcc; refine hcc.mono ?_; clear hcc; rintro e w' ⟨rfl, hq_, hat_, hm_⟩; clear AT HP; have AT := Ak hat_; have HP := Ak hq_; clear hat_ hq_ hm_ H1) | (go_at_call 46; have hcc := hbits_told HR8.out _ g _ 5 5 rfl AT.out HP.out (by decide); rw [H2.out] at hcc; refine hcc.mono ?_; clear hcc; rintro e w' ⟨rfl, hq_, hat_, hm_⟩; clear AT HP; have AT := Ak hat_; have HP := Ak hq_; clear hat_ hq_ hm_ H2) | (go_at_call 46; have hcc := hbits_told HR8.out _ g _ 4 4 rfl AT.out HP.out (by decide); rw [H3.out] at hcc; refine hcc.mono ?_; clear hcc; rintro e w' ⟨rfl, hq_, hat_, hm_⟩; clear AT HP; have AT := Ak hat_; have HP := Ak hq_; clear hat_ hq_ hm_ H3) | (go_at_call 48; have hcc := codes_told HR8.out _ g _ M _ rfl HM.out AT.out HP.out; rw [HC.out] at hcc; refine hcc.mono ?_; clear hcc; rintro e w' ⟨gt, rfl, hq_, hz_, ht_, hat_, hm_⟩; clear AT HP; have AT := Ak hat_; have HP := Ak hq_; have HT := Ak ht_; have HZ := Ak hz_; clear hat_ hq_ hz_ ht_ hm_) | (go_at_call 49; have hcc := lengths_told HR8.out _ g _ NT _ rfl HNT.out AT.out HP.out gt z (okl_new HZ.out) HT.out k (by have := HK.out; omega); rw [HL.out] at hcc; refine hcc.mono ?_; clear hcc; rintro e w' ⟨rfl, hb⟩; have HE0 := Ak (lengthsM_bad HR.out.byt HR.out.len (okl_new HZ.out) (by have := HK.out; omega) HP.out HL.out); have HF := Ak (AT.out.below.trans hb); clear hb) )
    refine leaves_cons (f := 45) (args := #[.pointer (some ⟨g4, 0, none⟩), .pointer (some ⟨g5, 0, none⟩), .pointer (some ⟨g6, 0, none⟩), .pointer (some ⟨g7, 0, none⟩)]) (by simp) (by simp [go_sem]) ?_
    refine (hcatch2 w.heap.size g4 g5 g6 g7 _ _ _ _ _ _ _ _ er [] _ (by have h1 := Ggb.out; have h2 := Gg4.out; omega) Gg5.out Gg6.out Gg7.out (blk_below Bg4.out HF.out) (blk_below Bg5.out HF.out) (blk_below Bg6.out HF.out) (blk_below Bg7.out HF.out)).mono ?_
    rintro e u' w'' ⟨rfl, rfl, hc4, hc5, hc6, hc7, hbw⟩
    have HBF := Ak (HB.out.trans ((HF.out.mono HB.out.size).trans hbw))
    clear hbw
    simp [Leaves, settle, results, Tryd.results39, go_sem, hc4, hc5, hc6, hc7]
    rw [HRR.out]
    exact ⟨rfl, HBF.out, HE0.out⟩
  | ok r5 => ?_
  obtain ⟨all, p5⟩ := r5
  rw [h5] at hRR
  dsimp only at hRR
  have HRR := Ak hRR.symm
  have HL := Ak h5
  clear hRR h5 hN1 hN2 hNT
  go_upto_region 10 with (first | (go_at_call 46; have hcc := hbits_told HR8.out _ g _ 5 5 rfl AT.out HP.out (by decide); rw [H1.out] at hcc; refine hcc.mono ?_; clear hcc; rintro e w' ⟨rfl, hq_, hat_, hm_⟩; clear AT HP; have AT := Ak hat_; have HP := Ak hq_; clear hat_ hq_ hm_ H1) | (go_at_call 46; have hcc := hbits_told HR8.out _ g _ 5 5 rfl AT.out HP.out (by decide); rw [H2.out] at hcc; refine hcc.mono ?_; clear hcc; rintro e w' ⟨rfl, hq_, hat_, hm_⟩; clear AT HP; have AT := Ak hat_; have HP := Ak hq_; clear hat_ hq_ hm_ H2) | (go_at_call 46; have hcc := hbits_told HR8.out _ g _ 4 4 rfl AT.out HP.out (by decide); rw [H3.out] at hcc; refine hcc.mono ?_; clear hcc; rintro e w' ⟨rfl, hq_, hat_, hm_⟩; clear AT HP; have AT := Ak hat_; have HP := Ak hq_; clear hat_ hq_ hm_ H3) | (go_at_call 48; have hcc := codes_told HR8.out _ g _ M _ rfl HM.out AT.out HP.out; rw [HC.out] at hcc; refine hcc.mono ?_; clear hcc; rintro e w' ⟨gt, rfl, hq_, hz_, ht_, hat_, hm_⟩; clear AT HP; have AT := Ak hat_; have HP := Ak hq_; have HT := Ak ht_; have HZ := Ak hz_; clear hat_ hq_ hz_ ht_ hm_) | (go_at_call 49; have hcc := lengths_told HR8.out _ g _ NT _ rfl HNT.out AT.out HP.out gt z (okl_new HZ.out) HT.out k (by have := HK.out; omega); rw [HL.out] at hcc; refine hcc.mono ?_; clear hcc; rintro e wz ⟨v', rfl, ho_, hl_, hq_, hat_, hm_⟩; have GB := Ak (Nat.lt_of_lt_of_le (blk_lt Bg7.out) AT.out.below.size); obtain ⟨gl, cl, ev_, hgb_, hgl_, cells_, hcells_⟩ := Kd.R_form ho_ (by have h1 := HN0.out; have h2 := HNE.out; rw [hl_]; omega); rw [hl_] at ev_; subst ev_; have HO := Ak ho_; have HLN := Ak hl_; clear AT HP; have AT := Ak hat_; have HP := Ak hq_; clear hat_ hq_ hl_ ho_ hm_ hgb_ hgl_ hcells_) )
  have hcl := (Kd.R_reads' HO.out).2.1
  have hn0 := HN0.out
  have hne := HNE.out
  have s0 := eq_true (show 0 ≤ (N1 : Int) by omega)
  have s1 := eq_true (show (N1 : Int) ≤ (cl : Int) by omega)
  have s2 := eq_true (show (N1 : Int) ≤ (NT : Int) by omega)
  have s3 := eq_true (show (NT : Int) ≤ (cl : Int) by omega)
  have s1n := eq_true (show N1 ≤ cl by omega)
  have s2n := eq_true (show N1 ≤ NT by omega)
  have s3n := eq_true (show NT ≤ cl by omega)
  have s4 := eq_false (show ¬ cl = N1 by omega)
  have s4i := eq_false (show ¬ (cl : Int) = (N1 : Int) by omega)
  have hlb := AT.out.below
  have F4 := Ak (blk_below Bg4.out AT.out.below)
  have F5 := Ak (blk_below Bg5.out AT.out.below)
  have F6 := Ak (blk_below Bg6.out AT.out.below)
  have F7 := Ak (blk_below Bg7.out AT.out.below)
  have HBZ := Ak (HB.out.trans (AT.out.below.mono HB.out.size))
  have BG := Ak AT.out.blk
  have GG := Ak (show g7 < g from Nat.lt_of_lt_of_le (blk_lt Bg7.out) AT.out.ge)
  clear hcl hn0 hne hlb AT HT Bgb Bg4 Bg5 Bg6 Bg7
  have hb := below_drew (Below.refl wz.heap.size wz)
  replace F4 := Ak (blk_below F4.out hb)
  replace F5 := Ak (blk_below F5.out hb)
  replace F6 := Ak (blk_below F6.out hb)
  replace F7 := Ak (blk_below F7.out hb)
  replace BG := Ak (blk_below BG.out hb)
  replace HO := Ak (Kd.R_below HO.out hb)
  replace HBZ := Ak (HBZ.out.trans (hb.mono HBZ.out.size))
  clear hb
  refine wp_onlyN ?_
  refine start_ (n := 15) (S := fun w' => w'.cell? ⟨g, 2, none⟩ = some (.int .i64 (p5 : Int))) (ds := [14]) #[false, false, false, false, false, false, false, false, false, false, false, false, false, false, false] (by kernel_rfl) rfl rfl ((blk_cell BG.out 2).trans rfl) (fun hHeld => ?_)
  generalize wz.drew = wa at F4 F5 F6 F7 BG HO HBZ hHeld ⊢
  refine pq_ (i := 0) (N := some 56) ?_
  refine pq_ (i := 1) (N := some 57) ?_
  refine pq_ (i := 2) (N := some 58) ?_
  refine pq_ (i := 3) (N := some 59) ?_
  refine pq_ (i := 4) (N := some 60) ?_
  refine pq_ (i := 5) (N := some 61) ?_
  refine pq_ (i := 6) (N := some 62) ?_
  refine pq_ (i := 7) (N := some 63) ?_
  refine pq_ (i := 8) (N := some 64) ?_
  refine pq_ (i := 9) (N := some 65) ?_
  refine tq_ (i := 10) (N := some 66) ?_ hHeld
  refine one_ (i := 11) (N := none) #[true, true, true, true, true, true, true, true, true, true, true, true, false, false, false] rfl rfl (by kernel_rfl) (by decide) (fun K hK => ?_)
  have hz := ((blk_cell F4.out 0).trans rfl : wa.cell? ⟨g4, 0, none⟩ = some (.slice none 0 0))
  have hf := blk_frozen F4.out 0
  refine skip_ (w1 := ?_) (by rfl) rfl ?_ ?_
  rotate_left
  · go_simp
    rfl
  clear hz hf
  replace F4 := Ak (blk_set F4.out 0 (.slice (some ⟨gl, 0, none⟩) N1 N1))
  replace F5 := Ak ((Below.heap_setCell wa ⟨g4, 0, none⟩ (.slice (some ⟨gl, 0, none⟩) N1 N1) g5 (by have h1 := Gg5.out; have h2 := Gg6.out; have h3 := Gg7.out; have h4 := GG.out; show g5 ≠ g4; omega)).trans F5.out)
  replace F6 := Ak ((Below.heap_setCell wa ⟨g4, 0, none⟩ (.slice (some ⟨gl, 0, none⟩) N1 N1) g6 (by have h1 := Gg5.out; have h2 := Gg6.out; have h3 := Gg7.out; have h4 := GG.out; show g6 ≠ g4; omega)).trans F6.out)
  replace F7 := Ak ((Below.heap_setCell wa ⟨g4, 0, none⟩ (.slice (some ⟨gl, 0, none⟩) N1 N1) g7 (by have h1 := Gg5.out; have h2 := Gg6.out; have h3 := Gg7.out; have h4 := GG.out; show g7 ≠ g4; omega)).trans F7.out)
  replace BG := Ak ((Below.heap_setCell wa ⟨g4, 0, none⟩ (.slice (some ⟨gl, 0, none⟩) N1 N1) g (by have h1 := Gg5.out; have h2 := Gg6.out; have h3 := Gg7.out; have h4 := GG.out; show g ≠ g4; omega)).trans BG.out)
  replace HO := Ak (R_store_old (g := g4) (j := 0) (u := (.slice (some ⟨gl, 0, none⟩) N1 N1)) HO.out (by have h1 := Gg5.out; have h2 := Gg6.out; have h3 := Gg7.out; have h4 := GB.out; omega))
  replace HBZ := Ak (HBZ.out.setCell (p := ⟨g4, 0, none⟩) (by have h0 := Ggb.out; have h01 := Gg4.out; have h1 := Gg5.out; have h2 := Gg6.out; have h3 := Gg7.out; show w.heap.size ≤ g4; omega) (.slice (some ⟨gl, 0, none⟩) N1 N1))
  generalize (wa.setCell ⟨g4, 0, none⟩ (.slice (some ⟨gl, 0, none⟩) N1 N1)) = wb at F4 F5 F6 F7 BG HO HBZ ⊢
  refine hK.out _ _ ((blk_cell BG.out 2).trans rfl) (fun hHeld => ?_)
  clear hK K
  refine one_ (i := 12) (N := none) #[true, true, true, true, true, true, true, true, true, true, true, true, true, false, false] rfl rfl (by kernel_rfl) (by decide) (fun K hK => ?_)
  have hz := ((blk_cell F5.out 0).trans rfl : wb.cell? ⟨g5, 0, none⟩ = some (.slice none 0 0))
  have hf := blk_frozen F5.out 0
  refine skip_ (w1 := ?_) (by rfl) rfl ?_ ?_
  rotate_left
  · go_simp
    rfl
  clear hz hf
  replace F4 := Ak ((Below.heap_setCell wb ⟨g5, 0, none⟩ (.slice (some ⟨gl, N1, none⟩) (NT - N1) (cl - N1)) g4 (by have h1 := Gg5.out; have h2 := Gg6.out; have h3 := Gg7.out; have h4 := GG.out; show g4 ≠ g5; omega)).trans F4.out)
  replace F5 := Ak (blk_set F5.out 0 (.slice (some ⟨gl, N1, none⟩) (NT - N1) (cl - N1)))
  replace F6 := Ak ((Below.heap_setCell wb ⟨g5, 0, none⟩ (.slice (some ⟨gl, N1, none⟩) (NT - N1) (cl - N1)) g6 (by have h1 := Gg5.out; have h2 := Gg6.out; have h3 := Gg7.out; have h4 := GG.out; show g6 ≠ g5; omega)).trans F6.out)
  replace F7 := Ak ((Below.heap_setCell wb ⟨g5, 0, none⟩ (.slice (some ⟨gl, N1, none⟩) (NT - N1) (cl - N1)) g7 (by have h1 := Gg5.out; have h2 := Gg6.out; have h3 := Gg7.out; have h4 := GG.out; show g7 ≠ g5; omega)).trans F7.out)
  replace BG := Ak ((Below.heap_setCell wb ⟨g5, 0, none⟩ (.slice (some ⟨gl, N1, none⟩) (NT - N1) (cl - N1)) g (by have h1 := Gg5.out; have h2 := Gg6.out; have h3 := Gg7.out; have h4 := GG.out; show g ≠ g5; omega)).trans BG.out)
  replace HO := Ak (R_store_old (g := g5) (j := 0) (u := (.slice (some ⟨gl, N1, none⟩) (NT - N1) (cl - N1))) HO.out (by have h1 := Gg5.out; have h2 := Gg6.out; have h3 := Gg7.out; have h4 := GB.out; omega))
  replace HBZ := Ak (HBZ.out.setCell (p := ⟨g5, 0, none⟩) (by have h0 := Ggb.out; have h01 := Gg4.out; have h1 := Gg5.out; have h2 := Gg6.out; have h3 := Gg7.out; show w.heap.size ≤ g5; omega) (.slice (some ⟨gl, N1, none⟩) (NT - N1) (cl - N1)))
  generalize (wb.setCell ⟨g5, 0, none⟩ (.slice (some ⟨gl, N1, none⟩) (NT - N1) (cl - N1))) = wc at F4 F5 F6 F7 BG HO HBZ ⊢
  refine hK.out _ _ ((blk_cell BG.out 2).trans rfl) (fun hHeld => ?_)
  clear hK K
  refine one_ (i := 13) (N := none) #[true, true, true, true, true, true, true, true, true, true, true, true, true, true, false] rfl rfl (by kernel_rfl) (by decide) (fun K hK => ?_)
  have hz := ((blk_cell F6.out 0).trans rfl : wc.cell? ⟨g6, 0, none⟩ = some (.int .i64 0))
  have hf := blk_frozen F6.out 0
  refine skip_ (w1 := ?_) (by rfl) rfl ?_ ?_
  rotate_left
  · go_simp
    rfl
  clear hz hf
  replace F4 := Ak ((Below.heap_setCell wc ⟨g6, 0, none⟩ (.int .i64 (p5 : Int)) g4 (by have h1 := Gg5.out; have h2 := Gg6.out; have h3 := Gg7.out; have h4 := GG.out; show g4 ≠ g6; omega)).trans F4.out)
  replace F5 := Ak ((Below.heap_setCell wc ⟨g6, 0, none⟩ (.int .i64 (p5 : Int)) g5 (by have h1 := Gg5.out; have h2 := Gg6.out; have h3 := Gg7.out; have h4 := GG.out; show g5 ≠ g6; omega)).trans F5.out)
  replace F6 := Ak (blk_set F6.out 0 (.int .i64 (p5 : Int)))
  replace F7 := Ak ((Below.heap_setCell wc ⟨g6, 0, none⟩ (.int .i64 (p5 : Int)) g7 (by have h1 := Gg5.out; have h2 := Gg6.out; have h3 := Gg7.out; have h4 := GG.out; show g7 ≠ g6; omega)).trans F7.out)
  replace BG := Ak ((Below.heap_setCell wc ⟨g6, 0, none⟩ (.int .i64 (p5 : Int)) g (by have h1 := Gg5.out; have h2 := Gg6.out; have h3 := Gg7.out; have h4 := GG.out; show g ≠ g6; omega)).trans BG.out)
  replace HO := Ak (R_store_old (g := g6) (j := 0) (u := (.int .i64 (p5 : Int))) HO.out (by have h1 := Gg5.out; have h2 := Gg6.out; have h3 := Gg7.out; have h4 := GB.out; omega))
  replace HBZ := Ak (HBZ.out.setCell (p := ⟨g6, 0, none⟩) (by have h0 := Ggb.out; have h01 := Gg4.out; have h1 := Gg5.out; have h2 := Gg6.out; have h3 := Gg7.out; show w.heap.size ≤ g6; omega) (.int .i64 (p5 : Int)))
  generalize (wc.setCell ⟨g6, 0, none⟩ (.int .i64 (p5 : Int))) = wd at F4 F5 F6 F7 BG HO HBZ ⊢
  refine hK.out _ _ ((blk_cell BG.out 2).trans rfl) (fun hHeld => ?_)
  clear hK K
  refine last_ (i := 14) (N := none) #[true, true, true, true, true, true, true, true, true, true, true, true, true, true, true] rfl rfl (by kernel_rfl) (by decide) (fun K hK => ?_)
  have hz := ((blk_cell F7.out 0).trans rfl : wd.cell? ⟨g7, 0, none⟩ = some (.int .i64 0))
  have hf := blk_frozen F7.out 0
  refine skip_ (w1 := ?_) (by rfl) rfl ?_ ?_
  rotate_left
  · go_simp
    rfl
  clear hz hf
  replace F4 := Ak ((Below.heap_setCell wd ⟨g7, 0, none⟩ (.int .i64 0) g4 (by have h1 := Gg5.out; have h2 := Gg6.out; have h3 := Gg7.out; have h4 := GG.out; show g4 ≠ g7; omega)).trans F4.out)
  replace F5 := Ak ((Below.heap_setCell wd ⟨g7, 0, none⟩ (.int .i64 0) g5 (by have h1 := Gg5.out; have h2 := Gg6.out; have h3 := Gg7.out; have h4 := GG.out; show g5 ≠ g7; omega)).trans F5.out)
  replace F6 := Ak ((Below.heap_setCell wd ⟨g7, 0, none⟩ (.int .i64 0) g6 (by have h1 := Gg5.out; have h2 := Gg6.out; have h3 := Gg7.out; have h4 := GG.out; show g6 ≠ g7; omega)).trans F6.out)
  replace F7 := Ak (blk_set F7.out 0 (.int .i64 0))
  replace BG := Ak ((Below.heap_setCell wd ⟨g7, 0, none⟩ (.int .i64 0) g (by have h1 := Gg5.out; have h2 := Gg6.out; have h3 := Gg7.out; have h4 := GG.out; show g ≠ g7; omega)).trans BG.out)
  replace HO := Ak (R_store_old (g := g7) (j := 0) (u := (.int .i64 0)) HO.out (by have h1 := Gg5.out; have h2 := Gg6.out; have h3 := Gg7.out; have h4 := GB.out; omega))
  replace HBZ := Ak (HBZ.out.setCell (p := ⟨g7, 0, none⟩) (by have h0 := Ggb.out; have h01 := Gg4.out; have h1 := Gg5.out; have h2 := Gg6.out; have h3 := Gg7.out; show w.heap.size ≤ g7; omega) (.int .i64 0))
  generalize (wd.setCell ⟨g7, 0, none⟩ (.int .i64 0)) = we at F4 F5 F6 F7 BG HO HBZ ⊢
  refine hK.out _ _ ?_
  clear hK K
  refine done_ (by kernel_rfl) ?_
  refine onlyN_normal ?_
  go_wp2
  refine leaves_cons (f := 45) (args := #[.pointer (some ⟨g4, 0, none⟩), .pointer (some ⟨g5, 0, none⟩), .pointer (some ⟨g6, 0, none⟩), .pointer (some ⟨g7, 0, none⟩)]) (by simp) (by simp [go_sem]) ?_
  refine (hidle g4 g5 g6 g7 _).mono ?_
  rintro e u' w'' ⟨rfl, rfl, rfl⟩
  have hc4 := ((blk_cell F4.out 0).trans rfl : w''.cell? ⟨g4, 0, none⟩ = some (.slice (some ⟨gl, 0, none⟩) N1 N1))
  have hc5 := ((blk_cell F5.out 0).trans rfl : w''.cell? ⟨g5, 0, none⟩ = some (.slice (some ⟨gl, N1, none⟩) (NT - N1) (cl - N1)))
  have hc6 := ((blk_cell F6.out 0).trans rfl : w''.cell? ⟨g6, 0, none⟩ = some (.int .i64 (p5 : Int)))
  have hc7 := ((blk_cell F7.out 0).trans rfl : w''.cell? ⟨g7, 0, none⟩ = some (.int .i64 0))
  simp [Leaves, settle, results, Tryd.results39, go_sem, hc4, hc5, hc6, hc7]
  rw [HRR.out]
  have hl := HLN.out
  have hn := HNE.out
  have l1 : (all.take N1).length = N1 := by rw [List.length_take]; omega
  have l2 : (all.drop N1).length = NT - N1 := by rw [List.length_drop, hl]
  have hC := (Kd.R_reads' HO.out).2.2
  refine ⟨some ⟨gl, 0, none⟩, N1, some ⟨gl, N1, none⟩, cl - N1, by rw [l1, l2], ⟨Kd.C_take hC (by omega), fun ad e => by injection e with e; subst e; exact Kd.R_typed HO.out gl rfl⟩, ⟨?_, fun ad e => by injection e with e; subst e; exact Kd.R_typed HO.out gl rfl⟩, HBZ.out⟩
  have hcc := (Kd.R_reads' HO.out).2.1
  have hd := Kd.C_drop (m := N1) (c := cl) hC (by omega) (by omega)
  have hn0 := HN0.out
  rw [if_neg (show ¬ cl = N1 by omega)] at hd
  have e : Option.map (fun x : Addr => x.add (N1 * (Kd.int .i64).sz)) (some ⟨gl, 0, none⟩) = some ⟨gl, N1, none⟩ := by show some (Addr.add ⟨gl, 0, none⟩ (N1 * 1)) = _; simp [Addr.add]; omega
  rw [← e]
  exact hd
end
end Go.Proofs.YtgflkkjhckcipaaDoor.Pr

-- YtgflkkjhckcipaaDoorIf21
namespace Go.Proofs.YtgflkkjhckcipaaDoor.Pr
open Go.RowKit Go.Shelf Go.Proofs.YtgflkkjhckcipaaDoorW.PrintWords Go.Proofs.YtgflkkjhckcipaaDoorW.PrintLast Go.Proofs.YtgflkkjhckcipaaDoorW.PrintMore
set_option linter.unusedVariables false
set_option linter.unusedSimpArgs false
theorem codesM_ok {l : List Int} : ∀ {d i p : Nat} {z z' : List Int} {p' : Nat}, p ≤ 8 * l.length → codesM l d i p z = .ok (z', p') → Hu.newS z' = 0 ∧ p ≤ p' ∧ p' ≤ 8 * l.length
  | 0, i, p, z, z', p', hp, h => by
    unfold codesM at h
    split at h
    · next hz =>
      injection h with h
      injection h with h1 h2
      subst h1 h2
      exact ⟨hz, Nat.le_refl _, hp⟩
    · cases h
  | d + 1, i, p, z, z', p', hp, h => by
    unfold codesM at h
    cases hb : bitsM l p 3 with
    | error e => rw [hb] at h; cases h
    | ok r =>
      obtain ⟨x, p1⟩ := r
      have ho := bitsM_ok hb
      rw [hb] at h
      have := codesM_ok (by omega) h
      exact ⟨this.1, by omega, this.2.2⟩
theorem lengthsM_ok {l z : List Int} (hz : OKL z) {n : Nat} : ∀ {k p : Nat} {out all : List Int} {p' : Nat}, p ≤ 8 * l.length → out.length ≤ n → lengthsM l z n k p out = .ok (all, p') → all.length = n ∧ p ≤ p' ∧ p' ≤ 8 * l.length
  | 0, p, out, all, p', hp, hl, h => by cases h
  | k + 1, p, out, all, p', hp, hl, h => by
    unfold lengthsM at h
    split at h
    · cases hs : symM l (some z) p with
      | error e => rw [hs] at h; cases h
      | ok r =>
        obtain ⟨s, p1⟩ := r
        have hso := symM_ok hz hp hs
        rw [hs] at h
        dsimp only at h
        cases hx : bitsM l p1 (extraN s) with
        | error e => rw [hx] at h; cases h
        | ok r2 =>
          obtain ⟨x, p2⟩ := r2
          have hbo := bitsM_ok hx
          rw [hx] at h
          dsimp only at h
          cases ht : takeM out s x n with
          | error e => rw [ht] at h; cases h
          | ok o2 =>
            rw [ht] at h
            have hto := takeM_ok ht hl
            have := lengthsM_ok hz (p := p2) (by omega) hto.1 h
            exact ⟨this.1, by omega, this.2.2⟩
    · next hge =>
      injection h with h
      injection h with h1 h2
      subst h1 h2
      exact ⟨by omega, Nat.le_refl _, hp⟩
theorem headerM_ok {l : List Int} {k p : Nat} {lit dist : List Int} {p' : Nat} (hp : p ≤ 8 * l.length) (h : headerM l k p = .ok (lit, dist, p')) : 257 ≤ lit.length ∧ lit.length ≤ 286 ∧ 1 ≤ dist.length ∧ dist.length ≤ 30 ∧ p < p' ∧ p' ≤ 8 * l.length := by
  unfold headerM at h
  cases h1 : bitsM l p 5 with
  | error e => rw [h1] at h; cases h
  | ok r1 => ?_
  obtain ⟨x, p1⟩ := r1
  have o1 := bitsM_ok h1
  have x1 := getV_range l p 5
  rw [h1] at h
  dsimp only at h
  cases h2 : bitsM l p1 5 with
  | error e => rw [h2] at h; cases h
  | ok r2 => ?_
  obtain ⟨y, p2⟩ := r2
  have o2 := bitsM_ok h2
  have y1 := getV_range l p1 5
  rw [h2] at h
  dsimp only at h
  split at h
  · cases h
  next hc =>
  cases h3 : bitsM l p2 4 with
  | error e => rw [h3] at h; cases h
  | ok r3 => ?_
  obtain ⟨q, p3⟩ := r3
  have o3 := bitsM_ok h3
  rw [h3] at h
  dsimp only at h
  cases h4 : codesM l (4 + q.toNat) 0 p3 (List.replicate 19 0) with
  | error e => rw [h4] at h; cases h
  | ok r4 => ?_
  obtain ⟨z, p4⟩ := r4
  have o4 := codesM_ok (by omega) h4
  rw [h4] at h
  dsimp only at h
  cases h5 : lengthsM l z (257 + x.toNat + (1 + y.toNat)) k p4 [] with
  | error e => rw [h5] at h; cases h
  | ok r5 => ?_
  obtain ⟨all, p5⟩ := r5
  have o5 := lengthsM_ok (okl_new o4.1) o4.2.2 (Nat.zero_le _) h5
  rw [h5] at h
  dsimp only at h
  injection h with h
  injection h with e1 e2
  injection e2 with e2 e3
  subst e1 e2 e3
  rw [List.length_take, List.length_drop]
  omega
def dynamicM (l : List Int) (most : Int) (k p : Nat) (out : List Int) : Except Int (Nat × List Int) :=
  match headerM l k p with
  | .error e => .error e
  | .ok (lit, dist, p1) => if lit.getD 256 0 = 0 then .error 13 else if Hu.newS lit ≠ 0 then .error (Hu.newS lit) else if dist.all (· == 0) then symbolsM l most lit none k p1 out else if Hu.newS dist ≠ 0 then .error (Hu.newS dist) else symbolsM l most lit (some dist) k p1 out
theorem header_ok {w : World} {A : Option Addr} {c : Nat} {l : List Int} (hr : RowOk w A c l) (p : Nat) (hp : p ≤ 8 * l.length) (k : Nat) (hk : 8 * l.length < k) {lit dist : List Int} {p' : Nat} (h : headerM l k p = .ok (lit, dist, p')) :
    Calls Tryd.prog 39 #[.agg #[.slice A l.length c, .int .i64 (NN l)], .int .i64 (p : Int)] w fun e w' => ∃ A1 c1 A2 c2, e = .returned (.tuple #[.slice A1 lit.length c1, .slice A2 dist.length c2, .int .i64 (p' : Int), .int .i64 0]) ∧ RowAt w' A1 lit ∧ RowAt w' A2 dist ∧ Below w.heap.size w w' := by
  have hc := header_told hr p hp k hk
  rw [h] at hc
  exact hc
theorem header_bad {w : World} {A : Option Addr} {c : Nat} {l : List Int} (hr : RowOk w A c l) (p : Nat) (hp : p ≤ 8 * l.length) (k : Nat) (hk : 8 * l.length < k) {er : Int} (h : headerM l k p = .error er) :
    Calls Tryd.prog 39 #[.agg #[.slice A l.length c, .int .i64 (NN l)], .int .i64 (p : Int)] w fun e w' => e = .returned (.tuple #[.slice none 0 0, .slice none 0 0, .int .i64 0, .int .i64 er]) ∧ Below w.heap.size w w' ∧ er ≠ 0 := by
  have hc := header_told hr p hp k hk
  rw [h] at hc
  exact hc
theorem table_bad (A : Option Addr) (c n : Nat) (z : List Int) (w : World) (hn : z.length = n) (hr : (Kd.int .i64).C w A z.length z) (hz : Hu.newS z ≠ 0) :
    Calls Tryd.prog 38 #[.slice A n c] w fun e w' => Gives w.heap.size w w' (Hu.newS z) e := by
  subst hn
  refine (table_calls A c z w hr).mono ?_
  rintro e w' (⟨h0, _⟩ | ⟨_, hg⟩)
  · exact absurd h0 hz
  exact hg
theorem RowOk.on {w w' : World} {A : Option Addr} {c : Nat} {l : List Int} (h : RowOk w A c l) (hb : Below w.heap.size w w') : RowOk w' A c l := ⟨Kd.C_below h.C hb, h.cap, h.byt, h.len⟩
end Go.Proofs.YtgflkkjhckcipaaDoor.Pr

-- YtgflkkjhckcipaaDoorIf22
namespace Go.Proofs.YtgflkkjhckcipaaDoor.Pr
open Go.RowKit Go.Shelf Go.Proofs.YtgflkkjhckcipaaDoorW.PrintWords Go.Proofs.YtgflkkjhckcipaaDoorW.PrintLast Go.Proofs.YtgflkkjhckcipaaDoorW.PrintMore
set_option linter.unusedVariables false
set_option linter.unusedSimpArgs false
section
attribute [local go_sem] Oper.semAt_some
theorem dynamic_told {w0 : World} {A : Option Addr} {c : Nat} {l : List Int} (hr : RowOk w0 A c l) (w : World) (g p : Nat) (v : Value) (out : List Int) (most : Int) (H : RdrAt w0 w g A c l (NN l) (p : Int) v out most) (hp : p ≤ 8 * l.length) (hm0 : (out.length : Int) ≤ most) (hm1 : most ≤ 65536) (k : Nat) (hk : 8 * l.length < k) (hnc : dynamicM l most k p out ≠ .error (-1)) :
    Calls Tryd.prog 29 #[.pointer (some ⟨g, 0, none⟩)] w fun e w' => ToldO w0 w g A c l v most e w' (dynamicM l most k p out) := by
  have HR := Ak hr
  have HX := Ak H
  have AT := Ak H
  have MV := Ak (Moved.of_below g v (Below.refl w.heap.size w))
  have HP := Ak hp
  have huR := Tryd.underlying51
  have huB := Tryd.underlying35
  have HM0 := Ak hm0
  have HM1 := Ak hm1
  have HK := Ak hk
  clear hr H hp hm0 hm1 hk
  obtain ⟨R, hR⟩ : ∃ R, dynamicM l most k p out = R := ⟨_, rfl⟩
  rw [hR] at hnc
  rw [hR]
  have HNC := Ak hnc
  clear hnc
  have hRR := hR
  clear hR
  unfold dynamicM at hRR
  cases h1 : headerM l k p with
  | error er =>
    rw [h1] at hRR
    have HRR := Ak hRR.symm
    have H1 := Ak h1
    clear hRR h1
    go_enter Tryd.func29, Tryd.ntmps29
    go_upto_region 0 with (fail)
    have AT_ := Ak (AT.out.on (below_drew (Below.refl _ _)))
    have MV_ := Ak (MV.out.trans (Moved.of_below g _ (below_drew (Below.refl _ _))))
    clear AT MV
    have AT := AT_
    have MV := MV_
    clear AT_ MV_
    refine start_ (n := 18) (S := fun w' => w'.cell? ⟨g, 0, none⟩ = some (.slice A l.length c) ∧ w'.cell? ⟨g, 1, none⟩ = some (.int .i64 (NN l)) ∧ w'.cell? ⟨g, 2, none⟩ = some (.int .i64 (p : Int))) (ds := []) #[false, false, false, false, false, false, false, false, false, false, false, false, false, false, false, false, false, false] (by kernel_rfl) rfl rfl ⟨(blk_cell AT.out.blk 0).trans rfl, (blk_cell AT.out.blk 1).trans rfl, (blk_cell AT.out.blk 2).trans rfl⟩ (fun hHeld => ?_)
    generalize w.drew = wd at AT MV hHeld ⊢
    refine pq_ (i := 0) (N := some 11) ?_
    refine pq_ (i := 1) (N := some 12) ?_
    refine pq_ (i := 2) (N := some 13) ?_
    refine pq_ (i := 4) (N := some 15) ?_
    refine pq_ (i := 5) (N := some 16) ?_
    refine pq_ (i := 6) (N := some 17) ?_
    refine tq_ (i := 3) (N := some 14) ?_ hHeld
    refine tq_ (i := 7) (N := some 18) ?_ hHeld
    refine one_ (i := 8) (N := some 19) #[true, true, true, true, true, true, true, true, true, false, false, false, false, false, false, false, false, false] rfl rfl (by kernel_rfl) (by decide) (fun K hK => ?_)
    refine goes_ Tryd.func39 (by kernel_rfl) rfl #[.agg #[.slice A l.length c, .int .i64 (NN l)], .int .i64 (p : Int)] (by rfl) rfl rfl (by simp only [List.map_toArray, List.map_cons, List.map_nil]; rfl) ?_
    with_reducible refine (header_bad (HR.out.on AT.out.below) p HP.out k HK.out H1.out).mono ?_
    rintro e w5 ⟨rfl, hb, he0⟩
    refine ⟨_, rfl, ?_⟩
    replace AT := Ak (AT.out.on hb)
    replace MV := Ak (MV.out.trans (Moved.of_below g _ hb))
    have HE0 := Ak he0
    clear he0
    clear hb
    refine hK.out _ _ ⟨(blk_cell AT.out.blk 0).trans rfl, (blk_cell AT.out.blk 1).trans rfl, (blk_cell AT.out.blk 2).trans rfl⟩ (fun hHeld => ?_)
    clear hK K
    refine norm_ (a' := ?_) ?_ ?_
    rotate_left
    · show Act.put _ (some 19) _ = _
      simp only [Act.put, List.setIfInBounds_toArray, List.set_cons_zero, List.set_cons_succ, i64_w, i32_w, u8_w]
      rfl
    refine pq_ (i := 9) (N := some 10) ?_
    refine pq_ (i := 10) (N := some 20) ?_
    refine pq_ (i := 11) (N := some 21) ?_
    refine pq_ (i := 12) (N := some 22) ?_
    refine pq_ (i := 13) (N := some 23) ?_
    refine pq_ (i := 14) (N := some 2) ?_
    refine pq_ (i := 15) (N := some 3) ?_
    refine pq_ (i := 16) (N := some 4) ?_
    refine pq_ (i := 17) (N := some 5) ?_
    refine done_ (by kernel_rfl) ?_
    go_wp2_with (go_at_call 35; refine (must_else er HE0.out _).mono ?_; rintro e w' ⟨pp, rfl, hfa, hb⟩)
    exact ⟨rfl, by rw [HRR.out]; exact ⟨pp, rfl, hfa, (HX.out.between AT.out MV.out.size).trans (hb.mono AT.out.below.size)⟩⟩
  | ok r => ?_
  obtain ⟨lit, dist, p1⟩ := r
  have hho := headerM_ok HP.out h1
  have HH := Ak hho
  rw [h1] at hRR
  dsimp only at hRR
  have H1 := Ak h1
  have HRR := Ak hRR
  clear h1 hho hRR
  go_enter Tryd.func29, Tryd.ntmps29
  go_upto_region 0 with (fail)
  have AT_ := Ak (AT.out.on (below_drew (Below.refl _ _)))
  have MV_ := Ak (MV.out.trans (Moved.of_below g _ (below_drew (Below.refl _ _))))
  clear AT MV
  have AT := AT_
  have MV := MV_
  clear AT_ MV_
  refine start_ (n := 18) (S := fun w' => w'.cell? ⟨g, 0, none⟩ = some (.slice A l.length c) ∧ w'.cell? ⟨g, 1, none⟩ = some (.int .i64 (NN l)) ∧ w'.cell? ⟨g, 2, none⟩ = some (.int .i64 (p : Int))) (ds := []) #[false, false, false, false, false, false, false, false, false, false, false, false, false, false, false, false, false, false] (by kernel_rfl) rfl rfl ⟨(blk_cell AT.out.blk 0).trans rfl, (blk_cell AT.out.blk 1).trans rfl, (blk_cell AT.out.blk 2).trans rfl⟩ (fun hHeld => ?_)
  generalize w.drew = wd at AT MV hHeld ⊢
  refine pq_ (i := 0) (N := some 11) ?_
  refine pq_ (i := 1) (N := some 12) ?_
  refine pq_ (i := 2) (N := some 13) ?_
  refine pq_ (i := 4) (N := some 15) ?_
  refine pq_ (i := 5) (N := some 16) ?_
  refine pq_ (i := 6) (N := some 17) ?_
  refine tq_ (i := 3) (N := some 14) ?_ hHeld
  refine tq_ (i := 7) (N := some 18) ?_ hHeld
  refine one_ (i := 8) (N := some 19) #[true, true, true, true, true, true, true, true, true, false, false, false, false, false, false, false, false, false] rfl rfl (by kernel_rfl) (by decide) (fun K hK => ?_)
  refine goes_ Tryd.func39 (by kernel_rfl) rfl #[.agg #[.slice A l.length c, .int .i64 (NN l)], .int .i64 (p : Int)] (by rfl) rfl rfl (by simp only [List.map_toArray, List.map_cons, List.map_nil]; rfl) ?_
  with_reducible refine (header_ok (HR.out.on AT.out.below) p HP.out k HK.out H1.out).mono ?_
  rintro e w5 ⟨A1, c1, A2, c2, rfl, hl1, hl2, hb⟩
  refine ⟨_, rfl, ?_⟩
  replace AT := Ak (AT.out.on hb)
  replace MV := Ak (MV.out.trans (Moved.of_below g _ hb))
  have HL1 := Ak hl1
  have HL2 := Ak hl2
  clear hl1 hl2
  clear hb
  refine hK.out _ _ ⟨(blk_cell AT.out.blk 0).trans rfl, (blk_cell AT.out.blk 1).trans rfl, (blk_cell AT.out.blk 2).trans rfl⟩ (fun hHeld => ?_)
  clear hK K
  refine norm_ (a' := ?_) ?_ ?_
  rotate_left
  · show Act.put _ (some 19) _ = _
    simp only [Act.put, List.setIfInBounds_toArray, List.set_cons_zero, List.set_cons_succ, i64_w, i32_w, u8_w]
    rfl
  refine pq_ (i := 9) (N := some 10) ?_
  refine pq_ (i := 10) (N := some 20) ?_
  refine pq_ (i := 11) (N := some 21) ?_
  refine pq_ (i := 12) (N := some 22) ?_
  refine pq_ (i := 13) (N := some 23) ?_
  refine pq_ (i := 14) (N := some 2) ?_
  refine pq_ (i := 15) (N := some 3) ?_
  refine pq_ (i := 16) (N := some 4) ?_
  refine pq_ (i := 17) (N := some 5) ?_
  refine done_ (by kernel_rfl) ?_
  have hc2 : w5.cell? ⟨g, 2, none⟩ = some (.int .i64 (p : Int)) := (blk_cell AT.out.blk 2).trans rfl
  have hf2 := blk_frozen AT.out.blk 2
  go_upto_region 3 with (first | (go_at_call 35; refine (must_zero _).mono ?_; rintro e w' ⟨rfl, hw_⟩; subst hw_) )
  clear hc2 hf2
  replace MV := Ak (MV.out.set_ 2 (.int .i64 (p1 : Int)))
  replace HL1 := Ak (HL1.out.set_ AT.out.blk (by decide) (.int .i64 (p1 : Int)) (j := 2))
  replace HL2 := Ak (HL2.out.set_ AT.out.blk (by decide) (.int .i64 (p1 : Int)) (j := 2))
  replace AT := Ak (AT.out.setAt (p1 : Int))
  generalize w'.setCell ⟨g, 2, none⟩ (.int .i64 (p1 : Int)) = w6 at AT MV HL1 HL2 ⊢
  have hh := HH.out
  obtain ⟨ad1, e1, hcell⟩ := Kd.at_int HL1.out.C 256 (by omega) (by omega)
  subst e1
  obtain ⟨x, hx⟩ : ∃ x, x = lit.getD 256 0 := ⟨_, rfl⟩
  replace hcell : w6.cell? ⟨ad1.block, ad1.off + 256, none⟩ = some (.int .i64 x) := (by rw [hx]; exact hcell)
  have q0 := eq_true (show (256 : Int) < (lit.length : Int) by omega)
  have q0n := eq_true (show 256 < lit.length by omega)
  have hRR := HRR.out
  rw [← hx] at hRR
  clear HRR hx hh
  by_cases hx0 : x = 0
  · rw [if_pos hx0] at hRR
    have HRR := Ak hRR.symm
    subst hx0
    clear hRR
    go_wp2_with (go_at_call 30; refine (stop_calls 13 _).mono ?_; rintro e w' ⟨pp, rfl, hfa, hb⟩)
    exact ⟨rfl, by rw [HRR.out]; exact ⟨pp, rfl, hfa, (HX.out.between AT.out MV.out.size).trans (hb.mono AT.out.below.size)⟩⟩
  rw [if_neg hx0] at hRR
  have q1 := eq_false hx0
  have q1b : (x == 0) = false := beq_eq_false_iff_ne.mpr hx0
  clear hx0
  by_cases hz : Hu.newS lit = 0
  rotate_left
  · rw [if_pos hz] at hRR
    have HRR := Ak hRR.symm
    have HZ := Ak hz
    clear hRR hz
    go_wp2_with (go_at_call 38; refine (table_bad (some ad1) c1 lit.length lit _ rfl HL1.out.C HZ.out).mono ?_; rintro e w' ⟨pp, rfl, hfa, hb⟩)
    exact ⟨rfl, by rw [HRR.out]; exact ⟨pp, rfl, hfa, (HX.out.between AT.out MV.out.size).trans (hb.mono AT.out.below.size)⟩⟩
  rw [if_neg (fun h => h hz)] at hRR
  have HZ := Ak hz
  have HRR := Ak hRR
  clear hz hRR
  go_upto_region 8 with (first | (go_at_call 38; refine (table_ok (some ad1) c1 lit.length lit _ rfl HL1.out.C HZ.out).mono ?_; rintro e w7 ⟨gt, rfl, hT, hb⟩; replace C1 := Ak (hT); replace AT := Ak (AT.out.on hb); replace MV := Ak (MV.out.trans (Moved.of_below g _ hb)); replace HL2 := Ak (HL2.out.on hb); clear hT hb) )
  clear hcell q0 q0n q1 q1b
  go_loop [7, 39] (fun v7 v39 => ∃ (i : Nat) (b : Bool), v39 = .int .i64 (i : Int) ∧ v7 = .bool b ∧ Aside0 (i ≤ dist.length) ∧ Aside0 (b = !((dist.take i).all (· == 0)))) (fun _ v39 => dist.length - (intOf v39).toNat)
  case atStart => exact ⟨0, false, rfl, rfl, ⟨Nat.zero_le _⟩, ⟨by simp⟩⟩
  case round =>
    obtain ⟨i, b, rfl, rfl, HI, HBB⟩ := hrel
    by_cases hlt : i < dist.length
    · obtain ⟨ad2, e2, hcell⟩ := Kd.at_int HL2.out.C ((i : Nat) : Int) (by omega) (by omega)
      subst e2
      rw [Int.toNat_natCast, rd_nat] at hcell
      obtain ⟨x2, hx2⟩ : ∃ x2, x2 = dist.getD i 0 := ⟨_, rfl⟩
      rw [← hx2] at hcell
      have HLT := Ak hlt
      have hstep : dist.take (i + 1) = dist.take i ++ [x2] := by rw [List.take_add_one, hx2, List.getD_eq_getElem?_getD, List.getElem?_eq_getElem hlt]; rfl
      have HST := Ak hstep
      have HDL := Ak (show dist.length ≤ 30 from HH.out.2.2.2.1)
      have q0 := eq_true (show (i : Int) < (dist.length : Int) by omega)
      have q1 := eq_true hlt
      have q2 := eq_true (show 0 ≤ (i : Int) by omega)
      clear hlt hx2 hstep
      cases b with
      | true =>
        go_wp2
        go_round
        case rel => exact ⟨i + 1, true, val_next _ (by have := HLT.out; have := HDL.out; omega), rfl, ⟨HLT.out⟩, ⟨by have hb := HBB.out; rw [HST.out, List.all_append, Bool.not_and, ← hb, Bool.true_or]⟩⟩
        case measure => rw [nat_next _ (by have := HLT.out; have := HDL.out; omega)]; simp only [intOf, Int.toNat_natCast]; have := HLT.out; omega
      | false => ?_
      by_cases hx : x2 = 0
      · subst hx
        go_wp2
        go_round
        case rel => exact ⟨i + 1, false, val_next _ (by have := HLT.out; have := HDL.out; omega), rfl, ⟨HLT.out⟩, ⟨by have hb := HBB.out; rw [HST.out, List.all_append, Bool.not_and, ← hb]; rfl⟩⟩
        case measure => rw [nat_next _ (by have := HLT.out; have := HDL.out; omega)]; simp only [intOf, Int.toNat_natCast]; have := HLT.out; omega
      have q3 := eq_false hx
      have q3b : (x2 == 0) = false := beq_eq_false_iff_ne.mpr hx
      have q3c : (x2 != 0) = true := bne_iff_ne.2 hx
      have HXN := Ak q3b
      clear hx
      go_wp2
      go_round
      case rel => exact ⟨i + 1, true, val_next _ (by have := HLT.out; have := HDL.out; omega), rfl, ⟨HLT.out⟩, ⟨by have hb := HBB.out; rw [HST.out, List.all_append, Bool.not_and, ← hb]; simp [HXN.out]⟩⟩
      case measure => rw [nat_next _ (by have := HLT.out; have := HDL.out; omega)]; simp only [intOf, Int.toNat_natCast]; have := HLT.out; omega
    obtain rfl : i = dist.length := by have := HI.out; omega
    have hb := HBB.out
    rw [List.take_length] at hb
    have hRR := HRR.out
    have q0 := eq_false (show ¬ (dist.length : Int) < (dist.length : Int) by omega)
    clear HRR HBB
    cases hd : dist.all (· == 0) with
    | true =>
      rw [hd] at hb hRR
      replace hb : b = false := hb
      subst hb
      rw [if_pos rfl] at hRR
      have HRR := Ak hRR
      clear hRR hd
      cases R with
      | error er =>
        go_wp2_with (go_at_call 37; have hcc := symbols_told HR.out _ g p1 v out most _ lit (.pointer none) none AT.out HH.out.2.2.2.2.2 HM0.out HM1.out C1.out trivial (okl_new HZ.out) (fun z hz => by cases hz) k (by have := HK.out; omega) (by rw [HRR.out]; exact HNC.out); rw [HRR.out] at hcc; refine hcc.mono ?_; clear hcc; rintro e w' ⟨pp, rfl, hfa, hb⟩)
        exact ⟨rfl, pp, rfl, hfa, (HX.out.between AT.out MV.out.size).trans hb⟩
      | ok r => ?_
      obtain ⟨p2, ys⟩ := r
      go_wp2_with (go_at_call 37; have hcc := symbols_told HR.out _ g p1 v out most _ lit (.pointer none) none AT.out HH.out.2.2.2.2.2 HM0.out HM1.out C1.out trivial (okl_new HZ.out) (fun z hz => by cases hz) k (by have := HK.out; omega) (by rw [HRR.out]; exact HNC.out); rw [HRR.out] at hcc; refine hcc.mono ?_; clear hcc; rintro e w' ⟨rfl, hq, v', hat, hm⟩)
      refine bodyPost_ret (results_none rfl _ _ _) rfl ?_
      exact ⟨rfl, hq, v', hat, MV.out.trans hm⟩
    | false => ?_
    rw [hd] at hb hRR
    replace hb : b = true := hb
    subst hb
    rw [if_neg (by decide)] at hRR
    clear hd
    by_cases hz2 : Hu.newS dist = 0
    · rw [if_neg (fun h => h hz2)] at hRR
      have HRR := Ak hRR
      have HZ2 := Ak hz2
      clear hRR hz2
      cases R with
      | error er =>
        go_wp2_with (first | (go_at_call 38; refine (table_ok A2 c2 dist.length dist _ rfl HL2.out.C HZ2.out).mono ?_; rintro e w8 ⟨gt2, rfl, hT, hb⟩; replace C2 := Ak (hT); replace C1 := Ak (C1.out.on hb); replace AT := Ak (AT.out.on hb); replace MV := Ak (MV.out.trans (Moved.of_below g _ hb)); clear hT hb) | (go_at_call 37; have hcc := symbols_told HR.out _ g p1 v out most _ lit _ (some dist) AT.out HH.out.2.2.2.2.2 HM0.out HM1.out C1.out C2.out (okl_new HZ.out) (fun z hz => by injection hz with hz; subst hz; exact okl_new HZ2.out) k (by have := HK.out; omega) (by rw [HRR.out]; exact HNC.out); rw [HRR.out] at hcc; refine hcc.mono ?_; clear hcc; rintro e w' ⟨pp, rfl, hfa, hb⟩) )
        exact ⟨rfl, pp, rfl, hfa, (HX.out.between AT.out MV.out.size).trans hb⟩
      | ok r => ?_
      obtain ⟨p2, ys⟩ := r
      go_wp2_with (first | (go_at_call 38; refine (table_ok A2 c2 dist.length dist _ rfl HL2.out.C HZ2.out).mono ?_; rintro e w8 ⟨gt2, rfl, hT, hb⟩; replace C2 := Ak (hT); replace C1 := Ak (C1.out.on hb); replace AT := Ak (AT.out.on hb); replace MV := Ak (MV.out.trans (Moved.of_below g _ hb)); clear hT hb) | (go_at_call 37; have hcc := symbols_told HR.out _ g p1 v out most _ lit _ (some dist) AT.out HH.out.2.2.2.2.2 HM0.out HM1.out C1.out C2.out (okl_new HZ.out) (fun z hz => by injection hz with hz; subst hz; exact okl_new HZ2.out) k (by have := HK.out; omega) (by rw [HRR.out]; exact HNC.out); rw [HRR.out] at hcc; refine hcc.mono ?_; clear hcc; rintro e w' ⟨rfl, hq, v', hat, hm⟩) )
      go_end0
      exact ⟨rfl, hq, v', hat, MV.out.trans hm⟩
    rw [if_pos hz2] at hRR
    have HRR := Ak hRR.symm
    have HZ2 := Ak hz2
    clear hRR hz2
    go_wp2_with (go_at_call 38; refine (table_bad A2 c2 dist.length dist _ rfl HL2.out.C HZ2.out).mono ?_; rintro e w' ⟨pp, rfl, hfa, hb⟩)
    exact ⟨rfl, by rw [HRR.out]; exact ⟨pp, rfl, hfa, (HX.out.between AT.out MV.out.size).trans (hb.mono AT.out.below.size)⟩⟩
end
end Go.Proofs.YtgflkkjhckcipaaDoor.Pr

-- YtgflkkjhckcipaaDoorIf23
namespace Go.Proofs.YtgflkkjhckcipaaDoor.Pr
open Go.RowKit Go.Shelf Go.Proofs.YtgflkkjhckcipaaDoorW.PrintWords Go.Proofs.YtgflkkjhckcipaaDoorW.PrintLast Go.Proofs.YtgflkkjhckcipaaDoorW.PrintMore
set_option linter.unusedVariables false
set_option linter.unusedSimpArgs false
def typedM (l : List Int) (most : Int) (k p : Nat) (out : List Int) (t : Int) : Except Int (Nat × List Int) := if t = 0 then storedM l most p out else if t = 1 then fixedM l most k p out else if t = 2 then dynamicM l most k p out else .error 13
def blockM (l : List Int) (most : Int) (k p : Nat) (out : List Int) : Except Int (Bool × Nat × List Int) :=
  match bitsM l p 1 with
  | .error e => .error e
  | .ok (b, p1) => match bitsM l p1 2 with
    | .error e => .error e
    | .ok (t, p2) => match typedM l most k p2 out t with
      | .error e => .error e
      | .ok (p3, ys) => .ok (b == 1, p3, ys)
def ToldB (w0 w : World) (g : Nat) (A : Option Addr) (c : Nat) (l : List Int) (v : Value) (most : Int) (e : Ending) (w' : World) : Except Int (Bool × Nat × List Int) → Prop
  | .ok (b, p', out') => e = .returned (.bool b) ∧ p' ≤ 8 * l.length ∧ ∃ v', RdrAt w0 w' g A c l (NN l) ((p' : Nat) : Int) v' out' most ∧ Moved w w' g v v'
  | .error er => Gives w0.heap.size w w' er e
section
attribute [local go_sem] Oper.semAt_some
theorem block_told {w0 : World} {A : Option Addr} {c : Nat} {l : List Int} (hr : RowOk w0 A c l) (w : World) (g p : Nat) (v : Value) (out : List Int) (most : Int) (H : RdrAt w0 w g A c l (NN l) (p : Int) v out most) (hp : p ≤ 8 * l.length) (hm0 : (out.length : Int) ≤ most) (hm1 : most ≤ 65536) (k : Nat) (hk : 8 * l.length < k) (hnc : blockM l most k p out ≠ .error (-1)) :
    Calls Tryd.prog 15 #[.pointer (some ⟨g, 0, none⟩)] w fun e w' => ToldB w0 w g A c l v most e w' (blockM l most k p out) := by
  have HR := Ak hr
  have HX := Ak H
  have AT := Ak H
  have MV := Ak (Moved.of_below g v (Below.refl w.heap.size w))
  have HP := Ak hp
  have huR := Tryd.underlying51
  have huB := Tryd.underlying35
  have HM0 := Ak hm0
  have HM1 := Ak hm1
  have HK := Ak hk
  clear hr H hp hm0 hm1 hk
  obtain ⟨R, hR⟩ : ∃ R, blockM l most k p out = R := ⟨_, rfl⟩
  rw [hR] at hnc
  rw [hR]
  have HNC := Ak hnc
  clear hnc
  have hRR := hR
  clear hR
  unfold blockM at hRR
  have hmf : ∀ (fn : Fn) (first cap : Array Value) (w : World), (Instr.makeFunc fn first cap).run Tryd.prog w = .ok (.func fn first cap) w := fun _ _ _ _ => rfl
  cases h1 : bitsM l p 1 with
  | error er =>
    rw [h1] at hRR
    have HRR := Ak hRR.symm
    have H1 := Ak h1
    clear hRR h1
    go_enter Tryd.func15, Tryd.ntmps15
    go_wp2_with (go_at_call 26; have hcc := rbits_told' HR.out _ g _ 1 1 rfl v out most AT.out HP.out (by decide); rw [H1.out] at hcc; refine hcc.mono ?_; clear hcc; rintro e w' ⟨pp, rfl, hfa, hb⟩)
    exact ⟨rfl, by rw [HRR.out]; exact ⟨pp, rfl, hfa, (HX.out.between AT.out MV.out.size).trans hb⟩⟩
  | ok r1 => ?_
  obtain ⟨b, p1⟩ := r1
  rw [h1] at hRR
  dsimp only at hRR
  have H1 := Ak h1
  clear h1
  cases h2 : bitsM l p1 2 with
  | error er =>
    rw [h2] at hRR
    have HRR := Ak hRR.symm
    have H2 := Ak h2
    clear hRR h2
    go_enter Tryd.func15, Tryd.ntmps15
    go_wp2_with (first | (go_at_call 26; have hcc := rbits_told' HR.out _ g _ 1 1 rfl v out most AT.out HP.out (by decide); rw [H1.out] at hcc; refine hcc.mono ?_; clear hcc; rintro e w' ⟨rfl, hq_, hat_, hm_⟩; have AT_ := Ak hat_; have MV_ := Ak (MV.out.trans hm_); have HP_ := Ak hq_; clear AT MV HP hat_ hm_ hq_; have AT := AT_; have MV := MV_; have HP := HP_; clear AT_ MV_ HP_; clear H1) | (go_at_call 26; have hcc := rbits_told' HR.out _ g _ 2 2 rfl v out most AT.out HP.out (by decide); rw [H2.out] at hcc; refine hcc.mono ?_; clear hcc; rintro e w' ⟨pp, rfl, hfa, hb⟩) )
    exact ⟨rfl, by rw [HRR.out]; exact ⟨pp, rfl, hfa, (HX.out.between AT.out MV.out.size).trans hb⟩⟩
  | ok r2 => ?_
  obtain ⟨t, p2⟩ := r2
  rw [h2] at hRR
  dsimp only at hRR
  have H2 := Ak h2
  clear h2
  by_cases ht0 : t = 0
  · subst ht0
    cases hs : typedM l most k p2 out 0 with
    | error er =>
      rw [hs] at hRR
      dsimp only at hRR
      have HRR := Ak hRR.symm
      have HS := Ak (show storedM l most p2 out = _ from hs)
      clear hRR hs
      go_enter Tryd.func15, Tryd.ntmps15
      go_wp2_with (first | (go_at_call 26; have hcc := rbits_told' HR.out _ g _ 1 1 rfl v out most AT.out HP.out (by decide); rw [H1.out] at hcc; refine hcc.mono ?_; clear hcc; rintro e w' ⟨rfl, hq_, hat_, hm_⟩; have AT_ := Ak hat_; have MV_ := Ak (MV.out.trans hm_); have HP_ := Ak hq_; clear AT MV HP hat_ hm_ hq_; have AT := AT_; have MV := MV_; have HP := HP_; clear AT_ MV_ HP_; clear H1) | (go_at_call 26; have hcc := rbits_told' HR.out _ g _ 2 2 rfl v out most AT.out HP.out (by decide); rw [H2.out] at hcc; refine hcc.mono ?_; clear hcc; rintro e w' ⟨rfl, hq_, hat_, hm_⟩; have AT_ := Ak hat_; have MV_ := Ak (MV.out.trans hm_); have HP_ := Ak hq_; clear AT MV HP hat_ hm_ hq_; have AT := AT_; have MV := MV_; have HP := HP_; clear AT_ MV_ HP_; clear H2) | (go_at_call 27; have hcc := stored_told HR.out _ g p2 v out most AT.out HP.out HM0.out HM1.out; rw [HS.out] at hcc; refine hcc.mono ?_; clear hcc; rintro e w' ⟨pp, rfl, hfa, hb⟩) )
      exact ⟨rfl, by rw [HRR.out]; exact ⟨pp, rfl, hfa, (HX.out.between AT.out MV.out.size).trans hb⟩⟩
    | ok r3 => ?_
    obtain ⟨p3, ys⟩ := r3
    rw [hs] at hRR
    dsimp only at hRR
    have HRR := Ak hRR.symm
    have HS := Ak (show storedM l most p2 out = _ from hs)
    clear hRR hs
    go_enter Tryd.func15, Tryd.ntmps15
    go_wp2_with (first | (go_at_call 26; have hcc := rbits_told' HR.out _ g _ 1 1 rfl v out most AT.out HP.out (by decide); rw [H1.out] at hcc; refine hcc.mono ?_; clear hcc; rintro e w' ⟨rfl, hq_, hat_, hm_⟩; have AT_ := Ak hat_; have MV_ := Ak (MV.out.trans hm_); have HP_ := Ak hq_; clear AT MV HP hat_ hm_ hq_; have AT := AT_; have MV := MV_; have HP := HP_; clear AT_ MV_ HP_; clear H1) | (go_at_call 26; have hcc := rbits_told' HR.out _ g _ 2 2 rfl v out most AT.out HP.out (by decide); rw [H2.out] at hcc; refine hcc.mono ?_; clear hcc; rintro e w' ⟨rfl, hq_, hat_, hm_⟩; have AT_ := Ak hat_; have MV_ := Ak (MV.out.trans hm_); have HP_ := Ak hq_; clear AT MV HP hat_ hm_ hq_; have AT := AT_; have MV := MV_; have HP := HP_; clear AT_ MV_ HP_; clear H2) | (go_at_call 27; have hcc := stored_told HR.out _ g p2 v out most AT.out HP.out HM0.out HM1.out; rw [HS.out] at hcc; refine hcc.mono ?_; clear hcc; rintro e w' ⟨rfl, hq, v', hat, hm⟩) )
    go_ret
    rw [HRR.out]
    exact ⟨rfl, hq, v', hat, MV.out.trans hm⟩
  have q0 := eq_false ht0
  have qb0 : (t == 0) = false := beq_eq_false_iff_ne.mpr ht0
  by_cases ht1 : t = 1
  · subst ht1
    cases hs : typedM l most k p2 out 1 with
    | error er =>
      rw [hs] at hRR
      dsimp only at hRR
      have HRR := Ak hRR.symm
      have HS := Ak (show fixedM l most k p2 out = _ from hs)
      clear hRR hs
      go_enter Tryd.func15, Tryd.ntmps15
      go_wp2_with (first | (go_at_call 26; have hcc := rbits_told' HR.out _ g _ 1 1 rfl v out most AT.out HP.out (by decide); rw [H1.out] at hcc; refine hcc.mono ?_; clear hcc; rintro e w' ⟨rfl, hq_, hat_, hm_⟩; have AT_ := Ak hat_; have MV_ := Ak (MV.out.trans hm_); have HP_ := Ak hq_; clear AT MV HP hat_ hm_ hq_; have AT := AT_; have MV := MV_; have HP := HP_; clear AT_ MV_ HP_; clear H1) | (go_at_call 26; have hcc := rbits_told' HR.out _ g _ 2 2 rfl v out most AT.out HP.out (by decide); rw [H2.out] at hcc; refine hcc.mono ?_; clear hcc; rintro e w' ⟨rfl, hq_, hat_, hm_⟩; have AT_ := Ak hat_; have MV_ := Ak (MV.out.trans hm_); have HP_ := Ak hq_; clear AT MV HP hat_ hm_ hq_; have AT := AT_; have MV := MV_; have HP := HP_; clear AT_ MV_ HP_; clear H2) | (go_at_call 28; have hcc := fixed_told HR.out _ g p2 v out most AT.out HP.out HM0.out HM1.out k (by have := HK.out; omega) (by rw [HS.out]; intro h_; first | (injection h_ with h_; exact HNC.out (by rw [HRR.out, h_])) | cases h_); rw [HS.out] at hcc; refine hcc.mono ?_; clear hcc; rintro e w' ⟨pp, rfl, hfa, hb⟩) )
      exact ⟨rfl, by rw [HRR.out]; exact ⟨pp, rfl, hfa, (HX.out.between AT.out MV.out.size).trans hb⟩⟩
    | ok r3 => ?_
    obtain ⟨p3, ys⟩ := r3
    rw [hs] at hRR
    dsimp only at hRR
    have HRR := Ak hRR.symm
    have HS := Ak (show fixedM l most k p2 out = _ from hs)
    clear hRR hs
    go_enter Tryd.func15, Tryd.ntmps15
    go_wp2_with (first | (go_at_call 26; have hcc := rbits_told' HR.out _ g _ 1 1 rfl v out most AT.out HP.out (by decide); rw [H1.out] at hcc; refine hcc.mono ?_; clear hcc; rintro e w' ⟨rfl, hq_, hat_, hm_⟩; have AT_ := Ak hat_; have MV_ := Ak (MV.out.trans hm_); have HP_ := Ak hq_; clear AT MV HP hat_ hm_ hq_; have AT := AT_; have MV := MV_; have HP := HP_; clear AT_ MV_ HP_; clear H1) | (go_at_call 26; have hcc := rbits_told' HR.out _ g _ 2 2 rfl v out most AT.out HP.out (by decide); rw [H2.out] at hcc; refine hcc.mono ?_; clear hcc; rintro e w' ⟨rfl, hq_, hat_, hm_⟩; have AT_ := Ak hat_; have MV_ := Ak (MV.out.trans hm_); have HP_ := Ak hq_; clear AT MV HP hat_ hm_ hq_; have AT := AT_; have MV := MV_; have HP := HP_; clear AT_ MV_ HP_; clear H2) | (go_at_call 28; have hcc := fixed_told HR.out _ g p2 v out most AT.out HP.out HM0.out HM1.out k (by have := HK.out; omega) (by rw [HS.out]; intro h_; first | (injection h_ with h_; exact HNC.out (by rw [HRR.out, h_])) | cases h_); rw [HS.out] at hcc; refine hcc.mono ?_; clear hcc; rintro e w' ⟨rfl, hq, v', hat, hm⟩) )
    go_ret
    rw [HRR.out]
    exact ⟨rfl, hq, v', hat, MV.out.trans hm⟩
  have q1 := eq_false ht1
  have qb1 : (t == 1) = false := beq_eq_false_iff_ne.mpr ht1
  by_cases ht2 : t = 2
  rotate_left
  · have q2 := eq_false ht2
    have qb2 : (t == 2) = false := beq_eq_false_iff_ne.mpr ht2
    rw [show typedM l most k p2 out t = .error 13 from by unfold typedM; rw [if_neg ht0, if_neg ht1, if_neg ht2]] at hRR
    have HRR := Ak hRR.symm
    clear hRR ht0 ht1 ht2
    go_enter Tryd.func15, Tryd.ntmps15
    go_wp2_with (first | (go_at_call 26; have hcc := rbits_told' HR.out _ g _ 1 1 rfl v out most AT.out HP.out (by decide); rw [H1.out] at hcc; refine hcc.mono ?_; clear hcc; rintro e w' ⟨rfl, hq_, hat_, hm_⟩; have AT_ := Ak hat_; have MV_ := Ak (MV.out.trans hm_); have HP_ := Ak hq_; clear AT MV HP hat_ hm_ hq_; have AT := AT_; have MV := MV_; have HP := HP_; clear AT_ MV_ HP_; clear H1) | (go_at_call 26; have hcc := rbits_told' HR.out _ g _ 2 2 rfl v out most AT.out HP.out (by decide); rw [H2.out] at hcc; refine hcc.mono ?_; clear hcc; rintro e w' ⟨rfl, hq_, hat_, hm_⟩; have AT_ := Ak hat_; have MV_ := Ak (MV.out.trans hm_); have HP_ := Ak hq_; clear AT MV HP hat_ hm_ hq_; have AT := AT_; have MV := MV_; have HP := HP_; clear AT_ MV_ HP_; clear H2) | (go_at_call 30; refine (stop_calls 13 _).mono ?_; rintro e w' ⟨pp, rfl, hfa, hb⟩) )
    exact ⟨rfl, by rw [HRR.out]; exact ⟨pp, rfl, hfa, (HX.out.between AT.out MV.out.size).trans (hb.mono AT.out.below.size)⟩⟩
  subst ht2
  cases hs : typedM l most k p2 out 2 with
  | error er =>
    rw [hs] at hRR
    dsimp only at hRR
    have HRR := Ak hRR.symm
    have HS := Ak (show dynamicM l most k p2 out = _ from hs)
    clear hRR hs
    go_enter Tryd.func15, Tryd.ntmps15
    go_wp2_with (first | (go_at_call 26; have hcc := rbits_told' HR.out _ g _ 1 1 rfl v out most AT.out HP.out (by decide); rw [H1.out] at hcc; refine hcc.mono ?_; clear hcc; rintro e w' ⟨rfl, hq_, hat_, hm_⟩; have AT_ := Ak hat_; have MV_ := Ak (MV.out.trans hm_); have HP_ := Ak hq_; clear AT MV HP hat_ hm_ hq_; have AT := AT_; have MV := MV_; have HP := HP_; clear AT_ MV_ HP_; clear H1) | (go_at_call 26; have hcc := rbits_told' HR.out _ g _ 2 2 rfl v out most AT.out HP.out (by decide); rw [H2.out] at hcc; refine hcc.mono ?_; clear hcc; rintro e w' ⟨rfl, hq_, hat_, hm_⟩; have AT_ := Ak hat_; have MV_ := Ak (MV.out.trans hm_); have HP_ := Ak hq_; clear AT MV HP hat_ hm_ hq_; have AT := AT_; have MV := MV_; have HP := HP_; clear AT_ MV_ HP_; clear H2) | (go_at_call 29; have hcc := dynamic_told HR.out _ g p2 v out most AT.out HP.out HM0.out HM1.out k HK.out (by rw [HS.out]; intro h_; first | (injection h_ with h_; exact HNC.out (by rw [HRR.out, h_])) | cases h_); rw [HS.out] at hcc; refine hcc.mono ?_; clear hcc; rintro e w' ⟨pp, rfl, hfa, hb⟩) )
    exact ⟨rfl, by rw [HRR.out]; exact ⟨pp, rfl, hfa, (HX.out.between AT.out MV.out.size).trans hb⟩⟩
  | ok r3 => ?_
  obtain ⟨p3, ys⟩ := r3
  rw [hs] at hRR
  dsimp only at hRR
  have HRR := Ak hRR.symm
  have HS := Ak (show dynamicM l most k p2 out = _ from hs)
  clear hRR hs
  go_enter Tryd.func15, Tryd.ntmps15
  go_wp2_with (first | (go_at_call 26; have hcc := rbits_told' HR.out _ g _ 1 1 rfl v out most AT.out HP.out (by decide); rw [H1.out] at hcc; refine hcc.mono ?_; clear hcc; rintro e w' ⟨rfl, hq_, hat_, hm_⟩; have AT_ := Ak hat_; have MV_ := Ak (MV.out.trans hm_); have HP_ := Ak hq_; clear AT MV HP hat_ hm_ hq_; have AT := AT_; have MV := MV_; have HP := HP_; clear AT_ MV_ HP_; clear H1) | (go_at_call 26; have hcc := rbits_told' HR.out _ g _ 2 2 rfl v out most AT.out HP.out (by decide); rw [H2.out] at hcc; refine hcc.mono ?_; clear hcc; rintro e w' ⟨rfl, hq_, hat_, hm_⟩; have AT_ := Ak hat_; have MV_ := Ak (MV.out.trans hm_); have HP_ := Ak hq_; clear AT MV HP hat_ hm_ hq_; have AT := AT_; have MV := MV_; have HP := HP_; clear AT_ MV_ HP_; clear H2) | (go_at_call 29; have hcc := dynamic_told HR.out _ g p2 v out most AT.out HP.out HM0.out HM1.out k HK.out (by rw [HS.out]; intro h_; first | (injection h_ with h_; exact HNC.out (by rw [HRR.out, h_])) | cases h_); rw [HS.out] at hcc; refine hcc.mono ?_; clear hcc; rintro e w' ⟨rfl, hq, v', hat, hm⟩) )
  go_ret
  rw [HRR.out]
  exact ⟨rfl, hq, v', hat, MV.out.trans hm⟩
end
end Go.Proofs.YtgflkkjhckcipaaDoor.Pr

