-- A text by hand (wip/limit).
import Derived.RangeFuncNested
import Derived.RangeFuncBound
import Derived.RangeFuncCalls
import Derived.RangeFuncLeaves
import Derived.RangeFuncBox
import Derived.Shelf.Abstract
import Derived.Shelf.RegionOpen
import Derived.OwnWalkIn
import Derived.TacticsInMore
import Derived.LoopNIn
import Derived.LoopIn
import Derived.Test.YtdgpcjhincgijaaPr0
import Derived.Test.YtdgpcjhincgijaaLm1
namespace Go.Proofs.Ytdgpcjhincgijaa.Pr
open Go.RowKit Go.Shelf Go.Proofs.YtdgpcjhincgijaaW.PrintWords Go.Proofs.YtdgpcjhincgijaaW.PrintLast Go.Proofs.YtdgpcjhincgijaaW.PrintMore
set_option linter.unusedVariables false
set_option linter.unusedSimpArgs false
/-! ### Packs, two at a time -/
def prsL (d : List G44) : Nat → List (G44 × G44)
  | 0 => []
  | k + 1 => prsL d k ++ [(rd_T44 d ((2 * k : Nat) : Int), rd_T44 d ((2 * k + 1 : Nat) : Int))]
theorem prsL_len (d : List G44) : ∀ k, (prsL d k).length = k
  | 0 => rfl
  | k + 1 => by rw [prsL, List.length_append, prsL_len d k]; rfl
theorem rd44_mem {d : List G44} {i : Nat} (h : i < d.length) : rd_T44 d (i : Int) ∈ d := by
  unfold rd_T44
  rw [Int.toNat_natCast, List.getD_eq_getElem?_getD, List.getElem?_eq_getElem h]
  exact List.getElem_mem h
theorem val_two (k : Nat) (h : k < 1000000000) : Value.int .i64 (((2 * k : Nat) : Int) + 2) = Value.int .i64 ((2 * (k + 1) : Nat) : Int) := by
  rw [show ((2 * k : Nat) : Int) + 2 = ((2 * (k + 1) : Nat) : Int) by omega]
theorem mea_two (k len : Nat) (h : 2 * k + 1 < len) (h2 : len ≤ 1048576) : len + 1 - (intOf (Value.int .i64 (((2 * k : Nat) : Int) + 2))).toNat < len + 1 - (intOf (Value.int .i64 ((2 * k : Nat) : Int))).toNat := by
  rw [val_two k (by omega)]
  simp only [intOf, Int.toNat_natCast]
  omega
/-- Some blocks lie as they lay. -/
def KeepB (S : Nat → Prop) (W W' : World) : Prop := ∀ k, S k → k < W.heap.size → W'.heap[k]? = W.heap[k]?
theorem KeepB.cell {S : Nat → Prop} {W W' : World} (h : KeepB S W W') {p : Addr} (hp : S p.block) {v : Value} (hv : W.cell? p = some v) : W'.cell? p = some v := by
  have := h p.block hp (World.block_lt_of_cell? W p hv)
  simpa [World.cell?, this] using hv
theorem KeepB.refl (S : Nat → Prop) (W : World) : KeepB S W W := fun _ _ _ => rfl
theorem KeepB.trans {S : Nat → Prop} {A B C : World} (h : KeepB S A B) (hs : A.heap.size ≤ B.heap.size) (k : KeepB S B C) : KeepB S A C := fun i hi hl => (k i hi (Nat.lt_of_lt_of_le hl hs)).trans (h i hi hl)
def AG (x : G44) : Value := .agg #[.int .i64 x.f0, .slice x.A x.n x.c]
section
attribute [local go_sem] Oper.semAt_some
set_option maxRecDepth 100000 in
set_option maxHeartbeats 4000000 in
theorem prs1_in (F : Fence) (n : Nat) (hF : F.fn 35) (hro : F.round = none) (hn : 1 ≤ n) (hmix : Try.prog.follows .mixedOrders = true) (l Bs : Nat) (A : Option Addr) (len cap : Nat) (d : List G44) (hz : len = d.length) (hreach : len ≤ 1048576) (Kp : World → World → Prop) (hKr : ∀ W, Kp W W) (hKt : ∀ {A B C : World}, Kp A B → Kp B C → Kp A C) (hKd : ∀ W : World, Kp W W.drew) (hKc : ∀ {W W' : World}, Kp W W' → ∀ {p : Addr} {v : Value}, (p.block = Bs ∨ ∃ ad, A = some ad ∧ p.block = ad.block) → W.cell? p = some v → W'.cell? p = some v) (J Jx : List (G44 × G44) → World → Prop)
    (hJd : ∀ pre W, J pre W → J pre W.drew)
    (hY : ∀ pre x W, J pre W → pre.length < len / 2 → (x.1 ∈ d ∧ x.2 ∈ d) → YieldAt F (n - 1) Try.prog l #[AG x.1, AG x.2] W fun e W' =>
      (e = .returned (.bool true) ∧ J (pre ++ [x]) W' ∧ Kp W W') ∨ (e = .returned (.bool false) ∧ Jx (pre ++ [x]) W'))
    (W : World) (hBs : W.cell? ⟨Bs, 0, none⟩ = some (.slice A len cap)) (hc : Kd.C kG W A len d) (h0 : J [] W) :
    CallsIn F n Try.prog 35 #[.func (.yield l) #[] #[], .pointer (some ⟨Bs, 0, none⟩)] W fun e W' => (∃ v, e = .returned v) ∧
      ((∃ ys, ys = prsL d (len / 2) ∧ J ys W') ∨ (∃ pre, (∃ k, k ≤ len / 2 ∧ pre = prsL d k) ∧ Jx pre W')) := by
  subst hz
  have hu44 := Try.underlying44
  refine callsIn_of_wp Try.func35 rfl hF ?_ hro
  simp only [Try.ntmps35, List.size_toArray, List.length_cons, List.length_nil, Nat.reduceAdd, Nat.reduceSub, Array.replicate_succ, Array.replicate_zero, List.push_toArray, List.append_toArray, List.nil_append, List.cons_append]
  gi_wp2
  gi_loopw [3] (fun i wr => ∃ k : Nat, k ≤ d.length / 2 ∧ i = .int .i64 ((2 * k : Nat) : Int) ∧ J (prsL d k) wr ∧ Kp W wr)
    (fun i _ => d.length + 1 - (intOf i).toNat)
  case atStart => exact ⟨0, Nat.zero_le _, rfl, h0, hKr _⟩
  case round =>
    obtain ⟨k, hk, rfl, hJs, hnx⟩ := hrel
    have hcb := hKc hnx (p := ⟨Bs, 0, none⟩) (.inl rfl) hBs
    obtain ⟨i, hi⟩ : ∃ i, 2 * k = i := ⟨_, rfl⟩
    obtain ⟨j, hj⟩ : ∃ j, i + 1 = j := ⟨_, rfl⟩
    have hw : wrap64 ((i : Int) + 1) = (j : Int) := by rw [wrap64_id (by omega) (by omega)]; omega
    have hw2 : IntKind.i64.wrap ((i : Int) + 1) = (j : Int) := (i64_w _).trans hw
    rw [hi]
    by_cases hlt : k < d.length / 2
    · obtain ⟨ad, rfl, hx0, hx1⟩ := at_T44 hc (i : Int) (by omega) (by omega)
      obtain ⟨ad2, e2, hy0, hy1⟩ := at_T44 hc (j : Int) (by omega) (by omega)
      injection e2 with e2
      subst e2
      rw [Int.toNat_natCast] at hx0 hx1 hy0 hy1
      have hbk := fun m => (show (ad.add m).block = Bs ∨ ∃ ad', some ad = some ad' ∧ (ad.add m).block = ad'.block from .inr ⟨ad, rfl, add_block _ _⟩)
      replace hx0 := hKc hnx (p := ad.add (i * 2)) (hbk _) hx0
      replace hx1 := hKc hnx (p := ⟨(ad.add (i * 2)).block, (ad.add (i * 2)).off + 1, none⟩) (hbk _) hx1
      replace hy0 := hKc hnx (p := ad.add (j * 2)) (hbk _) hy0
      replace hy1 := hKc hnx (p := ⟨(ad.add (j * 2)).block, (ad.add (j * 2)).off + 1, none⟩) (hbk _) hy1
      have hts : prsL d (k + 1) = prsL d k ++ [(rd_T44 d (i : Int), rd_T44 d (j : Int))] := by rw [prsL, ← hj, ← hi]
      obtain ⟨x, hx⟩ : ∃ x, rd_T44 d (i : Int) = x := ⟨_, rfl⟩
      obtain ⟨y, hy⟩ : ∃ y, rd_T44 d (j : Int) = y := ⟨_, rfl⟩
      have hmx : x ∈ d := hx ▸ rd44_mem (show i < d.length by omega)
      have hmy : y ∈ d := hy ▸ rd44_mem (show j < d.length by omega)
      rw [hx] at hx0 hx1 hts
      rw [hy] at hy0 hy1 hts
      have q0 := eq_true (show (j : Int) < (d.length : Int) by omega)
      have q1 := eq_true (show (i : Int) < (d.length : Int) by omega)
      have q2 := eq_true (show (0 : Int) ≤ (i : Int) by omega)
      have q3 := eq_true (show (0 : Int) ≤ (j : Int) by omega)
      have q4 := eq_true (show i < d.length by omega)
      have q5 := eq_true (show j < d.length by omega)
      obtain ⟨fn, tmps, assign, body, hyy, hR⟩ := hY _ (x, y) wr.drew (hJd _ _ hJs) (by rw [prsL_len]; exact hlt) ⟨hmx, hmy⟩
      dsimp only [AG] at hyy
      clear hx hy hbk hmx hmy
      replace hcb : wr.drew.cell? ⟨Bs, 0, none⟩ = _ := hcb
      replace hx0 : wr.drew.cell? (ad.add (i * 2)) = _ := hx0
      replace hx1 : wr.drew.cell? ⟨(ad.add (i * 2)).block, (ad.add (i * 2)).off + 1, none⟩ = _ := hx1
      replace hy0 : wr.drew.cell? (ad.add (j * 2)) = _ := hy0
      replace hy1 : wr.drew.cell? ⟨(ad.add (j * 2)).block, (ad.add (j * 2)).off + 1, none⟩ = _ := hy1
      have hcb2 : wr.cell? ⟨Bs, 0, none⟩ = _ := hcb
      have hR2 : RoundIn F (n - 1) Try.prog l fn tmps assign body wr.drew fun e W' => ∃ b, e = .returned (.bool b) ∧ ((b = true ∧ J (prsL d k ++ [(x, y)]) W' ∧ Kp wr.drew W') ∨ (b = false ∧ Jx (prsL d k ++ [(x, y)]) W')) := hR.mono (by
        rintro e W' (⟨rfl, h1, h2⟩ | ⟨rfl, h1⟩)
        · exact ⟨true, rfl, .inl ⟨rfl, h1, h2⟩⟩
        · exact ⟨false, rfl, .inr ⟨rfl, h1⟩⟩)
      clear hR
      gi_wp2
      refine wpIn_region_any hmix ?_
      change wpAnyIn _ _ _ _ _ _ _ _ _ (World.drew _)
      refine wpAnyIn_take (i := 0) (v := ?_) hro rfl (by kernel_rfl) (by kernel_rfl) (by kernel_rfl) (fun _ _ _ h => h) ⟨Or.inl ⟨by rfl, ?_⟩, fun _ => rfl⟩ ?_
      rotate_left
      · intro w
        go_simp
        try with_reducible rfl
      refine wpAnyIn_take (i := 2) (v := ?_) hro rfl (by kernel_rfl) (by kernel_rfl) (by kernel_rfl) (fun _ _ _ h => h) ⟨Or.inl ⟨by rfl, ?_⟩, fun _ => rfl⟩ ?_
      rotate_left
      · intro w
        go_simp
        try with_reducible rfl
      refine wpAnyIn_take (i := 6) (v := ?_) hro rfl (by kernel_rfl) (by kernel_rfl) (by kernel_rfl) (fun _ _ _ h => h) ⟨Or.inl ⟨by rfl, ?_⟩, fun _ => rfl⟩ ?_
      rotate_left
      · intro w
        go_simp
        try with_reducible rfl
      refine wpAnyIn_take (i := 7) (v := ?_) hro rfl (by kernel_rfl) (by kernel_rfl) (by kernel_rfl) (fun _ _ _ h => h) ⟨Or.inl ⟨by rfl, ?_⟩, fun _ => rfl⟩ ?_
      rotate_left
      · intro w
        go_simp
        try with_reducible rfl
      refine wpAnyIn_ready (rs := [1, 5]) (by kernel_rfl) (by simp) ?_
      refine AllReadyIn.cons rfl (fun K hK => ?_) ?_
      · go_simp
        refine hK _ _ ?_; clear hK K
        refine wpAnyIn_take (i := 3) (v := ?_) hro rfl (by kernel_rfl) (by kernel_rfl) (by kernel_rfl) (fun _ _ _ h => h) ⟨Or.inl ⟨by rfl, ?_⟩, fun _ => rfl⟩ ?_
        rotate_left
        · intro w
          go_simp
          try with_reducible rfl
        refine wpAnyIn_ready (rs := [4, 5]) (by kernel_rfl) (by simp) ?_
        refine AllReadyIn.cons rfl (fun K hK => ?_) ?_
        · go_simp
          refine hK _ _ ?_; clear hK K
          refine wpAnyIn_ready (rs := [5]) (by kernel_rfl) (by simp) ?_
          refine AllReadyIn.cons rfl (fun K hK => ?_) ?_
          · go_simp
            refine hK _ _ ?_; clear hK K
            refine wpAnyIn_take (i := 8) (v := ?_) hro rfl (by kernel_rfl) (by kernel_rfl) (by kernel_rfl) (fun _ _ _ h => h) ⟨Or.inl ⟨by rfl, ?_⟩, fun _ => rfl⟩ ?_
            rotate_left
            · intro w
              go_simp
              try with_reducible rfl
            refine wpAnyIn_ready (rs := [9]) (by kernel_rfl) (by simp) ?_
            refine AllReadyIn.cons rfl (fun K hK => ?_) ?_
            · go_simp
              refine hK _ _ ?_; clear hK K
              refine wpAnyIn_ready (rs := [10]) (by kernel_rfl) (by simp) ?_
              refine AllReadyIn.cons rfl (fun K hK => ?_) ?_
              · go_simp
                refine RoundIn.mono hR2 ?_
                rintro e_ W3 ⟨b, rfl, hb3⟩
                refine hK _ _ ?_; clear hK K
                refine wpAnyIn_take (i := 11) (v := ?_) hro rfl (by kernel_rfl) (by kernel_rfl) (by kernel_rfl) (fun _ _ _ h => h) ⟨Or.inl ⟨by rfl, ?_⟩, fun _ => rfl⟩ ?_
                rotate_left
                · intro w
                  go_simp
                  try with_reducible rfl
                refine wpAnyIn_done (by kernel_rfl) ?_ _
                rcases hb3 with ⟨rfl, hJ3, hk3⟩ | ⟨rfl, hJx3⟩
                · gi_wp2
                  go_roundw
                  case rel => exact ⟨k + 1, by omega, by rw [← hi] at *; exact val_two k (by omega), by rw [hts]; exact hJ3, hKt (hKt hnx (hKd wr)) hk3⟩
                  case measure => rw [← hi]; exact mea_two k d.length (by omega) (by omega)
                · gi_wp2
                  refine bodyPost_ret (results_none rfl _ _ _) rfl ?_
                  exact ⟨⟨_, rfl⟩, .inr ⟨_, ⟨k + 1, by omega, hts.symm⟩, hJx3⟩⟩
              exact AllReadyIn.nil
            exact AllReadyIn.nil
          exact AllReadyIn.nil
        refine AllReadyIn.cons rfl (fun K hK => ?_) ?_
        · go_simp
          refine hK _ _ ?_; clear hK K
          refine wpAnyIn_take (i := 8) (v := ?_) hro rfl (by kernel_rfl) (by kernel_rfl) (by kernel_rfl) (fun _ _ _ h => h) ⟨Or.inl ⟨by rfl, ?_⟩, fun _ => rfl⟩ ?_
          rotate_left
          · intro w
            go_simp
            try with_reducible rfl
          refine wpAnyIn_ready (rs := [4, 9]) (by kernel_rfl) (by simp) ?_
          refine AllReadyIn.cons rfl (fun K hK => ?_) ?_
          · go_simp
            refine hK _ _ ?_; clear hK K
            refine wpAnyIn_ready (rs := [9]) (by kernel_rfl) (by simp) ?_
            refine AllReadyIn.cons rfl (fun K hK => ?_) ?_
            · go_simp
              refine hK _ _ ?_; clear hK K
              refine wpAnyIn_ready (rs := [10]) (by kernel_rfl) (by simp) ?_
              refine AllReadyIn.cons rfl (fun K hK => ?_) ?_
              · go_simp
                refine RoundIn.mono hR2 ?_
                rintro e_ W3 ⟨b, rfl, hb3⟩
                refine hK _ _ ?_; clear hK K
                refine wpAnyIn_take (i := 11) (v := ?_) hro rfl (by kernel_rfl) (by kernel_rfl) (by kernel_rfl) (fun _ _ _ h => h) ⟨Or.inl ⟨by rfl, ?_⟩, fun _ => rfl⟩ ?_
                rotate_left
                · intro w
                  go_simp
                  try with_reducible rfl
                refine wpAnyIn_done (by kernel_rfl) ?_ _
                rcases hb3 with ⟨rfl, hJ3, hk3⟩ | ⟨rfl, hJx3⟩
                · gi_wp2
                  go_roundw
                  case rel => exact ⟨k + 1, by omega, by rw [← hi] at *; exact val_two k (by omega), by rw [hts]; exact hJ3, hKt (hKt hnx (hKd wr)) hk3⟩
                  case measure => rw [← hi]; exact mea_two k d.length (by omega) (by omega)
                · gi_wp2
                  refine bodyPost_ret (results_none rfl _ _ _) rfl ?_
                  exact ⟨⟨_, rfl⟩, .inr ⟨_, ⟨k + 1, by omega, hts.symm⟩, hJx3⟩⟩
              exact AllReadyIn.nil
            exact AllReadyIn.nil
          refine AllReadyIn.cons rfl (fun K hK => ?_) ?_
          · go_simp
            refine hK _ _ ?_; clear hK K
            refine wpAnyIn_ready (rs := [4]) (by kernel_rfl) (by simp) ?_
            refine AllReadyIn.cons rfl (fun K hK => ?_) ?_
            · go_simp
              refine hK _ _ ?_; clear hK K
              refine wpAnyIn_ready (rs := [10]) (by kernel_rfl) (by simp) ?_
              refine AllReadyIn.cons rfl (fun K hK => ?_) ?_
              · go_simp
                refine RoundIn.mono hR2 ?_
                rintro e_ W3 ⟨b, rfl, hb3⟩
                refine hK _ _ ?_; clear hK K
                refine wpAnyIn_take (i := 11) (v := ?_) hro rfl (by kernel_rfl) (by kernel_rfl) (by kernel_rfl) (fun _ _ _ h => h) ⟨Or.inl ⟨by rfl, ?_⟩, fun _ => rfl⟩ ?_
                rotate_left
                · intro w
                  go_simp
                  try with_reducible rfl
                refine wpAnyIn_done (by kernel_rfl) ?_ _
                rcases hb3 with ⟨rfl, hJ3, hk3⟩ | ⟨rfl, hJx3⟩
                · gi_wp2
                  go_roundw
                  case rel => exact ⟨k + 1, by omega, by rw [← hi] at *; exact val_two k (by omega), by rw [hts]; exact hJ3, hKt (hKt hnx (hKd wr)) hk3⟩
                  case measure => rw [← hi]; exact mea_two k d.length (by omega) (by omega)
                · gi_wp2
                  refine bodyPost_ret (results_none rfl _ _ _) rfl ?_
                  exact ⟨⟨_, rfl⟩, .inr ⟨_, ⟨k + 1, by omega, hts.symm⟩, hJx3⟩⟩
              exact AllReadyIn.nil
            exact AllReadyIn.nil
          exact AllReadyIn.nil
        exact AllReadyIn.nil
      refine AllReadyIn.cons rfl (fun K hK => ?_) ?_
      · go_simp
        refine hK _ _ ?_; clear hK K
        refine wpAnyIn_take (i := 8) (v := ?_) hro rfl (by kernel_rfl) (by kernel_rfl) (by kernel_rfl) (fun _ _ _ h => h) ⟨Or.inl ⟨by rfl, ?_⟩, fun _ => rfl⟩ ?_
        rotate_left
        · intro w
          go_simp
          try with_reducible rfl
        refine wpAnyIn_ready (rs := [1, 9]) (by kernel_rfl) (by simp) ?_
        refine AllReadyIn.cons rfl (fun K hK => ?_) ?_
        · go_simp
          refine hK _ _ ?_; clear hK K
          refine wpAnyIn_take (i := 3) (v := ?_) hro rfl (by kernel_rfl) (by kernel_rfl) (by kernel_rfl) (fun _ _ _ h => h) ⟨Or.inl ⟨by rfl, ?_⟩, fun _ => rfl⟩ ?_
          rotate_left
          · intro w
            go_simp
            try with_reducible rfl
          refine wpAnyIn_ready (rs := [4, 9]) (by kernel_rfl) (by simp) ?_
          refine AllReadyIn.cons rfl (fun K hK => ?_) ?_
          · go_simp
            refine hK _ _ ?_; clear hK K
            refine wpAnyIn_ready (rs := [9]) (by kernel_rfl) (by simp) ?_
            refine AllReadyIn.cons rfl (fun K hK => ?_) ?_
            · go_simp
              refine hK _ _ ?_; clear hK K
              refine wpAnyIn_ready (rs := [10]) (by kernel_rfl) (by simp) ?_
              refine AllReadyIn.cons rfl (fun K hK => ?_) ?_
              · go_simp
                refine RoundIn.mono hR2 ?_
                rintro e_ W3 ⟨b, rfl, hb3⟩
                refine hK _ _ ?_; clear hK K
                refine wpAnyIn_take (i := 11) (v := ?_) hro rfl (by kernel_rfl) (by kernel_rfl) (by kernel_rfl) (fun _ _ _ h => h) ⟨Or.inl ⟨by rfl, ?_⟩, fun _ => rfl⟩ ?_
                rotate_left
                · intro w
                  go_simp
                  try with_reducible rfl
                refine wpAnyIn_done (by kernel_rfl) ?_ _
                rcases hb3 with ⟨rfl, hJ3, hk3⟩ | ⟨rfl, hJx3⟩
                · gi_wp2
                  go_roundw
                  case rel => exact ⟨k + 1, by omega, by rw [← hi] at *; exact val_two k (by omega), by rw [hts]; exact hJ3, hKt (hKt hnx (hKd wr)) hk3⟩
                  case measure => rw [← hi]; exact mea_two k d.length (by omega) (by omega)
                · gi_wp2
                  refine bodyPost_ret (results_none rfl _ _ _) rfl ?_
                  exact ⟨⟨_, rfl⟩, .inr ⟨_, ⟨k + 1, by omega, hts.symm⟩, hJx3⟩⟩
              exact AllReadyIn.nil
            exact AllReadyIn.nil
          refine AllReadyIn.cons rfl (fun K hK => ?_) ?_
          · go_simp
            refine hK _ _ ?_; clear hK K
            refine wpAnyIn_ready (rs := [4]) (by kernel_rfl) (by simp) ?_
            refine AllReadyIn.cons rfl (fun K hK => ?_) ?_
            · go_simp
              refine hK _ _ ?_; clear hK K
              refine wpAnyIn_ready (rs := [10]) (by kernel_rfl) (by simp) ?_
              refine AllReadyIn.cons rfl (fun K hK => ?_) ?_
              · go_simp
                refine RoundIn.mono hR2 ?_
                rintro e_ W3 ⟨b, rfl, hb3⟩
                refine hK _ _ ?_; clear hK K
                refine wpAnyIn_take (i := 11) (v := ?_) hro rfl (by kernel_rfl) (by kernel_rfl) (by kernel_rfl) (fun _ _ _ h => h) ⟨Or.inl ⟨by rfl, ?_⟩, fun _ => rfl⟩ ?_
                rotate_left
                · intro w
                  go_simp
                  try with_reducible rfl
                refine wpAnyIn_done (by kernel_rfl) ?_ _
                rcases hb3 with ⟨rfl, hJ3, hk3⟩ | ⟨rfl, hJx3⟩
                · gi_wp2
                  go_roundw
                  case rel => exact ⟨k + 1, by omega, by rw [← hi] at *; exact val_two k (by omega), by rw [hts]; exact hJ3, hKt (hKt hnx (hKd wr)) hk3⟩
                  case measure => rw [← hi]; exact mea_two k d.length (by omega) (by omega)
                · gi_wp2
                  refine bodyPost_ret (results_none rfl _ _ _) rfl ?_
                  exact ⟨⟨_, rfl⟩, .inr ⟨_, ⟨k + 1, by omega, hts.symm⟩, hJx3⟩⟩
              exact AllReadyIn.nil
            exact AllReadyIn.nil
          exact AllReadyIn.nil
        refine AllReadyIn.cons rfl (fun K hK => ?_) ?_
        · go_simp
          refine hK _ _ ?_; clear hK K
          refine wpAnyIn_ready (rs := [1]) (by kernel_rfl) (by simp) ?_
          refine AllReadyIn.cons rfl (fun K hK => ?_) ?_
          · go_simp
            refine hK _ _ ?_; clear hK K
            refine wpAnyIn_take (i := 3) (v := ?_) hro rfl (by kernel_rfl) (by kernel_rfl) (by kernel_rfl) (fun _ _ _ h => h) ⟨Or.inl ⟨by rfl, ?_⟩, fun _ => rfl⟩ ?_
            rotate_left
            · intro w
              go_simp
              try with_reducible rfl
            refine wpAnyIn_ready (rs := [4]) (by kernel_rfl) (by simp) ?_
            refine AllReadyIn.cons rfl (fun K hK => ?_) ?_
            · go_simp
              refine hK _ _ ?_; clear hK K
              refine wpAnyIn_ready (rs := [10]) (by kernel_rfl) (by simp) ?_
              refine AllReadyIn.cons rfl (fun K hK => ?_) ?_
              · go_simp
                refine RoundIn.mono hR2 ?_
                rintro e_ W3 ⟨b, rfl, hb3⟩
                refine hK _ _ ?_; clear hK K
                refine wpAnyIn_take (i := 11) (v := ?_) hro rfl (by kernel_rfl) (by kernel_rfl) (by kernel_rfl) (fun _ _ _ h => h) ⟨Or.inl ⟨by rfl, ?_⟩, fun _ => rfl⟩ ?_
                rotate_left
                · intro w
                  go_simp
                  try with_reducible rfl
                refine wpAnyIn_done (by kernel_rfl) ?_ _
                rcases hb3 with ⟨rfl, hJ3, hk3⟩ | ⟨rfl, hJx3⟩
                · gi_wp2
                  go_roundw
                  case rel => exact ⟨k + 1, by omega, by rw [← hi] at *; exact val_two k (by omega), by rw [hts]; exact hJ3, hKt (hKt hnx (hKd wr)) hk3⟩
                  case measure => rw [← hi]; exact mea_two k d.length (by omega) (by omega)
                · gi_wp2
                  refine bodyPost_ret (results_none rfl _ _ _) rfl ?_
                  exact ⟨⟨_, rfl⟩, .inr ⟨_, ⟨k + 1, by omega, hts.symm⟩, hJx3⟩⟩
              exact AllReadyIn.nil
            exact AllReadyIn.nil
          exact AllReadyIn.nil
        exact AllReadyIn.nil
      exact AllReadyIn.nil
    · obtain rfl : k = d.length / 2 := by omega
      have q0 := eq_false (show ¬ (j : Int) < (d.length : Int) by omega)
      gi_wp2
      go_end0
      exact ⟨⟨_, rfl⟩, .inl ⟨_, rfl, hJs⟩⟩
end
abbrev Prs (d : List G44) : Type := {x : G44 × G44 // x.1 ∈ d ∧ x.2 ∈ d}
theorem prs_stops (F : Fence) (n : Nat) (hF : F.fn 35) (hro : F.round = none) (hn : 1 ≤ n) (hmix : Try.prog.follows .mixedOrders = true) (Bs : Nat) (A : Option Addr) (cap : Nat) (d : List G44) (hreach : d.length ≤ 1048576) (w : World) (hBs : Bs < w.heap.size)
    (Kp : World → World → Prop) (hKr : ∀ W, Kp W W) (hKt : ∀ {A B C : World}, Kp A B → Kp B C → Kp A C) (hKd : ∀ W : World, Kp W W.drew) (hKc : ∀ {W W' : World}, Kp W W' → ∀ {p : Addr} {v : Value}, (p.block = Bs ∨ ∃ ad, A = some ad ∧ p.block = ad.block) → W.cell? p = some v → W'.cell? p = some v)
    (hc : w.cell? ⟨Bs, 0, none⟩ = some (.slice A d.length cap)) (hI : Kd.C kG w A d.length d) :
    SeqStopsK F n Try.prog 35 #[.pointer (some ⟨Bs, 0, none⟩)] (fun x : Prs d => #[AG x.1.1, AG x.1.2]) Kp (fun ys => ys.map Subtype.val = prsL d (d.length / 2))
      (fun pre => ∃ k, k ≤ d.length / 2 ∧ pre.map Subtype.val = prsL d k) (d.length / 2) w := fun l J Jx W hW hJa _ hY h0 => by
  refine (prs1_in F n hF hro hn hmix l Bs A d.length cap d rfl hreach Kp hKr hKt hKd hKc (fun pre W => ∃ p : List (Prs d), p.map Subtype.val = pre ∧ J p W) (fun pre W => ∃ p : List (Prs d), p.map Subtype.val = pre ∧ Jx p W) (fun pre W h => by
    obtain ⟨p, e, h⟩ := h
    exact ⟨p, e, hJa p W _ none h ⟨rfl, rfl, rfl, Nat.le_refl _, fun _ _ _ => rfl⟩ (fun r e => by cases e)⟩) ?_ W ((hW.cell (p := ⟨Bs, 0, none⟩) hBs).trans hc) (Kd.C_below hI hW) ⟨[], rfl, h0⟩).mono ?_
  · rintro pre x W1 ⟨p, rfl, hJ⟩ hlt hx
    rw [List.length_map] at hlt
    obtain ⟨fn, tmps, assign, body, hy, hR⟩ := hY p ⟨x, hx⟩ W1 hJ hlt
    refine ⟨fn, tmps, assign, body, hy, hR.mono ?_⟩
    rintro e W3 (⟨rfl, hJ3, hk3⟩ | ⟨rfl, hJx3⟩)
    · exact .inl ⟨rfl, ⟨p ++ [⟨x, hx⟩], by simp, hJ3⟩, hk3⟩
    · exact .inr ⟨rfl, ⟨p ++ [⟨x, hx⟩], by simp, hJx3⟩⟩
  · rintro e W' ⟨hv, ⟨ys, rfl, p, e1, h1⟩ | ⟨pre, ⟨k, hk, rfl⟩, p, e1, h1⟩⟩
    · exact ⟨hv, .inl ⟨p, e1, h1⟩⟩
    · exact ⟨hv, .inr ⟨p, ⟨k, hk, e1⟩, h1⟩⟩
section
attribute [local go_sem] Oper.semAt_some
set_option maxHeartbeats 1000000 in
/-- limit.pairs: the slice is boxed; the function value has caught the box. -/
theorem prs_in (F : Fence) (n : Nat) (hF : F.fn 22) (hro : F.round = none) (a : Option Addr) (len cap : Nat) (w : World) :
    CallsIn F n Try.prog 22 #[.slice a len cap] w fun e w' => e = .returned (.func (.func 35) #[] #[.pointer (some ⟨w.heap.size, 0, none⟩)]) ∧ w' = w.alloc (.cells #[.slice a len cap] 42) := by
  refine callsIn_of_wp Try.func22 rfl hF ?_ hro
  simp only [Try.ntmps22, List.size_toArray, List.length_cons, List.length_nil, Nat.reduceAdd, Nat.reduceSub, Array.replicate_succ, Array.replicate_zero, List.push_toArray, List.append_toArray, List.nil_append, List.cons_append]
  gi_wp2
  go_ret
  exact ⟨rfl, rfl⟩
end
end Go.Proofs.Ytdgpcjhincgijaa.Pr
