/- A row is the one that its bits make, one laid behind the other. No condition. -/
import Derived.Test.YtggmffmajgnhkaaPr0
import Derived.Test.YtggmffmajgnhkaaPr18
import Derived.Test.YtggmffmajgnhkaaPr27
import Derived.Test.YtggmffmajgnhkaaBt4
namespace Go.Proofs.Ytggmffmajgnhkaa.Pr
open Go.RowKit Go.Proofs.YtggmffmajgnhkaaW.PrintWords Go.Proofs.YtggmffmajgnhkaaW.PrintLast Go.Proofs.YtggmffmajgnhkaaW.PrintMore
set_option linter.unusedVariables false
set_option linter.unusedSimpArgs false
set_option maxRecDepth 100000
theorem i64_bounds {a : Int} (h : (Lit.int .i64 a).wf = true) : -9223372036854775808 ≤ a ∧ a ≤ 9223372036854775807 := by
  have h2 : IntKind.i64.min ≤ a ∧ a ≤ IntKind.i64.max := by simpa [Lit.wf] using h
  have e1 : IntKind.i64.min = -9223372036854775808 := by decide +kernel
  have e2 : IntKind.i64.max = 9223372036854775807 := by decide +kernel
  omega
theorem byt_wf {l : List Int} (h : ∀ x ∈ l, (Lit.int .u8 x).wf = true) : Byt l := fun x hx => by
  have h2 : IntKind.u8.min ≤ x ∧ x ≤ IntKind.u8.max := by simpa [Lit.wf] using h x hx
  have e1 : IntKind.u8.min = 0 := by decide +kernel
  have e2 : IntKind.u8.max = 255 := by decide +kernel
  omega
theorem lives0 : valiselaw01_lives.f 60 = some true := by decide +kernel
theorem lives {k : Nat} (hk : 60 ≤ k) : valiselaw01_lives.f k = some true := at_rounds valiselaw01_lives.mono hk lives0
theorem getV_one (l : List Int) (i : Nat) : getV l i 1 = bat l i := by simp [getV]
theorem rows_l {l : List Int} {m : Nat} (h : Rgt l m) (hl : l.length ≤ 140737488351232) : ∀ (d k i : Nat) {x : List Int}, i + d = m → d + 70 ≤ k → Rgt x i → (∀ j, j < i → bat x j = bat l j) → valiselaw01_BitsRows.l0 k (i : Int) l (m : Int) x (i : Int) = some true := by
  have hm := h.2.1
  intro d
  induction d with
  | zero =>
    intro k i x hi hk hx hb
    obtain ⟨k, rfl⟩ : ∃ m, k = m + 1 := ⟨k - 1, by omega⟩
    have him : i = m := by omega
    subst him
    have hxl : x = l := rgt_ext hx h hb
    subst hxl
    simp only [valiselaw01_BitsRows.l0]
    rw [if_neg (by omega), align_eq (by omega) h.1 (by omega) (by omega) (by omega)]
    simp only [Option.bind_some]
    rw [same_eq]
    simp only [Option.bind_some, if_true]
    unfold alignS
    rw [okR_nat h]
    simp only [if_true]
    rw [of_eq (by omega)]
    simp only [Option.bind_some]
    rw [same_eq, lives (by omega)]
    simp
  | succ d ih =>
    intro k i x hi hk hx hb
    obtain ⟨k, rfl⟩ : ∃ m, k = m + 1 := ⟨k - 1, by omega⟩
    have hxl := hx.2.1
    have hg : getS l (m : Int) (i : Int) 1 = (bat l i, 0) := by
      unfold getS
      rw [okR_nat h, if_pos (by simp only [Bool.true_and, Bool.and_eq_true, decide_eq_true_eq]; omega), if_neg (by omega)]
      simp only [Int.toNat_natCast]
      rw [show (1 : Int).toNat = 1 from rfl, getV_one]
    have h01 := bat_01 l i
    have hp : putS x (i : Int) (bat l i) 1 = (lay x i (bat l i), ((i + 1 : Nat) : Int), 0) := by
      unfold putS
      have hf : fitB (bat l i) 1 32 = true := fitB_iff.2 ⟨by omega, by omega, by omega, by rw [show (1 : Int).toNat = 1 from rfl]; omega⟩
      rw [okR_nat hx, hf]
      simp only [Bool.and_self, if_true, Int.toNat_natCast]
      rw [show (1 : Int).toNat = 1 from rfl, bitsV, bitsV, layA, layA, vb_zero, show bat l i % 2 = bat l i by omega]
      rfl
    simp only [valiselaw01_BitsRows.l0]
    rw [if_pos (by omega), get_eq (by omega) h.1 (by omega) (by omega) (by omega), hg]
    simp only [Option.bind_some]
    rw [put_eq (by omega) hx.1 (by omega) (by omega) (by omega) (by omega), hp]
    simp only [Option.bind_some, if_true]
    rw [show wrap64 ((i : Int) + 1) = ((i + 1 : Nat) : Int) by rw [wrapid (by omega) (by omega)]; omega]
    refine ih k (i + 1) (by omega) (by omega) (lay_rgt hx h01) (fun j hj => ?_)
    rw [lay_bat hx h01]
    by_cases hji : j = i
    · rw [if_pos hji, hji]
    · rw [if_neg hji]
      exact hb j (by omega)
theorem BitsRows.pure (l : List Int) (n : Int) (hl : l.length ≤ 140737488351232) (hb : Byt l) (h0 : -9223372036854775808 ≤ n) (h1 : n ≤ 9223372036854775807) : ∃ k, valiselaw01_BitsRows.f k l n = some true := by
  refine ⟨n.toNat + 100, ?_⟩
  unfold valiselaw01_BitsRows.f
  rw [check_eq (by omega) hb (by omega) h0 h1]
  simp only [Option.bind_some]
  cases hr : okR l n with
  | false =>
    rw [lives (by omega)]
    simp
  | true =>
    obtain ⟨r1, r2⟩ := (okR_iff hb).1 hr
    obtain ⟨m, rfl⟩ : ∃ m : Nat, n = (m : Int) := ⟨n.toNat, by omega⟩
    rw [Int.toNat_natCast] at r2 ⊢
    simp only [if_true]
    exact rows_l r2 hl m (m + 100) 0 (by omega) (by omega) rgt_nil (fun j hj => by omega)
theorem BitsRows.walk (A0_0 : Option Addr) (c0_0 : Nat) (l0_0 : List Int) (a0_1 : Int) (w : World) (r0_0 : Kd.C (Kd.int .u8) w A0_0 l0_0.length l0_0) (q0_0 : l0_0.length ≤ c0_0) (y0_0 : l0_0.length * 1 ≤ 140737488351232) (w0_0 : ∀ x ∈ l0_0, (Lit.int .u8 x).wf = true) (w0_1 : (Lit.int .i64 a0_1).wf = true) :
    Calls Try.prog 8 #[.agg #[.slice A0_0 l0_0.length c0_0, .int .i64 a0_1]] w fun e w' => e = .returned (.bool true) ∧ Below w.heap.size w w' := by
  obtain ⟨h0, h1⟩ := i64_bounds w0_1
  obtain ⟨k, hk⟩ := BitsRows.pure l0_0 a0_1 (by omega) (byt_wf w0_0) h0 h1
  exact valiselaw01_BitsRows.calls k A0_0 c0_0 l0_0 a0_1 true w r0_0 q0_0 hk
end Go.Proofs.Ytggmffmajgnhkaa.Pr
