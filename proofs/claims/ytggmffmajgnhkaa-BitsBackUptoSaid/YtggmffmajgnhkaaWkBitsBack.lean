/- A number that was put is got again, whatever stands ahead and behind. Condition: the rows have at most 1,048,576 bytes each. -/
import Derived.Test.YtggmffmajgnhkaaPr0
import Derived.Test.YtggmffmajgnhkaaPr18
import Derived.Test.YtggmffmajgnhkaaPr29
import Derived.Test.YtggmffmajgnhkaaBt4
import Derived.Test.YtggmffmajgnhkaaBt5
namespace Go.Proofs.Ytggmffmajgnhkaa.Pr
open Go.RowKit Go.Proofs.YtggmffmajgnhkaaW.PrintWords Go.Proofs.YtggmffmajgnhkaaW.PrintLast Go.Proofs.YtggmffmajgnhkaaW.PrintMore
set_option linter.unusedVariables false
set_option linter.unusedSimpArgs false
set_option maxRecDepth 100000
theorem i64_bounds {a : Int} (h : (Lit.int .i64 a).wf = true) : -9223372036854775808 ≤ a ∧ a ≤ 9223372036854775807 := by
  have h2 : IntKind.i64.min ≤ a ∧ a ≤ IntKind.i64.max := by simpa [Lit.wf] using h
  have e1 : IntKind.i64.min = -9223372036854775808 := by decide +kernel
  have e2 : IntKind.i64.max = 9223372036854775807 := by decide +kernel
  omega
theorem byt_wf {l : List Int} (h : ∀ x ∈ l, (Lit.int .u8 x).wf = true) : Byt l := fun x hx => by
  have h2 : IntKind.u8.min ≤ x ∧ x ≤ IntKind.u8.max := by simpa [Lit.wf] using h x hx
  have e1 : IntKind.u8.min = 0 := by decide +kernel
  have e2 : IntKind.u8.max = 255 := by decide +kernel
  omega
theorem lives0 : valiselaw01_lives.f 60 = some true := by decide +kernel
theorem lives {k : Nat} (hk : 60 ≤ k) : valiselaw01_lives.f k = some true := at_rounds valiselaw01_lives.mono hk lives0
theorem join_rgt {l : List Int} {n : Nat} {lm : List Int} {nm : Nat} (h : Rgt l n) : Rgt (layA l n (bitsL lm 0 nm)) (n + nm) := by
  have := layA_rgt h (bitsL_01 lm 0 nm)
  rwa [bitsL_len] at this
theorem put_rgt {l : List Int} {n : Nat} (h : Rgt l n) (v : Int) (c : Nat) : Rgt (layA l n (bitsV v 0 c)) (n + c) := by
  have := layA_rgt h (bitsV_01 v 0 c)
  rwa [bitsV_len] at this
theorem BitsBack.pure (l : List Int) (n v c : Int) (lm : List Int) (nm : Int) (hl : l.length ≤ 1048576) (hb : Byt l) (h0 : -9223372036854775808 ≤ n) (h1 : n ≤ 9223372036854775807) (hv : v ≤ 9223372036854775807)
    (hlm : lm.length ≤ 1048576) (hbm : Byt lm) (h2 : -9223372036854775808 ≤ nm) (h3 : nm ≤ 9223372036854775807) : ∃ k, valiselaw01_BitsBack.f k l n v c lm nm = some true := by
  refine ⟨nm.toNat + 100, ?_⟩
  unfold valiselaw01_BitsBack.f
  rw [put_eq (by omega) hb (by omega) h0 h1 hv]
  simp only [Option.bind_some]
  cases hp : (okR l n && fitB v c 32) with
  | false =>
    have : putS l n v c = ([], 0, 2) := by unfold putS; rw [hp]; rfl
    rw [this, lives (by omega)]
    simp only [show ¬ ((2 : Int) = 0) by omega, if_false]
    rw [same_eq]
    simp
  | true =>
    rw [Bool.and_eq_true] at hp
    obtain ⟨hr, hf⟩ := hp
    obtain ⟨f1, f2, f3, f4⟩ := fitB_iff.1 hf
    obtain ⟨r1, r2⟩ := (okR_iff hb).1 hr
    obtain ⟨m, rfl⟩ : ∃ m : Nat, n = (m : Int) := ⟨n.toNat, by omega⟩
    obtain ⟨d, rfl⟩ : ∃ m : Nat, c = (m : Int) := ⟨c.toNat, by omega⟩
    rw [Int.toNat_natCast] at r2 f4
    have hm := r2.2.1
    have hx := put_rgt r2 v d
    have hxl := hx.2.1
    have hputS : putS l (m : Int) v (d : Int) = (layA l m (bitsV v 0 d), ((m + d : Nat) : Int), 0) := by
      unfold putS
      rw [hr, hf]
      simp only [Bool.and_self, if_true, Int.toNat_natCast]
      rw [Int.natCast_add]
    rw [hputS]
    simp only [if_true]
    rw [join_eq (by omega) (by omega) hx.1 hbm (by omega) (by omega) (by omega) h2 h3]
    simp only [Option.bind_some]
    unfold joinS
    rw [okR_nat hx]
    cases hrm : okR lm nm with
    | false =>
      simp only [Bool.and_false, Bool.false_eq_true, if_false, show ¬ ((2 : Int) = 0) by omega]
      rw [same_eq, lives (by omega)]
      simp
    | true =>
      obtain ⟨s1, s2⟩ := (okR_iff hbm).1 hrm
      obtain ⟨p, rfl⟩ : ∃ m : Nat, nm = (m : Int) := ⟨nm.toNat, by omega⟩
      rw [Int.toNat_natCast] at s2
      have hm2 := s2.2.1
      simp only [Bool.and_self, if_true, Int.toNat_natCast]
      have hy := join_rgt (lm := lm) (nm := p) hx
      have hyl := hy.2.1
      rw [get_eq (by omega) hy.1 (by omega) (by omega) (by omega)]
      simp only [Option.bind_some]
      have hg : getS (layA (layA l m (bitsV v 0 d)) (m + d) (bitsL lm 0 p)) (((m + d : Nat) : Int) + (p : Int)) (m : Int) (d : Int) = (v, 0) := by
        unfold getS
        rw [← Int.natCast_add, okR_nat hy, if_pos (by simp only [Bool.true_and, Bool.and_eq_true, decide_eq_true_eq]; omega), if_neg (by omega)]
        simp only [Int.toNat_natCast]
        rw [getV_bits (v := v) f3 (fun i hi => ?_), Int.emod_eq_of_lt f3 f4]
        rw [layA_bat hx (bitsL_01 lm 0 p), bitsL_len, if_neg (by omega), layA_bat r2 (bitsV_01 v 0 d), bitsV_len, if_pos (by omega), bitsV_get _ _ _ _ (by omega)]
        congr 1
        omega
      rw [hg, lives (by omega)]
      simp only [Option.bind_some, if_true]
      rw [if_pos (by rw [wrapid (x := (m : Int) + (d : Int)) (by omega) (by omega), wrapid (by omega) (by omega)]; omega)]
theorem BitsBack.walk (A0_0 : Option Addr) (c0_0 : Nat) (l0_0 : List Int) (a0_1 : Int) (a1 : Int) (a2 : Int) (A3_0 : Option Addr) (c3_0 : Nat) (l3_0 : List Int) (a3_1 : Int) (w : World) (r0_0 : Kd.C (Kd.int .u8) w A0_0 l0_0.length l0_0) (q0_0 : l0_0.length ≤ c0_0) (y0_0 : l0_0.length * 1 ≤ 1048576) (w0_0 : ∀ x ∈ l0_0, (Lit.int .u8 x).wf = true) (w0_1 : (Lit.int .i64 a0_1).wf = true) (w1 : (Lit.int .i64 a1).wf = true) (w2 : (Lit.int .i64 a2).wf = true) (r3_0 : Kd.C (Kd.int .u8) w A3_0 l3_0.length l3_0) (q3_0 : l3_0.length ≤ c3_0) (y3_0 : l3_0.length * 1 ≤ 1048576) (w3_0 : ∀ x ∈ l3_0, (Lit.int .u8 x).wf = true) (w3_1 : (Lit.int .i64 a3_1).wf = true) :
    Calls Try.prog 9 #[.agg #[.slice A0_0 l0_0.length c0_0, .int .i64 a0_1], .int .i64 a1, .int .i64 a2, .agg #[.slice A3_0 l3_0.length c3_0, .int .i64 a3_1]] w fun e w' => e = .returned (.bool true) ∧ Below w.heap.size w w' := by
  obtain ⟨h0, h1⟩ := i64_bounds w0_1
  obtain ⟨h2, h3⟩ := i64_bounds w1
  obtain ⟨h4, h5⟩ := i64_bounds w3_1
  obtain ⟨k, hk⟩ := BitsBack.pure l0_0 a0_1 a1 a2 l3_0 a3_1 (by omega) (byt_wf w0_0) h0 h1 h3 (by omega) (byt_wf w3_0) h4 h5
  exact valiselaw01_BitsBack.calls k A0_0 c0_0 l0_0 a0_1 a1 a2 A3_0 c3_0 l3_0 a3_1 true w r0_0 q0_0 r3_0 q3_0 hk
end Go.Proofs.Ytggmffmajgnhkaa.Pr
