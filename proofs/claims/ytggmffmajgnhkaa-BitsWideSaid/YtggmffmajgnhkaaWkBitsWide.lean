/- A number of many bits is its low ones, and then its high ones: laying bits is laying the first ones and then the others. No condition. -/
import Derived.Test.YtggmffmajgnhkaaPr0
import Derived.Test.YtggmffmajgnhkaaPr18
import Derived.Test.YtggmffmajgnhkaaPr25
import Derived.Test.YtggmffmajgnhkaaBt4
namespace Go.Proofs.Ytggmffmajgnhkaa.Pr
open Go.RowKit Go.Proofs.YtggmffmajgnhkaaW.PrintWords Go.Proofs.YtggmffmajgnhkaaW.PrintLast Go.Proofs.YtggmffmajgnhkaaW.PrintMore
set_option linter.unusedVariables false
set_option linter.unusedSimpArgs false
set_option maxRecDepth 100000
theorem i64_bounds {a : Int} (h : (Lit.int .i64 a).wf = true) : -9223372036854775808 ≤ a ∧ a ≤ 9223372036854775807 := by
  have h2 : IntKind.i64.min ≤ a ∧ a ≤ IntKind.i64.max := by simpa [Lit.wf] using h
  have e1 : IntKind.i64.min = -9223372036854775808 := by decide +kernel
  have e2 : IntKind.i64.max = 9223372036854775807 := by decide +kernel
  omega
theorem byt_wf {l : List Int} (h : ∀ x ∈ l, (Lit.int .u8 x).wf = true) : Byt l := fun x hx => by
  have h2 : IntKind.u8.min ≤ x ∧ x ≤ IntKind.u8.max := by simpa [Lit.wf] using h x hx
  have e1 : IntKind.u8.min = 0 := by decide +kernel
  have e2 : IntKind.u8.max = 255 := by decide +kernel
  omega
theorem lives0 : valiselaw01_lives.f 60 = some true := by decide +kernel
theorem lives {k : Nat} (hk : 60 ≤ k) : valiselaw01_lives.f k = some true := at_rounds valiselaw01_lives.mono hk lives0
theorem bitsV_split (v : Int) (i e c : Nat) : bitsV v i (e + c) = bitsV v i e ++ bitsV v (i + e) c := by
  induction e generalizing i with
  | zero => simp [bitsV]
  | succ e ih => rw [show e + 1 + c = (e + c) + 1 by omega, bitsV, bitsV, ih, List.cons_append, show i + 1 + e = i + (e + 1) by omega]
theorem vb_mod (v : Int) : ∀ (e i : Nat), i < e → vb (v % 2 ^ e) i = vb v i := by
  intro e i
  induction i generalizing v e with
  | zero =>
    intro h
    obtain ⟨e, rfl⟩ : ∃ m, e = m + 1 := ⟨e - 1, by omega⟩
    rw [vb_zero, vb_zero, Int.emod_def v (2 ^ (e + 1)), Int.pow_succ, Int.mul_comm (2 ^ e) 2, Int.mul_assoc]
    generalize (2 : Int) ^ e * (v / (2 * 2 ^ e)) = x
    omega
  | succ i ih =>
    intro h
    obtain ⟨e, rfl⟩ : ∃ m, e = m + 1 := ⟨e - 1, by omega⟩
    rw [vb_half, vb_half, ← ih (v / 2) e (by omega)]
    congr 1
    rw [Int.emod_def v (2 ^ (e + 1)), Int.emod_def (v / 2) (2 ^ e), Int.pow_succ, Int.mul_comm (2 ^ e) 2, ← Int.ediv_ediv_of_nonneg (by omega), Int.mul_assoc]
    generalize (2 : Int) ^ e * (v / 2 / 2 ^ e) = x
    omega
theorem vb_div (v : Int) (e i : Nat) : vb (v / 2 ^ e) i = vb v (e + i) := by
  unfold vb
  rw [Int.ediv_ediv_of_nonneg (Int.le_of_lt (pow_pos2 e)), Int.pow_add]
theorem bitsV_mod (v : Int) (e : Nat) : ∀ (c i : Nat), i + c ≤ e → bitsV (v % 2 ^ e) i c = bitsV v i c := by
  intro c
  induction c with
  | zero => intro i _; rfl
  | succ c ih => intro i h; rw [bitsV, bitsV, ih (i + 1) (by omega), vb_mod v e i (by omega)]
theorem bitsV_div (v : Int) (e : Nat) : ∀ (c i : Nat), bitsV (v / 2 ^ e) i c = bitsV v (e + i) c := by
  intro c
  induction c with
  | zero => intro i; rfl
  | succ c ih => intro i; rw [bitsV, bitsV, ih (i + 1), vb_div v e i]; rfl
theorem mask (v : Int) (e : Nat) (he : e ≤ 32) (h0 : 0 ≤ v) (h1 : v ≤ 9223372036854775807) : Go.bits .and .i64 v (wrap64 (shl .i64 1 (e : Int) - 1)) = v % 2 ^ e := by
  have hp := pow_pos2 e
  have hq := pow_le2 he
  have h32 : (2 : Int) ^ 32 = 4294967296 := by decide
  rw [h32] at hq
  rw [shl_eq 1 e (by omega), Int.one_mul, wrapid (x := (2 : Int) ^ e) (by omega) (by omega), wrapid (by omega) (by omega)]
  have hc : (2 : Int) ^ e = ((2 ^ e : Nat) : Int) := by simp
  have hn : 0 < 2 ^ e := Nat.pow_pos (by omega)
  have h := i64andN v.toNat (2 ^ e - 1) (by omega) (by omega)
  rw [show ((v.toNat : Nat) : Int) = v by omega, Nat.and_two_pow_sub_one_eq_mod] at h
  rw [show (2 : Int) ^ e - 1 = ((2 ^ e - 1 : Nat) : Int) by omega, h, hc, Int.natCast_emod, Int.toNat_of_nonneg h0]
theorem put_nat {l : List Int} {m d : Nat} {v : Int} (h : Rgt l m) (hf : fitB v (d : Int) 32 = true) : putS l (m : Int) v (d : Int) = (layA l m (bitsV v 0 d), ((m + d : Nat) : Int), 0) := by
  unfold putS
  rw [okR_nat h, hf]
  simp only [Bool.and_self, if_true, Int.toNat_natCast]
  rw [Int.natCast_add]
theorem put_rgt {l : List Int} {n : Nat} (h : Rgt l n) (v : Int) (c : Nat) : Rgt (layA l n (bitsV v 0 c)) (n + c) := by
  have := layA_rgt h (bitsV_01 v 0 c)
  rwa [bitsV_len] at this
theorem wide_out (k : Nat) (l : List Int) (n v c low : Int) (x : List Int) (y : Int) (b : Bool) (hb : b = true) : valiselaw01_BitsWide.j0 (k + 61) v c low b l n x y = some true := by
  subst hb
  rw [show k + 61 = (k + 60) + 1 by omega]
  simp only [valiselaw01_BitsWide.j0, if_true]
  rw [lives (by omega)]
  rfl
theorem BitsWide.pure (l : List Int) (n v c low : Int) (hl : l.length ≤ 140737488351232) (hb : Byt l) (h0 : -9223372036854775808 ≤ n) (h1 : n ≤ 9223372036854775807) (hv : v ≤ 9223372036854775807) : valiselaw01_BitsWide.f 61 l n v c low = some true := by
  unfold valiselaw01_BitsWide.f
  rw [put_eq (by omega) hb (by omega) h0 h1 hv]
  simp only [Option.bind_some]
  cases hp : (okR l n && fitB v c 32) with
  | false =>
    have : putS l n v c = ([], 0, 2) := by unfold putS; rw [hp]; rfl
    rw [this]
    simp only [show ¬ ((2 : Int) = 0) by omega, if_false]
    exact wide_out 0 l n v c low [] 0 true rfl
  | true =>
    rw [Bool.and_eq_true] at hp
    obtain ⟨hr, hf⟩ := hp
    obtain ⟨f1, f2, f3, f4⟩ := fitB_iff.1 hf
    obtain ⟨r1, r2⟩ := (okR_iff hb).1 hr
    obtain ⟨m, rfl⟩ : ∃ m : Nat, n = (m : Int) := ⟨n.toNat, by omega⟩
    obtain ⟨d, rfl⟩ : ∃ m : Nat, c = (m : Int) := ⟨c.toNat, by omega⟩
    rw [Int.toNat_natCast] at r2 f4
    have hm := r2.2.1
    rw [put_nat r2 hf]
    simp only [if_true]
    by_cases hlow : low < 0
    · rw [if_pos hlow]
      exact wide_out 0 l m v d low _ _ true rfl
    · rw [if_neg hlow]
      by_cases hgt : low > (d : Int)
      · exact wide_out 0 l m v d low _ _ _ (decide_eq_true hgt)
      · rw [decide_eq_false hgt]
        obtain ⟨e, rfl⟩ : ∃ m : Nat, low = (m : Int) := ⟨low.toNat, by omega⟩
        have hp := pow_pos2 e
        have fa : fitB (v % 2 ^ e) (e : Int) 32 = true := fitB_iff.2 ⟨by omega, by omega, Int.emod_nonneg _ (by omega), by rw [Int.toNat_natCast]; exact Int.emod_lt_of_pos _ hp⟩
        have hq : v / 2 ^ e ≤ v := Int.ediv_le_self _ f3
        have fb : fitB (v / 2 ^ e) ((d - e : Nat) : Int) 32 = true := fitB_iff.2 ⟨by omega, by omega, Int.ediv_nonneg f3 (by omega), by
          rw [Int.toNat_natCast]
          refine lt_of_div_zero ?_
          rw [Int.ediv_ediv_of_nonneg (Int.le_of_lt hp), ← Int.pow_add, show e + (d - e) = d by omega]
          exact div_small f3 f4⟩
        have hx := put_rgt r2 (v % 2 ^ e) e
        have hxl := hx.2.1
        have hvb : v % 2 ^ e ≤ 9223372036854775807 := by
          have g1 := Int.emod_lt_of_pos v hp
          have g2 := pow_le2 (show e ≤ 32 by omega)
          have h32 : (2 : Int) ^ 32 = 4294967296 := by decide
          omega
        rw [show (61 : Nat) = 60 + 1 from rfl]
        simp only [valiselaw01_BitsWide.j0, Bool.false_eq_true, if_false]
        rw [if_pos (by omega), mask v e (by omega) f3 hv, put_eq (by omega) hb (by omega) (by omega) (by omega) hvb, put_nat r2 fa]
        simp only [Option.bind_some]
        rw [shr_eq v e (by omega), wrapid (x := (d : Int) - (e : Int)) (by omega) (by omega), show (d : Int) - (e : Int) = ((d - e : Nat) : Int) by omega, put_eq (by omega) hx.1 (by omega) (by omega) (by omega) (by omega), put_nat hx fb]
        simp only [Option.bind_some, if_true]
        have hj : layA (layA l m (bitsV (v % 2 ^ e) 0 e)) (m + e) (bitsV (v / 2 ^ e) 0 (d - e)) = layA l m (bitsV v 0 d) := by
          rw [bitsV_mod v e e 0 (by omega), bitsV_div v e (d - e) 0]
          have ha := layA_app l m (bitsV v 0 e) (bitsV v (0 + e) (d - e))
          rw [← bitsV_split, bitsV_len, show e + (d - e) = d by omega, Nat.zero_add] at ha
          rw [Nat.add_zero, ha]
        rw [hj, show m + e + (d - e) = m + d by omega, same_eq, lives (by omega)]
        simp
theorem BitsWide.walk (A0_0 : Option Addr) (c0_0 : Nat) (l0_0 : List Int) (a0_1 : Int) (a1 : Int) (a2 : Int) (a3 : Int) (w : World) (r0_0 : Kd.C (Kd.int .u8) w A0_0 l0_0.length l0_0) (q0_0 : l0_0.length ≤ c0_0) (y0_0 : l0_0.length * 1 ≤ 140737488351232) (w0_0 : ∀ x ∈ l0_0, (Lit.int .u8 x).wf = true) (w0_1 : (Lit.int .i64 a0_1).wf = true) (w1 : (Lit.int .i64 a1).wf = true) (w2 : (Lit.int .i64 a2).wf = true) (w3 : (Lit.int .i64 a3).wf = true) :
    Calls Try.prog 7 #[.agg #[.slice A0_0 l0_0.length c0_0, .int .i64 a0_1], .int .i64 a1, .int .i64 a2, .int .i64 a3] w fun e w' => e = .returned (.bool true) ∧ Below w.heap.size w w' := by
  obtain ⟨h0, h1⟩ := i64_bounds w0_1
  obtain ⟨h2, h3⟩ := i64_bounds w1
  exact valiselaw01_BitsWide.calls 61 A0_0 c0_0 l0_0 a0_1 a1 a2 a3 true w r0_0 q0_0 (BitsWide.pure l0_0 a0_1 a1 a2 a3 (by omega) (byt_wf w0_0) h0 h1 h3) rfl
end Go.Proofs.Ytggmffmajgnhkaa.Pr
