/- Any number is laid behind any row as the document says, in memory of its own, or refused: both lay the number's bits behind the row. No condition. -/
import Derived.Test.YtggmffmajgnhkaaPr0
import Derived.Test.YtggmffmajgnhkaaPr2
import Derived.Test.YtggmffmajgnhkaaPr14
import Derived.Test.YtggmffmajgnhkaaPr15
import Derived.Test.YtggmffmajgnhkaaPr19
import Derived.Test.YtggmffmajgnhkaaPr20
import Derived.Test.YtggmffmajgnhkaaBt4
import Derived.Test.YtggmffmajgnhkaaBt3r
namespace Go.Proofs.Ytggmffmajgnhkaa.Pr
open Go.RowKit Go.Proofs.YtggmffmajgnhkaaW.PrintWords Go.Proofs.YtggmffmajgnhkaaW.PrintLast Go.Proofs.YtggmffmajgnhkaaW.PrintMore
set_option linter.unusedVariables false
set_option linter.unusedSimpArgs false
set_option maxRecDepth 100000
theorem i64_bounds {a : Int} (h : (Lit.int .i64 a).wf = true) : -9223372036854775808 ≤ a ∧ a ≤ 9223372036854775807 := by
  have h2 : IntKind.i64.min ≤ a ∧ a ≤ IntKind.i64.max := by simpa [Lit.wf] using h
  have e1 : IntKind.i64.min = -9223372036854775808 := by decide +kernel
  have e2 : IntKind.i64.max = 9223372036854775807 := by decide +kernel
  omega
theorem byt_wf {l : List Int} (h : ∀ x ∈ l, (Lit.int .u8 x).wf = true) : Byt l := fun x hx => by
  have h2 : IntKind.u8.min ≤ x ∧ x ≤ IntKind.u8.max := by simpa [Lit.wf] using h x hx
  have e1 : IntKind.u8.min = 0 := by decide +kernel
  have e2 : IntKind.u8.max = 255 := by decide +kernel
  omega
theorem lives0 : valiselaw01_lives.f 60 = some true := by decide +kernel
theorem lives {k : Nat} (hk : 60 ≤ k) : valiselaw01_lives.f k = some true := at_rounds valiselaw01_lives.mono hk lives0
theorem spoil_l : ∀ (d k i : Nat) (l : List Int) (n : Int), i + d = l.length → d < k → l.length ≤ 9000000000000000000 → ∃ r, valiselaw01_spoil.l0 k (i : Int) l n = some r := by
  intro d
  induction d with
  | zero =>
    intro k i l n hi hk hl
    obtain ⟨k, rfl⟩ : ∃ m, k = m + 1 := ⟨k - 1, by omega⟩
    refine ⟨l, ?_⟩
    simp only [valiselaw01_spoil.l0]
    rw [if_neg (by omega)]
  | succ d ih =>
    intro k i l n hi hk hl
    obtain ⟨k, rfl⟩ : ∃ m, k = m + 1 := ⟨k - 1, by omega⟩
    simp only [valiselaw01_spoil.l0]
    rw [if_pos (by omega), if_pos (by omega), show wrap64 ((i : Int) + 1) = ((i + 1 : Nat) : Int) by rw [wrapid (by omega) (by omega)]; omega]
    exact ih k (i + 1) _ n (by rw [List.length_set]; omega) (by omega) (by rw [List.length_set]; omega)
theorem spoil_some {k : Nat} {l : List Int} (n : Int) (hk : l.length < k) (hl : l.length ≤ 9000000000000000000) : ∃ r, valiselaw01_spoil.f k l n = some r := by
  unfold valiselaw01_spoil.f
  exact spoil_l l.length k 0 l n (by omega) hk hl
theorem own_eq {l : List Int} (n : Int) (hl : l.length + 1 < 140737488355328) : valiselaw01_own.f l n = some (l, n) := by
  unfold valiselaw01_own.f
  rw [if_pos hl]
theorem kept_eq {l : List Int} (n : Int) (hl : l.length < 140737488355328) : valiselaw01_kept.f l n l n = some true := by
  unfold valiselaw01_kept.f
  rw [if_pos ⟨rfl, rfl, hl⟩]
theorem putS_len (l : List Int) (n v c : Int) (hb : Byt l) : (putS l n v c).1.length ≤ l.length + 8 := by
  unfold putS
  cases hp : (okR l n && fitB v c 32) with
  | false => simp
  | true =>
    simp only [if_true]
    rw [Bool.and_eq_true] at hp
    obtain ⟨f1, f2, f3, f4⟩ := fitB_iff.1 hp.2
    obtain ⟨r1, r2⟩ := (okR_iff hb).1 hp.1
    have hx := layA_rgt r2 (bitsV_01 v 0 c.toNat)
    rw [bitsV_len] at hx
    have h1 := hx.2.1
    have h2 := r2.2.1
    omega
theorem BitsPuts.pure (l : List Int) (n v c : Int) (hl : l.length ≤ 140737488351232) (hb : Byt l) (h0 : -9223372036854775808 ≤ n) (h1 : n ≤ 9223372036854775807) (hv : v ≤ 9223372036854775807) : valiselaw01_BitsPuts.f (l.length + 100) l n v c = some true := by
  have hlen := putS_len l n v c hb
  obtain ⟨r, hr⟩ := spoil_some (k := l.length + 100) (putS l n v c).2.1 (l := (putS l n v c).1) (by omega) (by omega)
  unfold valiselaw01_BitsPuts.f
  rw [own_eq n (by omega)]
  simp only [Option.bind_some]
  rw [put_eq (by omega) hb (by omega) h0 h1 hv, refPut_eq (by omega) hb (by omega) h0 h1 hv]
  simp only [Option.bind_some]
  rw [same_eq]
  simp only [Option.bind_some, if_true]
  rw [check_eq (by omega) hb (by omega) h0 h1, refCheck_eq hb (by omega) h0 h1]
  simp only [Option.bind_some]
  rw [hr]
  simp only [Option.bind_some, if_true]
  rw [kept_eq n (by omega)]
  simp only [Option.bind_some, if_true]
  rw [lives (by omega)]
  rfl
theorem BitsPuts.walk (A0_0 : Option Addr) (c0_0 : Nat) (l0_0 : List Int) (a0_1 : Int) (a1 : Int) (a2 : Int) (w : World) (r0_0 : Kd.C (Kd.int .u8) w A0_0 l0_0.length l0_0) (q0_0 : l0_0.length ≤ c0_0) (y0_0 : l0_0.length * 1 ≤ 140737488351232) (w0_0 : ∀ x ∈ l0_0, (Lit.int .u8 x).wf = true) (w0_1 : (Lit.int .i64 a0_1).wf = true) (w1 : (Lit.int .i64 a1).wf = true) (w2 : (Lit.int .i64 a2).wf = true) :
    Calls Try.prog 3 #[.agg #[.slice A0_0 l0_0.length c0_0, .int .i64 a0_1], .int .i64 a1, .int .i64 a2] w fun e w' => e = .returned (.bool true) ∧ Below w.heap.size w w' := by
  obtain ⟨h0, h1⟩ := i64_bounds w0_1
  obtain ⟨h2, h3⟩ := i64_bounds w1
  exact valiselaw01_BitsPuts.calls _ A0_0 c0_0 l0_0 a0_1 a1 a2 true w r0_0 q0_0 (BitsPuts.pure l0_0 a0_1 a1 a2 (by omega) (byt_wf w0_0) h0 h1 h3) rfl
end Go.Proofs.Ytggmffmajgnhkaa.Pr
