/- Any rows are filled up to a whole byte and joined as the document says, in memory of their own, or refused: both lay the one row's bits behind the other. Condition: the rows have at most 1,048,576 bytes each. -/
import Derived.Test.YtggmffmajgnhkaaPr0
import Derived.Test.YtggmffmajgnhkaaPr2
import Derived.Test.YtggmffmajgnhkaaPr14
import Derived.Test.YtggmffmajgnhkaaPr15
import Derived.Test.YtggmffmajgnhkaaPr19
import Derived.Test.YtggmffmajgnhkaaPr35
import Derived.Test.YtggmffmajgnhkaaBt4r
namespace Go.Proofs.Ytggmffmajgnhkaa.Pr
open Go.RowKit Go.Proofs.YtggmffmajgnhkaaW.PrintWords Go.Proofs.YtggmffmajgnhkaaW.PrintLast Go.Proofs.YtggmffmajgnhkaaW.PrintMore
set_option linter.unusedVariables false
set_option linter.unusedSimpArgs false
set_option maxRecDepth 100000
theorem i64_bounds {a : Int} (h : (Lit.int .i64 a).wf = true) : -9223372036854775808 ≤ a ∧ a ≤ 9223372036854775807 := by
  have h2 : IntKind.i64.min ≤ a ∧ a ≤ IntKind.i64.max := by simpa [Lit.wf] using h
  have e1 : IntKind.i64.min = -9223372036854775808 := by decide +kernel
  have e2 : IntKind.i64.max = 9223372036854775807 := by decide +kernel
  omega
theorem byt_wf {l : List Int} (h : ∀ x ∈ l, (Lit.int .u8 x).wf = true) : Byt l := fun x hx => by
  have h2 : IntKind.u8.min ≤ x ∧ x ≤ IntKind.u8.max := by simpa [Lit.wf] using h x hx
  have e1 : IntKind.u8.min = 0 := by decide +kernel
  have e2 : IntKind.u8.max = 255 := by decide +kernel
  omega
theorem lives0 : valiselaw01_lives.f 60 = some true := by decide +kernel
theorem lives {k : Nat} (hk : 60 ≤ k) : valiselaw01_lives.f k = some true := at_rounds valiselaw01_lives.mono hk lives0
theorem spoil_l : ∀ (d k i : Nat) (l : List Int) (n : Int), i + d = l.length → d < k → l.length ≤ 9000000000000000000 → ∃ r, valiselaw01_spoil.l0 k (i : Int) l n = some r := by
  intro d
  induction d with
  | zero =>
    intro k i l n hi hk hl
    obtain ⟨k, rfl⟩ : ∃ m, k = m + 1 := ⟨k - 1, by omega⟩
    refine ⟨l, ?_⟩
    simp only [valiselaw01_spoil.l0]
    rw [if_neg (by omega)]
  | succ d ih =>
    intro k i l n hi hk hl
    obtain ⟨k, rfl⟩ : ∃ m, k = m + 1 := ⟨k - 1, by omega⟩
    simp only [valiselaw01_spoil.l0]
    rw [if_pos (by omega), if_pos (by omega), show wrap64 ((i : Int) + 1) = ((i + 1 : Nat) : Int) by rw [wrapid (by omega) (by omega)]; omega]
    exact ih k (i + 1) _ n (by rw [List.length_set]; omega) (by omega) (by rw [List.length_set]; omega)
theorem spoil_some {k : Nat} {l : List Int} (n : Int) (hk : l.length < k) (hl : l.length ≤ 9000000000000000000) : ∃ r, valiselaw01_spoil.f k l n = some r := by
  unfold valiselaw01_spoil.f
  exact spoil_l l.length k 0 l n (by omega) hk hl
theorem own_eq {l : List Int} (n : Int) (hl : l.length + 1 < 140737488355328) : valiselaw01_own.f l n = some (l, n) := by
  unfold valiselaw01_own.f
  rw [if_pos hl]
theorem kept_eq {l : List Int} (n : Int) (hl : l.length < 140737488355328) : valiselaw01_kept.f l n l n = some true := by
  unfold valiselaw01_kept.f
  rw [if_pos ⟨rfl, rfl, hl⟩]
theorem joinS_len (l : List Int) (n : Int) (lm : List Int) (nm : Int) (hb : Byt l) (hbm : Byt lm) : (joinS l n lm nm).1.length ≤ l.length + lm.length + 8 := by
  unfold joinS
  cases hp : (okR l n && okR lm nm) with
  | false => simp
  | true =>
    simp only [if_true]
    rw [Bool.and_eq_true] at hp
    obtain ⟨r1, r2⟩ := (okR_iff hb).1 hp.1
    obtain ⟨s1, s2⟩ := (okR_iff hbm).1 hp.2
    have hx := layA_rgt r2 (bitsL_01 lm 0 nm.toNat)
    rw [bitsL_len] at hx
    have h1 := hx.2.1
    have h2 := r2.2.1
    have h3 := s2.2.1
    omega
theorem alignS_len (l : List Int) (n : Int) : (alignS l n).1.length ≤ l.length := by
  unfold alignS
  cases okR l n <;> simp
theorem BitsJoins.pure (l : List Int) (n : Int) (lm : List Int) (nm : Int) (hl : l.length ≤ 1048576) (hb : Byt l) (h0 : -9223372036854775808 ≤ n) (h1 : n ≤ 9223372036854775807)
    (hlm : lm.length ≤ 1048576) (hbm : Byt lm) (h2 : -9223372036854775808 ≤ nm) (h3 : nm ≤ 9223372036854775807) : valiselaw01_BitsJoins.f (nm.toNat + l.length + lm.length + 201) l n lm nm = some true := by
  have hj := joinS_len l n lm nm hb hbm
  have ha := alignS_len l n
  obtain ⟨r, hr⟩ := spoil_some (k := nm.toNat + l.length + lm.length + 200) (joinS l n lm nm).2.1 (l := (joinS l n lm nm).1) (by omega) (by omega)
  obtain ⟨s, hs⟩ := spoil_some (k := nm.toNat + l.length + lm.length + 200) (alignS l n).2.1 (l := (alignS l n).1) (by omega) (by omega)
  unfold valiselaw01_BitsJoins.f
  rw [own_eq n (by omega), own_eq nm (by omega)]
  simp only [Option.bind_some]
  rw [join_eq (by omega) (by omega) hb hbm (by omega) h0 h1 h2 h3, refJoin_eq (by omega) (by omega) hb hbm (by omega) h0 h1 h2 h3, align_eq (by omega) hb (by omega) h0 h1, refAlign_eq (by omega) hb (by omega) h0 h1]
  simp only [Option.bind_some]
  rw [same_eq, same_eq]
  simp only [Option.bind_some, if_true]
  rw [show ((alignS l n).2.2 == (alignS l n).2.2) = true from beq_self_eq_true _, show nm.toNat + l.length + lm.length + 201 = (nm.toNat + l.length + lm.length + 200) + 1 from rfl]
  simp only [valiselaw01_BitsJoins.j0]
  rw [hr, hs]
  simp only [Option.bind_some, if_true]
  rw [kept_eq n (by omega), kept_eq nm (by omega)]
  simp only [Option.bind_some, if_true]
  rw [lives (by omega)]
  rfl
theorem BitsJoins.walk (A0_0 : Option Addr) (c0_0 : Nat) (l0_0 : List Int) (a0_1 : Int) (A1_0 : Option Addr) (c1_0 : Nat) (l1_0 : List Int) (a1_1 : Int) (w : World) (r0_0 : Kd.C (Kd.int .u8) w A0_0 l0_0.length l0_0) (q0_0 : l0_0.length ≤ c0_0) (y0_0 : l0_0.length * 1 ≤ 1048576) (w0_0 : ∀ x ∈ l0_0, (Lit.int .u8 x).wf = true) (w0_1 : (Lit.int .i64 a0_1).wf = true) (r1_0 : Kd.C (Kd.int .u8) w A1_0 l1_0.length l1_0) (q1_0 : l1_0.length ≤ c1_0) (y1_0 : l1_0.length * 1 ≤ 1048576) (w1_0 : ∀ x ∈ l1_0, (Lit.int .u8 x).wf = true) (w1_1 : (Lit.int .i64 a1_1).wf = true) :
    Calls Try.prog 10 #[.agg #[.slice A0_0 l0_0.length c0_0, .int .i64 a0_1], .agg #[.slice A1_0 l1_0.length c1_0, .int .i64 a1_1]] w fun e w' => e = .returned (.bool true) ∧ Below w.heap.size w w' := by
  obtain ⟨h0, h1⟩ := i64_bounds w0_1
  obtain ⟨h2, h3⟩ := i64_bounds w1_1
  exact valiselaw01_BitsJoins.calls _ A0_0 c0_0 l0_0 a0_1 A1_0 c1_0 l1_0 a1_1 true w r0_0 q0_0 r1_0 q1_0 (BitsJoins.pure l0_0 a0_1 l1_0 a1_1 (by omega) (byt_wf w0_0) h0 h1 (by omega) (byt_wf w1_0) h2 h3) rfl
end Go.Proofs.Ytggmffmajgnhkaa.Pr
