/- Of no table nothing is read. No condition. -/
import Derived.Test.YthcndpdfcippiaaPr0
import Derived.Test.YthcndpdfcippiaaPr16
namespace Go.Proofs.Ythcndpdfcippiaa.Pr
open Go.RowKit Go.Proofs.YthcndpdfcippiaaW.PrintWords Go.Proofs.YthcndpdfcippiaaW.PrintLast Go.Proofs.YthcndpdfcippiaaW.PrintMore
set_option linter.unusedVariables false
set_option linter.unusedSimpArgs false
set_option maxRecDepth 100000
set_option maxHeartbeats 4000000 in
theorem HuffNil.walk (A0_0 : Option Addr) (c0_0 : Nat) (l0_0 : List Int) (a0_1 : Int) (a1 : Int) (w : World) (r0_0 : Kd.C (Kd.int .u8) w A0_0 l0_0.length l0_0) (q0_0 : l0_0.length ≤ c0_0) (y0_0 : l0_0.length * 1 ≤ 140737488351232) (w0_0 : ∀ x ∈ l0_0, (Lit.int .u8 x).wf = true) (w0_1 : (Lit.int .i64 a0_1).wf = true) (w1 : (Lit.int .i64 a1).wf = true) :
    Calls Try.prog 9 #[.agg #[.slice A0_0 l0_0.length c0_0, .int .i64 a0_1], .int .i64 a1] w fun e w' => e = .returned (.bool true) ∧ Below w.heap.size w w' := by
  have B0 := Aside0.mk (blk_new w (.cells #[.slice A0_0 l0_0.length c0_0, .int .i64 a0_1] 36 (0, 0)))
  have H0 := Aside0.mk (below_alloc (Below.refl w.heap.size w) (.cells #[.slice A0_0 l0_0.length c0_0, .int .i64 a0_1] 36 (0, 0)))
  go_enter Try.func9, Try.ntmps9
  go_wp2_with (first
    | (go_at_call 23; refine (table_Read.nil A0_0 c0_0 l0_0 a0_1 a1 _).mono ?_; rintro e_ w3 ⟨rfl, hb⟩; have H3 := Aside0.mk (below_then H0.out H0.out.size hb); clear hb)
    | (go_at_call 16; refine (valiselaw04_lives.calls true _ rfl).mono ?_; rintro e_ w4 ⟨rfl, hb⟩; have H4 := Aside0.mk (below_then H3.out H3.out.size hb); clear hb)
    )
  go_ret
  exact ⟨rfl, H4.out⟩
end Go.Proofs.Ythcndpdfcippiaa.Pr
