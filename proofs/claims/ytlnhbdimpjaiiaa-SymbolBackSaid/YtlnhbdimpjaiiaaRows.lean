/-
  No cell of these rows narrows 'for every input' (looked for: loops, veiled, ifaces, maps, wideKeys, modest, calm, conditions, laid).
  DERIVED. THE GIVEN ROWS OF THIS SEAT. 7 by the template 'for every input the law returns true; each argument reads behind the call as it read before'; 0 by the template 'total and deterministic' (their statements: YtlnhbdimpjaiiaaTotals.lean).
  GIVEN WITH THE SEED: the statements are not yours to turn. If you find one false, say at which input.
  Laid BY PROGRAM, IN A SANDBOX (cutbox-rows.mjs): the forced cells as the released guide's own fill.sh prints them over the translation 24d9dd501403bd3e… (all of the seat's roots in one cut). By AI agents, Wed Nov 11 2026. No macro, syntax, notation, axiom, sorry.
-/
import Derived.Test.YtlnhbdimpjaiiaaChecked
import GoSem.Claim
import GoSem.ClaimJoined
import GoSem.ClaimMapViews
import Derived.JoinedTies
import Derived.KernelRfl
namespace Go.Proofs.Ytlnhbdimpjaiiaa
/- THE CELL 'sum', in the pinned program and in every row, IS THE sha256 OF THE DUMP (.gsa) THAT YtlnhbdimpjaiiaaProg.lean LOADS. Nothing in Lean hashes anything: it is a label: what it is worth is what the hold of that sum in a sandbox is worth. -/
noncomputable def Try.pinned : Pinned := { name := "ytlnhbdimpjaiiaa", sum := "24d9dd501403bd3e844a80be0ae96403fe21f1f5e3b5c2fe858eb3710cbc6a2a", checked := Try.checked }
namespace Rows
def none {H : Type} : Left H := { results := [], args := [] }

/-- 'valiselaw07.SymbolLens': WHATEVER THE INPUT: true; the input reads as it did. -/
def symbolLensSpec : ChangeSpec := { name := "symbolLens", fn := fun _ => fun
  | [d] => { results := [.lit (.bool true)], args := [d] }
  | _ => none }
def symbolLensRow : OpenClaim := { program := "ytlnhbdimpjaiiaa", sum := "24d9dd501403bd3e844a80be0ae96403fe21f1f5e3b5c2fe858eb3710cbc6a2a", func := "valise/valiselaw07.SymbolLens", spec := "symbolLens", apart := false }
def SymbolLensSaid : Prop := symbolLensRow.holds Try.pinned (OpenSpec.ofChange symbolLensSpec)

/-- ITS FALSE NEIGHBOUR: 'it returns false'. Refute it at one input. -/
def symbolLensWrong : ChangeSpec := { name := "symbolLens", fn := fun _ => fun
  | [d] => { results := [.lit (.bool false)], args := [d] }
  | _ => none }
def SymbolLensWrongFalsely : Prop := symbolLensRow.holds Try.pinned (OpenSpec.ofChange symbolLensWrong)

/-- 'valiselaw07.SymbolDists': WHATEVER THE INPUT: true; the input reads as it did. -/
def symbolDistsSpec : ChangeSpec := { name := "symbolDists", fn := fun _ => fun
  | [d] => { results := [.lit (.bool true)], args := [d] }
  | _ => none }
def symbolDistsRow : OpenClaim := { program := "ytlnhbdimpjaiiaa", sum := "24d9dd501403bd3e844a80be0ae96403fe21f1f5e3b5c2fe858eb3710cbc6a2a", func := "valise/valiselaw07.SymbolDists", spec := "symbolDists", apart := false }
def SymbolDistsSaid : Prop := symbolDistsRow.holds Try.pinned (OpenSpec.ofChange symbolDistsSpec)

/-- ITS FALSE NEIGHBOUR: 'it returns false'. Refute it at one input. -/
def symbolDistsWrong : ChangeSpec := { name := "symbolDists", fn := fun _ => fun
  | [d] => { results := [.lit (.bool false)], args := [d] }
  | _ => none }
def SymbolDistsWrongFalsely : Prop := symbolDistsRow.holds Try.pinned (OpenSpec.ofChange symbolDistsWrong)

/-- 'valiselaw07.SymbolBack': WHATEVER THE INPUT: true; the input reads as it did. -/
def symbolBackSpec : ChangeSpec := { name := "symbolBack", fn := fun _ => fun
  | [d] => { results := [.lit (.bool true)], args := [d] }
  | _ => none }
def symbolBackRow : OpenClaim := { program := "ytlnhbdimpjaiiaa", sum := "24d9dd501403bd3e844a80be0ae96403fe21f1f5e3b5c2fe858eb3710cbc6a2a", func := "valise/valiselaw07.SymbolBack", spec := "symbolBack", apart := false }
def SymbolBackSaid : Prop := symbolBackRow.holds Try.pinned (OpenSpec.ofChange symbolBackSpec)

/-- ITS FALSE NEIGHBOUR: 'it returns false'. Refute it at one input. -/
def symbolBackWrong : ChangeSpec := { name := "symbolBack", fn := fun _ => fun
  | [d] => { results := [.lit (.bool false)], args := [d] }
  | _ => none }
def SymbolBackWrongFalsely : Prop := symbolBackRow.holds Try.pinned (OpenSpec.ofChange symbolBackWrong)

/-- 'valiselaw07.SymbolRises': WHATEVER THE INPUT: true; the input reads as it did. -/
def symbolRisesSpec : ChangeSpec := { name := "symbolRises", fn := fun _ => fun
  | [d1, d2] => { results := [.lit (.bool true)], args := [d1, d2] }
  | _ => none }
def symbolRisesRow : OpenClaim := { program := "ytlnhbdimpjaiiaa", sum := "24d9dd501403bd3e844a80be0ae96403fe21f1f5e3b5c2fe858eb3710cbc6a2a", func := "valise/valiselaw07.SymbolRises", spec := "symbolRises", apart := false }
def SymbolRisesSaid : Prop := symbolRisesRow.holds Try.pinned (OpenSpec.ofChange symbolRisesSpec)

/-- ITS FALSE NEIGHBOUR: 'it returns false'. Refute it at one input. -/
def symbolRisesWrong : ChangeSpec := { name := "symbolRises", fn := fun _ => fun
  | [d1, d2] => { results := [.lit (.bool false)], args := [d1, d2] }
  | _ => none }
def SymbolRisesWrongFalsely : Prop := symbolRisesRow.holds Try.pinned (OpenSpec.ofChange symbolRisesWrong)

/-- 'valiselaw07.SymbolOfLens': WHATEVER THE INPUT: true; the input reads as it did. -/
def symbolOfLensSpec : ChangeSpec := { name := "symbolOfLens", fn := fun _ => fun
  | [d1, d2] => { results := [.lit (.bool true)], args := [d1, d2] }
  | _ => none }
def symbolOfLensRow : OpenClaim := { program := "ytlnhbdimpjaiiaa", sum := "24d9dd501403bd3e844a80be0ae96403fe21f1f5e3b5c2fe858eb3710cbc6a2a", func := "valise/valiselaw07.SymbolOfLens", spec := "symbolOfLens", apart := false }
def SymbolOfLensSaid : Prop := symbolOfLensRow.holds Try.pinned (OpenSpec.ofChange symbolOfLensSpec)

/-- ITS FALSE NEIGHBOUR: 'it returns false'. Refute it at one input. -/
def symbolOfLensWrong : ChangeSpec := { name := "symbolOfLens", fn := fun _ => fun
  | [d1, d2] => { results := [.lit (.bool false)], args := [d1, d2] }
  | _ => none }
def SymbolOfLensWrongFalsely : Prop := symbolOfLensRow.holds Try.pinned (OpenSpec.ofChange symbolOfLensWrong)

/-- 'valiselaw07.SymbolOfDists': WHATEVER THE INPUT: true; the input reads as it did. -/
def symbolOfDistsSpec : ChangeSpec := { name := "symbolOfDists", fn := fun _ => fun
  | [d1, d2] => { results := [.lit (.bool true)], args := [d1, d2] }
  | _ => none }
def symbolOfDistsRow : OpenClaim := { program := "ytlnhbdimpjaiiaa", sum := "24d9dd501403bd3e844a80be0ae96403fe21f1f5e3b5c2fe858eb3710cbc6a2a", func := "valise/valiselaw07.SymbolOfDists", spec := "symbolOfDists", apart := false }
def SymbolOfDistsSaid : Prop := symbolOfDistsRow.holds Try.pinned (OpenSpec.ofChange symbolOfDistsSpec)

/-- ITS FALSE NEIGHBOUR: 'it returns false'. Refute it at one input. -/
def symbolOfDistsWrong : ChangeSpec := { name := "symbolOfDists", fn := fun _ => fun
  | [d1, d2] => { results := [.lit (.bool false)], args := [d1, d2] }
  | _ => none }
def SymbolOfDistsWrongFalsely : Prop := symbolOfDistsRow.holds Try.pinned (OpenSpec.ofChange symbolOfDistsWrong)

/-- 'valiselaw07.SymbolNumbers': WHATEVER THE INPUT: true; the input reads as it did. -/
def symbolNumbersSpec : ChangeSpec := { name := "symbolNumbers", fn := fun _ => fun
  | [d1, d2] => { results := [.lit (.bool true)], args := [d1, d2] }
  | _ => none }
def symbolNumbersRow : OpenClaim := { program := "ytlnhbdimpjaiiaa", sum := "24d9dd501403bd3e844a80be0ae96403fe21f1f5e3b5c2fe858eb3710cbc6a2a", func := "valise/valiselaw07.SymbolNumbers", spec := "symbolNumbers", apart := false }
def SymbolNumbersSaid : Prop := symbolNumbersRow.holds Try.pinned (OpenSpec.ofChange symbolNumbersSpec)

/-- ITS FALSE NEIGHBOUR: 'it returns false'. Refute it at one input. -/
def symbolNumbersWrong : ChangeSpec := { name := "symbolNumbers", fn := fun _ => fun
  | [d1, d2] => { results := [.lit (.bool false)], args := [d1, d2] }
  | _ => none }
def SymbolNumbersWrongFalsely : Prop := symbolNumbersRow.holds Try.pinned (OpenSpec.ofChange symbolNumbersWrong)

/- THE SECOND FORM. 'bulk': how many values and letters a reading holds, each counted each time it is reached (what is shared counts as often as it is met; a slice's spare places count too). A statement '..UptoSaid' is the law's where the arguments, and the package variables that the reading takes, are together of bulk at most 1048576: NARROWER than '..Said'. Prove '..Said' where nothing that the law and all that it calls make is longer than what came in: it says more and counts as full. Else prove '..UptoSaid'. A law counts once. -/
mutual
def uptoBulk {H : Type} : DataW H → Nat
  | .lit (.string bytes) => bytes.length + 1
  | .lit _ => 1
  | .nil => 1
  | .ptr d => uptoBulk d + 1
  | .slice elems spare => uptoBulkAll elems + uptoBulkAll spare + 1
  | .agg parts => uptoBulkAll parts + 1
  | .iface _ d => uptoBulk d + 1
  | .map entries => uptoBulkEntries entries + 1
  | .held _ => 1
def uptoBulkAll {H : Type} : List (DataW H) → Nat
  | [] => 0
  | d :: r => uptoBulk d + uptoBulkAll r
def uptoBulkEntries {H : Type} : List (Lit × DataW H) → Nat
  | [] => 0
  | x :: r => uptoBulkEntry x + uptoBulkEntries r
def uptoBulkEntry {H : Type} : Lit × DataW H → Nat
  | (.string bytes, d) => bytes.length + uptoBulk d + 1
  | (_, d) => uptoBulk d + 1
 end
def uptoSmall : (H : Type) → List (DataW H) → Bool := fun _ ds => decide (uptoBulkAll ds ≤ 1048576)
def OpenSpec.upto (s : _root_.Go.ChangeSpec) : _root_.Go.OpenSpec := { _root_.Go.OpenSpec.ofChange s with cond := some uptoSmall }

/-- 'valiselaw07.SymbolLens', WHERE WHAT IT READS IS OF BULK AT MOST 1048576: true; the input reads as it did. -/
def symbolLensUptoRow : OpenClaim := { program := "ytlnhbdimpjaiiaa", sum := "24d9dd501403bd3e844a80be0ae96403fe21f1f5e3b5c2fe858eb3710cbc6a2a", func := "valise/valiselaw07.SymbolLens", spec := "symbolLens", apart := false, narrowed := true }
def SymbolLensUptoSaid : Prop := symbolLensUptoRow.holds Try.pinned (OpenSpec.upto symbolLensSpec)

/-- 'valiselaw07.SymbolDists', WHERE WHAT IT READS IS OF BULK AT MOST 1048576: true; the input reads as it did. -/
def symbolDistsUptoRow : OpenClaim := { program := "ytlnhbdimpjaiiaa", sum := "24d9dd501403bd3e844a80be0ae96403fe21f1f5e3b5c2fe858eb3710cbc6a2a", func := "valise/valiselaw07.SymbolDists", spec := "symbolDists", apart := false, narrowed := true }
def SymbolDistsUptoSaid : Prop := symbolDistsUptoRow.holds Try.pinned (OpenSpec.upto symbolDistsSpec)

/-- 'valiselaw07.SymbolBack', WHERE WHAT IT READS IS OF BULK AT MOST 1048576: true; the input reads as it did. -/
def symbolBackUptoRow : OpenClaim := { program := "ytlnhbdimpjaiiaa", sum := "24d9dd501403bd3e844a80be0ae96403fe21f1f5e3b5c2fe858eb3710cbc6a2a", func := "valise/valiselaw07.SymbolBack", spec := "symbolBack", apart := false, narrowed := true }
def SymbolBackUptoSaid : Prop := symbolBackUptoRow.holds Try.pinned (OpenSpec.upto symbolBackSpec)

/-- 'valiselaw07.SymbolRises', WHERE WHAT IT READS IS OF BULK AT MOST 1048576: true; the input reads as it did. -/
def symbolRisesUptoRow : OpenClaim := { program := "ytlnhbdimpjaiiaa", sum := "24d9dd501403bd3e844a80be0ae96403fe21f1f5e3b5c2fe858eb3710cbc6a2a", func := "valise/valiselaw07.SymbolRises", spec := "symbolRises", apart := false, narrowed := true }
def SymbolRisesUptoSaid : Prop := symbolRisesUptoRow.holds Try.pinned (OpenSpec.upto symbolRisesSpec)

/-- 'valiselaw07.SymbolOfLens', WHERE WHAT IT READS IS OF BULK AT MOST 1048576: true; the input reads as it did. -/
def symbolOfLensUptoRow : OpenClaim := { program := "ytlnhbdimpjaiiaa", sum := "24d9dd501403bd3e844a80be0ae96403fe21f1f5e3b5c2fe858eb3710cbc6a2a", func := "valise/valiselaw07.SymbolOfLens", spec := "symbolOfLens", apart := false, narrowed := true }
def SymbolOfLensUptoSaid : Prop := symbolOfLensUptoRow.holds Try.pinned (OpenSpec.upto symbolOfLensSpec)

/-- 'valiselaw07.SymbolOfDists', WHERE WHAT IT READS IS OF BULK AT MOST 1048576: true; the input reads as it did. -/
def symbolOfDistsUptoRow : OpenClaim := { program := "ytlnhbdimpjaiiaa", sum := "24d9dd501403bd3e844a80be0ae96403fe21f1f5e3b5c2fe858eb3710cbc6a2a", func := "valise/valiselaw07.SymbolOfDists", spec := "symbolOfDists", apart := false, narrowed := true }
def SymbolOfDistsUptoSaid : Prop := symbolOfDistsUptoRow.holds Try.pinned (OpenSpec.upto symbolOfDistsSpec)

/-- 'valiselaw07.SymbolNumbers', WHERE WHAT IT READS IS OF BULK AT MOST 1048576: true; the input reads as it did. -/
def symbolNumbersUptoRow : OpenClaim := { program := "ytlnhbdimpjaiiaa", sum := "24d9dd501403bd3e844a80be0ae96403fe21f1f5e3b5c2fe858eb3710cbc6a2a", func := "valise/valiselaw07.SymbolNumbers", spec := "symbolNumbers", apart := false, narrowed := true }
def SymbolNumbersUptoSaid : Prop := symbolNumbersUptoRow.holds Try.pinned (OpenSpec.upto symbolNumbersSpec)

end Rows
end Go.Proofs.Ytlnhbdimpjaiiaa
