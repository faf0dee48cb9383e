/-
  No cell of these rows narrows 'for every input' (looked for: loops, veiled, ifaces, maps, wideKeys, modest, calm, conditions, laid).
  DERIVED. THE GIVEN ROWS OF THIS SEAT. 12 by the template 'for every input the law returns true; each argument reads behind the call as it read before'; 0 by the template 'total and deterministic' (their statements: YtlkbdoejeomlmaaTotals.lean).
  GIVEN WITH THE SEED: the statements are not yours to turn. If you find one false, say at which input.
  Laid BY PROGRAM, IN A SANDBOX (cutbox-rows.mjs): the forced cells as the released guide's own fill.sh prints them over the translation e5fdbe2b0e6b27ab… (all of the seat's roots in one cut). By AI agents, Wed Nov 11 2026. No macro, syntax, notation, axiom, sorry.
-/
import Derived.Test.YtlkbdoejeomlmaaChecked
import GoSem.Claim
import GoSem.ClaimJoined
import GoSem.ClaimMapViews
import Derived.JoinedTies
import Derived.KernelRfl
namespace Go.Proofs.Ytlkbdoejeomlmaa
/- THE CELL 'sum', in the pinned program and in every row, IS THE sha256 OF THE DUMP (.gsa) THAT YtlkbdoejeomlmaaProg.lean LOADS. Nothing in Lean hashes anything: it is a label: what it is worth is what the hold of that sum in a sandbox is worth. -/
noncomputable def Try.pinned : Pinned := { name := "ytlkbdoejeomlmaa", sum := "e5fdbe2b0e6b27ab1ff4db9722630999f2c9d5e79a73e2066a9a17ee4a1bc393", checked := Try.checked }
namespace Rows
def none {H : Type} : Left H := { results := [], args := [] }

/-- 'laws.FnExprTexts': WHATEVER THE INPUT: true; the input reads as it did. -/
def fnExprTextsSpec : ChangeSpec := { name := "fnExprTexts", fn := fun _ => fun
  | [d] => { results := [.lit (.bool true)], args := [d] }
  | _ => none }
def fnExprTextsRow : OpenClaim := { program := "ytlkbdoejeomlmaa", sum := "e5fdbe2b0e6b27ab1ff4db9722630999f2c9d5e79a73e2066a9a17ee4a1bc393", func := "loop.example/g00243/laws.FnExprTexts", spec := "fnExprTexts", recurses := true, apart := false }
def FnExprTextsSaid : Prop := fnExprTextsRow.holds Try.pinned (OpenSpec.ofChange fnExprTextsSpec)

/-- ITS FALSE NEIGHBOUR: 'it returns false'. Refute it at one input. -/
def fnExprTextsWrong : ChangeSpec := { name := "fnExprTexts", fn := fun _ => fun
  | [d] => { results := [.lit (.bool false)], args := [d] }
  | _ => none }
def FnExprTextsWrongFalsely : Prop := fnExprTextsRow.holds Try.pinned (OpenSpec.ofChange fnExprTextsWrong)

/-- 'laws.FnExactCircles': WHATEVER THE INPUT: true; the input reads as it did. -/
def fnExactCirclesSpec : ChangeSpec := { name := "fnExactCircles", fn := fun _ => fun
  | [d] => { results := [.lit (.bool true)], args := [d] }
  | _ => none }
def fnExactCirclesRow : OpenClaim := { program := "ytlkbdoejeomlmaa", sum := "e5fdbe2b0e6b27ab1ff4db9722630999f2c9d5e79a73e2066a9a17ee4a1bc393", func := "loop.example/g00243/laws.FnExactCircles", spec := "fnExactCircles", apart := false }
def FnExactCirclesSaid : Prop := fnExactCirclesRow.holds Try.pinned (OpenSpec.ofChange fnExactCirclesSpec)

/-- ITS FALSE NEIGHBOUR: 'it returns false'. Refute it at one input. -/
def fnExactCirclesWrong : ChangeSpec := { name := "fnExactCircles", fn := fun _ => fun
  | [d] => { results := [.lit (.bool false)], args := [d] }
  | _ => none }
def FnExactCirclesWrongFalsely : Prop := fnExactCirclesRow.holds Try.pinned (OpenSpec.ofChange fnExactCirclesWrong)

/-- 'laws.FnExactAmbiguous': WHATEVER THE INPUT: true; the input reads as it did. -/
def fnExactAmbiguousSpec : ChangeSpec := { name := "fnExactAmbiguous", fn := fun _ => fun
  | [d] => { results := [.lit (.bool true)], args := [d] }
  | _ => none }
def fnExactAmbiguousRow : OpenClaim := { program := "ytlkbdoejeomlmaa", sum := "e5fdbe2b0e6b27ab1ff4db9722630999f2c9d5e79a73e2066a9a17ee4a1bc393", func := "loop.example/g00243/laws.FnExactAmbiguous", spec := "fnExactAmbiguous", apart := false }
def FnExactAmbiguousSaid : Prop := fnExactAmbiguousRow.holds Try.pinned (OpenSpec.ofChange fnExactAmbiguousSpec)

/-- ITS FALSE NEIGHBOUR: 'it returns false'. Refute it at one input. -/
def fnExactAmbiguousWrong : ChangeSpec := { name := "fnExactAmbiguous", fn := fun _ => fun
  | [d] => { results := [.lit (.bool false)], args := [d] }
  | _ => none }
def FnExactAmbiguousWrongFalsely : Prop := fnExactAmbiguousRow.holds Try.pinned (OpenSpec.ofChange fnExactAmbiguousWrong)

/-- 'laws.FnExactExprText': WHATEVER THE INPUT: true; the input reads as it did. -/
def fnExactExprTextSpec : ChangeSpec := { name := "fnExactExprText", fn := fun _ => fun
  | [d] => { results := [.lit (.bool true)], args := [d] }
  | _ => none }
def fnExactExprTextRow : OpenClaim := { program := "ytlkbdoejeomlmaa", sum := "e5fdbe2b0e6b27ab1ff4db9722630999f2c9d5e79a73e2066a9a17ee4a1bc393", func := "loop.example/g00243/laws.FnExactExprText", spec := "fnExactExprText", apart := false }
def FnExactExprTextSaid : Prop := fnExactExprTextRow.holds Try.pinned (OpenSpec.ofChange fnExactExprTextSpec)

/-- ITS FALSE NEIGHBOUR: 'it returns false'. Refute it at one input. -/
def fnExactExprTextWrong : ChangeSpec := { name := "fnExactExprText", fn := fun _ => fun
  | [d] => { results := [.lit (.bool false)], args := [d] }
  | _ => none }
def FnExactExprTextWrongFalsely : Prop := fnExactExprTextRow.holds Try.pinned (OpenSpec.ofChange fnExactExprTextWrong)

/-- 'laws.FnParentheses': WHATEVER THE INPUT: true; the input reads as it did. -/
def fnParenthesesSpec : ChangeSpec := { name := "fnParentheses", fn := fun _ => fun
  | [d] => { results := [.lit (.bool true)], args := [d] }
  | _ => none }
def fnParenthesesRow : OpenClaim := { program := "ytlkbdoejeomlmaa", sum := "e5fdbe2b0e6b27ab1ff4db9722630999f2c9d5e79a73e2066a9a17ee4a1bc393", func := "loop.example/g00243/laws.FnParentheses", spec := "fnParentheses", inPlace := ["internal/bytealg.IndexByteString", "internal/bytealg.IndexString"], unfollowed := true, recurses := true, named := ["internal/bytealg.MaxLen"], apart := false }
def FnParenthesesSaid : Prop := fnParenthesesRow.holds Try.pinned (OpenSpec.ofChange fnParenthesesSpec)

/-- ITS FALSE NEIGHBOUR: 'it returns false'. Refute it at one input. -/
def fnParenthesesWrong : ChangeSpec := { name := "fnParentheses", fn := fun _ => fun
  | [d] => { results := [.lit (.bool false)], args := [d] }
  | _ => none }
def FnParenthesesWrongFalsely : Prop := fnParenthesesRow.holds Try.pinned (OpenSpec.ofChange fnParenthesesWrong)

/-- 'laws.FnExactCountForest': WHATEVER THE INPUT: true; the input reads as it did. -/
def fnExactCountForestSpec : ChangeSpec := { name := "fnExactCountForest", fn := fun _ => fun
  | [d1, d2] => { results := [.lit (.bool true)], args := [d1, d2] }
  | _ => none }
def fnExactCountForestRow : OpenClaim := { program := "ytlkbdoejeomlmaa", sum := "e5fdbe2b0e6b27ab1ff4db9722630999f2c9d5e79a73e2066a9a17ee4a1bc393", func := "loop.example/g00243/laws.FnExactCountForest", spec := "fnExactCountForest", apart := false }
def FnExactCountForestSaid : Prop := fnExactCountForestRow.holds Try.pinned (OpenSpec.ofChange fnExactCountForestSpec)

/-- ITS FALSE NEIGHBOUR: 'it returns false'. Refute it at one input. -/
def fnExactCountForestWrong : ChangeSpec := { name := "fnExactCountForest", fn := fun _ => fun
  | [d1, d2] => { results := [.lit (.bool false)], args := [d1, d2] }
  | _ => none }
def FnExactCountForestWrongFalsely : Prop := fnExactCountForestRow.holds Try.pinned (OpenSpec.ofChange fnExactCountForestWrong)

/-- 'laws.FnExactClimb': WHATEVER THE INPUT: true; the input reads as it did. -/
def fnExactClimbSpec : ChangeSpec := { name := "fnExactClimb", fn := fun _ => fun
  | [d1, d2] => { results := [.lit (.bool true)], args := [d1, d2] }
  | _ => none }
def fnExactClimbRow : OpenClaim := { program := "ytlkbdoejeomlmaa", sum := "e5fdbe2b0e6b27ab1ff4db9722630999f2c9d5e79a73e2066a9a17ee4a1bc393", func := "loop.example/g00243/laws.FnExactClimb", spec := "fnExactClimb", inPlace := ["internal/bytealg.IndexByteString", "internal/bytealg.IndexString"], unfollowed := true, recurses := true, named := ["internal/bytealg.MaxLen"], apart := false }
def FnExactClimbSaid : Prop := fnExactClimbRow.holds Try.pinned (OpenSpec.ofChange fnExactClimbSpec)

/-- ITS FALSE NEIGHBOUR: 'it returns false'. Refute it at one input. -/
def fnExactClimbWrong : ChangeSpec := { name := "fnExactClimb", fn := fun _ => fun
  | [d1, d2] => { results := [.lit (.bool false)], args := [d1, d2] }
  | _ => none }
def FnExactClimbWrongFalsely : Prop := fnExactClimbRow.holds Try.pinned (OpenSpec.ofChange fnExactClimbWrong)

/-- 'laws.FnExactSameSurface': WHATEVER THE INPUT: true; the input reads as it did. -/
def fnExactSameSurfaceSpec : ChangeSpec := { name := "fnExactSameSurface", fn := fun _ => fun
  | [d1, d2] => { results := [.lit (.bool true)], args := [d1, d2] }
  | _ => none }
def fnExactSameSurfaceRow : OpenClaim := { program := "ytlkbdoejeomlmaa", sum := "e5fdbe2b0e6b27ab1ff4db9722630999f2c9d5e79a73e2066a9a17ee4a1bc393", func := "loop.example/g00243/laws.FnExactSameSurface", spec := "fnExactSameSurface", unfollowed := true, recurses := true, apart := false }
def FnExactSameSurfaceSaid : Prop := fnExactSameSurfaceRow.holds Try.pinned (OpenSpec.ofChange fnExactSameSurfaceSpec)

/-- ITS FALSE NEIGHBOUR: 'it returns false'. Refute it at one input. -/
def fnExactSameSurfaceWrong : ChangeSpec := { name := "fnExactSameSurface", fn := fun _ => fun
  | [d1, d2] => { results := [.lit (.bool false)], args := [d1, d2] }
  | _ => none }
def FnExactSameSurfaceWrongFalsely : Prop := fnExactSameSurfaceRow.holds Try.pinned (OpenSpec.ofChange fnExactSameSurfaceWrong)

/-- 'laws.FnExactSameGrammar': WHATEVER THE INPUT: true; the input reads as it did. -/
def fnExactSameGrammarSpec : ChangeSpec := { name := "fnExactSameGrammar", fn := fun _ => fun
  | [d1, d2] => { results := [.lit (.bool true)], args := [d1, d2] }
  | _ => none }
def fnExactSameGrammarRow : OpenClaim := { program := "ytlkbdoejeomlmaa", sum := "e5fdbe2b0e6b27ab1ff4db9722630999f2c9d5e79a73e2066a9a17ee4a1bc393", func := "loop.example/g00243/laws.FnExactSameGrammar", spec := "fnExactSameGrammar", unfollowed := true, recurses := true, apart := false }
def FnExactSameGrammarSaid : Prop := fnExactSameGrammarRow.holds Try.pinned (OpenSpec.ofChange fnExactSameGrammarSpec)

/-- ITS FALSE NEIGHBOUR: 'it returns false'. Refute it at one input. -/
def fnExactSameGrammarWrong : ChangeSpec := { name := "fnExactSameGrammar", fn := fun _ => fun
  | [d1, d2] => { results := [.lit (.bool false)], args := [d1, d2] }
  | _ => none }
def FnExactSameGrammarWrongFalsely : Prop := fnExactSameGrammarRow.holds Try.pinned (OpenSpec.ofChange fnExactSameGrammarWrong)

/-- 'laws.FnExactOpsGrammar': WHATEVER THE INPUT: true; the input reads as it did. -/
def fnExactOpsGrammarSpec : ChangeSpec := { name := "fnExactOpsGrammar", fn := fun _ => fun
  | [d] => { results := [.lit (.bool true)], args := [d] }
  | _ => none }
def fnExactOpsGrammarRow : OpenClaim := { program := "ytlkbdoejeomlmaa", sum := "e5fdbe2b0e6b27ab1ff4db9722630999f2c9d5e79a73e2066a9a17ee4a1bc393", func := "loop.example/g00243/laws.FnExactOpsGrammar", spec := "fnExactOpsGrammar", inPlace := ["internal/bytealg.IndexByteString", "internal/bytealg.IndexString"], named := ["internal/bytealg.MaxLen"], apart := false }
def FnExactOpsGrammarSaid : Prop := fnExactOpsGrammarRow.holds Try.pinned (OpenSpec.ofChange fnExactOpsGrammarSpec)

/-- ITS FALSE NEIGHBOUR: 'it returns false'. Refute it at one input. -/
def fnExactOpsGrammarWrong : ChangeSpec := { name := "fnExactOpsGrammar", fn := fun _ => fun
  | [d] => { results := [.lit (.bool false)], args := [d] }
  | _ => none }
def FnExactOpsGrammarWrongFalsely : Prop := fnExactOpsGrammarRow.holds Try.pinned (OpenSpec.ofChange fnExactOpsGrammarWrong)

/-- 'laws.FnExactTokens': WHATEVER THE INPUT: true; the input reads as it did. -/
def fnExactTokensSpec : ChangeSpec := { name := "fnExactTokens", fn := fun _ => fun
  | [d] => { results := [.lit (.bool true)], args := [d] }
  | _ => none }
def fnExactTokensRow : OpenClaim := { program := "ytlkbdoejeomlmaa", sum := "e5fdbe2b0e6b27ab1ff4db9722630999f2c9d5e79a73e2066a9a17ee4a1bc393", func := "loop.example/g00243/laws.FnExactTokens", spec := "fnExactTokens", inPlace := ["internal/bytealg.IndexByteString", "internal/bytealg.IndexString"], recurses := true, named := ["internal/bytealg.MaxLen"], apart := false }
def FnExactTokensSaid : Prop := fnExactTokensRow.holds Try.pinned (OpenSpec.ofChange fnExactTokensSpec)

/-- ITS FALSE NEIGHBOUR: 'it returns false'. Refute it at one input. -/
def fnExactTokensWrong : ChangeSpec := { name := "fnExactTokens", fn := fun _ => fun
  | [d] => { results := [.lit (.bool false)], args := [d] }
  | _ => none }
def FnExactTokensWrongFalsely : Prop := fnExactTokensRow.holds Try.pinned (OpenSpec.ofChange fnExactTokensWrong)

/-- 'laws.FnTokenFaults': WHATEVER THE INPUT: true; the input reads as it did. -/
def fnTokenFaultsSpec : ChangeSpec := { name := "fnTokenFaults", fn := fun _ => fun
  | [d] => { results := [.lit (.bool true)], args := [d] }
  | _ => none }
def fnTokenFaultsRow : OpenClaim := { program := "ytlkbdoejeomlmaa", sum := "e5fdbe2b0e6b27ab1ff4db9722630999f2c9d5e79a73e2066a9a17ee4a1bc393", func := "loop.example/g00243/laws.FnTokenFaults", spec := "fnTokenFaults", inPlace := ["internal/bytealg.IndexByteString", "internal/bytealg.IndexString"], recurses := true, named := ["internal/bytealg.MaxLen"], apart := false }
def FnTokenFaultsSaid : Prop := fnTokenFaultsRow.holds Try.pinned (OpenSpec.ofChange fnTokenFaultsSpec)

/-- ITS FALSE NEIGHBOUR: 'it returns false'. Refute it at one input. -/
def fnTokenFaultsWrong : ChangeSpec := { name := "fnTokenFaults", fn := fun _ => fun
  | [d] => { results := [.lit (.bool false)], args := [d] }
  | _ => none }
def FnTokenFaultsWrongFalsely : Prop := fnTokenFaultsRow.holds Try.pinned (OpenSpec.ofChange fnTokenFaultsWrong)

/- THE SECOND FORM. 'bulk': how many values and letters a reading holds, each counted each time it is reached (what is shared counts as often as it is met; a slice's spare places count too). A statement '..UptoSaid' is the law's where the arguments, and the package variables that the reading takes, are together of bulk at most 1048576: NARROWER than '..Said'. Prove '..Said' where nothing that the law and all that it calls make is longer than what came in: it says more and counts as full. Else prove '..UptoSaid'. A law counts once. -/
mutual
def uptoBulk {H : Type} : DataW H → Nat
  | .lit (.string bytes) => bytes.length + 1
  | .lit _ => 1
  | .nil => 1
  | .ptr d => uptoBulk d + 1
  | .slice elems spare => uptoBulkAll elems + uptoBulkAll spare + 1
  | .agg parts => uptoBulkAll parts + 1
  | .iface _ d => uptoBulk d + 1
  | .map entries => uptoBulkEntries entries + 1
  | .held _ => 1
def uptoBulkAll {H : Type} : List (DataW H) → Nat
  | [] => 0
  | d :: r => uptoBulk d + uptoBulkAll r
def uptoBulkEntries {H : Type} : List (Lit × DataW H) → Nat
  | [] => 0
  | x :: r => uptoBulkEntry x + uptoBulkEntries r
def uptoBulkEntry {H : Type} : Lit × DataW H → Nat
  | (.string bytes, d) => bytes.length + uptoBulk d + 1
  | (_, d) => uptoBulk d + 1
 end
def uptoSmall : (H : Type) → List (DataW H) → Bool := fun _ ds => decide (uptoBulkAll ds ≤ 1048576)
def OpenSpec.upto (s : _root_.Go.ChangeSpec) : _root_.Go.OpenSpec := { _root_.Go.OpenSpec.ofChange s with cond := some uptoSmall }

/-- 'laws.FnExprTexts', WHERE WHAT IT READS IS OF BULK AT MOST 1048576: true; the input reads as it did. -/
def fnExprTextsUptoRow : OpenClaim := { program := "ytlkbdoejeomlmaa", sum := "e5fdbe2b0e6b27ab1ff4db9722630999f2c9d5e79a73e2066a9a17ee4a1bc393", func := "loop.example/g00243/laws.FnExprTexts", spec := "fnExprTexts", recurses := true, apart := false, narrowed := true }
def FnExprTextsUptoSaid : Prop := fnExprTextsUptoRow.holds Try.pinned (OpenSpec.upto fnExprTextsSpec)

/-- 'laws.FnExactCircles', WHERE WHAT IT READS IS OF BULK AT MOST 1048576: true; the input reads as it did. -/
def fnExactCirclesUptoRow : OpenClaim := { program := "ytlkbdoejeomlmaa", sum := "e5fdbe2b0e6b27ab1ff4db9722630999f2c9d5e79a73e2066a9a17ee4a1bc393", func := "loop.example/g00243/laws.FnExactCircles", spec := "fnExactCircles", apart := false, narrowed := true }
def FnExactCirclesUptoSaid : Prop := fnExactCirclesUptoRow.holds Try.pinned (OpenSpec.upto fnExactCirclesSpec)

/-- 'laws.FnExactAmbiguous', WHERE WHAT IT READS IS OF BULK AT MOST 1048576: true; the input reads as it did. -/
def fnExactAmbiguousUptoRow : OpenClaim := { program := "ytlkbdoejeomlmaa", sum := "e5fdbe2b0e6b27ab1ff4db9722630999f2c9d5e79a73e2066a9a17ee4a1bc393", func := "loop.example/g00243/laws.FnExactAmbiguous", spec := "fnExactAmbiguous", apart := false, narrowed := true }
def FnExactAmbiguousUptoSaid : Prop := fnExactAmbiguousUptoRow.holds Try.pinned (OpenSpec.upto fnExactAmbiguousSpec)

/-- 'laws.FnExactExprText', WHERE WHAT IT READS IS OF BULK AT MOST 1048576: true; the input reads as it did. -/
def fnExactExprTextUptoRow : OpenClaim := { program := "ytlkbdoejeomlmaa", sum := "e5fdbe2b0e6b27ab1ff4db9722630999f2c9d5e79a73e2066a9a17ee4a1bc393", func := "loop.example/g00243/laws.FnExactExprText", spec := "fnExactExprText", apart := false, narrowed := true }
def FnExactExprTextUptoSaid : Prop := fnExactExprTextUptoRow.holds Try.pinned (OpenSpec.upto fnExactExprTextSpec)

/-- 'laws.FnParentheses', WHERE WHAT IT READS IS OF BULK AT MOST 1048576: true; the input reads as it did. -/
def fnParenthesesUptoRow : OpenClaim := { program := "ytlkbdoejeomlmaa", sum := "e5fdbe2b0e6b27ab1ff4db9722630999f2c9d5e79a73e2066a9a17ee4a1bc393", func := "loop.example/g00243/laws.FnParentheses", spec := "fnParentheses", inPlace := ["internal/bytealg.IndexByteString", "internal/bytealg.IndexString"], unfollowed := true, recurses := true, named := ["internal/bytealg.MaxLen"], apart := false, narrowed := true }
def FnParenthesesUptoSaid : Prop := fnParenthesesUptoRow.holds Try.pinned (OpenSpec.upto fnParenthesesSpec)

/-- 'laws.FnExactCountForest', WHERE WHAT IT READS IS OF BULK AT MOST 1048576: true; the input reads as it did. -/
def fnExactCountForestUptoRow : OpenClaim := { program := "ytlkbdoejeomlmaa", sum := "e5fdbe2b0e6b27ab1ff4db9722630999f2c9d5e79a73e2066a9a17ee4a1bc393", func := "loop.example/g00243/laws.FnExactCountForest", spec := "fnExactCountForest", apart := false, narrowed := true }
def FnExactCountForestUptoSaid : Prop := fnExactCountForestUptoRow.holds Try.pinned (OpenSpec.upto fnExactCountForestSpec)

/-- 'laws.FnExactClimb', WHERE WHAT IT READS IS OF BULK AT MOST 1048576: true; the input reads as it did. -/
def fnExactClimbUptoRow : OpenClaim := { program := "ytlkbdoejeomlmaa", sum := "e5fdbe2b0e6b27ab1ff4db9722630999f2c9d5e79a73e2066a9a17ee4a1bc393", func := "loop.example/g00243/laws.FnExactClimb", spec := "fnExactClimb", inPlace := ["internal/bytealg.IndexByteString", "internal/bytealg.IndexString"], unfollowed := true, recurses := true, named := ["internal/bytealg.MaxLen"], apart := false, narrowed := true }
def FnExactClimbUptoSaid : Prop := fnExactClimbUptoRow.holds Try.pinned (OpenSpec.upto fnExactClimbSpec)

/-- 'laws.FnExactSameSurface', WHERE WHAT IT READS IS OF BULK AT MOST 1048576: true; the input reads as it did. -/
def fnExactSameSurfaceUptoRow : OpenClaim := { program := "ytlkbdoejeomlmaa", sum := "e5fdbe2b0e6b27ab1ff4db9722630999f2c9d5e79a73e2066a9a17ee4a1bc393", func := "loop.example/g00243/laws.FnExactSameSurface", spec := "fnExactSameSurface", unfollowed := true, recurses := true, apart := false, narrowed := true }
def FnExactSameSurfaceUptoSaid : Prop := fnExactSameSurfaceUptoRow.holds Try.pinned (OpenSpec.upto fnExactSameSurfaceSpec)

/-- 'laws.FnExactSameGrammar', WHERE WHAT IT READS IS OF BULK AT MOST 1048576: true; the input reads as it did. -/
def fnExactSameGrammarUptoRow : OpenClaim := { program := "ytlkbdoejeomlmaa", sum := "e5fdbe2b0e6b27ab1ff4db9722630999f2c9d5e79a73e2066a9a17ee4a1bc393", func := "loop.example/g00243/laws.FnExactSameGrammar", spec := "fnExactSameGrammar", unfollowed := true, recurses := true, apart := false, narrowed := true }
def FnExactSameGrammarUptoSaid : Prop := fnExactSameGrammarUptoRow.holds Try.pinned (OpenSpec.upto fnExactSameGrammarSpec)

/-- 'laws.FnExactOpsGrammar', WHERE WHAT IT READS IS OF BULK AT MOST 1048576: true; the input reads as it did. -/
def fnExactOpsGrammarUptoRow : OpenClaim := { program := "ytlkbdoejeomlmaa", sum := "e5fdbe2b0e6b27ab1ff4db9722630999f2c9d5e79a73e2066a9a17ee4a1bc393", func := "loop.example/g00243/laws.FnExactOpsGrammar", spec := "fnExactOpsGrammar", inPlace := ["internal/bytealg.IndexByteString", "internal/bytealg.IndexString"], named := ["internal/bytealg.MaxLen"], apart := false, narrowed := true }
def FnExactOpsGrammarUptoSaid : Prop := fnExactOpsGrammarUptoRow.holds Try.pinned (OpenSpec.upto fnExactOpsGrammarSpec)

/-- 'laws.FnExactTokens', WHERE WHAT IT READS IS OF BULK AT MOST 1048576: true; the input reads as it did. -/
def fnExactTokensUptoRow : OpenClaim := { program := "ytlkbdoejeomlmaa", sum := "e5fdbe2b0e6b27ab1ff4db9722630999f2c9d5e79a73e2066a9a17ee4a1bc393", func := "loop.example/g00243/laws.FnExactTokens", spec := "fnExactTokens", inPlace := ["internal/bytealg.IndexByteString", "internal/bytealg.IndexString"], recurses := true, named := ["internal/bytealg.MaxLen"], apart := false, narrowed := true }
def FnExactTokensUptoSaid : Prop := fnExactTokensUptoRow.holds Try.pinned (OpenSpec.upto fnExactTokensSpec)

/-- 'laws.FnTokenFaults', WHERE WHAT IT READS IS OF BULK AT MOST 1048576: true; the input reads as it did. -/
def fnTokenFaultsUptoRow : OpenClaim := { program := "ytlkbdoejeomlmaa", sum := "e5fdbe2b0e6b27ab1ff4db9722630999f2c9d5e79a73e2066a9a17ee4a1bc393", func := "loop.example/g00243/laws.FnTokenFaults", spec := "fnTokenFaults", inPlace := ["internal/bytealg.IndexByteString", "internal/bytealg.IndexString"], recurses := true, named := ["internal/bytealg.MaxLen"], apart := false, narrowed := true }
def FnTokenFaultsUptoSaid : Prop := fnTokenFaultsUptoRow.holds Try.pinned (OpenSpec.upto fnTokenFaultsSpec)

end Rows
end Go.Proofs.Ytlkbdoejeomlmaa
