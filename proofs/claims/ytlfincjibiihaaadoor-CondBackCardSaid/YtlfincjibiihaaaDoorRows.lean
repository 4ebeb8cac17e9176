/-
  NARROWER THAN 'FOR EVERY INPUT', by the rows' own cells (each row's printed sentence says how): CondEither: laid · CondAll: laid · TxChecks: laid · TxTotals: laid · TxSecrets: laid · TxOrder: laid · CondBack: laid.
  DERIVED. THE GIVEN ROWS OF THIS SEAT. 7 by the template 'for every input the law returns true; each argument reads behind the call as it read before'; 0 by the template 'total and deterministic' (their statements: YtlfincjibiihaaaDoorTotals.lean).
  GIVEN WITH THE SEED: the statements are not yours to turn. If you find one false, say at which input.
  Laid BY PROGRAM, IN A SANDBOX (cutbox-rows.mjs): the forced cells as the released guide's own fill.sh prints them over the translation 31a65d1c5ab8a2d1… (all of the seat's roots in one cut). By AI agents, Wed Nov 11 2026. No macro, syntax, notation, axiom, sorry.
-/
import Derived.Test.YtlfincjibiihaaaDoorChecked
import GoSem.Claim
import GoSem.ClaimJoined
import GoSem.ClaimMapViews
import Derived.JoinedTies
import Derived.KernelRfl
namespace Go.Proofs.YtlfincjibiihaaaDoor
/- THE CELL 'sum', in the pinned program and in every row, IS THE sha256 OF THE DUMP (.gsa) THAT YtlfincjibiihaaaDoorProg.lean LOADS. Nothing in Lean hashes anything: it is a label: what it is worth is what the hold of that sum in a sandbox is worth. -/
noncomputable def Tryd.pinned : Pinned := { name := "ytlfincjibiihaaadoor", sum := "31a65d1c5ab8a2d11b7f82318801e024bdb7a857b92cd98e16db47ea3754140e", checked := Tryd.checked }
namespace Rows
def none {H : Type} : Left H := { results := [], args := [] }

/- WHAT THE LISTED PACKAGE-LEVEL VARIABLES READ AS WHEN THE CALL BEGINS. Each datum BY PROGRAM (the guide's laid-datum.mjs) off the statement by which the dump's own 'gosem.cut.vars' lays the variable. In a bare row this is a premise. The card (YtlfincjibiihaaaDoorCards.lean) ties it to the program's text. -/
def laid_errors_errorType {H : Type} : DataW H := .iface "internal/reflectlite.rtype" (.agg [.ptr (.lit (.string [101, 114, 114, 111, 114]))])
def laid_bayou_blake_order {H : Type} : DataW H := .agg [.agg [.lit (.int .u8 0), .lit (.int .u8 1), .lit (.int .u8 2), .lit (.int .u8 3), .lit (.int .u8 4), .lit (.int .u8 5), .lit (.int .u8 6), .lit (.int .u8 7), .lit (.int .u8 8), .lit (.int .u8 9), .lit (.int .u8 10), .lit (.int .u8 11), .lit (.int .u8 12), .lit (.int .u8 13), .lit (.int .u8 14), .lit (.int .u8 15)], .agg [.lit (.int .u8 14), .lit (.int .u8 10), .lit (.int .u8 4), .lit (.int .u8 8), .lit (.int .u8 9), .lit (.int .u8 15), .lit (.int .u8 13), .lit (.int .u8 6), .lit (.int .u8 1), .lit (.int .u8 12), .lit (.int .u8 0), .lit (.int .u8 2), .lit (.int .u8 11), .lit (.int .u8 7), .lit (.int .u8 5), .lit (.int .u8 3)], .agg [.lit (.int .u8 11), .lit (.int .u8 8), .lit (.int .u8 12), .lit (.int .u8 0), .lit (.int .u8 5), .lit (.int .u8 2), .lit (.int .u8 15), .lit (.int .u8 13), .lit (.int .u8 10), .lit (.int .u8 14), .lit (.int .u8 3), .lit (.int .u8 6), .lit (.int .u8 7), .lit (.int .u8 1), .lit (.int .u8 9), .lit (.int .u8 4)], .agg [.lit (.int .u8 7), .lit (.int .u8 9), .lit (.int .u8 3), .lit (.int .u8 1), .lit (.int .u8 13), .lit (.int .u8 12), .lit (.int .u8 11), .lit (.int .u8 14), .lit (.int .u8 2), .lit (.int .u8 6), .lit (.int .u8 5), .lit (.int .u8 10), .lit (.int .u8 4), .lit (.int .u8 0), .lit (.int .u8 15), .lit (.int .u8 8)], .agg [.lit (.int .u8 9), .lit (.int .u8 0), .lit (.int .u8 5), .lit (.int .u8 7), .lit (.int .u8 2), .lit (.int .u8 4), .lit (.int .u8 10), .lit (.int .u8 15), .lit (.int .u8 14), .lit (.int .u8 1), .lit (.int .u8 11), .lit (.int .u8 12), .lit (.int .u8 6), .lit (.int .u8 8), .lit (.int .u8 3), .lit (.int .u8 13)], .agg [.lit (.int .u8 2), .lit (.int .u8 12), .lit (.int .u8 6), .lit (.int .u8 10), .lit (.int .u8 0), .lit (.int .u8 11), .lit (.int .u8 8), .lit (.int .u8 3), .lit (.int .u8 4), .lit (.int .u8 13), .lit (.int .u8 7), .lit (.int .u8 5), .lit (.int .u8 15), .lit (.int .u8 14), .lit (.int .u8 1), .lit (.int .u8 9)], .agg [.lit (.int .u8 12), .lit (.int .u8 5), .lit (.int .u8 1), .lit (.int .u8 15), .lit (.int .u8 14), .lit (.int .u8 13), .lit (.int .u8 4), .lit (.int .u8 10), .lit (.int .u8 0), .lit (.int .u8 7), .lit (.int .u8 6), .lit (.int .u8 3), .lit (.int .u8 9), .lit (.int .u8 2), .lit (.int .u8 8), .lit (.int .u8 11)], .agg [.lit (.int .u8 13), .lit (.int .u8 11), .lit (.int .u8 7), .lit (.int .u8 14), .lit (.int .u8 12), .lit (.int .u8 1), .lit (.int .u8 3), .lit (.int .u8 9), .lit (.int .u8 5), .lit (.int .u8 0), .lit (.int .u8 15), .lit (.int .u8 4), .lit (.int .u8 8), .lit (.int .u8 6), .lit (.int .u8 2), .lit (.int .u8 10)], .agg [.lit (.int .u8 6), .lit (.int .u8 15), .lit (.int .u8 14), .lit (.int .u8 9), .lit (.int .u8 11), .lit (.int .u8 3), .lit (.int .u8 0), .lit (.int .u8 8), .lit (.int .u8 12), .lit (.int .u8 2), .lit (.int .u8 13), .lit (.int .u8 7), .lit (.int .u8 1), .lit (.int .u8 4), .lit (.int .u8 10), .lit (.int .u8 5)], .agg [.lit (.int .u8 10), .lit (.int .u8 2), .lit (.int .u8 8), .lit (.int .u8 4), .lit (.int .u8 7), .lit (.int .u8 6), .lit (.int .u8 1), .lit (.int .u8 5), .lit (.int .u8 15), .lit (.int .u8 11), .lit (.int .u8 9), .lit (.int .u8 14), .lit (.int .u8 3), .lit (.int .u8 12), .lit (.int .u8 13), .lit (.int .u8 0)]]

/-- 'bayoulaw04.CondEither': WHATEVER THE INPUT: true; the input reads as it did. -/
def condEitherSpec : ChangeSpec := { name := "condEither", fn := fun _ => fun
  | [d1, d2, d3] => { results := [.lit (.bool true)], args := [d1, d2, d3] }
  | _ => none }
def condEitherRow : OpenClaim := { program := "ytlfincjibiihaaadoor", sum := "31a65d1c5ab8a2d11b7f82318801e024bdb7a857b92cd98e16db47ea3754140e", func := "bayou/bayoulaw04.CondEither", spec := "condEither", inPlace := ["internal/reflectlite.ValueOf", "(internal/reflectlite.Value).Type", "(internal/reflectlite.Value).IsNil", "internal/reflectlite.TypeOf", "(internal/reflectlite.Value).Elem", "(internal/reflectlite.Value).Set"], unfollowed := true, recurses := true, named := ["bayou/blake.order", "errors.errorType"], plainKeys := false, apart := false, laid := [("errors.errorType", laid_errors_errorType), ("bayou/blake.order", laid_bayou_blake_order)] }
def CondEitherSaid : Prop := condEitherRow.holds Tryd.pinned (OpenSpec.ofChange condEitherSpec)

/-- ITS FALSE NEIGHBOUR: 'it returns false'. Refute it at one input. -/
def condEitherWrong : ChangeSpec := { name := "condEither", fn := fun _ => fun
  | [d1, d2, d3] => { results := [.lit (.bool false)], args := [d1, d2, d3] }
  | _ => none }
def CondEitherWrongFalsely : Prop := condEitherRow.holds Tryd.pinned (OpenSpec.ofChange condEitherWrong)

/-- 'bayoulaw04.CondAll': WHATEVER THE INPUT: true; the input reads as it did. -/
def condAllSpec : ChangeSpec := { name := "condAll", fn := fun _ => fun
  | [d] => { results := [.lit (.bool true)], args := [d] }
  | _ => none }
def condAllRow : OpenClaim := { program := "ytlfincjibiihaaadoor", sum := "31a65d1c5ab8a2d11b7f82318801e024bdb7a857b92cd98e16db47ea3754140e", func := "bayou/bayoulaw04.CondAll", spec := "condAll", inPlace := ["internal/reflectlite.ValueOf", "(internal/reflectlite.Value).Type", "(internal/reflectlite.Value).IsNil", "internal/reflectlite.TypeOf", "(internal/reflectlite.Value).Elem", "(internal/reflectlite.Value).Set"], unfollowed := true, recurses := true, named := ["bayou/blake.order", "errors.errorType"], plainKeys := false, apart := false, laid := [("errors.errorType", laid_errors_errorType), ("bayou/blake.order", laid_bayou_blake_order)] }
def CondAllSaid : Prop := condAllRow.holds Tryd.pinned (OpenSpec.ofChange condAllSpec)

/-- ITS FALSE NEIGHBOUR: 'it returns false'. Refute it at one input. -/
def condAllWrong : ChangeSpec := { name := "condAll", fn := fun _ => fun
  | [d] => { results := [.lit (.bool false)], args := [d] }
  | _ => none }
def CondAllWrongFalsely : Prop := condAllRow.holds Tryd.pinned (OpenSpec.ofChange condAllWrong)

/-- 'bayoulaw05.TxChecks': WHATEVER THE INPUT: true; the input reads as it did. -/
def txChecksSpec : ChangeSpec := { name := "txChecks", fn := fun _ => fun
  | [d] => { results := [.lit (.bool true)], args := [d] }
  | _ => none }
def txChecksRow : OpenClaim := { program := "ytlfincjibiihaaadoor", sum := "31a65d1c5ab8a2d11b7f82318801e024bdb7a857b92cd98e16db47ea3754140e", func := "bayou/bayoulaw05.TxChecks", spec := "txChecks", inPlace := ["internal/reflectlite.ValueOf", "(internal/reflectlite.Value).Type", "(internal/reflectlite.Value).IsNil", "internal/reflectlite.TypeOf", "(internal/reflectlite.Value).Elem", "(internal/reflectlite.Value).Set"], unfollowed := true, recurses := true, named := ["errors.errorType", "bayou/blake.order"], plainKeys := false, apart := false, laid := [("errors.errorType", laid_errors_errorType), ("bayou/blake.order", laid_bayou_blake_order)] }
def TxChecksSaid : Prop := txChecksRow.holds Tryd.pinned (OpenSpec.ofChange txChecksSpec)

/-- ITS FALSE NEIGHBOUR: 'it returns false'. Refute it at one input. -/
def txChecksWrong : ChangeSpec := { name := "txChecks", fn := fun _ => fun
  | [d] => { results := [.lit (.bool false)], args := [d] }
  | _ => none }
def TxChecksWrongFalsely : Prop := txChecksRow.holds Tryd.pinned (OpenSpec.ofChange txChecksWrong)

/-- 'bayoulaw05.TxTotals': WHATEVER THE INPUT: true; the input reads as it did. -/
def txTotalsSpec : ChangeSpec := { name := "txTotals", fn := fun _ => fun
  | [d] => { results := [.lit (.bool true)], args := [d] }
  | _ => none }
def txTotalsRow : OpenClaim := { program := "ytlfincjibiihaaadoor", sum := "31a65d1c5ab8a2d11b7f82318801e024bdb7a857b92cd98e16db47ea3754140e", func := "bayou/bayoulaw05.TxTotals", spec := "txTotals", inPlace := ["internal/reflectlite.ValueOf", "(internal/reflectlite.Value).Type", "(internal/reflectlite.Value).IsNil", "internal/reflectlite.TypeOf", "(internal/reflectlite.Value).Elem", "(internal/reflectlite.Value).Set"], unfollowed := true, recurses := true, named := ["errors.errorType", "bayou/blake.order"], plainKeys := false, apart := false, laid := [("errors.errorType", laid_errors_errorType), ("bayou/blake.order", laid_bayou_blake_order)] }
def TxTotalsSaid : Prop := txTotalsRow.holds Tryd.pinned (OpenSpec.ofChange txTotalsSpec)

/-- ITS FALSE NEIGHBOUR: 'it returns false'. Refute it at one input. -/
def txTotalsWrong : ChangeSpec := { name := "txTotals", fn := fun _ => fun
  | [d] => { results := [.lit (.bool false)], args := [d] }
  | _ => none }
def TxTotalsWrongFalsely : Prop := txTotalsRow.holds Tryd.pinned (OpenSpec.ofChange txTotalsWrong)

/-- 'bayoulaw05.TxSecrets': WHATEVER THE INPUT: true; the input reads as it did. -/
def txSecretsSpec : ChangeSpec := { name := "txSecrets", fn := fun _ => fun
  | [d1, d2, d3] => { results := [.lit (.bool true)], args := [d1, d2, d3] }
  | _ => none }
def txSecretsRow : OpenClaim := { program := "ytlfincjibiihaaadoor", sum := "31a65d1c5ab8a2d11b7f82318801e024bdb7a857b92cd98e16db47ea3754140e", func := "bayou/bayoulaw05.TxSecrets", spec := "txSecrets", inPlace := ["internal/reflectlite.ValueOf", "(internal/reflectlite.Value).Type", "(internal/reflectlite.Value).IsNil", "internal/reflectlite.TypeOf", "(internal/reflectlite.Value).Elem", "(internal/reflectlite.Value).Set"], unfollowed := true, recurses := true, named := ["errors.errorType", "bayou/blake.order"], plainKeys := false, apart := false, laid := [("errors.errorType", laid_errors_errorType), ("bayou/blake.order", laid_bayou_blake_order)] }
def TxSecretsSaid : Prop := txSecretsRow.holds Tryd.pinned (OpenSpec.ofChange txSecretsSpec)

/-- ITS FALSE NEIGHBOUR: 'it returns false'. Refute it at one input. -/
def txSecretsWrong : ChangeSpec := { name := "txSecrets", fn := fun _ => fun
  | [d1, d2, d3] => { results := [.lit (.bool false)], args := [d1, d2, d3] }
  | _ => none }
def TxSecretsWrongFalsely : Prop := txSecretsRow.holds Tryd.pinned (OpenSpec.ofChange txSecretsWrong)

/-- 'bayoulaw05.TxOrder': WHATEVER THE INPUT: true; the input reads as it did. -/
def txOrderSpec : ChangeSpec := { name := "txOrder", fn := fun _ => fun
  | [d1, d2, d3] => { results := [.lit (.bool true)], args := [d1, d2, d3] }
  | _ => none }
def txOrderRow : OpenClaim := { program := "ytlfincjibiihaaadoor", sum := "31a65d1c5ab8a2d11b7f82318801e024bdb7a857b92cd98e16db47ea3754140e", func := "bayou/bayoulaw05.TxOrder", spec := "txOrder", inPlace := ["internal/bytealg.Compare", "internal/reflectlite.ValueOf", "(internal/reflectlite.Value).Type", "(internal/reflectlite.Value).IsNil", "internal/reflectlite.TypeOf", "(internal/reflectlite.Value).Elem", "(internal/reflectlite.Value).Set"], unfollowed := true, recurses := true, named := ["errors.errorType", "bayou/blake.order"], plainKeys := false, apart := false, laid := [("errors.errorType", laid_errors_errorType), ("bayou/blake.order", laid_bayou_blake_order)] }
def TxOrderSaid : Prop := txOrderRow.holds Tryd.pinned (OpenSpec.ofChange txOrderSpec)

/-- ITS FALSE NEIGHBOUR: 'it returns false'. Refute it at one input. -/
def txOrderWrong : ChangeSpec := { name := "txOrder", fn := fun _ => fun
  | [d1, d2, d3] => { results := [.lit (.bool false)], args := [d1, d2, d3] }
  | _ => none }
def TxOrderWrongFalsely : Prop := txOrderRow.holds Tryd.pinned (OpenSpec.ofChange txOrderWrong)

/-- 'bayoulaw04.CondBack': WHATEVER THE INPUT: true; the input reads as it did. -/
def condBackSpec : ChangeSpec := { name := "condBack", fn := fun _ => fun
  | [d] => { results := [.lit (.bool true)], args := [d] }
  | _ => none }
def condBackRow : OpenClaim := { program := "ytlfincjibiihaaadoor", sum := "31a65d1c5ab8a2d11b7f82318801e024bdb7a857b92cd98e16db47ea3754140e", func := "bayou/bayoulaw04.CondBack", spec := "condBack", inPlace := ["internal/reflectlite.ValueOf", "(internal/reflectlite.Value).Type", "(internal/reflectlite.Value).IsNil", "internal/reflectlite.TypeOf", "(internal/reflectlite.Value).Elem", "(internal/reflectlite.Value).Set"], unfollowed := true, recurses := true, named := ["bayou/blake.order", "errors.errorType"], plainKeys := false, apart := false, laid := [("errors.errorType", laid_errors_errorType), ("bayou/blake.order", laid_bayou_blake_order)] }
def CondBackSaid : Prop := condBackRow.holds Tryd.pinned (OpenSpec.ofChange condBackSpec)

/-- ITS FALSE NEIGHBOUR: 'it returns false'. Refute it at one input. -/
def condBackWrong : ChangeSpec := { name := "condBack", fn := fun _ => fun
  | [d] => { results := [.lit (.bool false)], args := [d] }
  | _ => none }
def CondBackWrongFalsely : Prop := condBackRow.holds Tryd.pinned (OpenSpec.ofChange condBackWrong)

/- THE SECOND FORM. 'bulk': how many values and letters a reading holds, each counted each time it is reached (what is shared counts as often as it is met; a slice's spare places count too). A statement '..UptoSaid' is the law's where the arguments, and the package variables that the reading takes, are together of bulk at most 1048576: NARROWER than '..Said'. Prove '..Said' where nothing that the law and all that it calls make is longer than what came in: it says more and counts as full. Else prove '..UptoSaid'. A law counts once. -/
mutual
def uptoBulk {H : Type} : DataW H → Nat
  | .lit (.string bytes) => bytes.length + 1
  | .lit _ => 1
  | .nil => 1
  | .ptr d => uptoBulk d + 1
  | .slice elems spare => uptoBulkAll elems + uptoBulkAll spare + 1
  | .agg parts => uptoBulkAll parts + 1
  | .iface _ d => uptoBulk d + 1
  | .map entries => uptoBulkEntries entries + 1
  | .held _ => 1
def uptoBulkAll {H : Type} : List (DataW H) → Nat
  | [] => 0
  | d :: r => uptoBulk d + uptoBulkAll r
def uptoBulkEntries {H : Type} : List (Lit × DataW H) → Nat
  | [] => 0
  | x :: r => uptoBulkEntry x + uptoBulkEntries r
def uptoBulkEntry {H : Type} : Lit × DataW H → Nat
  | (.string bytes, d) => bytes.length + uptoBulk d + 1
  | (_, d) => uptoBulk d + 1
 end
def uptoSmall : (H : Type) → List (DataW H) → Bool := fun _ ds => decide (uptoBulkAll ds ≤ 1048576)
def OpenSpec.upto (s : _root_.Go.ChangeSpec) : _root_.Go.OpenSpec := { _root_.Go.OpenSpec.ofChange s with cond := some uptoSmall }

/-- 'bayoulaw04.CondEither', WHERE WHAT IT READS IS OF BULK AT MOST 1048576: true; the input reads as it did. -/
def condEitherUptoRow : OpenClaim := { program := "ytlfincjibiihaaadoor", sum := "31a65d1c5ab8a2d11b7f82318801e024bdb7a857b92cd98e16db47ea3754140e", func := "bayou/bayoulaw04.CondEither", spec := "condEither", inPlace := ["internal/reflectlite.ValueOf", "(internal/reflectlite.Value).Type", "(internal/reflectlite.Value).IsNil", "internal/reflectlite.TypeOf", "(internal/reflectlite.Value).Elem", "(internal/reflectlite.Value).Set"], unfollowed := true, recurses := true, named := ["bayou/blake.order", "errors.errorType"], plainKeys := false, apart := false, laid := [("errors.errorType", laid_errors_errorType), ("bayou/blake.order", laid_bayou_blake_order)], narrowed := true }
def CondEitherUptoSaid : Prop := condEitherUptoRow.holds Tryd.pinned (OpenSpec.upto condEitherSpec)

/-- 'bayoulaw04.CondAll', WHERE WHAT IT READS IS OF BULK AT MOST 1048576: true; the input reads as it did. -/
def condAllUptoRow : OpenClaim := { program := "ytlfincjibiihaaadoor", sum := "31a65d1c5ab8a2d11b7f82318801e024bdb7a857b92cd98e16db47ea3754140e", func := "bayou/bayoulaw04.CondAll", spec := "condAll", inPlace := ["internal/reflectlite.ValueOf", "(internal/reflectlite.Value).Type", "(internal/reflectlite.Value).IsNil", "internal/reflectlite.TypeOf", "(internal/reflectlite.Value).Elem", "(internal/reflectlite.Value).Set"], unfollowed := true, recurses := true, named := ["bayou/blake.order", "errors.errorType"], plainKeys := false, apart := false, laid := [("errors.errorType", laid_errors_errorType), ("bayou/blake.order", laid_bayou_blake_order)], narrowed := true }
def CondAllUptoSaid : Prop := condAllUptoRow.holds Tryd.pinned (OpenSpec.upto condAllSpec)

/-- 'bayoulaw05.TxChecks', WHERE WHAT IT READS IS OF BULK AT MOST 1048576: true; the input reads as it did. -/
def txChecksUptoRow : OpenClaim := { program := "ytlfincjibiihaaadoor", sum := "31a65d1c5ab8a2d11b7f82318801e024bdb7a857b92cd98e16db47ea3754140e", func := "bayou/bayoulaw05.TxChecks", spec := "txChecks", inPlace := ["internal/reflectlite.ValueOf", "(internal/reflectlite.Value).Type", "(internal/reflectlite.Value).IsNil", "internal/reflectlite.TypeOf", "(internal/reflectlite.Value).Elem", "(internal/reflectlite.Value).Set"], unfollowed := true, recurses := true, named := ["errors.errorType", "bayou/blake.order"], plainKeys := false, apart := false, laid := [("errors.errorType", laid_errors_errorType), ("bayou/blake.order", laid_bayou_blake_order)], narrowed := true }
def TxChecksUptoSaid : Prop := txChecksUptoRow.holds Tryd.pinned (OpenSpec.upto txChecksSpec)

/-- 'bayoulaw05.TxTotals', WHERE WHAT IT READS IS OF BULK AT MOST 1048576: true; the input reads as it did. -/
def txTotalsUptoRow : OpenClaim := { program := "ytlfincjibiihaaadoor", sum := "31a65d1c5ab8a2d11b7f82318801e024bdb7a857b92cd98e16db47ea3754140e", func := "bayou/bayoulaw05.TxTotals", spec := "txTotals", inPlace := ["internal/reflectlite.ValueOf", "(internal/reflectlite.Value).Type", "(internal/reflectlite.Value).IsNil", "internal/reflectlite.TypeOf", "(internal/reflectlite.Value).Elem", "(internal/reflectlite.Value).Set"], unfollowed := true, recurses := true, named := ["errors.errorType", "bayou/blake.order"], plainKeys := false, apart := false, laid := [("errors.errorType", laid_errors_errorType), ("bayou/blake.order", laid_bayou_blake_order)], narrowed := true }
def TxTotalsUptoSaid : Prop := txTotalsUptoRow.holds Tryd.pinned (OpenSpec.upto txTotalsSpec)

/-- 'bayoulaw05.TxSecrets', WHERE WHAT IT READS IS OF BULK AT MOST 1048576: true; the input reads as it did. -/
def txSecretsUptoRow : OpenClaim := { program := "ytlfincjibiihaaadoor", sum := "31a65d1c5ab8a2d11b7f82318801e024bdb7a857b92cd98e16db47ea3754140e", func := "bayou/bayoulaw05.TxSecrets", spec := "txSecrets", inPlace := ["internal/reflectlite.ValueOf", "(internal/reflectlite.Value).Type", "(internal/reflectlite.Value).IsNil", "internal/reflectlite.TypeOf", "(internal/reflectlite.Value).Elem", "(internal/reflectlite.Value).Set"], unfollowed := true, recurses := true, named := ["errors.errorType", "bayou/blake.order"], plainKeys := false, apart := false, laid := [("errors.errorType", laid_errors_errorType), ("bayou/blake.order", laid_bayou_blake_order)], narrowed := true }
def TxSecretsUptoSaid : Prop := txSecretsUptoRow.holds Tryd.pinned (OpenSpec.upto txSecretsSpec)

/-- 'bayoulaw05.TxOrder', WHERE WHAT IT READS IS OF BULK AT MOST 1048576: true; the input reads as it did. -/
def txOrderUptoRow : OpenClaim := { program := "ytlfincjibiihaaadoor", sum := "31a65d1c5ab8a2d11b7f82318801e024bdb7a857b92cd98e16db47ea3754140e", func := "bayou/bayoulaw05.TxOrder", spec := "txOrder", inPlace := ["internal/bytealg.Compare", "internal/reflectlite.ValueOf", "(internal/reflectlite.Value).Type", "(internal/reflectlite.Value).IsNil", "internal/reflectlite.TypeOf", "(internal/reflectlite.Value).Elem", "(internal/reflectlite.Value).Set"], unfollowed := true, recurses := true, named := ["errors.errorType", "bayou/blake.order"], plainKeys := false, apart := false, laid := [("errors.errorType", laid_errors_errorType), ("bayou/blake.order", laid_bayou_blake_order)], narrowed := true }
def TxOrderUptoSaid : Prop := txOrderUptoRow.holds Tryd.pinned (OpenSpec.upto txOrderSpec)

/-- 'bayoulaw04.CondBack', WHERE WHAT IT READS IS OF BULK AT MOST 1048576: true; the input reads as it did. -/
def condBackUptoRow : OpenClaim := { program := "ytlfincjibiihaaadoor", sum := "31a65d1c5ab8a2d11b7f82318801e024bdb7a857b92cd98e16db47ea3754140e", func := "bayou/bayoulaw04.CondBack", spec := "condBack", inPlace := ["internal/reflectlite.ValueOf", "(internal/reflectlite.Value).Type", "(internal/reflectlite.Value).IsNil", "internal/reflectlite.TypeOf", "(internal/reflectlite.Value).Elem", "(internal/reflectlite.Value).Set"], unfollowed := true, recurses := true, named := ["bayou/blake.order", "errors.errorType"], plainKeys := false, apart := false, laid := [("errors.errorType", laid_errors_errorType), ("bayou/blake.order", laid_bayou_blake_order)], narrowed := true }
def CondBackUptoSaid : Prop := condBackUptoRow.holds Tryd.pinned (OpenSpec.upto condBackSpec)

end Rows
end Go.Proofs.YtlfincjibiihaaaDoor
