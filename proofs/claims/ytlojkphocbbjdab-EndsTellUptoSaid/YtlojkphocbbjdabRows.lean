/-
  No cell of these rows narrows 'for every input' (looked for: loops, veiled, ifaces, maps, wideKeys, modest, calm, conditions, laid).
  DERIVED. THE GIVEN ROWS OF THIS SEAT. 7 by the template 'for every input the law returns true; each argument reads behind the call as it read before'; 0 by the template 'total and deterministic' (their statements: YtlojkphocbbjdabTotals.lean).
  GIVEN WITH THE SEED: the statements are not yours to turn. If you find one false, say at which input.
  Laid BY PROGRAM, IN A SANDBOX (cutbox-rows.mjs): the forced cells as the released guide's own fill.sh prints them over the translation f3599ef020823655… (all of the seat's roots in one cut). By AI agents, Wed Nov 11 2026. No macro, syntax, notation, axiom, sorry.
-/
import Derived.Test.YtlojkphocbbjdabChecked
import GoSem.Claim
import GoSem.ClaimJoined
import GoSem.ClaimMapViews
import Derived.JoinedTies
import Derived.KernelRfl
namespace Go.Proofs.Ytlojkphocbbjdab
/- THE CELL 'sum', in the pinned program and in every row, IS THE sha256 OF THE DUMP (.gsa) THAT YtlojkphocbbjdabProg.lean LOADS. Nothing in Lean hashes anything: it is a label: what it is worth is what the hold of that sum in a sandbox is worth. -/
noncomputable def Try.pinned : Pinned := { name := "ytlojkphocbbjdab", sum := "f3599ef020823655f208ec3264622f389ab9b96a90753c203540d3e37e894505", checked := Try.checked }
namespace Rows
def none {H : Type} : Left H := { results := [], args := [] }

/-- 'backstitchlaw3.MarkTells': WHATEVER THE INPUT: true; the input reads as it did. -/
def markTellsSpec : ChangeSpec := { name := "markTells", fn := fun _ => fun
  | [d1, d2] => { results := [.lit (.bool true)], args := [d1, d2] }
  | _ => none }
def markTellsRow : OpenClaim := { program := "ytlojkphocbbjdab", sum := "f3599ef020823655f208ec3264622f389ab9b96a90753c203540d3e37e894505", func := "backstitch/backstitchlaw3.MarkTells", spec := "markTells", unfollowed := true, recurses := true, apart := false }
def MarkTellsSaid : Prop := markTellsRow.holds Try.pinned (OpenSpec.ofChange markTellsSpec)

/-- ITS FALSE NEIGHBOUR: 'it returns false'. Refute it at one input. -/
def markTellsWrong : ChangeSpec := { name := "markTells", fn := fun _ => fun
  | [d1, d2] => { results := [.lit (.bool false)], args := [d1, d2] }
  | _ => none }
def MarkTellsWrongFalsely : Prop := markTellsRow.holds Try.pinned (OpenSpec.ofChange markTellsWrong)

/-- 'backstitchlaw3.ScanTells': WHATEVER THE INPUT: true; the input reads as it did. -/
def scanTellsSpec : ChangeSpec := { name := "scanTells", fn := fun _ => fun
  | [d1, d2] => { results := [.lit (.bool true)], args := [d1, d2] }
  | _ => none }
def scanTellsRow : OpenClaim := { program := "ytlojkphocbbjdab", sum := "f3599ef020823655f208ec3264622f389ab9b96a90753c203540d3e37e894505", func := "backstitch/backstitchlaw3.ScanTells", spec := "scanTells", unfollowed := true, recurses := true, apart := false }
def ScanTellsSaid : Prop := scanTellsRow.holds Try.pinned (OpenSpec.ofChange scanTellsSpec)

/-- ITS FALSE NEIGHBOUR: 'it returns false'. Refute it at one input. -/
def scanTellsWrong : ChangeSpec := { name := "scanTells", fn := fun _ => fun
  | [d1, d2] => { results := [.lit (.bool false)], args := [d1, d2] }
  | _ => none }
def ScanTellsWrongFalsely : Prop := scanTellsRow.holds Try.pinned (OpenSpec.ofChange scanTellsWrong)

/-- 'backstitchlaw3.ScanClash': WHATEVER THE INPUT: true; the input reads as it did. -/
def scanClashSpec : ChangeSpec := { name := "scanClash", fn := fun _ => fun
  | [d1, d2] => { results := [.lit (.bool true)], args := [d1, d2] }
  | _ => none }
def scanClashRow : OpenClaim := { program := "ytlojkphocbbjdab", sum := "f3599ef020823655f208ec3264622f389ab9b96a90753c203540d3e37e894505", func := "backstitch/backstitchlaw3.ScanClash", spec := "scanClash", unfollowed := true, recurses := true, apart := false }
def ScanClashSaid : Prop := scanClashRow.holds Try.pinned (OpenSpec.ofChange scanClashSpec)

/-- ITS FALSE NEIGHBOUR: 'it returns false'. Refute it at one input. -/
def scanClashWrong : ChangeSpec := { name := "scanClash", fn := fun _ => fun
  | [d1, d2] => { results := [.lit (.bool false)], args := [d1, d2] }
  | _ => none }
def ScanClashWrongFalsely : Prop := scanClashRow.holds Try.pinned (OpenSpec.ofChange scanClashWrong)

/-- 'backstitchlaw3.OrderBytes': WHATEVER THE INPUT: true; the input reads as it did. -/
def orderBytesSpec : ChangeSpec := { name := "orderBytes", fn := fun _ => fun
  | [d] => { results := [.lit (.bool true)], args := [d] }
  | _ => none }
def orderBytesRow : OpenClaim := { program := "ytlojkphocbbjdab", sum := "f3599ef020823655f208ec3264622f389ab9b96a90753c203540d3e37e894505", func := "backstitch/backstitchlaw3.OrderBytes", spec := "orderBytes", unfollowed := true, recurses := true, apart := false }
def OrderBytesSaid : Prop := orderBytesRow.holds Try.pinned (OpenSpec.ofChange orderBytesSpec)

/-- ITS FALSE NEIGHBOUR: 'it returns false'. Refute it at one input. -/
def orderBytesWrong : ChangeSpec := { name := "orderBytes", fn := fun _ => fun
  | [d] => { results := [.lit (.bool false)], args := [d] }
  | _ => none }
def OrderBytesWrongFalsely : Prop := orderBytesRow.holds Try.pinned (OpenSpec.ofChange orderBytesWrong)

/-- 'backstitchlaw3.StoreTells': WHATEVER THE INPUT: true; the input reads as it did. -/
def storeTellsSpec : ChangeSpec := { name := "storeTells", fn := fun _ => fun
  | [d1, d2] => { results := [.lit (.bool true)], args := [d1, d2] }
  | _ => none }
def storeTellsRow : OpenClaim := { program := "ytlojkphocbbjdab", sum := "f3599ef020823655f208ec3264622f389ab9b96a90753c203540d3e37e894505", func := "backstitch/backstitchlaw3.StoreTells", spec := "storeTells", unfollowed := true, recurses := true, apart := false }
def StoreTellsSaid : Prop := storeTellsRow.holds Try.pinned (OpenSpec.ofChange storeTellsSpec)

/-- ITS FALSE NEIGHBOUR: 'it returns false'. Refute it at one input. -/
def storeTellsWrong : ChangeSpec := { name := "storeTells", fn := fun _ => fun
  | [d1, d2] => { results := [.lit (.bool false)], args := [d1, d2] }
  | _ => none }
def StoreTellsWrongFalsely : Prop := storeTellsRow.holds Try.pinned (OpenSpec.ofChange storeTellsWrong)

/-- 'backstitchlaw3.EndsTell': WHATEVER THE INPUT: true; the input reads as it did. -/
def endsTellSpec : ChangeSpec := { name := "endsTell", fn := fun _ => fun
  | [d1, d2] => { results := [.lit (.bool true)], args := [d1, d2] }
  | _ => none }
def endsTellRow : OpenClaim := { program := "ytlojkphocbbjdab", sum := "f3599ef020823655f208ec3264622f389ab9b96a90753c203540d3e37e894505", func := "backstitch/backstitchlaw3.EndsTell", spec := "endsTell", unfollowed := true, recurses := true, apart := false }
def EndsTellSaid : Prop := endsTellRow.holds Try.pinned (OpenSpec.ofChange endsTellSpec)

/-- ITS FALSE NEIGHBOUR: 'it returns false'. Refute it at one input. -/
def endsTellWrong : ChangeSpec := { name := "endsTell", fn := fun _ => fun
  | [d1, d2] => { results := [.lit (.bool false)], args := [d1, d2] }
  | _ => none }
def EndsTellWrongFalsely : Prop := endsTellRow.holds Try.pinned (OpenSpec.ofChange endsTellWrong)

/-- 'backstitchlaw3.GensTells': WHATEVER THE INPUT: true; the input reads as it did. -/
def gensTellsSpec : ChangeSpec := { name := "gensTells", fn := fun _ => fun
  | [d1, d2] => { results := [.lit (.bool true)], args := [d1, d2] }
  | _ => none }
def gensTellsRow : OpenClaim := { program := "ytlojkphocbbjdab", sum := "f3599ef020823655f208ec3264622f389ab9b96a90753c203540d3e37e894505", func := "backstitch/backstitchlaw3.GensTells", spec := "gensTells", unfollowed := true, recurses := true, apart := false }
def GensTellsSaid : Prop := gensTellsRow.holds Try.pinned (OpenSpec.ofChange gensTellsSpec)

/-- ITS FALSE NEIGHBOUR: 'it returns false'. Refute it at one input. -/
def gensTellsWrong : ChangeSpec := { name := "gensTells", fn := fun _ => fun
  | [d1, d2] => { results := [.lit (.bool false)], args := [d1, d2] }
  | _ => none }
def GensTellsWrongFalsely : Prop := gensTellsRow.holds Try.pinned (OpenSpec.ofChange gensTellsWrong)

/- THE SECOND FORM. 'bulk': how many values and letters a reading holds, each counted each time it is reached (what is shared counts as often as it is met; a slice's spare places count too). A statement '..UptoSaid' is the law's where the arguments, and the package variables that the reading takes, are together of bulk at most 1048576: NARROWER than '..Said'. Prove '..Said' where nothing that the law and all that it calls make is longer than what came in: it says more and counts as full. Else prove '..UptoSaid'. A law counts once. -/
mutual
def uptoBulk {H : Type} : DataW H → Nat
  | .lit (.string bytes) => bytes.length + 1
  | .lit _ => 1
  | .nil => 1
  | .ptr d => uptoBulk d + 1
  | .slice elems spare => uptoBulkAll elems + uptoBulkAll spare + 1
  | .agg parts => uptoBulkAll parts + 1
  | .iface _ d => uptoBulk d + 1
  | .map entries => uptoBulkEntries entries + 1
  | .held _ => 1
def uptoBulkAll {H : Type} : List (DataW H) → Nat
  | [] => 0
  | d :: r => uptoBulk d + uptoBulkAll r
def uptoBulkEntries {H : Type} : List (Lit × DataW H) → Nat
  | [] => 0
  | x :: r => uptoBulkEntry x + uptoBulkEntries r
def uptoBulkEntry {H : Type} : Lit × DataW H → Nat
  | (.string bytes, d) => bytes.length + uptoBulk d + 1
  | (_, d) => uptoBulk d + 1
 end
def uptoSmall : (H : Type) → List (DataW H) → Bool := fun _ ds => decide (uptoBulkAll ds ≤ 1048576)
def OpenSpec.upto (s : _root_.Go.ChangeSpec) : _root_.Go.OpenSpec := { _root_.Go.OpenSpec.ofChange s with cond := some uptoSmall }

/-- 'backstitchlaw3.MarkTells', WHERE WHAT IT READS IS OF BULK AT MOST 1048576: true; the input reads as it did. -/
def markTellsUptoRow : OpenClaim := { program := "ytlojkphocbbjdab", sum := "f3599ef020823655f208ec3264622f389ab9b96a90753c203540d3e37e894505", func := "backstitch/backstitchlaw3.MarkTells", spec := "markTells", unfollowed := true, recurses := true, apart := false, narrowed := true }
def MarkTellsUptoSaid : Prop := markTellsUptoRow.holds Try.pinned (OpenSpec.upto markTellsSpec)

/-- 'backstitchlaw3.ScanTells', WHERE WHAT IT READS IS OF BULK AT MOST 1048576: true; the input reads as it did. -/
def scanTellsUptoRow : OpenClaim := { program := "ytlojkphocbbjdab", sum := "f3599ef020823655f208ec3264622f389ab9b96a90753c203540d3e37e894505", func := "backstitch/backstitchlaw3.ScanTells", spec := "scanTells", unfollowed := true, recurses := true, apart := false, narrowed := true }
def ScanTellsUptoSaid : Prop := scanTellsUptoRow.holds Try.pinned (OpenSpec.upto scanTellsSpec)

/-- 'backstitchlaw3.ScanClash', WHERE WHAT IT READS IS OF BULK AT MOST 1048576: true; the input reads as it did. -/
def scanClashUptoRow : OpenClaim := { program := "ytlojkphocbbjdab", sum := "f3599ef020823655f208ec3264622f389ab9b96a90753c203540d3e37e894505", func := "backstitch/backstitchlaw3.ScanClash", spec := "scanClash", unfollowed := true, recurses := true, apart := false, narrowed := true }
def ScanClashUptoSaid : Prop := scanClashUptoRow.holds Try.pinned (OpenSpec.upto scanClashSpec)

/-- 'backstitchlaw3.OrderBytes', WHERE WHAT IT READS IS OF BULK AT MOST 1048576: true; the input reads as it did. -/
def orderBytesUptoRow : OpenClaim := { program := "ytlojkphocbbjdab", sum := "f3599ef020823655f208ec3264622f389ab9b96a90753c203540d3e37e894505", func := "backstitch/backstitchlaw3.OrderBytes", spec := "orderBytes", unfollowed := true, recurses := true, apart := false, narrowed := true }
def OrderBytesUptoSaid : Prop := orderBytesUptoRow.holds Try.pinned (OpenSpec.upto orderBytesSpec)

/-- 'backstitchlaw3.StoreTells', WHERE WHAT IT READS IS OF BULK AT MOST 1048576: true; the input reads as it did. -/
def storeTellsUptoRow : OpenClaim := { program := "ytlojkphocbbjdab", sum := "f3599ef020823655f208ec3264622f389ab9b96a90753c203540d3e37e894505", func := "backstitch/backstitchlaw3.StoreTells", spec := "storeTells", unfollowed := true, recurses := true, apart := false, narrowed := true }
def StoreTellsUptoSaid : Prop := storeTellsUptoRow.holds Try.pinned (OpenSpec.upto storeTellsSpec)

/-- 'backstitchlaw3.EndsTell', WHERE WHAT IT READS IS OF BULK AT MOST 1048576: true; the input reads as it did. -/
def endsTellUptoRow : OpenClaim := { program := "ytlojkphocbbjdab", sum := "f3599ef020823655f208ec3264622f389ab9b96a90753c203540d3e37e894505", func := "backstitch/backstitchlaw3.EndsTell", spec := "endsTell", unfollowed := true, recurses := true, apart := false, narrowed := true }
def EndsTellUptoSaid : Prop := endsTellUptoRow.holds Try.pinned (OpenSpec.upto endsTellSpec)

/-- 'backstitchlaw3.GensTells', WHERE WHAT IT READS IS OF BULK AT MOST 1048576: true; the input reads as it did. -/
def gensTellsUptoRow : OpenClaim := { program := "ytlojkphocbbjdab", sum := "f3599ef020823655f208ec3264622f389ab9b96a90753c203540d3e37e894505", func := "backstitch/backstitchlaw3.GensTells", spec := "gensTells", unfollowed := true, recurses := true, apart := false, narrowed := true }
def GensTellsUptoSaid : Prop := gensTellsUptoRow.holds Try.pinned (OpenSpec.upto gensTellsSpec)

end Rows
end Go.Proofs.Ytlojkphocbbjdab
