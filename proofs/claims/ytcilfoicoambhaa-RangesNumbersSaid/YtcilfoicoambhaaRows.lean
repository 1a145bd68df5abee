/-
  No cell of these rows narrows 'for every input' (looked for: loops, veiled, ifaces, maps, wideKeys, modest, calm, conditions, laid).
  DERIVED. THE GIVEN ROWS OF THIS SEAT. 11 by the template 'for every input the law returns true; each argument reads behind the call as it read before'; 0 by the template 'total and deterministic' (their statements: YtcilfoicoambhaaTotals.lean).
  GIVEN WITH THE SEED: the statements are not yours to turn. If you find one false, say at which input.
  Laid BY PROGRAM, IN A SANDBOX (cutbox-rows.mjs): the forced cells as the released guide's own fill.sh prints them over the translation fd313be46466744f… (all of the seat's roots in one cut). By AI agents, Wed Nov 11 2026. No macro, syntax, notation, axiom, sorry.
-/
import Derived.Test.YtcilfoicoambhaaChecked
import GoSem.Claim
import GoSem.ClaimJoined
import GoSem.ClaimMapViews
import Derived.JoinedTies
import Derived.KernelRfl
namespace Go.Proofs.Ytcilfoicoambhaa
/- THE CELL 'sum', in the pinned program and in every row, IS THE sha256 OF THE DUMP (.gsa) THAT YtcilfoicoambhaaProg.lean LOADS. Nothing in Lean hashes anything: it is a label: what it is worth is what the hold of that sum in a sandbox is worth. -/
noncomputable def Try.pinned : Pinned := { name := "ytcilfoicoambhaa", sum := "fd313be46466744ff47903ad41125a66501c5915591daa4a0fff83b6925e0cac", checked := Try.checked }
namespace Rows
def none {H : Type} : Left H := { results := [], args := [] }

/-- 'mailcoachlaw16.StreamCredit': WHATEVER THE INPUT: true; the input reads as it did. -/
def streamCreditSpec : ChangeSpec := { name := "streamCredit", fn := fun _ => fun
  | [d1, d2, d3] => { results := [.lit (.bool true)], args := [d1, d2, d3] }
  | _ => none }
def streamCreditRow : OpenClaim := { program := "ytcilfoicoambhaa", sum := "fd313be46466744ff47903ad41125a66501c5915591daa4a0fff83b6925e0cac", func := "mailcoach/mailcoachlaw16.StreamCredit", spec := "streamCredit", unfollowed := true, recurses := true, apart := false }
def StreamCreditSaid : Prop := streamCreditRow.holds Try.pinned (OpenSpec.ofChange streamCreditSpec)

/-- ITS FALSE NEIGHBOUR: 'it returns false'. Refute it at one input. -/
def streamCreditWrong : ChangeSpec := { name := "streamCredit", fn := fun _ => fun
  | [d1, d2, d3] => { results := [.lit (.bool false)], args := [d1, d2, d3] }
  | _ => none }
def StreamCreditWrongFalsely : Prop := streamCreditRow.holds Try.pinned (OpenSpec.ofChange streamCreditWrong)

/-- 'mailcoachlaw21.H3frameBack': WHATEVER THE INPUT: true; the input reads as it did. -/
def h3frameBackSpec : ChangeSpec := { name := "h3frameBack", fn := fun _ => fun
  | [d1, d2] => { results := [.lit (.bool true)], args := [d1, d2] }
  | _ => none }
def h3frameBackRow : OpenClaim := { program := "ytcilfoicoambhaa", sum := "fd313be46466744ff47903ad41125a66501c5915591daa4a0fff83b6925e0cac", func := "mailcoach/mailcoachlaw21.H3frameBack", spec := "h3frameBack", unfollowed := true, recurses := true, apart := false }
def H3frameBackSaid : Prop := h3frameBackRow.holds Try.pinned (OpenSpec.ofChange h3frameBackSpec)

/-- ITS FALSE NEIGHBOUR: 'it returns false'. Refute it at one input. -/
def h3frameBackWrong : ChangeSpec := { name := "h3frameBack", fn := fun _ => fun
  | [d1, d2] => { results := [.lit (.bool false)], args := [d1, d2] }
  | _ => none }
def H3frameBackWrongFalsely : Prop := h3frameBackRow.holds Try.pinned (OpenSpec.ofChange h3frameBackWrong)

/-- 'mailcoachlaw21.H3frameStreams': WHATEVER THE INPUT: true; the input reads as it did. -/
def h3frameStreamsSpec : ChangeSpec := { name := "h3frameStreams", fn := fun _ => fun
  | [d1, d2] => { results := [.lit (.bool true)], args := [d1, d2] }
  | _ => none }
def h3frameStreamsRow : OpenClaim := { program := "ytcilfoicoambhaa", sum := "fd313be46466744ff47903ad41125a66501c5915591daa4a0fff83b6925e0cac", func := "mailcoach/mailcoachlaw21.H3frameStreams", spec := "h3frameStreams", unfollowed := true, recurses := true, apart := false }
def H3frameStreamsSaid : Prop := h3frameStreamsRow.holds Try.pinned (OpenSpec.ofChange h3frameStreamsSpec)

/-- ITS FALSE NEIGHBOUR: 'it returns false'. Refute it at one input. -/
def h3frameStreamsWrong : ChangeSpec := { name := "h3frameStreams", fn := fun _ => fun
  | [d1, d2] => { results := [.lit (.bool false)], args := [d1, d2] }
  | _ => none }
def H3frameStreamsWrongFalsely : Prop := h3frameStreamsRow.holds Try.pinned (OpenSpec.ofChange h3frameStreamsWrong)

/-- 'mailcoachlaw15.LedgerEven': WHATEVER THE INPUT: true; the input reads as it did. -/
def ledgerEvenSpec : ChangeSpec := { name := "ledgerEven", fn := fun _ => fun
  | [d1, d2, d3] => { results := [.lit (.bool true)], args := [d1, d2, d3] }
  | _ => none }
def ledgerEvenRow : OpenClaim := { program := "ytcilfoicoambhaa", sum := "fd313be46466744ff47903ad41125a66501c5915591daa4a0fff83b6925e0cac", func := "mailcoach/mailcoachlaw15.LedgerEven", spec := "ledgerEven", unfollowed := true, recurses := true, apart := false }
def LedgerEvenSaid : Prop := ledgerEvenRow.holds Try.pinned (OpenSpec.ofChange ledgerEvenSpec)

/-- ITS FALSE NEIGHBOUR: 'it returns false'. Refute it at one input. -/
def ledgerEvenWrong : ChangeSpec := { name := "ledgerEven", fn := fun _ => fun
  | [d1, d2, d3] => { results := [.lit (.bool false)], args := [d1, d2, d3] }
  | _ => none }
def LedgerEvenWrongFalsely : Prop := ledgerEvenRow.holds Try.pinned (OpenSpec.ofChange ledgerEvenWrong)

/-- 'mailcoachlaw15.LedgerOnce': WHATEVER THE INPUT: true; the input reads as it did. -/
def ledgerOnceSpec : ChangeSpec := { name := "ledgerOnce", fn := fun _ => fun
  | [d] => { results := [.lit (.bool true)], args := [d] }
  | _ => none }
def ledgerOnceRow : OpenClaim := { program := "ytcilfoicoambhaa", sum := "fd313be46466744ff47903ad41125a66501c5915591daa4a0fff83b6925e0cac", func := "mailcoach/mailcoachlaw15.LedgerOnce", spec := "ledgerOnce", unfollowed := true, recurses := true, apart := false }
def LedgerOnceSaid : Prop := ledgerOnceRow.holds Try.pinned (OpenSpec.ofChange ledgerOnceSpec)

/-- ITS FALSE NEIGHBOUR: 'it returns false'. Refute it at one input. -/
def ledgerOnceWrong : ChangeSpec := { name := "ledgerOnce", fn := fun _ => fun
  | [d] => { results := [.lit (.bool false)], args := [d] }
  | _ => none }
def LedgerOnceWrongFalsely : Prop := ledgerOnceRow.holds Try.pinned (OpenSpec.ofChange ledgerOnceWrong)

/-- 'mailcoachlaw08.RangesAgain': WHATEVER THE INPUT: true; the input reads as it did. -/
def rangesAgainSpec : ChangeSpec := { name := "rangesAgain", fn := fun _ => fun
  | [d1, d2] => { results := [.lit (.bool true)], args := [d1, d2] }
  | _ => none }
def rangesAgainRow : OpenClaim := { program := "ytcilfoicoambhaa", sum := "fd313be46466744ff47903ad41125a66501c5915591daa4a0fff83b6925e0cac", func := "mailcoach/mailcoachlaw08.RangesAgain", spec := "rangesAgain", unfollowed := true, recurses := true, apart := false }
def RangesAgainSaid : Prop := rangesAgainRow.holds Try.pinned (OpenSpec.ofChange rangesAgainSpec)

/-- ITS FALSE NEIGHBOUR: 'it returns false'. Refute it at one input. -/
def rangesAgainWrong : ChangeSpec := { name := "rangesAgain", fn := fun _ => fun
  | [d1, d2] => { results := [.lit (.bool false)], args := [d1, d2] }
  | _ => none }
def RangesAgainWrongFalsely : Prop := rangesAgainRow.holds Try.pinned (OpenSpec.ofChange rangesAgainWrong)

/-- 'mailcoachlaw08.RangesSwap': WHATEVER THE INPUT: true; the input reads as it did. -/
def rangesSwapSpec : ChangeSpec := { name := "rangesSwap", fn := fun _ => fun
  | [d1, d2, d3] => { results := [.lit (.bool true)], args := [d1, d2, d3] }
  | _ => none }
def rangesSwapRow : OpenClaim := { program := "ytcilfoicoambhaa", sum := "fd313be46466744ff47903ad41125a66501c5915591daa4a0fff83b6925e0cac", func := "mailcoach/mailcoachlaw08.RangesSwap", spec := "rangesSwap", unfollowed := true, recurses := true, apart := false }
def RangesSwapSaid : Prop := rangesSwapRow.holds Try.pinned (OpenSpec.ofChange rangesSwapSpec)

/-- ITS FALSE NEIGHBOUR: 'it returns false'. Refute it at one input. -/
def rangesSwapWrong : ChangeSpec := { name := "rangesSwap", fn := fun _ => fun
  | [d1, d2, d3] => { results := [.lit (.bool false)], args := [d1, d2, d3] }
  | _ => none }
def RangesSwapWrongFalsely : Prop := rangesSwapRow.holds Try.pinned (OpenSpec.ofChange rangesSwapWrong)

/-- 'mailcoachlaw16.StreamAll': WHATEVER THE INPUT: true; the input reads as it did. -/
def streamAllSpec : ChangeSpec := { name := "streamAll", fn := fun _ => fun
  | [d1, d2, d3] => { results := [.lit (.bool true)], args := [d1, d2, d3] }
  | _ => none }
def streamAllRow : OpenClaim := { program := "ytcilfoicoambhaa", sum := "fd313be46466744ff47903ad41125a66501c5915591daa4a0fff83b6925e0cac", func := "mailcoach/mailcoachlaw16.StreamAll", spec := "streamAll", unfollowed := true, recurses := true, apart := false }
def StreamAllSaid : Prop := streamAllRow.holds Try.pinned (OpenSpec.ofChange streamAllSpec)

/-- ITS FALSE NEIGHBOUR: 'it returns false'. Refute it at one input. -/
def streamAllWrong : ChangeSpec := { name := "streamAll", fn := fun _ => fun
  | [d1, d2, d3] => { results := [.lit (.bool false)], args := [d1, d2, d3] }
  | _ => none }
def StreamAllWrongFalsely : Prop := streamAllRow.holds Try.pinned (OpenSpec.ofChange streamAllWrong)

/-- 'mailcoachlaw08.RangesHas': WHATEVER THE INPUT: true; the input reads as it did. -/
def rangesHasSpec : ChangeSpec := { name := "rangesHas", fn := fun _ => fun
  | [d1, d2, d3] => { results := [.lit (.bool true)], args := [d1, d2, d3] }
  | _ => none }
def rangesHasRow : OpenClaim := { program := "ytcilfoicoambhaa", sum := "fd313be46466744ff47903ad41125a66501c5915591daa4a0fff83b6925e0cac", func := "mailcoach/mailcoachlaw08.RangesHas", spec := "rangesHas", unfollowed := true, recurses := true, apart := false }
def RangesHasSaid : Prop := rangesHasRow.holds Try.pinned (OpenSpec.ofChange rangesHasSpec)

/-- ITS FALSE NEIGHBOUR: 'it returns false'. Refute it at one input. -/
def rangesHasWrong : ChangeSpec := { name := "rangesHas", fn := fun _ => fun
  | [d1, d2, d3] => { results := [.lit (.bool false)], args := [d1, d2, d3] }
  | _ => none }
def RangesHasWrongFalsely : Prop := rangesHasRow.holds Try.pinned (OpenSpec.ofChange rangesHasWrong)

/-- 'mailcoachlaw08.RangesBoth': WHATEVER THE INPUT: true; the input reads as it did. -/
def rangesBothSpec : ChangeSpec := { name := "rangesBoth", fn := fun _ => fun
  | [d1, d2, d3] => { results := [.lit (.bool true)], args := [d1, d2, d3] }
  | _ => none }
def rangesBothRow : OpenClaim := { program := "ytcilfoicoambhaa", sum := "fd313be46466744ff47903ad41125a66501c5915591daa4a0fff83b6925e0cac", func := "mailcoach/mailcoachlaw08.RangesBoth", spec := "rangesBoth", unfollowed := true, recurses := true, apart := false }
def RangesBothSaid : Prop := rangesBothRow.holds Try.pinned (OpenSpec.ofChange rangesBothSpec)

/-- ITS FALSE NEIGHBOUR: 'it returns false'. Refute it at one input. -/
def rangesBothWrong : ChangeSpec := { name := "rangesBoth", fn := fun _ => fun
  | [d1, d2, d3] => { results := [.lit (.bool false)], args := [d1, d2, d3] }
  | _ => none }
def RangesBothWrongFalsely : Prop := rangesBothRow.holds Try.pinned (OpenSpec.ofChange rangesBothWrong)

/-- 'mailcoachlaw08.RangesNumbers': WHATEVER THE INPUT: true; the input reads as it did. -/
def rangesNumbersSpec : ChangeSpec := { name := "rangesNumbers", fn := fun _ => fun
  | [d] => { results := [.lit (.bool true)], args := [d] }
  | _ => none }
def rangesNumbersRow : OpenClaim := { program := "ytcilfoicoambhaa", sum := "fd313be46466744ff47903ad41125a66501c5915591daa4a0fff83b6925e0cac", func := "mailcoach/mailcoachlaw08.RangesNumbers", spec := "rangesNumbers", unfollowed := true, recurses := true, apart := false }
def RangesNumbersSaid : Prop := rangesNumbersRow.holds Try.pinned (OpenSpec.ofChange rangesNumbersSpec)

/-- ITS FALSE NEIGHBOUR: 'it returns false'. Refute it at one input. -/
def rangesNumbersWrong : ChangeSpec := { name := "rangesNumbers", fn := fun _ => fun
  | [d] => { results := [.lit (.bool false)], args := [d] }
  | _ => none }
def RangesNumbersWrongFalsely : Prop := rangesNumbersRow.holds Try.pinned (OpenSpec.ofChange rangesNumbersWrong)

/- THE SECOND FORM. 'bulk': how many values and letters a reading holds, each counted each time it is reached (what is shared counts as often as it is met; a slice's spare places count too). A statement '..UptoSaid' is the law's where the arguments, and the package variables that the reading takes, are together of bulk at most 1048576: NARROWER than '..Said'. Prove '..Said' where nothing that the law and all that it calls make is longer than what came in: it says more and counts as full. Else prove '..UptoSaid'. A law counts once. -/
mutual
def uptoBulk {H : Type} : DataW H → Nat
  | .lit (.string bytes) => bytes.length + 1
  | .lit _ => 1
  | .nil => 1
  | .ptr d => uptoBulk d + 1
  | .slice elems spare => uptoBulkAll elems + uptoBulkAll spare + 1
  | .agg parts => uptoBulkAll parts + 1
  | .iface _ d => uptoBulk d + 1
  | .map entries => uptoBulkEntries entries + 1
  | .held _ => 1
def uptoBulkAll {H : Type} : List (DataW H) → Nat
  | [] => 0
  | d :: r => uptoBulk d + uptoBulkAll r
def uptoBulkEntries {H : Type} : List (Lit × DataW H) → Nat
  | [] => 0
  | x :: r => uptoBulkEntry x + uptoBulkEntries r
def uptoBulkEntry {H : Type} : Lit × DataW H → Nat
  | (.string bytes, d) => bytes.length + uptoBulk d + 1
  | (_, d) => uptoBulk d + 1
 end
def uptoSmall : (H : Type) → List (DataW H) → Bool := fun _ ds => decide (uptoBulkAll ds ≤ 1048576)
def OpenSpec.upto (s : _root_.Go.ChangeSpec) : _root_.Go.OpenSpec := { _root_.Go.OpenSpec.ofChange s with cond := some uptoSmall }

/-- 'mailcoachlaw16.StreamCredit', WHERE WHAT IT READS IS OF BULK AT MOST 1048576: true; the input reads as it did. -/
def streamCreditUptoRow : OpenClaim := { program := "ytcilfoicoambhaa", sum := "fd313be46466744ff47903ad41125a66501c5915591daa4a0fff83b6925e0cac", func := "mailcoach/mailcoachlaw16.StreamCredit", spec := "streamCredit", unfollowed := true, recurses := true, apart := false, narrowed := true }
def StreamCreditUptoSaid : Prop := streamCreditUptoRow.holds Try.pinned (OpenSpec.upto streamCreditSpec)

/-- 'mailcoachlaw21.H3frameBack', WHERE WHAT IT READS IS OF BULK AT MOST 1048576: true; the input reads as it did. -/
def h3frameBackUptoRow : OpenClaim := { program := "ytcilfoicoambhaa", sum := "fd313be46466744ff47903ad41125a66501c5915591daa4a0fff83b6925e0cac", func := "mailcoach/mailcoachlaw21.H3frameBack", spec := "h3frameBack", unfollowed := true, recurses := true, apart := false, narrowed := true }
def H3frameBackUptoSaid : Prop := h3frameBackUptoRow.holds Try.pinned (OpenSpec.upto h3frameBackSpec)

/-- 'mailcoachlaw21.H3frameStreams', WHERE WHAT IT READS IS OF BULK AT MOST 1048576: true; the input reads as it did. -/
def h3frameStreamsUptoRow : OpenClaim := { program := "ytcilfoicoambhaa", sum := "fd313be46466744ff47903ad41125a66501c5915591daa4a0fff83b6925e0cac", func := "mailcoach/mailcoachlaw21.H3frameStreams", spec := "h3frameStreams", unfollowed := true, recurses := true, apart := false, narrowed := true }
def H3frameStreamsUptoSaid : Prop := h3frameStreamsUptoRow.holds Try.pinned (OpenSpec.upto h3frameStreamsSpec)

/-- 'mailcoachlaw15.LedgerEven', WHERE WHAT IT READS IS OF BULK AT MOST 1048576: true; the input reads as it did. -/
def ledgerEvenUptoRow : OpenClaim := { program := "ytcilfoicoambhaa", sum := "fd313be46466744ff47903ad41125a66501c5915591daa4a0fff83b6925e0cac", func := "mailcoach/mailcoachlaw15.LedgerEven", spec := "ledgerEven", unfollowed := true, recurses := true, apart := false, narrowed := true }
def LedgerEvenUptoSaid : Prop := ledgerEvenUptoRow.holds Try.pinned (OpenSpec.upto ledgerEvenSpec)

/-- 'mailcoachlaw15.LedgerOnce', WHERE WHAT IT READS IS OF BULK AT MOST 1048576: true; the input reads as it did. -/
def ledgerOnceUptoRow : OpenClaim := { program := "ytcilfoicoambhaa", sum := "fd313be46466744ff47903ad41125a66501c5915591daa4a0fff83b6925e0cac", func := "mailcoach/mailcoachlaw15.LedgerOnce", spec := "ledgerOnce", unfollowed := true, recurses := true, apart := false, narrowed := true }
def LedgerOnceUptoSaid : Prop := ledgerOnceUptoRow.holds Try.pinned (OpenSpec.upto ledgerOnceSpec)

/-- 'mailcoachlaw08.RangesAgain', WHERE WHAT IT READS IS OF BULK AT MOST 1048576: true; the input reads as it did. -/
def rangesAgainUptoRow : OpenClaim := { program := "ytcilfoicoambhaa", sum := "fd313be46466744ff47903ad41125a66501c5915591daa4a0fff83b6925e0cac", func := "mailcoach/mailcoachlaw08.RangesAgain", spec := "rangesAgain", unfollowed := true, recurses := true, apart := false, narrowed := true }
def RangesAgainUptoSaid : Prop := rangesAgainUptoRow.holds Try.pinned (OpenSpec.upto rangesAgainSpec)

/-- 'mailcoachlaw08.RangesSwap', WHERE WHAT IT READS IS OF BULK AT MOST 1048576: true; the input reads as it did. -/
def rangesSwapUptoRow : OpenClaim := { program := "ytcilfoicoambhaa", sum := "fd313be46466744ff47903ad41125a66501c5915591daa4a0fff83b6925e0cac", func := "mailcoach/mailcoachlaw08.RangesSwap", spec := "rangesSwap", unfollowed := true, recurses := true, apart := false, narrowed := true }
def RangesSwapUptoSaid : Prop := rangesSwapUptoRow.holds Try.pinned (OpenSpec.upto rangesSwapSpec)

/-- 'mailcoachlaw16.StreamAll', WHERE WHAT IT READS IS OF BULK AT MOST 1048576: true; the input reads as it did. -/
def streamAllUptoRow : OpenClaim := { program := "ytcilfoicoambhaa", sum := "fd313be46466744ff47903ad41125a66501c5915591daa4a0fff83b6925e0cac", func := "mailcoach/mailcoachlaw16.StreamAll", spec := "streamAll", unfollowed := true, recurses := true, apart := false, narrowed := true }
def StreamAllUptoSaid : Prop := streamAllUptoRow.holds Try.pinned (OpenSpec.upto streamAllSpec)

/-- 'mailcoachlaw08.RangesHas', WHERE WHAT IT READS IS OF BULK AT MOST 1048576: true; the input reads as it did. -/
def rangesHasUptoRow : OpenClaim := { program := "ytcilfoicoambhaa", sum := "fd313be46466744ff47903ad41125a66501c5915591daa4a0fff83b6925e0cac", func := "mailcoach/mailcoachlaw08.RangesHas", spec := "rangesHas", unfollowed := true, recurses := true, apart := false, narrowed := true }
def RangesHasUptoSaid : Prop := rangesHasUptoRow.holds Try.pinned (OpenSpec.upto rangesHasSpec)

/-- 'mailcoachlaw08.RangesBoth', WHERE WHAT IT READS IS OF BULK AT MOST 1048576: true; the input reads as it did. -/
def rangesBothUptoRow : OpenClaim := { program := "ytcilfoicoambhaa", sum := "fd313be46466744ff47903ad41125a66501c5915591daa4a0fff83b6925e0cac", func := "mailcoach/mailcoachlaw08.RangesBoth", spec := "rangesBoth", unfollowed := true, recurses := true, apart := false, narrowed := true }
def RangesBothUptoSaid : Prop := rangesBothUptoRow.holds Try.pinned (OpenSpec.upto rangesBothSpec)

/-- 'mailcoachlaw08.RangesNumbers', WHERE WHAT IT READS IS OF BULK AT MOST 1048576: true; the input reads as it did. -/
def rangesNumbersUptoRow : OpenClaim := { program := "ytcilfoicoambhaa", sum := "fd313be46466744ff47903ad41125a66501c5915591daa4a0fff83b6925e0cac", func := "mailcoach/mailcoachlaw08.RangesNumbers", spec := "rangesNumbers", unfollowed := true, recurses := true, apart := false, narrowed := true }
def RangesNumbersUptoSaid : Prop := rangesNumbersUptoRow.holds Try.pinned (OpenSpec.upto rangesNumbersSpec)

end Rows
end Go.Proofs.Ytcilfoicoambhaa
