/-
  No cell of these rows narrows 'for every input' (looked for: loops, veiled, ifaces, maps, wideKeys, modest, calm, conditions, laid).
  DERIVED. THE GIVEN ROWS OF THIS SEAT. 12 by the template 'for every input the law returns true; each argument reads behind the call as it read before'; 0 by the template 'total and deterministic' (their statements: YtbeldjhpbomonaaTotals.lean).
  GIVEN WITH THE SEED: the statements are not yours to turn. If you find one false, say at which input.
  Laid BY PROGRAM, IN A SANDBOX (cutbox-rows.mjs): the forced cells as the released guide's own fill.sh prints them over the translation 475ca6abf1f9f56e… (all of the seat's roots in one cut). By AI agents, Wed Nov 11 2026. No macro, syntax, notation, axiom, sorry.
-/
import Derived.Test.YtbeldjhpbomonaaChecked
import GoSem.Claim
import GoSem.ClaimJoined
import GoSem.ClaimMapViews
import Derived.JoinedTies
import Derived.KernelRfl
namespace Go.Proofs.Ytbeldjhpbomonaa
/- THE CELL 'sum', in the pinned program and in every row, IS THE sha256 OF THE DUMP (.gsa) THAT YtbeldjhpbomonaaProg.lean LOADS. Nothing in Lean hashes anything: it is a label: what it is worth is what the hold of that sum in a sandbox is worth. -/
noncomputable def Try.pinned : Pinned := { name := "ytbeldjhpbomonaa", sum := "475ca6abf1f9f56e6d20d67995cd8915126f1cf9a0b34e78bb37bd810c0ad620", checked := Try.checked }
namespace Rows
def none {H : Type} : Left H := { results := [], args := [] }

/-- 'tailwaterlaw34.SinkTakes': WHATEVER THE INPUT: true; the input reads as it did. -/
def sinkTakesSpec : ChangeSpec := { name := "sinkTakes", fn := fun _ => fun
  | [d1, d2, d3] => { results := [.lit (.bool true)], args := [d1, d2, d3] }
  | _ => none }
def sinkTakesRow : OpenClaim := { program := "ytbeldjhpbomonaa", sum := "475ca6abf1f9f56e6d20d67995cd8915126f1cf9a0b34e78bb37bd810c0ad620", func := "tailwater/tailwaterlaw34.SinkTakes", spec := "sinkTakes", apart := false }
def SinkTakesSaid : Prop := sinkTakesRow.holds Try.pinned (OpenSpec.ofChange sinkTakesSpec)

/-- ITS FALSE NEIGHBOUR: 'it returns false'. Refute it at one input. -/
def sinkTakesWrong : ChangeSpec := { name := "sinkTakes", fn := fun _ => fun
  | [d1, d2, d3] => { results := [.lit (.bool false)], args := [d1, d2, d3] }
  | _ => none }
def SinkTakesWrongFalsely : Prop := sinkTakesRow.holds Try.pinned (OpenSpec.ofChange sinkTakesWrong)

/-- 'tailwaterlaw34.SinkLate': WHATEVER THE INPUT: true; the input reads as it did. -/
def sinkLateSpec : ChangeSpec := { name := "sinkLate", fn := fun _ => fun
  | [d] => { results := [.lit (.bool true)], args := [d] }
  | _ => none }
def sinkLateRow : OpenClaim := { program := "ytbeldjhpbomonaa", sum := "475ca6abf1f9f56e6d20d67995cd8915126f1cf9a0b34e78bb37bd810c0ad620", func := "tailwater/tailwaterlaw34.SinkLate", spec := "sinkLate", unfollowed := true, recurses := true, apart := false }
def SinkLateSaid : Prop := sinkLateRow.holds Try.pinned (OpenSpec.ofChange sinkLateSpec)

/-- ITS FALSE NEIGHBOUR: 'it returns false'. Refute it at one input. -/
def sinkLateWrong : ChangeSpec := { name := "sinkLate", fn := fun _ => fun
  | [d] => { results := [.lit (.bool false)], args := [d] }
  | _ => none }
def SinkLateWrongFalsely : Prop := sinkLateRow.holds Try.pinned (OpenSpec.ofChange sinkLateWrong)

/-- 'tailwaterlaw34.SinkSorted': WHATEVER THE INPUT: true; the input reads as it did. -/
def sinkSortedSpec : ChangeSpec := { name := "sinkSorted", fn := fun _ => fun
  | [d1, d2] => { results := [.lit (.bool true)], args := [d1, d2] }
  | _ => none }
def sinkSortedRow : OpenClaim := { program := "ytbeldjhpbomonaa", sum := "475ca6abf1f9f56e6d20d67995cd8915126f1cf9a0b34e78bb37bd810c0ad620", func := "tailwater/tailwaterlaw34.SinkSorted", spec := "sinkSorted", unfollowed := true, recurses := true, apart := false }
def SinkSortedSaid : Prop := sinkSortedRow.holds Try.pinned (OpenSpec.ofChange sinkSortedSpec)

/-- ITS FALSE NEIGHBOUR: 'it returns false'. Refute it at one input. -/
def sinkSortedWrong : ChangeSpec := { name := "sinkSorted", fn := fun _ => fun
  | [d1, d2] => { results := [.lit (.bool false)], args := [d1, d2] }
  | _ => none }
def SinkSortedWrongFalsely : Prop := sinkSortedRow.holds Try.pinned (OpenSpec.ofChange sinkSortedWrong)

/-- 'tailwaterlaw34.SinkSorts': WHATEVER THE INPUT: true; the input reads as it did. -/
def sinkSortsSpec : ChangeSpec := { name := "sinkSorts", fn := fun _ => fun
  | [d1, d2, d3] => { results := [.lit (.bool true)], args := [d1, d2, d3] }
  | _ => none }
def sinkSortsRow : OpenClaim := { program := "ytbeldjhpbomonaa", sum := "475ca6abf1f9f56e6d20d67995cd8915126f1cf9a0b34e78bb37bd810c0ad620", func := "tailwater/tailwaterlaw34.SinkSorts", spec := "sinkSorts", unfollowed := true, recurses := true, apart := false }
def SinkSortsSaid : Prop := sinkSortsRow.holds Try.pinned (OpenSpec.ofChange sinkSortsSpec)

/-- ITS FALSE NEIGHBOUR: 'it returns false'. Refute it at one input. -/
def sinkSortsWrong : ChangeSpec := { name := "sinkSorts", fn := fun _ => fun
  | [d1, d2, d3] => { results := [.lit (.bool false)], args := [d1, d2, d3] }
  | _ => none }
def SinkSortsWrongFalsely : Prop := sinkSortsRow.holds Try.pinned (OpenSpec.ofChange sinkSortsWrong)

/-- 'tailwaterlaw34.SinkMultiset': WHATEVER THE INPUT: true; the input reads as it did. -/
def sinkMultisetSpec : ChangeSpec := { name := "sinkMultiset", fn := fun _ => fun
  | [d] => { results := [.lit (.bool true)], args := [d] }
  | _ => none }
def sinkMultisetRow : OpenClaim := { program := "ytbeldjhpbomonaa", sum := "475ca6abf1f9f56e6d20d67995cd8915126f1cf9a0b34e78bb37bd810c0ad620", func := "tailwater/tailwaterlaw34.SinkMultiset", spec := "sinkMultiset", unfollowed := true, recurses := true, apart := false }
def SinkMultisetSaid : Prop := sinkMultisetRow.holds Try.pinned (OpenSpec.ofChange sinkMultisetSpec)

/-- ITS FALSE NEIGHBOUR: 'it returns false'. Refute it at one input. -/
def sinkMultisetWrong : ChangeSpec := { name := "sinkMultiset", fn := fun _ => fun
  | [d] => { results := [.lit (.bool false)], args := [d] }
  | _ => none }
def SinkMultisetWrongFalsely : Prop := sinkMultisetRow.holds Try.pinned (OpenSpec.ofChange sinkMultisetWrong)

/-- 'tailwaterlaw34.SinkNames': WHATEVER THE INPUT: true; the input reads as it did. -/
def sinkNamesSpec : ChangeSpec := { name := "sinkNames", fn := fun _ => fun
  | [] => { results := [.lit (.bool true)], args := [] }
  | _ => none }
def sinkNamesRow : OpenClaim := { program := "ytbeldjhpbomonaa", sum := "475ca6abf1f9f56e6d20d67995cd8915126f1cf9a0b34e78bb37bd810c0ad620", func := "tailwater/tailwaterlaw34.SinkNames", spec := "sinkNames", unfollowed := true, recurses := true, apart := false }
def SinkNamesSaid : Prop := sinkNamesRow.holds Try.pinned (OpenSpec.ofChange sinkNamesSpec)

/-- ITS FALSE NEIGHBOUR: 'it returns false'. Refute it at one input. -/
def sinkNamesWrong : ChangeSpec := { name := "sinkNames", fn := fun _ => fun
  | [] => { results := [.lit (.bool false)], args := [] }
  | _ => none }
def SinkNamesWrongFalsely : Prop := sinkNamesRow.holds Try.pinned (OpenSpec.ofChange sinkNamesWrong)

/-- 'tailwaterlaw15.SessionHas': WHATEVER THE INPUT: true; the input reads as it did. -/
def sessionHasSpec : ChangeSpec := { name := "sessionHas", fn := fun _ => fun
  | [d1, d2] => { results := [.lit (.bool true)], args := [d1, d2] }
  | _ => none }
def sessionHasRow : OpenClaim := { program := "ytbeldjhpbomonaa", sum := "475ca6abf1f9f56e6d20d67995cd8915126f1cf9a0b34e78bb37bd810c0ad620", func := "tailwater/tailwaterlaw15.SessionHas", spec := "sessionHas", unfollowed := true, recurses := true, apart := false }
def SessionHasSaid : Prop := sessionHasRow.holds Try.pinned (OpenSpec.ofChange sessionHasSpec)

/-- ITS FALSE NEIGHBOUR: 'it returns false'. Refute it at one input. -/
def sessionHasWrong : ChangeSpec := { name := "sessionHas", fn := fun _ => fun
  | [d1, d2] => { results := [.lit (.bool false)], args := [d1, d2] }
  | _ => none }
def SessionHasWrongFalsely : Prop := sessionHasRow.holds Try.pinned (OpenSpec.ofChange sessionHasWrong)

/-- 'tailwaterlaw15.SessionNear': WHATEVER THE INPUT: true; the input reads as it did. -/
def sessionNearSpec : ChangeSpec := { name := "sessionNear", fn := fun _ => fun
  | [d1, d2] => { results := [.lit (.bool true)], args := [d1, d2] }
  | _ => none }
def sessionNearRow : OpenClaim := { program := "ytbeldjhpbomonaa", sum := "475ca6abf1f9f56e6d20d67995cd8915126f1cf9a0b34e78bb37bd810c0ad620", func := "tailwater/tailwaterlaw15.SessionNear", spec := "sessionNear", unfollowed := true, recurses := true, apart := false }
def SessionNearSaid : Prop := sessionNearRow.holds Try.pinned (OpenSpec.ofChange sessionNearSpec)

/-- ITS FALSE NEIGHBOUR: 'it returns false'. Refute it at one input. -/
def sessionNearWrong : ChangeSpec := { name := "sessionNear", fn := fun _ => fun
  | [d1, d2] => { results := [.lit (.bool false)], args := [d1, d2] }
  | _ => none }
def SessionNearWrongFalsely : Prop := sessionNearRow.holds Try.pinned (OpenSpec.ofChange sessionNearWrong)

/-- 'tailwaterlaw15.SessionAgain': WHATEVER THE INPUT: true; the input reads as it did. -/
def sessionAgainSpec : ChangeSpec := { name := "sessionAgain", fn := fun _ => fun
  | [d1, d2, d3] => { results := [.lit (.bool true)], args := [d1, d2, d3] }
  | _ => none }
def sessionAgainRow : OpenClaim := { program := "ytbeldjhpbomonaa", sum := "475ca6abf1f9f56e6d20d67995cd8915126f1cf9a0b34e78bb37bd810c0ad620", func := "tailwater/tailwaterlaw15.SessionAgain", spec := "sessionAgain", unfollowed := true, recurses := true, apart := false }
def SessionAgainSaid : Prop := sessionAgainRow.holds Try.pinned (OpenSpec.ofChange sessionAgainSpec)

/-- ITS FALSE NEIGHBOUR: 'it returns false'. Refute it at one input. -/
def sessionAgainWrong : ChangeSpec := { name := "sessionAgain", fn := fun _ => fun
  | [d1, d2, d3] => { results := [.lit (.bool false)], args := [d1, d2, d3] }
  | _ => none }
def SessionAgainWrongFalsely : Prop := sessionAgainRow.holds Try.pinned (OpenSpec.ofChange sessionAgainWrong)

/-- 'tailwaterlaw15.SessionTells': WHATEVER THE INPUT: true; the input reads as it did. -/
def sessionTellsSpec : ChangeSpec := { name := "sessionTells", fn := fun _ => fun
  | [d1, d2, d3, d4, d5] => { results := [.lit (.bool true)], args := [d1, d2, d3, d4, d5] }
  | _ => none }
def sessionTellsRow : OpenClaim := { program := "ytbeldjhpbomonaa", sum := "475ca6abf1f9f56e6d20d67995cd8915126f1cf9a0b34e78bb37bd810c0ad620", func := "tailwater/tailwaterlaw15.SessionTells", spec := "sessionTells", unfollowed := true, recurses := true, apart := false }
def SessionTellsSaid : Prop := sessionTellsRow.holds Try.pinned (OpenSpec.ofChange sessionTellsSpec)

/-- ITS FALSE NEIGHBOUR: 'it returns false'. Refute it at one input. -/
def sessionTellsWrong : ChangeSpec := { name := "sessionTells", fn := fun _ => fun
  | [d1, d2, d3, d4, d5] => { results := [.lit (.bool false)], args := [d1, d2, d3, d4, d5] }
  | _ => none }
def SessionTellsWrongFalsely : Prop := sessionTellsRow.holds Try.pinned (OpenSpec.ofChange sessionTellsWrong)

/-- 'tailwaterlaw15.SessionNames': WHATEVER THE INPUT: true; the input reads as it did. -/
def sessionNamesSpec : ChangeSpec := { name := "sessionNames", fn := fun _ => fun
  | [] => { results := [.lit (.bool true)], args := [] }
  | _ => none }
def sessionNamesRow : OpenClaim := { program := "ytbeldjhpbomonaa", sum := "475ca6abf1f9f56e6d20d67995cd8915126f1cf9a0b34e78bb37bd810c0ad620", func := "tailwater/tailwaterlaw15.SessionNames", spec := "sessionNames", unfollowed := true, recurses := true, apart := false }
def SessionNamesSaid : Prop := sessionNamesRow.holds Try.pinned (OpenSpec.ofChange sessionNamesSpec)

/-- ITS FALSE NEIGHBOUR: 'it returns false'. Refute it at one input. -/
def sessionNamesWrong : ChangeSpec := { name := "sessionNames", fn := fun _ => fun
  | [] => { results := [.lit (.bool false)], args := [] }
  | _ => none }
def SessionNamesWrongFalsely : Prop := sessionNamesRow.holds Try.pinned (OpenSpec.ofChange sessionNamesWrong)

/-- 'tailwaterlaw15.SessionOrder': WHATEVER THE INPUT: true; the input reads as it did. -/
def sessionOrderSpec : ChangeSpec := { name := "sessionOrder", fn := fun _ => fun
  | [d1, d2, d3] => { results := [.lit (.bool true)], args := [d1, d2, d3] }
  | _ => none }
def sessionOrderRow : OpenClaim := { program := "ytbeldjhpbomonaa", sum := "475ca6abf1f9f56e6d20d67995cd8915126f1cf9a0b34e78bb37bd810c0ad620", func := "tailwater/tailwaterlaw15.SessionOrder", spec := "sessionOrder", unfollowed := true, recurses := true, apart := false }
def SessionOrderSaid : Prop := sessionOrderRow.holds Try.pinned (OpenSpec.ofChange sessionOrderSpec)

/-- ITS FALSE NEIGHBOUR: 'it returns false'. Refute it at one input. -/
def sessionOrderWrong : ChangeSpec := { name := "sessionOrder", fn := fun _ => fun
  | [d1, d2, d3] => { results := [.lit (.bool false)], args := [d1, d2, d3] }
  | _ => none }
def SessionOrderWrongFalsely : Prop := sessionOrderRow.holds Try.pinned (OpenSpec.ofChange sessionOrderWrong)

/- THE SECOND FORM. 'bulk': how many values and letters a reading holds, each counted each time it is reached (what is shared counts as often as it is met; a slice's spare places count too). A statement '..UptoSaid' is the law's where the arguments, and the package variables that the reading takes, are together of bulk at most 1048576: NARROWER than '..Said'. Prove '..Said' where nothing that the law and all that it calls make is longer than what came in: it says more and counts as full. Else prove '..UptoSaid'. A law counts once. -/
mutual
def uptoBulk {H : Type} : DataW H → Nat
  | .lit (.string bytes) => bytes.length + 1
  | .lit _ => 1
  | .nil => 1
  | .ptr d => uptoBulk d + 1
  | .slice elems spare => uptoBulkAll elems + uptoBulkAll spare + 1
  | .agg parts => uptoBulkAll parts + 1
  | .iface _ d => uptoBulk d + 1
  | .map entries => uptoBulkEntries entries + 1
  | .held _ => 1
def uptoBulkAll {H : Type} : List (DataW H) → Nat
  | [] => 0
  | d :: r => uptoBulk d + uptoBulkAll r
def uptoBulkEntries {H : Type} : List (Lit × DataW H) → Nat
  | [] => 0
  | x :: r => uptoBulkEntry x + uptoBulkEntries r
def uptoBulkEntry {H : Type} : Lit × DataW H → Nat
  | (.string bytes, d) => bytes.length + uptoBulk d + 1
  | (_, d) => uptoBulk d + 1
 end
def uptoSmall : (H : Type) → List (DataW H) → Bool := fun _ ds => decide (uptoBulkAll ds ≤ 1048576)
def OpenSpec.upto (s : _root_.Go.ChangeSpec) : _root_.Go.OpenSpec := { _root_.Go.OpenSpec.ofChange s with cond := some uptoSmall }

/-- 'tailwaterlaw34.SinkTakes', WHERE WHAT IT READS IS OF BULK AT MOST 1048576: true; the input reads as it did. -/
def sinkTakesUptoRow : OpenClaim := { program := "ytbeldjhpbomonaa", sum := "475ca6abf1f9f56e6d20d67995cd8915126f1cf9a0b34e78bb37bd810c0ad620", func := "tailwater/tailwaterlaw34.SinkTakes", spec := "sinkTakes", apart := false, narrowed := true }
def SinkTakesUptoSaid : Prop := sinkTakesUptoRow.holds Try.pinned (OpenSpec.upto sinkTakesSpec)

/-- 'tailwaterlaw34.SinkLate', WHERE WHAT IT READS IS OF BULK AT MOST 1048576: true; the input reads as it did. -/
def sinkLateUptoRow : OpenClaim := { program := "ytbeldjhpbomonaa", sum := "475ca6abf1f9f56e6d20d67995cd8915126f1cf9a0b34e78bb37bd810c0ad620", func := "tailwater/tailwaterlaw34.SinkLate", spec := "sinkLate", unfollowed := true, recurses := true, apart := false, narrowed := true }
def SinkLateUptoSaid : Prop := sinkLateUptoRow.holds Try.pinned (OpenSpec.upto sinkLateSpec)

/-- 'tailwaterlaw34.SinkSorted', WHERE WHAT IT READS IS OF BULK AT MOST 1048576: true; the input reads as it did. -/
def sinkSortedUptoRow : OpenClaim := { program := "ytbeldjhpbomonaa", sum := "475ca6abf1f9f56e6d20d67995cd8915126f1cf9a0b34e78bb37bd810c0ad620", func := "tailwater/tailwaterlaw34.SinkSorted", spec := "sinkSorted", unfollowed := true, recurses := true, apart := false, narrowed := true }
def SinkSortedUptoSaid : Prop := sinkSortedUptoRow.holds Try.pinned (OpenSpec.upto sinkSortedSpec)

/-- 'tailwaterlaw34.SinkSorts', WHERE WHAT IT READS IS OF BULK AT MOST 1048576: true; the input reads as it did. -/
def sinkSortsUptoRow : OpenClaim := { program := "ytbeldjhpbomonaa", sum := "475ca6abf1f9f56e6d20d67995cd8915126f1cf9a0b34e78bb37bd810c0ad620", func := "tailwater/tailwaterlaw34.SinkSorts", spec := "sinkSorts", unfollowed := true, recurses := true, apart := false, narrowed := true }
def SinkSortsUptoSaid : Prop := sinkSortsUptoRow.holds Try.pinned (OpenSpec.upto sinkSortsSpec)

/-- 'tailwaterlaw34.SinkMultiset', WHERE WHAT IT READS IS OF BULK AT MOST 1048576: true; the input reads as it did. -/
def sinkMultisetUptoRow : OpenClaim := { program := "ytbeldjhpbomonaa", sum := "475ca6abf1f9f56e6d20d67995cd8915126f1cf9a0b34e78bb37bd810c0ad620", func := "tailwater/tailwaterlaw34.SinkMultiset", spec := "sinkMultiset", unfollowed := true, recurses := true, apart := false, narrowed := true }
def SinkMultisetUptoSaid : Prop := sinkMultisetUptoRow.holds Try.pinned (OpenSpec.upto sinkMultisetSpec)

/-- 'tailwaterlaw34.SinkNames', WHERE WHAT IT READS IS OF BULK AT MOST 1048576: true; the input reads as it did. -/
def sinkNamesUptoRow : OpenClaim := { program := "ytbeldjhpbomonaa", sum := "475ca6abf1f9f56e6d20d67995cd8915126f1cf9a0b34e78bb37bd810c0ad620", func := "tailwater/tailwaterlaw34.SinkNames", spec := "sinkNames", unfollowed := true, recurses := true, apart := false, narrowed := true }
def SinkNamesUptoSaid : Prop := sinkNamesUptoRow.holds Try.pinned (OpenSpec.upto sinkNamesSpec)

/-- 'tailwaterlaw15.SessionHas', WHERE WHAT IT READS IS OF BULK AT MOST 1048576: true; the input reads as it did. -/
def sessionHasUptoRow : OpenClaim := { program := "ytbeldjhpbomonaa", sum := "475ca6abf1f9f56e6d20d67995cd8915126f1cf9a0b34e78bb37bd810c0ad620", func := "tailwater/tailwaterlaw15.SessionHas", spec := "sessionHas", unfollowed := true, recurses := true, apart := false, narrowed := true }
def SessionHasUptoSaid : Prop := sessionHasUptoRow.holds Try.pinned (OpenSpec.upto sessionHasSpec)

/-- 'tailwaterlaw15.SessionNear', WHERE WHAT IT READS IS OF BULK AT MOST 1048576: true; the input reads as it did. -/
def sessionNearUptoRow : OpenClaim := { program := "ytbeldjhpbomonaa", sum := "475ca6abf1f9f56e6d20d67995cd8915126f1cf9a0b34e78bb37bd810c0ad620", func := "tailwater/tailwaterlaw15.SessionNear", spec := "sessionNear", unfollowed := true, recurses := true, apart := false, narrowed := true }
def SessionNearUptoSaid : Prop := sessionNearUptoRow.holds Try.pinned (OpenSpec.upto sessionNearSpec)

/-- 'tailwaterlaw15.SessionAgain', WHERE WHAT IT READS IS OF BULK AT MOST 1048576: true; the input reads as it did. -/
def sessionAgainUptoRow : OpenClaim := { program := "ytbeldjhpbomonaa", sum := "475ca6abf1f9f56e6d20d67995cd8915126f1cf9a0b34e78bb37bd810c0ad620", func := "tailwater/tailwaterlaw15.SessionAgain", spec := "sessionAgain", unfollowed := true, recurses := true, apart := false, narrowed := true }
def SessionAgainUptoSaid : Prop := sessionAgainUptoRow.holds Try.pinned (OpenSpec.upto sessionAgainSpec)

/-- 'tailwaterlaw15.SessionTells', WHERE WHAT IT READS IS OF BULK AT MOST 1048576: true; the input reads as it did. -/
def sessionTellsUptoRow : OpenClaim := { program := "ytbeldjhpbomonaa", sum := "475ca6abf1f9f56e6d20d67995cd8915126f1cf9a0b34e78bb37bd810c0ad620", func := "tailwater/tailwaterlaw15.SessionTells", spec := "sessionTells", unfollowed := true, recurses := true, apart := false, narrowed := true }
def SessionTellsUptoSaid : Prop := sessionTellsUptoRow.holds Try.pinned (OpenSpec.upto sessionTellsSpec)

/-- 'tailwaterlaw15.SessionNames', WHERE WHAT IT READS IS OF BULK AT MOST 1048576: true; the input reads as it did. -/
def sessionNamesUptoRow : OpenClaim := { program := "ytbeldjhpbomonaa", sum := "475ca6abf1f9f56e6d20d67995cd8915126f1cf9a0b34e78bb37bd810c0ad620", func := "tailwater/tailwaterlaw15.SessionNames", spec := "sessionNames", unfollowed := true, recurses := true, apart := false, narrowed := true }
def SessionNamesUptoSaid : Prop := sessionNamesUptoRow.holds Try.pinned (OpenSpec.upto sessionNamesSpec)

/-- 'tailwaterlaw15.SessionOrder', WHERE WHAT IT READS IS OF BULK AT MOST 1048576: true; the input reads as it did. -/
def sessionOrderUptoRow : OpenClaim := { program := "ytbeldjhpbomonaa", sum := "475ca6abf1f9f56e6d20d67995cd8915126f1cf9a0b34e78bb37bd810c0ad620", func := "tailwater/tailwaterlaw15.SessionOrder", spec := "sessionOrder", unfollowed := true, recurses := true, apart := false, narrowed := true }
def SessionOrderUptoSaid : Prop := sessionOrderUptoRow.holds Try.pinned (OpenSpec.upto sessionOrderSpec)

end Rows
end Go.Proofs.Ytbeldjhpbomonaa
