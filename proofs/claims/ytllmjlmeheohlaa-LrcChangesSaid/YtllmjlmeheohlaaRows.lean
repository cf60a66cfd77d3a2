/-
  No cell of these rows narrows 'for every input' (looked for: loops, veiled, ifaces, maps, wideKeys, modest, calm, conditions, laid).
  DERIVED. THE GIVEN ROWS OF THIS SEAT. 6 by the template 'for every input the law returns true; each argument reads behind the call as it read before'; 0 by the template 'total and deterministic' (their statements: YtllmjlmeheohlaaTotals.lean).
  GIVEN WITH THE SEED: the statements are not yours to turn. If you find one false, say at which input.
  Laid BY PROGRAM, IN A SANDBOX (cutbox-rows.mjs): the forced cells as the released guide's own fill.sh prints them over the translation c7c96a3836a1917a… (all of the seat's roots in one cut). By AI agents, Wed Nov 11 2026. No macro, syntax, notation, axiom, sorry.
-/
import Derived.Test.YtllmjlmeheohlaaChecked
import GoSem.Claim
import GoSem.ClaimJoined
import GoSem.ClaimMapViews
import Derived.JoinedTies
import Derived.KernelRfl
namespace Go.Proofs.Ytllmjlmeheohlaa
/- THE CELL 'sum', in the pinned program and in every row, IS THE sha256 OF THE DUMP (.gsa) THAT YtllmjlmeheohlaaProg.lean LOADS. Nothing in Lean hashes anything: it is a label: what it is worth is what the hold of that sum in a sandbox is worth. -/
noncomputable def Try.pinned : Pinned := { name := "ytllmjlmeheohlaa", sum := "c7c96a3836a1917a3fd8fbd59b849564d64bc51de072f77b1a57befe0e0595b5", checked := Try.checked }
namespace Rows
def none {H : Type} : Left H := { results := [], args := [] }

/-- 'diacriticlaw26.LrcLines': WHATEVER THE INPUT: true; the input reads as it did. -/
def lrcLinesSpec : ChangeSpec := { name := "lrcLines", fn := fun _ => fun
  | [d] => { results := [.lit (.bool true)], args := [d] }
  | _ => none }
def lrcLinesRow : OpenClaim := { program := "ytllmjlmeheohlaa", sum := "c7c96a3836a1917a3fd8fbd59b849564d64bc51de072f77b1a57befe0e0595b5", func := "diacritic/diacriticlaw26.LrcLines", spec := "lrcLines", inPlace := ["internal/abi.NoEscape", "internal/bytealg.MakeNoZero", "internal/bytealg.IndexByteString", "internal/bytealg.IndexString"], unfollowed := true, recurses := true, named := ["internal/bytealg.MaxLen"], apart := false }
def LrcLinesSaid : Prop := lrcLinesRow.holds Try.pinned (OpenSpec.ofChange lrcLinesSpec)

/-- ITS FALSE NEIGHBOUR: 'it returns false'. Refute it at one input. -/
def lrcLinesWrong : ChangeSpec := { name := "lrcLines", fn := fun _ => fun
  | [d] => { results := [.lit (.bool false)], args := [d] }
  | _ => none }
def LrcLinesWrongFalsely : Prop := lrcLinesRow.holds Try.pinned (OpenSpec.ofChange lrcLinesWrong)

/-- 'diacriticlaw26.LrcTexts': WHATEVER THE INPUT: true; the input reads as it did. -/
def lrcTextsSpec : ChangeSpec := { name := "lrcTexts", fn := fun _ => fun
  | [d1, d2, d3] => { results := [.lit (.bool true)], args := [d1, d2, d3] }
  | _ => none }
def lrcTextsRow : OpenClaim := { program := "ytllmjlmeheohlaa", sum := "c7c96a3836a1917a3fd8fbd59b849564d64bc51de072f77b1a57befe0e0595b5", func := "diacritic/diacriticlaw26.LrcTexts", spec := "lrcTexts", inPlace := ["internal/abi.NoEscape", "internal/bytealg.MakeNoZero", "internal/bytealg.IndexByteString", "internal/bytealg.IndexString"], unfollowed := true, recurses := true, named := ["internal/bytealg.MaxLen"], apart := false }
def LrcTextsSaid : Prop := lrcTextsRow.holds Try.pinned (OpenSpec.ofChange lrcTextsSpec)

/-- ITS FALSE NEIGHBOUR: 'it returns false'. Refute it at one input. -/
def lrcTextsWrong : ChangeSpec := { name := "lrcTexts", fn := fun _ => fun
  | [d1, d2, d3] => { results := [.lit (.bool false)], args := [d1, d2, d3] }
  | _ => none }
def LrcTextsWrongFalsely : Prop := lrcTextsRow.holds Try.pinned (OpenSpec.ofChange lrcTextsWrong)

/-- 'diacriticlaw26.LrcChanges': WHATEVER THE INPUT: true; the input reads as it did. -/
def lrcChangesSpec : ChangeSpec := { name := "lrcChanges", fn := fun _ => fun
  | [d1, d2] => { results := [.lit (.bool true)], args := [d1, d2] }
  | _ => none }
def lrcChangesRow : OpenClaim := { program := "ytllmjlmeheohlaa", sum := "c7c96a3836a1917a3fd8fbd59b849564d64bc51de072f77b1a57befe0e0595b5", func := "diacritic/diacriticlaw26.LrcChanges", spec := "lrcChanges", inPlace := ["internal/abi.NoEscape", "internal/bytealg.MakeNoZero", "internal/bytealg.IndexByteString", "internal/bytealg.IndexString"], unfollowed := true, recurses := true, named := ["internal/bytealg.MaxLen"], apart := false }
def LrcChangesSaid : Prop := lrcChangesRow.holds Try.pinned (OpenSpec.ofChange lrcChangesSpec)

/-- ITS FALSE NEIGHBOUR: 'it returns false'. Refute it at one input. -/
def lrcChangesWrong : ChangeSpec := { name := "lrcChanges", fn := fun _ => fun
  | [d1, d2] => { results := [.lit (.bool false)], args := [d1, d2] }
  | _ => none }
def LrcChangesWrongFalsely : Prop := lrcChangesRow.holds Try.pinned (OpenSpec.ofChange lrcChangesWrong)

/-- 'diacriticlaw26.LrcReads': WHATEVER THE INPUT: true; the input reads as it did. -/
def lrcReadsSpec : ChangeSpec := { name := "lrcReads", fn := fun _ => fun
  | [d] => { results := [.lit (.bool true)], args := [d] }
  | _ => none }
def lrcReadsRow : OpenClaim := { program := "ytllmjlmeheohlaa", sum := "c7c96a3836a1917a3fd8fbd59b849564d64bc51de072f77b1a57befe0e0595b5", func := "diacritic/diacriticlaw26.LrcReads", spec := "lrcReads", inPlace := ["internal/abi.NoEscape", "internal/bytealg.MakeNoZero", "internal/bytealg.IndexByteString", "internal/bytealg.IndexString"], unfollowed := true, recurses := true, named := ["internal/bytealg.MaxLen"], apart := false }
def LrcReadsSaid : Prop := lrcReadsRow.holds Try.pinned (OpenSpec.ofChange lrcReadsSpec)

/-- ITS FALSE NEIGHBOUR: 'it returns false'. Refute it at one input. -/
def lrcReadsWrong : ChangeSpec := { name := "lrcReads", fn := fun _ => fun
  | [d] => { results := [.lit (.bool false)], args := [d] }
  | _ => none }
def LrcReadsWrongFalsely : Prop := lrcReadsRow.holds Try.pinned (OpenSpec.ofChange lrcReadsWrong)

/-- 'diacriticlaw23.CueChanges': WHATEVER THE INPUT: true; the input reads as it did. -/
def cueChangesSpec : ChangeSpec := { name := "cueChanges", fn := fun _ => fun
  | [d1, d2] => { results := [.lit (.bool true)], args := [d1, d2] }
  | _ => none }
def cueChangesRow : OpenClaim := { program := "ytllmjlmeheohlaa", sum := "c7c96a3836a1917a3fd8fbd59b849564d64bc51de072f77b1a57befe0e0595b5", func := "diacritic/diacriticlaw23.CueChanges", spec := "cueChanges", inPlace := ["internal/abi.NoEscape", "internal/bytealg.MakeNoZero", "internal/bytealg.IndexByteString", "internal/bytealg.IndexString"], unfollowed := true, recurses := true, named := ["internal/bytealg.MaxLen"], apart := false }
def CueChangesSaid : Prop := cueChangesRow.holds Try.pinned (OpenSpec.ofChange cueChangesSpec)

/-- ITS FALSE NEIGHBOUR: 'it returns false'. Refute it at one input. -/
def cueChangesWrong : ChangeSpec := { name := "cueChanges", fn := fun _ => fun
  | [d1, d2] => { results := [.lit (.bool false)], args := [d1, d2] }
  | _ => none }
def CueChangesWrongFalsely : Prop := cueChangesRow.holds Try.pinned (OpenSpec.ofChange cueChangesWrong)

/-- 'diacriticlaw23.CueDeclares': WHATEVER THE INPUT: true; the input reads as it did. -/
def cueDeclaresSpec : ChangeSpec := { name := "cueDeclares", fn := fun _ => fun
  | [d] => { results := [.lit (.bool true)], args := [d] }
  | _ => none }
def cueDeclaresRow : OpenClaim := { program := "ytllmjlmeheohlaa", sum := "c7c96a3836a1917a3fd8fbd59b849564d64bc51de072f77b1a57befe0e0595b5", func := "diacritic/diacriticlaw23.CueDeclares", spec := "cueDeclares", inPlace := ["internal/abi.NoEscape", "internal/bytealg.MakeNoZero", "internal/bytealg.IndexByteString", "internal/bytealg.IndexString"], unfollowed := true, recurses := true, named := ["internal/bytealg.MaxLen"], apart := false }
def CueDeclaresSaid : Prop := cueDeclaresRow.holds Try.pinned (OpenSpec.ofChange cueDeclaresSpec)

/-- ITS FALSE NEIGHBOUR: 'it returns false'. Refute it at one input. -/
def cueDeclaresWrong : ChangeSpec := { name := "cueDeclares", fn := fun _ => fun
  | [d] => { results := [.lit (.bool false)], args := [d] }
  | _ => none }
def CueDeclaresWrongFalsely : Prop := cueDeclaresRow.holds Try.pinned (OpenSpec.ofChange cueDeclaresWrong)

/- THE SECOND FORM. 'bulk': how many values and letters a reading holds, each counted each time it is reached (what is shared counts as often as it is met; a slice's spare places count too). A statement '..UptoSaid' is the law's where the arguments, and the package variables that the reading takes, are together of bulk at most 1048576: NARROWER than '..Said'. Prove '..Said' where nothing that the law and all that it calls make is longer than what came in: it says more and counts as full. Else prove '..UptoSaid'. A law counts once. -/
mutual
def uptoBulk {H : Type} : DataW H → Nat
  | .lit (.string bytes) => bytes.length + 1
  | .lit _ => 1
  | .nil => 1
  | .ptr d => uptoBulk d + 1
  | .slice elems spare => uptoBulkAll elems + uptoBulkAll spare + 1
  | .agg parts => uptoBulkAll parts + 1
  | .iface _ d => uptoBulk d + 1
  | .map entries => uptoBulkEntries entries + 1
  | .held _ => 1
def uptoBulkAll {H : Type} : List (DataW H) → Nat
  | [] => 0
  | d :: r => uptoBulk d + uptoBulkAll r
def uptoBulkEntries {H : Type} : List (Lit × DataW H) → Nat
  | [] => 0
  | x :: r => uptoBulkEntry x + uptoBulkEntries r
def uptoBulkEntry {H : Type} : Lit × DataW H → Nat
  | (.string bytes, d) => bytes.length + uptoBulk d + 1
  | (_, d) => uptoBulk d + 1
 end
def uptoSmall : (H : Type) → List (DataW H) → Bool := fun _ ds => decide (uptoBulkAll ds ≤ 1048576)
def OpenSpec.upto (s : _root_.Go.ChangeSpec) : _root_.Go.OpenSpec := { _root_.Go.OpenSpec.ofChange s with cond := some uptoSmall }

/-- 'diacriticlaw26.LrcLines', WHERE WHAT IT READS IS OF BULK AT MOST 1048576: true; the input reads as it did. -/
def lrcLinesUptoRow : OpenClaim := { program := "ytllmjlmeheohlaa", sum := "c7c96a3836a1917a3fd8fbd59b849564d64bc51de072f77b1a57befe0e0595b5", func := "diacritic/diacriticlaw26.LrcLines", spec := "lrcLines", inPlace := ["internal/abi.NoEscape", "internal/bytealg.MakeNoZero", "internal/bytealg.IndexByteString", "internal/bytealg.IndexString"], unfollowed := true, recurses := true, named := ["internal/bytealg.MaxLen"], apart := false, narrowed := true }
def LrcLinesUptoSaid : Prop := lrcLinesUptoRow.holds Try.pinned (OpenSpec.upto lrcLinesSpec)

/-- 'diacriticlaw26.LrcTexts', WHERE WHAT IT READS IS OF BULK AT MOST 1048576: true; the input reads as it did. -/
def lrcTextsUptoRow : OpenClaim := { program := "ytllmjlmeheohlaa", sum := "c7c96a3836a1917a3fd8fbd59b849564d64bc51de072f77b1a57befe0e0595b5", func := "diacritic/diacriticlaw26.LrcTexts", spec := "lrcTexts", inPlace := ["internal/abi.NoEscape", "internal/bytealg.MakeNoZero", "internal/bytealg.IndexByteString", "internal/bytealg.IndexString"], unfollowed := true, recurses := true, named := ["internal/bytealg.MaxLen"], apart := false, narrowed := true }
def LrcTextsUptoSaid : Prop := lrcTextsUptoRow.holds Try.pinned (OpenSpec.upto lrcTextsSpec)

/-- 'diacriticlaw26.LrcChanges', WHERE WHAT IT READS IS OF BULK AT MOST 1048576: true; the input reads as it did. -/
def lrcChangesUptoRow : OpenClaim := { program := "ytllmjlmeheohlaa", sum := "c7c96a3836a1917a3fd8fbd59b849564d64bc51de072f77b1a57befe0e0595b5", func := "diacritic/diacriticlaw26.LrcChanges", spec := "lrcChanges", inPlace := ["internal/abi.NoEscape", "internal/bytealg.MakeNoZero", "internal/bytealg.IndexByteString", "internal/bytealg.IndexString"], unfollowed := true, recurses := true, named := ["internal/bytealg.MaxLen"], apart := false, narrowed := true }
def LrcChangesUptoSaid : Prop := lrcChangesUptoRow.holds Try.pinned (OpenSpec.upto lrcChangesSpec)

/-- 'diacriticlaw26.LrcReads', WHERE WHAT IT READS IS OF BULK AT MOST 1048576: true; the input reads as it did. -/
def lrcReadsUptoRow : OpenClaim := { program := "ytllmjlmeheohlaa", sum := "c7c96a3836a1917a3fd8fbd59b849564d64bc51de072f77b1a57befe0e0595b5", func := "diacritic/diacriticlaw26.LrcReads", spec := "lrcReads", inPlace := ["internal/abi.NoEscape", "internal/bytealg.MakeNoZero", "internal/bytealg.IndexByteString", "internal/bytealg.IndexString"], unfollowed := true, recurses := true, named := ["internal/bytealg.MaxLen"], apart := false, narrowed := true }
def LrcReadsUptoSaid : Prop := lrcReadsUptoRow.holds Try.pinned (OpenSpec.upto lrcReadsSpec)

/-- 'diacriticlaw23.CueChanges', WHERE WHAT IT READS IS OF BULK AT MOST 1048576: true; the input reads as it did. -/
def cueChangesUptoRow : OpenClaim := { program := "ytllmjlmeheohlaa", sum := "c7c96a3836a1917a3fd8fbd59b849564d64bc51de072f77b1a57befe0e0595b5", func := "diacritic/diacriticlaw23.CueChanges", spec := "cueChanges", inPlace := ["internal/abi.NoEscape", "internal/bytealg.MakeNoZero", "internal/bytealg.IndexByteString", "internal/bytealg.IndexString"], unfollowed := true, recurses := true, named := ["internal/bytealg.MaxLen"], apart := false, narrowed := true }
def CueChangesUptoSaid : Prop := cueChangesUptoRow.holds Try.pinned (OpenSpec.upto cueChangesSpec)

/-- 'diacriticlaw23.CueDeclares', WHERE WHAT IT READS IS OF BULK AT MOST 1048576: true; the input reads as it did. -/
def cueDeclaresUptoRow : OpenClaim := { program := "ytllmjlmeheohlaa", sum := "c7c96a3836a1917a3fd8fbd59b849564d64bc51de072f77b1a57befe0e0595b5", func := "diacritic/diacriticlaw23.CueDeclares", spec := "cueDeclares", inPlace := ["internal/abi.NoEscape", "internal/bytealg.MakeNoZero", "internal/bytealg.IndexByteString", "internal/bytealg.IndexString"], unfollowed := true, recurses := true, named := ["internal/bytealg.MaxLen"], apart := false, narrowed := true }
def CueDeclaresUptoSaid : Prop := cueDeclaresUptoRow.holds Try.pinned (OpenSpec.upto cueDeclaresSpec)

end Rows
end Go.Proofs.Ytllmjlmeheohlaa
