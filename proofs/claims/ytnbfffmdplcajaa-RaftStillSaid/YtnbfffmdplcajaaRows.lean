/-
  No cell of these rows narrows 'for every input' (looked for: loops, veiled, ifaces, maps, wideKeys, modest, calm, conditions, laid).
  DERIVED. THE GIVEN ROWS OF THIS SEAT. 19 by the template 'for every input the law returns true; each argument reads behind the call as it read before'; 0 by the template 'total and deterministic' (their statements: YtnbfffmdplcajaaTotals.lean).
  GIVEN WITH THE SEED: the statements are not yours to turn. If you find one false, say at which input.
  Laid BY PROGRAM, IN A SANDBOX (cutbox-rows.mjs): the forced cells as the released guide's own fill.sh prints them over the translation ea31bb6ac40c1a7e… (all of the seat's roots in one cut). By AI agents, Wed Nov 11 2026. No macro, syntax, notation, axiom, sorry.
-/
import Derived.Test.YtnbfffmdplcajaaChecked
import GoSem.Claim
import GoSem.ClaimJoined
import GoSem.ClaimMapViews
import Derived.JoinedTies
import Derived.KernelRfl
namespace Go.Proofs.Ytnbfffmdplcajaa
/- THE CELL 'sum', in the pinned program and in every row, IS THE sha256 OF THE DUMP (.gsa) THAT YtnbfffmdplcajaaProg.lean LOADS. Nothing in Lean hashes anything: it is a label: what it is worth is what the hold of that sum in a sandbox is worth. -/
noncomputable def Try.pinned : Pinned := { name := "ytnbfffmdplcajaa", sum := "ea31bb6ac40c1a7eabb484767c7184102cb462e81c304aeeecf2fdddff0b0919", checked := Try.checked }
namespace Rows
def none {H : Type} : Left H := { results := [], args := [] }

/-- 'shortcutlaw25.RaftBegins': WHATEVER THE INPUT: true; the input reads as it did. -/
def raftBeginsSpec : ChangeSpec := { name := "raftBegins", fn := fun _ => fun
  | [d1, d2, d3, d4] => { results := [.lit (.bool true)], args := [d1, d2, d3, d4] }
  | _ => none }
def raftBeginsRow : OpenClaim := { program := "ytnbfffmdplcajaa", sum := "ea31bb6ac40c1a7eabb484767c7184102cb462e81c304aeeecf2fdddff0b0919", func := "shortcut/shortcutlaw25.RaftBegins", spec := "raftBegins", unfollowed := true, recurses := true, apart := false }
def RaftBeginsSaid : Prop := raftBeginsRow.holds Try.pinned (OpenSpec.ofChange raftBeginsSpec)

/-- ITS FALSE NEIGHBOUR: 'it returns false'. Refute it at one input. -/
def raftBeginsWrong : ChangeSpec := { name := "raftBegins", fn := fun _ => fun
  | [d1, d2, d3, d4] => { results := [.lit (.bool false)], args := [d1, d2, d3, d4] }
  | _ => none }
def RaftBeginsWrongFalsely : Prop := raftBeginsRow.holds Try.pinned (OpenSpec.ofChange raftBeginsWrong)

/-- 'shortcutlaw25.RaftCompacts': WHATEVER THE INPUT: true; the input reads as it did. -/
def raftCompactsSpec : ChangeSpec := { name := "raftCompacts", fn := fun _ => fun
  | [d1, d2, d3] => { results := [.lit (.bool true)], args := [d1, d2, d3] }
  | _ => none }
def raftCompactsRow : OpenClaim := { program := "ytnbfffmdplcajaa", sum := "ea31bb6ac40c1a7eabb484767c7184102cb462e81c304aeeecf2fdddff0b0919", func := "shortcut/shortcutlaw25.RaftCompacts", spec := "raftCompacts", unfollowed := true, recurses := true, apart := false }
def RaftCompactsSaid : Prop := raftCompactsRow.holds Try.pinned (OpenSpec.ofChange raftCompactsSpec)

/-- ITS FALSE NEIGHBOUR: 'it returns false'. Refute it at one input. -/
def raftCompactsWrong : ChangeSpec := { name := "raftCompacts", fn := fun _ => fun
  | [d1, d2, d3] => { results := [.lit (.bool false)], args := [d1, d2, d3] }
  | _ => none }
def RaftCompactsWrongFalsely : Prop := raftCompactsRow.holds Try.pinned (OpenSpec.ofChange raftCompactsWrong)

/-- 'shortcutlaw25.RaftAlone': WHATEVER THE INPUT: true; the input reads as it did. -/
def raftAloneSpec : ChangeSpec := { name := "raftAlone", fn := fun _ => fun
  | [d1, d2] => { results := [.lit (.bool true)], args := [d1, d2] }
  | _ => none }
def raftAloneRow : OpenClaim := { program := "ytnbfffmdplcajaa", sum := "ea31bb6ac40c1a7eabb484767c7184102cb462e81c304aeeecf2fdddff0b0919", func := "shortcut/shortcutlaw25.RaftAlone", spec := "raftAlone", unfollowed := true, recurses := true, apart := false }
def RaftAloneSaid : Prop := raftAloneRow.holds Try.pinned (OpenSpec.ofChange raftAloneSpec)

/-- ITS FALSE NEIGHBOUR: 'it returns false'. Refute it at one input. -/
def raftAloneWrong : ChangeSpec := { name := "raftAlone", fn := fun _ => fun
  | [d1, d2] => { results := [.lit (.bool false)], args := [d1, d2] }
  | _ => none }
def RaftAloneWrongFalsely : Prop := raftAloneRow.holds Try.pinned (OpenSpec.ofChange raftAloneWrong)

/-- 'shortcutlaw25.RaftStill': WHATEVER THE INPUT: true; the input reads as it did. -/
def raftStillSpec : ChangeSpec := { name := "raftStill", fn := fun _ => fun
  | [d1, d2, d3] => { results := [.lit (.bool true)], args := [d1, d2, d3] }
  | _ => none }
def raftStillRow : OpenClaim := { program := "ytnbfffmdplcajaa", sum := "ea31bb6ac40c1a7eabb484767c7184102cb462e81c304aeeecf2fdddff0b0919", func := "shortcut/shortcutlaw25.RaftStill", spec := "raftStill", unfollowed := true, recurses := true, apart := false }
def RaftStillSaid : Prop := raftStillRow.holds Try.pinned (OpenSpec.ofChange raftStillSpec)

/-- ITS FALSE NEIGHBOUR: 'it returns false'. Refute it at one input. -/
def raftStillWrong : ChangeSpec := { name := "raftStill", fn := fun _ => fun
  | [d1, d2, d3] => { results := [.lit (.bool false)], args := [d1, d2, d3] }
  | _ => none }
def RaftStillWrongFalsely : Prop := raftStillRow.holds Try.pinned (OpenSpec.ofChange raftStillWrong)

/-- 'shortcutlaw25.RaftActs': WHATEVER THE INPUT: true; the input reads as it did. -/
def raftActsSpec : ChangeSpec := { name := "raftActs", fn := fun _ => fun
  | [d1, d2, d3] => { results := [.lit (.bool true)], args := [d1, d2, d3] }
  | _ => none }
def raftActsRow : OpenClaim := { program := "ytnbfffmdplcajaa", sum := "ea31bb6ac40c1a7eabb484767c7184102cb462e81c304aeeecf2fdddff0b0919", func := "shortcut/shortcutlaw25.RaftActs", spec := "raftActs", unfollowed := true, recurses := true, apart := false }
def RaftActsSaid : Prop := raftActsRow.holds Try.pinned (OpenSpec.ofChange raftActsSpec)

/-- ITS FALSE NEIGHBOUR: 'it returns false'. Refute it at one input. -/
def raftActsWrong : ChangeSpec := { name := "raftActs", fn := fun _ => fun
  | [d1, d2, d3] => { results := [.lit (.bool false)], args := [d1, d2, d3] }
  | _ => none }
def RaftActsWrongFalsely : Prop := raftActsRow.holds Try.pinned (OpenSpec.ofChange raftActsWrong)

/-- 'shortcutlaw25.RaftKeeps': WHATEVER THE INPUT: true; the input reads as it did. -/
def raftKeepsSpec : ChangeSpec := { name := "raftKeeps", fn := fun _ => fun
  | [d1, d2, d3] => { results := [.lit (.bool true)], args := [d1, d2, d3] }
  | _ => none }
def raftKeepsRow : OpenClaim := { program := "ytnbfffmdplcajaa", sum := "ea31bb6ac40c1a7eabb484767c7184102cb462e81c304aeeecf2fdddff0b0919", func := "shortcut/shortcutlaw25.RaftKeeps", spec := "raftKeeps", unfollowed := true, recurses := true, apart := false }
def RaftKeepsSaid : Prop := raftKeepsRow.holds Try.pinned (OpenSpec.ofChange raftKeepsSpec)

/-- ITS FALSE NEIGHBOUR: 'it returns false'. Refute it at one input. -/
def raftKeepsWrong : ChangeSpec := { name := "raftKeeps", fn := fun _ => fun
  | [d1, d2, d3] => { results := [.lit (.bool false)], args := [d1, d2, d3] }
  | _ => none }
def RaftKeepsWrongFalsely : Prop := raftKeepsRow.holds Try.pinned (OpenSpec.ofChange raftKeepsWrong)

/-- 'shortcutlaw25.RaftGot': WHATEVER THE INPUT: true; the input reads as it did. -/
def raftGotSpec : ChangeSpec := { name := "raftGot", fn := fun _ => fun
  | [d1, d2] => { results := [.lit (.bool true)], args := [d1, d2] }
  | _ => none }
def raftGotRow : OpenClaim := { program := "ytnbfffmdplcajaa", sum := "ea31bb6ac40c1a7eabb484767c7184102cb462e81c304aeeecf2fdddff0b0919", func := "shortcut/shortcutlaw25.RaftGot", spec := "raftGot", unfollowed := true, recurses := true, apart := false }
def RaftGotSaid : Prop := raftGotRow.holds Try.pinned (OpenSpec.ofChange raftGotSpec)

/-- ITS FALSE NEIGHBOUR: 'it returns false'. Refute it at one input. -/
def raftGotWrong : ChangeSpec := { name := "raftGot", fn := fun _ => fun
  | [d1, d2] => { results := [.lit (.bool false)], args := [d1, d2] }
  | _ => none }
def RaftGotWrongFalsely : Prop := raftGotRow.holds Try.pinned (OpenSpec.ofChange raftGotWrong)

/-- 'shortcutlaw25.RaftTerms': WHATEVER THE INPUT: true; the input reads as it did. -/
def raftTermsSpec : ChangeSpec := { name := "raftTerms", fn := fun _ => fun
  | [d1, d2] => { results := [.lit (.bool true)], args := [d1, d2] }
  | _ => none }
def raftTermsRow : OpenClaim := { program := "ytnbfffmdplcajaa", sum := "ea31bb6ac40c1a7eabb484767c7184102cb462e81c304aeeecf2fdddff0b0919", func := "shortcut/shortcutlaw25.RaftTerms", spec := "raftTerms", unfollowed := true, recurses := true, apart := false }
def RaftTermsSaid : Prop := raftTermsRow.holds Try.pinned (OpenSpec.ofChange raftTermsSpec)

/-- ITS FALSE NEIGHBOUR: 'it returns false'. Refute it at one input. -/
def raftTermsWrong : ChangeSpec := { name := "raftTerms", fn := fun _ => fun
  | [d1, d2] => { results := [.lit (.bool false)], args := [d1, d2] }
  | _ => none }
def RaftTermsWrongFalsely : Prop := raftTermsRow.holds Try.pinned (OpenSpec.ofChange raftTermsWrong)

/-- 'shortcutlaw25.RaftCommits': WHATEVER THE INPUT: true; the input reads as it did. -/
def raftCommitsSpec : ChangeSpec := { name := "raftCommits", fn := fun _ => fun
  | [d1, d2] => { results := [.lit (.bool true)], args := [d1, d2] }
  | _ => none }
def raftCommitsRow : OpenClaim := { program := "ytnbfffmdplcajaa", sum := "ea31bb6ac40c1a7eabb484767c7184102cb462e81c304aeeecf2fdddff0b0919", func := "shortcut/shortcutlaw25.RaftCommits", spec := "raftCommits", unfollowed := true, recurses := true, apart := false }
def RaftCommitsSaid : Prop := raftCommitsRow.holds Try.pinned (OpenSpec.ofChange raftCommitsSpec)

/-- ITS FALSE NEIGHBOUR: 'it returns false'. Refute it at one input. -/
def raftCommitsWrong : ChangeSpec := { name := "raftCommits", fn := fun _ => fun
  | [d1, d2] => { results := [.lit (.bool false)], args := [d1, d2] }
  | _ => none }
def RaftCommitsWrongFalsely : Prop := raftCommitsRow.holds Try.pinned (OpenSpec.ofChange raftCommitsWrong)

/-- 'shortcutlaw25.RaftMost': WHATEVER THE INPUT: true; the input reads as it did. -/
def raftMostSpec : ChangeSpec := { name := "raftMost", fn := fun _ => fun
  | [d1, d2] => { results := [.lit (.bool true)], args := [d1, d2] }
  | _ => none }
def raftMostRow : OpenClaim := { program := "ytnbfffmdplcajaa", sum := "ea31bb6ac40c1a7eabb484767c7184102cb462e81c304aeeecf2fdddff0b0919", func := "shortcut/shortcutlaw25.RaftMost", spec := "raftMost", unfollowed := true, recurses := true, apart := false }
def RaftMostSaid : Prop := raftMostRow.holds Try.pinned (OpenSpec.ofChange raftMostSpec)

/-- ITS FALSE NEIGHBOUR: 'it returns false'. Refute it at one input. -/
def raftMostWrong : ChangeSpec := { name := "raftMost", fn := fun _ => fun
  | [d1, d2] => { results := [.lit (.bool false)], args := [d1, d2] }
  | _ => none }
def RaftMostWrongFalsely : Prop := raftMostRow.holds Try.pinned (OpenSpec.ofChange raftMostWrong)

/-- 'shortcutlaw25.RaftGrants': WHATEVER THE INPUT: true; the input reads as it did. -/
def raftGrantsSpec : ChangeSpec := { name := "raftGrants", fn := fun _ => fun
  | [d1, d2] => { results := [.lit (.bool true)], args := [d1, d2] }
  | _ => none }
def raftGrantsRow : OpenClaim := { program := "ytnbfffmdplcajaa", sum := "ea31bb6ac40c1a7eabb484767c7184102cb462e81c304aeeecf2fdddff0b0919", func := "shortcut/shortcutlaw25.RaftGrants", spec := "raftGrants", unfollowed := true, recurses := true, apart := false }
def RaftGrantsSaid : Prop := raftGrantsRow.holds Try.pinned (OpenSpec.ofChange raftGrantsSpec)

/-- ITS FALSE NEIGHBOUR: 'it returns false'. Refute it at one input. -/
def raftGrantsWrong : ChangeSpec := { name := "raftGrants", fn := fun _ => fun
  | [d1, d2] => { results := [.lit (.bool false)], args := [d1, d2] }
  | _ => none }
def RaftGrantsWrongFalsely : Prop := raftGrantsRow.holds Try.pinned (OpenSpec.ofChange raftGrantsWrong)

/-- 'shortcutlaw25.RaftOthers': WHATEVER THE INPUT: true; the input reads as it did. -/
def raftOthersSpec : ChangeSpec := { name := "raftOthers", fn := fun _ => fun
  | [d1, d2] => { results := [.lit (.bool true)], args := [d1, d2] }
  | _ => none }
def raftOthersRow : OpenClaim := { program := "ytnbfffmdplcajaa", sum := "ea31bb6ac40c1a7eabb484767c7184102cb462e81c304aeeecf2fdddff0b0919", func := "shortcut/shortcutlaw25.RaftOthers", spec := "raftOthers", unfollowed := true, recurses := true, apart := false }
def RaftOthersSaid : Prop := raftOthersRow.holds Try.pinned (OpenSpec.ofChange raftOthersSpec)

/-- ITS FALSE NEIGHBOUR: 'it returns false'. Refute it at one input. -/
def raftOthersWrong : ChangeSpec := { name := "raftOthers", fn := fun _ => fun
  | [d1, d2] => { results := [.lit (.bool false)], args := [d1, d2] }
  | _ => none }
def RaftOthersWrongFalsely : Prop := raftOthersRow.holds Try.pinned (OpenSpec.ofChange raftOthersWrong)

/-- 'shortcutlaw25.RaftAppends': WHATEVER THE INPUT: true; the input reads as it did. -/
def raftAppendsSpec : ChangeSpec := { name := "raftAppends", fn := fun _ => fun
  | [d1, d2] => { results := [.lit (.bool true)], args := [d1, d2] }
  | _ => none }
def raftAppendsRow : OpenClaim := { program := "ytnbfffmdplcajaa", sum := "ea31bb6ac40c1a7eabb484767c7184102cb462e81c304aeeecf2fdddff0b0919", func := "shortcut/shortcutlaw25.RaftAppends", spec := "raftAppends", unfollowed := true, recurses := true, apart := false }
def RaftAppendsSaid : Prop := raftAppendsRow.holds Try.pinned (OpenSpec.ofChange raftAppendsSpec)

/-- ITS FALSE NEIGHBOUR: 'it returns false'. Refute it at one input. -/
def raftAppendsWrong : ChangeSpec := { name := "raftAppends", fn := fun _ => fun
  | [d1, d2] => { results := [.lit (.bool false)], args := [d1, d2] }
  | _ => none }
def RaftAppendsWrongFalsely : Prop := raftAppendsRow.holds Try.pinned (OpenSpec.ofChange raftAppendsWrong)

/-- 'shortcutlaw25.RaftSnaps': WHATEVER THE INPUT: true; the input reads as it did. -/
def raftSnapsSpec : ChangeSpec := { name := "raftSnaps", fn := fun _ => fun
  | [d1, d2] => { results := [.lit (.bool true)], args := [d1, d2] }
  | _ => none }
def raftSnapsRow : OpenClaim := { program := "ytnbfffmdplcajaa", sum := "ea31bb6ac40c1a7eabb484767c7184102cb462e81c304aeeecf2fdddff0b0919", func := "shortcut/shortcutlaw25.RaftSnaps", spec := "raftSnaps", unfollowed := true, recurses := true, apart := false }
def RaftSnapsSaid : Prop := raftSnapsRow.holds Try.pinned (OpenSpec.ofChange raftSnapsSpec)

/-- ITS FALSE NEIGHBOUR: 'it returns false'. Refute it at one input. -/
def raftSnapsWrong : ChangeSpec := { name := "raftSnaps", fn := fun _ => fun
  | [d1, d2] => { results := [.lit (.bool false)], args := [d1, d2] }
  | _ => none }
def RaftSnapsWrongFalsely : Prop := raftSnapsRow.holds Try.pinned (OpenSpec.ofChange raftSnapsWrong)

/-- 'shortcutlaw25.RaftOld': WHATEVER THE INPUT: true; the input reads as it did. -/
def raftOldSpec : ChangeSpec := { name := "raftOld", fn := fun _ => fun
  | [d1, d2] => { results := [.lit (.bool true)], args := [d1, d2] }
  | _ => none }
def raftOldRow : OpenClaim := { program := "ytnbfffmdplcajaa", sum := "ea31bb6ac40c1a7eabb484767c7184102cb462e81c304aeeecf2fdddff0b0919", func := "shortcut/shortcutlaw25.RaftOld", spec := "raftOld", unfollowed := true, recurses := true, apart := false }
def RaftOldSaid : Prop := raftOldRow.holds Try.pinned (OpenSpec.ofChange raftOldSpec)

/-- ITS FALSE NEIGHBOUR: 'it returns false'. Refute it at one input. -/
def raftOldWrong : ChangeSpec := { name := "raftOld", fn := fun _ => fun
  | [d1, d2] => { results := [.lit (.bool false)], args := [d1, d2] }
  | _ => none }
def RaftOldWrongFalsely : Prop := raftOldRow.holds Try.pinned (OpenSpec.ofChange raftOldWrong)

/-- 'shortcutlaw25.RaftElects': WHATEVER THE INPUT: true; the input reads as it did. -/
def raftElectsSpec : ChangeSpec := { name := "raftElects", fn := fun _ => fun
  | [d1, d2] => { results := [.lit (.bool true)], args := [d1, d2] }
  | _ => none }
def raftElectsRow : OpenClaim := { program := "ytnbfffmdplcajaa", sum := "ea31bb6ac40c1a7eabb484767c7184102cb462e81c304aeeecf2fdddff0b0919", func := "shortcut/shortcutlaw25.RaftElects", spec := "raftElects", unfollowed := true, recurses := true, apart := false }
def RaftElectsSaid : Prop := raftElectsRow.holds Try.pinned (OpenSpec.ofChange raftElectsSpec)

/-- ITS FALSE NEIGHBOUR: 'it returns false'. Refute it at one input. -/
def raftElectsWrong : ChangeSpec := { name := "raftElects", fn := fun _ => fun
  | [d1, d2] => { results := [.lit (.bool false)], args := [d1, d2] }
  | _ => none }
def RaftElectsWrongFalsely : Prop := raftElectsRow.holds Try.pinned (OpenSpec.ofChange raftElectsWrong)

/-- 'shortcutlaw25.RaftMeets': WHATEVER THE INPUT: true; the input reads as it did. -/
def raftMeetsSpec : ChangeSpec := { name := "raftMeets", fn := fun _ => fun
  | [d1, d2] => { results := [.lit (.bool true)], args := [d1, d2] }
  | _ => none }
def raftMeetsRow : OpenClaim := { program := "ytnbfffmdplcajaa", sum := "ea31bb6ac40c1a7eabb484767c7184102cb462e81c304aeeecf2fdddff0b0919", func := "shortcut/shortcutlaw25.RaftMeets", spec := "raftMeets", unfollowed := true, recurses := true, apart := false }
def RaftMeetsSaid : Prop := raftMeetsRow.holds Try.pinned (OpenSpec.ofChange raftMeetsSpec)

/-- ITS FALSE NEIGHBOUR: 'it returns false'. Refute it at one input. -/
def raftMeetsWrong : ChangeSpec := { name := "raftMeets", fn := fun _ => fun
  | [d1, d2] => { results := [.lit (.bool false)], args := [d1, d2] }
  | _ => none }
def RaftMeetsWrongFalsely : Prop := raftMeetsRow.holds Try.pinned (OpenSpec.ofChange raftMeetsWrong)

/-- 'shortcutlaw25.RaftReads': WHATEVER THE INPUT: true; the input reads as it did. -/
def raftReadsSpec : ChangeSpec := { name := "raftReads", fn := fun _ => fun
  | [d1, d2, d3] => { results := [.lit (.bool true)], args := [d1, d2, d3] }
  | _ => none }
def raftReadsRow : OpenClaim := { program := "ytnbfffmdplcajaa", sum := "ea31bb6ac40c1a7eabb484767c7184102cb462e81c304aeeecf2fdddff0b0919", func := "shortcut/shortcutlaw25.RaftReads", spec := "raftReads", unfollowed := true, recurses := true, apart := false }
def RaftReadsSaid : Prop := raftReadsRow.holds Try.pinned (OpenSpec.ofChange raftReadsSpec)

/-- ITS FALSE NEIGHBOUR: 'it returns false'. Refute it at one input. -/
def raftReadsWrong : ChangeSpec := { name := "raftReads", fn := fun _ => fun
  | [d1, d2, d3] => { results := [.lit (.bool false)], args := [d1, d2, d3] }
  | _ => none }
def RaftReadsWrongFalsely : Prop := raftReadsRow.holds Try.pinned (OpenSpec.ofChange raftReadsWrong)

/-- 'shortcutlaw25.RaftForms': WHATEVER THE INPUT: true; the input reads as it did. -/
def raftFormsSpec : ChangeSpec := { name := "raftForms", fn := fun _ => fun
  | [] => { results := [.lit (.bool true)], args := [] }
  | _ => none }
def raftFormsRow : OpenClaim := { program := "ytnbfffmdplcajaa", sum := "ea31bb6ac40c1a7eabb484767c7184102cb462e81c304aeeecf2fdddff0b0919", func := "shortcut/shortcutlaw25.RaftForms", spec := "raftForms", unfollowed := true, recurses := true, apart := false }
def RaftFormsSaid : Prop := raftFormsRow.holds Try.pinned (OpenSpec.ofChange raftFormsSpec)

/-- ITS FALSE NEIGHBOUR: 'it returns false'. Refute it at one input. -/
def raftFormsWrong : ChangeSpec := { name := "raftForms", fn := fun _ => fun
  | [] => { results := [.lit (.bool false)], args := [] }
  | _ => none }
def RaftFormsWrongFalsely : Prop := raftFormsRow.holds Try.pinned (OpenSpec.ofChange raftFormsWrong)

/- THE SECOND FORM. 'bulk': how many values and letters a reading holds, each counted each time it is reached (what is shared counts as often as it is met; a slice's spare places count too). A statement '..UptoSaid' is the law's where the arguments, and the package variables that the reading takes, are together of bulk at most 1048576: NARROWER than '..Said'. Prove '..Said' where nothing that the law and all that it calls make is longer than what came in: it says more and counts as full. Else prove '..UptoSaid'. A law counts once. -/
mutual
def uptoBulk {H : Type} : DataW H → Nat
  | .lit (.string bytes) => bytes.length + 1
  | .lit _ => 1
  | .nil => 1
  | .ptr d => uptoBulk d + 1
  | .slice elems spare => uptoBulkAll elems + uptoBulkAll spare + 1
  | .agg parts => uptoBulkAll parts + 1
  | .iface _ d => uptoBulk d + 1
  | .map entries => uptoBulkEntries entries + 1
  | .held _ => 1
def uptoBulkAll {H : Type} : List (DataW H) → Nat
  | [] => 0
  | d :: r => uptoBulk d + uptoBulkAll r
def uptoBulkEntries {H : Type} : List (Lit × DataW H) → Nat
  | [] => 0
  | x :: r => uptoBulkEntry x + uptoBulkEntries r
def uptoBulkEntry {H : Type} : Lit × DataW H → Nat
  | (.string bytes, d) => bytes.length + uptoBulk d + 1
  | (_, d) => uptoBulk d + 1
 end
def uptoSmall : (H : Type) → List (DataW H) → Bool := fun _ ds => decide (uptoBulkAll ds ≤ 1048576)
def OpenSpec.upto (s : _root_.Go.ChangeSpec) : _root_.Go.OpenSpec := { _root_.Go.OpenSpec.ofChange s with cond := some uptoSmall }

/-- 'shortcutlaw25.RaftBegins', WHERE WHAT IT READS IS OF BULK AT MOST 1048576: true; the input reads as it did. -/
def raftBeginsUptoRow : OpenClaim := { program := "ytnbfffmdplcajaa", sum := "ea31bb6ac40c1a7eabb484767c7184102cb462e81c304aeeecf2fdddff0b0919", func := "shortcut/shortcutlaw25.RaftBegins", spec := "raftBegins", unfollowed := true, recurses := true, apart := false, narrowed := true }
def RaftBeginsUptoSaid : Prop := raftBeginsUptoRow.holds Try.pinned (OpenSpec.upto raftBeginsSpec)

/-- 'shortcutlaw25.RaftCompacts', WHERE WHAT IT READS IS OF BULK AT MOST 1048576: true; the input reads as it did. -/
def raftCompactsUptoRow : OpenClaim := { program := "ytnbfffmdplcajaa", sum := "ea31bb6ac40c1a7eabb484767c7184102cb462e81c304aeeecf2fdddff0b0919", func := "shortcut/shortcutlaw25.RaftCompacts", spec := "raftCompacts", unfollowed := true, recurses := true, apart := false, narrowed := true }
def RaftCompactsUptoSaid : Prop := raftCompactsUptoRow.holds Try.pinned (OpenSpec.upto raftCompactsSpec)

/-- 'shortcutlaw25.RaftAlone', WHERE WHAT IT READS IS OF BULK AT MOST 1048576: true; the input reads as it did. -/
def raftAloneUptoRow : OpenClaim := { program := "ytnbfffmdplcajaa", sum := "ea31bb6ac40c1a7eabb484767c7184102cb462e81c304aeeecf2fdddff0b0919", func := "shortcut/shortcutlaw25.RaftAlone", spec := "raftAlone", unfollowed := true, recurses := true, apart := false, narrowed := true }
def RaftAloneUptoSaid : Prop := raftAloneUptoRow.holds Try.pinned (OpenSpec.upto raftAloneSpec)

/-- 'shortcutlaw25.RaftStill', WHERE WHAT IT READS IS OF BULK AT MOST 1048576: true; the input reads as it did. -/
def raftStillUptoRow : OpenClaim := { program := "ytnbfffmdplcajaa", sum := "ea31bb6ac40c1a7eabb484767c7184102cb462e81c304aeeecf2fdddff0b0919", func := "shortcut/shortcutlaw25.RaftStill", spec := "raftStill", unfollowed := true, recurses := true, apart := false, narrowed := true }
def RaftStillUptoSaid : Prop := raftStillUptoRow.holds Try.pinned (OpenSpec.upto raftStillSpec)

/-- 'shortcutlaw25.RaftActs', WHERE WHAT IT READS IS OF BULK AT MOST 1048576: true; the input reads as it did. -/
def raftActsUptoRow : OpenClaim := { program := "ytnbfffmdplcajaa", sum := "ea31bb6ac40c1a7eabb484767c7184102cb462e81c304aeeecf2fdddff0b0919", func := "shortcut/shortcutlaw25.RaftActs", spec := "raftActs", unfollowed := true, recurses := true, apart := false, narrowed := true }
def RaftActsUptoSaid : Prop := raftActsUptoRow.holds Try.pinned (OpenSpec.upto raftActsSpec)

/-- 'shortcutlaw25.RaftKeeps', WHERE WHAT IT READS IS OF BULK AT MOST 1048576: true; the input reads as it did. -/
def raftKeepsUptoRow : OpenClaim := { program := "ytnbfffmdplcajaa", sum := "ea31bb6ac40c1a7eabb484767c7184102cb462e81c304aeeecf2fdddff0b0919", func := "shortcut/shortcutlaw25.RaftKeeps", spec := "raftKeeps", unfollowed := true, recurses := true, apart := false, narrowed := true }
def RaftKeepsUptoSaid : Prop := raftKeepsUptoRow.holds Try.pinned (OpenSpec.upto raftKeepsSpec)

/-- 'shortcutlaw25.RaftGot', WHERE WHAT IT READS IS OF BULK AT MOST 1048576: true; the input reads as it did. -/
def raftGotUptoRow : OpenClaim := { program := "ytnbfffmdplcajaa", sum := "ea31bb6ac40c1a7eabb484767c7184102cb462e81c304aeeecf2fdddff0b0919", func := "shortcut/shortcutlaw25.RaftGot", spec := "raftGot", unfollowed := true, recurses := true, apart := false, narrowed := true }
def RaftGotUptoSaid : Prop := raftGotUptoRow.holds Try.pinned (OpenSpec.upto raftGotSpec)

/-- 'shortcutlaw25.RaftTerms', WHERE WHAT IT READS IS OF BULK AT MOST 1048576: true; the input reads as it did. -/
def raftTermsUptoRow : OpenClaim := { program := "ytnbfffmdplcajaa", sum := "ea31bb6ac40c1a7eabb484767c7184102cb462e81c304aeeecf2fdddff0b0919", func := "shortcut/shortcutlaw25.RaftTerms", spec := "raftTerms", unfollowed := true, recurses := true, apart := false, narrowed := true }
def RaftTermsUptoSaid : Prop := raftTermsUptoRow.holds Try.pinned (OpenSpec.upto raftTermsSpec)

/-- 'shortcutlaw25.RaftCommits', WHERE WHAT IT READS IS OF BULK AT MOST 1048576: true; the input reads as it did. -/
def raftCommitsUptoRow : OpenClaim := { program := "ytnbfffmdplcajaa", sum := "ea31bb6ac40c1a7eabb484767c7184102cb462e81c304aeeecf2fdddff0b0919", func := "shortcut/shortcutlaw25.RaftCommits", spec := "raftCommits", unfollowed := true, recurses := true, apart := false, narrowed := true }
def RaftCommitsUptoSaid : Prop := raftCommitsUptoRow.holds Try.pinned (OpenSpec.upto raftCommitsSpec)

/-- 'shortcutlaw25.RaftMost', WHERE WHAT IT READS IS OF BULK AT MOST 1048576: true; the input reads as it did. -/
def raftMostUptoRow : OpenClaim := { program := "ytnbfffmdplcajaa", sum := "ea31bb6ac40c1a7eabb484767c7184102cb462e81c304aeeecf2fdddff0b0919", func := "shortcut/shortcutlaw25.RaftMost", spec := "raftMost", unfollowed := true, recurses := true, apart := false, narrowed := true }
def RaftMostUptoSaid : Prop := raftMostUptoRow.holds Try.pinned (OpenSpec.upto raftMostSpec)

/-- 'shortcutlaw25.RaftGrants', WHERE WHAT IT READS IS OF BULK AT MOST 1048576: true; the input reads as it did. -/
def raftGrantsUptoRow : OpenClaim := { program := "ytnbfffmdplcajaa", sum := "ea31bb6ac40c1a7eabb484767c7184102cb462e81c304aeeecf2fdddff0b0919", func := "shortcut/shortcutlaw25.RaftGrants", spec := "raftGrants", unfollowed := true, recurses := true, apart := false, narrowed := true }
def RaftGrantsUptoSaid : Prop := raftGrantsUptoRow.holds Try.pinned (OpenSpec.upto raftGrantsSpec)

/-- 'shortcutlaw25.RaftOthers', WHERE WHAT IT READS IS OF BULK AT MOST 1048576: true; the input reads as it did. -/
def raftOthersUptoRow : OpenClaim := { program := "ytnbfffmdplcajaa", sum := "ea31bb6ac40c1a7eabb484767c7184102cb462e81c304aeeecf2fdddff0b0919", func := "shortcut/shortcutlaw25.RaftOthers", spec := "raftOthers", unfollowed := true, recurses := true, apart := false, narrowed := true }
def RaftOthersUptoSaid : Prop := raftOthersUptoRow.holds Try.pinned (OpenSpec.upto raftOthersSpec)

/-- 'shortcutlaw25.RaftAppends', WHERE WHAT IT READS IS OF BULK AT MOST 1048576: true; the input reads as it did. -/
def raftAppendsUptoRow : OpenClaim := { program := "ytnbfffmdplcajaa", sum := "ea31bb6ac40c1a7eabb484767c7184102cb462e81c304aeeecf2fdddff0b0919", func := "shortcut/shortcutlaw25.RaftAppends", spec := "raftAppends", unfollowed := true, recurses := true, apart := false, narrowed := true }
def RaftAppendsUptoSaid : Prop := raftAppendsUptoRow.holds Try.pinned (OpenSpec.upto raftAppendsSpec)

/-- 'shortcutlaw25.RaftSnaps', WHERE WHAT IT READS IS OF BULK AT MOST 1048576: true; the input reads as it did. -/
def raftSnapsUptoRow : OpenClaim := { program := "ytnbfffmdplcajaa", sum := "ea31bb6ac40c1a7eabb484767c7184102cb462e81c304aeeecf2fdddff0b0919", func := "shortcut/shortcutlaw25.RaftSnaps", spec := "raftSnaps", unfollowed := true, recurses := true, apart := false, narrowed := true }
def RaftSnapsUptoSaid : Prop := raftSnapsUptoRow.holds Try.pinned (OpenSpec.upto raftSnapsSpec)

/-- 'shortcutlaw25.RaftOld', WHERE WHAT IT READS IS OF BULK AT MOST 1048576: true; the input reads as it did. -/
def raftOldUptoRow : OpenClaim := { program := "ytnbfffmdplcajaa", sum := "ea31bb6ac40c1a7eabb484767c7184102cb462e81c304aeeecf2fdddff0b0919", func := "shortcut/shortcutlaw25.RaftOld", spec := "raftOld", unfollowed := true, recurses := true, apart := false, narrowed := true }
def RaftOldUptoSaid : Prop := raftOldUptoRow.holds Try.pinned (OpenSpec.upto raftOldSpec)

/-- 'shortcutlaw25.RaftElects', WHERE WHAT IT READS IS OF BULK AT MOST 1048576: true; the input reads as it did. -/
def raftElectsUptoRow : OpenClaim := { program := "ytnbfffmdplcajaa", sum := "ea31bb6ac40c1a7eabb484767c7184102cb462e81c304aeeecf2fdddff0b0919", func := "shortcut/shortcutlaw25.RaftElects", spec := "raftElects", unfollowed := true, recurses := true, apart := false, narrowed := true }
def RaftElectsUptoSaid : Prop := raftElectsUptoRow.holds Try.pinned (OpenSpec.upto raftElectsSpec)

/-- 'shortcutlaw25.RaftMeets', WHERE WHAT IT READS IS OF BULK AT MOST 1048576: true; the input reads as it did. -/
def raftMeetsUptoRow : OpenClaim := { program := "ytnbfffmdplcajaa", sum := "ea31bb6ac40c1a7eabb484767c7184102cb462e81c304aeeecf2fdddff0b0919", func := "shortcut/shortcutlaw25.RaftMeets", spec := "raftMeets", unfollowed := true, recurses := true, apart := false, narrowed := true }
def RaftMeetsUptoSaid : Prop := raftMeetsUptoRow.holds Try.pinned (OpenSpec.upto raftMeetsSpec)

/-- 'shortcutlaw25.RaftReads', WHERE WHAT IT READS IS OF BULK AT MOST 1048576: true; the input reads as it did. -/
def raftReadsUptoRow : OpenClaim := { program := "ytnbfffmdplcajaa", sum := "ea31bb6ac40c1a7eabb484767c7184102cb462e81c304aeeecf2fdddff0b0919", func := "shortcut/shortcutlaw25.RaftReads", spec := "raftReads", unfollowed := true, recurses := true, apart := false, narrowed := true }
def RaftReadsUptoSaid : Prop := raftReadsUptoRow.holds Try.pinned (OpenSpec.upto raftReadsSpec)

/-- 'shortcutlaw25.RaftForms', WHERE WHAT IT READS IS OF BULK AT MOST 1048576: true; the input reads as it did. -/
def raftFormsUptoRow : OpenClaim := { program := "ytnbfffmdplcajaa", sum := "ea31bb6ac40c1a7eabb484767c7184102cb462e81c304aeeecf2fdddff0b0919", func := "shortcut/shortcutlaw25.RaftForms", spec := "raftForms", unfollowed := true, recurses := true, apart := false, narrowed := true }
def RaftFormsUptoSaid : Prop := raftFormsUptoRow.holds Try.pinned (OpenSpec.upto raftFormsSpec)

end Rows
end Go.Proofs.Ytnbfffmdplcajaa
