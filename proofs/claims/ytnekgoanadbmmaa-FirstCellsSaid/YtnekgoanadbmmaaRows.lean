/-
  No cell of these rows narrows 'for every input' (looked for: loops, veiled, ifaces, maps, wideKeys, modest, calm, conditions, laid).
  DERIVED. THE GIVEN ROWS OF THIS SEAT. 10 by the template 'for every input the law returns true; each argument reads behind the call as it read before'; 0 by the template 'total and deterministic' (their statements: YtnekgoanadbmmaaTotals.lean).
  GIVEN WITH THE SEED: the statements are not yours to turn. If you find one false, say at which input.
  Laid BY PROGRAM, IN A SANDBOX (cutbox-rows.mjs): the forced cells as the released guide's own fill.sh prints them over the translation 869a9a8fdfb52aae… (all of the seat's roots in one cut). By AI agents, Wed Nov 11 2026. No macro, syntax, notation, axiom, sorry.
-/
import Derived.Test.YtnekgoanadbmmaaChecked
import GoSem.Claim
import GoSem.ClaimJoined
import GoSem.ClaimMapViews
import Derived.JoinedTies
import Derived.KernelRfl
namespace Go.Proofs.Ytnekgoanadbmmaa
/- THE CELL 'sum', in the pinned program and in every row, IS THE sha256 OF THE DUMP (.gsa) THAT YtnekgoanadbmmaaProg.lean LOADS. Nothing in Lean hashes anything: it is a label: what it is worth is what the hold of that sum in a sandbox is worth. -/
noncomputable def Try.pinned : Pinned := { name := "ytnekgoanadbmmaa", sum := "869a9a8fdfb52aaed38d5a3262988ded719dfbcf51b3befe214dc6f7d2add38f", checked := Try.checked }
namespace Rows
def none {H : Type} : Left H := { results := [], args := [] }

/-- 'stickfullaw26.EllipsisPlain': WHATEVER THE INPUT: true; the input reads as it did. -/
def ellipsisPlainSpec : ChangeSpec := { name := "ellipsisPlain", fn := fun _ => fun
  | [d1, d2] => { results := [.lit (.bool true)], args := [d1, d2] }
  | _ => none }
def ellipsisPlainRow : OpenClaim := { program := "ytnekgoanadbmmaa", sum := "869a9a8fdfb52aaed38d5a3262988ded719dfbcf51b3befe214dc6f7d2add38f", func := "stickful/stickfullaw26.EllipsisPlain", spec := "ellipsisPlain", inPlace := ["math/bits.Add64"], unfollowed := true, recurses := true, apart := false }
def EllipsisPlainSaid : Prop := ellipsisPlainRow.holds Try.pinned (OpenSpec.ofChange ellipsisPlainSpec)

/-- ITS FALSE NEIGHBOUR: 'it returns false'. Refute it at one input. -/
def ellipsisPlainWrong : ChangeSpec := { name := "ellipsisPlain", fn := fun _ => fun
  | [d1, d2] => { results := [.lit (.bool false)], args := [d1, d2] }
  | _ => none }
def EllipsisPlainWrongFalsely : Prop := ellipsisPlainRow.holds Try.pinned (OpenSpec.ofChange ellipsisPlainWrong)

/-- 'stickfullaw26.EllipsisFits': WHATEVER THE INPUT: true; the input reads as it did. -/
def ellipsisFitsSpec : ChangeSpec := { name := "ellipsisFits", fn := fun _ => fun
  | [d1, d2] => { results := [.lit (.bool true)], args := [d1, d2] }
  | _ => none }
def ellipsisFitsRow : OpenClaim := { program := "ytnekgoanadbmmaa", sum := "869a9a8fdfb52aaed38d5a3262988ded719dfbcf51b3befe214dc6f7d2add38f", func := "stickful/stickfullaw26.EllipsisFits", spec := "ellipsisFits", inPlace := ["math/bits.Add64"], unfollowed := true, recurses := true, apart := false }
def EllipsisFitsSaid : Prop := ellipsisFitsRow.holds Try.pinned (OpenSpec.ofChange ellipsisFitsSpec)

/-- ITS FALSE NEIGHBOUR: 'it returns false'. Refute it at one input. -/
def ellipsisFitsWrong : ChangeSpec := { name := "ellipsisFits", fn := fun _ => fun
  | [d1, d2] => { results := [.lit (.bool false)], args := [d1, d2] }
  | _ => none }
def EllipsisFitsWrongFalsely : Prop := ellipsisFitsRow.holds Try.pinned (OpenSpec.ofChange ellipsisFitsWrong)

/-- 'stickfullaw07.ArenaDeep': WHATEVER THE INPUT: true; the input reads as it did. -/
def arenaDeepSpec : ChangeSpec := { name := "arenaDeep", fn := fun _ => fun
  | [d1, d2] => { results := [.lit (.bool true)], args := [d1, d2] }
  | _ => none }
def arenaDeepRow : OpenClaim := { program := "ytnekgoanadbmmaa", sum := "869a9a8fdfb52aaed38d5a3262988ded719dfbcf51b3befe214dc6f7d2add38f", func := "stickful/stickfullaw07.ArenaDeep", spec := "arenaDeep", unfollowed := true, recurses := true, apart := false }
def ArenaDeepSaid : Prop := arenaDeepRow.holds Try.pinned (OpenSpec.ofChange arenaDeepSpec)

/-- ITS FALSE NEIGHBOUR: 'it returns false'. Refute it at one input. -/
def arenaDeepWrong : ChangeSpec := { name := "arenaDeep", fn := fun _ => fun
  | [d1, d2] => { results := [.lit (.bool false)], args := [d1, d2] }
  | _ => none }
def ArenaDeepWrongFalsely : Prop := arenaDeepRow.holds Try.pinned (OpenSpec.ofChange arenaDeepWrong)

/-- 'stickfullaw15.FirstLines': WHATEVER THE INPUT: true; the input reads as it did. -/
def firstLinesSpec : ChangeSpec := { name := "firstLines", fn := fun _ => fun
  | [d] => { results := [.lit (.bool true)], args := [d] }
  | _ => none }
def firstLinesRow : OpenClaim := { program := "ytnekgoanadbmmaa", sum := "869a9a8fdfb52aaed38d5a3262988ded719dfbcf51b3befe214dc6f7d2add38f", func := "stickful/stickfullaw15.FirstLines", spec := "firstLines", inPlace := ["math/bits.Add64"], unfollowed := true, recurses := true, apart := false }
def FirstLinesSaid : Prop := firstLinesRow.holds Try.pinned (OpenSpec.ofChange firstLinesSpec)

/-- ITS FALSE NEIGHBOUR: 'it returns false'. Refute it at one input. -/
def firstLinesWrong : ChangeSpec := { name := "firstLines", fn := fun _ => fun
  | [d] => { results := [.lit (.bool false)], args := [d] }
  | _ => none }
def FirstLinesWrongFalsely : Prop := firstLinesRow.holds Try.pinned (OpenSpec.ofChange firstLinesWrong)

/-- 'stickfullaw15.FirstCells': WHATEVER THE INPUT: true; the input reads as it did. -/
def firstCellsSpec : ChangeSpec := { name := "firstCells", fn := fun _ => fun
  | [d1, d2] => { results := [.lit (.bool true)], args := [d1, d2] }
  | _ => none }
def firstCellsRow : OpenClaim := { program := "ytnekgoanadbmmaa", sum := "869a9a8fdfb52aaed38d5a3262988ded719dfbcf51b3befe214dc6f7d2add38f", func := "stickful/stickfullaw15.FirstCells", spec := "firstCells", inPlace := ["math/bits.Add64"], unfollowed := true, recurses := true, apart := false }
def FirstCellsSaid : Prop := firstCellsRow.holds Try.pinned (OpenSpec.ofChange firstCellsSpec)

/-- ITS FALSE NEIGHBOUR: 'it returns false'. Refute it at one input. -/
def firstCellsWrong : ChangeSpec := { name := "firstCells", fn := fun _ => fun
  | [d1, d2] => { results := [.lit (.bool false)], args := [d1, d2] }
  | _ => none }
def FirstCellsWrongFalsely : Prop := firstCellsRow.holds Try.pinned (OpenSpec.ofChange firstCellsWrong)

/-- 'stickfullaw15.FirstWide': WHATEVER THE INPUT: true; the input reads as it did. -/
def firstWideSpec : ChangeSpec := { name := "firstWide", fn := fun _ => fun
  | [d] => { results := [.lit (.bool true)], args := [d] }
  | _ => none }
def firstWideRow : OpenClaim := { program := "ytnekgoanadbmmaa", sum := "869a9a8fdfb52aaed38d5a3262988ded719dfbcf51b3befe214dc6f7d2add38f", func := "stickful/stickfullaw15.FirstWide", spec := "firstWide", inPlace := ["math/bits.Add64"], unfollowed := true, recurses := true, apart := false }
def FirstWideSaid : Prop := firstWideRow.holds Try.pinned (OpenSpec.ofChange firstWideSpec)

/-- ITS FALSE NEIGHBOUR: 'it returns false'. Refute it at one input. -/
def firstWideWrong : ChangeSpec := { name := "firstWide", fn := fun _ => fun
  | [d] => { results := [.lit (.bool false)], args := [d] }
  | _ => none }
def FirstWideWrongFalsely : Prop := firstWideRow.holds Try.pinned (OpenSpec.ofChange firstWideWrong)

/-- 'stickfullaw15.FirstSame': WHATEVER THE INPUT: true; the input reads as it did. -/
def firstSameSpec : ChangeSpec := { name := "firstSame", fn := fun _ => fun
  | [d] => { results := [.lit (.bool true)], args := [d] }
  | _ => none }
def firstSameRow : OpenClaim := { program := "ytnekgoanadbmmaa", sum := "869a9a8fdfb52aaed38d5a3262988ded719dfbcf51b3befe214dc6f7d2add38f", func := "stickful/stickfullaw15.FirstSame", spec := "firstSame", inPlace := ["math/bits.Add64"], unfollowed := true, recurses := true, apart := false }
def FirstSameSaid : Prop := firstSameRow.holds Try.pinned (OpenSpec.ofChange firstSameSpec)

/-- ITS FALSE NEIGHBOUR: 'it returns false'. Refute it at one input. -/
def firstSameWrong : ChangeSpec := { name := "firstSame", fn := fun _ => fun
  | [d] => { results := [.lit (.bool false)], args := [d] }
  | _ => none }
def FirstSameWrongFalsely : Prop := firstSameRow.holds Try.pinned (OpenSpec.ofChange firstSameWrong)

/-- 'stickfullaw24.FragsNest': WHATEVER THE INPUT: true; the input reads as it did. -/
def fragsNestSpec : ChangeSpec := { name := "fragsNest", fn := fun _ => fun
  | [d] => { results := [.lit (.bool true)], args := [d] }
  | _ => none }
def fragsNestRow : OpenClaim := { program := "ytnekgoanadbmmaa", sum := "869a9a8fdfb52aaed38d5a3262988ded719dfbcf51b3befe214dc6f7d2add38f", func := "stickful/stickfullaw24.FragsNest", spec := "fragsNest", unfollowed := true, recurses := true, apart := false }
def FragsNestSaid : Prop := fragsNestRow.holds Try.pinned (OpenSpec.ofChange fragsNestSpec)

/-- ITS FALSE NEIGHBOUR: 'it returns false'. Refute it at one input. -/
def fragsNestWrong : ChangeSpec := { name := "fragsNest", fn := fun _ => fun
  | [d] => { results := [.lit (.bool false)], args := [d] }
  | _ => none }
def FragsNestWrongFalsely : Prop := fragsNestRow.holds Try.pinned (OpenSpec.ofChange fragsNestWrong)

/-- 'stickfullaw24.FragsEdges': WHATEVER THE INPUT: true; the input reads as it did. -/
def fragsEdgesSpec : ChangeSpec := { name := "fragsEdges", fn := fun _ => fun
  | [d1, d2] => { results := [.lit (.bool true)], args := [d1, d2] }
  | _ => none }
def fragsEdgesRow : OpenClaim := { program := "ytnekgoanadbmmaa", sum := "869a9a8fdfb52aaed38d5a3262988ded719dfbcf51b3befe214dc6f7d2add38f", func := "stickful/stickfullaw24.FragsEdges", spec := "fragsEdges", unfollowed := true, recurses := true, apart := false }
def FragsEdgesSaid : Prop := fragsEdgesRow.holds Try.pinned (OpenSpec.ofChange fragsEdgesSpec)

/-- ITS FALSE NEIGHBOUR: 'it returns false'. Refute it at one input. -/
def fragsEdgesWrong : ChangeSpec := { name := "fragsEdges", fn := fun _ => fun
  | [d1, d2] => { results := [.lit (.bool false)], args := [d1, d2] }
  | _ => none }
def FragsEdgesWrongFalsely : Prop := fragsEdgesRow.holds Try.pinned (OpenSpec.ofChange fragsEdgesWrong)

/-- 'stickfullaw24.FragsCount': WHATEVER THE INPUT: true; the input reads as it did. -/
def fragsCountSpec : ChangeSpec := { name := "fragsCount", fn := fun _ => fun
  | [d] => { results := [.lit (.bool true)], args := [d] }
  | _ => none }
def fragsCountRow : OpenClaim := { program := "ytnekgoanadbmmaa", sum := "869a9a8fdfb52aaed38d5a3262988ded719dfbcf51b3befe214dc6f7d2add38f", func := "stickful/stickfullaw24.FragsCount", spec := "fragsCount", unfollowed := true, recurses := true, apart := false }
def FragsCountSaid : Prop := fragsCountRow.holds Try.pinned (OpenSpec.ofChange fragsCountSpec)

/-- ITS FALSE NEIGHBOUR: 'it returns false'. Refute it at one input. -/
def fragsCountWrong : ChangeSpec := { name := "fragsCount", fn := fun _ => fun
  | [d] => { results := [.lit (.bool false)], args := [d] }
  | _ => none }
def FragsCountWrongFalsely : Prop := fragsCountRow.holds Try.pinned (OpenSpec.ofChange fragsCountWrong)

/- THE SECOND FORM. 'bulk': how many values and letters a reading holds, each counted each time it is reached (what is shared counts as often as it is met; a slice's spare places count too). A statement '..UptoSaid' is the law's where the arguments, and the package variables that the reading takes, are together of bulk at most 1048576: NARROWER than '..Said'. Prove '..Said' where nothing that the law and all that it calls make is longer than what came in: it says more and counts as full. Else prove '..UptoSaid'. A law counts once. -/
mutual
def uptoBulk {H : Type} : DataW H → Nat
  | .lit (.string bytes) => bytes.length + 1
  | .lit _ => 1
  | .nil => 1
  | .ptr d => uptoBulk d + 1
  | .slice elems spare => uptoBulkAll elems + uptoBulkAll spare + 1
  | .agg parts => uptoBulkAll parts + 1
  | .iface _ d => uptoBulk d + 1
  | .map entries => uptoBulkEntries entries + 1
  | .held _ => 1
def uptoBulkAll {H : Type} : List (DataW H) → Nat
  | [] => 0
  | d :: r => uptoBulk d + uptoBulkAll r
def uptoBulkEntries {H : Type} : List (Lit × DataW H) → Nat
  | [] => 0
  | x :: r => uptoBulkEntry x + uptoBulkEntries r
def uptoBulkEntry {H : Type} : Lit × DataW H → Nat
  | (.string bytes, d) => bytes.length + uptoBulk d + 1
  | (_, d) => uptoBulk d + 1
 end
def uptoSmall : (H : Type) → List (DataW H) → Bool := fun _ ds => decide (uptoBulkAll ds ≤ 1048576)
def OpenSpec.upto (s : _root_.Go.ChangeSpec) : _root_.Go.OpenSpec := { _root_.Go.OpenSpec.ofChange s with cond := some uptoSmall }

/-- 'stickfullaw26.EllipsisPlain', WHERE WHAT IT READS IS OF BULK AT MOST 1048576: true; the input reads as it did. -/
def ellipsisPlainUptoRow : OpenClaim := { program := "ytnekgoanadbmmaa", sum := "869a9a8fdfb52aaed38d5a3262988ded719dfbcf51b3befe214dc6f7d2add38f", func := "stickful/stickfullaw26.EllipsisPlain", spec := "ellipsisPlain", inPlace := ["math/bits.Add64"], unfollowed := true, recurses := true, apart := false, narrowed := true }
def EllipsisPlainUptoSaid : Prop := ellipsisPlainUptoRow.holds Try.pinned (OpenSpec.upto ellipsisPlainSpec)

/-- 'stickfullaw26.EllipsisFits', WHERE WHAT IT READS IS OF BULK AT MOST 1048576: true; the input reads as it did. -/
def ellipsisFitsUptoRow : OpenClaim := { program := "ytnekgoanadbmmaa", sum := "869a9a8fdfb52aaed38d5a3262988ded719dfbcf51b3befe214dc6f7d2add38f", func := "stickful/stickfullaw26.EllipsisFits", spec := "ellipsisFits", inPlace := ["math/bits.Add64"], unfollowed := true, recurses := true, apart := false, narrowed := true }
def EllipsisFitsUptoSaid : Prop := ellipsisFitsUptoRow.holds Try.pinned (OpenSpec.upto ellipsisFitsSpec)

/-- 'stickfullaw07.ArenaDeep', WHERE WHAT IT READS IS OF BULK AT MOST 1048576: true; the input reads as it did. -/
def arenaDeepUptoRow : OpenClaim := { program := "ytnekgoanadbmmaa", sum := "869a9a8fdfb52aaed38d5a3262988ded719dfbcf51b3befe214dc6f7d2add38f", func := "stickful/stickfullaw07.ArenaDeep", spec := "arenaDeep", unfollowed := true, recurses := true, apart := false, narrowed := true }
def ArenaDeepUptoSaid : Prop := arenaDeepUptoRow.holds Try.pinned (OpenSpec.upto arenaDeepSpec)

/-- 'stickfullaw15.FirstLines', WHERE WHAT IT READS IS OF BULK AT MOST 1048576: true; the input reads as it did. -/
def firstLinesUptoRow : OpenClaim := { program := "ytnekgoanadbmmaa", sum := "869a9a8fdfb52aaed38d5a3262988ded719dfbcf51b3befe214dc6f7d2add38f", func := "stickful/stickfullaw15.FirstLines", spec := "firstLines", inPlace := ["math/bits.Add64"], unfollowed := true, recurses := true, apart := false, narrowed := true }
def FirstLinesUptoSaid : Prop := firstLinesUptoRow.holds Try.pinned (OpenSpec.upto firstLinesSpec)

/-- 'stickfullaw15.FirstCells', WHERE WHAT IT READS IS OF BULK AT MOST 1048576: true; the input reads as it did. -/
def firstCellsUptoRow : OpenClaim := { program := "ytnekgoanadbmmaa", sum := "869a9a8fdfb52aaed38d5a3262988ded719dfbcf51b3befe214dc6f7d2add38f", func := "stickful/stickfullaw15.FirstCells", spec := "firstCells", inPlace := ["math/bits.Add64"], unfollowed := true, recurses := true, apart := false, narrowed := true }
def FirstCellsUptoSaid : Prop := firstCellsUptoRow.holds Try.pinned (OpenSpec.upto firstCellsSpec)

/-- 'stickfullaw15.FirstWide', WHERE WHAT IT READS IS OF BULK AT MOST 1048576: true; the input reads as it did. -/
def firstWideUptoRow : OpenClaim := { program := "ytnekgoanadbmmaa", sum := "869a9a8fdfb52aaed38d5a3262988ded719dfbcf51b3befe214dc6f7d2add38f", func := "stickful/stickfullaw15.FirstWide", spec := "firstWide", inPlace := ["math/bits.Add64"], unfollowed := true, recurses := true, apart := false, narrowed := true }
def FirstWideUptoSaid : Prop := firstWideUptoRow.holds Try.pinned (OpenSpec.upto firstWideSpec)

/-- 'stickfullaw15.FirstSame', WHERE WHAT IT READS IS OF BULK AT MOST 1048576: true; the input reads as it did. -/
def firstSameUptoRow : OpenClaim := { program := "ytnekgoanadbmmaa", sum := "869a9a8fdfb52aaed38d5a3262988ded719dfbcf51b3befe214dc6f7d2add38f", func := "stickful/stickfullaw15.FirstSame", spec := "firstSame", inPlace := ["math/bits.Add64"], unfollowed := true, recurses := true, apart := false, narrowed := true }
def FirstSameUptoSaid : Prop := firstSameUptoRow.holds Try.pinned (OpenSpec.upto firstSameSpec)

/-- 'stickfullaw24.FragsNest', WHERE WHAT IT READS IS OF BULK AT MOST 1048576: true; the input reads as it did. -/
def fragsNestUptoRow : OpenClaim := { program := "ytnekgoanadbmmaa", sum := "869a9a8fdfb52aaed38d5a3262988ded719dfbcf51b3befe214dc6f7d2add38f", func := "stickful/stickfullaw24.FragsNest", spec := "fragsNest", unfollowed := true, recurses := true, apart := false, narrowed := true }
def FragsNestUptoSaid : Prop := fragsNestUptoRow.holds Try.pinned (OpenSpec.upto fragsNestSpec)

/-- 'stickfullaw24.FragsEdges', WHERE WHAT IT READS IS OF BULK AT MOST 1048576: true; the input reads as it did. -/
def fragsEdgesUptoRow : OpenClaim := { program := "ytnekgoanadbmmaa", sum := "869a9a8fdfb52aaed38d5a3262988ded719dfbcf51b3befe214dc6f7d2add38f", func := "stickful/stickfullaw24.FragsEdges", spec := "fragsEdges", unfollowed := true, recurses := true, apart := false, narrowed := true }
def FragsEdgesUptoSaid : Prop := fragsEdgesUptoRow.holds Try.pinned (OpenSpec.upto fragsEdgesSpec)

/-- 'stickfullaw24.FragsCount', WHERE WHAT IT READS IS OF BULK AT MOST 1048576: true; the input reads as it did. -/
def fragsCountUptoRow : OpenClaim := { program := "ytnekgoanadbmmaa", sum := "869a9a8fdfb52aaed38d5a3262988ded719dfbcf51b3befe214dc6f7d2add38f", func := "stickful/stickfullaw24.FragsCount", spec := "fragsCount", unfollowed := true, recurses := true, apart := false, narrowed := true }
def FragsCountUptoSaid : Prop := fragsCountUptoRow.holds Try.pinned (OpenSpec.upto fragsCountSpec)

end Rows
end Go.Proofs.Ytnekgoanadbmmaa
