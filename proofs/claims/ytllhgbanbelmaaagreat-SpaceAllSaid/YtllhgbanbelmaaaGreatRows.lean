/-
  No cell of these rows narrows 'for every input' (looked for: loops, veiled, ifaces, maps, wideKeys, modest, calm, conditions, laid).
  DERIVED. THE GIVEN ROWS OF THIS SEAT. 10 by the template 'for every input the law returns true; each argument reads behind the call as it read before'; 0 by the template 'total and deterministic' (their statements: YtllhgbanbelmaaaGreatTotals.lean).
  GIVEN WITH THE SEED: the statements are not yours to turn. If you find one false, say at which input.
  Laid BY PROGRAM, IN A SANDBOX (cutbox-rows.mjs): the forced cells as the released guide's own fill.sh prints them over the translation 2b357cb7a835b214… (all of the seat's roots in one cut). By AI agents, Wed Nov 11 2026. No macro, syntax, notation, axiom, sorry.
-/
import Derived.Test.YtllhgbanbelmaaaGreatChecked
import GoSem.Claim
import GoSem.ClaimJoined
import GoSem.ClaimMapViews
import Derived.JoinedTies
import Derived.KernelRfl
namespace Go.Proofs.YtllhgbanbelmaaaGreat
/- THE CELL 'sum', in the pinned program and in every row, IS THE sha256 OF THE DUMP (.gsa) THAT YtllhgbanbelmaaaGreatProg.lean LOADS. Nothing in Lean hashes anything: it is a label: what it is worth is what the hold of that sum in a sandbox is worth. -/
noncomputable def Tryz.pinned : Pinned := { name := "ytllhgbanbelmaaagreat", sum := "2b357cb7a835b214aa5c559d688e86ba8beca2661bdbdd1e5e7ddccfa4203ce4", checked := Tryz.checked }
namespace Rows
def none {H : Type} : Left H := { results := [], args := [] }

/-- 'palimpsestlaw8.SpaceAll': WHATEVER THE INPUT: true; the input reads as it did. -/
def spaceAllSpec : ChangeSpec := { name := "spaceAll", fn := fun _ => fun
  | [d1, d2] => { results := [.lit (.bool true)], args := [d1, d2] }
  | _ => none }
def spaceAllRow : OpenClaim := { program := "ytllhgbanbelmaaagreat", sum := "2b357cb7a835b214aa5c559d688e86ba8beca2661bdbdd1e5e7ddccfa4203ce4", func := "palimpsest/palimpsestlaw8.SpaceAll", spec := "spaceAll", unfollowed := true, recurses := true, apart := false }
def SpaceAllSaid : Prop := spaceAllRow.holds Tryz.pinned (OpenSpec.ofChange spaceAllSpec)

/-- ITS FALSE NEIGHBOUR: 'it returns false'. Refute it at one input. -/
def spaceAllWrong : ChangeSpec := { name := "spaceAll", fn := fun _ => fun
  | [d1, d2] => { results := [.lit (.bool false)], args := [d1, d2] }
  | _ => none }
def SpaceAllWrongFalsely : Prop := spaceAllRow.holds Tryz.pinned (OpenSpec.ofChange spaceAllWrong)

/-- 'palimpsestlaw8.SpaceApart': WHATEVER THE INPUT: true; the input reads as it did. -/
def spaceApartSpec : ChangeSpec := { name := "spaceApart", fn := fun _ => fun
  | [d1, d2] => { results := [.lit (.bool true)], args := [d1, d2] }
  | _ => none }
def spaceApartRow : OpenClaim := { program := "ytllhgbanbelmaaagreat", sum := "2b357cb7a835b214aa5c559d688e86ba8beca2661bdbdd1e5e7ddccfa4203ce4", func := "palimpsest/palimpsestlaw8.SpaceApart", spec := "spaceApart", unfollowed := true, recurses := true, apart := false }
def SpaceApartSaid : Prop := spaceApartRow.holds Tryz.pinned (OpenSpec.ofChange spaceApartSpec)

/-- ITS FALSE NEIGHBOUR: 'it returns false'. Refute it at one input. -/
def spaceApartWrong : ChangeSpec := { name := "spaceApart", fn := fun _ => fun
  | [d1, d2] => { results := [.lit (.bool false)], args := [d1, d2] }
  | _ => none }
def SpaceApartWrongFalsely : Prop := spaceApartRow.holds Tryz.pinned (OpenSpec.ofChange spaceApartWrong)

/-- 'palimpsestlaw10.HeapDrops': WHATEVER THE INPUT: true; the input reads as it did. -/
def heapDropsSpec : ChangeSpec := { name := "heapDrops", fn := fun _ => fun
  | [d1, d2] => { results := [.lit (.bool true)], args := [d1, d2] }
  | _ => none }
def heapDropsRow : OpenClaim := { program := "ytllhgbanbelmaaagreat", sum := "2b357cb7a835b214aa5c559d688e86ba8beca2661bdbdd1e5e7ddccfa4203ce4", func := "palimpsest/palimpsestlaw10.HeapDrops", spec := "heapDrops", unfollowed := true, recurses := true, apart := false }
def HeapDropsSaid : Prop := heapDropsRow.holds Tryz.pinned (OpenSpec.ofChange heapDropsSpec)

/-- ITS FALSE NEIGHBOUR: 'it returns false'. Refute it at one input. -/
def heapDropsWrong : ChangeSpec := { name := "heapDrops", fn := fun _ => fun
  | [d1, d2] => { results := [.lit (.bool false)], args := [d1, d2] }
  | _ => none }
def HeapDropsWrongFalsely : Prop := heapDropsRow.holds Tryz.pinned (OpenSpec.ofChange heapDropsWrong)

/-- 'palimpsestlaw10.HeapBag': WHATEVER THE INPUT: true; the input reads as it did. -/
def heapBagSpec : ChangeSpec := { name := "heapBag", fn := fun _ => fun
  | [d1, d2, d3] => { results := [.lit (.bool true)], args := [d1, d2, d3] }
  | _ => none }
def heapBagRow : OpenClaim := { program := "ytllhgbanbelmaaagreat", sum := "2b357cb7a835b214aa5c559d688e86ba8beca2661bdbdd1e5e7ddccfa4203ce4", func := "palimpsest/palimpsestlaw10.HeapBag", spec := "heapBag", unfollowed := true, recurses := true, apart := false }
def HeapBagSaid : Prop := heapBagRow.holds Tryz.pinned (OpenSpec.ofChange heapBagSpec)

/-- ITS FALSE NEIGHBOUR: 'it returns false'. Refute it at one input. -/
def heapBagWrong : ChangeSpec := { name := "heapBag", fn := fun _ => fun
  | [d1, d2, d3] => { results := [.lit (.bool false)], args := [d1, d2, d3] }
  | _ => none }
def HeapBagWrongFalsely : Prop := heapBagRow.holds Tryz.pinned (OpenSpec.ofChange heapBagWrong)

/-- 'palimpsestlaw10.HeapPlays': WHATEVER THE INPUT: true; the input reads as it did. -/
def heapPlaysSpec : ChangeSpec := { name := "heapPlays", fn := fun _ => fun
  | [d] => { results := [.lit (.bool true)], args := [d] }
  | _ => none }
def heapPlaysRow : OpenClaim := { program := "ytllhgbanbelmaaagreat", sum := "2b357cb7a835b214aa5c559d688e86ba8beca2661bdbdd1e5e7ddccfa4203ce4", func := "palimpsest/palimpsestlaw10.HeapPlays", spec := "heapPlays", unfollowed := true, recurses := true, apart := false }
def HeapPlaysSaid : Prop := heapPlaysRow.holds Tryz.pinned (OpenSpec.ofChange heapPlaysSpec)

/-- ITS FALSE NEIGHBOUR: 'it returns false'. Refute it at one input. -/
def heapPlaysWrong : ChangeSpec := { name := "heapPlays", fn := fun _ => fun
  | [d] => { results := [.lit (.bool false)], args := [d] }
  | _ => none }
def HeapPlaysWrongFalsely : Prop := heapPlaysRow.holds Tryz.pinned (OpenSpec.ofChange heapPlaysWrong)

/-- 'palimpsestlaw10.HeapLasts': WHATEVER THE INPUT: true; the input reads as it did. -/
def heapLastsSpec : ChangeSpec := { name := "heapLasts", fn := fun _ => fun
  | [d1, d2, d3] => { results := [.lit (.bool true)], args := [d1, d2, d3] }
  | _ => none }
def heapLastsRow : OpenClaim := { program := "ytllhgbanbelmaaagreat", sum := "2b357cb7a835b214aa5c559d688e86ba8beca2661bdbdd1e5e7ddccfa4203ce4", func := "palimpsest/palimpsestlaw10.HeapLasts", spec := "heapLasts", unfollowed := true, recurses := true, apart := false }
def HeapLastsSaid : Prop := heapLastsRow.holds Tryz.pinned (OpenSpec.ofChange heapLastsSpec)

/-- ITS FALSE NEIGHBOUR: 'it returns false'. Refute it at one input. -/
def heapLastsWrong : ChangeSpec := { name := "heapLasts", fn := fun _ => fun
  | [d1, d2, d3] => { results := [.lit (.bool false)], args := [d1, d2, d3] }
  | _ => none }
def HeapLastsWrongFalsely : Prop := heapLastsRow.holds Tryz.pinned (OpenSpec.ofChange heapLastsWrong)

/-- 'palimpsestlaw10.HeapBacks': WHATEVER THE INPUT: true; the input reads as it did. -/
def heapBacksSpec : ChangeSpec := { name := "heapBacks", fn := fun _ => fun
  | [d1, d2] => { results := [.lit (.bool true)], args := [d1, d2] }
  | _ => none }
def heapBacksRow : OpenClaim := { program := "ytllhgbanbelmaaagreat", sum := "2b357cb7a835b214aa5c559d688e86ba8beca2661bdbdd1e5e7ddccfa4203ce4", func := "palimpsest/palimpsestlaw10.HeapBacks", spec := "heapBacks", unfollowed := true, recurses := true, apart := false }
def HeapBacksSaid : Prop := heapBacksRow.holds Tryz.pinned (OpenSpec.ofChange heapBacksSpec)

/-- ITS FALSE NEIGHBOUR: 'it returns false'. Refute it at one input. -/
def heapBacksWrong : ChangeSpec := { name := "heapBacks", fn := fun _ => fun
  | [d1, d2] => { results := [.lit (.bool false)], args := [d1, d2] }
  | _ => none }
def HeapBacksWrongFalsely : Prop := heapBacksRow.holds Tryz.pinned (OpenSpec.ofChange heapBacksWrong)

/-- 'palimpsestlaw13.TreeRanges': WHATEVER THE INPUT: true; the input reads as it did. -/
def treeRangesSpec : ChangeSpec := { name := "treeRanges", fn := fun _ => fun
  | [d1, d2] => { results := [.lit (.bool true)], args := [d1, d2] }
  | _ => none }
def treeRangesRow : OpenClaim := { program := "ytllhgbanbelmaaagreat", sum := "2b357cb7a835b214aa5c559d688e86ba8beca2661bdbdd1e5e7ddccfa4203ce4", func := "palimpsest/palimpsestlaw13.TreeRanges", spec := "treeRanges", inPlace := ["internal/bytealg.Compare", "slices.overlaps[[]byte]", "slices.overlaps[int]"], unfollowed := true, recurses := true, apart := false }
def TreeRangesSaid : Prop := treeRangesRow.holds Tryz.pinned (OpenSpec.ofChange treeRangesSpec)

/-- ITS FALSE NEIGHBOUR: 'it returns false'. Refute it at one input. -/
def treeRangesWrong : ChangeSpec := { name := "treeRanges", fn := fun _ => fun
  | [d1, d2] => { results := [.lit (.bool false)], args := [d1, d2] }
  | _ => none }
def TreeRangesWrongFalsely : Prop := treeRangesRow.holds Tryz.pinned (OpenSpec.ofChange treeRangesWrong)

/-- 'palimpsestlaw13.TreeLasts': WHATEVER THE INPUT: true; the input reads as it did. -/
def treeLastsSpec : ChangeSpec := { name := "treeLasts", fn := fun _ => fun
  | [d1, d2, d3] => { results := [.lit (.bool true)], args := [d1, d2, d3] }
  | _ => none }
def treeLastsRow : OpenClaim := { program := "ytllhgbanbelmaaagreat", sum := "2b357cb7a835b214aa5c559d688e86ba8beca2661bdbdd1e5e7ddccfa4203ce4", func := "palimpsest/palimpsestlaw13.TreeLasts", spec := "treeLasts", inPlace := ["internal/bytealg.Compare", "slices.overlaps[[]byte]", "slices.overlaps[int]"], unfollowed := true, recurses := true, apart := false }
def TreeLastsSaid : Prop := treeLastsRow.holds Tryz.pinned (OpenSpec.ofChange treeLastsSpec)

/-- ITS FALSE NEIGHBOUR: 'it returns false'. Refute it at one input. -/
def treeLastsWrong : ChangeSpec := { name := "treeLasts", fn := fun _ => fun
  | [d1, d2, d3] => { results := [.lit (.bool false)], args := [d1, d2, d3] }
  | _ => none }
def TreeLastsWrongFalsely : Prop := treeLastsRow.holds Tryz.pinned (OpenSpec.ofChange treeLastsWrong)

/-- 'palimpsestlaw13.TreeBacks': WHATEVER THE INPUT: true; the input reads as it did. -/
def treeBacksSpec : ChangeSpec := { name := "treeBacks", fn := fun _ => fun
  | [d1, d2] => { results := [.lit (.bool true)], args := [d1, d2] }
  | _ => none }
def treeBacksRow : OpenClaim := { program := "ytllhgbanbelmaaagreat", sum := "2b357cb7a835b214aa5c559d688e86ba8beca2661bdbdd1e5e7ddccfa4203ce4", func := "palimpsest/palimpsestlaw13.TreeBacks", spec := "treeBacks", inPlace := ["internal/bytealg.Compare", "slices.overlaps[[]byte]", "slices.overlaps[int]"], unfollowed := true, recurses := true, apart := false }
def TreeBacksSaid : Prop := treeBacksRow.holds Tryz.pinned (OpenSpec.ofChange treeBacksSpec)

/-- ITS FALSE NEIGHBOUR: 'it returns false'. Refute it at one input. -/
def treeBacksWrong : ChangeSpec := { name := "treeBacks", fn := fun _ => fun
  | [d1, d2] => { results := [.lit (.bool false)], args := [d1, d2] }
  | _ => none }
def TreeBacksWrongFalsely : Prop := treeBacksRow.holds Tryz.pinned (OpenSpec.ofChange treeBacksWrong)

/- THE SECOND FORM. 'bulk': how many values and letters a reading holds, each counted each time it is reached (what is shared counts as often as it is met; a slice's spare places count too). A statement '..UptoSaid' is the law's where the arguments, and the package variables that the reading takes, are together of bulk at most 1048576: NARROWER than '..Said'. Prove '..Said' where nothing that the law and all that it calls make is longer than what came in: it says more and counts as full. Else prove '..UptoSaid'. A law counts once. -/
mutual
def uptoBulk {H : Type} : DataW H → Nat
  | .lit (.string bytes) => bytes.length + 1
  | .lit _ => 1
  | .nil => 1
  | .ptr d => uptoBulk d + 1
  | .slice elems spare => uptoBulkAll elems + uptoBulkAll spare + 1
  | .agg parts => uptoBulkAll parts + 1
  | .iface _ d => uptoBulk d + 1
  | .map entries => uptoBulkEntries entries + 1
  | .held _ => 1
def uptoBulkAll {H : Type} : List (DataW H) → Nat
  | [] => 0
  | d :: r => uptoBulk d + uptoBulkAll r
def uptoBulkEntries {H : Type} : List (Lit × DataW H) → Nat
  | [] => 0
  | x :: r => uptoBulkEntry x + uptoBulkEntries r
def uptoBulkEntry {H : Type} : Lit × DataW H → Nat
  | (.string bytes, d) => bytes.length + uptoBulk d + 1
  | (_, d) => uptoBulk d + 1
 end
def uptoSmall : (H : Type) → List (DataW H) → Bool := fun _ ds => decide (uptoBulkAll ds ≤ 1048576)
def OpenSpec.upto (s : _root_.Go.ChangeSpec) : _root_.Go.OpenSpec := { _root_.Go.OpenSpec.ofChange s with cond := some uptoSmall }

/-- 'palimpsestlaw8.SpaceAll', WHERE WHAT IT READS IS OF BULK AT MOST 1048576: true; the input reads as it did. -/
def spaceAllUptoRow : OpenClaim := { program := "ytllhgbanbelmaaagreat", sum := "2b357cb7a835b214aa5c559d688e86ba8beca2661bdbdd1e5e7ddccfa4203ce4", func := "palimpsest/palimpsestlaw8.SpaceAll", spec := "spaceAll", unfollowed := true, recurses := true, apart := false, narrowed := true }
def SpaceAllUptoSaid : Prop := spaceAllUptoRow.holds Tryz.pinned (OpenSpec.upto spaceAllSpec)

/-- 'palimpsestlaw8.SpaceApart', WHERE WHAT IT READS IS OF BULK AT MOST 1048576: true; the input reads as it did. -/
def spaceApartUptoRow : OpenClaim := { program := "ytllhgbanbelmaaagreat", sum := "2b357cb7a835b214aa5c559d688e86ba8beca2661bdbdd1e5e7ddccfa4203ce4", func := "palimpsest/palimpsestlaw8.SpaceApart", spec := "spaceApart", unfollowed := true, recurses := true, apart := false, narrowed := true }
def SpaceApartUptoSaid : Prop := spaceApartUptoRow.holds Tryz.pinned (OpenSpec.upto spaceApartSpec)

/-- 'palimpsestlaw10.HeapDrops', WHERE WHAT IT READS IS OF BULK AT MOST 1048576: true; the input reads as it did. -/
def heapDropsUptoRow : OpenClaim := { program := "ytllhgbanbelmaaagreat", sum := "2b357cb7a835b214aa5c559d688e86ba8beca2661bdbdd1e5e7ddccfa4203ce4", func := "palimpsest/palimpsestlaw10.HeapDrops", spec := "heapDrops", unfollowed := true, recurses := true, apart := false, narrowed := true }
def HeapDropsUptoSaid : Prop := heapDropsUptoRow.holds Tryz.pinned (OpenSpec.upto heapDropsSpec)

/-- 'palimpsestlaw10.HeapBag', WHERE WHAT IT READS IS OF BULK AT MOST 1048576: true; the input reads as it did. -/
def heapBagUptoRow : OpenClaim := { program := "ytllhgbanbelmaaagreat", sum := "2b357cb7a835b214aa5c559d688e86ba8beca2661bdbdd1e5e7ddccfa4203ce4", func := "palimpsest/palimpsestlaw10.HeapBag", spec := "heapBag", unfollowed := true, recurses := true, apart := false, narrowed := true }
def HeapBagUptoSaid : Prop := heapBagUptoRow.holds Tryz.pinned (OpenSpec.upto heapBagSpec)

/-- 'palimpsestlaw10.HeapPlays', WHERE WHAT IT READS IS OF BULK AT MOST 1048576: true; the input reads as it did. -/
def heapPlaysUptoRow : OpenClaim := { program := "ytllhgbanbelmaaagreat", sum := "2b357cb7a835b214aa5c559d688e86ba8beca2661bdbdd1e5e7ddccfa4203ce4", func := "palimpsest/palimpsestlaw10.HeapPlays", spec := "heapPlays", unfollowed := true, recurses := true, apart := false, narrowed := true }
def HeapPlaysUptoSaid : Prop := heapPlaysUptoRow.holds Tryz.pinned (OpenSpec.upto heapPlaysSpec)

/-- 'palimpsestlaw10.HeapLasts', WHERE WHAT IT READS IS OF BULK AT MOST 1048576: true; the input reads as it did. -/
def heapLastsUptoRow : OpenClaim := { program := "ytllhgbanbelmaaagreat", sum := "2b357cb7a835b214aa5c559d688e86ba8beca2661bdbdd1e5e7ddccfa4203ce4", func := "palimpsest/palimpsestlaw10.HeapLasts", spec := "heapLasts", unfollowed := true, recurses := true, apart := false, narrowed := true }
def HeapLastsUptoSaid : Prop := heapLastsUptoRow.holds Tryz.pinned (OpenSpec.upto heapLastsSpec)

/-- 'palimpsestlaw10.HeapBacks', WHERE WHAT IT READS IS OF BULK AT MOST 1048576: true; the input reads as it did. -/
def heapBacksUptoRow : OpenClaim := { program := "ytllhgbanbelmaaagreat", sum := "2b357cb7a835b214aa5c559d688e86ba8beca2661bdbdd1e5e7ddccfa4203ce4", func := "palimpsest/palimpsestlaw10.HeapBacks", spec := "heapBacks", unfollowed := true, recurses := true, apart := false, narrowed := true }
def HeapBacksUptoSaid : Prop := heapBacksUptoRow.holds Tryz.pinned (OpenSpec.upto heapBacksSpec)

/-- 'palimpsestlaw13.TreeRanges', WHERE WHAT IT READS IS OF BULK AT MOST 1048576: true; the input reads as it did. -/
def treeRangesUptoRow : OpenClaim := { program := "ytllhgbanbelmaaagreat", sum := "2b357cb7a835b214aa5c559d688e86ba8beca2661bdbdd1e5e7ddccfa4203ce4", func := "palimpsest/palimpsestlaw13.TreeRanges", spec := "treeRanges", inPlace := ["internal/bytealg.Compare", "slices.overlaps[[]byte]", "slices.overlaps[int]"], unfollowed := true, recurses := true, apart := false, narrowed := true }
def TreeRangesUptoSaid : Prop := treeRangesUptoRow.holds Tryz.pinned (OpenSpec.upto treeRangesSpec)

/-- 'palimpsestlaw13.TreeLasts', WHERE WHAT IT READS IS OF BULK AT MOST 1048576: true; the input reads as it did. -/
def treeLastsUptoRow : OpenClaim := { program := "ytllhgbanbelmaaagreat", sum := "2b357cb7a835b214aa5c559d688e86ba8beca2661bdbdd1e5e7ddccfa4203ce4", func := "palimpsest/palimpsestlaw13.TreeLasts", spec := "treeLasts", inPlace := ["internal/bytealg.Compare", "slices.overlaps[[]byte]", "slices.overlaps[int]"], unfollowed := true, recurses := true, apart := false, narrowed := true }
def TreeLastsUptoSaid : Prop := treeLastsUptoRow.holds Tryz.pinned (OpenSpec.upto treeLastsSpec)

/-- 'palimpsestlaw13.TreeBacks', WHERE WHAT IT READS IS OF BULK AT MOST 1048576: true; the input reads as it did. -/
def treeBacksUptoRow : OpenClaim := { program := "ytllhgbanbelmaaagreat", sum := "2b357cb7a835b214aa5c559d688e86ba8beca2661bdbdd1e5e7ddccfa4203ce4", func := "palimpsest/palimpsestlaw13.TreeBacks", spec := "treeBacks", inPlace := ["internal/bytealg.Compare", "slices.overlaps[[]byte]", "slices.overlaps[int]"], unfollowed := true, recurses := true, apart := false, narrowed := true }
def TreeBacksUptoSaid : Prop := treeBacksUptoRow.holds Tryz.pinned (OpenSpec.upto treeBacksSpec)

end Rows
end Go.Proofs.YtllhgbanbelmaaaGreat
