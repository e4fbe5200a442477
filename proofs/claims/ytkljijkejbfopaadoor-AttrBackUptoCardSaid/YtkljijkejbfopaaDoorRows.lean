/-
  NARROWER THAN 'FOR EVERY INPUT', by the rows' own cells (each row's printed sentence says how): AttrPlain: laid · AttrRemaps: laid · AttrFinds: laid · AttrTexts: laid · AttrLeast: laid · AttrBack: laid · AttrKinds: laid · AttrLeft: laid · AttrUsual: laid.
  DERIVED. THE GIVEN ROWS OF THIS SEAT. 9 by the template 'for every input the law returns true; each argument reads behind the call as it read before'; 0 by the template 'total and deterministic' (their statements: YtkljijkejbfopaaDoorTotals.lean).
  GIVEN WITH THE SEED: the statements are not yours to turn. If you find one false, say at which input.
  Laid BY PROGRAM, IN A SANDBOX (cutbox-rows.mjs): the forced cells as the released guide's own fill.sh prints them over the translation f10eb5a4df5f43cd… (all of the seat's roots in one cut). By AI agents, Wed Nov 11 2026. No macro, syntax, notation, axiom, sorry.
-/
import Derived.Test.YtkljijkejbfopaaDoorChecked
import GoSem.PinnedTables
import GoSem.Claim
import GoSem.ClaimJoined
import GoSem.ClaimMapViews
import Derived.JoinedTies
import Derived.KernelRfl
namespace Go.Proofs.YtkljijkejbfopaaDoor
/- THE CELL 'sum', in the pinned program and in every row, IS THE sha256 OF THE DUMP (.gsa) THAT YtkljijkejbfopaaDoorProg.lean LOADS. Nothing in Lean hashes anything: it is a label: what it is worth is what the hold of that sum in a sandbox is worth. -/
noncomputable def Tryd.pinned : Pinned := { name := "ytkljijkejbfopaadoor", sum := "f10eb5a4df5f43cdab2445b3ff564d843fc5dbba3937bbf9880f10552bc9ab52", checked := Tryd.checked }
namespace Rows
def none {H : Type} : Left H := { results := [], args := [] }

/- WHAT THE LISTED PACKAGE-LEVEL VARIABLES READ AS WHEN THE CALL BEGINS. Each datum BY PROGRAM (the guide's laid-datum.mjs) off the statement by which the dump's own 'gosem.cut.vars' lays the variable. In a bare row this is a premise. The card (YtkljijkejbfopaaDoorCards.lean) ties it to the program's text. -/
def laid_unicode_utf8_acceptRanges {H : Type} : DataW H := .agg [.agg [.lit (.int .u8 128), .lit (.int .u8 191)], .agg [.lit (.int .u8 160), .lit (.int .u8 191)], .agg [.lit (.int .u8 128), .lit (.int .u8 159)], .agg [.lit (.int .u8 144), .lit (.int .u8 191)], .agg [.lit (.int .u8 128), .lit (.int .u8 143)], .agg [.lit (.int .u8 0), .lit (.int .u8 0)], .agg [.lit (.int .u8 0), .lit (.int .u8 0)], .agg [.lit (.int .u8 0), .lit (.int .u8 0)], .agg [.lit (.int .u8 0), .lit (.int .u8 0)], .agg [.lit (.int .u8 0), .lit (.int .u8 0)], .agg [.lit (.int .u8 0), .lit (.int .u8 0)], .agg [.lit (.int .u8 0), .lit (.int .u8 0)], .agg [.lit (.int .u8 0), .lit (.int .u8 0)], .agg [.lit (.int .u8 0), .lit (.int .u8 0)], .agg [.lit (.int .u8 0), .lit (.int .u8 0)], .agg [.lit (.int .u8 0), .lit (.int .u8 0)]]
def laid_atlas_attr_plain {H : Type} : DataW H := .agg [.agg [.lit (.bool true), .lit (.int .i64 0), .lit (.int .i64 0), .lit (.int .i64 0), .lit (.int .i64 2)], .agg [.lit (.bool true), .lit (.int .i64 1), .lit (.int .i64 0), .lit (.int .i64 0), .lit (.int .i64 2)], .agg [.lit (.bool true), .lit (.int .i64 2), .lit (.int .i64 2), .lit (.int .i64 2), .lit (.int .i64 0)], .agg [.lit (.bool true), .lit (.int .i64 2), .lit (.int .i64 3), .lit (.int .i64 3), .lit (.int .i64 0)], .agg [.lit (.bool true), .lit (.int .i64 2), .lit (.int .i64 0), .lit (.int .i64 0), .lit (.int .i64 0)], .agg [.lit (.bool false), .lit (.int .i64 0), .lit (.int .i64 0), .lit (.int .i64 0), .lit (.int .i64 0)], .agg [.lit (.bool false), .lit (.int .i64 0), .lit (.int .i64 0), .lit (.int .i64 0), .lit (.int .i64 0)], .agg [.lit (.bool true), .lit (.int .i64 2), .lit (.int .i64 1), .lit (.int .i64 1), .lit (.int .i64 0)], .agg [.lit (.bool true), .lit (.int .i64 1), .lit (.int .i64 0), .lit (.int .i64 0), .lit (.int .i64 0)], .agg [.lit (.bool false), .lit (.int .i64 0), .lit (.int .i64 0), .lit (.int .i64 0), .lit (.int .i64 0)], .agg [.lit (.bool false), .lit (.int .i64 0), .lit (.int .i64 0), .lit (.int .i64 0), .lit (.int .i64 0)], .agg [.lit (.bool false), .lit (.int .i64 0), .lit (.int .i64 0), .lit (.int .i64 0), .lit (.int .i64 0)], .agg [.lit (.bool false), .lit (.int .i64 0), .lit (.int .i64 0), .lit (.int .i64 0), .lit (.int .i64 0)], .agg [.lit (.bool false), .lit (.int .i64 0), .lit (.int .i64 0), .lit (.int .i64 0), .lit (.int .i64 0)], .agg [.lit (.bool false), .lit (.int .i64 0), .lit (.int .i64 0), .lit (.int .i64 0), .lit (.int .i64 0)], .agg [.lit (.bool false), .lit (.int .i64 0), .lit (.int .i64 0), .lit (.int .i64 0), .lit (.int .i64 0)]]
def laid_atlas_attr_shares {H : Type} : DataW H := .agg [.lit (.string [112, 114, 105, 118, 97, 116, 101]), .lit (.string [105, 110, 110, 101, 114]), .lit (.string [111, 117, 116, 101, 114])]
def laid_atlas_attr_caches {H : Type} : DataW H := .agg [.lit (.string [110, 111, 110, 101]), .lit (.string [97, 108, 108, 111, 99]), .lit (.string [116, 104, 114, 111, 117, 103, 104]), .lit (.string [98, 97, 99, 107])]
/-- One of Go's own tables, pinned by name: the form's constant. -/
def laid_unicode_utf8_first : DataW Unit := Go.Pinned.utf8First

/-- 'atlaslaw06.AttrPlain': WHATEVER THE INPUT: true; the input reads as it did. -/
def attrPlainSpec : ChangeSpec := { name := "attrPlain", fn := fun _ => fun
  | [d1, d2, d3] => { results := [.lit (.bool true)], args := [d1, d2, d3] }
  | _ => none }
def attrPlainRow : OpenClaim := { program := "ytkljijkejbfopaadoor", sum := "f10eb5a4df5f43cdab2445b3ff564d843fc5dbba3937bbf9880f10552bc9ab52", func := "atlas/atlaslaw06.AttrPlain", spec := "attrPlain", inPlace := ["internal/abi.NoEscape", "internal/bytealg.MakeNoZero", "internal/bytealg.CountString", "internal/bytealg.IndexByteString", "internal/bytealg.IndexString"], unfollowed := true, recurses := true, named := ["atlas/attr.plain", "atlas/attr.shares", "atlas/attr.caches", "unicode/utf8.first", "unicode/utf8.acceptRanges", "internal/bytealg.MaxLen"], apart := false, laid := [("unicode/utf8.acceptRanges", laid_unicode_utf8_acceptRanges), ("atlas/attr.plain", laid_atlas_attr_plain), ("atlas/attr.shares", laid_atlas_attr_shares), ("atlas/attr.caches", laid_atlas_attr_caches), ("unicode/utf8.first", laid_unicode_utf8_first)] }
def AttrPlainSaid : Prop := attrPlainRow.holds Tryd.pinned (OpenSpec.ofChange attrPlainSpec)

/-- ITS FALSE NEIGHBOUR: 'it returns false'. Refute it at one input. -/
def attrPlainWrong : ChangeSpec := { name := "attrPlain", fn := fun _ => fun
  | [d1, d2, d3] => { results := [.lit (.bool false)], args := [d1, d2, d3] }
  | _ => none }
def AttrPlainWrongFalsely : Prop := attrPlainRow.holds Tryd.pinned (OpenSpec.ofChange attrPlainWrong)

/-- 'atlaslaw06.AttrRemaps': WHATEVER THE INPUT: true; the input reads as it did. -/
def attrRemapsSpec : ChangeSpec := { name := "attrRemaps", fn := fun _ => fun
  | [d1, d2, d3] => { results := [.lit (.bool true)], args := [d1, d2, d3] }
  | _ => none }
def attrRemapsRow : OpenClaim := { program := "ytkljijkejbfopaadoor", sum := "f10eb5a4df5f43cdab2445b3ff564d843fc5dbba3937bbf9880f10552bc9ab52", func := "atlas/atlaslaw06.AttrRemaps", spec := "attrRemaps", inPlace := ["internal/abi.NoEscape", "internal/bytealg.MakeNoZero", "internal/bytealg.CountString", "internal/bytealg.IndexByteString", "internal/bytealg.IndexString"], unfollowed := true, recurses := true, named := ["atlas/attr.plain", "atlas/attr.shares", "atlas/attr.caches", "unicode/utf8.first", "unicode/utf8.acceptRanges", "internal/bytealg.MaxLen"], apart := false, laid := [("unicode/utf8.acceptRanges", laid_unicode_utf8_acceptRanges), ("atlas/attr.plain", laid_atlas_attr_plain), ("atlas/attr.shares", laid_atlas_attr_shares), ("atlas/attr.caches", laid_atlas_attr_caches), ("unicode/utf8.first", laid_unicode_utf8_first)] }
def AttrRemapsSaid : Prop := attrRemapsRow.holds Tryd.pinned (OpenSpec.ofChange attrRemapsSpec)

/-- ITS FALSE NEIGHBOUR: 'it returns false'. Refute it at one input. -/
def attrRemapsWrong : ChangeSpec := { name := "attrRemaps", fn := fun _ => fun
  | [d1, d2, d3] => { results := [.lit (.bool false)], args := [d1, d2, d3] }
  | _ => none }
def AttrRemapsWrongFalsely : Prop := attrRemapsRow.holds Tryd.pinned (OpenSpec.ofChange attrRemapsWrong)

/-- 'atlaslaw06.AttrFinds': WHATEVER THE INPUT: true; the input reads as it did. -/
def attrFindsSpec : ChangeSpec := { name := "attrFinds", fn := fun _ => fun
  | [d1, d2, d3, d4] => { results := [.lit (.bool true)], args := [d1, d2, d3, d4] }
  | _ => none }
def attrFindsRow : OpenClaim := { program := "ytkljijkejbfopaadoor", sum := "f10eb5a4df5f43cdab2445b3ff564d843fc5dbba3937bbf9880f10552bc9ab52", func := "atlas/atlaslaw06.AttrFinds", spec := "attrFinds", inPlace := ["internal/abi.NoEscape", "internal/bytealg.MakeNoZero", "internal/bytealg.CountString", "internal/bytealg.IndexByteString", "internal/bytealg.IndexString"], unfollowed := true, recurses := true, named := ["atlas/attr.plain", "atlas/attr.shares", "atlas/attr.caches", "unicode/utf8.first", "unicode/utf8.acceptRanges", "internal/bytealg.MaxLen"], apart := false, laid := [("unicode/utf8.acceptRanges", laid_unicode_utf8_acceptRanges), ("atlas/attr.plain", laid_atlas_attr_plain), ("atlas/attr.shares", laid_atlas_attr_shares), ("atlas/attr.caches", laid_atlas_attr_caches), ("unicode/utf8.first", laid_unicode_utf8_first)] }
def AttrFindsSaid : Prop := attrFindsRow.holds Tryd.pinned (OpenSpec.ofChange attrFindsSpec)

/-- ITS FALSE NEIGHBOUR: 'it returns false'. Refute it at one input. -/
def attrFindsWrong : ChangeSpec := { name := "attrFinds", fn := fun _ => fun
  | [d1, d2, d3, d4] => { results := [.lit (.bool false)], args := [d1, d2, d3, d4] }
  | _ => none }
def AttrFindsWrongFalsely : Prop := attrFindsRow.holds Tryd.pinned (OpenSpec.ofChange attrFindsWrong)

/-- 'atlaslaw06.AttrTexts': WHATEVER THE INPUT: true; the input reads as it did. -/
def attrTextsSpec : ChangeSpec := { name := "attrTexts", fn := fun _ => fun
  | [d1, d2] => { results := [.lit (.bool true)], args := [d1, d2] }
  | _ => none }
def attrTextsRow : OpenClaim := { program := "ytkljijkejbfopaadoor", sum := "f10eb5a4df5f43cdab2445b3ff564d843fc5dbba3937bbf9880f10552bc9ab52", func := "atlas/atlaslaw06.AttrTexts", spec := "attrTexts", inPlace := ["internal/abi.NoEscape", "internal/bytealg.MakeNoZero", "internal/bytealg.CountString", "internal/bytealg.IndexByteString", "internal/bytealg.IndexString"], unfollowed := true, recurses := true, named := ["atlas/attr.shares", "atlas/attr.caches", "atlas/attr.plain", "unicode/utf8.first", "unicode/utf8.acceptRanges", "internal/bytealg.MaxLen"], apart := false, laid := [("unicode/utf8.acceptRanges", laid_unicode_utf8_acceptRanges), ("atlas/attr.plain", laid_atlas_attr_plain), ("atlas/attr.shares", laid_atlas_attr_shares), ("atlas/attr.caches", laid_atlas_attr_caches), ("unicode/utf8.first", laid_unicode_utf8_first)] }
def AttrTextsSaid : Prop := attrTextsRow.holds Tryd.pinned (OpenSpec.ofChange attrTextsSpec)

/-- ITS FALSE NEIGHBOUR: 'it returns false'. Refute it at one input. -/
def attrTextsWrong : ChangeSpec := { name := "attrTexts", fn := fun _ => fun
  | [d1, d2] => { results := [.lit (.bool false)], args := [d1, d2] }
  | _ => none }
def AttrTextsWrongFalsely : Prop := attrTextsRow.holds Tryd.pinned (OpenSpec.ofChange attrTextsWrong)

/-- 'atlaslaw06.AttrLeast': WHATEVER THE INPUT: true; the input reads as it did. -/
def attrLeastSpec : ChangeSpec := { name := "attrLeast", fn := fun _ => fun
  | [d1, d2, d3, d4] => { results := [.lit (.bool true)], args := [d1, d2, d3, d4] }
  | _ => none }
def attrLeastRow : OpenClaim := { program := "ytkljijkejbfopaadoor", sum := "f10eb5a4df5f43cdab2445b3ff564d843fc5dbba3937bbf9880f10552bc9ab52", func := "atlas/atlaslaw06.AttrLeast", spec := "attrLeast", inPlace := ["internal/abi.NoEscape", "internal/bytealg.MakeNoZero", "internal/bytealg.CountString", "internal/bytealg.IndexByteString", "internal/bytealg.IndexString"], unfollowed := true, recurses := true, named := ["atlas/attr.shares", "atlas/attr.caches", "atlas/attr.plain", "unicode/utf8.first", "unicode/utf8.acceptRanges", "internal/bytealg.MaxLen"], apart := false, laid := [("unicode/utf8.acceptRanges", laid_unicode_utf8_acceptRanges), ("atlas/attr.plain", laid_atlas_attr_plain), ("atlas/attr.shares", laid_atlas_attr_shares), ("atlas/attr.caches", laid_atlas_attr_caches), ("unicode/utf8.first", laid_unicode_utf8_first)] }
def AttrLeastSaid : Prop := attrLeastRow.holds Tryd.pinned (OpenSpec.ofChange attrLeastSpec)

/-- ITS FALSE NEIGHBOUR: 'it returns false'. Refute it at one input. -/
def attrLeastWrong : ChangeSpec := { name := "attrLeast", fn := fun _ => fun
  | [d1, d2, d3, d4] => { results := [.lit (.bool false)], args := [d1, d2, d3, d4] }
  | _ => none }
def AttrLeastWrongFalsely : Prop := attrLeastRow.holds Tryd.pinned (OpenSpec.ofChange attrLeastWrong)

/-- 'atlaslaw06.AttrBack': WHATEVER THE INPUT: true; the input reads as it did. -/
def attrBackSpec : ChangeSpec := { name := "attrBack", fn := fun _ => fun
  | [d1, d2] => { results := [.lit (.bool true)], args := [d1, d2] }
  | _ => none }
def attrBackRow : OpenClaim := { program := "ytkljijkejbfopaadoor", sum := "f10eb5a4df5f43cdab2445b3ff564d843fc5dbba3937bbf9880f10552bc9ab52", func := "atlas/atlaslaw06.AttrBack", spec := "attrBack", inPlace := ["internal/abi.NoEscape", "internal/bytealg.MakeNoZero", "internal/bytealg.CountString", "internal/bytealg.IndexByteString", "internal/bytealg.IndexString"], unfollowed := true, recurses := true, named := ["atlas/attr.shares", "atlas/attr.caches", "unicode/utf8.first", "unicode/utf8.acceptRanges", "internal/bytealg.MaxLen", "atlas/attr.plain"], apart := false, laid := [("unicode/utf8.acceptRanges", laid_unicode_utf8_acceptRanges), ("atlas/attr.plain", laid_atlas_attr_plain), ("atlas/attr.shares", laid_atlas_attr_shares), ("atlas/attr.caches", laid_atlas_attr_caches), ("unicode/utf8.first", laid_unicode_utf8_first)] }
def AttrBackSaid : Prop := attrBackRow.holds Tryd.pinned (OpenSpec.ofChange attrBackSpec)

/-- ITS FALSE NEIGHBOUR: 'it returns false'. Refute it at one input. -/
def attrBackWrong : ChangeSpec := { name := "attrBack", fn := fun _ => fun
  | [d1, d2] => { results := [.lit (.bool false)], args := [d1, d2] }
  | _ => none }
def AttrBackWrongFalsely : Prop := attrBackRow.holds Tryd.pinned (OpenSpec.ofChange attrBackWrong)

/-- 'atlaslaw06.AttrKinds': WHATEVER THE INPUT: true; the input reads as it did. -/
def attrKindsSpec : ChangeSpec := { name := "attrKinds", fn := fun _ => fun
  | [d1, d2, d3] => { results := [.lit (.bool true)], args := [d1, d2, d3] }
  | _ => none }
def attrKindsRow : OpenClaim := { program := "ytkljijkejbfopaadoor", sum := "f10eb5a4df5f43cdab2445b3ff564d843fc5dbba3937bbf9880f10552bc9ab52", func := "atlas/atlaslaw06.AttrKinds", spec := "attrKinds", inPlace := ["internal/abi.NoEscape", "internal/bytealg.MakeNoZero", "internal/bytealg.CountString", "internal/bytealg.IndexByteString", "internal/bytealg.IndexString"], unfollowed := true, recurses := true, named := ["atlas/attr.plain", "atlas/attr.shares", "atlas/attr.caches", "unicode/utf8.first", "unicode/utf8.acceptRanges", "internal/bytealg.MaxLen"], apart := false, laid := [("unicode/utf8.acceptRanges", laid_unicode_utf8_acceptRanges), ("atlas/attr.plain", laid_atlas_attr_plain), ("atlas/attr.shares", laid_atlas_attr_shares), ("atlas/attr.caches", laid_atlas_attr_caches), ("unicode/utf8.first", laid_unicode_utf8_first)] }
def AttrKindsSaid : Prop := attrKindsRow.holds Tryd.pinned (OpenSpec.ofChange attrKindsSpec)

/-- ITS FALSE NEIGHBOUR: 'it returns false'. Refute it at one input. -/
def attrKindsWrong : ChangeSpec := { name := "attrKinds", fn := fun _ => fun
  | [d1, d2, d3] => { results := [.lit (.bool false)], args := [d1, d2, d3] }
  | _ => none }
def AttrKindsWrongFalsely : Prop := attrKindsRow.holds Tryd.pinned (OpenSpec.ofChange attrKindsWrong)

/-- 'atlaslaw06.AttrLeft': WHATEVER THE INPUT: true; the input reads as it did. -/
def attrLeftSpec : ChangeSpec := { name := "attrLeft", fn := fun _ => fun
  | [d1, d2, d3, d4, d5] => { results := [.lit (.bool true)], args := [d1, d2, d3, d4, d5] }
  | _ => none }
def attrLeftRow : OpenClaim := { program := "ytkljijkejbfopaadoor", sum := "f10eb5a4df5f43cdab2445b3ff564d843fc5dbba3937bbf9880f10552bc9ab52", func := "atlas/atlaslaw06.AttrLeft", spec := "attrLeft", inPlace := ["internal/abi.NoEscape", "internal/bytealg.MakeNoZero", "internal/bytealg.CountString", "internal/bytealg.IndexByteString", "internal/bytealg.IndexString"], unfollowed := true, recurses := true, named := ["atlas/attr.plain", "atlas/attr.shares", "atlas/attr.caches", "unicode/utf8.first", "unicode/utf8.acceptRanges", "internal/bytealg.MaxLen"], apart := false, laid := [("unicode/utf8.acceptRanges", laid_unicode_utf8_acceptRanges), ("atlas/attr.plain", laid_atlas_attr_plain), ("atlas/attr.shares", laid_atlas_attr_shares), ("atlas/attr.caches", laid_atlas_attr_caches), ("unicode/utf8.first", laid_unicode_utf8_first)] }
def AttrLeftSaid : Prop := attrLeftRow.holds Tryd.pinned (OpenSpec.ofChange attrLeftSpec)

/-- ITS FALSE NEIGHBOUR: 'it returns false'. Refute it at one input. -/
def attrLeftWrong : ChangeSpec := { name := "attrLeft", fn := fun _ => fun
  | [d1, d2, d3, d4, d5] => { results := [.lit (.bool false)], args := [d1, d2, d3, d4, d5] }
  | _ => none }
def AttrLeftWrongFalsely : Prop := attrLeftRow.holds Tryd.pinned (OpenSpec.ofChange attrLeftWrong)

/-- 'atlaslaw06.AttrUsual': WHATEVER THE INPUT: true; the input reads as it did. -/
def attrUsualSpec : ChangeSpec := { name := "attrUsual", fn := fun _ => fun
  | [d] => { results := [.lit (.bool true)], args := [d] }
  | _ => none }
def attrUsualRow : OpenClaim := { program := "ytkljijkejbfopaadoor", sum := "f10eb5a4df5f43cdab2445b3ff564d843fc5dbba3937bbf9880f10552bc9ab52", func := "atlas/atlaslaw06.AttrUsual", spec := "attrUsual", inPlace := ["internal/abi.NoEscape", "internal/bytealg.MakeNoZero", "internal/bytealg.CountString", "internal/bytealg.IndexByteString", "internal/bytealg.IndexString"], unfollowed := true, recurses := true, named := ["atlas/attr.plain", "atlas/attr.shares", "atlas/attr.caches", "unicode/utf8.first", "unicode/utf8.acceptRanges", "internal/bytealg.MaxLen"], apart := false, laid := [("unicode/utf8.acceptRanges", laid_unicode_utf8_acceptRanges), ("atlas/attr.plain", laid_atlas_attr_plain), ("atlas/attr.shares", laid_atlas_attr_shares), ("atlas/attr.caches", laid_atlas_attr_caches), ("unicode/utf8.first", laid_unicode_utf8_first)] }
def AttrUsualSaid : Prop := attrUsualRow.holds Tryd.pinned (OpenSpec.ofChange attrUsualSpec)

/-- ITS FALSE NEIGHBOUR: 'it returns false'. Refute it at one input. -/
def attrUsualWrong : ChangeSpec := { name := "attrUsual", fn := fun _ => fun
  | [d] => { results := [.lit (.bool false)], args := [d] }
  | _ => none }
def AttrUsualWrongFalsely : Prop := attrUsualRow.holds Tryd.pinned (OpenSpec.ofChange attrUsualWrong)

/- THE SECOND FORM. 'bulk': how many values and letters a reading holds, each counted each time it is reached (what is shared counts as often as it is met; a slice's spare places count too). A statement '..UptoSaid' is the law's where the arguments, and the package variables that the reading takes, are together of bulk at most 1048576: NARROWER than '..Said'. Prove '..Said' where nothing that the law and all that it calls make is longer than what came in: it says more and counts as full. Else prove '..UptoSaid'. A law counts once. -/
mutual
def uptoBulk {H : Type} : DataW H → Nat
  | .lit (.string bytes) => bytes.length + 1
  | .lit _ => 1
  | .nil => 1
  | .ptr d => uptoBulk d + 1
  | .slice elems spare => uptoBulkAll elems + uptoBulkAll spare + 1
  | .agg parts => uptoBulkAll parts + 1
  | .iface _ d => uptoBulk d + 1
  | .map entries => uptoBulkEntries entries + 1
  | .held _ => 1
def uptoBulkAll {H : Type} : List (DataW H) → Nat
  | [] => 0
  | d :: r => uptoBulk d + uptoBulkAll r
def uptoBulkEntries {H : Type} : List (Lit × DataW H) → Nat
  | [] => 0
  | x :: r => uptoBulkEntry x + uptoBulkEntries r
def uptoBulkEntry {H : Type} : Lit × DataW H → Nat
  | (.string bytes, d) => bytes.length + uptoBulk d + 1
  | (_, d) => uptoBulk d + 1
 end
def uptoSmall : (H : Type) → List (DataW H) → Bool := fun _ ds => decide (uptoBulkAll ds ≤ 1048576)
def OpenSpec.upto (s : _root_.Go.ChangeSpec) : _root_.Go.OpenSpec := { _root_.Go.OpenSpec.ofChange s with cond := some uptoSmall }

/-- 'atlaslaw06.AttrPlain', WHERE WHAT IT READS IS OF BULK AT MOST 1048576: true; the input reads as it did. -/
def attrPlainUptoRow : OpenClaim := { program := "ytkljijkejbfopaadoor", sum := "f10eb5a4df5f43cdab2445b3ff564d843fc5dbba3937bbf9880f10552bc9ab52", func := "atlas/atlaslaw06.AttrPlain", spec := "attrPlain", inPlace := ["internal/abi.NoEscape", "internal/bytealg.MakeNoZero", "internal/bytealg.CountString", "internal/bytealg.IndexByteString", "internal/bytealg.IndexString"], unfollowed := true, recurses := true, named := ["atlas/attr.plain", "atlas/attr.shares", "atlas/attr.caches", "unicode/utf8.first", "unicode/utf8.acceptRanges", "internal/bytealg.MaxLen"], apart := false, laid := [("unicode/utf8.acceptRanges", laid_unicode_utf8_acceptRanges), ("atlas/attr.plain", laid_atlas_attr_plain), ("atlas/attr.shares", laid_atlas_attr_shares), ("atlas/attr.caches", laid_atlas_attr_caches), ("unicode/utf8.first", laid_unicode_utf8_first)], narrowed := true }
def AttrPlainUptoSaid : Prop := attrPlainUptoRow.holds Tryd.pinned (OpenSpec.upto attrPlainSpec)

/-- 'atlaslaw06.AttrRemaps', WHERE WHAT IT READS IS OF BULK AT MOST 1048576: true; the input reads as it did. -/
def attrRemapsUptoRow : OpenClaim := { program := "ytkljijkejbfopaadoor", sum := "f10eb5a4df5f43cdab2445b3ff564d843fc5dbba3937bbf9880f10552bc9ab52", func := "atlas/atlaslaw06.AttrRemaps", spec := "attrRemaps", inPlace := ["internal/abi.NoEscape", "internal/bytealg.MakeNoZero", "internal/bytealg.CountString", "internal/bytealg.IndexByteString", "internal/bytealg.IndexString"], unfollowed := true, recurses := true, named := ["atlas/attr.plain", "atlas/attr.shares", "atlas/attr.caches", "unicode/utf8.first", "unicode/utf8.acceptRanges", "internal/bytealg.MaxLen"], apart := false, laid := [("unicode/utf8.acceptRanges", laid_unicode_utf8_acceptRanges), ("atlas/attr.plain", laid_atlas_attr_plain), ("atlas/attr.shares", laid_atlas_attr_shares), ("atlas/attr.caches", laid_atlas_attr_caches), ("unicode/utf8.first", laid_unicode_utf8_first)], narrowed := true }
def AttrRemapsUptoSaid : Prop := attrRemapsUptoRow.holds Tryd.pinned (OpenSpec.upto attrRemapsSpec)

/-- 'atlaslaw06.AttrFinds', WHERE WHAT IT READS IS OF BULK AT MOST 1048576: true; the input reads as it did. -/
def attrFindsUptoRow : OpenClaim := { program := "ytkljijkejbfopaadoor", sum := "f10eb5a4df5f43cdab2445b3ff564d843fc5dbba3937bbf9880f10552bc9ab52", func := "atlas/atlaslaw06.AttrFinds", spec := "attrFinds", inPlace := ["internal/abi.NoEscape", "internal/bytealg.MakeNoZero", "internal/bytealg.CountString", "internal/bytealg.IndexByteString", "internal/bytealg.IndexString"], unfollowed := true, recurses := true, named := ["atlas/attr.plain", "atlas/attr.shares", "atlas/attr.caches", "unicode/utf8.first", "unicode/utf8.acceptRanges", "internal/bytealg.MaxLen"], apart := false, laid := [("unicode/utf8.acceptRanges", laid_unicode_utf8_acceptRanges), ("atlas/attr.plain", laid_atlas_attr_plain), ("atlas/attr.shares", laid_atlas_attr_shares), ("atlas/attr.caches", laid_atlas_attr_caches), ("unicode/utf8.first", laid_unicode_utf8_first)], narrowed := true }
def AttrFindsUptoSaid : Prop := attrFindsUptoRow.holds Tryd.pinned (OpenSpec.upto attrFindsSpec)

/-- 'atlaslaw06.AttrTexts', WHERE WHAT IT READS IS OF BULK AT MOST 1048576: true; the input reads as it did. -/
def attrTextsUptoRow : OpenClaim := { program := "ytkljijkejbfopaadoor", sum := "f10eb5a4df5f43cdab2445b3ff564d843fc5dbba3937bbf9880f10552bc9ab52", func := "atlas/atlaslaw06.AttrTexts", spec := "attrTexts", inPlace := ["internal/abi.NoEscape", "internal/bytealg.MakeNoZero", "internal/bytealg.CountString", "internal/bytealg.IndexByteString", "internal/bytealg.IndexString"], unfollowed := true, recurses := true, named := ["atlas/attr.shares", "atlas/attr.caches", "atlas/attr.plain", "unicode/utf8.first", "unicode/utf8.acceptRanges", "internal/bytealg.MaxLen"], apart := false, laid := [("unicode/utf8.acceptRanges", laid_unicode_utf8_acceptRanges), ("atlas/attr.plain", laid_atlas_attr_plain), ("atlas/attr.shares", laid_atlas_attr_shares), ("atlas/attr.caches", laid_atlas_attr_caches), ("unicode/utf8.first", laid_unicode_utf8_first)], narrowed := true }
def AttrTextsUptoSaid : Prop := attrTextsUptoRow.holds Tryd.pinned (OpenSpec.upto attrTextsSpec)

/-- 'atlaslaw06.AttrLeast', WHERE WHAT IT READS IS OF BULK AT MOST 1048576: true; the input reads as it did. -/
def attrLeastUptoRow : OpenClaim := { program := "ytkljijkejbfopaadoor", sum := "f10eb5a4df5f43cdab2445b3ff564d843fc5dbba3937bbf9880f10552bc9ab52", func := "atlas/atlaslaw06.AttrLeast", spec := "attrLeast", inPlace := ["internal/abi.NoEscape", "internal/bytealg.MakeNoZero", "internal/bytealg.CountString", "internal/bytealg.IndexByteString", "internal/bytealg.IndexString"], unfollowed := true, recurses := true, named := ["atlas/attr.shares", "atlas/attr.caches", "atlas/attr.plain", "unicode/utf8.first", "unicode/utf8.acceptRanges", "internal/bytealg.MaxLen"], apart := false, laid := [("unicode/utf8.acceptRanges", laid_unicode_utf8_acceptRanges), ("atlas/attr.plain", laid_atlas_attr_plain), ("atlas/attr.shares", laid_atlas_attr_shares), ("atlas/attr.caches", laid_atlas_attr_caches), ("unicode/utf8.first", laid_unicode_utf8_first)], narrowed := true }
def AttrLeastUptoSaid : Prop := attrLeastUptoRow.holds Tryd.pinned (OpenSpec.upto attrLeastSpec)

/-- 'atlaslaw06.AttrBack', WHERE WHAT IT READS IS OF BULK AT MOST 1048576: true; the input reads as it did. -/
def attrBackUptoRow : OpenClaim := { program := "ytkljijkejbfopaadoor", sum := "f10eb5a4df5f43cdab2445b3ff564d843fc5dbba3937bbf9880f10552bc9ab52", func := "atlas/atlaslaw06.AttrBack", spec := "attrBack", inPlace := ["internal/abi.NoEscape", "internal/bytealg.MakeNoZero", "internal/bytealg.CountString", "internal/bytealg.IndexByteString", "internal/bytealg.IndexString"], unfollowed := true, recurses := true, named := ["atlas/attr.shares", "atlas/attr.caches", "unicode/utf8.first", "unicode/utf8.acceptRanges", "internal/bytealg.MaxLen", "atlas/attr.plain"], apart := false, laid := [("unicode/utf8.acceptRanges", laid_unicode_utf8_acceptRanges), ("atlas/attr.plain", laid_atlas_attr_plain), ("atlas/attr.shares", laid_atlas_attr_shares), ("atlas/attr.caches", laid_atlas_attr_caches), ("unicode/utf8.first", laid_unicode_utf8_first)], narrowed := true }
def AttrBackUptoSaid : Prop := attrBackUptoRow.holds Tryd.pinned (OpenSpec.upto attrBackSpec)

/-- 'atlaslaw06.AttrKinds', WHERE WHAT IT READS IS OF BULK AT MOST 1048576: true; the input reads as it did. -/
def attrKindsUptoRow : OpenClaim := { program := "ytkljijkejbfopaadoor", sum := "f10eb5a4df5f43cdab2445b3ff564d843fc5dbba3937bbf9880f10552bc9ab52", func := "atlas/atlaslaw06.AttrKinds", spec := "attrKinds", inPlace := ["internal/abi.NoEscape", "internal/bytealg.MakeNoZero", "internal/bytealg.CountString", "internal/bytealg.IndexByteString", "internal/bytealg.IndexString"], unfollowed := true, recurses := true, named := ["atlas/attr.plain", "atlas/attr.shares", "atlas/attr.caches", "unicode/utf8.first", "unicode/utf8.acceptRanges", "internal/bytealg.MaxLen"], apart := false, laid := [("unicode/utf8.acceptRanges", laid_unicode_utf8_acceptRanges), ("atlas/attr.plain", laid_atlas_attr_plain), ("atlas/attr.shares", laid_atlas_attr_shares), ("atlas/attr.caches", laid_atlas_attr_caches), ("unicode/utf8.first", laid_unicode_utf8_first)], narrowed := true }
def AttrKindsUptoSaid : Prop := attrKindsUptoRow.holds Tryd.pinned (OpenSpec.upto attrKindsSpec)

/-- 'atlaslaw06.AttrLeft', WHERE WHAT IT READS IS OF BULK AT MOST 1048576: true; the input reads as it did. -/
def attrLeftUptoRow : OpenClaim := { program := "ytkljijkejbfopaadoor", sum := "f10eb5a4df5f43cdab2445b3ff564d843fc5dbba3937bbf9880f10552bc9ab52", func := "atlas/atlaslaw06.AttrLeft", spec := "attrLeft", inPlace := ["internal/abi.NoEscape", "internal/bytealg.MakeNoZero", "internal/bytealg.CountString", "internal/bytealg.IndexByteString", "internal/bytealg.IndexString"], unfollowed := true, recurses := true, named := ["atlas/attr.plain", "atlas/attr.shares", "atlas/attr.caches", "unicode/utf8.first", "unicode/utf8.acceptRanges", "internal/bytealg.MaxLen"], apart := false, laid := [("unicode/utf8.acceptRanges", laid_unicode_utf8_acceptRanges), ("atlas/attr.plain", laid_atlas_attr_plain), ("atlas/attr.shares", laid_atlas_attr_shares), ("atlas/attr.caches", laid_atlas_attr_caches), ("unicode/utf8.first", laid_unicode_utf8_first)], narrowed := true }
def AttrLeftUptoSaid : Prop := attrLeftUptoRow.holds Tryd.pinned (OpenSpec.upto attrLeftSpec)

/-- 'atlaslaw06.AttrUsual', WHERE WHAT IT READS IS OF BULK AT MOST 1048576: true; the input reads as it did. -/
def attrUsualUptoRow : OpenClaim := { program := "ytkljijkejbfopaadoor", sum := "f10eb5a4df5f43cdab2445b3ff564d843fc5dbba3937bbf9880f10552bc9ab52", func := "atlas/atlaslaw06.AttrUsual", spec := "attrUsual", inPlace := ["internal/abi.NoEscape", "internal/bytealg.MakeNoZero", "internal/bytealg.CountString", "internal/bytealg.IndexByteString", "internal/bytealg.IndexString"], unfollowed := true, recurses := true, named := ["atlas/attr.plain", "atlas/attr.shares", "atlas/attr.caches", "unicode/utf8.first", "unicode/utf8.acceptRanges", "internal/bytealg.MaxLen"], apart := false, laid := [("unicode/utf8.acceptRanges", laid_unicode_utf8_acceptRanges), ("atlas/attr.plain", laid_atlas_attr_plain), ("atlas/attr.shares", laid_atlas_attr_shares), ("atlas/attr.caches", laid_atlas_attr_caches), ("unicode/utf8.first", laid_unicode_utf8_first)], narrowed := true }
def AttrUsualUptoSaid : Prop := attrUsualUptoRow.holds Tryd.pinned (OpenSpec.upto attrUsualSpec)

end Rows
end Go.Proofs.YtkljijkejbfopaaDoor
