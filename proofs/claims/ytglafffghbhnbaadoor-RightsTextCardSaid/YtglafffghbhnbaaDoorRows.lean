/-
  NARROWER THAN 'FOR EVERY INPUT', by the rows' own cells (each row's printed sentence says how): RightsAllows: laid · RightsLeaf: laid · RightsCheck: laid · RightsMore: laid · RightsWords: laid · RightsPriv: laid · RightsText: laid.
  DERIVED. THE GIVEN ROWS OF THIS SEAT. 7 by the template 'for every input the law returns true; each argument reads behind the call as it read before'; 0 by the template 'total and deterministic' (their statements: YtglafffghbhnbaaDoorTotals.lean).
  GIVEN WITH THE SEED: the statements are not yours to turn. If you find one false, say at which input.
  Laid BY PROGRAM, IN A SANDBOX (cutbox-rows.mjs): the forced cells as the released guide's own fill.sh prints them over the translation 11a3909a5e335e95… (all of the seat's roots in one cut). By AI agents, Wed Nov 11 2026. No macro, syntax, notation, axiom, sorry.
-/
import Derived.Test.YtglafffghbhnbaaDoorChecked
import GoSem.Claim
import GoSem.ClaimJoined
import GoSem.ClaimMapViews
import Derived.JoinedTies
import Derived.KernelRfl
namespace Go.Proofs.YtglafffghbhnbaaDoor
/- THE CELL 'sum', in the pinned program and in every row, IS THE sha256 OF THE DUMP (.gsa) THAT YtglafffghbhnbaaDoorProg.lean LOADS. Nothing in Lean hashes anything: it is a label: what it is worth is what the hold of that sum in a sandbox is worth. -/
noncomputable def Tryd.pinned : Pinned := { name := "ytglafffghbhnbaadoor", sum := "11a3909a5e335e957508bcc86325519cc975ac24a71af5077b015dcb6f4c2b49", checked := Tryd.checked }
namespace Rows
def none {H : Type} : Left H := { results := [], args := [] }

/- WHAT THE LISTED PACKAGE-LEVEL VARIABLES READ AS WHEN THE CALL BEGINS. Each datum BY PROGRAM (the guide's laid-datum.mjs) off the statement by which the dump's own 'gosem.cut.vars' lays the variable. In a bare row this is a premise. The card (YtglafffghbhnbaaDoorCards.lean) ties it to the program's text. -/
def laid_atlas_rights_plain {H : Type} : DataW H := .agg [.agg [.lit (.int .i64 0), .lit (.int .i64 0)], .agg [.lit (.int .i64 0), .lit (.int .i64 3)], .agg [.lit (.int .i64 1), .lit (.int .i64 3)], .agg [.lit (.int .i64 3), .lit (.int .i64 3)], .agg [.lit (.int .i64 0), .lit (.int .i64 0)], .agg [.lit (.int .i64 0), .lit (.int .i64 1)], .agg [.lit (.int .i64 1), .lit (.int .i64 1)], .agg [.lit (.int .i64 1), .lit (.int .i64 1)]]
def laid_atlas_rights_flagged {H : Type} : DataW H := .agg [.agg [.lit (.int .i64 0), .lit (.int .i64 3)], .agg [.lit (.int .i64 3), .lit (.int .i64 3)], .agg [.lit (.int .i64 0), .lit (.int .i64 1)], .agg [.lit (.int .i64 1), .lit (.int .i64 1)]]
def laid_atlas_desc_shifts {H : Type} : DataW H := .agg [.lit (.int .u64 0), .lit (.int .u64 12), .lit (.int .u64 16), .lit (.int .u64 20), .lit (.int .u64 24)]
def laid_math_bits_deBruijn32tab {H : Type} : DataW H := .agg [.lit (.int .u8 0), .lit (.int .u8 1), .lit (.int .u8 28), .lit (.int .u8 2), .lit (.int .u8 29), .lit (.int .u8 14), .lit (.int .u8 24), .lit (.int .u8 3), .lit (.int .u8 30), .lit (.int .u8 22), .lit (.int .u8 20), .lit (.int .u8 15), .lit (.int .u8 25), .lit (.int .u8 17), .lit (.int .u8 4), .lit (.int .u8 8), .lit (.int .u8 31), .lit (.int .u8 27), .lit (.int .u8 13), .lit (.int .u8 23), .lit (.int .u8 21), .lit (.int .u8 19), .lit (.int .u8 16), .lit (.int .u8 7), .lit (.int .u8 26), .lit (.int .u8 12), .lit (.int .u8 18), .lit (.int .u8 6), .lit (.int .u8 11), .lit (.int .u8 5), .lit (.int .u8 10), .lit (.int .u8 9)]
def laid_math_bits_deBruijn64tab {H : Type} : DataW H := .agg [.lit (.int .u8 0), .lit (.int .u8 1), .lit (.int .u8 56), .lit (.int .u8 2), .lit (.int .u8 57), .lit (.int .u8 49), .lit (.int .u8 28), .lit (.int .u8 3), .lit (.int .u8 61), .lit (.int .u8 58), .lit (.int .u8 42), .lit (.int .u8 50), .lit (.int .u8 38), .lit (.int .u8 29), .lit (.int .u8 17), .lit (.int .u8 4), .lit (.int .u8 62), .lit (.int .u8 47), .lit (.int .u8 59), .lit (.int .u8 36), .lit (.int .u8 45), .lit (.int .u8 43), .lit (.int .u8 51), .lit (.int .u8 22), .lit (.int .u8 53), .lit (.int .u8 39), .lit (.int .u8 33), .lit (.int .u8 30), .lit (.int .u8 24), .lit (.int .u8 18), .lit (.int .u8 12), .lit (.int .u8 5), .lit (.int .u8 63), .lit (.int .u8 55), .lit (.int .u8 48), .lit (.int .u8 27), .lit (.int .u8 60), .lit (.int .u8 41), .lit (.int .u8 37), .lit (.int .u8 16), .lit (.int .u8 46), .lit (.int .u8 35), .lit (.int .u8 44), .lit (.int .u8 21), .lit (.int .u8 52), .lit (.int .u8 32), .lit (.int .u8 23), .lit (.int .u8 11), .lit (.int .u8 54), .lit (.int .u8 26), .lit (.int .u8 40), .lit (.int .u8 15), .lit (.int .u8 34), .lit (.int .u8 20), .lit (.int .u8 31), .lit (.int .u8 10), .lit (.int .u8 25), .lit (.int .u8 14), .lit (.int .u8 19), .lit (.int .u8 9), .lit (.int .u8 13), .lit (.int .u8 8), .lit (.int .u8 7), .lit (.int .u8 6)]
def laid_internal_strconv_uint64pow10 {H : Type} : DataW H := .agg [.lit (.int .u64 1), .lit (.int .u64 10), .lit (.int .u64 100), .lit (.int .u64 1000), .lit (.int .u64 10000), .lit (.int .u64 100000), .lit (.int .u64 1000000), .lit (.int .u64 10000000), .lit (.int .u64 100000000), .lit (.int .u64 1000000000), .lit (.int .u64 10000000000), .lit (.int .u64 100000000000), .lit (.int .u64 1000000000000), .lit (.int .u64 10000000000000), .lit (.int .u64 100000000000000), .lit (.int .u64 1000000000000000), .lit (.int .u64 10000000000000000), .lit (.int .u64 100000000000000000), .lit (.int .u64 1000000000000000000), .lit (.int .u64 10000000000000000000)]
def laid_atlas_rights_texts {H : Type} : DataW H := .agg [.lit (.string [110, 111, 110, 101]), .lit (.string [97, 108, 105, 103, 110, 109, 101, 110, 116]), .lit (.string [119, 97, 108, 107, 32, 49]), .lit (.string [116, 114, 97, 110, 115, 108, 97, 116, 105, 111, 110, 32, 49]), .lit (.string [119, 97, 108, 107, 32, 50]), .lit (.string [116, 114, 97, 110, 115, 108, 97, 116, 105, 111, 110, 32, 50]), .lit (.string [99, 111, 110, 102, 108, 105, 99, 116]), .lit (.string [97, 99, 99, 101, 115, 115]), .lit (.string [100, 111, 109, 97, 105, 110]), .lit (.string [112, 101, 114, 109, 105, 115, 115, 105, 111, 110]), .lit (.string [98, 117, 115])]

/-- 'atlaslaw07.RightsAllows': WHATEVER THE INPUT: true; the input reads as it did. -/
def rightsAllowsSpec : ChangeSpec := { name := "rightsAllows", fn := fun _ => fun
  | [d1, d2] => { results := [.lit (.bool true)], args := [d1, d2] }
  | _ => none }
def rightsAllowsRow : OpenClaim := { program := "ytglafffghbhnbaadoor", sum := "11a3909a5e335e957508bcc86325519cc975ac24a71af5077b015dcb6f4c2b49", func := "atlas/atlaslaw07.RightsAllows", spec := "rightsAllows", named := ["atlas/rights.plain", "atlas/rights.flagged"], apart := false, laid := [("atlas/rights.plain", laid_atlas_rights_plain), ("atlas/rights.flagged", laid_atlas_rights_flagged)] }
def RightsAllowsSaid : Prop := rightsAllowsRow.holds Tryd.pinned (OpenSpec.ofChange rightsAllowsSpec)

/-- ITS FALSE NEIGHBOUR: 'it returns false'. Refute it at one input. -/
def rightsAllowsWrong : ChangeSpec := { name := "rightsAllows", fn := fun _ => fun
  | [d1, d2] => { results := [.lit (.bool false)], args := [d1, d2] }
  | _ => none }
def RightsAllowsWrongFalsely : Prop := rightsAllowsRow.holds Tryd.pinned (OpenSpec.ofChange rightsAllowsWrong)

/-- 'atlaslaw07.RightsLeaf': WHATEVER THE INPUT: true; the input reads as it did. -/
def rightsLeafSpec : ChangeSpec := { name := "rightsLeaf", fn := fun _ => fun
  | [d] => { results := [.lit (.bool true)], args := [d] }
  | _ => none }
def rightsLeafRow : OpenClaim := { program := "ytglafffghbhnbaadoor", sum := "11a3909a5e335e957508bcc86325519cc975ac24a71af5077b015dcb6f4c2b49", func := "atlas/atlaslaw07.RightsLeaf", spec := "rightsLeaf", named := ["atlas/rights.plain", "atlas/rights.flagged"], apart := false, laid := [("atlas/rights.plain", laid_atlas_rights_plain), ("atlas/rights.flagged", laid_atlas_rights_flagged)] }
def RightsLeafSaid : Prop := rightsLeafRow.holds Tryd.pinned (OpenSpec.ofChange rightsLeafSpec)

/-- ITS FALSE NEIGHBOUR: 'it returns false'. Refute it at one input. -/
def rightsLeafWrong : ChangeSpec := { name := "rightsLeaf", fn := fun _ => fun
  | [d] => { results := [.lit (.bool false)], args := [d] }
  | _ => none }
def RightsLeafWrongFalsely : Prop := rightsLeafRow.holds Tryd.pinned (OpenSpec.ofChange rightsLeafWrong)

/-- 'atlaslaw07.RightsCheck': WHATEVER THE INPUT: true; the input reads as it did. -/
def rightsCheckSpec : ChangeSpec := { name := "rightsCheck", fn := fun _ => fun
  | [d1, d2, d3] => { results := [.lit (.bool true)], args := [d1, d2, d3] }
  | _ => none }
def rightsCheckRow : OpenClaim := { program := "ytglafffghbhnbaadoor", sum := "11a3909a5e335e957508bcc86325519cc975ac24a71af5077b015dcb6f4c2b49", func := "atlas/atlaslaw07.RightsCheck", spec := "rightsCheck", named := ["atlas/desc.shifts", "atlas/rights.plain", "atlas/rights.flagged"], apart := false, laid := [("atlas/desc.shifts", laid_atlas_desc_shifts), ("atlas/rights.plain", laid_atlas_rights_plain), ("atlas/rights.flagged", laid_atlas_rights_flagged)] }
def RightsCheckSaid : Prop := rightsCheckRow.holds Tryd.pinned (OpenSpec.ofChange rightsCheckSpec)

/-- ITS FALSE NEIGHBOUR: 'it returns false'. Refute it at one input. -/
def rightsCheckWrong : ChangeSpec := { name := "rightsCheck", fn := fun _ => fun
  | [d1, d2, d3] => { results := [.lit (.bool false)], args := [d1, d2, d3] }
  | _ => none }
def RightsCheckWrongFalsely : Prop := rightsCheckRow.holds Tryd.pinned (OpenSpec.ofChange rightsCheckWrong)

/-- 'atlaslaw07.RightsMore': WHATEVER THE INPUT: true; the input reads as it did. -/
def rightsMoreSpec : ChangeSpec := { name := "rightsMore", fn := fun _ => fun
  | [d1, d2] => { results := [.lit (.bool true)], args := [d1, d2] }
  | _ => none }
def rightsMoreRow : OpenClaim := { program := "ytglafffghbhnbaadoor", sum := "11a3909a5e335e957508bcc86325519cc975ac24a71af5077b015dcb6f4c2b49", func := "atlas/atlaslaw07.RightsMore", spec := "rightsMore", named := ["atlas/rights.plain", "atlas/rights.flagged"], apart := false, laid := [("atlas/rights.plain", laid_atlas_rights_plain), ("atlas/rights.flagged", laid_atlas_rights_flagged)] }
def RightsMoreSaid : Prop := rightsMoreRow.holds Tryd.pinned (OpenSpec.ofChange rightsMoreSpec)

/-- ITS FALSE NEIGHBOUR: 'it returns false'. Refute it at one input. -/
def rightsMoreWrong : ChangeSpec := { name := "rightsMore", fn := fun _ => fun
  | [d1, d2] => { results := [.lit (.bool false)], args := [d1, d2] }
  | _ => none }
def RightsMoreWrongFalsely : Prop := rightsMoreRow.holds Tryd.pinned (OpenSpec.ofChange rightsMoreWrong)

/-- 'atlaslaw07.RightsWords': WHATEVER THE INPUT: true; the input reads as it did. -/
def rightsWordsSpec : ChangeSpec := { name := "rightsWords", fn := fun _ => fun
  | [d1, d2, d3, d4] => { results := [.lit (.bool true)], args := [d1, d2, d3, d4] }
  | _ => none }
def rightsWordsRow : OpenClaim := { program := "ytglafffghbhnbaadoor", sum := "11a3909a5e335e957508bcc86325519cc975ac24a71af5077b015dcb6f4c2b49", func := "atlas/atlaslaw07.RightsWords", spec := "rightsWords", named := ["atlas/rights.plain", "atlas/rights.flagged"], apart := false, laid := [("atlas/rights.plain", laid_atlas_rights_plain), ("atlas/rights.flagged", laid_atlas_rights_flagged)] }
def RightsWordsSaid : Prop := rightsWordsRow.holds Tryd.pinned (OpenSpec.ofChange rightsWordsSpec)

/-- ITS FALSE NEIGHBOUR: 'it returns false'. Refute it at one input. -/
def rightsWordsWrong : ChangeSpec := { name := "rightsWords", fn := fun _ => fun
  | [d1, d2, d3, d4] => { results := [.lit (.bool false)], args := [d1, d2, d3, d4] }
  | _ => none }
def RightsWordsWrongFalsely : Prop := rightsWordsRow.holds Tryd.pinned (OpenSpec.ofChange rightsWordsWrong)

/-- 'atlaslaw07.RightsPriv': WHATEVER THE INPUT: true; the input reads as it did. -/
def rightsPrivSpec : ChangeSpec := { name := "rightsPriv", fn := fun _ => fun
  | [d1, d2, d3, d4] => { results := [.lit (.bool true)], args := [d1, d2, d3, d4] }
  | _ => none }
def rightsPrivRow : OpenClaim := { program := "ytglafffghbhnbaadoor", sum := "11a3909a5e335e957508bcc86325519cc975ac24a71af5077b015dcb6f4c2b49", func := "atlas/atlaslaw07.RightsPriv", spec := "rightsPriv", named := ["atlas/rights.plain", "atlas/rights.flagged", "atlas/desc.shifts"], apart := false, laid := [("atlas/desc.shifts", laid_atlas_desc_shifts), ("atlas/rights.plain", laid_atlas_rights_plain), ("atlas/rights.flagged", laid_atlas_rights_flagged)] }
def RightsPrivSaid : Prop := rightsPrivRow.holds Tryd.pinned (OpenSpec.ofChange rightsPrivSpec)

/-- ITS FALSE NEIGHBOUR: 'it returns false'. Refute it at one input. -/
def rightsPrivWrong : ChangeSpec := { name := "rightsPriv", fn := fun _ => fun
  | [d1, d2, d3, d4] => { results := [.lit (.bool false)], args := [d1, d2, d3, d4] }
  | _ => none }
def RightsPrivWrongFalsely : Prop := rightsPrivRow.holds Tryd.pinned (OpenSpec.ofChange rightsPrivWrong)

/-- 'atlaslaw07.RightsText': WHATEVER THE INPUT: true; the input reads as it did. -/
def rightsTextSpec : ChangeSpec := { name := "rightsText", fn := fun _ => fun
  | [d1, d2] => { results := [.lit (.bool true)], args := [d1, d2] }
  | _ => none }
def rightsTextRow : OpenClaim := { program := "ytglafffghbhnbaadoor", sum := "11a3909a5e335e957508bcc86325519cc975ac24a71af5077b015dcb6f4c2b49", func := "atlas/atlaslaw07.RightsText", spec := "rightsText", named := ["atlas/rights.texts", "internal/strconv.uint64pow10", "math/bits.deBruijn32tab", "math/bits.deBruijn64tab"], apart := false, laid := [("math/bits.deBruijn32tab", laid_math_bits_deBruijn32tab), ("math/bits.deBruijn64tab", laid_math_bits_deBruijn64tab), ("internal/strconv.uint64pow10", laid_internal_strconv_uint64pow10), ("atlas/rights.texts", laid_atlas_rights_texts)] }
def RightsTextSaid : Prop := rightsTextRow.holds Tryd.pinned (OpenSpec.ofChange rightsTextSpec)

/-- ITS FALSE NEIGHBOUR: 'it returns false'. Refute it at one input. -/
def rightsTextWrong : ChangeSpec := { name := "rightsText", fn := fun _ => fun
  | [d1, d2] => { results := [.lit (.bool false)], args := [d1, d2] }
  | _ => none }
def RightsTextWrongFalsely : Prop := rightsTextRow.holds Tryd.pinned (OpenSpec.ofChange rightsTextWrong)

/- THE SECOND FORM. 'bulk': how many values and letters a reading holds, each counted each time it is reached (what is shared counts as often as it is met; a slice's spare places count too). A statement '..UptoSaid' is the law's where the arguments, and the package variables that the reading takes, are together of bulk at most 1048576: NARROWER than '..Said'. Prove '..Said' where nothing that the law and all that it calls make is longer than what came in: it says more and counts as full. Else prove '..UptoSaid'. A law counts once. -/
mutual
def uptoBulk {H : Type} : DataW H → Nat
  | .lit (.string bytes) => bytes.length + 1
  | .lit _ => 1
  | .nil => 1
  | .ptr d => uptoBulk d + 1
  | .slice elems spare => uptoBulkAll elems + uptoBulkAll spare + 1
  | .agg parts => uptoBulkAll parts + 1
  | .iface _ d => uptoBulk d + 1
  | .map entries => uptoBulkEntries entries + 1
  | .held _ => 1
def uptoBulkAll {H : Type} : List (DataW H) → Nat
  | [] => 0
  | d :: r => uptoBulk d + uptoBulkAll r
def uptoBulkEntries {H : Type} : List (Lit × DataW H) → Nat
  | [] => 0
  | x :: r => uptoBulkEntry x + uptoBulkEntries r
def uptoBulkEntry {H : Type} : Lit × DataW H → Nat
  | (.string bytes, d) => bytes.length + uptoBulk d + 1
  | (_, d) => uptoBulk d + 1
 end
def uptoSmall : (H : Type) → List (DataW H) → Bool := fun _ ds => decide (uptoBulkAll ds ≤ 1048576)
def OpenSpec.upto (s : _root_.Go.ChangeSpec) : _root_.Go.OpenSpec := { _root_.Go.OpenSpec.ofChange s with cond := some uptoSmall }

/-- 'atlaslaw07.RightsAllows', WHERE WHAT IT READS IS OF BULK AT MOST 1048576: true; the input reads as it did. -/
def rightsAllowsUptoRow : OpenClaim := { program := "ytglafffghbhnbaadoor", sum := "11a3909a5e335e957508bcc86325519cc975ac24a71af5077b015dcb6f4c2b49", func := "atlas/atlaslaw07.RightsAllows", spec := "rightsAllows", named := ["atlas/rights.plain", "atlas/rights.flagged"], apart := false, laid := [("atlas/rights.plain", laid_atlas_rights_plain), ("atlas/rights.flagged", laid_atlas_rights_flagged)], narrowed := true }
def RightsAllowsUptoSaid : Prop := rightsAllowsUptoRow.holds Tryd.pinned (OpenSpec.upto rightsAllowsSpec)

/-- 'atlaslaw07.RightsLeaf', WHERE WHAT IT READS IS OF BULK AT MOST 1048576: true; the input reads as it did. -/
def rightsLeafUptoRow : OpenClaim := { program := "ytglafffghbhnbaadoor", sum := "11a3909a5e335e957508bcc86325519cc975ac24a71af5077b015dcb6f4c2b49", func := "atlas/atlaslaw07.RightsLeaf", spec := "rightsLeaf", named := ["atlas/rights.plain", "atlas/rights.flagged"], apart := false, laid := [("atlas/rights.plain", laid_atlas_rights_plain), ("atlas/rights.flagged", laid_atlas_rights_flagged)], narrowed := true }
def RightsLeafUptoSaid : Prop := rightsLeafUptoRow.holds Tryd.pinned (OpenSpec.upto rightsLeafSpec)

/-- 'atlaslaw07.RightsCheck', WHERE WHAT IT READS IS OF BULK AT MOST 1048576: true; the input reads as it did. -/
def rightsCheckUptoRow : OpenClaim := { program := "ytglafffghbhnbaadoor", sum := "11a3909a5e335e957508bcc86325519cc975ac24a71af5077b015dcb6f4c2b49", func := "atlas/atlaslaw07.RightsCheck", spec := "rightsCheck", named := ["atlas/desc.shifts", "atlas/rights.plain", "atlas/rights.flagged"], apart := false, laid := [("atlas/desc.shifts", laid_atlas_desc_shifts), ("atlas/rights.plain", laid_atlas_rights_plain), ("atlas/rights.flagged", laid_atlas_rights_flagged)], narrowed := true }
def RightsCheckUptoSaid : Prop := rightsCheckUptoRow.holds Tryd.pinned (OpenSpec.upto rightsCheckSpec)

/-- 'atlaslaw07.RightsMore', WHERE WHAT IT READS IS OF BULK AT MOST 1048576: true; the input reads as it did. -/
def rightsMoreUptoRow : OpenClaim := { program := "ytglafffghbhnbaadoor", sum := "11a3909a5e335e957508bcc86325519cc975ac24a71af5077b015dcb6f4c2b49", func := "atlas/atlaslaw07.RightsMore", spec := "rightsMore", named := ["atlas/rights.plain", "atlas/rights.flagged"], apart := false, laid := [("atlas/rights.plain", laid_atlas_rights_plain), ("atlas/rights.flagged", laid_atlas_rights_flagged)], narrowed := true }
def RightsMoreUptoSaid : Prop := rightsMoreUptoRow.holds Tryd.pinned (OpenSpec.upto rightsMoreSpec)

/-- 'atlaslaw07.RightsWords', WHERE WHAT IT READS IS OF BULK AT MOST 1048576: true; the input reads as it did. -/
def rightsWordsUptoRow : OpenClaim := { program := "ytglafffghbhnbaadoor", sum := "11a3909a5e335e957508bcc86325519cc975ac24a71af5077b015dcb6f4c2b49", func := "atlas/atlaslaw07.RightsWords", spec := "rightsWords", named := ["atlas/rights.plain", "atlas/rights.flagged"], apart := false, laid := [("atlas/rights.plain", laid_atlas_rights_plain), ("atlas/rights.flagged", laid_atlas_rights_flagged)], narrowed := true }
def RightsWordsUptoSaid : Prop := rightsWordsUptoRow.holds Tryd.pinned (OpenSpec.upto rightsWordsSpec)

/-- 'atlaslaw07.RightsPriv', WHERE WHAT IT READS IS OF BULK AT MOST 1048576: true; the input reads as it did. -/
def rightsPrivUptoRow : OpenClaim := { program := "ytglafffghbhnbaadoor", sum := "11a3909a5e335e957508bcc86325519cc975ac24a71af5077b015dcb6f4c2b49", func := "atlas/atlaslaw07.RightsPriv", spec := "rightsPriv", named := ["atlas/rights.plain", "atlas/rights.flagged", "atlas/desc.shifts"], apart := false, laid := [("atlas/desc.shifts", laid_atlas_desc_shifts), ("atlas/rights.plain", laid_atlas_rights_plain), ("atlas/rights.flagged", laid_atlas_rights_flagged)], narrowed := true }
def RightsPrivUptoSaid : Prop := rightsPrivUptoRow.holds Tryd.pinned (OpenSpec.upto rightsPrivSpec)

/-- 'atlaslaw07.RightsText', WHERE WHAT IT READS IS OF BULK AT MOST 1048576: true; the input reads as it did. -/
def rightsTextUptoRow : OpenClaim := { program := "ytglafffghbhnbaadoor", sum := "11a3909a5e335e957508bcc86325519cc975ac24a71af5077b015dcb6f4c2b49", func := "atlas/atlaslaw07.RightsText", spec := "rightsText", named := ["atlas/rights.texts", "internal/strconv.uint64pow10", "math/bits.deBruijn32tab", "math/bits.deBruijn64tab"], apart := false, laid := [("math/bits.deBruijn32tab", laid_math_bits_deBruijn32tab), ("math/bits.deBruijn64tab", laid_math_bits_deBruijn64tab), ("internal/strconv.uint64pow10", laid_internal_strconv_uint64pow10), ("atlas/rights.texts", laid_atlas_rights_texts)], narrowed := true }
def RightsTextUptoSaid : Prop := rightsTextUptoRow.holds Tryd.pinned (OpenSpec.upto rightsTextSpec)

end Rows
end Go.Proofs.YtglafffghbhnbaaDoor
