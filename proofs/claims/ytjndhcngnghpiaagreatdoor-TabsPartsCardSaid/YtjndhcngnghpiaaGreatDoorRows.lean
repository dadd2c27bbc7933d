/-
  NARROWER THAN 'FOR EVERY INPUT', by the rows' own cells (each row's printed sentence says how): TabsEnds: laid · TabsLeave: laid · TabsParts: laid.
  DERIVED. THE GIVEN ROWS OF THIS SEAT. 3 by the template 'for every input the law returns true; each argument reads behind the call as it read before'; 0 by the template 'total and deterministic' (their statements: YtjndhcngnghpiaaGreatDoorTotals.lean).
  GIVEN WITH THE SEED: the statements are not yours to turn. If you find one false, say at which input.
  Laid BY PROGRAM, IN A SANDBOX (cutbox-rows.mjs): the forced cells as the released guide's own fill.sh prints them over the translation f3de992ccad53652… (all of the seat's roots in one cut). By AI agents, Wed Nov 11 2026. No macro, syntax, notation, axiom, sorry.
-/
import Derived.Test.YtjndhcngnghpiaaGreatDoorChecked
import GoSem.PinnedTables
import GoSem.Claim
import GoSem.ClaimJoined
import GoSem.ClaimMapViews
import Derived.JoinedTies
import Derived.KernelRfl
namespace Go.Proofs.YtjndhcngnghpiaaGreatDoor
/- THE CELL 'sum', in the pinned program and in every row, IS THE sha256 OF THE DUMP (.gsa) THAT YtjndhcngnghpiaaGreatDoorProg.lean LOADS. Nothing in Lean hashes anything: it is a label: what it is worth is what the hold of that sum in a sandbox is worth. -/
noncomputable def Tryz.pinned : Pinned := { name := "ytjndhcngnghpiaagreatdoor", sum := "f3de992ccad536520405688d9bee3ef87f04357ad8939cacae1178b2127da4c5", checked := Tryz.checked }
namespace Rows
def none {H : Type} : Left H := { results := [], args := [] }

/- WHAT THE LISTED PACKAGE-LEVEL VARIABLES READ AS WHEN THE CALL BEGINS. Each datum BY PROGRAM (the guide's laid-datum.mjs) off the statement by which the dump's own 'gosem.cut.vars' lays the variable. In a bare row this is a premise. The card (YtjndhcngnghpiaaGreatDoorCards.lean) ties it to the program's text. -/
def laid_math_bits_deBruijn32tab {H : Type} : DataW H := .agg [.lit (.int .u8 0), .lit (.int .u8 1), .lit (.int .u8 28), .lit (.int .u8 2), .lit (.int .u8 29), .lit (.int .u8 14), .lit (.int .u8 24), .lit (.int .u8 3), .lit (.int .u8 30), .lit (.int .u8 22), .lit (.int .u8 20), .lit (.int .u8 15), .lit (.int .u8 25), .lit (.int .u8 17), .lit (.int .u8 4), .lit (.int .u8 8), .lit (.int .u8 31), .lit (.int .u8 27), .lit (.int .u8 13), .lit (.int .u8 23), .lit (.int .u8 21), .lit (.int .u8 19), .lit (.int .u8 16), .lit (.int .u8 7), .lit (.int .u8 26), .lit (.int .u8 12), .lit (.int .u8 18), .lit (.int .u8 6), .lit (.int .u8 11), .lit (.int .u8 5), .lit (.int .u8 10), .lit (.int .u8 9)]
def laid_math_bits_deBruijn64tab {H : Type} : DataW H := .agg [.lit (.int .u8 0), .lit (.int .u8 1), .lit (.int .u8 56), .lit (.int .u8 2), .lit (.int .u8 57), .lit (.int .u8 49), .lit (.int .u8 28), .lit (.int .u8 3), .lit (.int .u8 61), .lit (.int .u8 58), .lit (.int .u8 42), .lit (.int .u8 50), .lit (.int .u8 38), .lit (.int .u8 29), .lit (.int .u8 17), .lit (.int .u8 4), .lit (.int .u8 62), .lit (.int .u8 47), .lit (.int .u8 59), .lit (.int .u8 36), .lit (.int .u8 45), .lit (.int .u8 43), .lit (.int .u8 51), .lit (.int .u8 22), .lit (.int .u8 53), .lit (.int .u8 39), .lit (.int .u8 33), .lit (.int .u8 30), .lit (.int .u8 24), .lit (.int .u8 18), .lit (.int .u8 12), .lit (.int .u8 5), .lit (.int .u8 63), .lit (.int .u8 55), .lit (.int .u8 48), .lit (.int .u8 27), .lit (.int .u8 60), .lit (.int .u8 41), .lit (.int .u8 37), .lit (.int .u8 16), .lit (.int .u8 46), .lit (.int .u8 35), .lit (.int .u8 44), .lit (.int .u8 21), .lit (.int .u8 52), .lit (.int .u8 32), .lit (.int .u8 23), .lit (.int .u8 11), .lit (.int .u8 54), .lit (.int .u8 26), .lit (.int .u8 40), .lit (.int .u8 15), .lit (.int .u8 34), .lit (.int .u8 20), .lit (.int .u8 31), .lit (.int .u8 10), .lit (.int .u8 25), .lit (.int .u8 14), .lit (.int .u8 19), .lit (.int .u8 9), .lit (.int .u8 13), .lit (.int .u8 8), .lit (.int .u8 7), .lit (.int .u8 6)]
def laid_internal_strconv_uint64pow10 {H : Type} : DataW H := .agg [.lit (.int .u64 1), .lit (.int .u64 10), .lit (.int .u64 100), .lit (.int .u64 1000), .lit (.int .u64 10000), .lit (.int .u64 100000), .lit (.int .u64 1000000), .lit (.int .u64 10000000), .lit (.int .u64 100000000), .lit (.int .u64 1000000000), .lit (.int .u64 10000000000), .lit (.int .u64 100000000000), .lit (.int .u64 1000000000000), .lit (.int .u64 10000000000000), .lit (.int .u64 100000000000000), .lit (.int .u64 1000000000000000), .lit (.int .u64 10000000000000000), .lit (.int .u64 100000000000000000), .lit (.int .u64 1000000000000000000), .lit (.int .u64 10000000000000000000)]
def laid_unicode_utf8_acceptRanges {H : Type} : DataW H := .agg [.agg [.lit (.int .u8 128), .lit (.int .u8 191)], .agg [.lit (.int .u8 160), .lit (.int .u8 191)], .agg [.lit (.int .u8 128), .lit (.int .u8 159)], .agg [.lit (.int .u8 144), .lit (.int .u8 191)], .agg [.lit (.int .u8 128), .lit (.int .u8 143)], .agg [.lit (.int .u8 0), .lit (.int .u8 0)], .agg [.lit (.int .u8 0), .lit (.int .u8 0)], .agg [.lit (.int .u8 0), .lit (.int .u8 0)], .agg [.lit (.int .u8 0), .lit (.int .u8 0)], .agg [.lit (.int .u8 0), .lit (.int .u8 0)], .agg [.lit (.int .u8 0), .lit (.int .u8 0)], .agg [.lit (.int .u8 0), .lit (.int .u8 0)], .agg [.lit (.int .u8 0), .lit (.int .u8 0)], .agg [.lit (.int .u8 0), .lit (.int .u8 0)], .agg [.lit (.int .u8 0), .lit (.int .u8 0)], .agg [.lit (.int .u8 0), .lit (.int .u8 0)]]
def laid_gatepost_api_Sines {H : Type} : DataW H := .agg [.lit (.int .u32 3614090360), .lit (.int .u32 3905402710), .lit (.int .u32 606105819), .lit (.int .u32 3250441966), .lit (.int .u32 4118548399), .lit (.int .u32 1200080426), .lit (.int .u32 2821735955), .lit (.int .u32 4249261313), .lit (.int .u32 1770035416), .lit (.int .u32 2336552879), .lit (.int .u32 4294925233), .lit (.int .u32 2304563134), .lit (.int .u32 1804603682), .lit (.int .u32 4254626195), .lit (.int .u32 2792965006), .lit (.int .u32 1236535329), .lit (.int .u32 4129170786), .lit (.int .u32 3225465664), .lit (.int .u32 643717713), .lit (.int .u32 3921069994), .lit (.int .u32 3593408605), .lit (.int .u32 38016083), .lit (.int .u32 3634488961), .lit (.int .u32 3889429448), .lit (.int .u32 568446438), .lit (.int .u32 3275163606), .lit (.int .u32 4107603335), .lit (.int .u32 1163531501), .lit (.int .u32 2850285829), .lit (.int .u32 4243563512), .lit (.int .u32 1735328473), .lit (.int .u32 2368359562), .lit (.int .u32 4294588738), .lit (.int .u32 2272392833), .lit (.int .u32 1839030562), .lit (.int .u32 4259657740), .lit (.int .u32 2763975236), .lit (.int .u32 1272893353), .lit (.int .u32 4139469664), .lit (.int .u32 3200236656), .lit (.int .u32 681279174), .lit (.int .u32 3936430074), .lit (.int .u32 3572445317), .lit (.int .u32 76029189), .lit (.int .u32 3654602809), .lit (.int .u32 3873151461), .lit (.int .u32 530742520), .lit (.int .u32 3299628645), .lit (.int .u32 4096336452), .lit (.int .u32 1126891415), .lit (.int .u32 2878612391), .lit (.int .u32 4237533241), .lit (.int .u32 1700485571), .lit (.int .u32 2399980690), .lit (.int .u32 4293915773), .lit (.int .u32 2240044497), .lit (.int .u32 1873313359), .lit (.int .u32 4264355552), .lit (.int .u32 2734768916), .lit (.int .u32 1309151649), .lit (.int .u32 4149444226), .lit (.int .u32 3174756917), .lit (.int .u32 718787259), .lit (.int .u32 3951481745)]
def laid_gatepost_api_Roots {H : Type} : DataW H := .agg [.lit (.int .u32 1116352408), .lit (.int .u32 1899447441), .lit (.int .u32 3049323471), .lit (.int .u32 3921009573), .lit (.int .u32 961987163), .lit (.int .u32 1508970993), .lit (.int .u32 2453635748), .lit (.int .u32 2870763221), .lit (.int .u32 3624381080), .lit (.int .u32 310598401), .lit (.int .u32 607225278), .lit (.int .u32 1426881987), .lit (.int .u32 1925078388), .lit (.int .u32 2162078206), .lit (.int .u32 2614888103), .lit (.int .u32 3248222580), .lit (.int .u32 3835390401), .lit (.int .u32 4022224774), .lit (.int .u32 264347078), .lit (.int .u32 604807628), .lit (.int .u32 770255983), .lit (.int .u32 1249150122), .lit (.int .u32 1555081692), .lit (.int .u32 1996064986), .lit (.int .u32 2554220882), .lit (.int .u32 2821834349), .lit (.int .u32 2952996808), .lit (.int .u32 3210313671), .lit (.int .u32 3336571891), .lit (.int .u32 3584528711), .lit (.int .u32 113926993), .lit (.int .u32 338241895), .lit (.int .u32 666307205), .lit (.int .u32 773529912), .lit (.int .u32 1294757372), .lit (.int .u32 1396182291), .lit (.int .u32 1695183700), .lit (.int .u32 1986661051), .lit (.int .u32 2177026350), .lit (.int .u32 2456956037), .lit (.int .u32 2730485921), .lit (.int .u32 2820302411), .lit (.int .u32 3259730800), .lit (.int .u32 3345764771), .lit (.int .u32 3516065817), .lit (.int .u32 3600352804), .lit (.int .u32 4094571909), .lit (.int .u32 275423344), .lit (.int .u32 430227734), .lit (.int .u32 506948616), .lit (.int .u32 659060556), .lit (.int .u32 883997877), .lit (.int .u32 958139571), .lit (.int .u32 1322822218), .lit (.int .u32 1537002063), .lit (.int .u32 1747873779), .lit (.int .u32 1955562222), .lit (.int .u32 2024104815), .lit (.int .u32 2227730452), .lit (.int .u32 2361852424), .lit (.int .u32 2428436474), .lit (.int .u32 2756734187), .lit (.int .u32 3204031479), .lit (.int .u32 3329325298)]
def laid_gatepost_api_Begin {H : Type} : DataW H := .agg [.lit (.int .u32 1779033703), .lit (.int .u32 3144134277), .lit (.int .u32 1013904242), .lit (.int .u32 2773480762), .lit (.int .u32 1359893119), .lit (.int .u32 2600822924), .lit (.int .u32 528734635), .lit (.int .u32 1541459225)]
def laid_gatepost_sum_turns {H : Type} : DataW H := .agg [.lit (.int .i64 7), .lit (.int .i64 12), .lit (.int .i64 17), .lit (.int .i64 22), .lit (.int .i64 5), .lit (.int .i64 9), .lit (.int .i64 14), .lit (.int .i64 20), .lit (.int .i64 4), .lit (.int .i64 11), .lit (.int .i64 16), .lit (.int .i64 23), .lit (.int .i64 6), .lit (.int .i64 10), .lit (.int .i64 15), .lit (.int .i64 21)]
/-- One of Go's own tables, pinned by name: the form's constant. -/
def laid_unicode_utf8_first : DataW Unit := Go.Pinned.utf8First

/-- 'gatepostkeep.TabsEnds': WHATEVER THE INPUT: true; the input reads as it did. -/
def tabsEndsSpec : ChangeSpec := { name := "tabsEnds", fn := fun _ => fun
  | [d1, d2, d3, d4] => { results := [.lit (.bool true)], args := [d1, d2, d3, d4] }
  | _ => none }
def tabsEndsRow : OpenClaim := { program := "ytjndhcngnghpiaagreatdoor", sum := "f3de992ccad536520405688d9bee3ef87f04357ad8939cacae1178b2127da4c5", func := "gatepost/gatepostkeep.TabsEnds", spec := "tabsEnds", inPlace := ["internal/bytealg.IndexByteString", "internal/bytealg.IndexString", "internal/abi.NoEscape", "internal/bytealg.MakeNoZero", "internal/bytealg.CountString"], unfollowed := true, recurses := true, named := ["unicode/utf8.first", "unicode/utf8.acceptRanges", "internal/bytealg.MaxLen", "gatepost/api.Begin", "gatepost/api.Roots", "gatepost/api.Sines", "gatepost/sum.turns", "internal/strconv.uint64pow10", "math/bits.deBruijn32tab", "math/bits.deBruijn64tab"], apart := false, laid := [("math/bits.deBruijn32tab", laid_math_bits_deBruijn32tab), ("math/bits.deBruijn64tab", laid_math_bits_deBruijn64tab), ("internal/strconv.uint64pow10", laid_internal_strconv_uint64pow10), ("unicode/utf8.acceptRanges", laid_unicode_utf8_acceptRanges), ("gatepost/api.Sines", laid_gatepost_api_Sines), ("gatepost/api.Roots", laid_gatepost_api_Roots), ("gatepost/api.Begin", laid_gatepost_api_Begin), ("gatepost/sum.turns", laid_gatepost_sum_turns), ("unicode/utf8.first", laid_unicode_utf8_first)] }
def TabsEndsSaid : Prop := tabsEndsRow.holds Tryz.pinned (OpenSpec.ofChange tabsEndsSpec)

/-- ITS FALSE NEIGHBOUR: 'it returns false'. Refute it at one input. -/
def tabsEndsWrong : ChangeSpec := { name := "tabsEnds", fn := fun _ => fun
  | [d1, d2, d3, d4] => { results := [.lit (.bool false)], args := [d1, d2, d3, d4] }
  | _ => none }
def TabsEndsWrongFalsely : Prop := tabsEndsRow.holds Tryz.pinned (OpenSpec.ofChange tabsEndsWrong)

/-- 'gatepostkeep.TabsLeave': WHATEVER THE INPUT: true; the input reads as it did. -/
def tabsLeaveSpec : ChangeSpec := { name := "tabsLeave", fn := fun _ => fun
  | [d1, d2, d3, d4] => { results := [.lit (.bool true)], args := [d1, d2, d3, d4] }
  | _ => none }
def tabsLeaveRow : OpenClaim := { program := "ytjndhcngnghpiaagreatdoor", sum := "f3de992ccad536520405688d9bee3ef87f04357ad8939cacae1178b2127da4c5", func := "gatepost/gatepostkeep.TabsLeave", spec := "tabsLeave", inPlace := ["internal/bytealg.IndexByteString", "internal/bytealg.IndexString", "internal/abi.NoEscape", "internal/bytealg.MakeNoZero", "internal/bytealg.CountString"], unfollowed := true, recurses := true, named := ["unicode/utf8.first", "unicode/utf8.acceptRanges", "internal/bytealg.MaxLen", "gatepost/api.Begin", "gatepost/api.Roots", "gatepost/api.Sines", "gatepost/sum.turns", "internal/strconv.uint64pow10", "math/bits.deBruijn32tab", "math/bits.deBruijn64tab"], apart := false, laid := [("math/bits.deBruijn32tab", laid_math_bits_deBruijn32tab), ("math/bits.deBruijn64tab", laid_math_bits_deBruijn64tab), ("internal/strconv.uint64pow10", laid_internal_strconv_uint64pow10), ("unicode/utf8.acceptRanges", laid_unicode_utf8_acceptRanges), ("gatepost/api.Sines", laid_gatepost_api_Sines), ("gatepost/api.Roots", laid_gatepost_api_Roots), ("gatepost/api.Begin", laid_gatepost_api_Begin), ("gatepost/sum.turns", laid_gatepost_sum_turns), ("unicode/utf8.first", laid_unicode_utf8_first)] }
def TabsLeaveSaid : Prop := tabsLeaveRow.holds Tryz.pinned (OpenSpec.ofChange tabsLeaveSpec)

/-- ITS FALSE NEIGHBOUR: 'it returns false'. Refute it at one input. -/
def tabsLeaveWrong : ChangeSpec := { name := "tabsLeave", fn := fun _ => fun
  | [d1, d2, d3, d4] => { results := [.lit (.bool false)], args := [d1, d2, d3, d4] }
  | _ => none }
def TabsLeaveWrongFalsely : Prop := tabsLeaveRow.holds Tryz.pinned (OpenSpec.ofChange tabsLeaveWrong)

/-- 'gatepostkeep.TabsParts': WHATEVER THE INPUT: true; the input reads as it did. -/
def tabsPartsSpec : ChangeSpec := { name := "tabsParts", fn := fun _ => fun
  | [d1, d2, d3] => { results := [.lit (.bool true)], args := [d1, d2, d3] }
  | _ => none }
def tabsPartsRow : OpenClaim := { program := "ytjndhcngnghpiaagreatdoor", sum := "f3de992ccad536520405688d9bee3ef87f04357ad8939cacae1178b2127da4c5", func := "gatepost/gatepostkeep.TabsParts", spec := "tabsParts", inPlace := ["internal/bytealg.IndexByteString", "internal/bytealg.IndexString", "internal/abi.NoEscape", "internal/bytealg.MakeNoZero", "internal/bytealg.CountString"], unfollowed := true, recurses := true, named := ["unicode/utf8.first", "unicode/utf8.acceptRanges", "internal/bytealg.MaxLen", "gatepost/api.Begin", "gatepost/api.Roots", "gatepost/api.Sines", "gatepost/sum.turns", "internal/strconv.uint64pow10", "math/bits.deBruijn32tab", "math/bits.deBruijn64tab"], apart := false, laid := [("math/bits.deBruijn32tab", laid_math_bits_deBruijn32tab), ("math/bits.deBruijn64tab", laid_math_bits_deBruijn64tab), ("internal/strconv.uint64pow10", laid_internal_strconv_uint64pow10), ("unicode/utf8.acceptRanges", laid_unicode_utf8_acceptRanges), ("gatepost/api.Sines", laid_gatepost_api_Sines), ("gatepost/api.Roots", laid_gatepost_api_Roots), ("gatepost/api.Begin", laid_gatepost_api_Begin), ("gatepost/sum.turns", laid_gatepost_sum_turns), ("unicode/utf8.first", laid_unicode_utf8_first)] }
def TabsPartsSaid : Prop := tabsPartsRow.holds Tryz.pinned (OpenSpec.ofChange tabsPartsSpec)

/-- ITS FALSE NEIGHBOUR: 'it returns false'. Refute it at one input. -/
def tabsPartsWrong : ChangeSpec := { name := "tabsParts", fn := fun _ => fun
  | [d1, d2, d3] => { results := [.lit (.bool false)], args := [d1, d2, d3] }
  | _ => none }
def TabsPartsWrongFalsely : Prop := tabsPartsRow.holds Tryz.pinned (OpenSpec.ofChange tabsPartsWrong)

/- THE SECOND FORM. 'bulk': how many values and letters a reading holds, each counted each time it is reached (what is shared counts as often as it is met; a slice's spare places count too). A statement '..UptoSaid' is the law's where the arguments, and the package variables that the reading takes, are together of bulk at most 1048576: NARROWER than '..Said'. Prove '..Said' where nothing that the law and all that it calls make is longer than what came in: it says more and counts as full. Else prove '..UptoSaid'. A law counts once. -/
mutual
def uptoBulk {H : Type} : DataW H → Nat
  | .lit (.string bytes) => bytes.length + 1
  | .lit _ => 1
  | .nil => 1
  | .ptr d => uptoBulk d + 1
  | .slice elems spare => uptoBulkAll elems + uptoBulkAll spare + 1
  | .agg parts => uptoBulkAll parts + 1
  | .iface _ d => uptoBulk d + 1
  | .map entries => uptoBulkEntries entries + 1
  | .held _ => 1
def uptoBulkAll {H : Type} : List (DataW H) → Nat
  | [] => 0
  | d :: r => uptoBulk d + uptoBulkAll r
def uptoBulkEntries {H : Type} : List (Lit × DataW H) → Nat
  | [] => 0
  | x :: r => uptoBulkEntry x + uptoBulkEntries r
def uptoBulkEntry {H : Type} : Lit × DataW H → Nat
  | (.string bytes, d) => bytes.length + uptoBulk d + 1
  | (_, d) => uptoBulk d + 1
 end
def uptoSmall : (H : Type) → List (DataW H) → Bool := fun _ ds => decide (uptoBulkAll ds ≤ 1048576)
def OpenSpec.upto (s : _root_.Go.ChangeSpec) : _root_.Go.OpenSpec := { _root_.Go.OpenSpec.ofChange s with cond := some uptoSmall }

/-- 'gatepostkeep.TabsEnds', WHERE WHAT IT READS IS OF BULK AT MOST 1048576: true; the input reads as it did. -/
def tabsEndsUptoRow : OpenClaim := { program := "ytjndhcngnghpiaagreatdoor", sum := "f3de992ccad536520405688d9bee3ef87f04357ad8939cacae1178b2127da4c5", func := "gatepost/gatepostkeep.TabsEnds", spec := "tabsEnds", inPlace := ["internal/bytealg.IndexByteString", "internal/bytealg.IndexString", "internal/abi.NoEscape", "internal/bytealg.MakeNoZero", "internal/bytealg.CountString"], unfollowed := true, recurses := true, named := ["unicode/utf8.first", "unicode/utf8.acceptRanges", "internal/bytealg.MaxLen", "gatepost/api.Begin", "gatepost/api.Roots", "gatepost/api.Sines", "gatepost/sum.turns", "internal/strconv.uint64pow10", "math/bits.deBruijn32tab", "math/bits.deBruijn64tab"], apart := false, laid := [("math/bits.deBruijn32tab", laid_math_bits_deBruijn32tab), ("math/bits.deBruijn64tab", laid_math_bits_deBruijn64tab), ("internal/strconv.uint64pow10", laid_internal_strconv_uint64pow10), ("unicode/utf8.acceptRanges", laid_unicode_utf8_acceptRanges), ("gatepost/api.Sines", laid_gatepost_api_Sines), ("gatepost/api.Roots", laid_gatepost_api_Roots), ("gatepost/api.Begin", laid_gatepost_api_Begin), ("gatepost/sum.turns", laid_gatepost_sum_turns), ("unicode/utf8.first", laid_unicode_utf8_first)], narrowed := true }
def TabsEndsUptoSaid : Prop := tabsEndsUptoRow.holds Tryz.pinned (OpenSpec.upto tabsEndsSpec)

/-- 'gatepostkeep.TabsLeave', WHERE WHAT IT READS IS OF BULK AT MOST 1048576: true; the input reads as it did. -/
def tabsLeaveUptoRow : OpenClaim := { program := "ytjndhcngnghpiaagreatdoor", sum := "f3de992ccad536520405688d9bee3ef87f04357ad8939cacae1178b2127da4c5", func := "gatepost/gatepostkeep.TabsLeave", spec := "tabsLeave", inPlace := ["internal/bytealg.IndexByteString", "internal/bytealg.IndexString", "internal/abi.NoEscape", "internal/bytealg.MakeNoZero", "internal/bytealg.CountString"], unfollowed := true, recurses := true, named := ["unicode/utf8.first", "unicode/utf8.acceptRanges", "internal/bytealg.MaxLen", "gatepost/api.Begin", "gatepost/api.Roots", "gatepost/api.Sines", "gatepost/sum.turns", "internal/strconv.uint64pow10", "math/bits.deBruijn32tab", "math/bits.deBruijn64tab"], apart := false, laid := [("math/bits.deBruijn32tab", laid_math_bits_deBruijn32tab), ("math/bits.deBruijn64tab", laid_math_bits_deBruijn64tab), ("internal/strconv.uint64pow10", laid_internal_strconv_uint64pow10), ("unicode/utf8.acceptRanges", laid_unicode_utf8_acceptRanges), ("gatepost/api.Sines", laid_gatepost_api_Sines), ("gatepost/api.Roots", laid_gatepost_api_Roots), ("gatepost/api.Begin", laid_gatepost_api_Begin), ("gatepost/sum.turns", laid_gatepost_sum_turns), ("unicode/utf8.first", laid_unicode_utf8_first)], narrowed := true }
def TabsLeaveUptoSaid : Prop := tabsLeaveUptoRow.holds Tryz.pinned (OpenSpec.upto tabsLeaveSpec)

/-- 'gatepostkeep.TabsParts', WHERE WHAT IT READS IS OF BULK AT MOST 1048576: true; the input reads as it did. -/
def tabsPartsUptoRow : OpenClaim := { program := "ytjndhcngnghpiaagreatdoor", sum := "f3de992ccad536520405688d9bee3ef87f04357ad8939cacae1178b2127da4c5", func := "gatepost/gatepostkeep.TabsParts", spec := "tabsParts", inPlace := ["internal/bytealg.IndexByteString", "internal/bytealg.IndexString", "internal/abi.NoEscape", "internal/bytealg.MakeNoZero", "internal/bytealg.CountString"], unfollowed := true, recurses := true, named := ["unicode/utf8.first", "unicode/utf8.acceptRanges", "internal/bytealg.MaxLen", "gatepost/api.Begin", "gatepost/api.Roots", "gatepost/api.Sines", "gatepost/sum.turns", "internal/strconv.uint64pow10", "math/bits.deBruijn32tab", "math/bits.deBruijn64tab"], apart := false, laid := [("math/bits.deBruijn32tab", laid_math_bits_deBruijn32tab), ("math/bits.deBruijn64tab", laid_math_bits_deBruijn64tab), ("internal/strconv.uint64pow10", laid_internal_strconv_uint64pow10), ("unicode/utf8.acceptRanges", laid_unicode_utf8_acceptRanges), ("gatepost/api.Sines", laid_gatepost_api_Sines), ("gatepost/api.Roots", laid_gatepost_api_Roots), ("gatepost/api.Begin", laid_gatepost_api_Begin), ("gatepost/sum.turns", laid_gatepost_sum_turns), ("unicode/utf8.first", laid_unicode_utf8_first)], narrowed := true }
def TabsPartsUptoSaid : Prop := tabsPartsUptoRow.holds Tryz.pinned (OpenSpec.upto tabsPartsSpec)

end Rows
end Go.Proofs.YtjndhcngnghpiaaGreatDoor
