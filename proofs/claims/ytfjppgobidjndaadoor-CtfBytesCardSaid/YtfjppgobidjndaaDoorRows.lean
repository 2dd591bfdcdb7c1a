/-
  NARROWER THAN 'FOR EVERY INPUT', by the rows' own cells (each row's printed sentence says how): CtfMembers: laid · CtfLooks: laid · CtfUnique: laid · CtfEquals: laid · CtfCompares: laid · CtfMerged: laid · CtfOrder: laid · CtfBytes: laid · CtfBack: laid · CtfTrims: laid.
  DERIVED. THE GIVEN ROWS OF THIS SEAT. 10 by the template 'for every input the law returns true; each argument reads behind the call as it read before'; 0 by the template 'total and deterministic' (their statements: YtfjppgobidjndaaDoorTotals.lean).
  GIVEN WITH THE SEED: the statements are not yours to turn. If you find one false, say at which input.
  Laid BY PROGRAM, IN A SANDBOX (cutbox-rows.mjs): the forced cells as the released guide's own fill.sh prints them over the translation a6b5254296f4be01… (all of the seat's roots in one cut). By AI agents, Wed Nov 11 2026. No macro, syntax, notation, axiom, sorry.
-/
import Derived.Test.YtfjppgobidjndaaDoorChecked
import GoSem.Claim
import GoSem.ClaimJoined
import GoSem.ClaimMapViews
import Derived.JoinedTies
import Derived.KernelRfl
namespace Go.Proofs.YtfjppgobidjndaaDoor
/- THE CELL 'sum', in the pinned program and in every row, IS THE sha256 OF THE DUMP (.gsa) THAT YtfjppgobidjndaaDoorProg.lean LOADS. Nothing in Lean hashes anything: it is a label: what it is worth is what the hold of that sum in a sandbox is worth. -/
noncomputable def Tryd.pinned : Pinned := { name := "ytfjppgobidjndaadoor", sum := "a6b5254296f4be016f890eb10554a2b90bd642e41b91458ec345c3a26a538df6", checked := Tryd.checked }
namespace Rows
def none {H : Type} : Left H := { results := [], args := [] }

/- WHAT THE LISTED PACKAGE-LEVEL VARIABLES READ AS WHEN THE CALL BEGINS. Each datum BY PROGRAM (the guide's laid-datum.mjs) off the statement by which the dump's own 'gosem.cut.vars' lays the variable. In a bare row this is a premise. The card (YtfjppgobidjndaaDoorCards.lean) ties it to the program's text. -/
def laid_math_bits_deBruijn32tab {H : Type} : DataW H := .agg [.lit (.int .u8 0), .lit (.int .u8 1), .lit (.int .u8 28), .lit (.int .u8 2), .lit (.int .u8 29), .lit (.int .u8 14), .lit (.int .u8 24), .lit (.int .u8 3), .lit (.int .u8 30), .lit (.int .u8 22), .lit (.int .u8 20), .lit (.int .u8 15), .lit (.int .u8 25), .lit (.int .u8 17), .lit (.int .u8 4), .lit (.int .u8 8), .lit (.int .u8 31), .lit (.int .u8 27), .lit (.int .u8 13), .lit (.int .u8 23), .lit (.int .u8 21), .lit (.int .u8 19), .lit (.int .u8 16), .lit (.int .u8 7), .lit (.int .u8 26), .lit (.int .u8 12), .lit (.int .u8 18), .lit (.int .u8 6), .lit (.int .u8 11), .lit (.int .u8 5), .lit (.int .u8 10), .lit (.int .u8 9)]
def laid_math_bits_deBruijn64tab {H : Type} : DataW H := .agg [.lit (.int .u8 0), .lit (.int .u8 1), .lit (.int .u8 56), .lit (.int .u8 2), .lit (.int .u8 57), .lit (.int .u8 49), .lit (.int .u8 28), .lit (.int .u8 3), .lit (.int .u8 61), .lit (.int .u8 58), .lit (.int .u8 42), .lit (.int .u8 50), .lit (.int .u8 38), .lit (.int .u8 29), .lit (.int .u8 17), .lit (.int .u8 4), .lit (.int .u8 62), .lit (.int .u8 47), .lit (.int .u8 59), .lit (.int .u8 36), .lit (.int .u8 45), .lit (.int .u8 43), .lit (.int .u8 51), .lit (.int .u8 22), .lit (.int .u8 53), .lit (.int .u8 39), .lit (.int .u8 33), .lit (.int .u8 30), .lit (.int .u8 24), .lit (.int .u8 18), .lit (.int .u8 12), .lit (.int .u8 5), .lit (.int .u8 63), .lit (.int .u8 55), .lit (.int .u8 48), .lit (.int .u8 27), .lit (.int .u8 60), .lit (.int .u8 41), .lit (.int .u8 37), .lit (.int .u8 16), .lit (.int .u8 46), .lit (.int .u8 35), .lit (.int .u8 44), .lit (.int .u8 21), .lit (.int .u8 52), .lit (.int .u8 32), .lit (.int .u8 23), .lit (.int .u8 11), .lit (.int .u8 54), .lit (.int .u8 26), .lit (.int .u8 40), .lit (.int .u8 15), .lit (.int .u8 34), .lit (.int .u8 20), .lit (.int .u8 31), .lit (.int .u8 10), .lit (.int .u8 25), .lit (.int .u8 14), .lit (.int .u8 19), .lit (.int .u8 9), .lit (.int .u8 13), .lit (.int .u8 8), .lit (.int .u8 7), .lit (.int .u8 6)]
def laid_internal_strconv_uint64pow10 {H : Type} : DataW H := .agg [.lit (.int .u64 1), .lit (.int .u64 10), .lit (.int .u64 100), .lit (.int .u64 1000), .lit (.int .u64 10000), .lit (.int .u64 100000), .lit (.int .u64 1000000), .lit (.int .u64 10000000), .lit (.int .u64 100000000), .lit (.int .u64 1000000000), .lit (.int .u64 10000000000), .lit (.int .u64 100000000000), .lit (.int .u64 1000000000000), .lit (.int .u64 10000000000000), .lit (.int .u64 100000000000000), .lit (.int .u64 1000000000000000), .lit (.int .u64 10000000000000000), .lit (.int .u64 100000000000000000), .lit (.int .u64 1000000000000000000), .lit (.int .u64 10000000000000000000)]

/-- 'taplinelaw08.CtfMembers': WHATEVER THE INPUT: true; the input reads as it did. -/
def ctfMembersSpec : ChangeSpec := { name := "ctfMembers", fn := fun _ => fun
  | [d1, d2, d3] => { results := [.lit (.bool true)], args := [d1, d2, d3] }
  | _ => none }
def ctfMembersRow : OpenClaim := { program := "ytfjppgobidjndaadoor", sum := "a6b5254296f4be016f890eb10554a2b90bd642e41b91458ec345c3a26a538df6", func := "tapline/taplinelaw08.CtfMembers", spec := "ctfMembers", unfollowed := true, recurses := true, named := ["internal/strconv.uint64pow10", "math/bits.deBruijn32tab", "math/bits.deBruijn64tab"], plainKeys := false, apart := false, laid := [("math/bits.deBruijn32tab", laid_math_bits_deBruijn32tab), ("math/bits.deBruijn64tab", laid_math_bits_deBruijn64tab), ("internal/strconv.uint64pow10", laid_internal_strconv_uint64pow10)] }
def CtfMembersSaid : Prop := ctfMembersRow.holds Tryd.pinned (OpenSpec.ofChange ctfMembersSpec)

/-- ITS FALSE NEIGHBOUR: 'it returns false'. Refute it at one input. -/
def ctfMembersWrong : ChangeSpec := { name := "ctfMembers", fn := fun _ => fun
  | [d1, d2, d3] => { results := [.lit (.bool false)], args := [d1, d2, d3] }
  | _ => none }
def CtfMembersWrongFalsely : Prop := ctfMembersRow.holds Tryd.pinned (OpenSpec.ofChange ctfMembersWrong)

/-- 'taplinelaw08.CtfLooks': WHATEVER THE INPUT: true; the input reads as it did. -/
def ctfLooksSpec : ChangeSpec := { name := "ctfLooks", fn := fun _ => fun
  | [d1, d2] => { results := [.lit (.bool true)], args := [d1, d2] }
  | _ => none }
def ctfLooksRow : OpenClaim := { program := "ytfjppgobidjndaadoor", sum := "a6b5254296f4be016f890eb10554a2b90bd642e41b91458ec345c3a26a538df6", func := "tapline/taplinelaw08.CtfLooks", spec := "ctfLooks", unfollowed := true, recurses := true, named := ["internal/strconv.uint64pow10", "math/bits.deBruijn32tab", "math/bits.deBruijn64tab"], plainKeys := false, apart := false, laid := [("math/bits.deBruijn32tab", laid_math_bits_deBruijn32tab), ("math/bits.deBruijn64tab", laid_math_bits_deBruijn64tab), ("internal/strconv.uint64pow10", laid_internal_strconv_uint64pow10)] }
def CtfLooksSaid : Prop := ctfLooksRow.holds Tryd.pinned (OpenSpec.ofChange ctfLooksSpec)

/-- ITS FALSE NEIGHBOUR: 'it returns false'. Refute it at one input. -/
def ctfLooksWrong : ChangeSpec := { name := "ctfLooks", fn := fun _ => fun
  | [d1, d2] => { results := [.lit (.bool false)], args := [d1, d2] }
  | _ => none }
def CtfLooksWrongFalsely : Prop := ctfLooksRow.holds Tryd.pinned (OpenSpec.ofChange ctfLooksWrong)

/-- 'taplinelaw08.CtfUnique': WHATEVER THE INPUT: true; the input reads as it did. -/
def ctfUniqueSpec : ChangeSpec := { name := "ctfUnique", fn := fun _ => fun
  | [d] => { results := [.lit (.bool true)], args := [d] }
  | _ => none }
def ctfUniqueRow : OpenClaim := { program := "ytfjppgobidjndaadoor", sum := "a6b5254296f4be016f890eb10554a2b90bd642e41b91458ec345c3a26a538df6", func := "tapline/taplinelaw08.CtfUnique", spec := "ctfUnique", unfollowed := true, recurses := true, named := ["internal/strconv.uint64pow10", "math/bits.deBruijn32tab", "math/bits.deBruijn64tab"], plainKeys := false, apart := false, laid := [("math/bits.deBruijn32tab", laid_math_bits_deBruijn32tab), ("math/bits.deBruijn64tab", laid_math_bits_deBruijn64tab), ("internal/strconv.uint64pow10", laid_internal_strconv_uint64pow10)] }
def CtfUniqueSaid : Prop := ctfUniqueRow.holds Tryd.pinned (OpenSpec.ofChange ctfUniqueSpec)

/-- ITS FALSE NEIGHBOUR: 'it returns false'. Refute it at one input. -/
def ctfUniqueWrong : ChangeSpec := { name := "ctfUnique", fn := fun _ => fun
  | [d] => { results := [.lit (.bool false)], args := [d] }
  | _ => none }
def CtfUniqueWrongFalsely : Prop := ctfUniqueRow.holds Tryd.pinned (OpenSpec.ofChange ctfUniqueWrong)

/-- 'taplinelaw08.CtfEquals': WHATEVER THE INPUT: true; the input reads as it did. -/
def ctfEqualsSpec : ChangeSpec := { name := "ctfEquals", fn := fun _ => fun
  | [d1, d2, d3] => { results := [.lit (.bool true)], args := [d1, d2, d3] }
  | _ => none }
def ctfEqualsRow : OpenClaim := { program := "ytfjppgobidjndaadoor", sum := "a6b5254296f4be016f890eb10554a2b90bd642e41b91458ec345c3a26a538df6", func := "tapline/taplinelaw08.CtfEquals", spec := "ctfEquals", unfollowed := true, recurses := true, named := ["internal/strconv.uint64pow10", "math/bits.deBruijn32tab", "math/bits.deBruijn64tab"], plainKeys := false, apart := false, laid := [("math/bits.deBruijn32tab", laid_math_bits_deBruijn32tab), ("math/bits.deBruijn64tab", laid_math_bits_deBruijn64tab), ("internal/strconv.uint64pow10", laid_internal_strconv_uint64pow10)] }
def CtfEqualsSaid : Prop := ctfEqualsRow.holds Tryd.pinned (OpenSpec.ofChange ctfEqualsSpec)

/-- ITS FALSE NEIGHBOUR: 'it returns false'. Refute it at one input. -/
def ctfEqualsWrong : ChangeSpec := { name := "ctfEquals", fn := fun _ => fun
  | [d1, d2, d3] => { results := [.lit (.bool false)], args := [d1, d2, d3] }
  | _ => none }
def CtfEqualsWrongFalsely : Prop := ctfEqualsRow.holds Tryd.pinned (OpenSpec.ofChange ctfEqualsWrong)

/-- 'taplinelaw08.CtfCompares': WHATEVER THE INPUT: true; the input reads as it did. -/
def ctfComparesSpec : ChangeSpec := { name := "ctfCompares", fn := fun _ => fun
  | [d1, d2, d3] => { results := [.lit (.bool true)], args := [d1, d2, d3] }
  | _ => none }
def ctfComparesRow : OpenClaim := { program := "ytfjppgobidjndaadoor", sum := "a6b5254296f4be016f890eb10554a2b90bd642e41b91458ec345c3a26a538df6", func := "tapline/taplinelaw08.CtfCompares", spec := "ctfCompares", unfollowed := true, recurses := true, named := ["internal/strconv.uint64pow10", "math/bits.deBruijn32tab", "math/bits.deBruijn64tab"], plainKeys := false, apart := false, laid := [("math/bits.deBruijn32tab", laid_math_bits_deBruijn32tab), ("math/bits.deBruijn64tab", laid_math_bits_deBruijn64tab), ("internal/strconv.uint64pow10", laid_internal_strconv_uint64pow10)] }
def CtfComparesSaid : Prop := ctfComparesRow.holds Tryd.pinned (OpenSpec.ofChange ctfComparesSpec)

/-- ITS FALSE NEIGHBOUR: 'it returns false'. Refute it at one input. -/
def ctfComparesWrong : ChangeSpec := { name := "ctfCompares", fn := fun _ => fun
  | [d1, d2, d3] => { results := [.lit (.bool false)], args := [d1, d2, d3] }
  | _ => none }
def CtfComparesWrongFalsely : Prop := ctfComparesRow.holds Tryd.pinned (OpenSpec.ofChange ctfComparesWrong)

/-- 'taplinelaw08.CtfMerged': WHATEVER THE INPUT: true; the input reads as it did. -/
def ctfMergedSpec : ChangeSpec := { name := "ctfMerged", fn := fun _ => fun
  | [d1, d2] => { results := [.lit (.bool true)], args := [d1, d2] }
  | _ => none }
def ctfMergedRow : OpenClaim := { program := "ytfjppgobidjndaadoor", sum := "a6b5254296f4be016f890eb10554a2b90bd642e41b91458ec345c3a26a538df6", func := "tapline/taplinelaw08.CtfMerged", spec := "ctfMerged", unfollowed := true, recurses := true, named := ["internal/strconv.uint64pow10", "math/bits.deBruijn32tab", "math/bits.deBruijn64tab"], plainKeys := false, apart := false, laid := [("math/bits.deBruijn32tab", laid_math_bits_deBruijn32tab), ("math/bits.deBruijn64tab", laid_math_bits_deBruijn64tab), ("internal/strconv.uint64pow10", laid_internal_strconv_uint64pow10)] }
def CtfMergedSaid : Prop := ctfMergedRow.holds Tryd.pinned (OpenSpec.ofChange ctfMergedSpec)

/-- ITS FALSE NEIGHBOUR: 'it returns false'. Refute it at one input. -/
def ctfMergedWrong : ChangeSpec := { name := "ctfMerged", fn := fun _ => fun
  | [d1, d2] => { results := [.lit (.bool false)], args := [d1, d2] }
  | _ => none }
def CtfMergedWrongFalsely : Prop := ctfMergedRow.holds Tryd.pinned (OpenSpec.ofChange ctfMergedWrong)

/-- 'taplinelaw08.CtfOrder': WHATEVER THE INPUT: true; the input reads as it did. -/
def ctfOrderSpec : ChangeSpec := { name := "ctfOrder", fn := fun _ => fun
  | [d] => { results := [.lit (.bool true)], args := [d] }
  | _ => none }
def ctfOrderRow : OpenClaim := { program := "ytfjppgobidjndaadoor", sum := "a6b5254296f4be016f890eb10554a2b90bd642e41b91458ec345c3a26a538df6", func := "tapline/taplinelaw08.CtfOrder", spec := "ctfOrder", unfollowed := true, recurses := true, named := ["internal/strconv.uint64pow10", "math/bits.deBruijn32tab", "math/bits.deBruijn64tab"], plainKeys := false, apart := false, laid := [("math/bits.deBruijn32tab", laid_math_bits_deBruijn32tab), ("math/bits.deBruijn64tab", laid_math_bits_deBruijn64tab), ("internal/strconv.uint64pow10", laid_internal_strconv_uint64pow10)] }
def CtfOrderSaid : Prop := ctfOrderRow.holds Tryd.pinned (OpenSpec.ofChange ctfOrderSpec)

/-- ITS FALSE NEIGHBOUR: 'it returns false'. Refute it at one input. -/
def ctfOrderWrong : ChangeSpec := { name := "ctfOrder", fn := fun _ => fun
  | [d] => { results := [.lit (.bool false)], args := [d] }
  | _ => none }
def CtfOrderWrongFalsely : Prop := ctfOrderRow.holds Tryd.pinned (OpenSpec.ofChange ctfOrderWrong)

/-- 'taplinelaw08.CtfBytes': WHATEVER THE INPUT: true; the input reads as it did. -/
def ctfBytesSpec : ChangeSpec := { name := "ctfBytes", fn := fun _ => fun
  | [d1, d2] => { results := [.lit (.bool true)], args := [d1, d2] }
  | _ => none }
def ctfBytesRow : OpenClaim := { program := "ytfjppgobidjndaadoor", sum := "a6b5254296f4be016f890eb10554a2b90bd642e41b91458ec345c3a26a538df6", func := "tapline/taplinelaw08.CtfBytes", spec := "ctfBytes", unfollowed := true, recurses := true, named := ["internal/strconv.uint64pow10", "math/bits.deBruijn32tab", "math/bits.deBruijn64tab"], plainKeys := false, apart := false, laid := [("math/bits.deBruijn32tab", laid_math_bits_deBruijn32tab), ("math/bits.deBruijn64tab", laid_math_bits_deBruijn64tab), ("internal/strconv.uint64pow10", laid_internal_strconv_uint64pow10)] }
def CtfBytesSaid : Prop := ctfBytesRow.holds Tryd.pinned (OpenSpec.ofChange ctfBytesSpec)

/-- ITS FALSE NEIGHBOUR: 'it returns false'. Refute it at one input. -/
def ctfBytesWrong : ChangeSpec := { name := "ctfBytes", fn := fun _ => fun
  | [d1, d2] => { results := [.lit (.bool false)], args := [d1, d2] }
  | _ => none }
def CtfBytesWrongFalsely : Prop := ctfBytesRow.holds Tryd.pinned (OpenSpec.ofChange ctfBytesWrong)

/-- 'taplinelaw08.CtfBack': WHATEVER THE INPUT: true; the input reads as it did. -/
def ctfBackSpec : ChangeSpec := { name := "ctfBack", fn := fun _ => fun
  | [d1, d2] => { results := [.lit (.bool true)], args := [d1, d2] }
  | _ => none }
def ctfBackRow : OpenClaim := { program := "ytfjppgobidjndaadoor", sum := "a6b5254296f4be016f890eb10554a2b90bd642e41b91458ec345c3a26a538df6", func := "tapline/taplinelaw08.CtfBack", spec := "ctfBack", unfollowed := true, recurses := true, named := ["internal/strconv.uint64pow10", "math/bits.deBruijn32tab", "math/bits.deBruijn64tab"], plainKeys := false, apart := false, laid := [("math/bits.deBruijn32tab", laid_math_bits_deBruijn32tab), ("math/bits.deBruijn64tab", laid_math_bits_deBruijn64tab), ("internal/strconv.uint64pow10", laid_internal_strconv_uint64pow10)] }
def CtfBackSaid : Prop := ctfBackRow.holds Tryd.pinned (OpenSpec.ofChange ctfBackSpec)

/-- ITS FALSE NEIGHBOUR: 'it returns false'. Refute it at one input. -/
def ctfBackWrong : ChangeSpec := { name := "ctfBack", fn := fun _ => fun
  | [d1, d2] => { results := [.lit (.bool false)], args := [d1, d2] }
  | _ => none }
def CtfBackWrongFalsely : Prop := ctfBackRow.holds Tryd.pinned (OpenSpec.ofChange ctfBackWrong)

/-- 'taplinelaw08.CtfTrims': WHATEVER THE INPUT: true; the input reads as it did. -/
def ctfTrimsSpec : ChangeSpec := { name := "ctfTrims", fn := fun _ => fun
  | [d1, d2] => { results := [.lit (.bool true)], args := [d1, d2] }
  | _ => none }
def ctfTrimsRow : OpenClaim := { program := "ytfjppgobidjndaadoor", sum := "a6b5254296f4be016f890eb10554a2b90bd642e41b91458ec345c3a26a538df6", func := "tapline/taplinelaw08.CtfTrims", spec := "ctfTrims", unfollowed := true, recurses := true, named := ["internal/strconv.uint64pow10", "math/bits.deBruijn32tab", "math/bits.deBruijn64tab"], plainKeys := false, apart := false, laid := [("math/bits.deBruijn32tab", laid_math_bits_deBruijn32tab), ("math/bits.deBruijn64tab", laid_math_bits_deBruijn64tab), ("internal/strconv.uint64pow10", laid_internal_strconv_uint64pow10)] }
def CtfTrimsSaid : Prop := ctfTrimsRow.holds Tryd.pinned (OpenSpec.ofChange ctfTrimsSpec)

/-- ITS FALSE NEIGHBOUR: 'it returns false'. Refute it at one input. -/
def ctfTrimsWrong : ChangeSpec := { name := "ctfTrims", fn := fun _ => fun
  | [d1, d2] => { results := [.lit (.bool false)], args := [d1, d2] }
  | _ => none }
def CtfTrimsWrongFalsely : Prop := ctfTrimsRow.holds Tryd.pinned (OpenSpec.ofChange ctfTrimsWrong)

/- THE SECOND FORM. 'bulk': how many values and letters a reading holds, each counted each time it is reached (what is shared counts as often as it is met; a slice's spare places count too). A statement '..UptoSaid' is the law's where the arguments, and the package variables that the reading takes, are together of bulk at most 1048576: NARROWER than '..Said'. Prove '..Said' where nothing that the law and all that it calls make is longer than what came in: it says more and counts as full. Else prove '..UptoSaid'. A law counts once. -/
mutual
def uptoBulk {H : Type} : DataW H → Nat
  | .lit (.string bytes) => bytes.length + 1
  | .lit _ => 1
  | .nil => 1
  | .ptr d => uptoBulk d + 1
  | .slice elems spare => uptoBulkAll elems + uptoBulkAll spare + 1
  | .agg parts => uptoBulkAll parts + 1
  | .iface _ d => uptoBulk d + 1
  | .map entries => uptoBulkEntries entries + 1
  | .held _ => 1
def uptoBulkAll {H : Type} : List (DataW H) → Nat
  | [] => 0
  | d :: r => uptoBulk d + uptoBulkAll r
def uptoBulkEntries {H : Type} : List (Lit × DataW H) → Nat
  | [] => 0
  | x :: r => uptoBulkEntry x + uptoBulkEntries r
def uptoBulkEntry {H : Type} : Lit × DataW H → Nat
  | (.string bytes, d) => bytes.length + uptoBulk d + 1
  | (_, d) => uptoBulk d + 1
 end
def uptoSmall : (H : Type) → List (DataW H) → Bool := fun _ ds => decide (uptoBulkAll ds ≤ 1048576)
def OpenSpec.upto (s : _root_.Go.ChangeSpec) : _root_.Go.OpenSpec := { _root_.Go.OpenSpec.ofChange s with cond := some uptoSmall }

/-- 'taplinelaw08.CtfMembers', WHERE WHAT IT READS IS OF BULK AT MOST 1048576: true; the input reads as it did. -/
def ctfMembersUptoRow : OpenClaim := { program := "ytfjppgobidjndaadoor", sum := "a6b5254296f4be016f890eb10554a2b90bd642e41b91458ec345c3a26a538df6", func := "tapline/taplinelaw08.CtfMembers", spec := "ctfMembers", unfollowed := true, recurses := true, named := ["internal/strconv.uint64pow10", "math/bits.deBruijn32tab", "math/bits.deBruijn64tab"], plainKeys := false, apart := false, laid := [("math/bits.deBruijn32tab", laid_math_bits_deBruijn32tab), ("math/bits.deBruijn64tab", laid_math_bits_deBruijn64tab), ("internal/strconv.uint64pow10", laid_internal_strconv_uint64pow10)], narrowed := true }
def CtfMembersUptoSaid : Prop := ctfMembersUptoRow.holds Tryd.pinned (OpenSpec.upto ctfMembersSpec)

/-- 'taplinelaw08.CtfLooks', WHERE WHAT IT READS IS OF BULK AT MOST 1048576: true; the input reads as it did. -/
def ctfLooksUptoRow : OpenClaim := { program := "ytfjppgobidjndaadoor", sum := "a6b5254296f4be016f890eb10554a2b90bd642e41b91458ec345c3a26a538df6", func := "tapline/taplinelaw08.CtfLooks", spec := "ctfLooks", unfollowed := true, recurses := true, named := ["internal/strconv.uint64pow10", "math/bits.deBruijn32tab", "math/bits.deBruijn64tab"], plainKeys := false, apart := false, laid := [("math/bits.deBruijn32tab", laid_math_bits_deBruijn32tab), ("math/bits.deBruijn64tab", laid_math_bits_deBruijn64tab), ("internal/strconv.uint64pow10", laid_internal_strconv_uint64pow10)], narrowed := true }
def CtfLooksUptoSaid : Prop := ctfLooksUptoRow.holds Tryd.pinned (OpenSpec.upto ctfLooksSpec)

/-- 'taplinelaw08.CtfUnique', WHERE WHAT IT READS IS OF BULK AT MOST 1048576: true; the input reads as it did. -/
def ctfUniqueUptoRow : OpenClaim := { program := "ytfjppgobidjndaadoor", sum := "a6b5254296f4be016f890eb10554a2b90bd642e41b91458ec345c3a26a538df6", func := "tapline/taplinelaw08.CtfUnique", spec := "ctfUnique", unfollowed := true, recurses := true, named := ["internal/strconv.uint64pow10", "math/bits.deBruijn32tab", "math/bits.deBruijn64tab"], plainKeys := false, apart := false, laid := [("math/bits.deBruijn32tab", laid_math_bits_deBruijn32tab), ("math/bits.deBruijn64tab", laid_math_bits_deBruijn64tab), ("internal/strconv.uint64pow10", laid_internal_strconv_uint64pow10)], narrowed := true }
def CtfUniqueUptoSaid : Prop := ctfUniqueUptoRow.holds Tryd.pinned (OpenSpec.upto ctfUniqueSpec)

/-- 'taplinelaw08.CtfEquals', WHERE WHAT IT READS IS OF BULK AT MOST 1048576: true; the input reads as it did. -/
def ctfEqualsUptoRow : OpenClaim := { program := "ytfjppgobidjndaadoor", sum := "a6b5254296f4be016f890eb10554a2b90bd642e41b91458ec345c3a26a538df6", func := "tapline/taplinelaw08.CtfEquals", spec := "ctfEquals", unfollowed := true, recurses := true, named := ["internal/strconv.uint64pow10", "math/bits.deBruijn32tab", "math/bits.deBruijn64tab"], plainKeys := false, apart := false, laid := [("math/bits.deBruijn32tab", laid_math_bits_deBruijn32tab), ("math/bits.deBruijn64tab", laid_math_bits_deBruijn64tab), ("internal/strconv.uint64pow10", laid_internal_strconv_uint64pow10)], narrowed := true }
def CtfEqualsUptoSaid : Prop := ctfEqualsUptoRow.holds Tryd.pinned (OpenSpec.upto ctfEqualsSpec)

/-- 'taplinelaw08.CtfCompares', WHERE WHAT IT READS IS OF BULK AT MOST 1048576: true; the input reads as it did. -/
def ctfComparesUptoRow : OpenClaim := { program := "ytfjppgobidjndaadoor", sum := "a6b5254296f4be016f890eb10554a2b90bd642e41b91458ec345c3a26a538df6", func := "tapline/taplinelaw08.CtfCompares", spec := "ctfCompares", unfollowed := true, recurses := true, named := ["internal/strconv.uint64pow10", "math/bits.deBruijn32tab", "math/bits.deBruijn64tab"], plainKeys := false, apart := false, laid := [("math/bits.deBruijn32tab", laid_math_bits_deBruijn32tab), ("math/bits.deBruijn64tab", laid_math_bits_deBruijn64tab), ("internal/strconv.uint64pow10", laid_internal_strconv_uint64pow10)], narrowed := true }
def CtfComparesUptoSaid : Prop := ctfComparesUptoRow.holds Tryd.pinned (OpenSpec.upto ctfComparesSpec)

/-- 'taplinelaw08.CtfMerged', WHERE WHAT IT READS IS OF BULK AT MOST 1048576: true; the input reads as it did. -/
def ctfMergedUptoRow : OpenClaim := { program := "ytfjppgobidjndaadoor", sum := "a6b5254296f4be016f890eb10554a2b90bd642e41b91458ec345c3a26a538df6", func := "tapline/taplinelaw08.CtfMerged", spec := "ctfMerged", unfollowed := true, recurses := true, named := ["internal/strconv.uint64pow10", "math/bits.deBruijn32tab", "math/bits.deBruijn64tab"], plainKeys := false, apart := false, laid := [("math/bits.deBruijn32tab", laid_math_bits_deBruijn32tab), ("math/bits.deBruijn64tab", laid_math_bits_deBruijn64tab), ("internal/strconv.uint64pow10", laid_internal_strconv_uint64pow10)], narrowed := true }
def CtfMergedUptoSaid : Prop := ctfMergedUptoRow.holds Tryd.pinned (OpenSpec.upto ctfMergedSpec)

/-- 'taplinelaw08.CtfOrder', WHERE WHAT IT READS IS OF BULK AT MOST 1048576: true; the input reads as it did. -/
def ctfOrderUptoRow : OpenClaim := { program := "ytfjppgobidjndaadoor", sum := "a6b5254296f4be016f890eb10554a2b90bd642e41b91458ec345c3a26a538df6", func := "tapline/taplinelaw08.CtfOrder", spec := "ctfOrder", unfollowed := true, recurses := true, named := ["internal/strconv.uint64pow10", "math/bits.deBruijn32tab", "math/bits.deBruijn64tab"], plainKeys := false, apart := false, laid := [("math/bits.deBruijn32tab", laid_math_bits_deBruijn32tab), ("math/bits.deBruijn64tab", laid_math_bits_deBruijn64tab), ("internal/strconv.uint64pow10", laid_internal_strconv_uint64pow10)], narrowed := true }
def CtfOrderUptoSaid : Prop := ctfOrderUptoRow.holds Tryd.pinned (OpenSpec.upto ctfOrderSpec)

/-- 'taplinelaw08.CtfBytes', WHERE WHAT IT READS IS OF BULK AT MOST 1048576: true; the input reads as it did. -/
def ctfBytesUptoRow : OpenClaim := { program := "ytfjppgobidjndaadoor", sum := "a6b5254296f4be016f890eb10554a2b90bd642e41b91458ec345c3a26a538df6", func := "tapline/taplinelaw08.CtfBytes", spec := "ctfBytes", unfollowed := true, recurses := true, named := ["internal/strconv.uint64pow10", "math/bits.deBruijn32tab", "math/bits.deBruijn64tab"], plainKeys := false, apart := false, laid := [("math/bits.deBruijn32tab", laid_math_bits_deBruijn32tab), ("math/bits.deBruijn64tab", laid_math_bits_deBruijn64tab), ("internal/strconv.uint64pow10", laid_internal_strconv_uint64pow10)], narrowed := true }
def CtfBytesUptoSaid : Prop := ctfBytesUptoRow.holds Tryd.pinned (OpenSpec.upto ctfBytesSpec)

/-- 'taplinelaw08.CtfBack', WHERE WHAT IT READS IS OF BULK AT MOST 1048576: true; the input reads as it did. -/
def ctfBackUptoRow : OpenClaim := { program := "ytfjppgobidjndaadoor", sum := "a6b5254296f4be016f890eb10554a2b90bd642e41b91458ec345c3a26a538df6", func := "tapline/taplinelaw08.CtfBack", spec := "ctfBack", unfollowed := true, recurses := true, named := ["internal/strconv.uint64pow10", "math/bits.deBruijn32tab", "math/bits.deBruijn64tab"], plainKeys := false, apart := false, laid := [("math/bits.deBruijn32tab", laid_math_bits_deBruijn32tab), ("math/bits.deBruijn64tab", laid_math_bits_deBruijn64tab), ("internal/strconv.uint64pow10", laid_internal_strconv_uint64pow10)], narrowed := true }
def CtfBackUptoSaid : Prop := ctfBackUptoRow.holds Tryd.pinned (OpenSpec.upto ctfBackSpec)

/-- 'taplinelaw08.CtfTrims', WHERE WHAT IT READS IS OF BULK AT MOST 1048576: true; the input reads as it did. -/
def ctfTrimsUptoRow : OpenClaim := { program := "ytfjppgobidjndaadoor", sum := "a6b5254296f4be016f890eb10554a2b90bd642e41b91458ec345c3a26a538df6", func := "tapline/taplinelaw08.CtfTrims", spec := "ctfTrims", unfollowed := true, recurses := true, named := ["internal/strconv.uint64pow10", "math/bits.deBruijn32tab", "math/bits.deBruijn64tab"], plainKeys := false, apart := false, laid := [("math/bits.deBruijn32tab", laid_math_bits_deBruijn32tab), ("math/bits.deBruijn64tab", laid_math_bits_deBruijn64tab), ("internal/strconv.uint64pow10", laid_internal_strconv_uint64pow10)], narrowed := true }
def CtfTrimsUptoSaid : Prop := ctfTrimsUptoRow.holds Tryd.pinned (OpenSpec.upto ctfTrimsSpec)

end Rows
end Go.Proofs.YtfjppgobidjndaaDoor
