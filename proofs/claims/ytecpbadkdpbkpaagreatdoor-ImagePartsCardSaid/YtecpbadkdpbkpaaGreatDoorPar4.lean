/- Parts of a proof, merged by program: G0 G1 SV F10 C0 E1 F143 F92 F93 F59 F65 F30 F25 F26 R1 R2 F90 F56 F135 F136 F137 F138 F139 F140 F141 F142 F57 L0 F76 F37 F64 F128 F84 F41 R3 G2 F21 F23 F24 F8. The walks (each function once) and the plain laws; no condition of their own. -/
import Derived.Test.YtecpbadkdpbkpaaGreatDoorPar1
import Derived.Test.YtecpbadkdpbkpaaGreatDoorPar3
import Derived.Test.YtecpbadkdpbkpaaGreatDoorProg
import Derived.KernelRfl
import Derived.Test.YtecpbadkdpbkpaaGreatDoorCards
import Derived.Test.YtecpbadkdpbkpaaGreatDoorTie
import Derived.WalkKit
import Derived.ProofKit
import Derived.OpenShut
import Derived.Deep.DeepHandedRow
import Derived.Lib.LaidTab
set_option linter.unusedVariables false
set_option linter.unusedSimpArgs false
namespace Go.Proofs.YtecpbadkdpbkpaaGreatDoor
open Go.RowKit Go.M
theorem hmix : Tryz.prog.follows .mixedOrders = true := by kernel_rfl
structure api_Int where
  vSize : Int
  vSigned : Bool
def z_api_Int : api_Int := ⟨0, false⟩
def k_api_Int : Kd api_Int := Kd.iso (Kd.pair (Kd.int .i64) Kd.bool) fun x => (x.vSize, x.vSigned)
def e_api_Int (x : api_Int) : Value := .agg #[.int .i64 x.vSize, .bool x.vSigned]
structure api_Field where
  vName : ByteArray
  vType : Int
  vAt : Int
def z_api_Field : api_Field := ⟨ByteArray.empty, 0, 0⟩
structure api_Def where
  vKind : Int
  vName : ByteArray
  vInt : api_Int
  vRef : Int
  vN : Int
  vFields : List api_Field
def z_api_Def : api_Def := ⟨0, ByteArray.empty, z_api_Int, 0, 0, []⟩
structure api_Types where
  vDefs : List api_Def
structure ctf_shape where
  vname : Bool
  vint : Bool
  vref : Bool
  vn : Bool
  vfields : Bool
structure api_Put where
  vPath : List ByteArray
  vV : Int
structure taplineref08_Part where
  vF : api_Field
  vE : Int
structure taplineref08_Reached where
  vType : Int
  vAt : Int
  vE : Int
structure taplineref08_Number where
  vN : Int
  vE : Int
structure taplineref09_Laid where
  vB : List Int
  vE : Int

end Go.Proofs.YtecpbadkdpbkpaaGreatDoor
namespace Go.Proofs.YtecpbadkdpbkpaaGreatDoor
open Go.RowKit Go.M
structure api_Segment where
  vAt : Int
  vBytes : List Int
def z_api_Segment : api_Segment := ⟨0, []⟩
def k_api_Segment : Kd api_Segment := Kd.iso (Kd.pair (Kd.int .i64) (Kd.slice (Kd.int .u8))) fun x => (x.vAt, x.vBytes)
theorem ld_api_Segment {h : View} {A : Option Addr} {xs : List api_Segment} {i : Int} (hr : Rd k_api_Segment h A xs) (h0 : 0 ≤ i) (h1 : i < xs.length) :
    ∃ ad A1 c1, A = some ad ∧ VCells h (ad.add (i.toNat * 2)) [.int .i64 (rd z_api_Segment xs i).vAt, .slice A1 (rd z_api_Segment xs i).vBytes.length c1] ∧ (rd z_api_Segment xs i).vBytes.length ≤ c1 ∧ Rd (Kd.int .u8) h A1 (rd z_api_Segment xs i).vBytes := by
  obtain ⟨ad, cs, e, hK, hc⟩ := hr.get z_api_Segment h0 h1
  obtain ⟨_, _, rfl, rfl, ⟨A1, c1, rfl, hl1, hr1⟩⟩ := hK
  exact ⟨ad, A1, c1, e, hc, hl1, hr1⟩
structure api_Image where
  vSegs : List api_Segment
def k_api_Image : Kd api_Image := Kd.iso (Kd.slice k_api_Segment) fun x => x.vSegs
structure taplineref09_Loaded where
  vV : Int
  vIs : Bool
  vE : Int
structure api_Sym where
  vName : ByteArray
  vAt : Int
  vSize : Int
end Go.Proofs.YtecpbadkdpbkpaaGreatDoor
/- taplinelaw09.sane, a closed call: shown by running it (the kernel evaluates), in parts. -/
namespace Go.Proofs.YtecpbadkdpbkpaaGreatDoor
open Go.V
noncomputable section
def gcells : List (Nat × List Value) := [
  /- internal_strconv_uint64pow10 -/ (0, [.int .u64 1, .int .u64 10, .int .u64 100, .int .u64 1000, .int .u64 10000, .int .u64 100000, .int .u64 1000000, .int .u64 10000000, .int .u64 100000000, .int .u64 1000000000, .int .u64 10000000000, .int .u64 100000000000, .int .u64 1000000000000, .int .u64 10000000000000, .int .u64 100000000000000, .int .u64 1000000000000000, .int .u64 10000000000000000, .int .u64 100000000000000000, .int .u64 1000000000000000000, .int .u64 10000000000000000000]),
  /- math_bits_deBruijn32tab -/ (1, [.int .u8 0, .int .u8 1, .int .u8 28, .int .u8 2, .int .u8 29, .int .u8 14, .int .u8 24, .int .u8 3, .int .u8 30, .int .u8 22, .int .u8 20, .int .u8 15, .int .u8 25, .int .u8 17, .int .u8 4, .int .u8 8, .int .u8 31, .int .u8 27, .int .u8 13, .int .u8 23, .int .u8 21, .int .u8 19, .int .u8 16, .int .u8 7, .int .u8 26, .int .u8 12, .int .u8 18, .int .u8 6, .int .u8 11, .int .u8 5, .int .u8 10, .int .u8 9]),
  /- math_bits_deBruijn64tab -/ (2, [.int .u8 0, .int .u8 1, .int .u8 56, .int .u8 2, .int .u8 57, .int .u8 49, .int .u8 28, .int .u8 3, .int .u8 61, .int .u8 58, .int .u8 42, .int .u8 50, .int .u8 38, .int .u8 29, .int .u8 17, .int .u8 4, .int .u8 62, .int .u8 47, .int .u8 59, .int .u8 36, .int .u8 45, .int .u8 43, .int .u8 51, .int .u8 22, .int .u8 53, .int .u8 39, .int .u8 33, .int .u8 30, .int .u8 24, .int .u8 18, .int .u8 12, .int .u8 5, .int .u8 63, .int .u8 55, .int .u8 48, .int .u8 27, .int .u8 60, .int .u8 41, .int .u8 37, .int .u8 16, .int .u8 46, .int .u8 35, .int .u8 44, .int .u8 21, .int .u8 52, .int .u8 32, .int .u8 23, .int .u8 11, .int .u8 54, .int .u8 26, .int .u8 40, .int .u8 15, .int .u8 34, .int .u8 20, .int .u8 31, .int .u8 10, .int .u8 25, .int .u8 14, .int .u8 19, .int .u8 9, .int .u8 13, .int .u8 8, .int .u8 7, .int .u8 6])]
def vo0 : Obj := .cells ⟨[.int .u8 0, .int .u8 1, .int .u8 56, .int .u8 2, .int .u8 57, .int .u8 49, .int .u8 28, .int .u8 3, .int .u8 61, .int .u8 58, .int .u8 42, .int .u8 50, .int .u8 38, .int .u8 29, .int .u8 17, .int .u8 4, .int .u8 62, .int .u8 47, .int .u8 59, .int .u8 36, .int .u8 45, .int .u8 43, .int .u8 51, .int .u8 22, .int .u8 53, .int .u8 39, .int .u8 33, .int .u8 30, .int .u8 24, .int .u8 18, .int .u8 12, .int .u8 5, .int .u8 63, .int .u8 55, .int .u8 48, .int .u8 27, .int .u8 60, .int .u8 41, .int .u8 37, .int .u8 16, .int .u8 46, .int .u8 35, .int .u8 44, .int .u8 21, .int .u8 52, .int .u8 32, .int .u8 23, .int .u8 11, .int .u8 54, .int .u8 26, .int .u8 40, .int .u8 15, .int .u8 34, .int .u8 20, .int .u8 31, .int .u8 10, .int .u8 25, .int .u8 14, .int .u8 19, .int .u8 9, .int .u8 13, .int .u8 8, .int .u8 7, .int .u8 6]⟩ 0 (0, 1)
def vo2 : Obj := .cells ⟨[.int .i64 1, .string ⟨#[105, 110, 116, 51, 50]⟩, .int .i64 4, .bool true, .int .i64 0, .int .i64 0, .slice none 0 0, .int .i64 1, .string ⟨#[99, 104, 97, 114]⟩, .int .i64 1, .bool true, .int .i64 0, .int .i64 0, .slice none 0 0, .int .i64 3, .string ⟨#[]⟩, .int .i64 0, .bool false, .int .i64 1, .int .i64 4, .slice none 0 0, .int .i64 4, .string ⟨#[112, 114, 111, 99, 95, 116]⟩, .int .i64 0, .bool false, .int .i64 0, .int .i64 16, .slice (some ⟨77, 0, none⟩) 2 5]⟩ 56 (0, 0)
def vo3 : Obj := .cells ⟨[.int .u64 1, .int .u64 10, .int .u64 100, .int .u64 1000, .int .u64 10000, .int .u64 100000, .int .u64 1000000, .int .u64 10000000, .int .u64 100000000, .int .u64 1000000000, .int .u64 10000000000, .int .u64 100000000000, .int .u64 1000000000000, .int .u64 10000000000000, .int .u64 100000000000000, .int .u64 1000000000000000, .int .u64 10000000000000000, .int .u64 100000000000000000, .int .u64 1000000000000000000, .int .u64 10000000000000000000]⟩ 0 (0, 1)
def vo4 : Obj := .cells ⟨[.int .u8 0, .int .u8 1, .int .u8 28, .int .u8 2, .int .u8 29, .int .u8 14, .int .u8 24, .int .u8 3, .int .u8 30, .int .u8 22, .int .u8 20, .int .u8 15, .int .u8 25, .int .u8 17, .int .u8 4, .int .u8 8, .int .u8 31, .int .u8 27, .int .u8 13, .int .u8 23, .int .u8 21, .int .u8 19, .int .u8 16, .int .u8 7, .int .u8 26, .int .u8 12, .int .u8 18, .int .u8 6, .int .u8 11, .int .u8 5, .int .u8 10, .int .u8 9]⟩ 0 (0, 1)
def vo6 : Obj := .cells ⟨[.int .u8 0, .int .u8 0, .int .u8 0, .int .u8 0, .int .u8 0, .int .u8 0, .int .u8 0, .int .u8 0, .int .u8 105, .int .u8 110, .int .u8 105, .int .u8 116, .int .u8 0, .int .u8 0, .int .u8 0, .int .u8 0]⟩ 5 (0, 0)
def vo10 : Obj := .cells ⟨[.string ⟨#[112, 95, 112, 105, 100]⟩, .int .i64 0, .int .i64 4, .string ⟨#[112, 95, 110, 97, 109, 101]⟩, .int .i64 2, .int .i64 8]⟩ 129 (0, 0)
def vo12 : Obj := .cells ⟨[.int .i64 2097152, .slice (some ⟨497, 0, none⟩) 16 33]⟩ 58 (0, 0)
def vo15 : Obj := .cells ⟨[.slice (some ⟨776, 0, none⟩) 1 131076]⟩ 27 (0, 0)
def vo16 : Obj := .cells ⟨[.slice (some ⟨78, 0, none⟩) 4 9]⟩ 24 (0, 0)
def vt0 : Tt := .node none (.node (some (.pointer (some ⟨870, 0, none⟩))) (.node (some (.int .i64 1761607680)) .leaf .leaf) .leaf) (.node (some (.int .i64 0)) (.node (some (.int .i64 0)) .leaf .leaf) .leaf)
def vt1 : Tt := .node (some (.pointer (some ⟨79, 0, none⟩))) (.node (some (.bool true)) .leaf .leaf) .leaf
def vt2 : Tt := .node none (.node (some (.pointer (some ⟨79, 0, none⟩))) .leaf .leaf) (.node (some (.int .i64 0)) .leaf .leaf)
def vt3 : Tt := .node (some (.pointer (some ⟨870, 0, none⟩))) .leaf .leaf
def vt4 : Tt := .node (some (.int .i64 0)) .leaf .leaf
def vt5 : Tt := .node (some (.bool true)) .leaf .leaf
def vr0 : Tr := .node (some vo0) (.node none (.node none .leaf (.node none (.node none (.node none (.node none (.node none .leaf (.node (some vo12) .leaf .leaf)) .leaf) .leaf) .leaf) .leaf)) .leaf) (.node none .leaf (.node none (.node none (.node none .leaf (.node none .leaf (.node none (.node none .leaf (.node (some vo15) .leaf .leaf)) .leaf))) .leaf) (.node none (.node none (.node (some vo2) .leaf .leaf) .leaf) .leaf)))
def vr1 : Tr := .node (some vo4) (.node none (.node none (.node none .leaf (.node none (.node (some vo16) .leaf .leaf) .leaf)) .leaf) .leaf) (.node none (.node none (.node none .leaf (.node none .leaf (.node none .leaf (.node none .leaf (.node (some vo6) .leaf .leaf))))) .leaf) (.node none .leaf (.node none (.node none (.node (some vo10) .leaf .leaf) .leaf) .leaf)))
def vr2 : Tr := .node none (.node (some vo16) .leaf .leaf) .leaf
def vr3 : Tr := .node none (.node (some vo10) .leaf .leaf) .leaf
def vr4 : Tr := .node none (.node (some vo2) .leaf .leaf) .leaf
def gheap : Tr := (.node (some vo3) (.node (some vo4) .leaf .leaf) (.node (some vo0) .leaf .leaf))

theorem gheap_eq : gheap = ofList gcells := by kernel_rfl
theorem gcells_ok : laidOk Tryz.prog gcells = true := by kernel_rfl
theorem gsize : Tryz.prog.globals.size = 3 := by kernel_rfl
theorem vmix : Tryz.prog.follows .mixedOrders = true := by kernel_rfl
theorem vnames : NamesOk Tryz.prog := namesOk_of (by kernel_rfl)
abbrev vS0 : VS := ⟨.leaf, gheap, 3, [], []⟩
def vS1 : VS := ⟨.node none (.node none (.node (some (.pointer (some ⟨79, 0, none⟩))) .leaf .leaf) .leaf) (.node (some (.pointer (some ⟨75, 0, none⟩))) .leaf .leaf), .node (some vo3) (.node (some vo4) (.node none (.node none (.node none (.node none (.node (some (.cells ⟨[]⟩ 68 (0, 0))) .leaf .leaf) .leaf) vr2) .leaf) (.node none (.node none (.node (some (.cells ⟨[.int .i64 0, .int .i64 0, .int .i64 1]⟩ 188 (0, 0))) (.node (some (.cells ⟨[.int .i64 0, .int .i64 0, .int .i64 0, .int .i64 0, .int .i64 0, .int .i64 0, .int .i64 0, .int .i64 0, .int .i64 0, .int .i64 0, .int .i64 0, .int .i64 0, .int .i64 (-1)]⟩ 152 (0, 0))) .leaf .leaf) .leaf) .leaf) (.node none (.node none (.node (some (.cells ⟨[.slice (some ⟨65, 0, none⟩) 1 131084, .slice (some ⟨67, 0, none⟩) 1 131098, .slice (some ⟨69, 0, none⟩) 1 131076, .slice (some ⟨32, 0, none⟩) 1 131078, .slice (some ⟨35, 0, none⟩) 1 131078, .int .i64 1, .slice (some ⟨74, 0, none⟩) 1 131074, .slice (some ⟨70, 0, none⟩) 0 1, .slice none 0 0, .int .i64 0]⟩ 99 (0, 0))) .leaf .leaf) .leaf) .leaf))) (.node none (.node none (.node none (.node none (.node (some (.cells ⟨[.string ⟨#[105, 110, 105, 116]⟩, .slice (some ⟨61, 0, none⟩) 1 131074, .slice (some ⟨62, 0, none⟩) 64 8388610, .slice (some ⟨63, 0, none⟩) 0 1, .bool false, .int .i64 0]⟩ 147 (0, 0))) .leaf .leaf) .leaf) .leaf) .leaf) (.node none (.node none (.node none (.node (some (.cells ⟨[.int .i64 0, .int .i64 1]⟩ 145 (0, 0))) .leaf .leaf) .leaf) .leaf) (.node none vr3 (.node (some (.cells ⟨[.int .i64 4]⟩ 3 (0, 0))) .leaf .leaf))))) (.node (some vo0) (.node none (.node none (.node none (.node (some (.cells ⟨[.int .i64 (-1), .int .i64 0, .slice (some ⟨38, 0, none⟩) 1 131074]⟩ 185 (0, 0))) .leaf .leaf) .leaf) (.node none (.node none (.node (some (.cells ⟨[.int .u8 0, .int .u8 0, .int .u8 0, .int .u8 0, .int .u8 0, .int .u8 0, .int .u8 0, .int .u8 0, .int .u8 0, .int .u8 0, .int .u8 0, .int .u8 0, .int .u8 0, .int .u8 0, .int .u8 0, .int .u8 0]⟩ 5 (0, 0))) .leaf .leaf) .leaf) .leaf)) .leaf) (.node none (.node none .leaf (.node none (.node none (.node (some (.cells ⟨[.slice (some ⟨72, 0, none⟩) 16 2097154]⟩ 42 (0, 0))) .leaf .leaf) .leaf) .leaf)) (.node none (.node none (.node (some (.cells ⟨[.int .i64 0]⟩ 3 (0, 0))) (.node (some (.cells ⟨[]⟩ 207 (0, 0))) .leaf .leaf) .leaf) .leaf) (.node none vr4 (.node (some (.cells ⟨[.int .u8 0, .int .u8 0, .int .u8 0, .int .u8 0, .int .u8 0, .int .u8 0, .int .u8 0, .int .u8 0, .int .u8 0, .int .u8 0, .int .u8 0, .int .u8 0, .int .u8 0, .int .u8 0, .int .u8 0, .int .u8 0, .int .u8 0, .int .u8 0, .int .u8 0, .int .u8 0, .int .u8 0, .int .u8 0, .int .u8 0, .int .u8 0, .int .u8 0, .int .u8 0, .int .u8 0, .int .u8 0, .int .u8 0, .int .u8 0, .int .u8 0, .int .u8 0, .int .u8 0, .int .u8 0, .int .u8 0, .int .u8 0, .int .u8 0, .int .u8 0, .int .u8 0, .int .u8 0, .int .u8 0, .int .u8 0, .int .u8 0, .int .u8 0, .int .u8 0, .int .u8 0, .int .u8 0, .int .u8 0, .int .u8 0, .int .u8 0, .int .u8 0, .int .u8 0, .int .u8 0, .int .u8 0, .int .u8 0, .int .u8 0, .int .u8 0, .int .u8 0, .int .u8 0, .int .u8 0, .int .u8 0, .int .u8 0, .int .u8 0, .int .u8 0]⟩ 5 (0, 0))) .leaf .leaf))))), 80, [], []⟩
def vS2 : VS := ⟨.node none vt2 (.node none vt3 .leaf), .node (some vo3) vr1 vr0, 871, [], []⟩
def vS3 : VS := ⟨.node none (.node none vt1 vt4) (.node none vt3 vt4), .node (some vo3) vr1 vr0, 1248, [], []⟩
def vS4 : VS := ⟨.node none (.node none vt1 (.node (some (.int .i64 0)) vt5 .leaf)) vt0, .node (some vo3) vr1 vr0, 1625, [], []⟩
def vS5 : VS := ⟨.node none (.node none vt1 (.node (some (.int .i64 0)) vt5 (.node (some (.int .i64 5)) .leaf .leaf))) vt0, .node (some vo3) vr1 vr0, 1988, [], []⟩
def vS6 : VS := ⟨.node none vt2 .leaf, .node (some vo3) (.node (some vo4) (.node none (.node none (.node none .leaf vr2) .leaf) .leaf) (.node none .leaf (.node none .leaf (.node none vr3 .leaf)))) (.node (some vo0) .leaf (.node none .leaf (.node none .leaf (.node none vr4 .leaf)))), 2010, [], []⟩
theorem vpart1 : prune 3 gheap [2, 3] [32, 35, 38, 61, 62, 63, 65, 67, 69, 70, 72, 74, 75, 77, 78, 79] (vl Tryz.prog 100 161 3 ((codesOf Tryz.prog 10).take 4) vS0) = some vS1 := by kernel_rfl
theorem vpart2 : prune 3 gheap [3, 4, 5] [77, 78, 79, 497, 776, 870] (vl Tryz.prog 100 161 3 (((codesOf Tryz.prog 10).drop 4).take 1) vS1) = some vS2 := by kernel_rfl
theorem vpart3 : prune 3 gheap [3, 4, 5, 6, 7] [77, 78, 79, 497, 776, 870] (vl Tryz.prog 100 161 3 ((((codesOf Tryz.prog 10).drop 4).drop 1).take 3) vS2) = some vS3 := by kernel_rfl
theorem vpart4 : prune 3 gheap [3, 4, 5, 6, 7, 8, 9, 10] [77, 78, 79, 497, 776, 870] (vl Tryz.prog 100 161 3 (((((codesOf Tryz.prog 10).drop 4).drop 1).drop 3).take 1) vS3) = some vS4 := by kernel_rfl
theorem vpart5 : prune 3 gheap [3, 4, 5, 6, 7, 8, 9, 10, 13] [77, 78, 79, 497, 776, 870] (vl Tryz.prog 100 161 3 ((((((codesOf Tryz.prog 10).drop 4).drop 1).drop 3).drop 1).take 1) vS4) = some vS5 := by kernel_rfl
theorem vpart6 : prune 3 gheap [3, 5] [77, 78, 79] (vl Tryz.prog 100 161 3 (((((((codesOf Tryz.prog 10).drop 4).drop 1).drop 3).drop 1).drop 1).take 3) vS5) = some vS6 := by kernel_rfl
theorem vlast : ends true (endOf Tryz.prog 100 3 10 (vl Tryz.prog 100 161 3 (((((((codesOf Tryz.prog 10).drop 4).drop 1).drop 3).drop 1).drop 1).drop 3) vS6)) = true := by kernel_rfl
theorem vall (hmix : Tryz.prog.follows .mixedOrders = true) (hnm : NamesOk Tryz.prog) (R0 : Ren) (w0 : World) (hh : HR Tryz.prog R0 gheap.get w0) : ∃ e s, LOk Tryz.prog R0 3 gheap w0 161 (codesOf Tryz.prog 10) vS0 e s ∧ ends true (endOf Tryz.prog 100 3 10 (some (e, s))) = true :=
  part_then hmix hnm hh vpart1 (part_then hmix hnm hh vpart2 (part_then hmix hnm hh vpart3 (part_then hmix hnm hh vpart4 (part_then hmix hnm hh vpart5 (part_then hmix hnm hh vpart6 (last_ok hmix hnm vlast hh))))))

theorem sane_run {w : World} (h : Laid gcells w) : Calls Tryz.prog 10 #[] w fun e w' => e = .returned (.bool true) ∧ w'.os = w.os ∧ w'.tape = w.tape ∧ w'.output = w.output ∧ w.heap.size ≤ w'.heap.size ∧ ∀ k, k < w.heap.size → w'.heap[k]? = w.heap[k]? := by
  obtain ⟨h1, h2⟩ := laid_hr gheap_eq gcells_ok h
  exact closedL gsize vmix vnames (by kernel_rfl) (by kernel_rfl) (fun R0 w0 hh => vall vmix vnames R0 w0 hh) w h1 h2
end
end Go.Proofs.YtecpbadkdpbkpaaGreatDoor
/- taplinelaw09.sane in the form of the walks here; the variables of the package. -/
namespace Go.Proofs.YtecpbadkdpbkpaaGreatDoor
open Go.RowKit Go.M
/-- the package's variables hold what the rows list -/
def Tab (w : World) : Prop := Go.V.Laid gcells w
theorem Tab.b {w w' : World} (h : Tab w) (hE : ExtB [] w w') : Tab w' := Go.V.Laid.later h fun k hk => hE.block k hk (by simp)
theorem Tab.e {w w' : World} (h : Tab w) (hE : Ext w w') : Tab w' := h.b (hE.toB [])
theorem Tab.s {h0 h : View} {w0 w : World} {bs : List Res} (ht : Tab w0) (HS : St [] h0 w0 h bs w) : Tab w := ht.b HS.ext
def taplinelaw09_sane.f : Option Bool := some true
theorem taplinelaw09_sane.calls {h0 : View} {w0 : World} (hv : Sees h0 w0) (ht : Tab w0) {r : Bool} (H : taplinelaw09_sane.f = some r) : Calls Tryz.prog 10 #[] w0 (fun e w1 => e = .returned (Value.bool r) ∧ Ext w0 w1) := by
  obtain rfl := Option.some.inj H
  refine (sane_run ht).mono ?_
  rintro e w1 ⟨rfl, h1, h2, h3, h4, h5⟩
  exact ⟨rfl, h1, h2, h3, h4, h5⟩
end Go.Proofs.YtecpbadkdpbkpaaGreatDoor
/- The laws' arguments as they lie in memory; what the rows list; a witness's world. -/
namespace Go.Proofs.YtecpbadkdpbkpaaGreatDoor
open Go.ChangeShapes Go.WideShapes Go.ChangeAt Go.RowKit Go.M
set_option maxRecDepth 100000
theorem own : ownKnob Tryz.prog.godebug = none := by kernel_rfl
theorem laidOut : laidOutB Tryz.prog = true := by kernel_rfl
/-- what the rows list -/
abbrev laidL : List (String × DataW Unit) := [("math/bits.deBruijn32tab", Rows.laid_math_bits_deBruijn32tab), ("math/bits.deBruijn64tab", Rows.laid_math_bits_deBruijn64tab), ("internal/strconv.uint64pow10", Rows.laid_internal_strconv_uint64pow10)]
section
open Go.V
theorem und0 : undG Tryz.prog 0 Rows.laid_internal_strconv_uint64pow10 = some [.int .u64 1, .int .u64 10, .int .u64 100, .int .u64 1000, .int .u64 10000, .int .u64 100000, .int .u64 1000000, .int .u64 10000000, .int .u64 100000000, .int .u64 1000000000, .int .u64 10000000000, .int .u64 100000000000, .int .u64 1000000000000, .int .u64 10000000000000, .int .u64 100000000000000, .int .u64 1000000000000000, .int .u64 10000000000000000, .int .u64 100000000000000000, .int .u64 1000000000000000000, .int .u64 10000000000000000000] := by kernel_rfl
theorem und1 : undG Tryz.prog 1 Rows.laid_math_bits_deBruijn32tab = some [.int .u8 0, .int .u8 1, .int .u8 28, .int .u8 2, .int .u8 29, .int .u8 14, .int .u8 24, .int .u8 3, .int .u8 30, .int .u8 22, .int .u8 20, .int .u8 15, .int .u8 25, .int .u8 17, .int .u8 4, .int .u8 8, .int .u8 31, .int .u8 27, .int .u8 13, .int .u8 23, .int .u8 21, .int .u8 19, .int .u8 16, .int .u8 7, .int .u8 26, .int .u8 12, .int .u8 18, .int .u8 6, .int .u8 11, .int .u8 5, .int .u8 10, .int .u8 9] := by kernel_rfl
theorem und2 : undG Tryz.prog 2 Rows.laid_math_bits_deBruijn64tab = some [.int .u8 0, .int .u8 1, .int .u8 56, .int .u8 2, .int .u8 57, .int .u8 49, .int .u8 28, .int .u8 3, .int .u8 61, .int .u8 58, .int .u8 42, .int .u8 50, .int .u8 38, .int .u8 29, .int .u8 17, .int .u8 4, .int .u8 62, .int .u8 47, .int .u8 59, .int .u8 36, .int .u8 45, .int .u8 43, .int .u8 51, .int .u8 22, .int .u8 53, .int .u8 39, .int .u8 33, .int .u8 30, .int .u8 24, .int .u8 18, .int .u8 12, .int .u8 5, .int .u8 63, .int .u8 55, .int .u8 48, .int .u8 27, .int .u8 60, .int .u8 41, .int .u8 37, .int .u8 16, .int .u8 46, .int .u8 35, .int .u8 44, .int .u8 21, .int .u8 52, .int .u8 32, .int .u8 23, .int .u8 11, .int .u8 54, .int .u8 26, .int .u8 40, .int .u8 15, .int .u8 34, .int .u8 20, .int .u8 31, .int .u8 10, .int .u8 25, .int .u8 14, .int .u8 19, .int .u8 9, .int .u8 13, .int .u8 8, .int .u8 7, .int .u8 6] := by kernel_rfl
theorem tab_of {W : World} (h : laidMetH Tryz.prog laidL W) : Tab W := by
  obtain ⟨ps, hL, _⟩ : laidMet Tryz.prog laidL W := h
  intro p hp
  unfold gcells at hp
  simp only [List.mem_cons, List.not_mem_nil, or_false] at hp
  rcases hp with rfl | rfl | rfl
  · exact laid_atG hL (n := "internal/strconv.uint64pow10") (D := Rows.laid_internal_strconv_uint64pow10) (by unfold laidL; simp) (by kernel_rfl) und0
  · exact laid_atG hL (n := "math/bits.deBruijn32tab") (D := Rows.laid_math_bits_deBruijn32tab) (by unfold laidL; simp) (by kernel_rfl) und1
  · exact laid_atG hL (n := "math/bits.deBruijn64tab") (D := Rows.laid_math_bits_deBruijn64tab) (by unfold laidL; simp) (by kernel_rfl) und2
end
/-- a witness's world -/
def layV (vs : List Value) : Obj → Obj
  | .cells _ t frozen => .cells ⟨vs⟩ t frozen
  | o => o
noncomputable def heap0 (os : Os) : Array Obj := (World.holding Tryz.prog os ⟨#[], #[], []⟩).heap
noncomputable def heap1 (os : Os) : Array Obj := gcells.foldl (fun h p => h.modify p.1 (layV p.2)) (heap0 os)
noncomputable def laidWorld (os : Os) : World := { World.holding Tryz.prog os ⟨#[], #[], []⟩ with heap := (heap1 os) }
theorem laid_met (os : Os) (args : Array Value) : laidMet Tryz.prog laidL ((laidWorld os).forCall (fun _ _ => 0) ⟨#[], args, []⟩).memory :=
  laidMet_of_run' 20 (by kernel_rfl) (by kernel_rfl)
section
variable {H : Type} {enc : TypeId × Value → H} {W : World}
theorem max63 {n : Nat} (h : n ≤ maxLen) : n ≤ 9223372036854775807 := by unfold maxLen at h; omega
theorem op2 : Opn enc Tryz.prog W 2 (Kd.int .i64) (fun n => (Lit.int .i64 n).wf = true) := op_int Tryz.underlying2 (by kernel_rfl)
theorem op3 : Opn enc Tryz.prog W 3 (Kd.int .i64) (fun n => (Lit.int .i64 n).wf = true) := op_int Tryz.underlying3 (by kernel_rfl)
theorem op4 : Opn enc Tryz.prog W 4 Kd.bool (fun _ => True) := op_bool Tryz.underlying4 (by kernel_rfl)
theorem op9 : Opn enc Tryz.prog W 9 Kd.str (fun s => s.size ≤ maxLen) := op_str Tryz.underlying9 (by kernel_rfl)
theorem wf64 {n : Int} (h : (Lit.int .i64 n).wf = true) : -9223372036854775808 ≤ n ∧ n ≤ 9223372036854775807 := by
  simp [Lit.wf, IntKind.min, IntKind.max, IntKind.bits, IntKind.signed] at h
  omega
/-- behind a law: its result is true, and the arguments read as they did -/
theorem law_post {fn : Func} {s : ChangeSpec} {args : Array Value} {ds gs : List (DataW H)} {before : List MemPlace} {W' : World} (hT : ∀ t ∈ fn.params.toList, Tryz.prog.readableRec t = true ∧ t < Tryz.prog.types.size) (hr : fn.resultTypes = #[4]) (hvs : s.vars = [])
    (hfn : s.fn H (ds ++ gs) = { results := [.lit (.bool true)], args := ds }) (hW : DataW.Whole enc Tryz.prog fn.params.toList s.vars false W args.toList ds gs before) (hE : Ext W W') : s.post enc Tryz.prog fn false true false false W args (.bool true) W' := by
  have hW' := hW
  obtain ⟨p, q, hA, hV, e, hfz, hnd⟩ := hW
  rw [hvs] at hV
  obtain ⟨rfl, rfl⟩ := trodVars_none hV
  have hlt : ∀ x ∈ p, x.block < W.heap.size := fun x hx => hW'.lt x (by rw [e]; exact List.mem_append_left _ hx)
  refine ⟨ds, [], before, [], p, [], hW', ?_, ?_, ?_, Below.frame hE _, fun h => by cases h⟩
  · rw [hfn, hr]
    exact trodAll_cons_mk (shut_bool Tryz.underlying4 _) trodAll_mk0
  · rw [hfn]
    exact all_stays laidOut hE hT hA hlt (fun x hx => by simpa using hlt x hx)
  · rw [hfn, hvs]
    rfl
end
end Go.Proofs.YtecpbadkdpbkpaaGreatDoor
/- Plain laws: what holds from some number of rounds on; wrapped numbers; lists that are read by an index. -/
namespace Go.Proofs.YtecpbadkdpbkpaaGreatDoor
open Go.RowKit Go.M
/-- from some number of rounds on, this is what comes -/
def Ev {α : Type} (f : Nat → Option α) (v : α) : Prop := ∃ K, ∀ k, K ≤ k → f k = some v
def Ev2 {α : Type} (f : Nat → Nat → Option α) (v : α) : Prop := ∃ K, ∀ k m, K ≤ k → K ≤ m → f k m = some v
section
variable {α β γ : Type}
theorem Ev.pure {f : Nat → Option α} {v : α} (h : ∀ k, f k = some v) : Ev f v := ⟨0, fun k _ => h k⟩
theorem Ev.bind {f : Nat → Option α} {g : Nat → α → Option β} {a : α} {b : β} (hf : Ev f a) (hg : Ev (fun k => g k a) b) : Ev (fun k => (f k).bind (g k)) b := by
  obtain ⟨K, hK⟩ := hf
  obtain ⟨L, hL⟩ := hg
  exact ⟨max K L, fun k hk => by
    show (f k).bind (g k) = some b
    rw [hK k (by omega)]
    exact hL k (by omega)⟩
theorem Ev.congr {f g : Nat → Option α} {v : α} (hf : Ev f v) (h : ∀ k, g k = f k) : Ev g v := by
  obtain ⟨K, hK⟩ := hf
  exact ⟨K, fun k hk => (h k).trans (hK k hk)⟩
theorem Ev.succ {f : Nat → Option α} {v : α} (hf : Ev (fun k => f (k + 1)) v) : Ev f v := by
  obtain ⟨K, hK⟩ := hf
  refine ⟨K + 1, fun k hk => ?_⟩
  obtain ⟨m, rfl⟩ : ∃ m, k = m + 1 := ⟨k - 1, by omega⟩
  exact hK m (by omega)
theorem Ev.uniq {f : Nat → Option α} {v u : α} (hf : Ev f v) (hg : Ev f u) : v = u := by
  obtain ⟨K, hK⟩ := hf
  obtain ⟨L, hL⟩ := hg
  have h1 := hK (max K L) (by omega)
  have h2 := hL (max K L) (by omega)
  rw [h1] at h2
  exact Option.some.inj h2
theorem Ev2.pure {f : Nat → Nat → Option α} {v : α} (h : ∀ k m, f k (m + 1) = some v) : Ev2 f v := ⟨1, fun k m _ hm => by
  obtain ⟨q, rfl⟩ : ∃ q, m = q + 1 := ⟨m - 1, by omega⟩
  exact h k q⟩
/-- a round: what its body comes to, then the rest -/
theorem Ev2.step {f : Nat → Nat → Option α} {g : Nat → Option β} {b : β} {r : Nat → Nat → β → Option α} {v : α} (hg : Ev g b) (hr : Ev2 (fun k m => r k m b) v) (h : ∀ k m, f k (m + 1) = (g k).bind (r k m)) : Ev2 f v := by
  obtain ⟨K, hK⟩ := hg
  obtain ⟨L, hL⟩ := hr
  refine ⟨max K L + 1, fun k m hk hm => ?_⟩
  obtain ⟨q, rfl⟩ : ∃ q, m = q + 1 := ⟨m - 1, by omega⟩
  rw [h, hK k (by omega)]
  exact hL k q (by omega) (by omega)
theorem Ev2.next {f r : Nat → Nat → Option α} {v : α} (hr : Ev2 r v) (h : ∀ k m, f k (m + 1) = r k m) : Ev2 f v := by
  obtain ⟨L, hL⟩ := hr
  refine ⟨L + 1, fun k m hk hm => ?_⟩
  obtain ⟨q, rfl⟩ : ∃ q, m = q + 1 := ⟨m - 1, by omega⟩
  rw [h]
  exact hL k q (by omega) (by omega)
theorem Ev.all {f : γ → Nat → Option α} {q : γ → α} : ∀ (l : List γ), (∀ z ∈ l, Ev (f z) (q z)) → ∃ K, ∀ k, K ≤ k → ∀ z ∈ l, f z k = some (q z)
  | [], _ => ⟨0, fun k _ z hz => by cases hz⟩
  | x :: l, h => by
    obtain ⟨K, hK⟩ := h x List.mem_cons_self
    obtain ⟨L, hL⟩ := Ev.all l (fun z hz => h z (List.mem_cons_of_mem _ hz))
    refine ⟨max K L, fun k hk z hz => ?_⟩
    rcases List.mem_cons.1 hz with rfl | hz
    · exact hK k (by omega)
    · exact hL k (by omega) z hz
end
theorem wrap_id {x : Int} (h0 : -9223372036854775808 ≤ x) (h1 : x ≤ 9223372036854775807) : IntKind.wrap .i64 x = x := by
  simp [IntKind.wrap, IntKind.bits, IntKind.signed]
  omega
theorem wrap_nat {j n : Nat} (hj : j < n) (hn : n ≤ 9223372036854775807) : IntKind.wrap .i64 ((j : Int) + 1) = ((j + 1 : Nat) : Int) := by
  rw [wrap_id (by omega) (by omega)]; rfl
section
variable {α : Type} {z : α} {xs : List α}
theorem rd_nat (j : Nat) : rd z xs (j : Int) = xs.getD j z := by simp [rd]
theorem getD_mem {j : Nat} (h1 : j < xs.length) : xs.getD j z ∈ xs := by
  rw [List.getD_eq_getElem?_getD, List.getElem?_eq_getElem h1]
  exact List.getElem_mem h1
end
end Go.Proofs.YtecpbadkdpbkpaaGreatDoor
namespace Go.Proofs.YtecpbadkdpbkpaaGreatDoor
open Go.RowKit Go.M
def slices_BinarySearchFunc_api_Segment_api_Segment_int64.l0 (a0 : List api_Segment) (a1 : Int) (a2 : (api_Segment → Int → Option Int)) : Nat → Int → Int → Option (Int)
  | 0, _, _ => none
  | m + 1, y1_0, y1_1 => if (decide (y1_0 < y1_1)) = true then (if 0 ≤ (IntKind.wrap .i64 (iShr .u64 (IntKind.wrap .u64 (IntKind.wrap .i64 (y1_0 + y1_1))) 1)) ∧ (IntKind.wrap .i64 (iShr .u64 (IntKind.wrap .u64 (IntKind.wrap .i64 (y1_0 + y1_1))) 1)) < a0.length then ((a2 (rd z_api_Segment a0 (IntKind.wrap .i64 (iShr .u64 (IntKind.wrap .u64 (IntKind.wrap .i64 (y1_0 + y1_1))) 1))) a1).bind fun v1 => (if (decide (v1 < 0)) = true then (slices_BinarySearchFunc_api_Segment_api_Segment_int64.l0 a0 a1 a2 m (IntKind.wrap .i64 ((IntKind.wrap .i64 (iShr .u64 (IntKind.wrap .u64 (IntKind.wrap .i64 (y1_0 + y1_1))) 1)) + 1)) y1_1) else (slices_BinarySearchFunc_api_Segment_api_Segment_int64.l0 a0 a1 a2 m y1_0 (IntKind.wrap .i64 (iShr .u64 (IntKind.wrap .u64 (IntKind.wrap .i64 (y1_0 + y1_1))) 1))))) else none) else (some y1_0)
def slices_BinarySearchFunc_api_Segment_api_Segment_int64.f (k : Nat) (a0 : List api_Segment) (a1 : Int) (a2 : api_Segment → Int → Option Int) : Option (Int × Bool) := (slices_BinarySearchFunc_api_Segment_api_Segment_int64.l0 a0 a1 a2 k 0 (a0.length : Int)).bind fun xx1 => (if (true && ((decide (xx1 < (a0.length : Int))) == true)) = true → (0 ≤ xx1 ∧ xx1 < a0.length) then ((if (true && ((decide (xx1 < (a0.length : Int))) == true)) = true then a2 (rd z_api_Segment a0 xx1) a1 else some 0).bind fun v2 => (some (xx1, ((decide (xx1 < (a0.length : Int))) && (v2 == 0))))) else none)
set_option maxRecDepth 20000 in
set_option maxHeartbeats 4000000 in
theorem slices_BinarySearchFunc_api_Segment_api_Segment_int64.calls (k : Nat) (a0 : List api_Segment) (a1 : Int) (a2 : api_Segment → Int → Option Int) (A0_0 : Option Addr) (c0_0 : Nat) (fid2 : Nat) (cap2 : List Value) {h0 : View} {w0 : World} (hv : Sees h0 w0) (hr0_0 : Rd k_api_Segment h0 A0_0 a0) (hc0_0 : a0.length ≤ c0_0) (hent2 : ∀ args w, (callFunc fid2 args).run Tryz.prog w = .ok (.enter fid2 args) w) (hfp2 : ∀ (z0 : api_Segment) (Az0_1 : Option Addr) (cz0_1 : Nat) (z1 : Int) (h : View) (w : World), Ext w0 w → Sub h0 h → Sees h w → Rd (Kd.int .u8) h Az0_1 z0.vBytes → z0.vBytes.length ≤ cz0_1 → ∀ (r : Int), a2 z0 z1 = some r → Calls Tryz.prog fid2 ([Value.agg #[Value.int .i64 z0.vAt, Value.slice Az0_1 z0.vBytes.length cz0_1], Value.int .i64 z1] ++ cap2).toArray w (fun e w1 => e = .returned (Value.int .i64 r) ∧ Ext w w1)) {r : Int × Bool} (H : slices_BinarySearchFunc_api_Segment_api_Segment_int64.f k a0 a1 a2 = some r) : Calls Tryz.prog 143 #[Value.slice A0_0 a0.length c0_0, Value.int .i64 a1, Value.func (.func fid2) #[] cap2.toArray] w0 (fun e w1 => e = .returned (Value.tuple #[Value.int .i64 r.1, Value.bool r.2]) ∧ Ext w0 w1) := by
  unfold slices_BinarySearchFunc_api_Segment_api_Segment_int64.f at H
  have HS : St [] h0 w0 h0 [] w0 := St.init hv
  go_enter Tryz.func143, Tryz.ntmps143
  refine wp_seq ?_
  refine region ?_
  refine run_same (v := Value.int .i64 0) rfl rfl (r_assign rfl) ?_
  refine run_same (v := Value.bool false) rfl rfl (r_assign rfl) ?_
  try simp only [List.set_cons_zero, List.set_cons_succ]
  refine run_nil ?_
  refine norm_then ?_
  refine wp_seq ?_
  refine region ?_
  refine run_same (v := Value.slice A0_0 a0.length c0_0) rfl rfl (r_move rfl) ?_
  refine run_same (v := Value.int .i64 (a0.length : Int)) rfl rfl (r_len rfl Tryz.runUnderlying25) ?_
  refine run_same (v := Value.int .i64 (a0.length : Int)) rfl rfl (r_assign rfl) ?_
  try simp only [List.set_cons_zero, List.set_cons_succ]
  refine run_nil ?_
  refine norm_then ?_
  refine wp_seq ?_
  refine region ?_
  refine run_same (v := Value.int .i64 (a0.length : Int)) rfl rfl (r_move rfl) ?_
  refine run_same (v := Value.int .i64 0) rfl rfl (r_assign rfl) ?_
  refine run_same (v := Value.int .i64 (a0.length : Int)) rfl rfl (r_assign rfl) ?_
  try simp only [List.set_cons_zero, List.set_cons_succ]
  refine run_nil ?_
  refine norm_then ?_
  refine wp_seq ?_
  obtain ⟨xx1, H, G1⟩ := of_bind H
  refine loop_j [9, 10, 11, 15, 16, 17, 18, 19, 20, 21, 22, 23, 24, 25, 26, 27, 28, 29, 30, 31, 32, 33, 34] (fun m us w' => ∃ (y1_0 : Int), ∃ (y1_1 : Int), Fit us (fun uy1 => [Value.int .i64 y1_0, Value.int .i64 y1_1, (uy1 2), (uy1 3), (uy1 4), (uy1 5), (uy1 6), (uy1 7), (uy1 8), (uy1 9), (uy1 10), (uy1 11), (uy1 12), (uy1 13), (uy1 14), (uy1 15), (uy1 16), (uy1 17), (uy1 18), (uy1 19), (uy1 20), (uy1 21), (uy1 22)]) ∧ slices_BinarySearchFunc_api_Segment_api_Segment_int64.l0 a0 a1 a2 m y1_0 y1_1 = some xx1 ∧ St [] h0 w0 h0 [] w') (fun us w' => Fit us (fun uo1 => [Value.int .i64 xx1, (uo1 1), (uo1 2), (uo1 3), (uo1 4), (uo1 5), (uo1 6), (uo1 7), (uo1 8), (uo1 9), (uo1 10), (uo1 11), (uo1 12), (uo1 13), (uo1 14), (uo1 15), (uo1 16), (uo1 17), (uo1 18), (uo1 19), (uo1 20), (uo1 21), (uo1 22)]) ∧ St [] h0 w0 h0 [] w') k ⟨0, (a0.length : Int), (fit rfl), H, HS⟩ ?_ ?_
  · rintro m us w1 ⟨y1_0, y1_1, huy1, H, HS1⟩
    obtain ⟨uy1, rfl⟩ := unj huy1
    cases m with
    | zero => exact absurd H (by simp [slices_BinarySearchFunc_api_Segment_api_Segment_int64.l0])
    | succ m =>
      rw [slices_BinarySearchFunc_api_Segment_api_Segment_int64.l0] at H
      try simp only [patch, List.set_cons_zero, List.set_cons_succ]
      refine wp_seq ?_
      refine wp_seq ?_
      refine region ?_
      refine run_same (v := Value.int .i64 y1_0) rfl rfl (r_move rfl) ?_
      refine run_same (v := Value.int .i64 y1_1) rfl rfl (r_move rfl) ?_
      refine run_same (v := Value.bool (decide (y1_0 < y1_1))) rfl rfl (r_bin rfl rfl rfl) ?_
      try simp only [List.set_cons_zero, List.set_cons_succ]
      refine run_nil ?_
      refine norm_then ?_
      refine wp_cond_split (t := (decide (y1_0 < y1_1))) rfl (fun c1 => ?_) (fun c1 => ?_)
      · replace H := of_pos H c1
        refine wp_skip ?_
        refine norm_then ?_
        refine wp_block ?_
        refine wp_seq ?_
        refine region ?_
        refine run_same (v := Value.int .i64 y1_0) rfl rfl (r_move rfl) ?_
        refine run_same (v := Value.int .i64 y1_1) rfl rfl (r_move rfl) ?_
        refine run_same (v := Value.int .i64 (IntKind.wrap .i64 (y1_0 + y1_1))) rfl rfl (r_bin rfl rfl rfl) ?_
        refine run_same (v := Value.int .u64 (IntKind.wrap .u64 (IntKind.wrap .i64 (y1_0 + y1_1)))) rfl rfl (r_conv rfl Tryz.runUnderlying3 Tryz.runUnderlying220) ?_
        refine run_frame (by simp only [List.set_cons_zero, List.set_cons_succ]; rfl) ?_
        refine run_same (v := Value.int .u64 (iShr .u64 (IntKind.wrap .u64 (IntKind.wrap .i64 (y1_0 + y1_1))) 1)) rfl rfl (r_shr rfl rfl (by decide)) ?_
        refine run_same (v := Value.int .i64 (IntKind.wrap .i64 (iShr .u64 (IntKind.wrap .u64 (IntKind.wrap .i64 (y1_0 + y1_1))) 1))) rfl rfl (r_conv rfl Tryz.runUnderlying220 Tryz.runUnderlying3) ?_
        refine run_same (v := Value.int .i64 (IntKind.wrap .i64 (iShr .u64 (IntKind.wrap .u64 (IntKind.wrap .i64 (y1_0 + y1_1))) 1))) rfl rfl (r_assign rfl) ?_
        try simp only [List.set_cons_zero, List.set_cons_succ]
        refine run_nil ?_
        refine norm_then ?_
        refine wp_seq ?_
        refine region ?_
        refine run_same (v := Value.func (.func fid2) #[] cap2.toArray) rfl rfl (r_move rfl) ?_
        refine run_same (v := Value.slice A0_0 a0.length c0_0) rfl rfl (r_move rfl) ?_
        refine run_same (v := Value.int .i64 (IntKind.wrap .i64 (iShr .u64 (IntKind.wrap .u64 (IntKind.wrap .i64 (y1_0 + y1_1))) 1))) rfl rfl (r_move rfl) ?_
        obtain ⟨hi1, H⟩ := of_ite H
        obtain ⟨ad1, Aad1_1, cad1_1, e1, hel1, hcad1_1, hrad1_1⟩ := ld_api_Segment hr0_0 hi1.1 hi1.2
        refine run_same (v := Value.pointer (some (Addr.add ad1 ((IntKind.wrap .i64 (iShr .u64 (IntKind.wrap .u64 (IntKind.wrap .i64 (y1_0 + y1_1))) 1)).toNat * 2)))) rfl rfl (r_indexA (sz := 2) rfl e1 rfl hi1.1 hi1.2 Tryz.runUnderlying25 Tryz.sizeOf58) ?_
        refine run_frame (by simp only [List.set_cons_zero, List.set_cons_succ]; rfl) ?_
        refine run_same (v := Value.agg #[Value.int .i64 ((rd z_api_Segment a0 (IntKind.wrap .i64 (iShr .u64 (IntKind.wrap .u64 (IntKind.wrap .i64 (y1_0 + y1_1))) 1))).vAt), Value.slice Aad1_1 ((rd z_api_Segment a0 (IntKind.wrap .i64 (iShr .u64 (IntKind.wrap .u64 (IntKind.wrap .i64 (y1_0 + y1_1))) 1))).vBytes).length cad1_1]) rfl rfl (r_loadAgg rfl Tryz.isAgg58 (hel1.sees HS1.sees) Tryz.sizeOf58) ?_
        refine run_same (v := Value.int .i64 a1) rfl rfl (r_move rfl) ?_
        obtain ⟨v1, H1, H⟩ := of_bind H
        refine run_eq (v := Value.int .i64 v1) rfl rfl (does_callv (vs := [Value.agg #[Value.int .i64 ((rd z_api_Segment a0 (IntKind.wrap .i64 (iShr .u64 (IntKind.wrap .u64 (IntKind.wrap .i64 (y1_0 + y1_1))) 1))).vAt), Value.slice Aad1_1 ((rd z_api_Segment a0 (IntKind.wrap .i64 (iShr .u64 (IntKind.wrap .u64 (IntKind.wrap .i64 (y1_0 + y1_1))) 1))).vBytes).length cad1_1], Value.int .i64 a1]) (caps := cap2) hent2 rfl rfl (hfp2 (rd z_api_Segment a0 (IntKind.wrap .i64 (iShr .u64 (IntKind.wrap .u64 (IntKind.wrap .i64 (y1_0 + y1_1))) 1))) Aad1_1 cad1_1 a1 _ _ HS1.toE HS1.sub HS1.sees hrad1_1 hcad1_1 _ H1)) ?_
        intro w2 hE1
        have HS2 := HS1.step hE1
        refine run_same (v := Value.bool (decide (v1 < 0))) rfl rfl (r_bin rfl rfl rfl) ?_
        try simp only [List.set_cons_zero, List.set_cons_succ]
        refine run_nil ?_
        refine norm_then ?_
        refine wp_cond_split (t := (decide (v1 < 0))) rfl (fun c2 => ?_) (fun c2 => ?_)
        · replace H := of_pos H c2
          refine region ?_
          refine run_same (v := Value.int .i64 (IntKind.wrap .i64 (iShr .u64 (IntKind.wrap .u64 (IntKind.wrap .i64 (y1_0 + y1_1))) 1))) rfl rfl (r_move rfl) ?_
          refine run_same (v := Value.int .i64 (IntKind.wrap .i64 ((IntKind.wrap .i64 (iShr .u64 (IntKind.wrap .u64 (IntKind.wrap .i64 (y1_0 + y1_1))) 1)) + 1))) rfl rfl (r_bin rfl rfl rfl) ?_
          refine run_same (v := Value.int .i64 (IntKind.wrap .i64 ((IntKind.wrap .i64 (iShr .u64 (IntKind.wrap .u64 (IntKind.wrap .i64 (y1_0 + y1_1))) 1)) + 1))) rfl rfl (r_assign rfl) ?_
          try simp only [List.set_cons_zero, List.set_cons_succ]
          refine run_nil ?_
          refine norm_block ?_
          refine again_j m (Nat.lt_succ_self m) rfl ⟨(IntKind.wrap .i64 ((IntKind.wrap .i64 (iShr .u64 (IntKind.wrap .u64 (IntKind.wrap .i64 (y1_0 + y1_1))) 1)) + 1)), y1_1, (fit rfl), H, HS2⟩
        · replace H := of_neg H (nt c2)
          refine region ?_
          refine run_same (v := Value.int .i64 (IntKind.wrap .i64 (iShr .u64 (IntKind.wrap .u64 (IntKind.wrap .i64 (y1_0 + y1_1))) 1))) rfl rfl (r_move rfl) ?_
          refine run_same (v := Value.int .i64 (IntKind.wrap .i64 (iShr .u64 (IntKind.wrap .u64 (IntKind.wrap .i64 (y1_0 + y1_1))) 1))) rfl rfl (r_assign rfl) ?_
          try simp only [List.set_cons_zero, List.set_cons_succ]
          refine run_nil ?_
          refine norm_block ?_
          refine again_j m (Nat.lt_succ_self m) rfl ⟨y1_0, (IntKind.wrap .i64 (iShr .u64 (IntKind.wrap .u64 (IntKind.wrap .i64 (y1_0 + y1_1))) 1)), (fit rfl), H, HS2⟩
      · replace H := of_neg H (nt c1)
        refine wp_exit ?_
        refine exit_then ?_
        obtain rfl := Option.some.inj H
        refine leave_j rfl ⟨(fit rfl), HS1⟩
  · rintro us w3 ⟨huo1, HS3⟩
    obtain ⟨uo1, rfl⟩ := unj huo1
    replace H := G1
    clear G1
    try simp only [patch, List.set_cons_zero, List.set_cons_succ]
    refine norm_then ?_
    refine wp_seq ?_
    refine region ?_
    refine run_same (v := Value.int .i64 xx1) rfl rfl (r_move rfl) ?_
    refine run_same (v := Value.int .i64 xx1) rfl rfl (r_move rfl) ?_
    refine run_same (v := Value.int .i64 (a0.length : Int)) rfl rfl (r_move rfl) ?_
    refine run_same (v := Value.bool (decide (xx1 < (a0.length : Int)))) rfl rfl (r_bin rfl rfl rfl) ?_
    refine run_frame (by simp only [List.set_cons_zero, List.set_cons_succ]; rfl) ?_
    refine run_same (v := Value.bool (decide (xx1 < (a0.length : Int)))) rfl rfl (r_move rfl) ?_
    refine run_g_same (b := (decide (xx1 < (a0.length : Int)))) (c := true) (v := Value.func (.func fid2) #[] cap2.toArray) rfl rfl rfl rfl (fun hg => (r_move rfl)) ?_
    refine run_g_same (b := (decide (xx1 < (a0.length : Int)))) (c := true) (v := Value.slice A0_0 a0.length c0_0) rfl rfl rfl rfl (fun hg => (r_move rfl)) ?_
    refine run_g_same (b := (decide (xx1 < (a0.length : Int)))) (c := true) (v := Value.int .i64 xx1) rfl rfl rfl rfl (fun hg => (r_move rfl)) ?_
    refine run_frame (by simp only [List.set_cons_zero, List.set_cons_succ]; rfl) ?_
    obtain ⟨hi2, H⟩ := of_ite H
    obtain ⟨ad2, Aad2_1, cad2_1, hq1⟩ := gx3 (fun hC : (true && ((decide (xx1 < (a0.length : Int))) == true)) = true => ld_api_Segment hr0_0 (hi2 hC).1 (hi2 hC).2)
    refine run_g_same (b := (decide (xx1 < (a0.length : Int)))) (c := true) (v := Value.pointer (some (Addr.add ad2 (xx1.toNat * 2)))) rfl rfl rfl rfl (fun hg => (r_indexA (sz := 2) ((show _ = gv (true && ((decide (xx1 < (a0.length : Int))) == true)) (Value.slice A0_0 a0.length c0_0) from rfl).trans (gv_t hg)) (hq1 hg).1 ((show _ = gv (true && ((decide (xx1 < (a0.length : Int))) == true)) (Value.int .i64 xx1) from rfl).trans (gv_t hg)) (hi2 hg).1 (hi2 hg).2 Tryz.runUnderlying25 Tryz.sizeOf58)) ?_
    refine run_g_same (b := (decide (xx1 < (a0.length : Int)))) (c := true) (v := Value.agg #[Value.int .i64 ((rd z_api_Segment a0 xx1).vAt), Value.slice Aad2_1 ((rd z_api_Segment a0 xx1).vBytes).length cad2_1]) rfl rfl rfl rfl (fun hg => (r_loadAgg ((show _ = gv (true && ((decide (xx1 < (a0.length : Int))) == true)) (Value.pointer (some (Addr.add ad2 (xx1.toNat * 2)))) from rfl).trans (gv_t hg)) Tryz.isAgg58 (((hq1 hg).2.1).sees HS3.sees) Tryz.sizeOf58)) ?_
    refine run_g_same (b := (decide (xx1 < (a0.length : Int)))) (c := true) (v := Value.int .i64 a1) rfl rfl rfl rfl (fun hg => (r_move rfl)) ?_
    obtain ⟨v2, H2, H⟩ := of_bind H
    refine run_g (b := (decide (xx1 < (a0.length : Int)))) (c := true) (v := Value.int .i64 v2) rfl rfl rfl rfl (fun hg => (does_callv (vs := [Value.agg #[Value.int .i64 ((rd z_api_Segment a0 xx1).vAt), Value.slice Aad2_1 ((rd z_api_Segment a0 xx1).vBytes).length cad2_1], Value.int .i64 a1]) (caps := cap2) hent2 ((show _ = gv (true && ((decide (xx1 < (a0.length : Int))) == true)) (Value.func (.func fid2) #[] cap2.toArray) from rfl).trans (gv_t hg)) (map2 ((show _ = gv (true && ((decide (xx1 < (a0.length : Int))) == true)) (Value.agg #[Value.int .i64 ((rd z_api_Segment a0 xx1).vAt), Value.slice Aad2_1 ((rd z_api_Segment a0 xx1).vBytes).length cad2_1]) from rfl).trans (gv_t hg)) ((show _ = gv (true && ((decide (xx1 < (a0.length : Int))) == true)) (Value.int .i64 a1) from rfl).trans (gv_t hg))) (hfp2 (rd z_api_Segment a0 xx1) Aad2_1 cad2_1 a1 _ _ HS3.toE HS3.sub HS3.sees ((hq1 hg).2.2.2) ((hq1 hg).2.2.1) _ (of_pos H2 hg)))) ?_
    intro w4 hE2
    have HS4 := HS3.step hE2
    refine run_frame (by simp only [List.set_cons_zero, List.set_cons_succ]; rfl) ?_
    refine run_g_same (b := (decide (xx1 < (a0.length : Int)))) (c := true) (v := Value.bool (v2 == 0)) rfl rfl rfl rfl (fun hg => (r_bin ((show _ = gv (true && ((decide (xx1 < (a0.length : Int))) == true)) (Value.int .i64 v2) from rfl).trans (gv_t hg)) rfl rfl)) ?_
    refine run_same (v := Value.bool ((decide (xx1 < (a0.length : Int))) && (v2 == 0))) rfl rfl (r_pick_and rfl (fun hp => ((show _ = gv (true && ((decide (xx1 < (a0.length : Int))) == true)) (Value.bool (v2 == 0)) from rfl).trans (gv_t (and_i rfl hp)))) rfl) ?_
    refine run_same (v := Value.int .i64 xx1) rfl rfl (r_assign rfl) ?_
    refine run_same (v := Value.bool ((decide (xx1 < (a0.length : Int))) && (v2 == 0))) rfl rfl (r_assign rfl) ?_
    try simp only [List.set_cons_zero, List.set_cons_succ]
    refine run_nil ?_
    refine norm_then ?_
    refine wp_ret ?_
    obtain rfl := Option.some.inj H
    refine bodyPost_ret (results_2 rfl (one_tmp rfl) (one_tmp rfl)) rfl ?_
    exact ⟨rfl, HS4.toE⟩

end Go.Proofs.YtecpbadkdpbkpaaGreatDoor
/- image.search: a binary search whose comparison is a closure over a function value. -/
namespace Go.Proofs.YtecpbadkdpbkpaaGreatDoor
open Go.RowKit Go.M
def image_search_1.f (a2 : api_Segment → Option Int) (x : api_Segment) (n : Int) : Option Int := (a2 x).bind fun v => if (decide (v ≤ n)) = true then some (-1) else some 1
def FnSeg (a2 : api_Segment → Option Int) (fid2 : Nat) (cap2 : List Value) (h0 : View) (w0 : World) : Prop :=
  ∀ (z0 : api_Segment) (Az0_1 : Option Addr) (cz0_1 : Nat) (h : View) (w : World), Ext w0 w → Sub h0 h → Sees h w → Rd (Kd.int .u8) h Az0_1 z0.vBytes → z0.vBytes.length ≤ cz0_1 → ∀ (r : Int), a2 z0 = some r → Calls Tryz.prog fid2 ([Value.agg #[Value.int .i64 z0.vAt, Value.slice Az0_1 z0.vBytes.length cz0_1]] ++ cap2).toArray w (fun e w1 => e = .returned (Value.int .i64 r) ∧ Ext w w1)
set_option maxRecDepth 20000 in
set_option maxHeartbeats 4000000 in
theorem image_search_1.calls (a2 : api_Segment → Option Int) (fid2 : Nat) (cap2 : List Value) (x : api_Segment) (A0_1 : Option Addr) (c0_1 : Nat) (n : Int) (bx : Nat) {h0 : View} {w0 : World} (hv : Sees h0 w0) (hr0_1 : Rd (Kd.int .u8) h0 A0_1 x.vBytes) (hc0_1 : x.vBytes.length ≤ c0_1)
    (hent2 : ∀ args w, (callFunc fid2 args).run Tryz.prog w = .ok (.enter fid2 args) w) (hfp2 : FnSeg a2 fid2 cap2 h0 w0) (hbx : w0.heap[bx]? = some (.cells #[Value.func (.func fid2) #[] cap2.toArray] 182 (0, 0))) {r : Int} (H : image_search_1.f a2 x n = some r) :
    Calls Tryz.prog 144 #[Value.agg #[Value.int .i64 x.vAt, Value.slice A0_1 x.vBytes.length c0_1], Value.int .i64 n, Value.pointer (some ⟨bx, 0, none⟩)] w0 (fun e w1 => e = .returned (Value.int .i64 r) ∧ Ext w0 w1) := by
  unfold image_search_1.f at H
  have HS : St [] h0 w0 h0 [] w0 := St.init hv
  go_enter Tryz.func144, Tryz.ntmps144
  refine wp_seq ?_
  refine region ?_
  refine run_ex rfl rfl (does_box (cs := #[Value.int .i64 x.vAt, Value.slice A0_1 x.vBytes.length c0_1]) rfl rfl) ?_
  rintro w1 _ hE1 ⟨b1, rfl, ge1, hb1⟩
  have HS1 := HS.new hE1 ge1 hb1
  refine run_same (v := Value.int .i64 0) rfl rfl (r_assign rfl) ?_
  try simp only [List.set_cons_zero, List.set_cons_succ]
  refine run_nil ?_
  refine norm_then ?_
  refine wp_seq ?_
  refine wp_seq ?_
  refine region ?_
  refine run_same (v := Value.func (.func fid2) #[] cap2.toArray) rfl rfl (r_loadBox rfl Tryz.isAgg182 (heap_ext hbx HS1.toE) rfl) ?_
  refine run_same (v := Value.agg #[Value.int .i64 x.vAt, Value.slice A0_1 x.vBytes.length c0_1]) rfl rfl (r_loadBoxAgg (n := 2) (vs := [Value.int .i64 x.vAt, Value.slice A0_1 x.vBytes.length c0_1]) rfl Tryz.isAgg58 (HS1.look 0 rfl) Tryz.sizeOf58 rfl rfl) ?_
  obtain ⟨v1, H1, H⟩ := of_bind H
  refine run_eq (v := Value.int .i64 v1) rfl rfl (does_callv (vs := [Value.agg #[Value.int .i64 x.vAt, Value.slice A0_1 x.vBytes.length c0_1]]) (caps := cap2) hent2 rfl rfl (hfp2 x A0_1 c0_1 _ _ HS1.toE HS1.sub HS1.sees hr0_1 hc0_1 _ H1)) ?_
  intro w2 hE2
  have HS2 := HS1.step hE2
  refine run_same (v := Value.int .i64 n) rfl rfl (r_move rfl) ?_
  refine run_frame (by simp only [List.set_cons_zero, List.set_cons_succ]; rfl) ?_
  refine run_same (v := Value.bool (decide (v1 ≤ n))) rfl rfl (r_bin rfl rfl rfl) ?_
  try simp only [List.set_cons_zero, List.set_cons_succ]
  refine run_nil ?_
  refine norm_then ?_
  refine wp_cond_split (t := (decide (v1 ≤ n))) rfl (fun c1 => ?_) (fun c1 => ?_)
  · replace H := of_pos H c1
    refine wp_seq ?_
    refine region ?_
    refine run_same (v := Value.int .i64 (-1)) rfl rfl (r_assign rfl) ?_
    try simp only [List.set_cons_zero, List.set_cons_succ]
    refine run_nil ?_
    refine norm_then ?_
    refine wp_ret ?_
    refine ret_then ?_
    obtain rfl := Option.some.inj H
    refine bodyPost_ret (results_1 rfl (one_tmp rfl)) rfl ?_
    exact ⟨rfl, HS2.toE⟩
  · replace H := of_neg H (nt c1)
    refine wp_skip ?_
    refine norm_then ?_
    refine wp_seq ?_
    refine region ?_
    refine run_same (v := Value.int .i64 1) rfl rfl (r_assign rfl) ?_
    try simp only [List.set_cons_zero, List.set_cons_succ]
    refine run_nil ?_
    refine norm_then ?_
    refine wp_ret ?_
    obtain rfl := Option.some.inj H
    refine bodyPost_ret (results_1 rfl (one_tmp rfl)) rfl ?_
    exact ⟨rfl, HS2.toE⟩
def image_search_api_Segment_int64.f (k : Nat) (a0 : List api_Segment) (a1 : Int) (a2 : api_Segment → Option Int) : Option Int :=
  (slices_BinarySearchFunc_api_Segment_api_Segment_int64.f k a0 a1 (fun z0 z1 => image_search_1.f a2 z0 z1)).bind fun v1 => some v1.1
set_option maxRecDepth 20000 in
set_option maxHeartbeats 4000000 in
theorem image_search_api_Segment_int64.calls (k : Nat) (a0 : List api_Segment) (a1 : Int) (a2 : api_Segment → Option Int) (A0_0 : Option Addr) (c0_0 : Nat) (fid2 : Nat) (cap2 : List Value) {h0 : View} {w0 : World} (hv : Sees h0 w0) (hr0_0 : Rd k_api_Segment h0 A0_0 a0) (hc0_0 : a0.length ≤ c0_0)
    (hent2 : ∀ args w, (callFunc fid2 args).run Tryz.prog w = .ok (.enter fid2 args) w) (hfp2 : FnSeg a2 fid2 cap2 h0 w0) {r : Int} (H : image_search_api_Segment_int64.f k a0 a1 a2 = some r) :
    Calls Tryz.prog 92 #[Value.slice A0_0 a0.length c0_0, Value.int .i64 a1, Value.func (.func fid2) #[] cap2.toArray] w0 (fun e w1 => e = .returned (Value.int .i64 r) ∧ Ext w0 w1) := by
  unfold image_search_api_Segment_int64.f at H
  have HS : St [] h0 w0 h0 [] w0 := St.init hv
  go_enter Tryz.func92, Tryz.ntmps92
  refine wp_seq ?_
  refine region ?_
  refine run_ex rfl rfl (does_box (cs := #[Value.func (.func fid2) #[] cap2.toArray]) rfl rfl) ?_
  rintro w1 _ hE1 ⟨b1, rfl, ge1, hb1⟩
  have HS1 := HS.new hE1 ge1 hb1
  refine run_same (v := Value.int .i64 0) rfl rfl (r_assign rfl) ?_
  try simp only [List.set_cons_zero, List.set_cons_succ]
  refine run_nil ?_
  refine norm_then ?_
  refine wp_seq ?_
  refine region ?_
  refine run_same (v := Value.slice A0_0 a0.length c0_0) rfl rfl (r_move rfl) ?_
  refine run_same (v := Value.int .i64 a1) rfl rfl (r_move rfl) ?_
  refine run_same (v := Value.func (.func 144) #[] #[Value.pointer (some ⟨b1, 0, none⟩)]) rfl rfl (r_makeFunc (vs := [Value.pointer (some ⟨b1, 0, none⟩)]) rfl) ?_
  obtain ⟨v1, H1, H⟩ := of_bind H
  refine run_eq (v := Value.tuple #[Value.int .i64 v1.1, Value.bool v1.2]) rfl rfl (does_call_eq Tryz.call143 rfl rfl (slices_BinarySearchFunc_api_Segment_api_Segment_int64.calls k a0 a1 (fun z0 z1 => image_search_1.f a2 z0 z1) A0_0 c0_0 144 [Value.pointer (some ⟨b1, 0, none⟩)] HS1.sees hr0_0 hc0_0 Tryz.call144
    (fun z0 Az0_1 cz0_1 z1 h w hE hs hv hz hzc r H => image_search_1.calls a2 fid2 cap2 z0 Az0_1 cz0_1 z1 b1 hv hz hzc hent2 (fun y A c h' w' hE' hs' => hfp2 y A c h' w' (Ext.then (Ext.then HS1.toE hE) hE') (fun a v e => hs' a v (hs a v e))) (heap_ext (HS1.look 0 rfl) hE) H) H1)) ?_
  intro w2 hE2
  have HS2 := HS1.step hE2
  refine run_frame (by simp only [List.set_cons_zero, List.set_cons_succ]; rfl) ?_
  refine run_same (v := Value.tuple #[Value.int .i64 v1.1, Value.bool v1.2]) rfl rfl (r_move rfl) ?_
  refine run_same (v := Value.int .i64 v1.1) rfl rfl (r_extract (vs := #[Value.int .i64 v1.1, Value.bool v1.2]) rfl rfl) ?_
  refine run_same (v := Value.bool v1.2) rfl rfl (r_extract (vs := #[Value.int .i64 v1.1, Value.bool v1.2]) rfl rfl) ?_
  refine run_frame (by simp only [List.set_cons_zero, List.set_cons_succ]; rfl) ?_
  refine run_same (v := Value.int .i64 v1.1) rfl rfl (r_assign rfl) ?_
  refine run_same (v := Value.bool v1.2) rfl rfl (r_assign rfl) ?_
  try simp only [List.set_cons_zero, List.set_cons_succ]
  refine run_nil ?_
  refine norm_then ?_
  refine wp_seq ?_
  refine region ?_
  refine run_same (v := Value.int .i64 v1.1) rfl rfl (r_move rfl) ?_
  refine run_same (v := Value.int .i64 v1.1) rfl rfl (r_assign rfl) ?_
  try simp only [List.set_cons_zero, List.set_cons_succ]
  refine run_nil ?_
  refine norm_then ?_
  refine wp_ret ?_
  obtain rfl := Option.some.inj H
  refine bodyPost_ret (results_1 rfl (one_tmp rfl)) rfl ?_
  exact ⟨rfl, HS2.toE⟩
end Go.Proofs.YtecpbadkdpbkpaaGreatDoor
namespace Go.Proofs.YtecpbadkdpbkpaaGreatDoor
open Go.RowKit Go.M
def image_end.f (a0 : api_Segment) : Option (Int) := some (IntKind.wrap .i64 (a0.vAt + (a0.vBytes.length : Int)))
set_option maxRecDepth 20000 in
set_option maxHeartbeats 4000000 in
theorem image_end.calls (a0 : api_Segment) (A0_1 : Option Addr) (c0_1 : Nat) {h0 : View} {w0 : World} (hv : Sees h0 w0) (hr0_1 : Rd (Kd.int .u8) h0 A0_1 a0.vBytes) (hc0_1 : a0.vBytes.length ≤ c0_1) {r : Int} (H : image_end.f a0 = some r) : Calls Tryz.prog 93 #[Value.agg #[Value.int .i64 a0.vAt, Value.slice A0_1 a0.vBytes.length c0_1]] w0 (fun e w1 => e = .returned (Value.int .i64 r) ∧ Ext w0 w1) := by
  unfold image_end.f at H
  have HS : St [] h0 w0 h0 [] w0 := St.init hv
  go_enter Tryz.func93, Tryz.ntmps93
  refine wp_seq ?_
  refine region ?_
  refine run_ex rfl rfl (does_box (cs := #[Value.int .i64 a0.vAt, Value.slice A0_1 a0.vBytes.length c0_1]) rfl rfl) ?_
  rintro w1 _ hE1 ⟨b1, rfl, ge1, hb1⟩
  have HS1 := HS.new hE1 ge1 hb1
  refine run_same (v := Value.int .i64 0) rfl rfl (r_assign rfl) ?_
  try simp only [List.set_cons_zero, List.set_cons_succ]
  refine run_nil ?_
  refine norm_then ?_
  refine wp_seq ?_
  refine region ?_
  refine run_same (v := Value.pointer (some ⟨b1, 0, none⟩)) rfl rfl (r_fieldBox (n := 1) (o' := 0) rfl Tryz.runUnderlying58 rfl Tryz.sizeOf2 (by decide) rfl) ?_
  refine run_same (v := Value.int .i64 a0.vAt) rfl rfl (r_loadBox rfl Tryz.isAgg2 (HS1.look 0 rfl) rfl) ?_
  refine run_same (v := Value.pointer (some ⟨b1, 1, none⟩)) rfl rfl (r_fieldBox (n := 1) (o' := 1) rfl Tryz.runUnderlying58 rfl Tryz.sizeOf42 (by decide) rfl) ?_
  refine run_same (v := Value.slice A0_1 a0.vBytes.length c0_1) rfl rfl (r_loadBox rfl Tryz.isAgg42 (HS1.look 0 rfl) rfl) ?_
  refine run_frame (by simp only [List.set_cons_zero, List.set_cons_succ]; rfl) ?_
  refine run_same (v := Value.int .i64 (a0.vBytes.length : Int)) rfl rfl (r_len rfl Tryz.runUnderlying42) ?_
  refine run_same (v := Value.int .i64 (IntKind.wrap .i64 (a0.vAt + (a0.vBytes.length : Int)))) rfl rfl (r_bin rfl rfl rfl) ?_
  refine run_same (v := Value.int .i64 (IntKind.wrap .i64 (a0.vAt + (a0.vBytes.length : Int)))) rfl rfl (r_assign rfl) ?_
  try simp only [List.set_cons_zero, List.set_cons_succ]
  refine run_nil ?_
  refine norm_then ?_
  refine wp_ret ?_
  obtain rfl := Option.some.inj H
  refine bodyPost_ret (results_1 rfl (one_tmp rfl)) rfl ?_
  exact ⟨rfl, HS1.toE⟩

end Go.Proofs.YtecpbadkdpbkpaaGreatDoor
namespace Go.Proofs.YtecpbadkdpbkpaaGreatDoor
open Go.RowKit Go.M
def image_read.l0 (a0 : api_Image) (a1 : Int) (a2 : Int) : Nat → Int → (List Int) → Option (((List Int) × Bool) ⊕ ((List Int)))
  | 0, _, _ => none
  | m + 1, y1_0, y1_1 => if (decide (((y1_1.length : Nat) : Int) < a2)) = true then (if (true && (((decide ((IntKind.wrap .i64 (a1 + ((y1_1.length : Nat) : Int))) < 0)) || (decide (y1_0 ≥ (a0.vSegs.length : Int)))) == false)) = true → (0 ≤ y1_0 ∧ y1_0 < a0.vSegs.length) then (if (((decide ((IntKind.wrap .i64 (a1 + ((y1_1.length : Nat) : Int))) < 0)) || (decide (y1_0 ≥ (a0.vSegs.length : Int)))) || (decide ((rd z_api_Segment a0.vSegs y1_0).vAt > (IntKind.wrap .i64 (a1 + ((y1_1.length : Nat) : Int)))))) = true then (some (.inl (([] : List Int), false))) else (if 0 ≤ y1_0 ∧ y1_0 < a0.vSegs.length then (if 0 ≤ (IntKind.wrap .i64 ((IntKind.wrap .i64 (a1 + ((y1_1.length : Nat) : Int))) - ((rd z_api_Segment a0.vSegs y1_0).vAt))) ∧ (IntKind.wrap .i64 ((IntKind.wrap .i64 (a1 + ((y1_1.length : Nat) : Int))) - ((rd z_api_Segment a0.vSegs y1_0).vAt))) ≤ (iMin (((rd z_api_Segment a0.vSegs y1_0).vBytes).length : Int) (IntKind.wrap .i64 ((IntKind.wrap .i64 ((IntKind.wrap .i64 ((IntKind.wrap .i64 (a1 + ((y1_1.length : Nat) : Int))) - ((rd z_api_Segment a0.vSegs y1_0).vAt))) + a2)) - ((y1_1.length : Nat) : Int)))) ∧ (iMin (((rd z_api_Segment a0.vSegs y1_0).vBytes).length : Int) (IntKind.wrap .i64 ((IntKind.wrap .i64 ((IntKind.wrap .i64 ((IntKind.wrap .i64 (a1 + ((y1_1.length : Nat) : Int))) - ((rd z_api_Segment a0.vSegs y1_0).vAt))) + a2)) - ((y1_1.length : Nat) : Int)))) ≤ (((rd z_api_Segment a0.vSegs y1_0).vBytes).length : Int) then (if y1_1.length + (List.drop (IntKind.wrap .i64 ((IntKind.wrap .i64 (a1 + ((y1_1.length : Nat) : Int))) - ((rd z_api_Segment a0.vSegs y1_0).vAt))).toNat (List.take (iMin (((rd z_api_Segment a0.vSegs y1_0).vBytes).length : Int) (IntKind.wrap .i64 ((IntKind.wrap .i64 ((IntKind.wrap .i64 ((IntKind.wrap .i64 (a1 + ((y1_1.length : Nat) : Int))) - ((rd z_api_Segment a0.vSegs y1_0).vAt))) + a2)) - ((y1_1.length : Nat) : Int)))).toNat ((rd z_api_Segment a0.vSegs y1_0).vBytes))).length ≤ 4294967296 then (image_read.l0 a0 a1 a2 m (IntKind.wrap .i64 (y1_0 + 1)) (y1_1 ++ (List.drop (IntKind.wrap .i64 ((IntKind.wrap .i64 (a1 + ((y1_1.length : Nat) : Int))) - ((rd z_api_Segment a0.vSegs y1_0).vAt))).toNat (List.take (iMin (((rd z_api_Segment a0.vSegs y1_0).vBytes).length : Int) (IntKind.wrap .i64 ((IntKind.wrap .i64 ((IntKind.wrap .i64 ((IntKind.wrap .i64 (a1 + ((y1_1.length : Nat) : Int))) - ((rd z_api_Segment a0.vSegs y1_0).vAt))) + a2)) - ((y1_1.length : Nat) : Int)))).toNat ((rd z_api_Segment a0.vSegs y1_0).vBytes))))) else none) else none) else none)) else none) else (some (.inr y1_1))
def image_read.f (k : Nat) (a0 : api_Image) (a1 : Int) (a2 : Int) : Option ((List Int) × Bool) := (image_search_api_Segment_int64.f k a0.vSegs a1 (fun z0 => image_end.f z0 )).bind fun v1 => ((image_read.l0 a0 a1 a2 k v1 ([] : List Int)).bind fun xx1 => (match xx1 with | .inl r => some r | .inr s1 => some (s1, true)))
set_option maxRecDepth 20000 in
set_option maxHeartbeats 4000000 in
theorem image_read.calls (k : Nat) (a0 : api_Image) (a1 : Int) (a2 : Int) (A0_0 : Option Addr) (c0_0 : Nat) {h0 : View} {w0 : World} (hv : Sees h0 w0) (hr0_0 : Rd k_api_Segment h0 A0_0 a0.vSegs) (hc0_0 : a0.vSegs.length ≤ c0_0) {r : (List Int) × Bool} (H : image_read.f k a0 a1 a2 = some r) : Calls Tryz.prog 59 #[Value.agg #[Value.slice A0_0 a0.vSegs.length c0_0], Value.int .i64 a1, Value.int .i64 a2] w0 (fun e w1 => ∃ (h1 : View) (A0_0 : Option Addr) (c0_0 : Nat), e = .returned (Value.tuple #[Value.slice A0_0 r.1.length c0_0, Value.bool r.2]) ∧ r.1.length ≤ c0_0 ∧ Rd (Kd.int .u8) h1 A0_0 r.1 ∧ Gr w0.heap.size h0 h1 ∧ Sees h1 w1 ∧ Ext w0 w1) := by
  unfold image_read.f at H
  have HS : St [] h0 w0 h0 [] w0 := St.init hv
  go_enter Tryz.func59, Tryz.ntmps59
  refine wp_seq ?_
  refine region ?_
  refine run_ex rfl rfl (does_box (cs := #[Value.slice A0_0 a0.vSegs.length c0_0]) rfl rfl) ?_
  rintro w1 _ hE1 ⟨b1, rfl, ge1, hb1⟩
  have HS1 := HS.new hE1 ge1 hb1
  refine run_same (v := Value.slice none 0 0) rfl rfl (r_assign rfl) ?_
  refine run_same (v := Value.bool false) rfl rfl (r_assign rfl) ?_
  try simp only [List.set_cons_zero, List.set_cons_succ]
  refine run_nil ?_
  refine norm_then ?_
  refine wp_seq ?_
  refine region ?_
  refine run_same (v := Value.slice none 0 0) rfl rfl (r_assign rfl) ?_
  try simp only [List.set_cons_zero, List.set_cons_succ]
  refine run_nil ?_
  refine norm_then ?_
  refine wp_seq ?_
  refine wp_seq ?_
  refine region ?_
  refine run_same (v := Value.pointer (some ⟨b1, 0, none⟩)) rfl rfl (r_fieldBox (n := 1) (o' := 0) rfl Tryz.runUnderlying27 rfl Tryz.sizeOf25 (by decide) rfl) ?_
  refine run_same (v := Value.slice A0_0 a0.vSegs.length c0_0) rfl rfl (r_loadBox rfl Tryz.isAgg25 (HS1.look 0 rfl) rfl) ?_
  refine run_same (v := Value.int .i64 a1) rfl rfl (r_move rfl) ?_
  obtain ⟨v1, H1, H⟩ := of_bind H
  refine run_eq (v := Value.int .i64 v1) rfl rfl (does_call_eq Tryz.call92 rfl rfl (image_search_api_Segment_int64.calls k a0.vSegs a1 (fun z0 => image_end.f z0 ) A0_0 c0_0 93 [] HS1.sees hr0_0 hc0_0 Tryz.call93 (fun z0 Az0_1 cz0_1 h w hE hs hv hz0_1 hzc0_1 r H => image_end.calls z0 Az0_1 cz0_1 hv hz0_1 hzc0_1 H) H1)) ?_
  intro w2 hE2
  have HS2 := HS1.step hE2
  refine run_frame (by simp only [List.set_cons_zero, List.set_cons_succ]; rfl) ?_
  refine run_same (v := Value.int .i64 v1) rfl rfl (r_assign rfl) ?_
  try simp only [List.set_cons_zero, List.set_cons_succ]
  refine run_nil ?_
  refine norm_then ?_
  have HS3 := HS2.nothing (.cells ([] : List Value).toArray 5 (0, 0))
  obtain ⟨xx1, H, G1⟩ := of_bind H
  refine loop_j [6, 7, 8, 9, 10, 11, 12, 17, 18, 19, 20, 21, 22, 23, 24, 25, 26, 27, 28, 29, 30, 31, 32, 33, 34, 35, 36, 37, 38, 39, 40, 41, 42, 43, 44, 45, 46, 47, 48, 49, 50, 51, 52, 53, 54, 55, 56, 57, 58, 59, 60, 61, 62, 63, 64, 65, 66, 67, 68, 69, 70] (fun m us w' => ∃ (y1_0 : Int), ∃ (y1_1 : List Int), ∃ (oby1_1 : Option Nat) (cy1_1 : Nat), ∃ (csy1_1 : List Value), Fit us (fun uy1 => [(uy1 0), (uy1 1), Value.slice (rowA oby1_1) y1_1.length cy1_1, Value.int .i64 y1_0, (uy1 4), (uy1 5), (uy1 6), (uy1 7), (uy1 8), (uy1 9), (uy1 10), (uy1 11), (uy1 12), (uy1 13), (uy1 14), (uy1 15), (uy1 16), (uy1 17), (uy1 18), (uy1 19), (uy1 20), (uy1 21), (uy1 22), (uy1 23), (uy1 24), (uy1 25), (uy1 26), (uy1 27), (uy1 28), (uy1 29), (uy1 30), (uy1 31), (uy1 32), (uy1 33), (uy1 34), (uy1 35), (uy1 36), (uy1 37), (uy1 38), (uy1 39), (uy1 40), (uy1 41), (uy1 42), (uy1 43), (uy1 44), (uy1 45), (uy1 46), (uy1 47), (uy1 48), (uy1 49), (uy1 50), (uy1 51), (uy1 52), (uy1 53), (uy1 54), (uy1 55), (uy1 56), (uy1 57), (uy1 58), (uy1 59), (uy1 60)]) ∧ image_read.l0 a0 a1 a2 m y1_0 y1_1 = some xx1 ∧ RowOk (Kd.int .u8) h0 y1_1 oby1_1 y1_1.length cy1_1 csy1_1 ∧ St [] h0 w0 h0 [(oby1_1, .cells (csy1_1).toArray 5 (0, 0)), (some b1, .cells #[Value.slice A0_0 a0.vSegs.length c0_0] 27 (0, 0))] w') (fun us w' => ∃ (s1 : (List Int)), xx1 = .inr s1 ∧ ∃ (obo1_0 : Option Nat) (co1_0 : Nat), ∃ (cso1_0 : List Value), Fit us (fun uo1 => [(uo1 0), (uo1 1), Value.slice (rowA obo1_0) s1.length co1_0, (uo1 3), (uo1 4), (uo1 5), (uo1 6), (uo1 7), (uo1 8), (uo1 9), (uo1 10), (uo1 11), (uo1 12), (uo1 13), (uo1 14), (uo1 15), (uo1 16), (uo1 17), (uo1 18), (uo1 19), (uo1 20), (uo1 21), (uo1 22), (uo1 23), (uo1 24), (uo1 25), (uo1 26), (uo1 27), (uo1 28), (uo1 29), (uo1 30), (uo1 31), (uo1 32), (uo1 33), (uo1 34), (uo1 35), (uo1 36), (uo1 37), (uo1 38), (uo1 39), (uo1 40), (uo1 41), (uo1 42), (uo1 43), (uo1 44), (uo1 45), (uo1 46), (uo1 47), (uo1 48), (uo1 49), (uo1 50), (uo1 51), (uo1 52), (uo1 53), (uo1 54), (uo1 55), (uo1 56), (uo1 57), (uo1 58), (uo1 59), (uo1 60)]) ∧ RowOk (Kd.int .u8) h0 s1 obo1_0 s1.length co1_0 cso1_0 ∧ St [] h0 w0 h0 [(obo1_0, .cells (cso1_0).toArray 5 (0, 0)), (some b1, .cells #[Value.slice A0_0 a0.vSegs.length c0_0] 27 (0, 0))] w') k ⟨v1, ([] : List Int), none, 0, ([] : List Value), (fit rfl), H, (RowOk.none' (Kd.int .u8) _).norm, HS3⟩ ?_ ?_
  · rintro m us w3 ⟨y1_0, y1_1, oby1_1, cy1_1, csy1_1, huy1, H, hoy1_1, HS4⟩
    obtain ⟨uy1, rfl⟩ := unj huy1
    cases m with
    | zero => exact absurd H (by simp [image_read.l0])
    | succ m =>
      rw [image_read.l0] at H
      try simp only [patch, List.set_cons_zero, List.set_cons_succ]
      refine wp_seq ?_
      refine wp_seq ?_
      refine region ?_
      refine run_same (v := Value.slice (rowA oby1_1) y1_1.length cy1_1) rfl rfl (r_move rfl) ?_
      refine run_same (v := Value.int .i64 ((y1_1.length : Nat) : Int)) rfl rfl (r_lenRow rfl Tryz.runUnderlying42) ?_
      refine run_same (v := Value.int .i64 a2) rfl rfl (r_move rfl) ?_
      refine run_same (v := Value.bool (decide (((y1_1.length : Nat) : Int) < a2))) rfl rfl (r_bin rfl rfl rfl) ?_
      try simp only [List.set_cons_zero, List.set_cons_succ]
      refine run_nil ?_
      refine norm_then ?_
      refine wp_cond_split (t := (decide (((y1_1.length : Nat) : Int) < a2))) rfl (fun c1 => ?_) (fun c1 => ?_)
      · replace H := of_pos H c1
        refine wp_skip ?_
        refine norm_then ?_
        refine wp_seq ?_
        refine wp_block ?_
        refine wp_seq ?_
        refine region ?_
        refine run_same (v := Value.int .i64 a1) rfl rfl (r_move rfl) ?_
        refine run_same (v := Value.slice (rowA oby1_1) y1_1.length cy1_1) rfl rfl (r_move rfl) ?_
        refine run_same (v := Value.int .i64 ((y1_1.length : Nat) : Int)) rfl rfl (r_lenRow rfl Tryz.runUnderlying42) ?_
        refine run_same (v := Value.int .i64 (IntKind.wrap .i64 (a1 + ((y1_1.length : Nat) : Int)))) rfl rfl (r_bin rfl rfl rfl) ?_
        refine run_frame (by simp only [List.set_cons_zero, List.set_cons_succ]; rfl) ?_
        refine run_same (v := Value.int .i64 (IntKind.wrap .i64 (a1 + ((y1_1.length : Nat) : Int)))) rfl rfl (r_assign rfl) ?_
        try simp only [List.set_cons_zero, List.set_cons_succ]
        refine run_nil ?_
        refine norm_then ?_
        refine wp_seq ?_
        refine wp_seq ?_
        refine region ?_
        refine run_same (v := Value.int .i64 (IntKind.wrap .i64 (a1 + ((y1_1.length : Nat) : Int)))) rfl rfl (r_move rfl) ?_
        refine run_same (v := Value.bool (decide ((IntKind.wrap .i64 (a1 + ((y1_1.length : Nat) : Int))) < 0))) rfl rfl (r_bin rfl rfl rfl) ?_
        refine run_same (v := Value.bool (decide ((IntKind.wrap .i64 (a1 + ((y1_1.length : Nat) : Int))) < 0))) rfl rfl (r_move rfl) ?_
        refine run_g_same (b := (decide ((IntKind.wrap .i64 (a1 + ((y1_1.length : Nat) : Int))) < 0))) (c := true) (v := Value.int .i64 y1_0) rfl rfl rfl rfl (fun hg => (r_move rfl)) ?_
        refine run_frame (by simp only [List.set_cons_zero, List.set_cons_succ]; rfl) ?_
        refine run_g_same (b := (decide ((IntKind.wrap .i64 (a1 + ((y1_1.length : Nat) : Int))) < 0))) (c := true) (v := Value.pointer (some ⟨b1, 0, none⟩)) rfl rfl rfl rfl (fun hg => (r_fieldBox (n := 1) (o' := 0) rfl Tryz.runUnderlying27 rfl Tryz.sizeOf25 (by decide) rfl)) ?_
        refine run_g_same (b := (decide ((IntKind.wrap .i64 (a1 + ((y1_1.length : Nat) : Int))) < 0))) (c := true) (v := Value.slice A0_0 a0.vSegs.length c0_0) rfl rfl rfl rfl (fun hg => (r_loadBox ((show _ = gv (true && ((decide ((IntKind.wrap .i64 (a1 + ((y1_1.length : Nat) : Int))) < 0)) == false)) (Value.pointer (some ⟨b1, 0, none⟩)) from rfl).trans (gv_t hg)) Tryz.isAgg25 (HS4.look 1 rfl) rfl)) ?_
        refine run_g_same (b := (decide ((IntKind.wrap .i64 (a1 + ((y1_1.length : Nat) : Int))) < 0))) (c := true) (v := Value.int .i64 (a0.vSegs.length : Int)) rfl rfl rfl rfl (fun hg => (r_len ((show _ = gv (true && ((decide ((IntKind.wrap .i64 (a1 + ((y1_1.length : Nat) : Int))) < 0)) == false)) (Value.slice A0_0 a0.vSegs.length c0_0) from rfl).trans (gv_t hg)) Tryz.runUnderlying25)) ?_
        refine run_g_same (b := (decide ((IntKind.wrap .i64 (a1 + ((y1_1.length : Nat) : Int))) < 0))) (c := true) (v := Value.bool (decide (y1_0 ≥ (a0.vSegs.length : Int)))) rfl rfl rfl rfl (fun hg => (r_bin ((show _ = gv (true && ((decide ((IntKind.wrap .i64 (a1 + ((y1_1.length : Nat) : Int))) < 0)) == false)) (Value.int .i64 y1_0) from rfl).trans (gv_t hg)) ((show _ = gv (true && ((decide ((IntKind.wrap .i64 (a1 + ((y1_1.length : Nat) : Int))) < 0)) == false)) (Value.int .i64 (a0.vSegs.length : Int)) from rfl).trans (gv_t hg)) rfl)) ?_
        refine run_frame (by simp only [List.set_cons_zero, List.set_cons_succ]; rfl) ?_
        refine run_same (v := Value.bool ((decide ((IntKind.wrap .i64 (a1 + ((y1_1.length : Nat) : Int))) < 0)) || (decide (y1_0 ≥ (a0.vSegs.length : Int))))) rfl rfl (r_pick_or rfl rfl (fun hp => ((show _ = gv (true && ((decide ((IntKind.wrap .i64 (a1 + ((y1_1.length : Nat) : Int))) < 0)) == false)) (Value.bool (decide (y1_0 ≥ (a0.vSegs.length : Int)))) from rfl).trans (gv_t (and_i rfl hp))))) ?_
        refine run_same (v := Value.bool ((decide ((IntKind.wrap .i64 (a1 + ((y1_1.length : Nat) : Int))) < 0)) || (decide (y1_0 ≥ (a0.vSegs.length : Int))))) rfl rfl (r_move rfl) ?_
        refine run_g_same (b := ((decide ((IntKind.wrap .i64 (a1 + ((y1_1.length : Nat) : Int))) < 0)) || (decide (y1_0 ≥ (a0.vSegs.length : Int))))) (c := true) (v := Value.pointer (some ⟨b1, 0, none⟩)) rfl rfl rfl rfl (fun hg => (r_fieldBox (n := 1) (o' := 0) rfl Tryz.runUnderlying27 rfl Tryz.sizeOf25 (by decide) rfl)) ?_
        refine run_g_same (b := ((decide ((IntKind.wrap .i64 (a1 + ((y1_1.length : Nat) : Int))) < 0)) || (decide (y1_0 ≥ (a0.vSegs.length : Int))))) (c := true) (v := Value.slice A0_0 a0.vSegs.length c0_0) rfl rfl rfl rfl (fun hg => (r_loadBox ((show _ = gv (true && (((decide ((IntKind.wrap .i64 (a1 + ((y1_1.length : Nat) : Int))) < 0)) || (decide (y1_0 ≥ (a0.vSegs.length : Int)))) == false)) (Value.pointer (some ⟨b1, 0, none⟩)) from rfl).trans (gv_t hg)) Tryz.isAgg25 (HS4.look 1 rfl) rfl)) ?_
        refine run_frame (by simp only [List.set_cons_zero, List.set_cons_succ]; rfl) ?_
        refine run_g_same (b := ((decide ((IntKind.wrap .i64 (a1 + ((y1_1.length : Nat) : Int))) < 0)) || (decide (y1_0 ≥ (a0.vSegs.length : Int))))) (c := true) (v := Value.int .i64 y1_0) rfl rfl rfl rfl (fun hg => (r_move rfl)) ?_
        obtain ⟨hi1, H⟩ := of_ite H
        obtain ⟨ad1, Aad1_1, cad1_1, hq1⟩ := gx3 (fun hC : (true && (((decide ((IntKind.wrap .i64 (a1 + ((y1_1.length : Nat) : Int))) < 0)) || (decide (y1_0 ≥ (a0.vSegs.length : Int)))) == false)) = true => ld_api_Segment hr0_0 (hi1 hC).1 (hi1 hC).2)
        refine run_g_same (b := ((decide ((IntKind.wrap .i64 (a1 + ((y1_1.length : Nat) : Int))) < 0)) || (decide (y1_0 ≥ (a0.vSegs.length : Int))))) (c := true) (v := Value.pointer (some (Addr.add ad1 (y1_0.toNat * 2)))) rfl rfl rfl rfl (fun hg => (r_indexA (sz := 2) ((show _ = gv (true && (((decide ((IntKind.wrap .i64 (a1 + ((y1_1.length : Nat) : Int))) < 0)) || (decide (y1_0 ≥ (a0.vSegs.length : Int)))) == false)) (Value.slice A0_0 a0.vSegs.length c0_0) from rfl).trans (gv_t hg)) (hq1 hg).1 ((show _ = gv (true && (((decide ((IntKind.wrap .i64 (a1 + ((y1_1.length : Nat) : Int))) < 0)) || (decide (y1_0 ≥ (a0.vSegs.length : Int)))) == false)) (Value.int .i64 y1_0) from rfl).trans (gv_t hg)) (hi1 hg).1 (hi1 hg).2 Tryz.runUnderlying25 Tryz.sizeOf58)) ?_
        refine run_g_same (b := ((decide ((IntKind.wrap .i64 (a1 + ((y1_1.length : Nat) : Int))) < 0)) || (decide (y1_0 ≥ (a0.vSegs.length : Int))))) (c := true) (v := Value.pointer (some (Addr.add (Addr.add ad1 (y1_0.toNat * 2)) 0))) rfl rfl rfl rfl (fun hg => (r_fieldEl (n := 1) (o' := 0) ((show _ = gv (true && (((decide ((IntKind.wrap .i64 (a1 + ((y1_1.length : Nat) : Int))) < 0)) || (decide (y1_0 ≥ (a0.vSegs.length : Int)))) == false)) (Value.pointer (some (Addr.add ad1 (y1_0.toNat * 2)))) from rfl).trans (gv_t hg)) Tryz.runUnderlying58 rfl Tryz.sizeOf2 (by decide) rfl)) ?_
        refine run_g_same (b := ((decide ((IntKind.wrap .i64 (a1 + ((y1_1.length : Nat) : Int))) < 0)) || (decide (y1_0 ≥ (a0.vSegs.length : Int))))) (c := true) (v := Value.int .i64 ((rd z_api_Segment a0.vSegs y1_0).vAt)) rfl rfl rfl rfl (fun hg => (r_load ((show _ = gv (true && (((decide ((IntKind.wrap .i64 (a1 + ((y1_1.length : Nat) : Int))) < 0)) || (decide (y1_0 ≥ (a0.vSegs.length : Int)))) == false)) (Value.pointer (some (Addr.add (Addr.add ad1 (y1_0.toNat * 2)) 0))) from rfl).trans (gv_t hg)) Tryz.isAgg2 (((hq1 hg).2.1).cell HS4.sees 0 rfl))) ?_
        refine run_frame (by simp only [List.set_cons_zero, List.set_cons_succ]; rfl) ?_
        refine run_g_same (b := ((decide ((IntKind.wrap .i64 (a1 + ((y1_1.length : Nat) : Int))) < 0)) || (decide (y1_0 ≥ (a0.vSegs.length : Int))))) (c := true) (v := Value.int .i64 (IntKind.wrap .i64 (a1 + ((y1_1.length : Nat) : Int)))) rfl rfl rfl rfl (fun hg => (r_move rfl)) ?_
        refine run_g_same (b := ((decide ((IntKind.wrap .i64 (a1 + ((y1_1.length : Nat) : Int))) < 0)) || (decide (y1_0 ≥ (a0.vSegs.length : Int))))) (c := true) (v := Value.bool (decide ((rd z_api_Segment a0.vSegs y1_0).vAt > (IntKind.wrap .i64 (a1 + ((y1_1.length : Nat) : Int)))))) rfl rfl rfl rfl (fun hg => (r_bin ((show _ = gv (true && (((decide ((IntKind.wrap .i64 (a1 + ((y1_1.length : Nat) : Int))) < 0)) || (decide (y1_0 ≥ (a0.vSegs.length : Int)))) == false)) (Value.int .i64 ((rd z_api_Segment a0.vSegs y1_0).vAt)) from rfl).trans (gv_t hg)) ((show _ = gv (true && (((decide ((IntKind.wrap .i64 (a1 + ((y1_1.length : Nat) : Int))) < 0)) || (decide (y1_0 ≥ (a0.vSegs.length : Int)))) == false)) (Value.int .i64 (IntKind.wrap .i64 (a1 + ((y1_1.length : Nat) : Int)))) from rfl).trans (gv_t hg)) rfl)) ?_
        refine run_same (v := Value.bool (((decide ((IntKind.wrap .i64 (a1 + ((y1_1.length : Nat) : Int))) < 0)) || (decide (y1_0 ≥ (a0.vSegs.length : Int)))) || (decide ((rd z_api_Segment a0.vSegs y1_0).vAt > (IntKind.wrap .i64 (a1 + ((y1_1.length : Nat) : Int))))))) rfl rfl (r_pick_or rfl rfl (fun hp => ((show _ = gv (true && (((decide ((IntKind.wrap .i64 (a1 + ((y1_1.length : Nat) : Int))) < 0)) || (decide (y1_0 ≥ (a0.vSegs.length : Int)))) == false)) (Value.bool (decide ((rd z_api_Segment a0.vSegs y1_0).vAt > (IntKind.wrap .i64 (a1 + ((y1_1.length : Nat) : Int)))))) from rfl).trans (gv_t (and_i rfl hp))))) ?_
        try simp only [List.set_cons_zero, List.set_cons_succ]
        refine run_nil ?_
        refine norm_then ?_
        refine wp_cond_split (t := (((decide ((IntKind.wrap .i64 (a1 + ((y1_1.length : Nat) : Int))) < 0)) || (decide (y1_0 ≥ (a0.vSegs.length : Int)))) || (decide ((rd z_api_Segment a0.vSegs y1_0).vAt > (IntKind.wrap .i64 (a1 + ((y1_1.length : Nat) : Int))))))) rfl (fun c2 => ?_) (fun c2 => ?_)
        · replace H := of_pos H c2
          refine wp_seq ?_
          refine region ?_
          refine run_same (v := Value.slice none 0 0) rfl rfl (r_assign rfl) ?_
          refine run_same (v := Value.bool false) rfl rfl (r_assign rfl) ?_
          try simp only [List.set_cons_zero, List.set_cons_succ]
          refine run_nil ?_
          refine norm_then ?_
          refine wp_ret ?_
          refine ret_then ?_
          refine ret_block ?_
          refine ret_then ?_
          refine ret_loop ?_
          refine ret_then ?_
          obtain rfl := Option.some.inj H
          obtain rfl := Option.some.inj G1
          refine bodyPost_ret (results_2 rfl (one_tmp rfl) (one_tmp rfl)) rfl ?_
          exact ⟨h0, none, 0, rfl, (Nat.le_refl 0), (Rd.nil _ _ _), HS4.gr, HS4.sees, HS4.toE⟩
        · replace H := of_neg H (nt c2)
          refine wp_skip ?_
          refine norm_then ?_
          refine wp_seq ?_
          refine region ?_
          refine run_same (v := Value.pointer (some ⟨b1, 0, none⟩)) rfl rfl (r_fieldBox (n := 1) (o' := 0) rfl Tryz.runUnderlying27 rfl Tryz.sizeOf25 (by decide) rfl) ?_
          refine run_same (v := Value.slice A0_0 a0.vSegs.length c0_0) rfl rfl (r_loadBox rfl Tryz.isAgg25 (HS4.look 1 rfl) rfl) ?_
          refine run_same (v := Value.int .i64 y1_0) rfl rfl (r_move rfl) ?_
          obtain ⟨hi2, H⟩ := of_ite H
          obtain ⟨ad2, Aad2_1, cad2_1, e2, hel2, hcad2_1, hrad2_1⟩ := ld_api_Segment hr0_0 hi2.1 hi2.2
          refine run_same (v := Value.pointer (some (Addr.add ad2 (y1_0.toNat * 2)))) rfl rfl (r_indexA (sz := 2) rfl e2 rfl hi2.1 hi2.2 Tryz.runUnderlying25 Tryz.sizeOf58) ?_
          refine run_frame (by simp only [List.set_cons_zero, List.set_cons_succ]; rfl) ?_
          refine run_same (v := Value.agg #[Value.int .i64 ((rd z_api_Segment a0.vSegs y1_0).vAt), Value.slice Aad2_1 ((rd z_api_Segment a0.vSegs y1_0).vBytes).length cad2_1]) rfl rfl (r_loadAgg rfl Tryz.isAgg58 (hel2.sees HS4.sees) Tryz.sizeOf58) ?_
          refine run_ex rfl rfl (does_alloc (cs := #[Value.int .i64 0, Value.slice none 0 0]) Tryz.zeroValue58 rfl) ?_
          rintro w4 _ hE3 ⟨b2, rfl, ge2, hb2⟩
          have HS5 := HS4.new hE3 ge2 hb2
          refine run_st (i := 0) (cs := [Value.int .i64 0, Value.slice none 0 0]) (cs' := [Value.int .i64 ((rd z_api_Segment a0.vSegs y1_0).vAt), Value.slice Aad2_1 ((rd z_api_Segment a0.vSegs y1_0).vBytes).length cad2_1]) (vs := [Value.int .i64 ((rd z_api_Segment a0.vSegs y1_0).vAt), Value.slice Aad2_1 ((rd z_api_Segment a0.vSegs y1_0).vBytes).length cad2_1]) (bs' := [(some b2, .cells #[Value.int .i64 ((rd z_api_Segment a0.vSegs y1_0).vAt), Value.slice Aad2_1 ((rd z_api_Segment a0.vSegs y1_0).vBytes).length cad2_1] 58 (0, 0)), (oby1_1, .cells (csy1_1).toArray 5 (0, 0)), (some b1, .cells #[Value.slice A0_0 a0.vSegs.length c0_0] 27 (0, 0))]) rfl rfl Tryz.sizeOf58 rfl rfl (by decide) rfl HS5 rfl (Nat.le_of_ble_eq_true rfl) rfl rfl ?_
          intro w5 HS6
          try simp only [List.set_cons_zero, List.set_cons_succ]
          refine run_nil ?_
          refine norm_then ?_
          refine wp_seq ?_
          refine region ?_
          refine run_same (v := Value.int .i64 (IntKind.wrap .i64 (a1 + ((y1_1.length : Nat) : Int)))) rfl rfl (r_move rfl) ?_
          refine run_same (v := Value.pointer (some ⟨b2, 0, none⟩)) rfl rfl (r_fieldBox (n := 1) (o' := 0) rfl Tryz.runUnderlying58 rfl Tryz.sizeOf2 (by decide) rfl) ?_
          refine run_same (v := Value.int .i64 ((rd z_api_Segment a0.vSegs y1_0).vAt)) rfl rfl (r_loadBox rfl Tryz.isAgg2 (HS6.look 0 rfl) rfl) ?_
          refine run_same (v := Value.int .i64 (IntKind.wrap .i64 ((IntKind.wrap .i64 (a1 + ((y1_1.length : Nat) : Int))) - ((rd z_api_Segment a0.vSegs y1_0).vAt)))) rfl rfl (r_bin rfl rfl rfl) ?_
          refine run_frame (by simp only [List.set_cons_zero, List.set_cons_succ]; rfl) ?_
          refine run_same (v := Value.int .i64 (IntKind.wrap .i64 ((IntKind.wrap .i64 (a1 + ((y1_1.length : Nat) : Int))) - ((rd z_api_Segment a0.vSegs y1_0).vAt)))) rfl rfl (r_assign rfl) ?_
          try simp only [List.set_cons_zero, List.set_cons_succ]
          refine run_nil ?_
          refine norm_then ?_
          refine region ?_
          refine run_same (v := Value.slice (rowA oby1_1) y1_1.length cy1_1) rfl rfl (r_move rfl) ?_
          refine run_same (v := Value.pointer (some ⟨b2, 1, none⟩)) rfl rfl (r_fieldBox (n := 1) (o' := 1) rfl Tryz.runUnderlying58 rfl Tryz.sizeOf42 (by decide) rfl) ?_
          refine run_same (v := Value.slice Aad2_1 ((rd z_api_Segment a0.vSegs y1_0).vBytes).length cad2_1) rfl rfl (r_loadBox rfl Tryz.isAgg42 (HS6.look 0 rfl) rfl) ?_
          refine run_same (v := Value.int .i64 (IntKind.wrap .i64 ((IntKind.wrap .i64 (a1 + ((y1_1.length : Nat) : Int))) - ((rd z_api_Segment a0.vSegs y1_0).vAt)))) rfl rfl (r_move rfl) ?_
          refine run_frame (by simp only [List.set_cons_zero, List.set_cons_succ]; rfl) ?_
          refine run_same (v := Value.pointer (some ⟨b2, 1, none⟩)) rfl rfl (r_fieldBox (n := 1) (o' := 1) rfl Tryz.runUnderlying58 rfl Tryz.sizeOf42 (by decide) rfl) ?_
          refine run_same (v := Value.slice Aad2_1 ((rd z_api_Segment a0.vSegs y1_0).vBytes).length cad2_1) rfl rfl (r_loadBox rfl Tryz.isAgg42 (HS6.look 0 rfl) rfl) ?_
          refine run_same (v := Value.int .i64 (((rd z_api_Segment a0.vSegs y1_0).vBytes).length : Int)) rfl rfl (r_len rfl Tryz.runUnderlying42) ?_
          refine run_same (v := Value.int .i64 (IntKind.wrap .i64 ((IntKind.wrap .i64 (a1 + ((y1_1.length : Nat) : Int))) - ((rd z_api_Segment a0.vSegs y1_0).vAt)))) rfl rfl (r_move rfl) ?_
          refine run_frame (by simp only [List.set_cons_zero, List.set_cons_succ]; rfl) ?_
          refine run_same (v := Value.int .i64 a2) rfl rfl (r_move rfl) ?_
          refine run_same (v := Value.int .i64 (IntKind.wrap .i64 ((IntKind.wrap .i64 ((IntKind.wrap .i64 (a1 + ((y1_1.length : Nat) : Int))) - ((rd z_api_Segment a0.vSegs y1_0).vAt))) + a2))) rfl rfl (r_bin rfl rfl rfl) ?_
          refine run_same (v := Value.slice (rowA oby1_1) y1_1.length cy1_1) rfl rfl (r_move rfl) ?_
          refine run_same (v := Value.int .i64 ((y1_1.length : Nat) : Int)) rfl rfl (r_lenRow rfl Tryz.runUnderlying42) ?_
          refine run_frame (by simp only [List.set_cons_zero, List.set_cons_succ]; rfl) ?_
          refine run_same (v := Value.int .i64 (IntKind.wrap .i64 ((IntKind.wrap .i64 ((IntKind.wrap .i64 ((IntKind.wrap .i64 (a1 + ((y1_1.length : Nat) : Int))) - ((rd z_api_Segment a0.vSegs y1_0).vAt))) + a2)) - ((y1_1.length : Nat) : Int)))) rfl rfl (r_bin rfl rfl rfl) ?_
          refine run_same (v := Value.int .i64 (iMin (((rd z_api_Segment a0.vSegs y1_0).vBytes).length : Int) (IntKind.wrap .i64 ((IntKind.wrap .i64 ((IntKind.wrap .i64 ((IntKind.wrap .i64 (a1 + ((y1_1.length : Nat) : Int))) - ((rd z_api_Segment a0.vSegs y1_0).vAt))) + a2)) - ((y1_1.length : Nat) : Int))))) rfl rfl (r_min rfl rfl) ?_
          obtain ⟨hk1, H⟩ := of_ite H
          obtain ⟨hp1_r, hp1_c⟩ := Rd.part2 hrad2_1 hcad2_1 hk1
          refine run_same (v := Value.slice (partA Aad2_1 cad2_1 (IntKind.wrap .i64 ((IntKind.wrap .i64 (a1 + ((y1_1.length : Nat) : Int))) - ((rd z_api_Segment a0.vSegs y1_0).vAt))).toNat 1) (List.drop (IntKind.wrap .i64 ((IntKind.wrap .i64 (a1 + ((y1_1.length : Nat) : Int))) - ((rd z_api_Segment a0.vSegs y1_0).vAt))).toNat (List.take (iMin (((rd z_api_Segment a0.vSegs y1_0).vBytes).length : Int) (IntKind.wrap .i64 ((IntKind.wrap .i64 ((IntKind.wrap .i64 ((IntKind.wrap .i64 (a1 + ((y1_1.length : Nat) : Int))) - ((rd z_api_Segment a0.vSegs y1_0).vAt))) + a2)) - ((y1_1.length : Nat) : Int)))).toNat ((rd z_api_Segment a0.vSegs y1_0).vBytes))).length (cad2_1 - (IntKind.wrap .i64 ((IntKind.wrap .i64 (a1 + ((y1_1.length : Nat) : Int))) - ((rd z_api_Segment a0.vSegs y1_0).vAt))).toNat)) rfl rfl (r_part2 rfl hcad2_1 Tryz.runUnderlying42 Tryz.sizeOf5 rfl rfl hk1) ?_
          obtain ⟨nw1, sr1, hn1⟩ := src_rd (c := (cad2_1 - (IntKind.wrap .i64 ((IntKind.wrap .i64 (a1 + ((y1_1.length : Nat) : Int))) - ((rd z_api_Segment a0.vSegs y1_0).vAt))).toNat)) one_int Tryz.runUnderlying42 HS6.sees hp1_r
          obtain ⟨hl1, H⟩ := of_ite H
          refine run_app (Kd.int .u8) (q := 1) (cs := csy1_1) rfl rfl Tryz.runUnderlying42 Tryz.typeInfo5 Tryz.zeroValue5 rfl (by decide) rfl sr1 rfl hn1 hl1 HS6 rfl hoy1_1 ?_
          intro w6 ob1 c3 cs1 HS7 ho1
          refine run_frame (by simp only [List.set_cons_zero, List.set_cons_succ]; rfl) ?_
          refine run_same (v := Value.slice (rowA ob1) (y1_1.length + (List.drop (IntKind.wrap .i64 ((IntKind.wrap .i64 (a1 + ((y1_1.length : Nat) : Int))) - ((rd z_api_Segment a0.vSegs y1_0).vAt))).toNat (List.take (iMin (((rd z_api_Segment a0.vSegs y1_0).vBytes).length : Int) (IntKind.wrap .i64 ((IntKind.wrap .i64 ((IntKind.wrap .i64 ((IntKind.wrap .i64 (a1 + ((y1_1.length : Nat) : Int))) - ((rd z_api_Segment a0.vSegs y1_0).vAt))) + a2)) - ((y1_1.length : Nat) : Int)))).toNat ((rd z_api_Segment a0.vSegs y1_0).vBytes))).length) c3) rfl rfl (r_assign rfl) ?_
          try simp only [List.set_cons_zero, List.set_cons_succ]
          refine run_nil ?_
          refine norm_block ?_
          refine norm_then ?_
          refine region ?_
          refine run_same (v := Value.int .i64 y1_0) rfl rfl (r_move rfl) ?_
          refine run_same (v := Value.int .i64 (IntKind.wrap .i64 (y1_0 + 1))) rfl rfl (r_bin rfl rfl rfl) ?_
          refine run_same (v := Value.int .i64 (IntKind.wrap .i64 (y1_0 + 1))) rfl rfl (r_assign rfl) ?_
          try simp only [List.set_cons_zero, List.set_cons_succ]
          refine run_nil ?_
          refine again_j m (Nat.lt_succ_self m) rfl ⟨(IntKind.wrap .i64 (y1_0 + 1)), (y1_1 ++ (List.drop (IntKind.wrap .i64 ((IntKind.wrap .i64 (a1 + ((y1_1.length : Nat) : Int))) - ((rd z_api_Segment a0.vSegs y1_0).vAt))).toNat (List.take (iMin (((rd z_api_Segment a0.vSegs y1_0).vBytes).length : Int) (IntKind.wrap .i64 ((IntKind.wrap .i64 ((IntKind.wrap .i64 ((IntKind.wrap .i64 (a1 + ((y1_1.length : Nat) : Int))) - ((rd z_api_Segment a0.vSegs y1_0).vAt))) + a2)) - ((y1_1.length : Nat) : Int)))).toNat ((rd z_api_Segment a0.vSegs y1_0).vBytes)))), ob1, c3, cs1, (fit (by first | rfl | (rw [ho1.len]; done) | (rw [ho1.len]; rfl))), H, ho1.norm, HS7.tail⟩
      · replace H := of_neg H (nt c1)
        refine wp_exit ?_
        refine exit_then ?_
        obtain rfl := Option.some.inj H
        refine leave_j rfl ⟨_, rfl, oby1_1, cy1_1, csy1_1, (fit rfl), hoy1_1.norm, HS4⟩
  · rintro us w7 ⟨s1, rfl, obo1_0, co1_0, cso1_0, huo1, hoo1_0, HS8⟩
    obtain ⟨uo1, rfl⟩ := unj huo1
    replace H := G1
    clear G1
    try simp only [patch, List.set_cons_zero, List.set_cons_succ]
    refine norm_then ?_
    refine wp_seq ?_
    refine region ?_
    refine run_same (v := Value.slice (rowA obo1_0) s1.length co1_0) rfl rfl (r_move rfl) ?_
    refine run_same (v := Value.slice (rowA obo1_0) s1.length co1_0) rfl rfl (r_assign rfl) ?_
    refine run_same (v := Value.bool true) rfl rfl (r_assign rfl) ?_
    try simp only [List.set_cons_zero, List.set_cons_succ]
    refine run_nil ?_
    refine norm_then ?_
    refine wp_ret ?_
    obtain rfl := Option.some.inj H
    refine bodyPost_ret (results_2 rfl (one_tmp rfl) (one_tmp rfl)) rfl ?_
    obtain ⟨h1, HS9, hs1, rdp1⟩ := row_pub HS8 (i := 0) rfl hoo1_0
    exact ⟨h1, (rowA obo1_0), co1_0, rfl, hoo1_0.cap, rdp1, HS9.gr, HS9.sees, HS9.toE⟩

end Go.Proofs.YtecpbadkdpbkpaaGreatDoor
namespace Go.Proofs.YtecpbadkdpbkpaaGreatDoor
open Go.RowKit Go.M

end Go.Proofs.YtecpbadkdpbkpaaGreatDoor
namespace Go.Proofs.YtecpbadkdpbkpaaGreatDoor
open Go.RowKit Go.M

end Go.Proofs.YtecpbadkdpbkpaaGreatDoor
namespace Go.Proofs.YtecpbadkdpbkpaaGreatDoor
open Go.RowKit Go.M

end Go.Proofs.YtecpbadkdpbkpaaGreatDoor
/- image.Check: its loop runs over a function (segments): the iterator's contract, and the walk of the loop's body in a round. -/
namespace Go.Proofs.YtecpbadkdpbkpaaGreatDoor
open Go.RowKit Go.M
/-- what a round keeps: all cells -/
structure Kc (A B : World) : Prop where
  os : B.os = A.os
  tape : B.tape = A.tape
  output : B.output = A.output
  size : A.heap.size ≤ B.heap.size
  cells : ∀ (k : Nat) (o : Obj), A.heap[k]? = some o → o.isCells = true → B.heap[k]? = some o
theorem Kc.ext {A B : World} (h : Ext A B) : Kc A B := ⟨h.os, h.tape, h.output, h.size, fun k o hk _ => (h.block k (Array.getElem?_eq_some_iff.1 hk).1).trans hk⟩
theorem Kc.trans {A B C : World} (h : Kc A B) (k : Kc B C) : Kc A C :=
  ⟨k.os.trans h.os, k.tape.trans h.tape, k.output.trans h.output, Nat.le_trans h.size k.size, fun i o hi ho => k.cells i o (h.cells i o hi ho) ho⟩
theorem Kc.sees {A B : World} {h : View} (k : Kc A B) (hs : Sees h A) : Sees h B := fun a v e => by
  have hc := hs a v e
  unfold World.cell? at hc ⊢
  cases ho : A.heap[a.block]? with
  | none => simp [ho] at hc
  | some o =>
    cases o with
    | cells vs t f => rw [k.cells _ _ ho rfl]; rw [ho] at hc; exact hc
    | _ => simp [ho] at hc
theorem Kc.put (W : World) (l : Nat) (o o' : Obj) (hl : W.heap[l]? = some o) (hc : o.isCells = false) : Kc W (W.putObj l o') :=
  ⟨rfl, rfl, rfl, by simp [World.putObj], fun k p hk hp => by
    by_cases e : k = l
    · subst e; rw [hl] at hk; cases hk; rw [hc] at hp; cases hp
    · exact (World.putObj_heap_other e).trans hk⟩
/-- what a round is handed: where the segment ahead ends, and the segment -/
abbrev SegR (h0 : View) := { x : Int × api_Segment × Option Addr × Nat // Rd (Kd.int .u8) h0 x.2.2.1 x.2.1.vBytes ∧ x.2.1.vBytes.length ≤ x.2.2.2 }
def SegR.enc {h0 : View} (x : SegR h0) : Array Value := #[.int .i64 x.1.1, .agg #[.int .i64 x.1.2.1.vAt, .slice x.1.2.2.1 x.1.2.1.vBytes.length x.1.2.2.2]]
def SegR.of {h0 : View} (x : SegR h0) : Int × api_Segment := (x.1.1, x.1.2.1)
def segEnd (s : api_Segment) : Int := IntKind.wrap .i64 (s.vAt + (s.vBytes.length : Int))
def segPairs : Int → List api_Segment → List (Int × api_Segment)
  | _, [] => []
  | f, s :: r => (f, s) :: segPairs (segEnd s) r
theorem rd_at {α : Type} (z : α) (xs : List α) (i : Nat) (h : i < xs.length) : xs.drop i = rd z xs (i : Int) :: xs.drop (i + 1) := by
  rw [List.drop_eq_getElem_cons h]; congr 1; simp [rd, List.getD, h]
set_option maxRecDepth 20000 in
set_option maxHeartbeats 4000000 in
theorem segs_stops {h0 : View} (x0 : api_Image) (bx0 : Nat) (Ax0_0 : Option Addr) (cx0_0 : Nat) {w0 : World} (n : Nat) (hv : Sees h0 w0) (hrx0_0 : Rd k_api_Segment h0 Ax0_0 x0.vSegs) (hcx0_0 : x0.vSegs.length ≤ cx0_0) (hx0 : w0.heap[bx0]? = some (.cells #[Value.slice Ax0_0 x0.vSegs.length cx0_0] 27 (0, 0))) (hN : x0.vSegs.length ≤ 200) :
    SeqStopsK Fence.wide n Tryz.prog 94 #[Value.pointer (some ⟨bx0, 0, none⟩)] (SegR.enc (h0 := h0)) Kc (fun xs => xs.map SegR.of = segPairs 0 x0.vSegs) (fun pre => pre.map SegR.of <+: segPairs 0 x0.vSegs) x0.vSegs.length w0 := by
  intro l J Jx W hW hJ hJx hY hJ0
  refine callsIn_wide.2 ?_
  have hE0 : Ext w0 W := hW
  have HS : St [] h0 W h0 [] W := St.init (hv.ext hE0)
  have JE : ∀ {A B : World} {pre : List (SegR h0)}, J pre A → Ext A B → J pre B := fun hj hE => hJ _ _ _ none hj ⟨hE.os, hE.tape, hE.output, hE.size, fun k hk _ => hE.block k hk⟩ (fun r e => by cases e)
  show Calls Tryz.prog 94 #[.func (.yield l) #[] #[], Value.pointer (some ⟨bx0, 0, none⟩)] W _
  go_enter Tryz.func94, Tryz.ntmps94
  refine wp_seq ?_
  refine region ?_
  refine run_same (v := Value.int .i64 0) rfl rfl (r_assign rfl) ?_
  try simp only [List.set_cons_zero, List.set_cons_succ]
  refine run_nil ?_
  refine norm_then ?_
  refine wp_seq ?_
  refine region ?_
  refine run_same (v := Value.pointer (some ⟨bx0, 0, none⟩)) rfl rfl (r_fieldBox (n := 1) (o' := 0) rfl Tryz.runUnderlying27 rfl Tryz.sizeOf25 (by decide) rfl) ?_
  refine run_same (v := Value.slice Ax0_0 x0.vSegs.length cx0_0) rfl rfl (r_loadBox rfl Tryz.isAgg25 (heap_ext hx0 hE0) rfl) ?_
  refine run_same (v := Value.int .i64 (x0.vSegs.length : Int)) rfl rfl (r_len rfl Tryz.runUnderlying25) ?_
  refine run_same (v := Value.int .i64 0) rfl rfl (r_move rfl) ?_
  try simp only [List.set_cons_zero, List.set_cons_succ]
  refine run_nil ?_
  refine norm_then ?_
  have key : ∀ (pre : List (SegR h0)) (y : Int) (i : Nat) (A1 : Option Addr) (c1 : Nat) (hx : Rd (Kd.int .u8) h0 A1 (rd z_api_Segment x0.vSegs (i : Int)).vBytes ∧ (rd z_api_Segment x0.vSegs (i : Int)).vBytes.length ≤ c1), i < x0.vSegs.length →
      pre.map SegR.of ++ segPairs y (x0.vSegs.drop i) = segPairs 0 x0.vSegs → (pre ++ [(⟨(y, rd z_api_Segment x0.vSegs (i : Int), A1, c1), hx⟩ : SegR h0)]).map SegR.of ++ segPairs (segEnd (rd z_api_Segment x0.vSegs (i : Int))) (x0.vSegs.drop (i + 1)) = segPairs 0 x0.vSegs := by
    intro pre y i A1 c1 hx hi hp
    rw [← hp, rd_at z_api_Segment x0.vSegs i hi]
    simp [segPairs, SegR.of]
  refine loop_j [3, 5, 9, 10, 11, 12, 13, 14, 15, 16, 17, 18, 19, 20] (fun m us w' => ∃ (y1_0 : Int) (i : Nat) (pre : List (SegR h0)), Fit us (fun uy1 => [Value.int .i64 y1_0, (uy1 1), Value.int .i64 (i : Int), (uy1 3), (uy1 4), (uy1 5), (uy1 6), (uy1 7), (uy1 8), (uy1 9), (uy1 10), (uy1 11), (uy1 12), (uy1 13)]) ∧ m + i = x0.vSegs.length + 1 ∧ i ≤ x0.vSegs.length ∧ pre.length = i ∧ pre.map SegR.of ++ segPairs y1_0 (x0.vSegs.drop i) = segPairs 0 x0.vSegs ∧ J pre w' ∧ Sees h0 w') (fun us w' => ∃ (pre : List (SegR h0)), Fit us (fun uo1 => [(uo1 0), (uo1 1), (uo1 2), (uo1 3), (uo1 4), (uo1 5), (uo1 6), (uo1 7), (uo1 8), (uo1 9), (uo1 10), (uo1 11), (uo1 12), (uo1 13)]) ∧ pre.map SegR.of = segPairs 0 x0.vSegs ∧ J pre w') (x0.vSegs.length + 1) ⟨0, 0, [], (fit rfl), rfl, Nat.zero_le _, rfl, rfl, hJ0, HS.sees⟩ ?_ ?_
  · rintro m us w1 ⟨y1_0, i, pre, huy1, hm, hi, hpl, hp, hj, hs1⟩
    obtain ⟨uy1, rfl⟩ := unj huy1
    cases m with
    | zero => omega
    | succ m =>
      have HS1 : St [] h0 w1 h0 [] w1 := St.init hs1
      try simp only [patch, List.set_cons_zero, List.set_cons_succ]
      refine wp_seq ?_
      refine region ?_
      refine run_same (v := Value.bool (decide ((i : Int) < (x0.vSegs.length : Int)))) rfl rfl (r_bin rfl rfl rfl) ?_
      try simp only [List.set_cons_zero, List.set_cons_succ]
      refine run_nil ?_
      refine norm_then ?_
      refine wp_seq ?_
      refine wp_cond_split (t := (decide ((i : Int) < (x0.vSegs.length : Int)))) rfl (fun c1 => ?_) (fun c1 => ?_)
      · have hi1 : 0 ≤ (i : Int) ∧ (i : Int) < x0.vSegs.length := ⟨Int.natCast_nonneg i, of_decide_eq_true c1⟩
        have hlt : i < x0.vSegs.length := by omega
        refine wp_skip ?_
        refine norm_then ?_
        refine wp_seq ?_
        refine wp_block ?_
        refine wp_seq ?_
        refine region ?_
        obtain ⟨ad1, Aad1_1, cad1_1, e1, hel1, hcad1_1, hrad1_1⟩ := ld_api_Segment hrx0_0 hi1.1 hi1.2
        refine run_same (v := Value.pointer (some (Addr.add ad1 ((i : Int).toNat * 2)))) rfl rfl (r_indexA (sz := 2) rfl e1 rfl hi1.1 hi1.2 Tryz.runUnderlying25 Tryz.sizeOf58) ?_
        refine run_same (v := Value.agg #[Value.int .i64 ((rd z_api_Segment x0.vSegs (i : Int)).vAt), Value.slice Aad1_1 ((rd z_api_Segment x0.vSegs (i : Int)).vBytes).length cad1_1]) rfl rfl (r_loadAgg rfl Tryz.isAgg58 (hel1.sees HS1.sees) Tryz.sizeOf58) ?_
        refine run_ex rfl rfl (does_alloc (cs := #[Value.int .i64 0, Value.slice none 0 0]) Tryz.zeroValue58 rfl) ?_
        rintro w2 _ hE1 ⟨b1, rfl, ge1, hb1⟩
        have HS2 := HS1.new hE1 ge1 hb1
        refine run_st (i := 0) (cs := [Value.int .i64 0, Value.slice none 0 0]) (cs' := [Value.int .i64 ((rd z_api_Segment x0.vSegs (i : Int)).vAt), Value.slice Aad1_1 ((rd z_api_Segment x0.vSegs (i : Int)).vBytes).length cad1_1]) (vs := [Value.int .i64 ((rd z_api_Segment x0.vSegs (i : Int)).vAt), Value.slice Aad1_1 ((rd z_api_Segment x0.vSegs (i : Int)).vBytes).length cad1_1]) (bs' := [(some b1, .cells #[Value.int .i64 ((rd z_api_Segment x0.vSegs (i : Int)).vAt), Value.slice Aad1_1 ((rd z_api_Segment x0.vSegs (i : Int)).vBytes).length cad1_1] 58 (0, 0))]) rfl rfl Tryz.sizeOf58 rfl rfl (by decide) rfl HS2 rfl (Nat.le_of_ble_eq_true rfl) rfl rfl ?_
        intro w3 HS3
        try simp only [List.set_cons_zero, List.set_cons_succ]
        refine run_nil ?_
        refine norm_then ?_
        refine wp_seq ?_
        refine wp_seq ?_
        refine region_yield_at (by rintro ⟨a, w, ⟨⟨v, hv⟩, _⟩⟩; cases hv) n 3 rfl rfl rfl rfl ?_
        simp only [List.take_succ_cons, List.take_zero, List.drop_succ_cons, List.drop_zero]
        refine run_same (v := Value.func (.yield l) #[] #[]) rfl rfl (r_move rfl) ?_
        refine run_same (v := Value.int .i64 y1_0) rfl rfl (r_move rfl) ?_
        refine run_same (v := Value.agg #[Value.int .i64 ((rd z_api_Segment x0.vSegs (i : Int)).vAt), Value.slice Aad1_1 ((rd z_api_Segment x0.vSegs (i : Int)).vBytes).length cad1_1]) rfl rfl (r_loadBoxAgg (n := 2) (vs := [Value.int .i64 ((rd z_api_Segment x0.vSegs (i : Int)).vAt), Value.slice Aad1_1 ((rd z_api_Segment x0.vSegs (i : Int)).vBytes).length cad1_1]) rfl Tryz.isAgg58 (HS3.look 0 rfl) Tryz.sizeOf58 rfl rfl) ?_
        try simp only [List.set_cons_zero, List.set_cons_succ]
        refine run_nil ?_
        refine norm_then ?_
        obtain ⟨fn, tmps, assign, bd, hy, hR⟩ := hY pre ⟨(y1_0, (rd z_api_Segment x0.vSegs (i : Int)), Aad1_1, cad1_1), hrad1_1, hcad1_1⟩ w3 (JE hj HS3.toE) (by rw [hpl]; exact hlt)
        refine ⟨_, rfl, l, fn, tmps, assign, bd, ?_, hR.mono ?_⟩
        · exact r_yield rfl rfl hy
        rintro e w4 (⟨rfl, hj4, hk4⟩ | ⟨rfl, hx4⟩)
        · refine ⟨_, rfl, ?_⟩
          have hs4 : Sees h0 w4 := hk4.sees HS3.sees
          have hb4 : w4.heap[b1]? = some (.cells #[Value.int .i64 ((rd z_api_Segment x0.vSegs (i : Int)).vAt), Value.slice Aad1_1 ((rd z_api_Segment x0.vSegs (i : Int)).vBytes).length cad1_1] 58 (0, 0)) := hk4.cells _ _ (HS3.look 0 rfl) rfl
          refine run_same (v := Value.bool (!true)) rfl rfl (r_not rfl) ?_
          try simp only [List.set_cons_zero, List.set_cons_succ]
          refine run_nil ?_
          refine norm_then ?_
          refine wp_cond_split (t := (!true)) rfl (fun c2 => ?_) (fun c2 => ?_)
          · exact absurd c2 (by simp)
          · refine wp_skip ?_
            refine norm_then ?_
            refine region ?_
            refine run_same (v := Value.agg #[Value.int .i64 ((rd z_api_Segment x0.vSegs (i : Int)).vAt), Value.slice Aad1_1 ((rd z_api_Segment x0.vSegs (i : Int)).vBytes).length cad1_1]) rfl rfl (r_loadBoxAgg (n := 2) (vs := [Value.int .i64 ((rd z_api_Segment x0.vSegs (i : Int)).vAt), Value.slice Aad1_1 ((rd z_api_Segment x0.vSegs (i : Int)).vBytes).length cad1_1]) rfl Tryz.isAgg58 (hb4) Tryz.sizeOf58 rfl rfl) ?_
            refine run_eq (v := Value.int .i64 (segEnd (rd z_api_Segment x0.vSegs (i : Int)))) rfl rfl (does_call_eq Tryz.call93 rfl rfl (image_end.calls (rd z_api_Segment x0.vSegs (i : Int)) Aad1_1 cad1_1 hs4 hrad1_1 hcad1_1 rfl)) ?_
            intro w5 hE3
            refine run_same (v := Value.int .i64 (segEnd (rd z_api_Segment x0.vSegs (i : Int)))) rfl rfl (r_assign rfl) ?_
            try simp only [List.set_cons_zero, List.set_cons_succ]
            refine run_nil ?_
            refine norm_block ?_
            refine norm_then ?_
            refine region ?_
            refine run_same (v := Value.int .i64 (IntKind.wrap .i64 ((i : Int) + 1))) rfl rfl (r_bin rfl rfl rfl) ?_
            refine run_same (v := Value.int .i64 (IntKind.wrap .i64 ((i : Int) + 1))) rfl rfl (r_move rfl) ?_
            try simp only [List.set_cons_zero, List.set_cons_succ]
            refine run_nil ?_
            refine again_j m (Nat.lt_succ_self m) rfl ⟨segEnd (rd z_api_Segment x0.vSegs (i : Int)), i + 1, pre ++ [⟨(y1_0, (rd z_api_Segment x0.vSegs (i : Int)), Aad1_1, cad1_1), hrad1_1, hcad1_1⟩], fit ?_, by omega, by omega, by simp [hpl], key _ _ _ _ _ _ hlt hp, JE hj4 hE3, hs4.ext hE3⟩
            have hw : IntKind.wrap .i64 ((i : Int) + 1) = ((i + 1 : Nat) : Int) := wrap_nat (n := 300) (by omega) (by omega)
            rw [hw]; rfl
        · refine ⟨_, rfl, ?_⟩
          refine run_same (v := Value.bool (!false)) rfl rfl (r_not rfl) ?_
          try simp only [List.set_cons_zero, List.set_cons_succ]
          refine run_nil ?_
          refine norm_then ?_
          refine wp_cond_split (t := (!false)) rfl (fun c2 => ?_) (fun c2 => ?_)
          · refine wp_ret ?_
            refine ret_then ?_
            refine ret_block ?_
            refine ret_then ?_
            refine ret_loop ?_
            refine bodyPost_ret (results_none rfl _ _ _) rfl ?_
            exact ⟨⟨_, rfl⟩, .inr ⟨_, ⟨_, key _ _ _ _ _ _ hlt hp⟩, hx4⟩⟩
          · exact absurd c2 (by simp)
      · refine wp_exit ?_
        refine exit_then ?_
        have he : i = x0.vSegs.length := by have := of_decide_eq_false c1; omega
        subst he
        refine leave_j rfl ⟨pre, (fit rfl), by simpa [segPairs] using hp, hj⟩
  · rintro us w6 ⟨pre, huo1, hp, hj⟩
    obtain ⟨uo1, rfl⟩ := unj huo1
    try simp only [patch, List.set_cons_zero, List.set_cons_succ]
    refine bodyPost_end (results_none rfl _ _ _) rfl ?_
    exact ⟨⟨_, rfl⟩, .inl ⟨pre, hp, hj⟩⟩
/-- a bad segment -/
def badSeg (f : Int) (s : api_Segment) : Bool := ((((s.vBytes.length : Int) == 0) || (decide ((s.vBytes.length : Int) > 512))) || (decide (s.vAt < f))) || (decide (s.vAt > 1099511627776))
def chkSegs : Int → List api_Segment → Int
  | _, [] => 0
  | f, s :: r => if badSeg f s = true then 90 else chkSegs (segEnd s) r
def image_Check.f (a0 : api_Image) : Option Int := if (decide ((a0.vSegs.length : Int) > 200)) = true then some 90 else some (chkSegs 0 a0.vSegs)
theorem chk_ok : ∀ (l : List api_Segment) (f : Int), (∀ p ∈ segPairs f l, badSeg p.1 p.2 = false) → chkSegs f l = 0 := by
  intro l
  induction l with
  | nil => intro f _; rfl
  | cons s r ih =>
    intro f h
    rw [chkSegs, if_neg (by rw [h (f, s) (by simp [segPairs])]; simp)]
    exact ih _ fun p hp => h p (by simp [segPairs, hp])
theorem chk_bad : ∀ (q : List (Int × api_Segment)) (l : List api_Segment) (f : Int) (x : Int × api_Segment) (t : List (Int × api_Segment)), segPairs f l = q ++ x :: t → (∀ p ∈ q, badSeg p.1 p.2 = false) → badSeg x.1 x.2 = true → chkSegs f l = 90 := by
  intro q
  induction q with
  | nil =>
    intro l f x t h _ hb
    cases l with
    | nil => simp [segPairs] at h
    | cons s r => simp [segPairs] at h; obtain ⟨rfl, _⟩ := h; rw [chkSegs, if_pos hb]
  | cons y q ih =>
    intro l f x t h hg hb
    cases l with
    | nil => simp [segPairs] at h
    | cons s r =>
      simp [segPairs] at h
      obtain ⟨rfl, h⟩ := h
      rw [chkSegs, if_neg (by rw [hg (f, s) (by simp)]; simp)]
      exact ih r _ x t h (fun p hp => hg p (by simp [hp])) hb
set_option maxRecDepth 20000 in
set_option maxHeartbeats 4000000 in
theorem image_segments.calls (a0 : api_Image) (A0_0 : Option Addr) (c0_0 : Nat) {h0 : View} {w0 : World} (hv : Sees h0 w0) :
    Calls Tryz.prog 60 #[Value.agg #[Value.slice A0_0 a0.vSegs.length c0_0]] w0 (fun e w1 => ∃ v, e = .returned v ∧ (∃ b, v = .func (.func 94) #[] #[.pointer (some ⟨b, 0, none⟩)] ∧ w1.heap[b]? = some (.cells #[Value.slice A0_0 a0.vSegs.length c0_0] 27 (0, 0))) ∧ Ext w0 w1) := by
  have HS : St [] h0 w0 h0 [] w0 := St.init hv
  go_enter Tryz.func60, Tryz.ntmps60
  refine wp_seq ?_
  refine region ?_
  refine run_ex rfl rfl (does_box (cs := #[Value.slice A0_0 a0.vSegs.length c0_0]) rfl rfl) ?_
  rintro w1 _ hE1 ⟨b1, rfl, ge1, hb1⟩
  have HS1 := HS.new hE1 ge1 hb1
  refine run_same (v := Value.nilFunc) rfl rfl (r_assign rfl) ?_
  try simp only [List.set_cons_zero, List.set_cons_succ]
  refine run_nil ?_
  refine norm_then ?_
  refine wp_seq ?_
  refine region ?_
  refine run_same (v := Value.func (.func 94) #[] #[.pointer (some ⟨b1, 0, none⟩)]) rfl rfl (r_makeFunc rfl) ?_
  refine run_same (v := Value.func (.func 94) #[] #[.pointer (some ⟨b1, 0, none⟩)]) rfl rfl (r_assign rfl) ?_
  try simp only [List.set_cons_zero, List.set_cons_succ]
  refine run_nil ?_
  refine norm_then ?_
  refine wp_ret ?_
  refine bodyPost_ret (results_1 rfl (one_tmp rfl)) rfl ?_
  exact ⟨_, rfl, ⟨b1, rfl, hb1⟩, HS1.toE⟩
theorem keepsFrom_ext {B : Nat} {W W' : World} (h : Ext W W') : KeepsFrom B W W' := ⟨h.size, fun k o _ hk _ => (h.block k (Array.getElem?_eq_some_iff.1 hk).1).trans hk⟩
theorem own_cells {β : Type} {B b : Nat} {vs : Array Value} {t : TypeId} {fr : Nat × Nat} : OwnFrom B (fun (_ : β) W => W.heap[b]? = some (.cells vs t fr)) := fun s W W' row hs hg hr => by
  refine (hg.block b (Array.getElem?_eq_some_iff.1 hs).1 fun e => ?_).trans hs
  obtain ⟨_, o, ho, hc⟩ := hr b e.symm
  rw [hs] at ho; cases ho; cases hc
theorem St_of {h0 : View} {W : World} {b : Nat} {o : Obj} (hs : Sees h0 W) (hb : W.heap[b]? = some o) (hu : ∀ a : Addr, a.block = b → h0 a = none) : St [b] h0 W h0 [(some b, o)] W :=
  ⟨hs, Gr.rfl' _ _, ExtB.rfl' _ _, fun x hx => by obtain rfl := List.mem_singleton.1 hx; exact ⟨hb, .inr (by simp), hu⟩, by simp [blocks]⟩
theorem ext_of {w0 W w4 : World} {b : Nat} (h : Ext w0 W) (k : ExtB [b] W w4) (hb : w0.heap.size ≤ b) : Ext w0 w4 :=
  ⟨k.os.trans h.os, k.tape.trans h.tape, k.output.trans h.output, Nat.le_trans h.size k.size, fun i hi => (k.block i (Nat.lt_of_lt_of_le hi h.size) (by simp; omega)).trans (h.block i hi)⟩
theorem ext_put {w0 W : World} {D : Nat} {o : Obj} (h : Ext w0 W) (hD : w0.heap.size ≤ D) : Ext w0 (W.putObj D o) :=
  ⟨h.os, h.tape, h.output, by simpa [World.putObj] using h.size, fun i hi => (World.putObj_heap_other (by omega)).trans (h.block i hi)⟩
set_option maxRecDepth 20000 in
set_option maxHeartbeats 8000000 in
theorem image_Check.calls (a0 : api_Image) (A0_0 : Option Addr) (c0_0 : Nat) {h0 : View} {w0 : World} (hv : Sees h0 w0) (hr0_0 : Rd k_api_Segment h0 A0_0 a0.vSegs) (hc0_0 : a0.vSegs.length ≤ c0_0) {r : Int} (H : image_Check.f a0 = some r) :
    Calls Tryz.prog 26 #[Value.agg #[Value.slice A0_0 a0.vSegs.length c0_0]] w0 (fun e w1 => e = .returned (Value.int .i64 r) ∧ Ext w0 w1) := by
  unfold image_Check.f at H
  have HS : St [] h0 w0 h0 [] w0 := St.init hv
  refine callsIn_wide.1 (callsIn_of_wp_marks (n := 3) Tryz.func26 rfl trivial ?_ rfl)
  simp only [Tryz.ntmps26, List.size_toArray, List.length_cons, List.length_nil, Nat.reduceAdd, Nat.reduceSub, Array.replicate_succ, Array.replicate_zero, List.push_toArray, List.append_toArray, List.nil_append, List.cons_append]
  refine wpIn_wide.2 ?_
  refine wp_seq ?_
  refine region ?_
  refine run_ex rfl rfl (does_box (cs := #[Value.slice A0_0 a0.vSegs.length c0_0]) rfl rfl) ?_
  rintro w1 _ hE1 ⟨b1, rfl, ge1, hb1⟩
  have HS1 := HS.new hE1 ge1 hb1
  refine run_ex rfl rfl (does_alloc (cs := #[Value.int .i64 0]) Tryz.zeroValue34 rfl) ?_
  rintro w2 _ hE2 ⟨b2, rfl, ge2, hb2⟩
  have HS2 := HS1.new hE2 ge2 hb2
  try simp only [List.set_cons_zero, List.set_cons_succ]
  refine run_nil ?_
  refine norm_then ?_
  refine wp_seq ?_
  refine wp_seq ?_
  refine region ?_
  refine run_same (v := Value.pointer (some ⟨b1, 0, none⟩)) rfl rfl (r_fieldBox (n := 1) (o' := 0) rfl Tryz.runUnderlying27 rfl Tryz.sizeOf25 (by decide) rfl) ?_
  refine run_same (v := Value.slice A0_0 a0.vSegs.length c0_0) rfl rfl (r_loadBox rfl Tryz.isAgg25 (HS2.look 1 rfl) rfl) ?_
  refine run_same (v := Value.int .i64 (a0.vSegs.length : Int)) rfl rfl (r_len rfl Tryz.runUnderlying25) ?_
  refine run_same (v := Value.bool (decide ((a0.vSegs.length : Int) > 200))) rfl rfl (r_bin rfl rfl rfl) ?_
  try simp only [List.set_cons_zero, List.set_cons_succ]
  refine run_nil ?_
  refine norm_then ?_
  refine wp_cond_split (t := (decide ((a0.vSegs.length : Int) > 200))) rfl (fun c1 => ?_) (fun c1 => ?_)
  · replace H := of_pos H c1
    refine wp_seq ?_
    refine region ?_
    refine run_st (i := 0) (cs := [Value.int .i64 0]) (cs' := [Value.int .i64 90]) (vs := [Value.int .i64 90]) (bs' := [(some b2, .cells #[Value.int .i64 90] 34 (0, 0)), (some b1, .cells #[Value.slice A0_0 a0.vSegs.length c0_0] 27 (0, 0))]) rfl rfl Tryz.sizeOf34 rfl rfl (by decide) rfl HS2 rfl (Nat.le_of_ble_eq_true rfl) rfl rfl ?_
    intro w3 HS3
    try simp only [List.set_cons_zero, List.set_cons_succ]
    refine run_nil ?_
    refine norm_then ?_
    refine wp_ret ?_
    refine ret_then ?_
    obtain rfl := Option.some.inj H
    exact ⟨_, results_1 rfl (one_cell rfl Tryz.isAgg34 (HS3.look 0 rfl)), rfl, HS3.toE⟩
  · replace H := of_neg H (nt c1)
    have hlen : a0.vSegs.length ≤ 200 := by have := of_decide_eq_false c1; omega
    refine wp_skip ?_
    refine norm_then ?_
    refine wp_seq ?_
    refine wp_seq ?_
    refine region ?_
    refine run_same (v := Value.agg #[Value.slice A0_0 a0.vSegs.length c0_0]) rfl rfl (r_loadBoxAgg (n := 1) (vs := [Value.slice A0_0 a0.vSegs.length c0_0]) rfl Tryz.isAgg27 (HS2.look 1 rfl) Tryz.sizeOf27 rfl rfl) ?_
    refine run_ex (φ := fun w1 v => ∃ b, v = .func (.func 94) #[] #[.pointer (some ⟨b, 0, none⟩)] ∧ w1.heap[b]? = some (.cells #[Value.slice A0_0 a0.vSegs.length c0_0] 27 (0, 0))) rfl rfl (does_call Tryz.call60 rfl (image_segments.calls a0 A0_0 c0_0 HS2.sees) rfl) ?_
    rintro w3 _ hE3 ⟨b3, rfl, hb3⟩
    have HS3 := HS2.step hE3
    try simp only [List.set_cons_zero, List.set_cons_succ]
    refine run_nil ?_
    refine norm_then ?_
    refine wp_block ?_
    have hb2' : w3.heap[b2]? = some (.cells #[Value.int .i64 0] 34 (0, 0)) := HS3.look 0 rfl
    have hB : Ext w0 w3 := HS3.toE
    have hlt2 : b2 < w3.heap.size := (Array.getElem?_eq_some_iff.1 hb2').1
    have hge2 : w0.heap.size ≤ b2 := Nat.le_trans HS1.ext.size ge2
    refine wpIn_wide.1 (wpIn_rangeFunc_ownH (F := Fence.wide) (n := 3) rfl (by omega) (gf := 94) (lb := #[Value.pointer (some ⟨b3, 0, none⟩)]) rfl trivial Tryz.call94
      (segs_stops a0 b3 A0_0 c0_0 (3 - 1) HS3.sees hr0_0 hc0_0 hb3 hlen) (fun h k => Kc.trans h k) (fun W l o o' _ h1 h2 _ => Kc.put W l o o' h1 h2) (Below.refl _ _) (fun _ => rfl)
      (fun pre W => (Below w0.heap.size w0 W ∧ W.heap[b2]? = some (.cells #[Value.int .i64 0] 34 (0, 0))) ∧ ∀ x ∈ pre, badSeg (SegR.of x).1 (SegR.of x).2 = false)
      (fun c pre W => (Below w0.heap.size w0 W ∧ W.heap[b2]? = some (.cells #[Value.int .i64 90] 34 (0, 0))) ∧ c = .ret ∧ ∃ q x, pre = q ++ [x] ∧ (∀ y ∈ q, badSeg (SegR.of y).1 (SegR.of y).2 = false) ∧ badSeg (SegR.of x).1 (SegR.of x).2 = true)
      (((ownFrom_below (Nat.le_refl _) hB.size).and own_cells).and (ownFrom_pure _ _)) (fun c => ((ownFrom_below (Nat.le_refl _) hB.size).and own_cells).and (ownFrom_pure _ _))
      ⟨⟨hB, hb2'⟩, by simp⟩
      (fun x a' W => (∃ b4, W.heap[b4]? = some (.cells #[Value.int .i64 x.1.2.1.vAt, Value.slice x.1.2.2.1 x.1.2.1.vBytes.length x.1.2.2.2] 58 (0, 0)) ∧ a' = ⟨[Value.agg #[Value.slice A0_0 a0.vSegs.length c0_0], Value.pointer (some ⟨b1, 0, none⟩), Value.pointer (some ⟨b2, 0, none⟩), Value.int .i64 x.1.1, Value.pointer (some ⟨b4, 0, none⟩), Value.pointer (some ⟨b1, 0, none⟩), Value.slice A0_0 a0.vSegs.length c0_0, Value.int .i64 (a0.vSegs.length : Int), Value.bool (decide ((a0.vSegs.length : Int) > 200)), Value.agg #[Value.slice A0_0 a0.vSegs.length c0_0], Value.func (.func 94) #[] #[.pointer (some ⟨b3, 0, none⟩)], Value.int .i64 x.1.1, Value.agg #[Value.int .i64 x.1.2.1.vAt, Value.slice x.1.2.2.1 x.1.2.1.vBytes.length x.1.2.2.2], undef, undef, undef, undef, undef, undef, undef, undef, undef, undef, undef, undef, undef, undef, undef, undef, undef, undef, undef, undef, undef].toArray, []⟩))
      (fun x a' => by rintro s W W' row ⟨b4, hb4, rfl⟩ hg hr; exact ⟨b4, own_cells s W W' row hb4 hg hr, rfl⟩) ?assign ?body ?done ?stop)
    case assign =>
      intro l pre x W K hI hK
      have hs : Sees h0 W := hv.ext hI.1.1
      have HW : St [] h0 W h0 [] W := St.init hs
      have e : ∀ (l : List Value), ((#[11, 12] : Array Tmp).zip (SegR.enc x)).foldl (fun t (p, v) => t.setIfInBounds p v) l.toArray = ((l.set 11 (.int .i64 x.1.1)).set 12 (.agg #[.int .i64 x.1.2.1.vAt, .slice x.1.2.2.1 x.1.2.1.vBytes.length x.1.2.2.2])).toArray := by
        intro l; simp [SegR.enc]
      rw [e]
      simp only [List.set_cons_zero, List.set_cons_succ]
      refine wpIn_seq ?_
      refine regionIn (.inr ⟨l, rfl⟩) (by rintro ⟨a, w, h⟩; exact h) (noDefer_of rfl) ?_
      refine run_same (v := Value.int .i64 x.1.1) rfl rfl (r_assign rfl) ?_
      try simp only [List.set_cons_zero, List.set_cons_succ]
      refine run_nil ?_
      refine norm_then ?_
      refine norm_then ?_
      refine regionIn (.inr ⟨l, rfl⟩) (by rintro ⟨a, w, h⟩; exact h) (noDefer_of rfl) ?_
      refine run_ex rfl rfl (does_alloc (cs := #[Value.int .i64 0, Value.slice none 0 0]) Tryz.zeroValue58 rfl) ?_
      rintro w4 _ hE4 ⟨b4, rfl, ge4, hb4⟩
      have HS4 := HW.new hE4 ge4 hb4
      refine run_st (i := 0) (cs := [Value.int .i64 0, Value.slice none 0 0]) (cs' := [Value.int .i64 x.1.2.1.vAt, Value.slice x.1.2.2.1 x.1.2.1.vBytes.length x.1.2.2.2]) (vs := [Value.int .i64 x.1.2.1.vAt, Value.slice x.1.2.2.1 x.1.2.1.vBytes.length x.1.2.2.2]) (bs' := [(some b4, .cells #[Value.int .i64 x.1.2.1.vAt, Value.slice x.1.2.2.1 x.1.2.1.vBytes.length x.1.2.2.2] 58 (0, 0))]) rfl rfl Tryz.sizeOf58 rfl rfl (by decide) rfl HS4 rfl (Nat.le_of_ble_eq_true rfl) rfl rfl ?_
      intro w5 HS5
      try simp only [List.set_cons_zero, List.set_cons_succ]
      refine run_nil ?_
      refine norm_then ?_
      refine norm_then ?_
      exact hK _ _ (keepsFrom_ext HS5.toE) (Kc.ext HS5.toE) ⟨⟨Ext.then hI.1.1 HS5.toE, heap_ext hI.1.2 HS5.toE⟩, hI.2⟩ ⟨b4, HS5.look 0 rfl, rfl⟩
    case body =>
      rintro l pre x a' W hl ⟨r', hr'⟩ ⟨⟨hB2, hb2W⟩, hpre⟩ ⟨b4, hb4, rfl⟩ hlt
      have hs : Sees h0 W := hv.ext hB2
      refine wpIn_block ?_
      refine wpIn_seq ?_
      refine regionIn (.inr ⟨l, rfl⟩) (by rintro ⟨a, w, h⟩; exact h) (noDefer_of rfl) ?_
      refine run_same (v := Value.pointer (some ⟨b4, 1, none⟩)) rfl rfl (r_fieldBox (n := 1) (o' := 1) rfl Tryz.runUnderlying58 rfl Tryz.sizeOf42 (by decide) rfl) ?_
      refine run_same (v := Value.slice x.1.2.2.1 (x.1.2.1.vBytes).length x.1.2.2.2) rfl rfl (r_loadBox rfl Tryz.isAgg42 hb4 rfl) ?_
      refine run_same (v := Value.int .i64 ((x.1.2.1.vBytes).length : Int)) rfl rfl (r_len rfl Tryz.runUnderlying42) ?_
      refine run_same (v := Value.bool (((x.1.2.1.vBytes).length : Int) == 0)) rfl rfl (r_bin rfl rfl rfl) ?_
      refine run_frame (by simp only [List.set_cons_zero, List.set_cons_succ]; rfl) ?_
      refine run_same (v := Value.bool (((x.1.2.1.vBytes).length : Int) == 0)) rfl rfl (r_move rfl) ?_
      refine run_g_same (b := (((x.1.2.1.vBytes).length : Int) == 0)) (c := true) (v := Value.pointer (some ⟨b4, 1, none⟩)) rfl rfl rfl rfl (fun hg => (r_fieldBox (n := 1) (o' := 1) rfl Tryz.runUnderlying58 rfl Tryz.sizeOf42 (by decide) rfl)) ?_
      refine run_g_same (b := (((x.1.2.1.vBytes).length : Int) == 0)) (c := true) (v := Value.slice x.1.2.2.1 (x.1.2.1.vBytes).length x.1.2.2.2) rfl rfl rfl rfl (fun hg => (r_loadBox ((show _ = gv (true && ((((x.1.2.1.vBytes).length : Int) == 0) == false)) (Value.pointer (some ⟨b4, 1, none⟩)) from rfl).trans (gv_t hg)) Tryz.isAgg42 hb4 rfl)) ?_
      refine run_g_same (b := (((x.1.2.1.vBytes).length : Int) == 0)) (c := true) (v := Value.int .i64 ((x.1.2.1.vBytes).length : Int)) rfl rfl rfl rfl (fun hg => (r_len ((show _ = gv (true && ((((x.1.2.1.vBytes).length : Int) == 0) == false)) (Value.slice x.1.2.2.1 (x.1.2.1.vBytes).length x.1.2.2.2) from rfl).trans (gv_t hg)) Tryz.runUnderlying42)) ?_
      refine run_frame (by simp only [List.set_cons_zero, List.set_cons_succ]; rfl) ?_
      refine run_g_same (b := (((x.1.2.1.vBytes).length : Int) == 0)) (c := true) (v := Value.bool (decide (((x.1.2.1.vBytes).length : Int) > 512))) rfl rfl rfl rfl (fun hg => (r_bin ((show _ = gv (true && ((((x.1.2.1.vBytes).length : Int) == 0) == false)) (Value.int .i64 ((x.1.2.1.vBytes).length : Int)) from rfl).trans (gv_t hg)) rfl rfl)) ?_
      refine run_same (v := Value.bool ((((x.1.2.1.vBytes).length : Int) == 0) || (decide (((x.1.2.1.vBytes).length : Int) > 512)))) rfl rfl (r_pick_or rfl rfl (fun hp => ((show _ = gv (true && ((((x.1.2.1.vBytes).length : Int) == 0) == false)) (Value.bool (decide (((x.1.2.1.vBytes).length : Int) > 512))) from rfl).trans (gv_t (and_i rfl hp))))) ?_
      refine run_same (v := Value.bool ((((x.1.2.1.vBytes).length : Int) == 0) || (decide (((x.1.2.1.vBytes).length : Int) > 512)))) rfl rfl (r_move rfl) ?_
      refine run_g_same (b := ((((x.1.2.1.vBytes).length : Int) == 0) || (decide (((x.1.2.1.vBytes).length : Int) > 512)))) (c := true) (v := Value.pointer (some ⟨b4, 0, none⟩)) rfl rfl rfl rfl (fun hg => (r_fieldBox (n := 1) (o' := 0) rfl Tryz.runUnderlying58 rfl Tryz.sizeOf2 (by decide) rfl)) ?_
      refine run_frame (by simp only [List.set_cons_zero, List.set_cons_succ]; rfl) ?_
      refine run_g_same (b := ((((x.1.2.1.vBytes).length : Int) == 0) || (decide (((x.1.2.1.vBytes).length : Int) > 512)))) (c := true) (v := Value.int .i64 (x.1.2.1.vAt)) rfl rfl rfl rfl (fun hg => (r_loadBox ((show _ = gv (true && (((((x.1.2.1.vBytes).length : Int) == 0) || (decide (((x.1.2.1.vBytes).length : Int) > 512))) == false)) (Value.pointer (some ⟨b4, 0, none⟩)) from rfl).trans (gv_t hg)) Tryz.isAgg2 hb4 rfl)) ?_
      refine run_g_same (b := ((((x.1.2.1.vBytes).length : Int) == 0) || (decide (((x.1.2.1.vBytes).length : Int) > 512)))) (c := true) (v := Value.int .i64 x.1.1) rfl rfl rfl rfl (fun hg => (r_move rfl)) ?_
      refine run_g_same (b := ((((x.1.2.1.vBytes).length : Int) == 0) || (decide (((x.1.2.1.vBytes).length : Int) > 512)))) (c := true) (v := Value.bool (decide (x.1.2.1.vAt < x.1.1))) rfl rfl rfl rfl (fun hg => (r_bin ((show _ = gv (true && (((((x.1.2.1.vBytes).length : Int) == 0) || (decide (((x.1.2.1.vBytes).length : Int) > 512))) == false)) (Value.int .i64 (x.1.2.1.vAt)) from rfl).trans (gv_t hg)) ((show _ = gv (true && (((((x.1.2.1.vBytes).length : Int) == 0) || (decide (((x.1.2.1.vBytes).length : Int) > 512))) == false)) (Value.int .i64 x.1.1) from rfl).trans (gv_t hg)) rfl)) ?_
      refine run_same (v := Value.bool (((((x.1.2.1.vBytes).length : Int) == 0) || (decide (((x.1.2.1.vBytes).length : Int) > 512))) || (decide (x.1.2.1.vAt < x.1.1)))) rfl rfl (r_pick_or rfl rfl (fun hp => ((show _ = gv (true && (((((x.1.2.1.vBytes).length : Int) == 0) || (decide (((x.1.2.1.vBytes).length : Int) > 512))) == false)) (Value.bool (decide (x.1.2.1.vAt < x.1.1))) from rfl).trans (gv_t (and_i rfl hp))))) ?_
      refine run_frame (by simp only [List.set_cons_zero, List.set_cons_succ]; rfl) ?_
      refine run_same (v := Value.bool (((((x.1.2.1.vBytes).length : Int) == 0) || (decide (((x.1.2.1.vBytes).length : Int) > 512))) || (decide (x.1.2.1.vAt < x.1.1)))) rfl rfl (r_move rfl) ?_
      refine run_g_same (b := (((((x.1.2.1.vBytes).length : Int) == 0) || (decide (((x.1.2.1.vBytes).length : Int) > 512))) || (decide (x.1.2.1.vAt < x.1.1)))) (c := true) (v := Value.pointer (some ⟨b4, 0, none⟩)) rfl rfl rfl rfl (fun hg => (r_fieldBox (n := 1) (o' := 0) rfl Tryz.runUnderlying58 rfl Tryz.sizeOf2 (by decide) rfl)) ?_
      refine run_g_same (b := (((((x.1.2.1.vBytes).length : Int) == 0) || (decide (((x.1.2.1.vBytes).length : Int) > 512))) || (decide (x.1.2.1.vAt < x.1.1)))) (c := true) (v := Value.int .i64 (x.1.2.1.vAt)) rfl rfl rfl rfl (fun hg => (r_loadBox ((show _ = gv (true && ((((((x.1.2.1.vBytes).length : Int) == 0) || (decide (((x.1.2.1.vBytes).length : Int) > 512))) || (decide (x.1.2.1.vAt < x.1.1))) == false)) (Value.pointer (some ⟨b4, 0, none⟩)) from rfl).trans (gv_t hg)) Tryz.isAgg2 hb4 rfl)) ?_
      refine run_g_same (b := (((((x.1.2.1.vBytes).length : Int) == 0) || (decide (((x.1.2.1.vBytes).length : Int) > 512))) || (decide (x.1.2.1.vAt < x.1.1)))) (c := true) (v := Value.bool (decide (x.1.2.1.vAt > 1099511627776))) rfl rfl rfl rfl (fun hg => (r_bin ((show _ = gv (true && ((((((x.1.2.1.vBytes).length : Int) == 0) || (decide (((x.1.2.1.vBytes).length : Int) > 512))) || (decide (x.1.2.1.vAt < x.1.1))) == false)) (Value.int .i64 (x.1.2.1.vAt)) from rfl).trans (gv_t hg)) rfl rfl)) ?_
      refine run_frame (by simp only [List.set_cons_zero, List.set_cons_succ]; rfl) ?_
      refine run_same (v := Value.bool ((((((x.1.2.1.vBytes).length : Int) == 0) || (decide (((x.1.2.1.vBytes).length : Int) > 512))) || (decide (x.1.2.1.vAt < x.1.1))) || (decide (x.1.2.1.vAt > 1099511627776)))) rfl rfl (r_pick_or rfl rfl (fun hp => ((show _ = gv (true && ((((((x.1.2.1.vBytes).length : Int) == 0) || (decide (((x.1.2.1.vBytes).length : Int) > 512))) || (decide (x.1.2.1.vAt < x.1.1))) == false)) (Value.bool (decide (x.1.2.1.vAt > 1099511627776))) from rfl).trans (gv_t (and_i rfl hp))))) ?_
      try simp only [List.set_cons_zero, List.set_cons_succ]
      refine run_nil ?_
      refine norm_then ?_
      refine norm_then ?_
      refine wpIn_cond_split (t := (((((x.1.2.1.vBytes).length : Int) == 0) || (decide (((x.1.2.1.vBytes).length : Int) > 512))) || (decide (x.1.2.1.vAt < x.1.1))) || (decide (x.1.2.1.vAt > 1099511627776))) rfl (fun c2 => ?_) (fun c2 => ?_)
      · have HW : St [b2] h0 W h0 [(some b2, .cells #[Value.int .i64 0] 34 (0, 0))] W := St_of hs hb2W (fun a ha => unseen hv (by omega))
        refine wpIn_seq ?_
        refine regionIn (.inr ⟨l, rfl⟩) (by rintro ⟨a, w, h⟩; exact h) (noDefer_of rfl) ?_
        refine run_st (i := 0) (cs := [Value.int .i64 0]) (cs' := [Value.int .i64 90]) (vs := [Value.int .i64 90]) (bs' := [(some b2, .cells #[Value.int .i64 90] 34 (0, 0))]) rfl rfl Tryz.sizeOf34 rfl rfl (by decide) rfl HW rfl (Nat.le_of_ble_eq_true rfl) rfl rfl ?_
        intro w4 HS4
        try simp only [List.set_cons_zero, List.set_cons_succ]
        refine run_nil ?_
        refine norm_then ?_
        refine norm_then ?_
        refine wpIn_ret ?_
        exact ⟨⟨HS4.ext.size, fun k o hB hk _ => (HS4.ext.block k (Array.getElem?_eq_some_iff.1 hk).1 (by simp; omega)).trans hk⟩, ⟨⟨ext_of hB2 HS4.ext hge2, HS4.look 0 rfl⟩, rfl, pre, x, rfl, hpre, c2⟩⟩
      · refine wpIn_skip ?_
        refine ⟨KeepsFrom.refl _ _, Kc.ext (Ext.rfl' _), ⟨hB2, hb2W⟩, ?_⟩
        intro y hy
        rcases List.mem_append.1 hy with h | h
        · exact hpre y h
        · obtain rfl := List.mem_singleton.1 h; exact c2
    case done =>
      rintro D xs W hD hS ⟨⟨hB2, hb2W⟩, hpre⟩ hK
      have hs : Sees h0 W := hv.ext hB2
      have HW : St [b2] h0 W h0 [(some b2, .cells #[Value.int .i64 0] 34 (0, 0))] W := St_of hs hb2W (fun a ha => unseen hv (by omega))
      have h0r : chkSegs 0 a0.vSegs = 0 := chk_ok _ _ fun p hp => by
        rw [← hS] at hp
        obtain ⟨x, hx, rfl⟩ := List.mem_map.1 hp
        exact hpre x hx
      rw [h0r] at H
      obtain rfl := Option.some.inj H
      refine norm_block ?_
      refine norm_then ?_
      refine wp_seq ?_
      refine region ?_
      refine run_st (i := 0) (cs := [Value.int .i64 0]) (cs' := [Value.int .i64 0]) (vs := [Value.int .i64 0]) (bs' := [(some b2, .cells #[Value.int .i64 0] 34 (0, 0))]) rfl rfl Tryz.sizeOf34 rfl rfl (by decide) rfl HW rfl (Nat.le_of_ble_eq_true rfl) rfl rfl ?_
      intro w5 HS5
      try simp only [List.set_cons_zero, List.set_cons_succ]
      refine run_nil ?_
      refine norm_then ?_
      refine wp_ret ?_
      have hD5 : w5.heap[D]? = some (.deferred (some [])) := (HS5.ext.block D (Array.getElem?_eq_some_iff.1 hK).1 (by simp; omega)).trans hK
      refine ⟨by simp, .inl ⟨_, _, rfl, run_takeDeferred hD5, ?_⟩⟩
      exact ⟨_, results_1 rfl (one_cell rfl Tryz.isAgg34 ((World.putObj_heap_other (by omega)).trans (HS5.look 0 rfl))), rfl, ext_put (ext_of hB2 HS5.ext hge2) (Nat.le_trans hB.size hD)⟩
    case stop =>
      rintro D c pre W hD ⟨t, ht⟩ ⟨⟨hB2, hb2W⟩, rfl, q, x, rfl, hq, hx⟩ hK
      have h90 : chkSegs 0 a0.vSegs = 90 := chk_bad (q.map SegR.of) _ _ (SegR.of x) t (by rw [← ht]; simp) (fun p hp => by
        obtain ⟨y, hy, rfl⟩ := List.mem_map.1 hp
        exact hq y hy) hx
      rw [h90] at H
      obtain rfl := Option.some.inj H
      refine wpIn_ret ?_
      refine ret_block ?_
      refine ret_then ?_
      refine ⟨by simp, .inl ⟨_, _, rfl, run_takeDeferred hK, ?_⟩⟩
      exact ⟨_, results_1 rfl (one_cell rfl Tryz.isAgg34 ((World.putObj_heap_other (by omega)).trans hb2W)), rfl, ext_put hB2 (Nat.le_trans hB.size hD)⟩
end Go.Proofs.YtecpbadkdpbkpaaGreatDoor
/- Plain laws: an image's check, and what is read of an image, by both sides. -/
namespace Go.Proofs.YtecpbadkdpbkpaaGreatDoor
open Go.RowKit Go.M
def chkV (m : api_Image) : Int := if (decide ((m.vSegs.length : Int) > 200)) = true then 90 else chkSegs 0 m.vSegs
theorem pCheck (m : api_Image) : image_Check.f m = some (chkV m) := by
  unfold image_Check.f chkV
  split <;> rfl
/-! ### a valid image -/
structure OkI (l : List api_Segment) : Prop where
  all : ∀ i, i < l.length → 0 ≤ (l.getD i z_api_Segment).vAt ∧ (l.getD i z_api_Segment).vAt ≤ 1099511627776 ∧ 1 ≤ (l.getD i z_api_Segment).vBytes.length ∧ (l.getD i z_api_Segment).vBytes.length ≤ 512
  ord : ∀ i j, i < j → j < l.length → (l.getD i z_api_Segment).vAt + (l.getD i z_api_Segment).vBytes.length ≤ (l.getD j z_api_Segment).vAt
theorem okI_from : ∀ (l : List api_Segment) (f : Int), 0 ≤ f → chkSegs f l = 0 → OkI l ∧ ∀ i, i < l.length → f ≤ (l.getD i z_api_Segment).vAt
  | [], f, _, _ => ⟨⟨fun i h => by simp at h, fun i j _ h => by simp at h⟩, fun i h => by simp at h⟩
  | s :: r, f, hf, h => by
    rw [chkSegs] at h
    split at h
    · cases h
    · next hb =>
      unfold badSeg at hb
      simp only [Bool.or_eq_true, beq_iff_eq, decide_eq_true_eq, not_or] at hb
      have he : segEnd s = s.vAt + (s.vBytes.length : Int) := wrap_id (by omega) (by omega)
      rw [he] at h
      obtain ⟨h1, h2⟩ := okI_from r _ (by omega) h
      refine ⟨⟨fun i hi => ?_, fun i j hij hj => ?_⟩, fun i hi => ?_⟩
      · cases i with
        | zero => exact ⟨by show 0 ≤ s.vAt; omega, by show s.vAt ≤ _; omega, by show 1 ≤ s.vBytes.length; omega, by show s.vBytes.length ≤ 512; omega⟩
        | succ i => exact h1.all i (by simpa using hi)
      · cases j with
        | zero => omega
        | succ j =>
          have hj' : j < r.length := by simpa using hj
          cases i with
          | zero => exact h2 j hj'
          | succ i => exact h1.ord i j (by omega) hj'
      · cases i with
        | zero => show f ≤ s.vAt; omega
        | succ i =>
          have := h2 i (by simpa using hi)
          show f ≤ (r.getD i z_api_Segment).vAt
          omega
theorem okI_of {m : api_Image} (h : chkV m = 0) : m.vSegs.length ≤ 200 ∧ OkI m.vSegs := by
  unfold chkV at h
  split at h
  · cases h
  · next hn =>
    simp only [decide_eq_true_eq] at hn
    exact ⟨by omega, (okI_from _ 0 (by omega) h).1⟩
/-! ### a byte -/
def inSeg (s : api_Segment) (x : Int) : Prop := s.vAt ≤ x ∧ x - s.vAt < (s.vBytes.length : Int)
instance (s : api_Segment) (x : Int) : Decidable (inSeg s x) := by unfold inSeg; exact inferInstance
def byteAt : List api_Segment → Int → Option Int
  | [], _ => none
  | s :: r, x => if inSeg s x then some (s.vBytes.getD (x - s.vAt).toNat 0) else byteAt r x
theorem byteAt_none : ∀ {l : List api_Segment} {x : Int}, (∀ i, i < l.length → ¬ inSeg (l.getD i z_api_Segment) x) → byteAt l x = none
  | [], _, _ => rfl
  | s :: r, x, h => by
    have h0 : ¬ inSeg s x := h 0 (by simp)
    rw [byteAt, if_neg h0]
    exact byteAt_none fun i hi => h (i + 1) (by simpa using hi)
theorem byteAt_some : ∀ {l : List api_Segment} {x : Int} (j : Nat), j < l.length → (∀ i, i < j → ¬ inSeg (l.getD i z_api_Segment) x) → inSeg (l.getD j z_api_Segment) x → byteAt l x = some ((l.getD j z_api_Segment).vBytes.getD (x - (l.getD j z_api_Segment).vAt).toNat 0)
  | [], _, j, hj, _, _ => by simp at hj
  | s :: r, x, 0, _, _, h => by
    have h0 : inSeg s x := h
    rw [byteAt, if_pos h0]; rfl
  | s :: r, x, j + 1, hj, h, h' => by
    have h0 : ¬ inSeg s x := h 0 (by omega)
    rw [byteAt, if_neg h0]
    exact byteAt_some j (by simpa using hj) (fun i hi => h (i + 1) (by omega)) h'
/-! ### bytes -/
def runB (l : List api_Segment) (a : Int) : Nat → Nat → List Int → Option (List Int)
  | 0, _, acc => some acc
  | d + 1, i, acc => match byteAt l (a + (i : Int)) with
    | none => none
    | some b => runB l a d (i + 1) (acc ++ [b])
def outL : Option (List Int) → List Int × Bool
  | none => ([], false)
  | some xs => (xs, true)
theorem big_none {l : List api_Segment} (hO : OkI l) {x : Int} (hx : 1099511628288 ≤ x ∨ x < 0) : byteAt l x = none :=
  byteAt_none fun i hi h => by
    have := hO.all i hi
    unfold inSeg at h
    omega
end Go.Proofs.YtecpbadkdpbkpaaGreatDoor
/- Plain laws: the search for a segment, and the bytes that are read. -/
namespace Go.Proofs.YtecpbadkdpbkpaaGreatDoor
open Go.RowKit Go.M
def segE (s : api_Segment) : Int := s.vAt + (s.vBytes.length : Int)
theorem mid_eq {lo hi : Nat} (h : lo ≤ hi) (hh : hi ≤ 1000) : IntKind.wrap .i64 (iShr .u64 (IntKind.wrap .u64 (IntKind.wrap .i64 ((lo : Int) + (hi : Int)))) 1) = (((lo + hi) / 2 : Nat) : Int) := by
  rw [wrap_id (x := (lo : Int) + hi) (by omega) (by omega)]
  have e : IntKind.wrap .u64 ((lo : Int) + hi) = ((lo + hi : Nat) : Int) := by
    simp [IntKind.wrap, IntKind.bits, IntKind.signed]; omega
  rw [e]
  have e2 : iShr .u64 ((lo + hi : Nat) : Int) 1 = ((lo + hi : Nat) : Int) / 2 := by
    unfold iShr
    rw [Int.fdiv_eq_ediv_of_nonneg _ (by decide)]
    rfl
  rw [e2, wrap_id (by omega) (by omega)]
  omega
theorem segE_lt {l : List api_Segment} (hO : OkI l) {i j : Nat} (h : i < j) (hj : j < l.length) : segE (l.getD i z_api_Segment) < segE (l.getD j z_api_Segment) := by
  have h1 := hO.ord i j h hj
  have h2 := hO.all j hj
  unfold segE; omega
theorem segE_le {l : List api_Segment} (hO : OkI l) {i j : Nat} (h : i ≤ j) (hj : j < l.length) : segE (l.getD i z_api_Segment) ≤ segE (l.getD j z_api_Segment) := by
  rcases Nat.lt_or_ge i j with h1 | h1
  · have := segE_lt hO h1 hj; omega
  · obtain rfl : i = j := by omega
    omega
theorem cmp_eq {l : List api_Segment} (hO : OkI l) {i : Nat} (hi : i < l.length) (a : Int) : image_search_1.f (fun z0 => image_end.f z0) (l.getD i z_api_Segment) a = if segE (l.getD i z_api_Segment) ≤ a then some (-1) else some 1 := by
  have h := hO.all i hi
  unfold image_search_1.f image_end.f
  simp only [Option.bind_some, decide_eq_true_eq]
  rw [wrap_id (by omega) (by omega)]
  rfl
theorem search_loop {l : List api_Segment} (hl : l.length ≤ 200) (hO : OkI l) (a : Int) : ∀ (d lo hi m : Nat), hi ≤ lo + d → d < m → lo ≤ hi → hi ≤ l.length → (∀ i, i < lo → segE (l.getD i z_api_Segment) ≤ a) → (∀ i, hi ≤ i → i < l.length → a < segE (l.getD i z_api_Segment)) →
    ∃ j : Nat, slices_BinarySearchFunc_api_Segment_api_Segment_int64.l0 l a (fun z0 z1 => image_search_1.f (fun z0 => image_end.f z0) z0 z1) m (lo : Int) (hi : Int) = some (j : Int) ∧ j ≤ l.length ∧ (∀ i, i < j → segE (l.getD i z_api_Segment) ≤ a) ∧ (∀ i, j ≤ i → i < l.length → a < segE (l.getD i z_api_Segment)) := by
  intro d
  induction d with
  | zero =>
    intro lo hi m h1 hm h2 h3 hA hB
    obtain ⟨m, rfl⟩ : ∃ q, m = q + 1 := ⟨m - 1, by omega⟩
    refine ⟨lo, ?_, by omega, hA, fun i hi' => hB i (by omega)⟩
    rw [slices_BinarySearchFunc_api_Segment_api_Segment_int64.l0, if_neg (by simp; omega)]
  | succ d ih =>
    intro lo hi m h1 hm h2 h3 hA hB
    obtain ⟨m, rfl⟩ : ∃ q, m = q + 1 := ⟨m - 1, by omega⟩
    rw [slices_BinarySearchFunc_api_Segment_api_Segment_int64.l0]
    by_cases hlt : lo < hi
    · have hmid : (lo + hi) / 2 < l.length := by omega
      rw [if_pos (by simp; omega), mid_eq h2 (by omega), if_pos (by omega), rd_nat, cmp_eq hO hmid]
      by_cases hc : segE (l.getD ((lo + hi) / 2) z_api_Segment) ≤ a
      · rw [if_pos hc]
        simp only [Option.bind_some]
        rw [if_pos (by decide), wrap_nat (n := 1000) (by omega) (by omega)]
        exact ih _ _ m (by omega) (by omega) (by omega) h3 (fun i hi' => by have := segE_le hO (i := i) (j := (lo + hi) / 2) (by omega) hmid; omega) hB
      · rw [if_neg hc]
        simp only [Option.bind_some]
        rw [if_neg (by decide)]
        exact ih _ _ m (by omega) (by omega) (by omega) (by omega) hA (fun i hi' hi2 => by have := segE_le hO (i := (lo + hi) / 2) (j := i) hi' hi2; omega)
    · refine ⟨lo, ?_, by omega, hA, fun i hi' => hB i (by omega)⟩
      rw [if_neg (by simp; omega)]
theorem search_eq {l : List api_Segment} (hl : l.length ≤ 200) (hO : OkI l) (a : Int) {k : Nat} (hk : 201 ≤ k) :
    ∃ j : Nat, image_search_api_Segment_int64.f k l a (fun z0 => image_end.f z0) = some (j : Int) ∧ j ≤ l.length ∧ (∀ i, i < j → segE (l.getD i z_api_Segment) ≤ a) ∧ (∀ i, j ≤ i → i < l.length → a < segE (l.getD i z_api_Segment)) := by
  obtain ⟨j, h1, h2, h3, h4⟩ := search_loop hl hO a l.length 0 l.length k (by omega) (by omega) (by omega) (by omega) (fun i h => by omega) (fun i h h' => by omega)
  refine ⟨j, ?_, h2, h3, h4⟩
  unfold image_search_api_Segment_int64.f slices_BinarySearchFunc_api_Segment_api_Segment_int64.f
  rw [show ((0 : Nat) : Int) = 0 from rfl] at h1
  rw [h1]
  simp only [Option.bind_some]
  by_cases hj : j < l.length
  · rw [if_pos (fun _ => by omega), if_pos (by simp; omega), rd_nat, cmp_eq hO hj, if_neg (by have := h4 j (by omega) hj; omega)]
    rfl
  · rw [if_pos (by simp <;> omega), if_neg (by simp <;> omega)]
    rfl
/-! ### reading -/
theorem runB_part {l : List api_Segment} {a : Int} : ∀ (part : List Int) (d c : Nat) (acc : List Int), (∀ t, t < part.length → byteAt l (a + ((c + t : Nat) : Int)) = some (part.getD t 0)) → runB l a (part.length + d) c acc = runB l a d (c + part.length) (acc ++ part)
  | [], d, c, acc, _ => by simp
  | b :: part, d, c, acc, h => by
    have h0 := h 0 (by simp)
    rw [show (b :: part).length + d = (part.length + d) + 1 by simp; omega, runB, show (a + (c : Int)) = a + ((c + 0 : Nat) : Int) by simp, h0]
    show runB l a (part.length + d) (c + 1) (acc ++ [b]) = _
    rw [runB_part part d (c + 1) (acc ++ [b]) (fun t ht => by have := h (t + 1) (by simpa using ht); rw [show c + 1 + t = c + (t + 1) by omega]; exact this)]
    rw [show c + 1 + part.length = c + (b :: part).length by simp; omega, show acc ++ [b] ++ part = acc ++ b :: part by simp]
def endB : Option (List Int) → ((List Int) × Bool) ⊕ (List Int)
  | none => .inl ([], false)
  | some xs => .inr xs
theorem pread_loop {a0 : api_Image} {a : Int} {n : Nat} (hl : a0.vSegs.length ≤ 200) (hO : OkI a0.vSegs) (ha : -9223372036854775808 ≤ a ∧ a ≤ 9223372036854775807) (hn : n ≤ 4096) : ∀ (d j c m : Nat) (acc : List Int), j + d = a0.vSegs.length → d + 1 < m → acc.length = c → c ≤ n →
    (c = n ∨ ((∀ i, i < j → segE (a0.vSegs.getD i z_api_Segment) ≤ a + (c : Int)) ∧ (∀ i, j ≤ i → i < a0.vSegs.length → a + (c : Int) < segE (a0.vSegs.getD i z_api_Segment)) ∧ a + (c : Int) ≤ 9223372036854775807)) →
    image_read.l0 a0 a (n : Int) m (j : Int) acc = some (endB (runB a0.vSegs a (n - c) c acc)) := by
  intro d
  induction d with
  | zero =>
    intro j c m acc hj hm hc hcn hI
    obtain ⟨m, rfl⟩ : ∃ q, m = q + 1 := ⟨m - 1, by omega⟩
    rw [image_read.l0]
    by_cases he : c = n
    · rw [if_neg (by simp; omega), he, Nat.sub_self]; rfl
    · rcases hI with h | ⟨hA, hB, hC⟩
      · exact absurd h he
      · have hd2 : decide ((j : Int) ≥ (a0.vSegs.length : Int)) = true := by simp; omega
        rw [if_pos (by simp; omega), if_pos (by rw [hd2]; simp), if_pos (by rw [hd2]; simp)]
        rw [show n - c = (n - c - 1) + 1 by omega, runB, byteAt_none fun i hi h => by
          have := hA i (by omega)
          unfold inSeg at h; unfold segE at this; omega]
        rfl
  | succ d ih =>
    intro j c m acc hj hm hc hcn hI
    obtain ⟨m, rfl⟩ : ∃ q, m = q + 1 := ⟨m - 1, by omega⟩
    rw [image_read.l0]
    by_cases he : c = n
    · rw [if_neg (by simp; omega), he, Nat.sub_self]; rfl
    · rcases hI with h | ⟨hA, hB, hC⟩
      · exact absurd h he
      · have hjl : j < a0.vSegs.length := by omega
        have hw : IntKind.wrap .i64 (a + ((acc.length : Nat) : Int)) = a + (c : Int) := by rw [hc]; exact wrap_id (by omega) hC
        have hs := hO.all j hjl
        have hBj := hB j (by omega) hjl
        rw [if_pos (by simp; omega), hw, rd_nat, if_pos (fun _ => by omega)]
        have hnone : a + (c : Int) < 0 ∨ a + (c : Int) < (a0.vSegs.getD j z_api_Segment).vAt → byteAt a0.vSegs (a + (c : Int)) = none := fun h => by
          rcases h with h | h
          · exact big_none hO (.inr h)
          · refine byteAt_none fun i hi h' => ?_
            unfold inSeg at h'
            rcases Nat.lt_or_ge i j with h1 | h1
            · have := hA i h1; unfold segE at this; omega
            · rcases Nat.lt_or_ge j i with h2 | h2
              · have := hO.ord j i h2 hi; omega
              · obtain rfl : i = j := by omega
                omega
        by_cases hno : a + (c : Int) < 0 ∨ a + (c : Int) < (a0.vSegs.getD j z_api_Segment).vAt
        · rw [if_pos (by simp only [Bool.or_eq_true, decide_eq_true_eq]; omega), show n - c = (n - c - 1) + 1 by omega, runB, hnone hno]
          rfl
        · rw [if_neg (by simp only [Bool.or_eq_true, decide_eq_true_eq]; omega), if_pos (by omega)]
          generalize hS : a0.vSegs.getD j z_api_Segment = s at *
          unfold segE at hBj
          obtain ⟨F, hF⟩ : ∃ F : Nat, a + (c : Int) - s.vAt = (F : Int) := ⟨(a + (c : Int) - s.vAt).toNat, by omega⟩
          have hFl : F < s.vBytes.length := by omega
          have hmin : iMin (s.vBytes.length : Int) (IntKind.wrap .i64 (IntKind.wrap .i64 ((F : Int) + (n : Int)) - ((acc.length : Nat) : Int))) = ((min s.vBytes.length (F + n - c) : Nat) : Int) := by
            rw [wrap_id (x := (F : Int) + n) (by omega) (by omega), hc, wrap_id (by omega) (by omega)]
            unfold iMin
            split <;> omega
          rw [hF, wrap_id (x := (F : Int)) (by omega) (by omega), hmin]
          generalize hH : min s.vBytes.length (F + n - c) = H
          have hpl : (List.drop F (List.take H s.vBytes)).length = H - F := by rw [List.length_drop, List.length_take]; omega
          rw [if_pos (by omega), show ((F : Int)).toNat = F from rfl, show ((H : Int)).toNat = H from rfl, if_pos (by rw [hpl]; omega), wrap_nat (n := 300) (by omega) (by omega)]
          rw [ih (j + 1) (c + (H - F)) m _ (by omega) (by omega) (by rw [List.length_append, hpl]; omega) (by omega) ?_]
          · congr 2
            have := runB_part (l := a0.vSegs) (a := a) (List.drop F (List.take H s.vBytes)) (n - (c + (H - F))) c acc (fun t ht => by
              rw [hpl] at ht
              have hin : inSeg (a0.vSegs.getD j z_api_Segment) (a + ((c + t : Nat) : Int)) := by rw [hS]; unfold inSeg; omega
              rw [byteAt_some j hjl (fun i hi h' => by
                have := hA i hi
                unfold inSeg at h'; unfold segE at this; omega) hin, hS]
              congr 1
              rw [List.getD_eq_getElem?_getD, List.getD_eq_getElem?_getD, List.getElem?_drop, List.getElem?_take, if_pos (by omega)]
              congr 2
              omega)
            rw [hpl] at this
            rw [show n - c = (H - F) + (n - (c + (H - F))) by omega]
            exact this.symm
          · by_cases hn2 : c + (H - F) = n
            · exact .inl hn2
            · have hHl : H = s.vBytes.length := by omega
              refine .inr ⟨fun i hi => ?_, fun i hi hi2 => ?_, by omega⟩
              · rcases Nat.lt_or_ge i j with h1 | h1
                · have := hA i h1; omega
                · obtain rfl : i = j := by omega
                  rw [hS]; unfold segE; omega
              · have h1 := hO.ord j i (by omega) hi2
                have h2 := hO.all i hi2
                rw [hS] at h1
                unfold segE; omega
theorem pRead {a0 : api_Image} {a : Int} {n k : Nat} (hl : a0.vSegs.length ≤ 200) (hO : OkI a0.vSegs) (ha : -9223372036854775808 ≤ a ∧ a ≤ 9223372036854775807) (hn : n ≤ 4096) (hk : 300 ≤ k) :
    image_read.f k a0 a (n : Int) = some (outL (runB a0.vSegs a n 0 [])) := by
  obtain ⟨j, h1, h2, h3, h4⟩ := search_eq hl hO a (k := k) (by omega)
  unfold image_read.f
  rw [h1]
  simp only [Option.bind_some]
  rw [pread_loop hl hO ha hn (a0.vSegs.length - j) j 0 k [] (by omega) (by omega) rfl (by omega) (.inr ⟨fun i hi => by have := h3 i hi; simpa using this, fun i hi hi2 => by have := h4 i hi hi2; simpa using this, by simpa using ha.2⟩)]
  simp only [Option.bind_some, Nat.sub_zero]
  cases runB a0.vSegs a n 0 [] <;> rfl
end Go.Proofs.YtecpbadkdpbkpaaGreatDoor
/- bits.Check holds of the types of 1, 2, 4 and 8 bytes: the map of conversions, its entries put in in any order. -/
namespace Go.Proofs.YtecpbadkdpbkpaaGreatDoor
open Go.RowKit Go.M
section
variable {P : Program} {Q : Exit → Act → World → Prop}
theorem stepv {ops : Array Oper} {i : Nat} {o : Oper} {K : Act → World → Prop} {a : Act} {w w' : World} {v : Value} (hi : ops[i]? = some o) (hg : o.guard = none) (hex : (execOp a.eval o).run P w = .ok (.value v) w') (hK : K (a.put o.dst v) w') : wpOp P ops Q i K a w := by
  unfold wpOp
  rw [hi]
  simp only [Region.wanted, hg, if_true]
  refine .inl ?_
  unfold Oper.wp
  rw [hex]
  exact hK
theorem steps {ops : Array Oper} {i : Nat} {o : Oper} {K : Act → World → Prop} {a : Act} {w w' : World} (hi : ops[i]? = some o) (hg : o.guard = none) (hd : o.dst = none) (hex : (execOp a.eval o).run P w = .ok .skip w') (hK : K a w') : wpOp P ops Q i K a w := by
  unfold wpOp
  rw [hi]
  simp only [Region.wanted, hg, if_true]
  refine .inl ?_
  unfold Oper.wp
  rw [hex]
  simp only [Oper.upon, hd]
  exact hK
end
def eqI (a b : api_Int) : Bool := (a.vSize == b.vSize) && ((a.vSigned == b.vSigned) && true)
theorem eqI_iff {a b : api_Int} : eqI a b = true ↔ a = b := by
  obtain ⟨a1, a2⟩ := a
  obtain ⟨b1, b2⟩ := b
  simp [eqI]
theorem keyI : KeyS Tryz.prog 29 #[{ name := "Size", type := 3, offset := 0, embedded := false, tag := "", pkgPath := "", byteOffset := 0 }, { name := "Signed", type := 4, offset := 1, embedded := false, tag := "", pkgPath := "", byteOffset := 8 }] e_api_Int eqI where
  hu := Tryz.runUnderlying29
  same := fun a b w => (eqr_agg Tryz.stoodInHeld29 Tryz.underlying29 (eqf_cons (by decide) (part_one Tryz.isAgg3 rfl) (part_one Tryz.isAgg3 rfl) (eqr_int Tryz.underlying3) (eqf_cons (by decide) (part_one Tryz.isAgg4 rfl) (part_one Tryz.isAgg4 rfl) (eqr_bool Tryz.underlying4) eqf_nil)) : EqR Tryz.prog 10000 29 (e_api_Int a) (e_api_Int b) (eqI a b)) w
  check := fun e k w => by
    have hp1 : (part 3 #[.int .i64 k.vSize, .bool k.vSigned] 0).run Tryz.prog w = .ok (.int .i64 k.vSize) w := part_one Tryz.isAgg3 rfl w
    have hp2 : (part 4 #[.int .i64 k.vSize, .bool k.vSigned] 1).run Tryz.prog w = .ok (.bool k.vSigned) w := part_one Tryz.isAgg4 rfl w
    have h1 : ∀ n v, (Instr.checkKey e (n + 1) 3 v).run Tryz.prog w = .ok () w := fun n v => by
      rw [Instr.checkKey]
      simp only [Sem.run_bind, Tryz.runUnderlying3, Result.andThen_ok]
      cases v <;> rfl
    have h2 : ∀ n v, (Instr.checkKey e (n + 1) 4 v).run Tryz.prog w = .ok () w := fun n v => by
      rw [Instr.checkKey]
      simp only [Sem.run_bind, Tryz.runUnderlying4, Result.andThen_ok]
      cases v <;> rfl
    show (Instr.checkKey e (9998 + 1 + 1) 29 (.agg #[.int .i64 k.vSize, .bool k.vSigned])).run Tryz.prog w = _
    rw [Instr.checkKey]
    simp only [Sem.run_bind, Tryz.runUnderlying29, Result.andThen_ok]
    simp [hp1, hp2, h1, h2]
def keyAt (j : Nat) : api_Int := ⟨([1, 1, 2, 2, 4, 4, 8, 8] : List Int).getD j 0, j % 2 == 0⟩
/-- what the map leads to -/
def thr (k : api_Int) : Nat := if k.vSize == 1 then (if k.vSigned then 135 else 136) else if k.vSize == 2 then (if k.vSigned then 137 else 138) else if k.vSize == 4 then (if k.vSigned then 139 else 140) else (if k.vSigned then 141 else 142)
def fvI (k : api_Int) : Value := .func (.func (thr k)) #[] #[]
structure MapIn (wz w : World) (b : Nat) (es : Array MapEntry) (cl : Nat) (ks : List api_Int) : Prop where
  ge : wz.heap.size ≤ b
  at_ : w.heap[b]? = some (.map es cl)
  keys : KVs e_api_Int fvI ks es
  ext : Ext wz w
structure CInv (wz : World) (df : List Deferred) (L : Nat → Bool) (a : Act) (w : World) : Prop where
  defers : a.defers = df
  size : a.tmps.size = 11
  built : ∀ j : Nat, j < 8 → L (2 * j + 1) = true → a.tmps.getD (Nat.add j 2) undef = e_api_Int (keyAt j)
  none_ : L 0 = false → Ext wz w ∧ (∀ j, j < 8 → L (2 * j + 2) = false) ∧ L 17 = false ∧ L 18 = false
  some_ : L 0 = true → ∃ b es cl ks, a.tmps.getD 1 undef = .map (some b) ∧ MapIn wz w b es cl ks ∧ (∀ j, j < 8 → (L (2 * j + 2) = true ↔ keyAt j ∈ ks)) ∧ (∀ k ∈ ks, ∃ j, j < 8 ∧ k = keyAt j) ∧
    (L 17 = true → a.tmps.getD 10 undef = .map (some b)) ∧ (L 18 = true → a.tmps.getD 0 undef = .map (some b))
theorem upd_ne {L : Nat → Bool} {i j : Nat} (h : j ≠ i) : upd L i j = L j := if_neg h
theorem upd_at {L : Nat → Bool} {i : Nat} : upd L i i = true := if_pos rfl
theorem getD_put_ne {a : Act} {d t : Tmp} {v : Value} (h : d ≠ t) : (a.put (some d) v).tmps.getD t undef = a.tmps.getD t undef := by
  simp [Act.put, Array.getD_eq_getD_getElem?, Array.getElem?_setIfInBounds_ne h]
theorem getD_put_at {a : Act} {d : Tmp} {v : Value} (h : d < a.tmps.size) : (a.put (some d) v).tmps.getD d undef = v := by
  simp [Act.put, Array.getD_eq_getD_getElem?, h]
theorem sl_lt {j : Nat} (h : j < 8) : Nat.add j 2 < 11 := by show j + 2 < 11; omega
theorem sl_ne {j q : Nat} (h : ¬ q = j) : Nat.add j 2 ≠ Nat.add q 2 := by show j + 2 ≠ q + 2; omega
theorem sl_1 {j : Nat} : Nat.add j 2 ≠ 1 := by show j + 2 ≠ 1; omega
theorem sl_1' {j : Nat} : 1 ≠ Nat.add j 2 := by show 1 ≠ j + 2; omega
theorem sl_0 {j : Nat} : Nat.add j 2 ≠ 0 := by show j + 2 ≠ 0; omega
theorem sl_10 {j : Nat} (h : j < 8) : Nat.add j 2 ≠ 10 := by show j + 2 ≠ 10; omega
theorem sl_10' {j : Nat} (h : j < 8) : 10 ≠ Nat.add j 2 := by show 10 ≠ j + 2; omega
theorem sl_0' {j : Nat} : 0 ≠ Nat.add j 2 := by show 0 ≠ j + 2; omega
/-- a slot that is built -/
theorem CInv.build {wz w : World} {df : List Deferred} {L : Nat → Bool} {a : Act} (C : CInv wz df L a w) {j : Nat} (hj : j < 8) : CInv wz df (upd L (2 * j + 1)) (a.put (some (Nat.add j 2)) (e_api_Int (keyAt j))) w := by
  refine ⟨by simp [Act.put, C.defers], by simp [Act.put, C.size], fun q hq hL => ?_, fun h => ?_, fun h => ?_⟩
  · by_cases hqj : q = j
    · subst hqj; exact getD_put_at (by rw [C.size]; exact sl_lt hq)
    · rw [getD_put_ne (sl_ne hqj)]
      rw [upd_ne (by omega)] at hL
      exact C.built q hq hL
  · rw [upd_ne (by omega)] at h
    obtain ⟨h1, h2, h3, h4⟩ := C.none_ h
    exact ⟨h1, fun q hq => by rw [upd_ne (by omega)]; exact h2 q hq, by rw [upd_ne (by omega)]; exact h3, by rw [upd_ne (by omega)]; exact h4⟩
  · rw [upd_ne (by omega)] at h
    obtain ⟨b, es, cl, ks, h1, h2, h3, h4, h5, h6⟩ := C.some_ h
    refine ⟨b, es, cl, ks, by rw [getD_put_ne sl_1]; exact h1, h2, fun q hq => by rw [upd_ne (by omega)]; exact h3 q hq, h4, fun h => ?_, fun h => ?_⟩
    · rw [upd_ne (by omega)] at h
      rw [getD_put_ne (sl_10 hj)]; exact h5 h
    · rw [upd_ne (by omega)] at h
      rw [getD_put_ne sl_0]; exact h6 h
theorem keyAt_inj {i j : Nat} (hi : i < 8) (hj : j < 8) (h : keyAt i = keyAt j) : i = j := by
  have : ∀ i j : Fin 8, (([1, 1, 2, 2, 4, 4, 8, 8] : List Int).getD i 0 = ([1, 1, 2, 2, 4, 4, 8, 8] : List Int).getD j 0 ∧ (i.val % 2 == 0) = (j.val % 2 == 0)) → i = j := by decide
  have h2 := this ⟨i, hi⟩ ⟨j, hj⟩ (by simpa [keyAt] using h)
  exact congrArg Fin.val h2
/-- an entry that is put in -/
theorem CInv.insert {wz w : World} {df : List Deferred} {L : Nat → Bool} {a : Act} (C : CInv wz df L a w) {j : Nat} (hj : j < 8) (hL : L (2 * j + 2) = false) (h0 : L 0 = true) (hb : L (2 * j + 1) = true) {o : Oper} {y : Operand}
    (ho : o.op = .insert 178 (.tmp 1) (.tmp (Nat.add j 2)) y) (hy : a.eval y = fvI (keyAt j)) : ∃ w', (execOp a.eval o).run Tryz.prog w = .ok .skip w' ∧ CInv wz df (upd L (2 * j + 2)) a w' := by
  obtain ⟨b, es, cl, ks, h1, h2, h3, h4, h5, h6⟩ := C.some_ h0
  have hnot : ks.any (eqI (keyAt j)) = false := by
    rw [List.any_eq_false]
    intro k hk he
    have := eqI_iff.1 he
    rw [← this] at hk
    have := (h3 j hj).2 hk
    rw [hL] at this
    cases this
  obtain ⟨es', cl', hr, hk⟩ := put_v (P := Tryz.prog) keyI (keyAt j) h2.keys Tryz.runUnderlying178 h2.at_ hnot
  have e1 : a.eval (.tmp 1) = .map (some b) := h1
  have e2 : a.eval (.tmp (Nat.add j 2)) = e_api_Int (keyAt j) := C.built j hj hb
  have hlt := (Array.getElem?_eq_some_iff.1 h2.at_).1
  refine ⟨setb w b (.map es' cl'), by simp [execOp, ho, e1, e2, hy, hr], C.defers, C.size, fun q hq hLq => ?_, fun h => ?_, fun h => ?_⟩
  · rw [upd_ne (by omega)] at hLq
    exact C.built q hq hLq
  · rw [upd_ne (by omega), h0] at h; cases h
  · refine ⟨b, es', cl', ks ++ [keyAt j], h1, ⟨h2.ge, setb_at hlt, hk, ?_⟩, fun q hq => ?_, fun k hk => ?_, fun h => ?_, fun h => ?_⟩
    · refine ⟨h2.ext.os, h2.ext.tape, h2.ext.output, by simpa [setb] using h2.ext.size, fun i hi => ?_⟩
      rw [setb_ne (by have := h2.ge; omega)]
      exact h2.ext.block i hi
    · by_cases hqj : q = j
      · subst hqj; simp [upd_at]
      · rw [upd_ne (by omega), h3 q hq, List.mem_append, List.mem_singleton]
        exact ⟨.inl, fun h => h.elim id (fun e => absurd (keyAt_inj hq hj e) hqj)⟩
    · rcases List.mem_append.1 hk with hk | hk
      · exact h4 k hk
      · exact ⟨j, hj, List.mem_singleton.1 hk⟩
    · rw [upd_ne (by omega)] at h; exact h5 h
    · rw [upd_ne (by omega)] at h; exact h6 h
/-- the sizes of valid integer types -/
def okI (k : api_Int) : Bool := k.vSize == 1 || k.vSize == 2 || k.vSize == 4 || k.vSize == 8
theorem all_keys {ks : List api_Int} (h3 : ∀ j, j < 8 → keyAt j ∈ ks) (h4 : ∀ k ∈ ks, ∃ j, j < 8 ∧ k = keyAt j) (k : api_Int) : ks.any (eqI k) = okI k := by
  have key : ks.any (eqI k) = true ↔ okI k = true := by
    rw [List.any_eq_true]
    constructor
    · rintro ⟨q, hq, he⟩
      obtain ⟨j, hj, rfl⟩ := h4 q hq
      obtain rfl := eqI_iff.1 he
      have : ∀ j : Fin 8, okI (keyAt j) = true := by decide
      exact this ⟨j, hj⟩
    · intro h
      obtain ⟨s, g⟩ := k
      have h1 : ∃ j, j < 8 ∧ keyAt j = ⟨s, g⟩ := by
        simp only [okI, Bool.or_eq_true, beq_iff_eq] at h
        rcases h with ((h | h) | h) | h <;> subst h <;> cases g
        · exact ⟨1, by decide, rfl⟩
        · exact ⟨0, by decide, rfl⟩
        · exact ⟨3, by decide, rfl⟩
        · exact ⟨2, by decide, rfl⟩
        · exact ⟨5, by decide, rfl⟩
        · exact ⟨4, by decide, rfl⟩
        · exact ⟨7, by decide, rfl⟩
        · exact ⟨6, by decide, rfl⟩
      obtain ⟨j, hj, e⟩ := h1
      exact ⟨keyAt j, h3 j hj, eqI_iff.2 e.symm⟩
  cases h1 : ks.any (eqI k) with
  | true => exact (key.1 h1).symm
  | false =>
    cases h2 : okI k with
    | false => rfl
    | true => rw [key.2 h2] at h1; cases h1
set_option maxRecDepth 20000 in
set_option maxHeartbeats 4000000 in
theorem bits_conversions.calls {w0 : World} : Calls Tryz.prog 90 #[] w0 (fun e w1 => ∃ b es cl ks, e = .returned (.map (some b)) ∧ w0.heap.size ≤ b ∧ w1.heap[b]? = some (.map es cl) ∧ KVs e_api_Int fvI ks es ∧ (∀ k, ks.any (eqI k) = okI k) ∧ Ext w0 w1) := by
  go_enter Tryz.func90, Tryz.ntmps90
  refine wp_seq ?_
  refine region ?_
  refine run_same (v := Value.map none) rfl rfl (r_assign rfl) ?_
  try simp only [List.set_cons_zero, List.set_cons_succ]
  refine run_nil ?_
  refine norm_then ?_
  refine wp_seq ?_
  refine drawn_inv (CInv w0 []) hmix (by kernel_rfl) ?_ ?_ ?_
  · intro w' hE
    exact CInv.mk rfl rfl (fun j hj h => by cases h) (fun _ => ⟨hE, fun _ _ => rfl, rfl, rfl⟩) (fun h => by cases h)
  · intro L a w i o C ho hLi hall
    have hil : i < 19 := (List.getElem?_eq_some_iff.1 ho).1
    have hops := ho
    rw [← List.getElem?_toArray] at hops
    rcases (by omega : i = 0 ∨ i = 1 ∨ i = 2 ∨ i = 3 ∨ i = 4 ∨ i = 5 ∨ i = 6 ∨ i = 7 ∨ i = 8 ∨ i = 9 ∨ i = 10 ∨ i = 11 ∨ i = 12 ∨ i = 13 ∨ i = 14 ∨ i = 15 ∨ i = 16 ∨ i = 17 ∨ i = 18) with rfl | rfl | rfl | rfl | rfl | rfl | rfl | rfl | rfl | rfl | rfl | rfl | rfl | rfl | rfl | rfl | rfl | rfl | rfl
    · -- the map
      obtain rfl := Option.some.inj ho
      obtain ⟨h1, h2, h3, h4⟩ := C.none_ hLi
      refine stepv hops rfl (v := .map (some w.heap.size)) (w' := w.alloc (.map #[] 0)) ?_ ?_
      · have hn : Sem.run Tryz.prog (Sem.new (Obj.map #[] 0) Sem.pure) w = .ok w.heap.size (w.alloc (.map #[] 0)) := rfl
        simp [execOp, Instr.makeMap, newObj, hn]
      · refine CInv.mk (by simp [Act.put, C.defers]) (by simp [Act.put, C.size]) (fun q hq hL => ?_) (fun h => by rw [upd_at] at h; cases h) (fun _ => ?_)
        · rw [upd_ne (by omega)] at hL
          show (a.put (some 1) _).tmps.getD _ undef = _
          rw [getD_put_ne sl_1']; exact C.built q hq hL
        · refine ⟨w.heap.size, #[], 0, [], getD_put_at (by rw [C.size]; decide), ⟨h1.size, heap_alloc_new w _, rfl, h1.then (Ext.new w _)⟩, fun q hq => ?_, by simp, fun h => ?_, fun h => ?_⟩
          · rw [upd_ne (by omega), h2 q hq]; simp
          · rw [upd_ne (by omega), h3] at h; cases h
          · rw [upd_ne (by omega), h4] at h; cases h
    · obtain rfl := Option.some.inj ho
      exact stepv hops rfl (r_build (cs := [.int .i64 1, .bool true]) (ps := [(0, .int .i64 1), (1, .bool true)]) Tryz.zeroValue29 Tryz.runUnderlying29 (pl := #[(0, 1), (1, 1)]) (fun w => by simp [Tryz.sizeOf3, Tryz.sizeOf4]) (parts_2 rfl rfl) rfl) (C.build (j := 0) (by decide))
    · obtain rfl := Option.some.inj ho
      simp [Region.binds] at hall
      obtain ⟨w', hex, hC⟩ := C.insert (o := ⟨none, .insert 178 (.tmp 1) (.tmp 2) (.func 135), 0, "bits.go:22", #[{ on := 0, ground := Ground.data }, { on := 1, ground := Ground.data }], none⟩) (j := 0) (by decide) hLi hall.1 hall.2 rfl rfl
      exact steps hops rfl rfl hex hC
    · obtain rfl := Option.some.inj ho
      exact stepv hops rfl (r_build (cs := [.int .i64 1, .bool false]) (ps := [(0, .int .i64 1)]) Tryz.zeroValue29 Tryz.runUnderlying29 (pl := #[(0, 1), (1, 1)]) (fun w => by simp [Tryz.sizeOf3, Tryz.sizeOf4]) (parts_1 rfl) rfl) (C.build (j := 1) (by decide))
    · obtain rfl := Option.some.inj ho
      simp [Region.binds] at hall
      obtain ⟨w', hex, hC⟩ := C.insert (o := ⟨none, .insert 178 (.tmp 1) (.tmp 3) (.func 136), 0, "bits.go:22", #[{ on := 0, ground := Ground.data }, { on := 3, ground := Ground.data }], none⟩) (j := 1) (by decide) hLi hall.1 hall.2 rfl rfl
      exact steps hops rfl rfl hex hC
    · obtain rfl := Option.some.inj ho
      exact stepv hops rfl (r_build (cs := [.int .i64 2, .bool true]) (ps := [(0, .int .i64 2), (1, .bool true)]) Tryz.zeroValue29 Tryz.runUnderlying29 (pl := #[(0, 1), (1, 1)]) (fun w => by simp [Tryz.sizeOf3, Tryz.sizeOf4]) (parts_2 rfl rfl) rfl) (C.build (j := 2) (by decide))
    · obtain rfl := Option.some.inj ho
      simp [Region.binds] at hall
      obtain ⟨w', hex, hC⟩ := C.insert (o := ⟨none, .insert 178 (.tmp 1) (.tmp 4) (.func 137), 0, "bits.go:22", #[{ on := 0, ground := Ground.data }, { on := 5, ground := Ground.data }], none⟩) (j := 2) (by decide) hLi hall.1 hall.2 rfl rfl
      exact steps hops rfl rfl hex hC
    · obtain rfl := Option.some.inj ho
      exact stepv hops rfl (r_build (cs := [.int .i64 2, .bool false]) (ps := [(0, .int .i64 2)]) Tryz.zeroValue29 Tryz.runUnderlying29 (pl := #[(0, 1), (1, 1)]) (fun w => by simp [Tryz.sizeOf3, Tryz.sizeOf4]) (parts_1 rfl) rfl) (C.build (j := 3) (by decide))
    · obtain rfl := Option.some.inj ho
      simp [Region.binds] at hall
      obtain ⟨w', hex, hC⟩ := C.insert (o := ⟨none, .insert 178 (.tmp 1) (.tmp 5) (.func 138), 0, "bits.go:22", #[{ on := 0, ground := Ground.data }, { on := 7, ground := Ground.data }], none⟩) (j := 3) (by decide) hLi hall.1 hall.2 rfl rfl
      exact steps hops rfl rfl hex hC
    · obtain rfl := Option.some.inj ho
      exact stepv hops rfl (r_build (cs := [.int .i64 4, .bool true]) (ps := [(0, .int .i64 4), (1, .bool true)]) Tryz.zeroValue29 Tryz.runUnderlying29 (pl := #[(0, 1), (1, 1)]) (fun w => by simp [Tryz.sizeOf3, Tryz.sizeOf4]) (parts_2 rfl rfl) rfl) (C.build (j := 4) (by decide))
    · obtain rfl := Option.some.inj ho
      simp [Region.binds] at hall
      obtain ⟨w', hex, hC⟩ := C.insert (o := ⟨none, .insert 178 (.tmp 1) (.tmp 6) (.func 139), 0, "bits.go:22", #[{ on := 0, ground := Ground.data }, { on := 9, ground := Ground.data }], none⟩) (j := 4) (by decide) hLi hall.1 hall.2 rfl rfl
      exact steps hops rfl rfl hex hC
    · obtain rfl := Option.some.inj ho
      exact stepv hops rfl (r_build (cs := [.int .i64 4, .bool false]) (ps := [(0, .int .i64 4)]) Tryz.zeroValue29 Tryz.runUnderlying29 (pl := #[(0, 1), (1, 1)]) (fun w => by simp [Tryz.sizeOf3, Tryz.sizeOf4]) (parts_1 rfl) rfl) (C.build (j := 5) (by decide))
    · obtain rfl := Option.some.inj ho
      simp [Region.binds] at hall
      obtain ⟨w', hex, hC⟩ := C.insert (o := ⟨none, .insert 178 (.tmp 1) (.tmp 7) (.func 140), 0, "bits.go:22", #[{ on := 0, ground := Ground.data }, { on := 11, ground := Ground.data }], none⟩) (j := 5) (by decide) hLi hall.1 hall.2 rfl rfl
      exact steps hops rfl rfl hex hC
    · obtain rfl := Option.some.inj ho
      exact stepv hops rfl (r_build (cs := [.int .i64 8, .bool true]) (ps := [(0, .int .i64 8), (1, .bool true)]) Tryz.zeroValue29 Tryz.runUnderlying29 (pl := #[(0, 1), (1, 1)]) (fun w => by simp [Tryz.sizeOf3, Tryz.sizeOf4]) (parts_2 rfl rfl) rfl) (C.build (j := 6) (by decide))
    · obtain rfl := Option.some.inj ho
      simp [Region.binds] at hall
      obtain ⟨w', hex, hC⟩ := C.insert (o := ⟨none, .insert 178 (.tmp 1) (.tmp 8) (.func 141), 0, "bits.go:22", #[{ on := 0, ground := Ground.data }, { on := 13, ground := Ground.data }], none⟩) (j := 6) (by decide) hLi hall.1 hall.2 rfl rfl
      exact steps hops rfl rfl hex hC
    · obtain rfl := Option.some.inj ho
      exact stepv hops rfl (r_build (cs := [.int .i64 8, .bool false]) (ps := [(0, .int .i64 8)]) Tryz.zeroValue29 Tryz.runUnderlying29 (pl := #[(0, 1), (1, 1)]) (fun w => by simp [Tryz.sizeOf3, Tryz.sizeOf4]) (parts_1 rfl) rfl) (C.build (j := 7) (by decide))
    · obtain rfl := Option.some.inj ho
      simp [Region.binds] at hall
      obtain ⟨w', hex, hC⟩ := C.insert (o := ⟨none, .insert 178 (.tmp 1) (.tmp 9) (.func 142), 0, "bits.go:22", #[{ on := 0, ground := Ground.data }, { on := 15, ground := Ground.data }], none⟩) (j := 7) (by decide) hLi hall.1 hall.2 rfl rfl
      exact steps hops rfl rfl hex hC
    · obtain rfl := Option.some.inj ho
      simp [Region.binds] at hall
      obtain ⟨b, es, cl, ks, h1, h2, h3, h4, h5, h6⟩ := C.some_ hall.1
      refine stepv hops rfl (v := .map (some b)) (w' := w) (r_move h1) ?_
      refine CInv.mk (by simp [Act.put, C.defers]) (by simp [Act.put, C.size]) (fun q hq hL => ?_) (fun h => by rw [upd_ne (by omega), hall.1] at h; cases h) (fun _ => ⟨b, es, cl, ks, ?_, h2, fun q hq => by rw [upd_ne (by omega)]; exact h3 q hq, h4, fun _ => ?_, fun h => ?_⟩)
      · rw [upd_ne (by omega)] at hL
        show (a.put (some 10) _).tmps.getD _ undef = _
        rw [getD_put_ne (sl_10' hq)]; exact C.built q hq hL
      · exact (getD_put_ne (by decide)).trans h1
      · exact getD_put_at (by rw [C.size]; decide)
      · rw [upd_ne (by omega)] at h
        exact (getD_put_ne (by decide)).trans (h6 h)
    · obtain rfl := Option.some.inj ho
      simp [Region.binds] at hall
      obtain ⟨b, es, cl, ks, h1, h2, h3, h4, h5, h6⟩ := C.some_ hall.2.1
      refine stepv hops rfl (v := .map (some b)) (w' := w) (r_assign (h5 hall.1)) ?_
      refine CInv.mk (by simp [Act.put, C.defers]) (by simp [Act.put, C.size]) (fun q hq hL => ?_) (fun h => by rw [upd_ne (by omega), hall.2.1] at h; cases h) (fun _ => ⟨b, es, cl, ks, ?_, h2, fun q hq => by rw [upd_ne (by omega)]; exact h3 q hq, h4, fun h => ?_, fun _ => ?_⟩)
      · rw [upd_ne (by omega)] at hL
        show (a.put (some 0) _).tmps.getD _ undef = _
        rw [getD_put_ne sl_0']; exact C.built q hq hL
      · exact (getD_put_ne (by decide)).trans h1
      · rw [upd_ne (by omega)] at h
        exact (getD_put_ne (by decide)).trans (h5 h)
      · exact getD_put_at (by rw [C.size]; decide)
  · intro L a w C hall
    obtain ⟨b, es, cl, ks, h1, h2, h3, h4, h5, h6⟩ := C.some_ (hall 0 (by decide))
    refine norm_then ?_
    refine wp_ret ?_
    refine bodyPost_ret (results_1 rfl (one_tmp (h6 (hall 18 (by decide))))) C.defers ?_
    exact ⟨b, es, cl, ks, rfl, h2.ge, h2.at_, h2.keys, all_keys (fun j hj => (h3 j hj).1 (hall (2 * j + 2) (by show 2 * j + 2 < 19; omega))) h4, h2.ext⟩
end Go.Proofs.YtecpbadkdpbkpaaGreatDoor
/- bits.Check: which integer types are valid. -/
namespace Go.Proofs.YtecpbadkdpbkpaaGreatDoor
open Go.RowKit Go.M
def bits_Check.f (a0 : api_Int) : Option Int := some (if okI a0 = true then 0 else 10)
theorem r_lookups {P : Program} {ρ : Operand → Value} {w : World} {dst : Option Tmp} {ty : TypeId} {pos : String} {after : Array Edge} {guard : Option (Nat × Bool)} {xt : TypeId} {x y : Operand} {b : Nat} {k v : Value} (hx : ρ x = .map (some b)) (hy : ρ y = k)
    (h : (Instr.lookup xt (.map (some b)) k true).run P w = .ok v w) : (execOp ρ ⟨dst, .lookup xt x y true, ty, pos, after, guard⟩).run P w = .ok (.value v) w := by
  simp [execOp, hx, hy, h]
set_option maxRecDepth 20000 in
set_option maxHeartbeats 4000000 in
theorem bits_Check.calls (a0 : api_Int) {h0 : View} {w0 : World} (hv : Sees h0 w0) {r : Int} (H : bits_Check.f a0 = some r) : Calls Tryz.prog 56 #[Value.agg #[Value.int .i64 a0.vSize, Value.bool a0.vSigned]] w0 (fun e w1 => e = .returned (Value.int .i64 r) ∧ Ext w0 w1) := by
  unfold bits_Check.f at H
  obtain rfl := Option.some.inj H
  have HS : St [] h0 w0 h0 [] w0 := St.init hv
  go_enter Tryz.func56, Tryz.ntmps56
  refine wp_seq ?_
  refine region ?_
  refine run_ex rfl rfl (does_box (cs := #[Value.int .i64 a0.vSize, Value.bool a0.vSigned]) rfl rfl) ?_
  rintro w1 _ hE1 ⟨b1, rfl, ge1, hb1⟩
  have HS1 := HS.new hE1 ge1 hb1
  refine run_same (v := Value.int .i64 0) rfl rfl (r_assign rfl) ?_
  try simp only [List.set_cons_zero, List.set_cons_succ]
  refine run_nil ?_
  refine norm_then ?_
  refine wp_seq ?_
  refine wp_seq ?_
  refine drawn_chain [([7], [1]), ([8, 5, 9, 10, 3, 4], [1, 2, 3, 4, 5, 6, 7])] [0] [[], [], [0, 1], [0, 1, 2], [0, 1, 2, 3], [0, 1, 2, 3], [0, 1, 2, 3, 4], [0, 1, 2, 3, 4, 5, 6]] hmix (by kernel_rfl) ?_
  intro w2 hE2
  have HS2 := HS1.step hE2
  refine chain_eff [e_api_Int a0] ?_ rfl rfl ?_
  · simp only [patch, List.set_cons_zero, List.set_cons_succ]
    exact allg_cons (good_same (v := e_api_Int a0) rfl rfl rfl rfl (r_loadBoxAgg (n := 2) (vs := [Value.int .i64 a0.vSize, Value.bool a0.vSigned]) rfl Tryz.isAgg29 (HS2.look 0 rfl) Tryz.sizeOf29 rfl rfl)) allg_nil
  simp only [patch, List.set_cons_zero, List.set_cons_succ]
  refine run_call (vs := []) (caps := []) Tryz.call90 rfl rfl bits_conversions.calls ?_
  rintro _ w3 ⟨b2, es, cl, ks, rfl, hge, hb, hk, hok, hE3⟩
  refine ⟨_, rfl, ?_⟩
  refine qn_nil ?_
  try simp only [List.set_cons_zero, List.set_cons_succ]
  have HS3 := HS2.step hE3
  obtain ⟨v, hlk⟩ := lookup_s keyI a0 hk.keys Tryz.runUnderlying178 Tryz.zeroValue176 hb
  rw [hok a0] at hlk
  refine chain_last [.tuple #[v, .bool (okI a0)], .tuple #[v, .bool (okI a0)], v, .bool (okI a0), v, .bool (okI a0)] ?_ ?_
  · simp only [patch, List.set_cons_zero, List.set_cons_succ]
    exact allg_cons (good_same (v := e_api_Int a0) rfl rfl rfl rfl (r_loadBoxAgg (n := 2) (vs := [Value.int .i64 a0.vSize, Value.bool a0.vSigned]) rfl Tryz.isAgg29 (HS3.look 0 rfl) Tryz.sizeOf29 rfl rfl)) (allg_cons (good_same (v := .tuple #[v, .bool (okI a0)]) rfl rfl rfl rfl (r_lookups rfl rfl hlk))
      (allg_cons (good_same rfl rfl rfl rfl (r_move rfl)) (allg_cons (good_same rfl rfl rfl rfl (r_extract rfl rfl)) (allg_cons (good_same rfl rfl rfl rfl (r_extract rfl rfl)) (allg_cons (good_same rfl rfl rfl rfl (r_assign rfl)) (allg_cons (good_same rfl rfl rfl rfl (r_assign rfl)) allg_nil))))))
  simp only [patch, List.set_cons_zero, List.set_cons_succ]
  refine norm_then ?_
  refine wp_seq ?_
  refine region ?_
  refine run_same (v := Value.bool (okI a0)) rfl rfl (r_move rfl) ?_
  refine run_same (v := Value.bool (!(okI a0))) rfl rfl (r_not rfl) ?_
  try simp only [List.set_cons_zero, List.set_cons_succ]
  refine run_nil ?_
  refine norm_then ?_
  refine wp_cond_split (t := !(okI a0)) rfl (fun c1 => ?_) (fun c1 => ?_)
  · refine wp_seq ?_
    refine region ?_
    refine run_same (v := Value.int .i64 10) rfl rfl (r_assign rfl) ?_
    try simp only [List.set_cons_zero, List.set_cons_succ]
    refine run_nil ?_
    refine norm_then ?_
    refine wp_ret ?_
    refine ret_then ?_
    refine bodyPost_ret (results_1 rfl (one_tmp rfl)) rfl ?_
    have : okI a0 = false := by simpa using c1
    rw [this]
    exact ⟨rfl, HS3.toE⟩
  · refine wp_skip ?_
    refine norm_then ?_
    refine wp_seq ?_
    refine region ?_
    refine run_same (v := Value.int .i64 0) rfl rfl (r_assign rfl) ?_
    try simp only [List.set_cons_zero, List.set_cons_succ]
    refine run_nil ?_
    refine norm_then ?_
    refine wp_ret ?_
    refine bodyPost_ret (results_1 rfl (one_tmp rfl)) rfl ?_
    have : okI a0 = true := by simpa using c1
    rw [this]
    exact ⟨rfl, HS3.toE⟩
end Go.Proofs.YtecpbadkdpbkpaaGreatDoor
namespace Go.Proofs.YtecpbadkdpbkpaaGreatDoor
open Go.RowKit Go.M
def bits_through_int8.f (a0 : Int) : Option (Int) := some (IntKind.wrap .i64 (IntKind.wrap .i8 a0))
set_option maxRecDepth 20000 in
set_option maxHeartbeats 4000000 in
theorem bits_through_int8.calls (a0 : Int)  {h0 : View} {w0 : World} (hv : Sees h0 w0) {r : Int} (H : bits_through_int8.f a0 = some r) : Calls Tryz.prog 135 #[Value.int .i64 a0] w0 (fun e w1 => e = .returned (Value.int .i64 r) ∧ Ext w0 w1) := by
  unfold bits_through_int8.f at H
  have HS : St [] h0 w0 h0 [] w0 := St.init hv
  go_enter Tryz.func135, Tryz.ntmps135
  refine wp_seq ?_
  refine region ?_
  refine run_same (v := Value.int .i64 0) rfl rfl (r_assign rfl) ?_
  try simp only [List.set_cons_zero, List.set_cons_succ]
  refine run_nil ?_
  refine norm_then ?_
  refine wp_seq ?_
  refine region ?_
  refine run_same (v := Value.int .i64 a0) rfl rfl (r_move rfl) ?_
  refine run_same (v := Value.int .i8 (IntKind.wrap .i8 a0)) rfl rfl (r_conv rfl Tryz.runUnderlying2 Tryz.runUnderlying227) ?_
  refine run_same (v := Value.int .i64 (IntKind.wrap .i64 (IntKind.wrap .i8 a0))) rfl rfl (r_conv rfl Tryz.runUnderlying227 Tryz.runUnderlying2) ?_
  refine run_same (v := Value.int .i64 (IntKind.wrap .i64 (IntKind.wrap .i8 a0))) rfl rfl (r_assign rfl) ?_
  try simp only [List.set_cons_zero, List.set_cons_succ]
  refine run_nil ?_
  refine norm_then ?_
  refine wp_ret ?_
  obtain rfl := Option.some.inj H
  refine bodyPost_ret (results_1 rfl (one_tmp rfl)) rfl ?_
  exact ⟨rfl, HS.toE⟩

end Go.Proofs.YtecpbadkdpbkpaaGreatDoor
namespace Go.Proofs.YtecpbadkdpbkpaaGreatDoor
open Go.RowKit Go.M
def bits_through_uint8.f (a0 : Int) : Option (Int) := some (IntKind.wrap .i64 (IntKind.wrap .u8 a0))
set_option maxRecDepth 20000 in
set_option maxHeartbeats 4000000 in
theorem bits_through_uint8.calls (a0 : Int)  {h0 : View} {w0 : World} (hv : Sees h0 w0) {r : Int} (H : bits_through_uint8.f a0 = some r) : Calls Tryz.prog 136 #[Value.int .i64 a0] w0 (fun e w1 => e = .returned (Value.int .i64 r) ∧ Ext w0 w1) := by
  unfold bits_through_uint8.f at H
  have HS : St [] h0 w0 h0 [] w0 := St.init hv
  go_enter Tryz.func136, Tryz.ntmps136
  refine wp_seq ?_
  refine region ?_
  refine run_same (v := Value.int .i64 0) rfl rfl (r_assign rfl) ?_
  try simp only [List.set_cons_zero, List.set_cons_succ]
  refine run_nil ?_
  refine norm_then ?_
  refine wp_seq ?_
  refine region ?_
  refine run_same (v := Value.int .i64 a0) rfl rfl (r_move rfl) ?_
  refine run_same (v := Value.int .u8 (IntKind.wrap .u8 a0)) rfl rfl (r_conv rfl Tryz.runUnderlying2 Tryz.runUnderlying5) ?_
  refine run_same (v := Value.int .i64 (IntKind.wrap .i64 (IntKind.wrap .u8 a0))) rfl rfl (r_conv rfl Tryz.runUnderlying5 Tryz.runUnderlying2) ?_
  refine run_same (v := Value.int .i64 (IntKind.wrap .i64 (IntKind.wrap .u8 a0))) rfl rfl (r_assign rfl) ?_
  try simp only [List.set_cons_zero, List.set_cons_succ]
  refine run_nil ?_
  refine norm_then ?_
  refine wp_ret ?_
  obtain rfl := Option.some.inj H
  refine bodyPost_ret (results_1 rfl (one_tmp rfl)) rfl ?_
  exact ⟨rfl, HS.toE⟩

end Go.Proofs.YtecpbadkdpbkpaaGreatDoor
namespace Go.Proofs.YtecpbadkdpbkpaaGreatDoor
open Go.RowKit Go.M
def bits_through_int16.f (a0 : Int) : Option (Int) := some (IntKind.wrap .i64 (IntKind.wrap .i16 a0))
set_option maxRecDepth 20000 in
set_option maxHeartbeats 4000000 in
theorem bits_through_int16.calls (a0 : Int)  {h0 : View} {w0 : World} (hv : Sees h0 w0) {r : Int} (H : bits_through_int16.f a0 = some r) : Calls Tryz.prog 137 #[Value.int .i64 a0] w0 (fun e w1 => e = .returned (Value.int .i64 r) ∧ Ext w0 w1) := by
  unfold bits_through_int16.f at H
  have HS : St [] h0 w0 h0 [] w0 := St.init hv
  go_enter Tryz.func137, Tryz.ntmps137
  refine wp_seq ?_
  refine region ?_
  refine run_same (v := Value.int .i64 0) rfl rfl (r_assign rfl) ?_
  try simp only [List.set_cons_zero, List.set_cons_succ]
  refine run_nil ?_
  refine norm_then ?_
  refine wp_seq ?_
  refine region ?_
  refine run_same (v := Value.int .i64 a0) rfl rfl (r_move rfl) ?_
  refine run_same (v := Value.int .i16 (IntKind.wrap .i16 a0)) rfl rfl (r_conv rfl Tryz.runUnderlying2 Tryz.runUnderlying228) ?_
  refine run_same (v := Value.int .i64 (IntKind.wrap .i64 (IntKind.wrap .i16 a0))) rfl rfl (r_conv rfl Tryz.runUnderlying228 Tryz.runUnderlying2) ?_
  refine run_same (v := Value.int .i64 (IntKind.wrap .i64 (IntKind.wrap .i16 a0))) rfl rfl (r_assign rfl) ?_
  try simp only [List.set_cons_zero, List.set_cons_succ]
  refine run_nil ?_
  refine norm_then ?_
  refine wp_ret ?_
  obtain rfl := Option.some.inj H
  refine bodyPost_ret (results_1 rfl (one_tmp rfl)) rfl ?_
  exact ⟨rfl, HS.toE⟩

end Go.Proofs.YtecpbadkdpbkpaaGreatDoor
namespace Go.Proofs.YtecpbadkdpbkpaaGreatDoor
open Go.RowKit Go.M
def bits_through_uint16.f (a0 : Int) : Option (Int) := some (IntKind.wrap .i64 (IntKind.wrap .u16 a0))
set_option maxRecDepth 20000 in
set_option maxHeartbeats 4000000 in
theorem bits_through_uint16.calls (a0 : Int)  {h0 : View} {w0 : World} (hv : Sees h0 w0) {r : Int} (H : bits_through_uint16.f a0 = some r) : Calls Tryz.prog 138 #[Value.int .i64 a0] w0 (fun e w1 => e = .returned (Value.int .i64 r) ∧ Ext w0 w1) := by
  unfold bits_through_uint16.f at H
  have HS : St [] h0 w0 h0 [] w0 := St.init hv
  go_enter Tryz.func138, Tryz.ntmps138
  refine wp_seq ?_
  refine region ?_
  refine run_same (v := Value.int .i64 0) rfl rfl (r_assign rfl) ?_
  try simp only [List.set_cons_zero, List.set_cons_succ]
  refine run_nil ?_
  refine norm_then ?_
  refine wp_seq ?_
  refine region ?_
  refine run_same (v := Value.int .i64 a0) rfl rfl (r_move rfl) ?_
  refine run_same (v := Value.int .u16 (IntKind.wrap .u16 a0)) rfl rfl (r_conv rfl Tryz.runUnderlying2 Tryz.runUnderlying229) ?_
  refine run_same (v := Value.int .i64 (IntKind.wrap .i64 (IntKind.wrap .u16 a0))) rfl rfl (r_conv rfl Tryz.runUnderlying229 Tryz.runUnderlying2) ?_
  refine run_same (v := Value.int .i64 (IntKind.wrap .i64 (IntKind.wrap .u16 a0))) rfl rfl (r_assign rfl) ?_
  try simp only [List.set_cons_zero, List.set_cons_succ]
  refine run_nil ?_
  refine norm_then ?_
  refine wp_ret ?_
  obtain rfl := Option.some.inj H
  refine bodyPost_ret (results_1 rfl (one_tmp rfl)) rfl ?_
  exact ⟨rfl, HS.toE⟩

end Go.Proofs.YtecpbadkdpbkpaaGreatDoor
namespace Go.Proofs.YtecpbadkdpbkpaaGreatDoor
open Go.RowKit Go.M
def bits_through_int32.f (a0 : Int) : Option (Int) := some (IntKind.wrap .i64 (IntKind.wrap .i32 a0))
set_option maxRecDepth 20000 in
set_option maxHeartbeats 4000000 in
theorem bits_through_int32.calls (a0 : Int)  {h0 : View} {w0 : World} (hv : Sees h0 w0) {r : Int} (H : bits_through_int32.f a0 = some r) : Calls Tryz.prog 139 #[Value.int .i64 a0] w0 (fun e w1 => e = .returned (Value.int .i64 r) ∧ Ext w0 w1) := by
  unfold bits_through_int32.f at H
  have HS : St [] h0 w0 h0 [] w0 := St.init hv
  go_enter Tryz.func139, Tryz.ntmps139
  refine wp_seq ?_
  refine region ?_
  refine run_same (v := Value.int .i64 0) rfl rfl (r_assign rfl) ?_
  try simp only [List.set_cons_zero, List.set_cons_succ]
  refine run_nil ?_
  refine norm_then ?_
  refine wp_seq ?_
  refine region ?_
  refine run_same (v := Value.int .i64 a0) rfl rfl (r_move rfl) ?_
  refine run_same (v := Value.int .i32 (IntKind.wrap .i32 a0)) rfl rfl (r_conv rfl Tryz.runUnderlying2 Tryz.runUnderlying21) ?_
  refine run_same (v := Value.int .i64 (IntKind.wrap .i64 (IntKind.wrap .i32 a0))) rfl rfl (r_conv rfl Tryz.runUnderlying21 Tryz.runUnderlying2) ?_
  refine run_same (v := Value.int .i64 (IntKind.wrap .i64 (IntKind.wrap .i32 a0))) rfl rfl (r_assign rfl) ?_
  try simp only [List.set_cons_zero, List.set_cons_succ]
  refine run_nil ?_
  refine norm_then ?_
  refine wp_ret ?_
  obtain rfl := Option.some.inj H
  refine bodyPost_ret (results_1 rfl (one_tmp rfl)) rfl ?_
  exact ⟨rfl, HS.toE⟩

end Go.Proofs.YtecpbadkdpbkpaaGreatDoor
namespace Go.Proofs.YtecpbadkdpbkpaaGreatDoor
open Go.RowKit Go.M
def bits_through_uint32.f (a0 : Int) : Option (Int) := some (IntKind.wrap .i64 (IntKind.wrap .u32 a0))
set_option maxRecDepth 20000 in
set_option maxHeartbeats 4000000 in
theorem bits_through_uint32.calls (a0 : Int)  {h0 : View} {w0 : World} (hv : Sees h0 w0) {r : Int} (H : bits_through_uint32.f a0 = some r) : Calls Tryz.prog 140 #[Value.int .i64 a0] w0 (fun e w1 => e = .returned (Value.int .i64 r) ∧ Ext w0 w1) := by
  unfold bits_through_uint32.f at H
  have HS : St [] h0 w0 h0 [] w0 := St.init hv
  go_enter Tryz.func140, Tryz.ntmps140
  refine wp_seq ?_
  refine region ?_
  refine run_same (v := Value.int .i64 0) rfl rfl (r_assign rfl) ?_
  try simp only [List.set_cons_zero, List.set_cons_succ]
  refine run_nil ?_
  refine norm_then ?_
  refine wp_seq ?_
  refine region ?_
  refine run_same (v := Value.int .i64 a0) rfl rfl (r_move rfl) ?_
  refine run_same (v := Value.int .u32 (IntKind.wrap .u32 a0)) rfl rfl (r_conv rfl Tryz.runUnderlying2 Tryz.runUnderlying230) ?_
  refine run_same (v := Value.int .i64 (IntKind.wrap .i64 (IntKind.wrap .u32 a0))) rfl rfl (r_conv rfl Tryz.runUnderlying230 Tryz.runUnderlying2) ?_
  refine run_same (v := Value.int .i64 (IntKind.wrap .i64 (IntKind.wrap .u32 a0))) rfl rfl (r_assign rfl) ?_
  try simp only [List.set_cons_zero, List.set_cons_succ]
  refine run_nil ?_
  refine norm_then ?_
  refine wp_ret ?_
  obtain rfl := Option.some.inj H
  refine bodyPost_ret (results_1 rfl (one_tmp rfl)) rfl ?_
  exact ⟨rfl, HS.toE⟩

end Go.Proofs.YtecpbadkdpbkpaaGreatDoor
namespace Go.Proofs.YtecpbadkdpbkpaaGreatDoor
open Go.RowKit Go.M
def bits_through_int64.f (a0 : Int) : Option (Int) := some a0
set_option maxRecDepth 20000 in
set_option maxHeartbeats 4000000 in
theorem bits_through_int64.calls (a0 : Int)  {h0 : View} {w0 : World} (hv : Sees h0 w0) {r : Int} (H : bits_through_int64.f a0 = some r) : Calls Tryz.prog 141 #[Value.int .i64 a0] w0 (fun e w1 => e = .returned (Value.int .i64 r) ∧ Ext w0 w1) := by
  unfold bits_through_int64.f at H
  have HS : St [] h0 w0 h0 [] w0 := St.init hv
  go_enter Tryz.func141, Tryz.ntmps141
  refine wp_seq ?_
  refine region ?_
  refine run_same (v := Value.int .i64 0) rfl rfl (r_assign rfl) ?_
  try simp only [List.set_cons_zero, List.set_cons_succ]
  refine run_nil ?_
  refine norm_then ?_
  refine wp_seq ?_
  refine region ?_
  refine run_same (v := Value.int .i64 a0) rfl rfl (r_move rfl) ?_
  refine run_same (v := Value.int .i64 a0) rfl rfl (r_assign rfl) ?_
  try simp only [List.set_cons_zero, List.set_cons_succ]
  refine run_nil ?_
  refine norm_then ?_
  refine wp_ret ?_
  obtain rfl := Option.some.inj H
  refine bodyPost_ret (results_1 rfl (one_tmp rfl)) rfl ?_
  exact ⟨rfl, HS.toE⟩

end Go.Proofs.YtecpbadkdpbkpaaGreatDoor
namespace Go.Proofs.YtecpbadkdpbkpaaGreatDoor
open Go.RowKit Go.M
def bits_through_uint64.f (a0 : Int) : Option (Int) := some (IntKind.wrap .i64 (IntKind.wrap .u64 a0))
set_option maxRecDepth 20000 in
set_option maxHeartbeats 4000000 in
theorem bits_through_uint64.calls (a0 : Int)  {h0 : View} {w0 : World} (hv : Sees h0 w0) {r : Int} (H : bits_through_uint64.f a0 = some r) : Calls Tryz.prog 142 #[Value.int .i64 a0] w0 (fun e w1 => e = .returned (Value.int .i64 r) ∧ Ext w0 w1) := by
  unfold bits_through_uint64.f at H
  have HS : St [] h0 w0 h0 [] w0 := St.init hv
  go_enter Tryz.func142, Tryz.ntmps142
  refine wp_seq ?_
  refine region ?_
  refine run_same (v := Value.int .i64 0) rfl rfl (r_assign rfl) ?_
  try simp only [List.set_cons_zero, List.set_cons_succ]
  refine run_nil ?_
  refine norm_then ?_
  refine wp_seq ?_
  refine region ?_
  refine run_same (v := Value.int .i64 a0) rfl rfl (r_move rfl) ?_
  refine run_same (v := Value.int .u64 (IntKind.wrap .u64 a0)) rfl rfl (r_conv rfl Tryz.runUnderlying2 Tryz.runUnderlying71) ?_
  refine run_same (v := Value.int .i64 (IntKind.wrap .i64 (IntKind.wrap .u64 a0))) rfl rfl (r_conv rfl Tryz.runUnderlying71 Tryz.runUnderlying2) ?_
  refine run_same (v := Value.int .i64 (IntKind.wrap .i64 (IntKind.wrap .u64 a0))) rfl rfl (r_assign rfl) ?_
  try simp only [List.set_cons_zero, List.set_cons_succ]
  refine run_nil ?_
  refine norm_then ?_
  refine wp_ret ?_
  obtain rfl := Option.some.inj H
  refine bodyPost_ret (results_1 rfl (one_tmp rfl)) rfl ?_
  exact ⟨rfl, HS.toE⟩

end Go.Proofs.YtecpbadkdpbkpaaGreatDoor
/- bits.wrap: a number wrapped to a valid type, by the function that the map of conversions leads to. -/
namespace Go.Proofs.YtecpbadkdpbkpaaGreatDoor
open Go.RowKit Go.M
/-- a number wrapped to a type -/
def wrp (k : api_Int) (v : Int) : Int := if k.vSize == 1 then (if k.vSigned then IntKind.wrap .i64 (IntKind.wrap .i8 v) else IntKind.wrap .i64 (IntKind.wrap .u8 v)) else if k.vSize == 2 then (if k.vSigned then IntKind.wrap .i64 (IntKind.wrap .i16 v) else IntKind.wrap .i64 (IntKind.wrap .u16 v))
  else if k.vSize == 4 then (if k.vSigned then IntKind.wrap .i64 (IntKind.wrap .i32 v) else IntKind.wrap .i64 (IntKind.wrap .u32 v)) else (if k.vSigned then v else IntKind.wrap .i64 (IntKind.wrap .u64 v))
theorem thr_call (k : api_Int) : ∀ args w, (callFunc (thr k) args).run Tryz.prog w = .ok (.enter (thr k) args) w := by
  unfold thr
  split
  · split
    · exact Tryz.call135
    · exact Tryz.call136
  · split
    · split
      · exact Tryz.call137
      · exact Tryz.call138
    · split
      · split
        · exact Tryz.call139
        · exact Tryz.call140
      · split
        · exact Tryz.call141
        · exact Tryz.call142
theorem thr_calls (k : api_Int) (v : Int) {h0 : View} {w0 : World} (hv : Sees h0 w0) : Calls Tryz.prog (thr k) #[Value.int .i64 v] w0 (fun e w1 => e = .returned (Value.int .i64 (wrp k v)) ∧ Ext w0 w1) := by
  unfold thr wrp
  split
  · split
    · exact bits_through_int8.calls v hv rfl
    · exact bits_through_uint8.calls v hv rfl
  · split
    · split
      · exact bits_through_int16.calls v hv rfl
      · exact bits_through_uint16.calls v hv rfl
    · split
      · split
        · exact bits_through_int32.calls v hv rfl
        · exact bits_through_uint32.calls v hv rfl
      · split
        · exact bits_through_int64.calls v hv rfl
        · exact bits_through_uint64.calls v hv rfl
def bits_wrap.f (a0 : api_Int) (a1 : Int) : Option Int := if okI a0 = true then some (wrp a0 a1) else none
theorem r_lookup1 {P : Program} {ρ : Operand → Value} {w : World} {dst : Option Tmp} {ty : TypeId} {pos : String} {after : Array Edge} {guard : Option (Nat × Bool)} {xt : TypeId} {x y : Operand} {b : Nat} {k v : Value} (hx : ρ x = .map (some b)) (hy : ρ y = k)
    (h : (Instr.lookup xt (.map (some b)) k false).run P w = .ok v w) : (execOp ρ ⟨dst, .lookup xt x y false, ty, pos, after, guard⟩).run P w = .ok (.value v) w := by
  simp [execOp, hx, hy, h]
set_option maxRecDepth 20000 in
set_option maxHeartbeats 4000000 in
theorem bits_wrap.calls (a0 : api_Int) (a1 : Int) {h0 : View} {w0 : World} (hv : Sees h0 w0) {r : Int} (H : bits_wrap.f a0 a1 = some r) : Calls Tryz.prog 57 #[Value.agg #[Value.int .i64 a0.vSize, Value.bool a0.vSigned], Value.int .i64 a1] w0 (fun e w1 => e = .returned (Value.int .i64 r) ∧ Ext w0 w1) := by
  unfold bits_wrap.f at H
  obtain ⟨hk0, H⟩ := of_ite H
  obtain rfl := Option.some.inj H
  have HS : St [] h0 w0 h0 [] w0 := St.init hv
  go_enter Tryz.func57, Tryz.ntmps57
  refine wp_seq ?_
  refine region ?_
  refine run_ex rfl rfl (does_box (cs := #[Value.int .i64 a0.vSize, Value.bool a0.vSigned]) rfl rfl) ?_
  rintro w1 _ hE1 ⟨b1, rfl, ge1, hb1⟩
  have HS1 := HS.new hE1 ge1 hb1
  refine run_same (v := Value.int .i64 0) rfl rfl (r_assign rfl) ?_
  try simp only [List.set_cons_zero, List.set_cons_succ]
  refine run_nil ?_
  refine norm_then ?_
  refine wp_seq ?_
  refine drawn_chain [([6, 8], [1, 3]), ([7], [1, 2, 3]), ([4], [5])] [0, 4] [[], [], [0, 1], [], [0, 1, 2, 3], [0, 1, 2, 3, 4]] hmix (by kernel_rfl) ?_
  intro w2 hE2
  have HS2 := HS1.step hE2
  refine chain_eff [e_api_Int a0, Value.int .i64 a1] ?_ rfl rfl ?_
  · simp only [patch, List.set_cons_zero, List.set_cons_succ]
    exact allg_cons (good_same (v := e_api_Int a0) rfl rfl rfl rfl (r_loadBoxAgg (n := 2) (vs := [Value.int .i64 a0.vSize, Value.bool a0.vSigned]) rfl Tryz.isAgg29 (HS2.look 0 rfl) Tryz.sizeOf29 rfl rfl)) (allg_cons (good_same rfl rfl rfl rfl (r_move rfl)) allg_nil)
  simp only [patch, List.set_cons_zero, List.set_cons_succ]
  refine run_call (vs := []) (caps := []) Tryz.call90 rfl rfl bits_conversions.calls ?_
  rintro _ w3 ⟨b2, es, cl, ks, rfl, hge, hb, hk, hok, hE3⟩
  refine ⟨_, rfl, ?_⟩
  refine qn_nil ?_
  try simp only [List.set_cons_zero, List.set_cons_succ]
  have HS3 := HS2.step hE3
  have hlk := lookup_v keyI (fun a b h => eqI_iff.1 h) a0 hk Tryz.runUnderlying178 hb (by rw [hok a0]; exact hk0)
  refine chain_eff [fvI a0] ?_ rfl rfl ?_
  · simp only [patch, List.set_cons_zero, List.set_cons_succ]
    exact allg_cons (good_same (v := e_api_Int a0) rfl rfl rfl rfl (r_loadBoxAgg (n := 2) (vs := [Value.int .i64 a0.vSize, Value.bool a0.vSigned]) rfl Tryz.isAgg29 (HS3.look 0 rfl) Tryz.sizeOf29 rfl rfl)) (allg_cons (good_same (v := fvI a0) rfl rfl rfl rfl (r_lookup1 rfl rfl hlk)) (allg_cons (good_same rfl rfl rfl rfl (r_move rfl)) allg_nil))
  simp only [patch, List.set_cons_zero, List.set_cons_succ]
  refine run_call (vs := [Value.int .i64 a1]) (caps := []) (thr_call a0) rfl rfl (thr_calls a0 a1 HS3.sees) ?_
  rintro _ w4 ⟨rfl, hE4⟩
  refine ⟨_, rfl, ?_⟩
  refine qn_nil ?_
  try simp only [List.set_cons_zero, List.set_cons_succ]
  have HS4 := HS3.step hE4
  refine chain_last [Value.int .i64 (wrp a0 a1)] ?_ ?_
  · simp only [patch, List.set_cons_zero, List.set_cons_succ]
    exact allg_cons (good_same rfl rfl rfl rfl (r_assign rfl)) allg_nil
  simp only [patch, List.set_cons_zero, List.set_cons_succ]
  refine norm_then ?_
  refine wp_ret ?_
  refine bodyPost_ret (results_1 rfl (one_tmp rfl)) rfl ?_
  exact ⟨rfl, HS4.toE⟩
end Go.Proofs.YtecpbadkdpbkpaaGreatDoor
/- Plain laws: wrapped numbers. -/
namespace Go.Proofs.YtecpbadkdpbkpaaGreatDoor
open Go.RowKit Go.M
def In64 (y : Int) : Prop := -9223372036854775808 ≤ y ∧ y ≤ 9223372036854775807
theorem wrap8 (y : Int) : IntKind.wrap .u8 y = y % 256 := by simp [IntKind.wrap, IntKind.bits, IntKind.signed]
theorem wu64 (x : Int) : IntKind.wrap .u64 x = x % 18446744073709551616 := by simp [IntKind.wrap, IntKind.bits, IntKind.signed]
end Go.Proofs.YtecpbadkdpbkpaaGreatDoor
namespace Go.Proofs.YtecpbadkdpbkpaaGreatDoor
open Go.RowKit Go.M
def bits_FromBytes.l0 (a1 : List Int) : Nat → Int → Int → Option (Int)
  | 0, _, _ => none
  | m + 1, y1_0, y1_1 => if (decide (y1_1 < (a1.length : Int))) = true then (if 0 ≤ y1_1 ∧ y1_1 < a1.length then (if 0 ≤ (IntKind.wrap .i64 (8 * y1_1)) then (bits_FromBytes.l0 a1 m (iOr .u64 y1_0 (iShl .u64 (IntKind.wrap .u64 (rd 0 a1 y1_1)) (IntKind.wrap .i64 (8 * y1_1)))) (IntKind.wrap .i64 (y1_1 + 1))) else none) else none) else (some y1_0)
def bits_FromBytes.f (k : Nat) (a0 : api_Int) (a1 : List Int) : Option (Int × Int) := (bits_Check.f a0).bind fun v1 => (if (v1 != 0) = true then (some (0, v1)) else (if ((a1.length : Int) != a0.vSize) = true then (some (0, 1)) else ((bits_FromBytes.l0 a1 k 0 0).bind fun xx1 => ((bits_wrap.f a0 (IntKind.wrap .i64 xx1)).bind fun v2 => (some (v2, 0))))))
set_option maxRecDepth 20000 in
set_option maxHeartbeats 4000000 in
theorem bits_FromBytes.calls (k : Nat) (a0 : api_Int) (a1 : List Int) (A1_0 : Option Addr) (c1_0 : Nat) {h0 : View} {w0 : World} (hv : Sees h0 w0) (hr1_0 : Rd (Kd.int .u8) h0 A1_0 a1) (hc1_0 : a1.length ≤ c1_0) {r : Int × Int} (H : bits_FromBytes.f k a0 a1 = some r) : Calls Tryz.prog 76 #[Value.agg #[Value.int .i64 a0.vSize, Value.bool a0.vSigned], Value.slice A1_0 a1.length c1_0] w0 (fun e w1 => e = .returned (Value.tuple #[Value.int .i64 r.1, Value.int .i64 r.2]) ∧ Ext w0 w1) := by
  unfold bits_FromBytes.f at H
  have HS : St [] h0 w0 h0 [] w0 := St.init hv
  go_enter Tryz.func76, Tryz.ntmps76
  refine wp_seq ?_
  refine region ?_
  refine run_ex rfl rfl (does_box (cs := #[Value.int .i64 a0.vSize, Value.bool a0.vSigned]) rfl rfl) ?_
  rintro w1 _ hE1 ⟨b1, rfl, ge1, hb1⟩
  have HS1 := HS.new hE1 ge1 hb1
  refine run_same (v := Value.int .i64 0) rfl rfl (r_assign rfl) ?_
  refine run_same (v := Value.int .i64 0) rfl rfl (r_assign rfl) ?_
  try simp only [List.set_cons_zero, List.set_cons_succ]
  refine run_nil ?_
  refine norm_then ?_
  refine wp_seq ?_
  refine wp_seq ?_
  refine region ?_
  refine run_same (v := Value.agg #[Value.int .i64 a0.vSize, Value.bool a0.vSigned]) rfl rfl (r_loadBoxAgg (n := 2) (vs := [Value.int .i64 a0.vSize, Value.bool a0.vSigned]) rfl Tryz.isAgg29 (HS1.look 0 rfl) Tryz.sizeOf29 rfl rfl) ?_
  obtain ⟨v1, H1, H⟩ := of_bind H
  refine run_eq (v := Value.int .i64 v1) rfl rfl (does_call_eq Tryz.call56 rfl rfl (bits_Check.calls a0 HS1.sees H1)) ?_
  intro w2 hE2
  have HS2 := HS1.step hE2
  refine run_same (v := Value.int .i64 v1) rfl rfl (r_assign rfl) ?_
  try simp only [List.set_cons_zero, List.set_cons_succ]
  refine run_nil ?_
  refine norm_then ?_
  refine wp_seq ?_
  refine region ?_
  refine run_same (v := Value.int .i64 v1) rfl rfl (r_move rfl) ?_
  refine run_same (v := Value.bool (v1 != 0)) rfl rfl (r_bin rfl rfl rfl) ?_
  try simp only [List.set_cons_zero, List.set_cons_succ]
  refine run_nil ?_
  refine norm_then ?_
  refine wp_cond_split (t := (v1 != 0)) rfl (fun c1 => ?_) (fun c1 => ?_)
  · replace H := of_pos H c1
    refine wp_seq ?_
    refine region ?_
    refine run_same (v := Value.int .i64 v1) rfl rfl (r_move rfl) ?_
    refine run_same (v := Value.int .i64 0) rfl rfl (r_assign rfl) ?_
    refine run_same (v := Value.int .i64 v1) rfl rfl (r_assign rfl) ?_
    try simp only [List.set_cons_zero, List.set_cons_succ]
    refine run_nil ?_
    refine norm_then ?_
    refine wp_ret ?_
    refine ret_then ?_
    obtain rfl := Option.some.inj H
    refine bodyPost_ret (results_2 rfl (one_tmp rfl) (one_tmp rfl)) rfl ?_
    exact ⟨rfl, HS2.toE⟩
  · replace H := of_neg H (nt c1)
    refine wp_skip ?_
    refine norm_then ?_
    refine wp_seq ?_
    refine wp_seq ?_
    refine region ?_
    refine run_same (v := Value.slice A1_0 a1.length c1_0) rfl rfl (r_move rfl) ?_
    refine run_same (v := Value.int .i64 (a1.length : Int)) rfl rfl (r_len rfl Tryz.runUnderlying42) ?_
    refine run_same (v := Value.pointer (some ⟨b1, 0, none⟩)) rfl rfl (r_fieldBox (n := 1) (o' := 0) rfl Tryz.runUnderlying29 rfl Tryz.sizeOf3 (by decide) rfl) ?_
    refine run_same (v := Value.int .i64 a0.vSize) rfl rfl (r_loadBox rfl Tryz.isAgg3 (HS2.look 0 rfl) rfl) ?_
    refine run_frame (by simp only [List.set_cons_zero, List.set_cons_succ]; rfl) ?_
    refine run_same (v := Value.bool ((a1.length : Int) != a0.vSize)) rfl rfl (r_bin rfl rfl rfl) ?_
    try simp only [List.set_cons_zero, List.set_cons_succ]
    refine run_nil ?_
    refine norm_then ?_
    refine wp_cond_split (t := ((a1.length : Int) != a0.vSize)) rfl (fun c2 => ?_) (fun c2 => ?_)
    · replace H := of_pos H c2
      refine wp_seq ?_
      refine region ?_
      refine run_same (v := Value.int .i64 0) rfl rfl (r_assign rfl) ?_
      refine run_same (v := Value.int .i64 1) rfl rfl (r_assign rfl) ?_
      try simp only [List.set_cons_zero, List.set_cons_succ]
      refine run_nil ?_
      refine norm_then ?_
      refine wp_ret ?_
      refine ret_then ?_
      obtain rfl := Option.some.inj H
      refine bodyPost_ret (results_2 rfl (one_tmp rfl) (one_tmp rfl)) rfl ?_
      exact ⟨rfl, HS2.toE⟩
    · replace H := of_neg H (nt c2)
      refine wp_skip ?_
      refine norm_then ?_
      refine wp_seq ?_
      refine region ?_
      refine run_same (v := Value.int .u64 0) rfl rfl (r_assign rfl) ?_
      try simp only [List.set_cons_zero, List.set_cons_succ]
      refine run_nil ?_
      refine norm_then ?_
      refine wp_seq ?_
      refine wp_seq ?_
      refine region ?_
      refine run_same (v := Value.slice A1_0 a1.length c1_0) rfl rfl (r_move rfl) ?_
      refine run_same (v := Value.int .i64 (a1.length : Int)) rfl rfl (r_len rfl Tryz.runUnderlying42) ?_
      refine run_same (v := Value.int .i64 0) rfl rfl (r_move rfl) ?_
      try simp only [List.set_cons_zero, List.set_cons_succ]
      refine run_nil ?_
      refine norm_then ?_
      obtain ⟨xx1, H, G1⟩ := of_bind H
      refine loop_j [7, 8, 9, 22, 23, 24, 25, 26, 27, 28, 29, 30, 31, 32, 33, 34] (fun m us w' => ∃ (y1_0 : Int), ∃ (y1_1 : Int), Fit us (fun uy1 => [Value.int .u64 y1_0, (uy1 1), (uy1 2), Value.int .i64 y1_1, (uy1 4), (uy1 5), (uy1 6), (uy1 7), (uy1 8), (uy1 9), (uy1 10), (uy1 11), (uy1 12), (uy1 13), (uy1 14), (uy1 15)]) ∧ bits_FromBytes.l0 a1 m y1_0 y1_1 = some xx1 ∧ St [] h0 w0 h0 [(some b1, .cells #[Value.int .i64 a0.vSize, Value.bool a0.vSigned] 29 (0, 0))] w') (fun us w' => Fit us (fun uo1 => [Value.int .u64 xx1, (uo1 1), (uo1 2), (uo1 3), (uo1 4), (uo1 5), (uo1 6), (uo1 7), (uo1 8), (uo1 9), (uo1 10), (uo1 11), (uo1 12), (uo1 13), (uo1 14), (uo1 15)]) ∧ St [] h0 w0 h0 [(some b1, .cells #[Value.int .i64 a0.vSize, Value.bool a0.vSigned] 29 (0, 0))] w') k ⟨0, 0, (fit rfl), H, HS2⟩ ?_ ?_
      · rintro m us w3 ⟨y1_0, y1_1, huy1, H, HS3⟩
        obtain ⟨uy1, rfl⟩ := unj huy1
        cases m with
        | zero => exact absurd H (by simp [bits_FromBytes.l0])
        | succ m =>
          rw [bits_FromBytes.l0] at H
          try simp only [patch, List.set_cons_zero, List.set_cons_succ]
          refine wp_seq ?_
          refine region ?_
          refine run_same (v := Value.bool (decide (y1_1 < (a1.length : Int)))) rfl rfl (r_bin rfl rfl rfl) ?_
          try simp only [List.set_cons_zero, List.set_cons_succ]
          refine run_nil ?_
          refine norm_then ?_
          refine wp_seq ?_
          refine wp_cond_split (t := (decide (y1_1 < (a1.length : Int)))) rfl (fun c3 => ?_) (fun c3 => ?_)
          · replace H := of_pos H c3
            refine wp_skip ?_
            refine norm_then ?_
            refine wp_seq ?_
            refine wp_block ?_
            refine wp_seq ?_
            refine region ?_
            refine run_same (v := Value.int .i64 y1_1) rfl rfl (r_move rfl) ?_
            obtain ⟨hi1, H⟩ := of_ite H
            obtain ⟨ad1, e1, hel1⟩ := ld_int hr1_0 hi1.1 hi1.2
            refine run_same (v := Value.pointer (some (Addr.add ad1 (y1_1.toNat * 1)))) rfl rfl (r_indexA (sz := 1) rfl e1 rfl hi1.1 hi1.2 Tryz.runUnderlying42 Tryz.sizeOf5) ?_
            refine run_same (v := Value.int .u8 (rd 0 a1 y1_1)) rfl rfl (r_load rfl Tryz.isAgg5 (hel1.cell0 HS3.sees rfl)) ?_
            refine run_same (v := Value.int .i64 y1_1) rfl rfl (r_assign rfl) ?_
            refine run_frame (by simp only [List.set_cons_zero, List.set_cons_succ]; rfl) ?_
            refine run_same (v := Value.int .u8 (rd 0 a1 y1_1)) rfl rfl (r_assign rfl) ?_
            try simp only [List.set_cons_zero, List.set_cons_succ]
            refine run_nil ?_
            refine norm_then ?_
            refine region ?_
            refine run_same (v := Value.int .u64 y1_0) rfl rfl (r_move rfl) ?_
            refine run_same (v := Value.int .u8 (rd 0 a1 y1_1)) rfl rfl (r_move rfl) ?_
            refine run_same (v := Value.int .u64 (IntKind.wrap .u64 (rd 0 a1 y1_1))) rfl rfl (r_conv rfl Tryz.runUnderlying5 Tryz.runUnderlying71) ?_
            refine run_same (v := Value.int .i64 y1_1) rfl rfl (r_move rfl) ?_
            refine run_frame (by simp only [List.set_cons_zero, List.set_cons_succ]; rfl) ?_
            refine run_same (v := Value.int .i64 (IntKind.wrap .i64 (8 * y1_1))) rfl rfl (r_bin rfl rfl rfl) ?_
            obtain ⟨hb2, H⟩ := of_ite H
            refine run_same (v := Value.int .u64 (iShl .u64 (IntKind.wrap .u64 (rd 0 a1 y1_1)) (IntKind.wrap .i64 (8 * y1_1)))) rfl rfl (r_shl rfl rfl hb2) ?_
            refine run_same (v := Value.int .u64 (iOr .u64 y1_0 (iShl .u64 (IntKind.wrap .u64 (rd 0 a1 y1_1)) (IntKind.wrap .i64 (8 * y1_1))))) rfl rfl (r_or rfl rfl) ?_
            refine run_same (v := Value.int .u64 (iOr .u64 y1_0 (iShl .u64 (IntKind.wrap .u64 (rd 0 a1 y1_1)) (IntKind.wrap .i64 (8 * y1_1))))) rfl rfl (r_assign rfl) ?_
            try simp only [List.set_cons_zero, List.set_cons_succ]
            refine run_nil ?_
            refine norm_block ?_
            refine norm_then ?_
            refine region ?_
            refine run_same (v := Value.int .i64 (IntKind.wrap .i64 (y1_1 + 1))) rfl rfl (r_bin rfl rfl rfl) ?_
            refine run_same (v := Value.int .i64 (IntKind.wrap .i64 (y1_1 + 1))) rfl rfl (r_move rfl) ?_
            try simp only [List.set_cons_zero, List.set_cons_succ]
            refine run_nil ?_
            refine again_j m (Nat.lt_succ_self m) rfl ⟨(iOr .u64 y1_0 (iShl .u64 (IntKind.wrap .u64 (rd 0 a1 y1_1)) (IntKind.wrap .i64 (8 * y1_1)))), (IntKind.wrap .i64 (y1_1 + 1)), (fit rfl), H, HS3⟩
          · replace H := of_neg H (nt c3)
            refine wp_exit ?_
            refine exit_then ?_
            obtain rfl := Option.some.inj H
            refine leave_j rfl ⟨(fit rfl), HS3⟩
      · rintro us w4 ⟨huo1, HS4⟩
        obtain ⟨uo1, rfl⟩ := unj huo1
        replace H := G1
        clear G1
        try simp only [patch, List.set_cons_zero, List.set_cons_succ]
        refine norm_then ?_
        refine wp_seq ?_
        refine region ?_
        refine run_same (v := Value.agg #[Value.int .i64 a0.vSize, Value.bool a0.vSigned]) rfl rfl (r_loadBoxAgg (n := 2) (vs := [Value.int .i64 a0.vSize, Value.bool a0.vSigned]) rfl Tryz.isAgg29 (HS4.look 0 rfl) Tryz.sizeOf29 rfl rfl) ?_
        refine run_same (v := Value.int .u64 xx1) rfl rfl (r_move rfl) ?_
        refine run_same (v := Value.int .i64 (IntKind.wrap .i64 xx1)) rfl rfl (r_conv rfl Tryz.runUnderlying71 Tryz.runUnderlying2) ?_
        obtain ⟨v2, H2, H⟩ := of_bind H
        refine run_eq (v := Value.int .i64 v2) rfl rfl (does_call_eq Tryz.call57 rfl rfl (bits_wrap.calls a0 (IntKind.wrap .i64 xx1) HS4.sees H2)) ?_
        intro w5 hE3
        have HS5 := HS4.step hE3
        refine run_frame (by simp only [List.set_cons_zero, List.set_cons_succ]; rfl) ?_
        refine run_same (v := Value.int .i64 v2) rfl rfl (r_assign rfl) ?_
        refine run_same (v := Value.int .i64 0) rfl rfl (r_assign rfl) ?_
        try simp only [List.set_cons_zero, List.set_cons_succ]
        refine run_nil ?_
        refine norm_then ?_
        refine wp_ret ?_
        obtain rfl := Option.some.inj H
        refine bodyPost_ret (results_2 rfl (one_tmp rfl) (one_tmp rfl)) rfl ?_
        exact ⟨rfl, HS5.toE⟩

end Go.Proofs.YtecpbadkdpbkpaaGreatDoor
namespace Go.Proofs.YtecpbadkdpbkpaaGreatDoor
open Go.RowKit Go.M
def image_load.f (k : Nat) (a0 : api_Image) (a1 : Int) (a2 : api_Int) : Option (Int × Bool × Int) := (image_read.f k a0 a1 a2.vSize).bind fun v1 => (if (!v1.2) = true then (some (0, false, 0)) else ((bits_FromBytes.f k a2 v1.1).bind fun v2 => (some (v2.1, (v2.2 == 0), v2.2))))
set_option maxRecDepth 20000 in
set_option maxHeartbeats 4000000 in
theorem image_load.calls (k : Nat) (a0 : api_Image) (a1 : Int) (a2 : api_Int) (A0_0 : Option Addr) (c0_0 : Nat) {h0 : View} {w0 : World} (hv : Sees h0 w0) (hr0_0 : Rd k_api_Segment h0 A0_0 a0.vSegs) (hc0_0 : a0.vSegs.length ≤ c0_0) {r : Int × Bool × Int} (H : image_load.f k a0 a1 a2 = some r) : Calls Tryz.prog 37 #[Value.agg #[Value.slice A0_0 a0.vSegs.length c0_0], Value.int .i64 a1, Value.agg #[Value.int .i64 a2.vSize, Value.bool a2.vSigned]] w0 (fun e w1 => e = .returned (Value.tuple #[Value.int .i64 r.1, Value.bool r.2.1, Value.int .i64 r.2.2]) ∧ Ext w0 w1) := by
  unfold image_load.f at H
  have HS : St [] h0 w0 h0 [] w0 := St.init hv
  go_enter Tryz.func37, Tryz.ntmps37
  refine wp_seq ?_
  refine region ?_
  refine run_ex rfl rfl (does_box (cs := #[Value.slice A0_0 a0.vSegs.length c0_0]) rfl rfl) ?_
  rintro w1 _ hE1 ⟨b1, rfl, ge1, hb1⟩
  have HS1 := HS.new hE1 ge1 hb1
  refine run_ex rfl rfl (does_box (cs := #[Value.int .i64 a2.vSize, Value.bool a2.vSigned]) rfl rfl) ?_
  rintro w2 _ hE2 ⟨b2, rfl, ge2, hb2⟩
  have HS2 := HS1.new hE2 ge2 hb2
  refine run_same (v := Value.int .i64 0) rfl rfl (r_assign rfl) ?_
  refine run_same (v := Value.bool false) rfl rfl (r_assign rfl) ?_
  refine run_frame (by simp only [List.set_cons_zero, List.set_cons_succ]; rfl) ?_
  refine run_same (v := Value.int .i64 0) rfl rfl (r_assign rfl) ?_
  try simp only [List.set_cons_zero, List.set_cons_succ]
  refine run_nil ?_
  refine norm_then ?_
  refine wp_seq ?_
  refine region ?_
  refine run_same (v := Value.agg #[Value.slice A0_0 a0.vSegs.length c0_0]) rfl rfl (r_loadBoxAgg (n := 1) (vs := [Value.slice A0_0 a0.vSegs.length c0_0]) rfl Tryz.isAgg27 (HS2.look 1 rfl) Tryz.sizeOf27 rfl rfl) ?_
  refine run_same (v := Value.int .i64 a1) rfl rfl (r_move rfl) ?_
  refine run_same (v := Value.pointer (some ⟨b2, 0, none⟩)) rfl rfl (r_fieldBox (n := 1) (o' := 0) rfl Tryz.runUnderlying29 rfl Tryz.sizeOf3 (by decide) rfl) ?_
  refine run_same (v := Value.int .i64 a2.vSize) rfl rfl (r_loadBox rfl Tryz.isAgg3 (HS2.look 0 rfl) rfl) ?_
  refine run_frame (by simp only [List.set_cons_zero, List.set_cons_succ]; rfl) ?_
  obtain ⟨v1, H1, H⟩ := of_bind H
  refine run_ex rfl rfl (does_call Tryz.call59 rfl (gives_in (h := h0) (R := (fun hx u => ∃ (Av1_0_0 : Option Addr) (cv1_0_0 : Nat), u = Value.tuple #[Value.slice Av1_0_0 v1.1.length cv1_0_0, Value.bool v1.2] ∧ v1.1.length ≤ cv1_0_0 ∧ Rd (Kd.int .u8) hx Av1_0_0 v1.1)) (Ext.rfl' w2) ((image_read.calls k a0 a1 a2.vSize A0_0 c0_0 HS2.sees hr0_0 hc0_0 H1).mono ?_)) rfl) ?_
  · rintro _ _ ⟨h1, Av1_0_0, cv1_0_0, rfl, hcv1_0_0, hrv1_0_0, g, ss, x⟩
    exact ⟨h1, _, rfl, ⟨Av1_0_0, cv1_0_0, rfl, hcv1_0_0, hrv1_0_0⟩, g, ss, x⟩
  rintro w3 _ hE3 ⟨h1, ⟨Av1_0_0, cv1_0_0, rfl, hcv1_0_0, hrv1_0_0⟩, gr1, se1⟩
  have HS3 := HS2.view hE3 gr1 se1
  refine run_same (v := Value.tuple #[Value.slice Av1_0_0 v1.1.length cv1_0_0, Value.bool v1.2]) rfl rfl (r_move rfl) ?_
  refine run_same (v := Value.slice Av1_0_0 v1.1.length cv1_0_0) rfl rfl (r_extract rfl rfl) ?_
  refine run_same (v := Value.bool v1.2) rfl rfl (r_extract rfl rfl) ?_
  refine run_frame (by simp only [List.set_cons_zero, List.set_cons_succ]; rfl) ?_
  refine run_same (v := Value.slice Av1_0_0 v1.1.length cv1_0_0) rfl rfl (r_assign rfl) ?_
  refine run_same (v := Value.bool v1.2) rfl rfl (r_assign rfl) ?_
  try simp only [List.set_cons_zero, List.set_cons_succ]
  refine run_nil ?_
  refine norm_then ?_
  refine wp_seq ?_
  refine wp_seq ?_
  refine region ?_
  refine run_same (v := Value.bool v1.2) rfl rfl (r_move rfl) ?_
  refine run_same (v := Value.bool (!v1.2)) rfl rfl (r_not rfl) ?_
  try simp only [List.set_cons_zero, List.set_cons_succ]
  refine run_nil ?_
  refine norm_then ?_
  refine wp_cond_split (t := (!v1.2)) rfl (fun c1 => ?_) (fun c1 => ?_)
  · replace H := of_pos H c1
    refine wp_seq ?_
    refine region ?_
    refine run_same (v := Value.int .i64 0) rfl rfl (r_assign rfl) ?_
    refine run_same (v := Value.bool false) rfl rfl (r_assign rfl) ?_
    refine run_same (v := Value.int .i64 0) rfl rfl (r_assign rfl) ?_
    try simp only [List.set_cons_zero, List.set_cons_succ]
    refine run_nil ?_
    refine norm_then ?_
    refine wp_ret ?_
    refine ret_then ?_
    obtain rfl := Option.some.inj H
    refine bodyPost_ret (results_3 rfl (one_tmp rfl) (one_tmp rfl) (one_tmp rfl)) rfl ?_
    exact ⟨rfl, HS3.toE⟩
  · replace H := of_neg H (nt c1)
    refine wp_skip ?_
    refine norm_then ?_
    refine wp_seq ?_
    refine region ?_
    refine run_same (v := Value.agg #[Value.int .i64 a2.vSize, Value.bool a2.vSigned]) rfl rfl (r_loadBoxAgg (n := 2) (vs := [Value.int .i64 a2.vSize, Value.bool a2.vSigned]) rfl Tryz.isAgg29 (HS3.look 0 rfl) Tryz.sizeOf29 rfl rfl) ?_
    refine run_same (v := Value.slice Av1_0_0 v1.1.length cv1_0_0) rfl rfl (r_move rfl) ?_
    obtain ⟨v2, H2, H⟩ := of_bind H
    refine run_eq (v := Value.tuple #[Value.int .i64 v2.1, Value.int .i64 v2.2]) rfl rfl (does_call_eq Tryz.call76 rfl rfl (bits_FromBytes.calls k a2 v1.1 Av1_0_0 cv1_0_0 HS3.sees hrv1_0_0 hcv1_0_0 H2)) ?_
    intro w4 hE4
    have HS4 := HS3.step hE4
    refine run_same (v := Value.tuple #[Value.int .i64 v2.1, Value.int .i64 v2.2]) rfl rfl (r_move rfl) ?_
    refine run_frame (by simp only [List.set_cons_zero, List.set_cons_succ]; rfl) ?_
    refine run_same (v := Value.int .i64 v2.1) rfl rfl (r_extract rfl rfl) ?_
    refine run_same (v := Value.int .i64 v2.2) rfl rfl (r_extract rfl rfl) ?_
    refine run_same (v := Value.int .i64 v2.1) rfl rfl (r_assign rfl) ?_
    refine run_same (v := Value.int .i64 v2.2) rfl rfl (r_assign rfl) ?_
    try simp only [List.set_cons_zero, List.set_cons_succ]
    refine run_nil ?_
    refine norm_then ?_
    refine wp_seq ?_
    refine region ?_
    refine run_same (v := Value.int .i64 v2.1) rfl rfl (r_move rfl) ?_
    refine run_same (v := Value.int .i64 v2.2) rfl rfl (r_move rfl) ?_
    refine run_same (v := Value.bool (v2.2 == 0)) rfl rfl (r_bin rfl rfl rfl) ?_
    refine run_same (v := Value.int .i64 v2.2) rfl rfl (r_move rfl) ?_
    refine run_frame (by simp only [List.set_cons_zero, List.set_cons_succ]; rfl) ?_
    refine run_same (v := Value.int .i64 v2.1) rfl rfl (r_assign rfl) ?_
    refine run_same (v := Value.bool (v2.2 == 0)) rfl rfl (r_assign rfl) ?_
    refine run_same (v := Value.int .i64 v2.2) rfl rfl (r_assign rfl) ?_
    try simp only [List.set_cons_zero, List.set_cons_succ]
    refine run_nil ?_
    refine norm_then ?_
    refine wp_ret ?_
    obtain rfl := Option.some.inj H
    refine bodyPost_ret (results_3 rfl (one_tmp rfl) (one_tmp rfl) (one_tmp rfl)) rfl ?_
    exact ⟨rfl, HS4.toE⟩

end Go.Proofs.YtecpbadkdpbkpaaGreatDoor
namespace Go.Proofs.YtecpbadkdpbkpaaGreatDoor
open Go.RowKit Go.M

end Go.Proofs.YtecpbadkdpbkpaaGreatDoor
namespace Go.Proofs.YtecpbadkdpbkpaaGreatDoor
open Go.RowKit Go.M

end Go.Proofs.YtecpbadkdpbkpaaGreatDoor
namespace Go.Proofs.YtecpbadkdpbkpaaGreatDoor
open Go.RowKit Go.M

end Go.Proofs.YtecpbadkdpbkpaaGreatDoor
namespace Go.Proofs.YtecpbadkdpbkpaaGreatDoor
open Go.RowKit Go.M

end Go.Proofs.YtecpbadkdpbkpaaGreatDoor
/- Plain laws: numbers out of bytes, and what is loaded, by both sides. -/
namespace Go.Proofs.YtecpbadkdpbkpaaGreatDoor
open Go.RowKit Go.M
/-! ### numbers out of bytes -/
def Byt (xs : List Int) : Prop := ∀ b ∈ xs, 0 ≤ b ∧ b ≤ 255
def valI : List Int → Int
  | [] => 0
  | b :: r => b + 256 * valI r
theorem valI_in : ∀ {xs : List Int}, Byt xs → 0 ≤ valI xs ∧ valI xs < 256 ^ xs.length
  | [], _ => by simp [valI]
  | b :: r, h => by
    have h1 := h b List.mem_cons_self
    have h2 := valI_in (xs := r) (fun c hc => h c (List.mem_cons_of_mem _ hc))
    rw [valI, List.length_cons, Int.pow_succ]
    omega
theorem valI_snoc : ∀ (xs : List Int) (b : Int), valI (xs ++ [b]) = valI xs + b * 256 ^ xs.length
  | [], b => by simp [valI]
  | c :: r, b => by
    rw [List.cons_append, valI, valI, valI_snoc r b, List.length_cons, Int.pow_succ]
    rw [Int.mul_add, ← Int.mul_assoc, Int.mul_comm 256 b, Int.mul_assoc b 256, Int.mul_comm 256 (256 ^ r.length)]
    omega
theorem or_add {x z : Int} {e : Nat} (hx : 0 ≤ x ∧ x < 2 ^ e) (hz : 0 ≤ z) (hs : z * 2 ^ e + x < 18446744073709551616) : iOr .u64 x (z * 2 ^ e) = x + z * 2 ^ e := by
  obtain ⟨a, rfl⟩ : ∃ a : Nat, x = (a : Int) := ⟨x.toNat, by omega⟩
  obtain ⟨b, rfl⟩ : ∃ b : Nat, z = (b : Int) := ⟨z.toNat, by omega⟩
  have ha : a < 2 ^ e := by have := hx.2; exact_mod_cast this
  have hs' : b * 2 ^ e + a < 18446744073709551616 := by
    have h : ((b * 2 ^ e + a : Nat) : Int) < 18446744073709551616 := by
      rw [Int.natCast_add, Int.natCast_mul, Int.natCast_pow]; exact hs
    omega
  have e1 : ((b : Int) * 2 ^ e) = ((b * 2 ^ e : Nat) : Int) := by rw [Int.natCast_mul, Int.natCast_pow]; rfl
  unfold iOr
  rw [e1]
  have h1 : (BitVec.ofInt 64 (a : Int) ||| BitVec.ofInt 64 ((b * 2 ^ e : Nat) : Int)).toNat = a + b * 2 ^ e := by
    rw [BitVec.toNat_or, BitVec.toNat_ofInt, BitVec.toNat_ofInt]
    have p : (2 : Nat) ^ 64 = 18446744073709551616 := by decide
    have q1 : ((a : Int) % ((2 ^ 64 : Nat) : Int)).toNat = a := by rw [p]; omega
    have q2 : (((b * 2 ^ e : Nat) : Int) % ((2 ^ 64 : Nat) : Int)).toNat = b * 2 ^ e := by rw [p]; omega
    rw [q1, q2, Nat.or_comm, Nat.mul_comm b, ← Nat.two_pow_add_eq_or_of_lt ha, Nat.add_comm]
  show IntKind.wrap .u64 ((BitVec.ofInt 64 (a : Int) ||| BitVec.ofInt 64 ((b * 2 ^ e : Nat) : Int)).toNat : Int) = _
  rw [h1, wu64]
  omega
theorem pow256 (i : Nat) : (256 : Int) ^ i = 2 ^ (8 * i) := by rw [Int.pow_mul]; rfl
/-- one byte more, at the head -/
theorem or_byte {xs : List Int} (hb : Byt xs) {b : Int} (hb1 : 0 ≤ b ∧ b ≤ 255) (h8 : xs.length < 8) : iOr .u64 (valI xs) (iShl .u64 (IntKind.wrap .u64 b) (IntKind.wrap .i64 (8 * (xs.length : Int)))) = valI (xs ++ [b]) := by
  have hv := valI_in hb
  rw [pow256] at hv
  rw [wrap_id (x := 8 * (xs.length : Int)) (by omega) (by omega), wu64, valI_snoc, pow256]
  have hm : min (8 * (xs.length : Int)).toNat IntKind.u64.bits = 8 * xs.length := by
    have : IntKind.u64.bits = 64 := rfl
    omega
  unfold iShl
  rw [hm, Int.emod_eq_of_lt (by omega) (by omega)]
  have hle : (2 : Int) ^ (8 * xs.length) ≤ 2 ^ 56 := by
    have : (2 : Nat) ^ (8 * xs.length) ≤ 2 ^ 56 := Nat.pow_le_pow_right (by decide) (by omega)
    exact_mod_cast this
  have hpos : (0 : Int) < 2 ^ (8 * xs.length) := by
    have : 0 < (2 : Nat) ^ (8 * xs.length) := Nat.pow_pos (by decide)
    exact_mod_cast this
  have h56 : (2 : Int) ^ 56 = 72057594037927936 := by decide
  have hbm : b * 2 ^ (8 * xs.length) ≤ 255 * 2 ^ (8 * xs.length) := Int.mul_le_mul_of_nonneg_right hb1.2 (by omega)
  have hb0 : 0 ≤ b * 2 ^ (8 * xs.length) := Int.mul_nonneg hb1.1 (by omega)
  rw [wu64, Int.emod_eq_of_lt hb0 (by omega)]
  exact or_add hv hb1.1 (by omega)
theorem pfrom_loop {xs : List Int} (hb : Byt xs) (h8 : xs.length ≤ 8) : ∀ (d i m : Nat), i + d = xs.length → d < m → bits_FromBytes.l0 xs m (valI (xs.take i)) (i : Int) = some (valI xs) := by
  intro d
  induction d with
  | zero =>
    intro i m hi hm
    obtain ⟨m, rfl⟩ : ∃ q, m = q + 1 := ⟨m - 1, by omega⟩
    rw [bits_FromBytes.l0, if_neg (by simp; omega), List.take_of_length_le (by omega)]
  | succ d ih =>
    intro i m hi hm
    obtain ⟨m, rfl⟩ : ∃ q, m = q + 1 := ⟨m - 1, by omega⟩
    have hl : (xs.take i).length = i := by rw [List.length_take]; omega
    have hbt : Byt (xs.take i) := fun b h => hb b (List.mem_of_mem_take h)
    have hbi := hb _ (getD_mem (z := 0) (j := i) (xs := xs) (by omega))
    have key := or_byte hbt hbi (by omega)
    rw [hl] at key
    rw [bits_FromBytes.l0, if_pos (by simp; omega), if_pos (by omega), if_pos (by rw [wrap_id (by omega) (by omega)]; omega), rd_nat, key, wrap_nat (n := 300) (by omega) (by omega)]
    have ht : xs.take i ++ [xs.getD i 0] = xs.take (i + 1) := by
      rw [List.take_add_one, List.getElem?_eq_getElem (by omega), List.getD_eq_getElem?_getD, List.getElem?_eq_getElem (by omega)]
      rfl
    rw [ht]
    exact ih (i + 1) m (by omega) (by omega)
theorem pFrom {t : api_Int} {n : Nat} {xs : List Int} (hn : t.vSize = (n : Int)) (h : n = 1 ∨ n = 2 ∨ n = 4 ∨ n = 8) (hx : xs.length = n) (hb : Byt xs) {k : Nat} (hk : 9 ≤ k) : bits_FromBytes.f k t xs = some (wrp t (IntKind.wrap .i64 (valI xs)), 0) := by
  have hok : okI t = true := by unfold okI; simp [hn]; omega
  unfold bits_FromBytes.f bits_Check.f bits_wrap.f
  rw [if_pos hok]
  simp only [Option.bind_some]
  have := pfrom_loop hb (by omega) xs.length 0 k (by omega) (by omega)
  rw [show ((0 : Nat) : Int) = 0 from rfl, List.take_zero, show valI [] = 0 from rfl] at this
  rw [if_neg (by decide), if_neg (by rw [hn, hx]; simp), this]
  simp only [Option.bind_some]
  rw [if_pos hok]
  rfl
/-! ### what is loaded -/
def BytesOk (l : List api_Segment) : Prop := ∀ s ∈ l, Byt s.vBytes
theorem byteAt_ok : ∀ {l : List api_Segment} {x b : Int}, BytesOk l → byteAt l x = some b → 0 ≤ b ∧ b ≤ 255
  | [], x, b, _, h => by simp [byteAt] at h
  | s :: r, x, b, hl, h => by
    rw [byteAt] at h
    by_cases hi : inSeg s x
    · rw [if_pos hi] at h
      obtain rfl := Option.some.inj h
      unfold inSeg at hi
      exact hl s List.mem_cons_self _ (getD_mem (by omega))
    · rw [if_neg hi] at h
      exact byteAt_ok (fun q hq => hl q (List.mem_cons_of_mem _ hq)) h
theorem runB_ok {l : List api_Segment} {a : Int} (hl : BytesOk l) : ∀ (d i : Nat) (acc xs : List Int), Byt acc → runB l a d i acc = some xs → Byt xs ∧ xs.length = acc.length + d
  | 0, i, acc, xs, ha, h => by obtain rfl := Option.some.inj h; exact ⟨ha, rfl⟩
  | d + 1, i, acc, xs, ha, h => by
    rw [runB] at h
    cases hb : byteAt l (a + (i : Int)) with
    | none => rw [hb] at h; cases h
    | some b =>
      rw [hb] at h
      obtain ⟨h1, h2⟩ := runB_ok hl d (i + 1) (acc ++ [b]) xs (fun c hc => by
        rcases List.mem_append.1 hc with hc | hc
        · exact ha c hc
        · obtain rfl := List.mem_singleton.1 hc; exact byteAt_ok hl hb) h
      exact ⟨h1, by rw [h2]; simp; omega⟩
def loadS (t : api_Int) : Option (List Int) → Int × Bool × Int
  | none => (0, false, 0)
  | some xs => (wrp t (IntKind.wrap .i64 (valI xs)), true, 0)
theorem pLoad {m : api_Image} {a : Int} {t : api_Int} {n k : Nat} (hl : m.vSegs.length ≤ 200) (hO : OkI m.vSegs) (hB : BytesOk m.vSegs) (ha : In64 a) (hn : t.vSize = (n : Int)) (h : n = 1 ∨ n = 2 ∨ n = 4 ∨ n = 8) (hk : 300 ≤ k) :
    image_load.f k m a t = some (loadS t (runB m.vSegs a n 0 [])) := by
  unfold image_load.f
  rw [hn, pRead hl hO ha (by omega) hk]
  simp only [Option.bind_some]
  cases hr : runB m.vSegs a n 0 [] with
  | none => rfl
  | some xs =>
    obtain ⟨h1, h2⟩ := runB_ok hB n 0 [] xs (fun b hb => by cases hb) hr
    show ((bits_FromBytes.f k t xs).bind fun v2 => some (v2.1, (v2.2 == 0), v2.2)) = _
    rw [pFrom hn h (by simpa using h2) h1 (by omega)]
    rfl
end Go.Proofs.YtecpbadkdpbkpaaGreatDoor
namespace Go.Proofs.YtecpbadkdpbkpaaGreatDoor
open Go.RowKit Go.M
structure taplinelaw09_Asked where
  vAt : Int
  vN : Int
  vT : api_Int
  vName : ByteArray
  vPath : List ByteArray
def k_taplinelaw09_Asked : Kd taplinelaw09_Asked := Kd.iso (Kd.pair (Kd.int .i64) (Kd.pair (Kd.int .i64) (Kd.pair k_api_Int (Kd.pair Kd.str (Kd.slice Kd.str))))) fun x => (x.vAt, (x.vN, (x.vT, (x.vName, x.vPath))))
structure arr2_Int where
  ve0 : Int
  ve1 : Int
end Go.Proofs.YtecpbadkdpbkpaaGreatDoor
namespace Go.Proofs.YtecpbadkdpbkpaaGreatDoor
open Go.RowKit Go.M
def bits_Wrap.f (a0 : api_Int) (a1 : Int) : Option (Int × Int) := (bits_Check.f a0).bind fun v1 => (if (v1 != 0) = true then (some (0, v1)) else ((bits_wrap.f a0 a1).bind fun v2 => (some (v2, 0))))
set_option maxRecDepth 20000 in
set_option maxHeartbeats 4000000 in
theorem bits_Wrap.calls (a0 : api_Int) (a1 : Int)  {h0 : View} {w0 : World} (hv : Sees h0 w0) {r : Int × Int} (H : bits_Wrap.f a0 a1 = some r) : Calls Tryz.prog 21 #[Value.agg #[Value.int .i64 a0.vSize, Value.bool a0.vSigned], Value.int .i64 a1] w0 (fun e w1 => e = .returned (Value.tuple #[Value.int .i64 r.1, Value.int .i64 r.2]) ∧ Ext w0 w1) := by
  unfold bits_Wrap.f at H
  have HS : St [] h0 w0 h0 [] w0 := St.init hv
  go_enter Tryz.func21, Tryz.ntmps21
  refine wp_seq ?_
  refine region ?_
  refine run_ex rfl rfl (does_box (cs := #[Value.int .i64 a0.vSize, Value.bool a0.vSigned]) rfl rfl) ?_
  rintro w1 _ hE1 ⟨b1, rfl, ge1, hb1⟩
  have HS1 := HS.new hE1 ge1 hb1
  refine run_same (v := Value.int .i64 0) rfl rfl (r_assign rfl) ?_
  refine run_same (v := Value.int .i64 0) rfl rfl (r_assign rfl) ?_
  try simp only [List.set_cons_zero, List.set_cons_succ]
  refine run_nil ?_
  refine norm_then ?_
  refine wp_seq ?_
  refine wp_seq ?_
  refine region ?_
  refine run_same (v := Value.agg #[Value.int .i64 a0.vSize, Value.bool a0.vSigned]) rfl rfl (r_loadBoxAgg (n := 2) (vs := [Value.int .i64 a0.vSize, Value.bool a0.vSigned]) rfl Tryz.isAgg29 (HS1.look 0 rfl) Tryz.sizeOf29 rfl rfl) ?_
  obtain ⟨v1, H1, H⟩ := of_bind H
  refine run_eq (v := Value.int .i64 v1) rfl rfl (does_call_eq Tryz.call56 rfl rfl (bits_Check.calls a0 HS1.sees H1)) ?_
  intro w2 hE2
  have HS2 := HS1.step hE2
  refine run_same (v := Value.int .i64 v1) rfl rfl (r_assign rfl) ?_
  try simp only [List.set_cons_zero, List.set_cons_succ]
  refine run_nil ?_
  refine norm_then ?_
  refine wp_seq ?_
  refine region ?_
  refine run_same (v := Value.int .i64 v1) rfl rfl (r_move rfl) ?_
  refine run_same (v := Value.bool (v1 != 0)) rfl rfl (r_bin rfl rfl rfl) ?_
  try simp only [List.set_cons_zero, List.set_cons_succ]
  refine run_nil ?_
  refine norm_then ?_
  refine wp_cond_split (t := (v1 != 0)) rfl (fun c1 => ?_) (fun c1 => ?_)
  · replace H := of_pos H c1
    refine wp_seq ?_
    refine region ?_
    refine run_same (v := Value.int .i64 v1) rfl rfl (r_move rfl) ?_
    refine run_same (v := Value.int .i64 0) rfl rfl (r_assign rfl) ?_
    refine run_same (v := Value.int .i64 v1) rfl rfl (r_assign rfl) ?_
    try simp only [List.set_cons_zero, List.set_cons_succ]
    refine run_nil ?_
    refine norm_then ?_
    refine wp_ret ?_
    refine ret_then ?_
    obtain rfl := Option.some.inj H
    refine bodyPost_ret (results_2 rfl (one_tmp rfl) (one_tmp rfl)) rfl ?_
    exact ⟨rfl, HS2.toE⟩
  · replace H := of_neg H (nt c1)
    refine wp_skip ?_
    refine norm_then ?_
    refine wp_seq ?_
    refine region ?_
    refine run_same (v := Value.agg #[Value.int .i64 a0.vSize, Value.bool a0.vSigned]) rfl rfl (r_loadBoxAgg (n := 2) (vs := [Value.int .i64 a0.vSize, Value.bool a0.vSigned]) rfl Tryz.isAgg29 (HS2.look 0 rfl) Tryz.sizeOf29 rfl rfl) ?_
    refine run_same (v := Value.int .i64 a1) rfl rfl (r_move rfl) ?_
    obtain ⟨v2, H2, H⟩ := of_bind H
    refine run_eq (v := Value.int .i64 v2) rfl rfl (does_call_eq Tryz.call57 rfl rfl (bits_wrap.calls a0 a1 HS2.sees H2)) ?_
    intro w3 hE3
    have HS3 := HS2.step hE3
    refine run_same (v := Value.int .i64 v2) rfl rfl (r_assign rfl) ?_
    refine run_frame (by simp only [List.set_cons_zero, List.set_cons_succ]; rfl) ?_
    refine run_same (v := Value.int .i64 0) rfl rfl (r_assign rfl) ?_
    try simp only [List.set_cons_zero, List.set_cons_succ]
    refine run_nil ?_
    refine norm_then ?_
    refine wp_ret ?_
    obtain rfl := Option.some.inj H
    refine bodyPost_ret (results_2 rfl (one_tmp rfl) (one_tmp rfl)) rfl ?_
    exact ⟨rfl, HS3.toE⟩

end Go.Proofs.YtecpbadkdpbkpaaGreatDoor
namespace Go.Proofs.YtecpbadkdpbkpaaGreatDoor
open Go.RowKit Go.M
def image_Load.f (k : Nat) (a0 : api_Image) (a1 : Int) (a2 : api_Int) : Option (Int × Bool × Int) := (image_Check.f a0).bind fun v1 => (if (v1 != 0) = true then (some (0, false, v1)) else ((bits_Check.f a2).bind fun v2 => (if (v2 != 0) = true then (some (0, false, v2)) else ((image_load.f k a0 a1 a2).bind fun v3 => (some (v3.1, v3.2.1, v3.2.2))))))
set_option maxRecDepth 20000 in
set_option maxHeartbeats 4000000 in
theorem image_Load.calls (k : Nat) (a0 : api_Image) (a1 : Int) (a2 : api_Int) (A0_0 : Option Addr) (c0_0 : Nat) {h0 : View} {w0 : World} (hv : Sees h0 w0) (hr0_0 : Rd k_api_Segment h0 A0_0 a0.vSegs) (hc0_0 : a0.vSegs.length ≤ c0_0) {r : Int × Bool × Int} (H : image_Load.f k a0 a1 a2 = some r) : Calls Tryz.prog 23 #[Value.agg #[Value.slice A0_0 a0.vSegs.length c0_0], Value.int .i64 a1, Value.agg #[Value.int .i64 a2.vSize, Value.bool a2.vSigned]] w0 (fun e w1 => e = .returned (Value.tuple #[Value.int .i64 r.1, Value.bool r.2.1, Value.int .i64 r.2.2]) ∧ Ext w0 w1) := by
  unfold image_Load.f at H
  have HS : St [] h0 w0 h0 [] w0 := St.init hv
  go_enter Tryz.func23, Tryz.ntmps23
  refine wp_seq ?_
  refine region ?_
  refine run_ex rfl rfl (does_box (cs := #[Value.slice A0_0 a0.vSegs.length c0_0]) rfl rfl) ?_
  rintro w1 _ hE1 ⟨b1, rfl, ge1, hb1⟩
  have HS1 := HS.new hE1 ge1 hb1
  refine run_ex rfl rfl (does_box (cs := #[Value.int .i64 a2.vSize, Value.bool a2.vSigned]) rfl rfl) ?_
  rintro w2 _ hE2 ⟨b2, rfl, ge2, hb2⟩
  have HS2 := HS1.new hE2 ge2 hb2
  refine run_same (v := Value.int .i64 0) rfl rfl (r_assign rfl) ?_
  refine run_same (v := Value.bool false) rfl rfl (r_assign rfl) ?_
  refine run_frame (by simp only [List.set_cons_zero, List.set_cons_succ]; rfl) ?_
  refine run_same (v := Value.int .i64 0) rfl rfl (r_assign rfl) ?_
  try simp only [List.set_cons_zero, List.set_cons_succ]
  refine run_nil ?_
  refine norm_then ?_
  refine wp_seq ?_
  refine wp_seq ?_
  refine region ?_
  refine run_same (v := Value.agg #[Value.slice A0_0 a0.vSegs.length c0_0]) rfl rfl (r_loadBoxAgg (n := 1) (vs := [Value.slice A0_0 a0.vSegs.length c0_0]) rfl Tryz.isAgg27 (HS2.look 1 rfl) Tryz.sizeOf27 rfl rfl) ?_
  obtain ⟨v1, H1, H⟩ := of_bind H
  refine run_eq (v := Value.int .i64 v1) rfl rfl (does_call_eq Tryz.call26 rfl rfl (image_Check.calls a0 A0_0 c0_0 HS2.sees hr0_0 hc0_0 H1)) ?_
  intro w3 hE3
  have HS3 := HS2.step hE3
  refine run_same (v := Value.int .i64 v1) rfl rfl (r_assign rfl) ?_
  try simp only [List.set_cons_zero, List.set_cons_succ]
  refine run_nil ?_
  refine norm_then ?_
  refine wp_seq ?_
  refine region ?_
  refine run_same (v := Value.int .i64 v1) rfl rfl (r_move rfl) ?_
  refine run_same (v := Value.bool (v1 != 0)) rfl rfl (r_bin rfl rfl rfl) ?_
  try simp only [List.set_cons_zero, List.set_cons_succ]
  refine run_nil ?_
  refine norm_then ?_
  refine wp_cond_split (t := (v1 != 0)) rfl (fun c1 => ?_) (fun c1 => ?_)
  · replace H := of_pos H c1
    refine wp_seq ?_
    refine region ?_
    refine run_same (v := Value.int .i64 v1) rfl rfl (r_move rfl) ?_
    refine run_same (v := Value.int .i64 0) rfl rfl (r_assign rfl) ?_
    refine run_same (v := Value.bool false) rfl rfl (r_assign rfl) ?_
    refine run_same (v := Value.int .i64 v1) rfl rfl (r_assign rfl) ?_
    try simp only [List.set_cons_zero, List.set_cons_succ]
    refine run_nil ?_
    refine norm_then ?_
    refine wp_ret ?_
    refine ret_then ?_
    obtain rfl := Option.some.inj H
    refine bodyPost_ret (results_3 rfl (one_tmp rfl) (one_tmp rfl) (one_tmp rfl)) rfl ?_
    exact ⟨rfl, HS3.toE⟩
  · replace H := of_neg H (nt c1)
    refine wp_skip ?_
    refine norm_then ?_
    refine wp_seq ?_
    refine wp_seq ?_
    refine region ?_
    refine run_same (v := Value.agg #[Value.int .i64 a2.vSize, Value.bool a2.vSigned]) rfl rfl (r_loadBoxAgg (n := 2) (vs := [Value.int .i64 a2.vSize, Value.bool a2.vSigned]) rfl Tryz.isAgg29 (HS3.look 0 rfl) Tryz.sizeOf29 rfl rfl) ?_
    obtain ⟨v2, H2, H⟩ := of_bind H
    refine run_eq (v := Value.int .i64 v2) rfl rfl (does_call_eq Tryz.call56 rfl rfl (bits_Check.calls a2 HS3.sees H2)) ?_
    intro w4 hE4
    have HS4 := HS3.step hE4
    refine run_same (v := Value.int .i64 v2) rfl rfl (r_assign rfl) ?_
    try simp only [List.set_cons_zero, List.set_cons_succ]
    refine run_nil ?_
    refine norm_then ?_
    refine wp_seq ?_
    refine region ?_
    refine run_same (v := Value.int .i64 v2) rfl rfl (r_move rfl) ?_
    refine run_same (v := Value.bool (v2 != 0)) rfl rfl (r_bin rfl rfl rfl) ?_
    try simp only [List.set_cons_zero, List.set_cons_succ]
    refine run_nil ?_
    refine norm_then ?_
    refine wp_cond_split (t := (v2 != 0)) rfl (fun c2 => ?_) (fun c2 => ?_)
    · replace H := of_pos H c2
      refine wp_seq ?_
      refine region ?_
      refine run_same (v := Value.int .i64 v2) rfl rfl (r_move rfl) ?_
      refine run_same (v := Value.int .i64 0) rfl rfl (r_assign rfl) ?_
      refine run_same (v := Value.bool false) rfl rfl (r_assign rfl) ?_
      refine run_same (v := Value.int .i64 v2) rfl rfl (r_assign rfl) ?_
      try simp only [List.set_cons_zero, List.set_cons_succ]
      refine run_nil ?_
      refine norm_then ?_
      refine wp_ret ?_
      refine ret_then ?_
      obtain rfl := Option.some.inj H
      refine bodyPost_ret (results_3 rfl (one_tmp rfl) (one_tmp rfl) (one_tmp rfl)) rfl ?_
      exact ⟨rfl, HS4.toE⟩
    · replace H := of_neg H (nt c2)
      refine wp_skip ?_
      refine norm_then ?_
      refine wp_seq ?_
      refine region ?_
      refine run_same (v := Value.agg #[Value.slice A0_0 a0.vSegs.length c0_0]) rfl rfl (r_loadBoxAgg (n := 1) (vs := [Value.slice A0_0 a0.vSegs.length c0_0]) rfl Tryz.isAgg27 (HS4.look 1 rfl) Tryz.sizeOf27 rfl rfl) ?_
      refine run_same (v := Value.int .i64 a1) rfl rfl (r_move rfl) ?_
      refine run_same (v := Value.agg #[Value.int .i64 a2.vSize, Value.bool a2.vSigned]) rfl rfl (r_loadBoxAgg (n := 2) (vs := [Value.int .i64 a2.vSize, Value.bool a2.vSigned]) rfl Tryz.isAgg29 (HS4.look 0 rfl) Tryz.sizeOf29 rfl rfl) ?_
      obtain ⟨v3, H3, H⟩ := of_bind H
      refine run_eq (v := Value.tuple #[Value.int .i64 v3.1, Value.bool v3.2.1, Value.int .i64 v3.2.2]) rfl rfl (does_call_eq Tryz.call37 rfl rfl (image_load.calls k a0 a1 a2 A0_0 c0_0 HS4.sees hr0_0 hc0_0 H3)) ?_
      intro w5 hE5
      have HS5 := HS4.step hE5
      refine run_frame (by simp only [List.set_cons_zero, List.set_cons_succ]; rfl) ?_
      refine run_same (v := Value.int .i64 v3.1) rfl rfl (r_extract rfl rfl) ?_
      refine run_same (v := Value.bool v3.2.1) rfl rfl (r_extract rfl rfl) ?_
      refine run_same (v := Value.int .i64 v3.2.2) rfl rfl (r_extract rfl rfl) ?_
      refine run_same (v := Value.int .i64 v3.1) rfl rfl (r_assign rfl) ?_
      refine run_frame (by simp only [List.set_cons_zero, List.set_cons_succ]; rfl) ?_
      refine run_same (v := Value.bool v3.2.1) rfl rfl (r_assign rfl) ?_
      refine run_same (v := Value.int .i64 v3.2.2) rfl rfl (r_assign rfl) ?_
      try simp only [List.set_cons_zero, List.set_cons_succ]
      refine run_nil ?_
      refine norm_then ?_
      refine wp_ret ?_
      obtain rfl := Option.some.inj H
      refine bodyPost_ret (results_3 rfl (one_tmp rfl) (one_tmp rfl) (one_tmp rfl)) rfl ?_
      exact ⟨rfl, HS5.toE⟩

end Go.Proofs.YtecpbadkdpbkpaaGreatDoor
namespace Go.Proofs.YtecpbadkdpbkpaaGreatDoor
open Go.RowKit Go.M
def image_Read.f (k : Nat) (a0 : api_Image) (a1 : Int) (a2 : Int) : Option ((List Int) × Bool × Int) := (image_Check.f a0).bind fun v1 => (if (v1 != 0) = true then (some (([] : List Int), false, v1)) else (if ((decide (a2 < 0)) || (decide (a2 > 2048))) = true then (some (([] : List Int), false, 1)) else ((image_read.f k a0 a1 a2).bind fun v2 => (some (v2.1, v2.2, 0)))))
set_option maxRecDepth 20000 in
set_option maxHeartbeats 4000000 in
theorem image_Read.calls (k : Nat) (a0 : api_Image) (a1 : Int) (a2 : Int) (A0_0 : Option Addr) (c0_0 : Nat) {h0 : View} {w0 : World} (hv : Sees h0 w0) (hr0_0 : Rd k_api_Segment h0 A0_0 a0.vSegs) (hc0_0 : a0.vSegs.length ≤ c0_0) {r : (List Int) × Bool × Int} (H : image_Read.f k a0 a1 a2 = some r) : Calls Tryz.prog 24 #[Value.agg #[Value.slice A0_0 a0.vSegs.length c0_0], Value.int .i64 a1, Value.int .i64 a2] w0 (fun e w1 => ∃ (h1 : View) (A0_0 : Option Addr) (c0_0 : Nat), e = .returned (Value.tuple #[Value.slice A0_0 r.1.length c0_0, Value.bool r.2.1, Value.int .i64 r.2.2]) ∧ r.1.length ≤ c0_0 ∧ Rd (Kd.int .u8) h1 A0_0 r.1 ∧ Gr w0.heap.size h0 h1 ∧ Sees h1 w1 ∧ Ext w0 w1) := by
  unfold image_Read.f at H
  have HS : St [] h0 w0 h0 [] w0 := St.init hv
  go_enter Tryz.func24, Tryz.ntmps24
  refine wp_seq ?_
  refine region ?_
  refine run_ex rfl rfl (does_box (cs := #[Value.slice A0_0 a0.vSegs.length c0_0]) rfl rfl) ?_
  rintro w1 _ hE1 ⟨b1, rfl, ge1, hb1⟩
  have HS1 := HS.new hE1 ge1 hb1
  refine run_same (v := Value.slice none 0 0) rfl rfl (r_assign rfl) ?_
  refine run_same (v := Value.bool false) rfl rfl (r_assign rfl) ?_
  refine run_same (v := Value.int .i64 0) rfl rfl (r_assign rfl) ?_
  try simp only [List.set_cons_zero, List.set_cons_succ]
  refine run_nil ?_
  refine norm_then ?_
  refine wp_seq ?_
  refine wp_seq ?_
  refine region ?_
  refine run_same (v := Value.agg #[Value.slice A0_0 a0.vSegs.length c0_0]) rfl rfl (r_loadBoxAgg (n := 1) (vs := [Value.slice A0_0 a0.vSegs.length c0_0]) rfl Tryz.isAgg27 (HS1.look 0 rfl) Tryz.sizeOf27 rfl rfl) ?_
  obtain ⟨v1, H1, H⟩ := of_bind H
  refine run_eq (v := Value.int .i64 v1) rfl rfl (does_call_eq Tryz.call26 rfl rfl (image_Check.calls a0 A0_0 c0_0 HS1.sees hr0_0 hc0_0 H1)) ?_
  intro w2 hE2
  have HS2 := HS1.step hE2
  refine run_same (v := Value.int .i64 v1) rfl rfl (r_assign rfl) ?_
  try simp only [List.set_cons_zero, List.set_cons_succ]
  refine run_nil ?_
  refine norm_then ?_
  refine wp_seq ?_
  refine region ?_
  refine run_same (v := Value.int .i64 v1) rfl rfl (r_move rfl) ?_
  refine run_same (v := Value.bool (v1 != 0)) rfl rfl (r_bin rfl rfl rfl) ?_
  try simp only [List.set_cons_zero, List.set_cons_succ]
  refine run_nil ?_
  refine norm_then ?_
  refine wp_cond_split (t := (v1 != 0)) rfl (fun c1 => ?_) (fun c1 => ?_)
  · replace H := of_pos H c1
    refine wp_seq ?_
    refine region ?_
    refine run_same (v := Value.int .i64 v1) rfl rfl (r_move rfl) ?_
    refine run_same (v := Value.slice none 0 0) rfl rfl (r_assign rfl) ?_
    refine run_same (v := Value.bool false) rfl rfl (r_assign rfl) ?_
    refine run_same (v := Value.int .i64 v1) rfl rfl (r_assign rfl) ?_
    try simp only [List.set_cons_zero, List.set_cons_succ]
    refine run_nil ?_
    refine norm_then ?_
    refine wp_ret ?_
    refine ret_then ?_
    obtain rfl := Option.some.inj H
    refine bodyPost_ret (results_3 rfl (one_tmp rfl) (one_tmp rfl) (one_tmp rfl)) rfl ?_
    exact ⟨h0, none, 0, rfl, (Nat.le_refl 0), (Rd.nil _ _ _), HS2.gr, HS2.sees, HS2.toE⟩
  · replace H := of_neg H (nt c1)
    refine wp_skip ?_
    refine norm_then ?_
    refine wp_seq ?_
    refine wp_seq ?_
    refine region ?_
    refine run_same (v := Value.int .i64 a2) rfl rfl (r_move rfl) ?_
    refine run_same (v := Value.bool (decide (a2 < 0))) rfl rfl (r_bin rfl rfl rfl) ?_
    refine run_same (v := Value.bool (decide (a2 < 0))) rfl rfl (r_move rfl) ?_
    refine run_g_same (b := (decide (a2 < 0))) (c := true) (v := Value.int .i64 a2) rfl rfl rfl rfl (fun hg => (r_move rfl)) ?_
    refine run_frame (by simp only [List.set_cons_zero, List.set_cons_succ]; rfl) ?_
    refine run_g_same (b := (decide (a2 < 0))) (c := true) (v := Value.bool (decide (a2 > 2048))) rfl rfl rfl rfl (fun hg => (r_bin ((show _ = gv (true && ((decide (a2 < 0)) == false)) (Value.int .i64 a2) from rfl).trans (gv_t hg)) rfl rfl)) ?_
    refine run_same (v := Value.bool ((decide (a2 < 0)) || (decide (a2 > 2048)))) rfl rfl (r_pick_or rfl rfl (fun hp => ((show _ = gv (true && ((decide (a2 < 0)) == false)) (Value.bool (decide (a2 > 2048))) from rfl).trans (gv_t (and_i rfl hp))))) ?_
    try simp only [List.set_cons_zero, List.set_cons_succ]
    refine run_nil ?_
    refine norm_then ?_
    refine wp_cond_split (t := ((decide (a2 < 0)) || (decide (a2 > 2048)))) rfl (fun c2 => ?_) (fun c2 => ?_)
    · replace H := of_pos H c2
      refine wp_seq ?_
      refine region ?_
      refine run_same (v := Value.slice none 0 0) rfl rfl (r_assign rfl) ?_
      refine run_same (v := Value.bool false) rfl rfl (r_assign rfl) ?_
      refine run_same (v := Value.int .i64 1) rfl rfl (r_assign rfl) ?_
      try simp only [List.set_cons_zero, List.set_cons_succ]
      refine run_nil ?_
      refine norm_then ?_
      refine wp_ret ?_
      refine ret_then ?_
      obtain rfl := Option.some.inj H
      refine bodyPost_ret (results_3 rfl (one_tmp rfl) (one_tmp rfl) (one_tmp rfl)) rfl ?_
      exact ⟨h0, none, 0, rfl, (Nat.le_refl 0), (Rd.nil _ _ _), HS2.gr, HS2.sees, HS2.toE⟩
    · replace H := of_neg H (nt c2)
      refine wp_skip ?_
      refine norm_then ?_
      refine wp_seq ?_
      refine region ?_
      refine run_same (v := Value.agg #[Value.slice A0_0 a0.vSegs.length c0_0]) rfl rfl (r_loadBoxAgg (n := 1) (vs := [Value.slice A0_0 a0.vSegs.length c0_0]) rfl Tryz.isAgg27 (HS2.look 0 rfl) Tryz.sizeOf27 rfl rfl) ?_
      refine run_same (v := Value.int .i64 a1) rfl rfl (r_move rfl) ?_
      refine run_same (v := Value.int .i64 a2) rfl rfl (r_move rfl) ?_
      obtain ⟨v2, H2, H⟩ := of_bind H
      refine run_ex rfl rfl (does_call Tryz.call59 rfl (gives_in (h := h0) (R := (fun hx u => ∃ (Av2_0_0 : Option Addr) (cv2_0_0 : Nat), u = Value.tuple #[Value.slice Av2_0_0 v2.1.length cv2_0_0, Value.bool v2.2] ∧ v2.1.length ≤ cv2_0_0 ∧ Rd (Kd.int .u8) hx Av2_0_0 v2.1)) (Ext.rfl' w2) ((image_read.calls k a0 a1 a2 A0_0 c0_0 HS2.sees hr0_0 hc0_0 H2).mono ?_)) rfl) ?_
      · rintro _ _ ⟨h1, Av2_0_0, cv2_0_0, rfl, hcv2_0_0, hrv2_0_0, g, ss, x⟩
        exact ⟨h1, _, rfl, ⟨Av2_0_0, cv2_0_0, rfl, hcv2_0_0, hrv2_0_0⟩, g, ss, x⟩
      rintro w3 _ hE3 ⟨h1, ⟨Av2_0_0, cv2_0_0, rfl, hcv2_0_0, hrv2_0_0⟩, gr1, se1⟩
      have HS3 := HS2.view hE3 gr1 se1
      refine run_frame (by simp only [List.set_cons_zero, List.set_cons_succ]; rfl) ?_
      refine run_same (v := Value.tuple #[Value.slice Av2_0_0 v2.1.length cv2_0_0, Value.bool v2.2]) rfl rfl (r_move rfl) ?_
      refine run_same (v := Value.slice Av2_0_0 v2.1.length cv2_0_0) rfl rfl (r_extract rfl rfl) ?_
      refine run_same (v := Value.bool v2.2) rfl rfl (r_extract rfl rfl) ?_
      refine run_same (v := Value.slice Av2_0_0 v2.1.length cv2_0_0) rfl rfl (r_assign rfl) ?_
      refine run_frame (by simp only [List.set_cons_zero, List.set_cons_succ]; rfl) ?_
      refine run_same (v := Value.bool v2.2) rfl rfl (r_assign rfl) ?_
      try simp only [List.set_cons_zero, List.set_cons_succ]
      refine run_nil ?_
      refine norm_then ?_
      refine wp_seq ?_
      refine region ?_
      refine run_same (v := Value.slice Av2_0_0 v2.1.length cv2_0_0) rfl rfl (r_move rfl) ?_
      refine run_same (v := Value.bool v2.2) rfl rfl (r_move rfl) ?_
      refine run_same (v := Value.slice Av2_0_0 v2.1.length cv2_0_0) rfl rfl (r_assign rfl) ?_
      refine run_same (v := Value.bool v2.2) rfl rfl (r_assign rfl) ?_
      refine run_frame (by simp only [List.set_cons_zero, List.set_cons_succ]; rfl) ?_
      refine run_same (v := Value.int .i64 0) rfl rfl (r_assign rfl) ?_
      try simp only [List.set_cons_zero, List.set_cons_succ]
      refine run_nil ?_
      refine norm_then ?_
      refine wp_ret ?_
      obtain rfl := Option.some.inj H
      refine bodyPost_ret (results_3 rfl (one_tmp rfl) (one_tmp rfl) (one_tmp rfl)) rfl ?_
      exact ⟨h1, Av2_0_0, cv2_0_0, rfl, hcv2_0_0, hrv2_0_0, HS3.gr, HS3.sees, HS3.toE⟩

end Go.Proofs.YtecpbadkdpbkpaaGreatDoor
namespace Go.Proofs.YtecpbadkdpbkpaaGreatDoor
open Go.RowKit Go.M
def taplinelaw09_ImageParts.l0 (k : Nat) (a0 : api_Image) (a1 : taplinelaw09_Asked) : Nat → Bool → Int → Int → Option ((Bool) ⊕ (Bool × Int))
  | 0, _, _, _ => none
  | m + 1, y1_0, y1_1, y1_2 => if (decide (y1_2 < a1.vT.vSize)) = true then ((image_Load.f k a0 (IntKind.wrap .i64 (a1.vAt + y1_2)) (⟨1, false⟩ : api_Int)).bind fun v3 => (if (v3.2.2 != 0) = true then (some (.inl false)) else (if 0 ≤ (IntKind.wrap .i64 (8 * y1_2)) then (taplinelaw09_ImageParts.l0 k a0 a1 m (y1_0 && v3.2.1) (iOr .u64 y1_1 (iShl .u64 (IntKind.wrap .u64 v3.1) (IntKind.wrap .i64 (8 * y1_2)))) (IntKind.wrap .i64 (y1_2 + 1))) else none))) else (some (.inr (y1_0, y1_1)))
def taplinelaw09_ImageParts.f (k : Nat) (a0 : api_Image) (a1 : taplinelaw09_Asked) (a2 : arr2_Int) : Option (Bool) := (taplinelaw09_sane.f).bind fun v1 => ((image_Load.f k a0 a1.vAt a1.vT).bind fun v2 => (if (((v2.2.2 != 0) || (decide (a1.vAt > 1125899906842624))) || (decide (a1.vAt < (-1125899906842624)))) = true then (some v1) else ((taplinelaw09_ImageParts.l0 k a0 a1 k true 0 0).bind fun xx1 => (match xx1 with | .inl r => some r | .inr s1 => (bits_Wrap.f a1.vT (IntKind.wrap .i64 s1.2)).bind fun v4 => (if (((v2.2.1 != s1.1) || (v4.2 != 0)) || (v2.2.1 && (v2.1 != v4.1))) = true then (some false) else ((image_Read.f k a0 a1.vAt (IntKind.wrap .i64 ((iRem (IntKind.wrap .i64 a2.ve0) 51) + (iRem (IntKind.wrap .i64 a2.ve1) 51)))).bind fun v5 => ((image_Read.f k a0 a1.vAt (iRem (IntKind.wrap .i64 a2.ve0) 51)).bind fun v6 => ((image_Read.f k a0 (IntKind.wrap .i64 (a1.vAt + (iRem (IntKind.wrap .i64 a2.ve0) 51))) (iRem (IntKind.wrap .i64 a2.ve1) 51)).bind fun v7 => (if ((((v5.2.2 != 0) || (v6.2.2 != 0)) || (v7.2.2 != 0)) || (v5.2.1 != (v6.2.1 && v7.2.1))) = true then (some false) else (if ((true && (v1 == true)) && ((!v5.2.1) == false)) = true → (strOf v6.1).size + (strOf v7.1).size ≤ 9223372036854775807 then (some (v1 && ((!v5.2.1) || (strEq (strOf v5.1) ((strOf v6.1) ++ (strOf v7.1)))))) else none))))))))))
set_option maxRecDepth 20000 in
set_option maxHeartbeats 4000000 in
theorem taplinelaw09_ImageParts.calls (k : Nat) (a0 : api_Image) (a1 : taplinelaw09_Asked) (a2 : arr2_Int) (A0_0 : Option Addr) (c0_0 : Nat) (A1_5 : Option Addr) (c1_5 : Nat) {h0 : View} {w0 : World} (hv : Sees h0 w0) (ht : Tab w0) (hr0_0 : Rd k_api_Segment h0 A0_0 a0.vSegs) (hc0_0 : a0.vSegs.length ≤ c0_0) (hr1_5 : Rd Kd.str h0 A1_5 a1.vPath) (hc1_5 : a1.vPath.length ≤ c1_5) {r : Bool} (H : taplinelaw09_ImageParts.f k a0 a1 a2 = some r) : Calls Tryz.prog 8 #[Value.agg #[Value.slice A0_0 a0.vSegs.length c0_0], Value.agg #[Value.int .i64 a1.vAt, Value.int .i64 a1.vN, Value.int .i64 a1.vT.vSize, Value.bool a1.vT.vSigned, Value.string a1.vName, Value.slice A1_5 a1.vPath.length c1_5], Value.agg #[Value.int .u8 a2.ve0, Value.int .u8 a2.ve1]] w0 (fun e w1 => e = .returned (Value.bool r) ∧ Ext w0 w1) := by
  unfold taplinelaw09_ImageParts.f at H
  have HS : St [] h0 w0 h0 [] w0 := St.init hv
  go_enter Tryz.func8, Tryz.ntmps8
  refine wp_seq ?_
  refine region ?_
  refine run_ex rfl rfl (does_box (cs := #[Value.slice A0_0 a0.vSegs.length c0_0]) rfl rfl) ?_
  rintro w1 _ hE1 ⟨b1, rfl, ge1, hb1⟩
  have HS1 := HS.new hE1 ge1 hb1
  refine run_ex rfl rfl (does_box (cs := #[Value.int .i64 a1.vAt, Value.int .i64 a1.vN, Value.int .i64 a1.vT.vSize, Value.bool a1.vT.vSigned, Value.string a1.vName, Value.slice A1_5 a1.vPath.length c1_5]) rfl rfl) ?_
  rintro w2 _ hE2 ⟨b2, rfl, ge2, hb2⟩
  have HS2 := HS1.new hE2 ge2 hb2
  refine run_ex rfl rfl (does_box (cs := #[Value.int .u8 a2.ve0, Value.int .u8 a2.ve1]) rfl rfl) ?_
  rintro w3 _ hE3 ⟨b3, rfl, ge3, hb3⟩
  have HS3 := HS2.new hE3 ge3 hb3
  refine run_same (v := Value.bool false) rfl rfl (r_assign rfl) ?_
  try simp only [List.set_cons_zero, List.set_cons_succ]
  refine run_nil ?_
  refine norm_then ?_
  refine wp_seq ?_
  refine region ?_
  obtain ⟨v1, H1, H⟩ := of_bind H
  refine run_eq (v := Value.bool v1) rfl rfl (does_call_eq Tryz.call10 rfl rfl (taplinelaw09_sane.calls HS3.sees (ht.s HS3) H1)) ?_
  intro w4 hE4
  have HS4 := HS3.step hE4
  refine run_same (v := Value.bool v1) rfl rfl (r_assign rfl) ?_
  try simp only [List.set_cons_zero, List.set_cons_succ]
  refine run_nil ?_
  refine norm_then ?_
  refine wp_seq ?_
  refine region ?_
  refine run_same (v := Value.agg #[Value.slice A0_0 a0.vSegs.length c0_0]) rfl rfl (r_loadBoxAgg (n := 1) (vs := [Value.slice A0_0 a0.vSegs.length c0_0]) rfl Tryz.isAgg27 (HS4.look 2 rfl) Tryz.sizeOf27 rfl rfl) ?_
  refine run_same (v := Value.pointer (some ⟨b2, 0, none⟩)) rfl rfl (r_fieldBox (n := 1) (o' := 0) rfl Tryz.runUnderlying32 rfl Tryz.sizeOf2 (by decide) rfl) ?_
  refine run_same (v := Value.int .i64 a1.vAt) rfl rfl (r_loadBox rfl Tryz.isAgg2 (HS4.look 1 rfl) rfl) ?_
  refine run_same (v := Value.pointer (some ⟨b2, 2, none⟩)) rfl rfl (r_fieldBox (n := 2) (o' := 2) rfl Tryz.runUnderlying32 rfl Tryz.sizeOf29 (by decide) rfl) ?_
  refine run_frame (by simp only [List.set_cons_zero, List.set_cons_succ]; rfl) ?_
  refine run_same (v := Value.agg #[Value.int .i64 a1.vT.vSize, Value.bool a1.vT.vSigned]) rfl rfl (r_loadBoxAgg (n := 2) (vs := [Value.int .i64 a1.vT.vSize, Value.bool a1.vT.vSigned]) rfl Tryz.isAgg29 (HS4.look 1 rfl) Tryz.sizeOf29 rfl rfl) ?_
  obtain ⟨v2, H2, H⟩ := of_bind H
  refine run_eq (v := Value.tuple #[Value.int .i64 v2.1, Value.bool v2.2.1, Value.int .i64 v2.2.2]) rfl rfl (does_call_eq Tryz.call23 rfl rfl (image_Load.calls k a0 a1.vAt a1.vT A0_0 c0_0 HS4.sees hr0_0 hc0_0 H2)) ?_
  intro w5 hE5
  have HS5 := HS4.step hE5
  refine run_same (v := Value.tuple #[Value.int .i64 v2.1, Value.bool v2.2.1, Value.int .i64 v2.2.2]) rfl rfl (r_move rfl) ?_
  refine run_same (v := Value.int .i64 v2.1) rfl rfl (r_extract rfl rfl) ?_
  refine run_frame (by simp only [List.set_cons_zero, List.set_cons_succ]; rfl) ?_
  refine run_same (v := Value.bool v2.2.1) rfl rfl (r_extract rfl rfl) ?_
  refine run_same (v := Value.int .i64 v2.2.2) rfl rfl (r_extract rfl rfl) ?_
  refine run_same (v := Value.int .i64 v2.1) rfl rfl (r_assign rfl) ?_
  refine run_same (v := Value.bool v2.2.1) rfl rfl (r_assign rfl) ?_
  refine run_frame (by simp only [List.set_cons_zero, List.set_cons_succ]; rfl) ?_
  refine run_same (v := Value.int .i64 v2.2.2) rfl rfl (r_assign rfl) ?_
  try simp only [List.set_cons_zero, List.set_cons_succ]
  refine run_nil ?_
  refine norm_then ?_
  refine wp_seq ?_
  refine wp_seq ?_
  refine region ?_
  refine run_same (v := Value.int .i64 v2.2.2) rfl rfl (r_move rfl) ?_
  refine run_same (v := Value.bool (v2.2.2 != 0)) rfl rfl (r_bin rfl rfl rfl) ?_
  refine run_same (v := Value.bool (v2.2.2 != 0)) rfl rfl (r_move rfl) ?_
  refine run_g_same (b := (v2.2.2 != 0)) (c := true) (v := Value.pointer (some ⟨b2, 0, none⟩)) rfl rfl rfl rfl (fun hg => (r_fieldBox (n := 1) (o' := 0) rfl Tryz.runUnderlying32 rfl Tryz.sizeOf2 (by decide) rfl)) ?_
  refine run_frame (by simp only [List.set_cons_zero, List.set_cons_succ]; rfl) ?_
  refine run_g_same (b := (v2.2.2 != 0)) (c := true) (v := Value.int .i64 a1.vAt) rfl rfl rfl rfl (fun hg => (r_loadBox ((show _ = gv (true && ((v2.2.2 != 0) == false)) (Value.pointer (some ⟨b2, 0, none⟩)) from rfl).trans (gv_t hg)) Tryz.isAgg2 (HS5.look 1 rfl) rfl)) ?_
  refine run_g_same (b := (v2.2.2 != 0)) (c := true) (v := Value.bool (decide (a1.vAt > 1125899906842624))) rfl rfl rfl rfl (fun hg => (r_bin ((show _ = gv (true && ((v2.2.2 != 0) == false)) (Value.int .i64 a1.vAt) from rfl).trans (gv_t hg)) rfl rfl)) ?_
  refine run_same (v := Value.bool ((v2.2.2 != 0) || (decide (a1.vAt > 1125899906842624)))) rfl rfl (r_pick_or rfl rfl (fun hp => ((show _ = gv (true && ((v2.2.2 != 0) == false)) (Value.bool (decide (a1.vAt > 1125899906842624))) from rfl).trans (gv_t (and_i rfl hp))))) ?_
  refine run_same (v := Value.bool ((v2.2.2 != 0) || (decide (a1.vAt > 1125899906842624)))) rfl rfl (r_move rfl) ?_
  refine run_frame (by simp only [List.set_cons_zero, List.set_cons_succ]; rfl) ?_
  refine run_g_same (b := ((v2.2.2 != 0) || (decide (a1.vAt > 1125899906842624)))) (c := true) (v := Value.pointer (some ⟨b2, 0, none⟩)) rfl rfl rfl rfl (fun hg => (r_fieldBox (n := 1) (o' := 0) rfl Tryz.runUnderlying32 rfl Tryz.sizeOf2 (by decide) rfl)) ?_
  refine run_g_same (b := ((v2.2.2 != 0) || (decide (a1.vAt > 1125899906842624)))) (c := true) (v := Value.int .i64 a1.vAt) rfl rfl rfl rfl (fun hg => (r_loadBox ((show _ = gv (true && (((v2.2.2 != 0) || (decide (a1.vAt > 1125899906842624))) == false)) (Value.pointer (some ⟨b2, 0, none⟩)) from rfl).trans (gv_t hg)) Tryz.isAgg2 (HS5.look 1 rfl) rfl)) ?_
  refine run_g_same (b := ((v2.2.2 != 0) || (decide (a1.vAt > 1125899906842624)))) (c := true) (v := Value.bool (decide (a1.vAt < (-1125899906842624)))) rfl rfl rfl rfl (fun hg => (r_bin ((show _ = gv (true && (((v2.2.2 != 0) || (decide (a1.vAt > 1125899906842624))) == false)) (Value.int .i64 a1.vAt) from rfl).trans (gv_t hg)) rfl rfl)) ?_
  refine run_same (v := Value.bool (((v2.2.2 != 0) || (decide (a1.vAt > 1125899906842624))) || (decide (a1.vAt < (-1125899906842624))))) rfl rfl (r_pick_or rfl rfl (fun hp => ((show _ = gv (true && (((v2.2.2 != 0) || (decide (a1.vAt > 1125899906842624))) == false)) (Value.bool (decide (a1.vAt < (-1125899906842624)))) from rfl).trans (gv_t (and_i rfl hp))))) ?_
  try simp only [List.set_cons_zero, List.set_cons_succ]
  refine run_nil ?_
  refine norm_then ?_
  refine wp_cond_split (t := (((v2.2.2 != 0) || (decide (a1.vAt > 1125899906842624))) || (decide (a1.vAt < (-1125899906842624))))) rfl (fun c1 => ?_) (fun c1 => ?_)
  · replace H := of_pos H c1
    refine wp_seq ?_
    refine region ?_
    refine run_same (v := Value.bool v1) rfl rfl (r_move rfl) ?_
    refine run_same (v := Value.bool v1) rfl rfl (r_assign rfl) ?_
    try simp only [List.set_cons_zero, List.set_cons_succ]
    refine run_nil ?_
    refine norm_then ?_
    refine wp_ret ?_
    refine ret_then ?_
    obtain rfl := Option.some.inj H
    refine bodyPost_ret (results_1 rfl (one_tmp rfl)) rfl ?_
    exact ⟨rfl, HS5.toE⟩
  · replace H := of_neg H (nt c1)
    refine wp_skip ?_
    refine norm_then ?_
    refine wp_seq ?_
    refine region ?_
    refine run_same (v := Value.bool true) rfl rfl (r_assign rfl) ?_
    try simp only [List.set_cons_zero, List.set_cons_succ]
    refine run_nil ?_
    refine norm_then ?_
    refine wp_seq ?_
    refine region ?_
    refine run_same (v := Value.int .u64 0) rfl rfl (r_assign rfl) ?_
    try simp only [List.set_cons_zero, List.set_cons_succ]
    refine run_nil ?_
    refine norm_then ?_
    refine wp_seq ?_
    refine wp_seq ?_
    refine region ?_
    refine run_same (v := Value.int .i64 0) rfl rfl (r_assign rfl) ?_
    try simp only [List.set_cons_zero, List.set_cons_succ]
    refine run_nil ?_
    refine norm_then ?_
    obtain ⟨xx1, H, G1⟩ := of_bind H
    refine loop_j [6, 11, 12, 13, 14, 15, 16, 53, 54, 55, 56, 57, 58, 59, 60, 61, 62, 63, 64, 65, 66, 67, 68, 69, 70, 71, 72, 73, 74, 75, 76, 77, 78, 79, 80, 81, 82, 83] (fun m us w' => ∃ (y1_0 : Bool), ∃ (y1_1 : Int), ∃ (y1_2 : Int), Fit us (fun uy1 => [(uy1 0), Value.bool y1_0, Value.int .u64 y1_1, Value.int .i64 y1_2, (uy1 4), (uy1 5), (uy1 6), (uy1 7), (uy1 8), (uy1 9), (uy1 10), (uy1 11), (uy1 12), (uy1 13), (uy1 14), (uy1 15), (uy1 16), (uy1 17), (uy1 18), (uy1 19), (uy1 20), (uy1 21), (uy1 22), (uy1 23), (uy1 24), (uy1 25), (uy1 26), (uy1 27), (uy1 28), (uy1 29), (uy1 30), (uy1 31), (uy1 32), (uy1 33), (uy1 34), (uy1 35), (uy1 36), (uy1 37)]) ∧ taplinelaw09_ImageParts.l0 k a0 a1 m y1_0 y1_1 y1_2 = some xx1 ∧ St [] h0 w0 h0 [(some b3, .cells #[Value.int .u8 a2.ve0, Value.int .u8 a2.ve1] 69 (0, 0)), (some b2, .cells #[Value.int .i64 a1.vAt, Value.int .i64 a1.vN, Value.int .i64 a1.vT.vSize, Value.bool a1.vT.vSigned, Value.string a1.vName, Value.slice A1_5 a1.vPath.length c1_5] 32 (0, 0)), (some b1, .cells #[Value.slice A0_0 a0.vSegs.length c0_0] 27 (0, 0))] w') (fun us w' => ∃ (s1 : Bool × Int), xx1 = .inr s1 ∧ Fit us (fun uo1 => [(uo1 0), Value.bool s1.1, Value.int .u64 s1.2, (uo1 3), (uo1 4), (uo1 5), (uo1 6), (uo1 7), (uo1 8), (uo1 9), (uo1 10), (uo1 11), (uo1 12), (uo1 13), (uo1 14), (uo1 15), (uo1 16), (uo1 17), (uo1 18), (uo1 19), (uo1 20), (uo1 21), (uo1 22), (uo1 23), (uo1 24), (uo1 25), (uo1 26), (uo1 27), (uo1 28), (uo1 29), (uo1 30), (uo1 31), (uo1 32), (uo1 33), (uo1 34), (uo1 35), (uo1 36), (uo1 37)]) ∧ St [] h0 w0 h0 [(some b3, .cells #[Value.int .u8 a2.ve0, Value.int .u8 a2.ve1] 69 (0, 0)), (some b2, .cells #[Value.int .i64 a1.vAt, Value.int .i64 a1.vN, Value.int .i64 a1.vT.vSize, Value.bool a1.vT.vSigned, Value.string a1.vName, Value.slice A1_5 a1.vPath.length c1_5] 32 (0, 0)), (some b1, .cells #[Value.slice A0_0 a0.vSegs.length c0_0] 27 (0, 0))] w') k ⟨true, 0, 0, (fit rfl), H, HS5⟩ ?_ ?_
    · rintro m us w6 ⟨y1_0, y1_1, y1_2, huy1, H, HS6⟩
      obtain ⟨uy1, rfl⟩ := unj huy1
      cases m with
      | zero => exact absurd H (by simp [taplinelaw09_ImageParts.l0])
      | succ m =>
        rw [taplinelaw09_ImageParts.l0] at H
        try simp only [patch, List.set_cons_zero, List.set_cons_succ]
        refine wp_seq ?_
        refine wp_seq ?_
        refine region ?_
        refine run_same (v := Value.int .i64 y1_2) rfl rfl (r_move rfl) ?_
        refine run_same (v := Value.pointer (some ⟨b2, 2, none⟩)) rfl rfl (r_fieldBox (n := 2) (o' := 2) rfl Tryz.runUnderlying32 rfl Tryz.sizeOf29 (by decide) rfl) ?_
        refine run_same (v := Value.pointer (some ⟨b2, 2, none⟩)) rfl rfl (r_fieldBox (n := 1) (o' := 2) rfl Tryz.runUnderlying29 rfl Tryz.sizeOf3 (by decide) rfl) ?_
        refine run_same (v := Value.int .i64 a1.vT.vSize) rfl rfl (r_loadBox rfl Tryz.isAgg3 (HS6.look 1 rfl) rfl) ?_
        refine run_frame (by simp only [List.set_cons_zero, List.set_cons_succ]; rfl) ?_
        refine run_same (v := Value.bool (decide (y1_2 < a1.vT.vSize))) rfl rfl (r_bin rfl rfl rfl) ?_
        try simp only [List.set_cons_zero, List.set_cons_succ]
        refine run_nil ?_
        refine norm_then ?_
        refine wp_cond_split (t := (decide (y1_2 < a1.vT.vSize))) rfl (fun c2 => ?_) (fun c2 => ?_)
        · replace H := of_pos H c2
          refine wp_skip ?_
          refine norm_then ?_
          refine wp_seq ?_
          refine wp_block ?_
          refine wp_seq ?_
          refine region ?_
          refine run_same (v := Value.agg #[Value.slice A0_0 a0.vSegs.length c0_0]) rfl rfl (r_loadBoxAgg (n := 1) (vs := [Value.slice A0_0 a0.vSegs.length c0_0]) rfl Tryz.isAgg27 (HS6.look 2 rfl) Tryz.sizeOf27 rfl rfl) ?_
          refine run_same (v := Value.pointer (some ⟨b2, 0, none⟩)) rfl rfl (r_fieldBox (n := 1) (o' := 0) rfl Tryz.runUnderlying32 rfl Tryz.sizeOf2 (by decide) rfl) ?_
          refine run_same (v := Value.int .i64 a1.vAt) rfl rfl (r_loadBox rfl Tryz.isAgg2 (HS6.look 1 rfl) rfl) ?_
          refine run_same (v := Value.int .i64 y1_2) rfl rfl (r_move rfl) ?_
          refine run_frame (by simp only [List.set_cons_zero, List.set_cons_succ]; rfl) ?_
          refine run_same (v := Value.int .i64 (IntKind.wrap .i64 (a1.vAt + y1_2))) rfl rfl (r_bin rfl rfl rfl) ?_
          refine run_same (v := Value.agg #[Value.int .i64 1, Value.bool false]) rfl rfl (r_build (cs := [Value.int .i64 1, Value.bool false]) (ps := [(0, Value.int .i64 1)]) Tryz.zeroValue29 Tryz.runUnderlying29 (pl := #[(0, 1), (1, 1)]) (fun w => by simp [Tryz.sizeOf3, Tryz.sizeOf4]) (parts_1 (show _ = Value.int .i64 1 from rfl)) rfl) ?_
          obtain ⟨v3, H3, H⟩ := of_bind H
          refine run_eq (v := Value.tuple #[Value.int .i64 v3.1, Value.bool v3.2.1, Value.int .i64 v3.2.2]) rfl rfl (does_call_eq Tryz.call23 rfl rfl (image_Load.calls k a0 (IntKind.wrap .i64 (a1.vAt + y1_2)) (⟨1, false⟩ : api_Int) A0_0 c0_0 HS6.sees hr0_0 hc0_0 H3)) ?_
          intro w7 hE6
          have HS7 := HS6.step hE6
          refine run_same (v := Value.tuple #[Value.int .i64 v3.1, Value.bool v3.2.1, Value.int .i64 v3.2.2]) rfl rfl (r_move rfl) ?_
          refine run_frame (by simp only [List.set_cons_zero, List.set_cons_succ]; rfl) ?_
          refine run_same (v := Value.int .i64 v3.1) rfl rfl (r_extract rfl rfl) ?_
          refine run_same (v := Value.bool v3.2.1) rfl rfl (r_extract rfl rfl) ?_
          refine run_same (v := Value.int .i64 v3.2.2) rfl rfl (r_extract rfl rfl) ?_
          refine run_same (v := Value.int .i64 v3.1) rfl rfl (r_assign rfl) ?_
          refine run_frame (by simp only [List.set_cons_zero, List.set_cons_succ]; rfl) ?_
          refine run_same (v := Value.bool v3.2.1) rfl rfl (r_assign rfl) ?_
          refine run_same (v := Value.int .i64 v3.2.2) rfl rfl (r_assign rfl) ?_
          try simp only [List.set_cons_zero, List.set_cons_succ]
          refine run_nil ?_
          refine norm_then ?_
          refine wp_seq ?_
          refine wp_seq ?_
          refine region ?_
          refine run_same (v := Value.int .i64 v3.2.2) rfl rfl (r_move rfl) ?_
          refine run_same (v := Value.bool (v3.2.2 != 0)) rfl rfl (r_bin rfl rfl rfl) ?_
          try simp only [List.set_cons_zero, List.set_cons_succ]
          refine run_nil ?_
          refine norm_then ?_
          refine wp_cond_split (t := (v3.2.2 != 0)) rfl (fun c3 => ?_) (fun c3 => ?_)
          · replace H := of_pos H c3
            refine wp_seq ?_
            refine region ?_
            refine run_same (v := Value.bool false) rfl rfl (r_assign rfl) ?_
            try simp only [List.set_cons_zero, List.set_cons_succ]
            refine run_nil ?_
            refine norm_then ?_
            refine wp_ret ?_
            refine ret_then ?_
            refine ret_block ?_
            refine ret_then ?_
            refine ret_loop ?_
            refine ret_then ?_
            obtain rfl := Option.some.inj H
            obtain rfl := Option.some.inj G1
            refine bodyPost_ret (results_1 rfl (one_tmp rfl)) rfl ?_
            exact ⟨rfl, HS7.toE⟩
          · replace H := of_neg H (nt c3)
            refine wp_skip ?_
            refine norm_then ?_
            refine wp_seq ?_
            refine region ?_
            refine run_same (v := Value.bool y1_0) rfl rfl (r_move rfl) ?_
            refine run_same (v := Value.bool y1_0) rfl rfl (r_move rfl) ?_
            refine run_g_same (b := y1_0) (c := true) (v := Value.bool v3.2.1) rfl rfl rfl rfl (fun hg => (r_move rfl)) ?_
            refine run_same (v := Value.bool (y1_0 && v3.2.1)) rfl rfl (r_pick_and rfl (fun hp => ((show _ = gv (true && (y1_0 == true)) (Value.bool v3.2.1) from rfl).trans (gv_t (and_i rfl hp)))) rfl) ?_
            refine run_frame (by simp only [List.set_cons_zero, List.set_cons_succ]; rfl) ?_
            refine run_same (v := Value.bool (y1_0 && v3.2.1)) rfl rfl (r_assign rfl) ?_
            try simp only [List.set_cons_zero, List.set_cons_succ]
            refine run_nil ?_
            refine norm_then ?_
            refine region ?_
            refine run_same (v := Value.int .u64 y1_1) rfl rfl (r_move rfl) ?_
            refine run_same (v := Value.int .i64 v3.1) rfl rfl (r_move rfl) ?_
            refine run_same (v := Value.int .u64 (IntKind.wrap .u64 v3.1)) rfl rfl (r_conv rfl Tryz.runUnderlying2 Tryz.runUnderlying71) ?_
            refine run_same (v := Value.int .i64 y1_2) rfl rfl (r_move rfl) ?_
            refine run_frame (by simp only [List.set_cons_zero, List.set_cons_succ]; rfl) ?_
            refine run_same (v := Value.int .i64 (IntKind.wrap .i64 (8 * y1_2))) rfl rfl (r_bin rfl rfl rfl) ?_
            obtain ⟨hb4, H⟩ := of_ite H
            refine run_same (v := Value.int .u64 (iShl .u64 (IntKind.wrap .u64 v3.1) (IntKind.wrap .i64 (8 * y1_2)))) rfl rfl (r_shl rfl rfl hb4) ?_
            refine run_same (v := Value.int .u64 (iOr .u64 y1_1 (iShl .u64 (IntKind.wrap .u64 v3.1) (IntKind.wrap .i64 (8 * y1_2))))) rfl rfl (r_or rfl rfl) ?_
            refine run_same (v := Value.int .u64 (iOr .u64 y1_1 (iShl .u64 (IntKind.wrap .u64 v3.1) (IntKind.wrap .i64 (8 * y1_2))))) rfl rfl (r_assign rfl) ?_
            try simp only [List.set_cons_zero, List.set_cons_succ]
            refine run_nil ?_
            refine norm_block ?_
            refine norm_then ?_
            refine region ?_
            refine run_same (v := Value.int .i64 y1_2) rfl rfl (r_move rfl) ?_
            refine run_same (v := Value.int .i64 (IntKind.wrap .i64 (y1_2 + 1))) rfl rfl (r_bin rfl rfl rfl) ?_
            refine run_same (v := Value.int .i64 (IntKind.wrap .i64 (y1_2 + 1))) rfl rfl (r_assign rfl) ?_
            try simp only [List.set_cons_zero, List.set_cons_succ]
            refine run_nil ?_
            refine again_j m (Nat.lt_succ_self m) rfl ⟨(y1_0 && v3.2.1), (iOr .u64 y1_1 (iShl .u64 (IntKind.wrap .u64 v3.1) (IntKind.wrap .i64 (8 * y1_2)))), (IntKind.wrap .i64 (y1_2 + 1)), (fit rfl), H, HS7⟩
        · replace H := of_neg H (nt c2)
          refine wp_exit ?_
          refine exit_then ?_
          obtain rfl := Option.some.inj H
          refine leave_j rfl ⟨_, rfl, (fit rfl), HS6⟩
    · rintro us w8 ⟨s1, rfl, huo1, HS8⟩
      obtain ⟨uo1, rfl⟩ := unj huo1
      replace H := G1
      clear G1
      try simp only [patch, List.set_cons_zero, List.set_cons_succ]
      refine norm_then ?_
      refine wp_seq ?_
      refine region ?_
      refine run_same (v := Value.pointer (some ⟨b2, 2, none⟩)) rfl rfl (r_fieldBox (n := 2) (o' := 2) rfl Tryz.runUnderlying32 rfl Tryz.sizeOf29 (by decide) rfl) ?_
      refine run_same (v := Value.agg #[Value.int .i64 a1.vT.vSize, Value.bool a1.vT.vSigned]) rfl rfl (r_loadBoxAgg (n := 2) (vs := [Value.int .i64 a1.vT.vSize, Value.bool a1.vT.vSigned]) rfl Tryz.isAgg29 (HS8.look 1 rfl) Tryz.sizeOf29 rfl rfl) ?_
      refine run_same (v := Value.int .u64 s1.2) rfl rfl (r_move rfl) ?_
      refine run_same (v := Value.int .i64 (IntKind.wrap .i64 s1.2)) rfl rfl (r_conv rfl Tryz.runUnderlying71 Tryz.runUnderlying2) ?_
      refine run_frame (by simp only [List.set_cons_zero, List.set_cons_succ]; rfl) ?_
      obtain ⟨v4, H4, H⟩ := of_bind H
      refine run_eq (v := Value.tuple #[Value.int .i64 v4.1, Value.int .i64 v4.2]) rfl rfl (does_call_eq Tryz.call21 rfl rfl (bits_Wrap.calls a1.vT (IntKind.wrap .i64 s1.2) HS8.sees H4)) ?_
      intro w9 hE7
      have HS9 := HS8.step hE7
      refine run_same (v := Value.tuple #[Value.int .i64 v4.1, Value.int .i64 v4.2]) rfl rfl (r_move rfl) ?_
      refine run_same (v := Value.int .i64 v4.1) rfl rfl (r_extract rfl rfl) ?_
      refine run_same (v := Value.int .i64 v4.2) rfl rfl (r_extract rfl rfl) ?_
      refine run_frame (by simp only [List.set_cons_zero, List.set_cons_succ]; rfl) ?_
      refine run_same (v := Value.int .i64 v4.1) rfl rfl (r_assign rfl) ?_
      refine run_same (v := Value.int .i64 v4.2) rfl rfl (r_assign rfl) ?_
      try simp only [List.set_cons_zero, List.set_cons_succ]
      refine run_nil ?_
      refine norm_then ?_
      refine wp_seq ?_
      refine wp_seq ?_
      refine region ?_
      refine run_same (v := Value.bool v2.2.1) rfl rfl (r_move rfl) ?_
      refine run_same (v := Value.bool s1.1) rfl rfl (r_move rfl) ?_
      refine run_same (v := Value.bool (v2.2.1 != s1.1)) rfl rfl (r_boolneq rfl rfl Tryz.runUnderlying4) ?_
      refine run_same (v := Value.bool (v2.2.1 != s1.1)) rfl rfl (r_move rfl) ?_
      refine run_frame (by simp only [List.set_cons_zero, List.set_cons_succ]; rfl) ?_
      refine run_g_same (b := (v2.2.1 != s1.1)) (c := true) (v := Value.int .i64 v4.2) rfl rfl rfl rfl (fun hg => (r_move rfl)) ?_
      refine run_g_same (b := (v2.2.1 != s1.1)) (c := true) (v := Value.bool (v4.2 != 0)) rfl rfl rfl rfl (fun hg => (r_bin ((show _ = gv (true && ((v2.2.1 != s1.1) == false)) (Value.int .i64 v4.2) from rfl).trans (gv_t hg)) rfl rfl)) ?_
      refine run_same (v := Value.bool ((v2.2.1 != s1.1) || (v4.2 != 0))) rfl rfl (r_pick_or rfl rfl (fun hp => ((show _ = gv (true && ((v2.2.1 != s1.1) == false)) (Value.bool (v4.2 != 0)) from rfl).trans (gv_t (and_i rfl hp))))) ?_
      refine run_same (v := Value.bool ((v2.2.1 != s1.1) || (v4.2 != 0))) rfl rfl (r_move rfl) ?_
      refine run_frame (by simp only [List.set_cons_zero, List.set_cons_succ]; rfl) ?_
      refine run_g_same (b := ((v2.2.1 != s1.1) || (v4.2 != 0))) (c := true) (v := Value.bool v2.2.1) rfl rfl rfl rfl (fun hg => (r_move rfl)) ?_
      refine run_g_same (b := ((v2.2.1 != s1.1) || (v4.2 != 0))) (c := true) (v := Value.bool v2.2.1) rfl rfl rfl rfl (fun hg => (r_move ((show _ = gv (true && (((v2.2.1 != s1.1) || (v4.2 != 0)) == false)) (Value.bool v2.2.1) from rfl).trans (gv_t hg)))) ?_
      refine run_g_same (b := v2.2.1) (c := (true && (((v2.2.1 != s1.1) || (v4.2 != 0)) == false))) (v := Value.int .i64 v2.1) rfl rfl rfl rfl (fun hg => (r_move rfl)) ?_
      refine run_g_same (b := v2.2.1) (c := (true && (((v2.2.1 != s1.1) || (v4.2 != 0)) == false))) (v := Value.int .i64 v4.1) rfl rfl rfl rfl (fun hg => (r_move rfl)) ?_
      refine run_frame (by simp only [List.set_cons_zero, List.set_cons_succ]; rfl) ?_
      refine run_g_same (b := v2.2.1) (c := (true && (((v2.2.1 != s1.1) || (v4.2 != 0)) == false))) (v := Value.bool (v2.1 != v4.1)) rfl rfl rfl rfl (fun hg => (r_bin ((show _ = gv ((true && (((v2.2.1 != s1.1) || (v4.2 != 0)) == false)) && (v2.2.1 == true)) (Value.int .i64 v2.1) from rfl).trans (gv_t hg)) ((show _ = gv ((true && (((v2.2.1 != s1.1) || (v4.2 != 0)) == false)) && (v2.2.1 == true)) (Value.int .i64 v4.1) from rfl).trans (gv_t hg)) rfl)) ?_
      refine run_g_same (b := ((v2.2.1 != s1.1) || (v4.2 != 0))) (c := true) (v := Value.bool (v2.2.1 && (v2.1 != v4.1))) rfl rfl rfl rfl (fun hg => (r_pick_and ((show _ = gv (true && (((v2.2.1 != s1.1) || (v4.2 != 0)) == false)) (Value.bool v2.2.1) from rfl).trans (gv_t hg)) (fun hp => ((show _ = gv ((true && (((v2.2.1 != s1.1) || (v4.2 != 0)) == false)) && (v2.2.1 == true)) (Value.bool (v2.1 != v4.1)) from rfl).trans (gv_t (and_i hg hp)))) rfl)) ?_
      refine run_same (v := Value.bool (((v2.2.1 != s1.1) || (v4.2 != 0)) || (v2.2.1 && (v2.1 != v4.1)))) rfl rfl (r_pick_or rfl rfl (fun hp => ((show _ = gv (true && (((v2.2.1 != s1.1) || (v4.2 != 0)) == false)) (Value.bool (v2.2.1 && (v2.1 != v4.1))) from rfl).trans (gv_t (and_i rfl hp))))) ?_
      try simp only [List.set_cons_zero, List.set_cons_succ]
      refine run_nil ?_
      refine norm_then ?_
      refine wp_cond_split (t := (((v2.2.1 != s1.1) || (v4.2 != 0)) || (v2.2.1 && (v2.1 != v4.1)))) rfl (fun c4 => ?_) (fun c4 => ?_)
      · replace H := of_pos H c4
        refine wp_seq ?_
        refine region ?_
        refine run_same (v := Value.bool false) rfl rfl (r_assign rfl) ?_
        try simp only [List.set_cons_zero, List.set_cons_succ]
        refine run_nil ?_
        refine norm_then ?_
        refine wp_ret ?_
        refine ret_then ?_
        obtain rfl := Option.some.inj H
        refine bodyPost_ret (results_1 rfl (one_tmp rfl)) rfl ?_
        exact ⟨rfl, HS9.toE⟩
      · replace H := of_neg H (nt c4)
        refine wp_skip ?_
        refine norm_then ?_
        refine wp_seq ?_
        refine region ?_
        refine run_same (v := Value.pointer (some ⟨b3, 0, none⟩)) rfl rfl (r_indexBox (o' := 0) rfl rfl Tryz.runUnderlying69 Tryz.sizeOf5 (by decide) (by decide) rfl) ?_
        refine run_same (v := Value.int .u8 a2.ve0) rfl rfl (r_loadBox rfl Tryz.isAgg5 (HS9.look 0 rfl) rfl) ?_
        refine run_same (v := Value.int .i64 (IntKind.wrap .i64 a2.ve0)) rfl rfl (r_conv rfl Tryz.runUnderlying5 Tryz.runUnderlying3) ?_
        refine run_same (v := Value.int .i64 (iRem (IntKind.wrap .i64 a2.ve0) 51)) rfl rfl (r_rem rfl rfl (by decide)) ?_
        refine run_frame (by simp only [List.set_cons_zero, List.set_cons_succ]; rfl) ?_
        refine run_same (v := Value.int .i64 (iRem (IntKind.wrap .i64 a2.ve0) 51)) rfl rfl (r_assign rfl) ?_
        try simp only [List.set_cons_zero, List.set_cons_succ]
        refine run_nil ?_
        refine norm_then ?_
        refine wp_seq ?_
        refine region ?_
        refine run_same (v := Value.pointer (some ⟨b3, 1, none⟩)) rfl rfl (r_indexBox (o' := 1) rfl rfl Tryz.runUnderlying69 Tryz.sizeOf5 (by decide) (by decide) rfl) ?_
        refine run_same (v := Value.int .u8 a2.ve1) rfl rfl (r_loadBox rfl Tryz.isAgg5 (HS9.look 0 rfl) rfl) ?_
        refine run_same (v := Value.int .i64 (IntKind.wrap .i64 a2.ve1)) rfl rfl (r_conv rfl Tryz.runUnderlying5 Tryz.runUnderlying3) ?_
        refine run_same (v := Value.int .i64 (iRem (IntKind.wrap .i64 a2.ve1) 51)) rfl rfl (r_rem rfl rfl (by decide)) ?_
        refine run_frame (by simp only [List.set_cons_zero, List.set_cons_succ]; rfl) ?_
        refine run_same (v := Value.int .i64 (iRem (IntKind.wrap .i64 a2.ve1) 51)) rfl rfl (r_assign rfl) ?_
        try simp only [List.set_cons_zero, List.set_cons_succ]
        refine run_nil ?_
        refine norm_then ?_
        refine wp_seq ?_
        refine region ?_
        refine run_same (v := Value.agg #[Value.slice A0_0 a0.vSegs.length c0_0]) rfl rfl (r_loadBoxAgg (n := 1) (vs := [Value.slice A0_0 a0.vSegs.length c0_0]) rfl Tryz.isAgg27 (HS9.look 2 rfl) Tryz.sizeOf27 rfl rfl) ?_
        refine run_same (v := Value.pointer (some ⟨b2, 0, none⟩)) rfl rfl (r_fieldBox (n := 1) (o' := 0) rfl Tryz.runUnderlying32 rfl Tryz.sizeOf2 (by decide) rfl) ?_
        refine run_same (v := Value.int .i64 a1.vAt) rfl rfl (r_loadBox rfl Tryz.isAgg2 (HS9.look 1 rfl) rfl) ?_
        refine run_same (v := Value.int .i64 (iRem (IntKind.wrap .i64 a2.ve0) 51)) rfl rfl (r_move rfl) ?_
        refine run_frame (by simp only [List.set_cons_zero, List.set_cons_succ]; rfl) ?_
        refine run_same (v := Value.int .i64 (iRem (IntKind.wrap .i64 a2.ve1) 51)) rfl rfl (r_move rfl) ?_
        refine run_same (v := Value.int .i64 (IntKind.wrap .i64 ((iRem (IntKind.wrap .i64 a2.ve0) 51) + (iRem (IntKind.wrap .i64 a2.ve1) 51)))) rfl rfl (r_bin rfl rfl rfl) ?_
        obtain ⟨v5, H5, H⟩ := of_bind H
        refine run_ex rfl rfl (does_call Tryz.call24 rfl (gives_in (h := h0) (R := (fun hx u => ∃ (Av5_0_0 : Option Addr) (cv5_0_0 : Nat), u = Value.tuple #[Value.slice Av5_0_0 v5.1.length cv5_0_0, Value.bool v5.2.1, Value.int .i64 v5.2.2] ∧ v5.1.length ≤ cv5_0_0 ∧ Rd (Kd.int .u8) hx Av5_0_0 v5.1)) (Ext.rfl' w9) ((image_Read.calls k a0 a1.vAt (IntKind.wrap .i64 ((iRem (IntKind.wrap .i64 a2.ve0) 51) + (iRem (IntKind.wrap .i64 a2.ve1) 51))) A0_0 c0_0 HS9.sees hr0_0 hc0_0 H5).mono ?_)) rfl) ?_
        · rintro _ _ ⟨h1, Av5_0_0, cv5_0_0, rfl, hcv5_0_0, hrv5_0_0, g, ss, x⟩
          exact ⟨h1, _, rfl, ⟨Av5_0_0, cv5_0_0, rfl, hcv5_0_0, hrv5_0_0⟩, g, ss, x⟩
        rintro w10 _ hE8 ⟨h1, ⟨Av5_0_0, cv5_0_0, rfl, hcv5_0_0, hrv5_0_0⟩, gr1, se1⟩
        have HS10 := HS9.view hE8 gr1 se1
        refine run_same (v := Value.tuple #[Value.slice Av5_0_0 v5.1.length cv5_0_0, Value.bool v5.2.1, Value.int .i64 v5.2.2]) rfl rfl (r_move rfl) ?_
        refine run_frame (by simp only [List.set_cons_zero, List.set_cons_succ]; rfl) ?_
        refine run_same (v := Value.slice Av5_0_0 v5.1.length cv5_0_0) rfl rfl (r_extract rfl rfl) ?_
        refine run_same (v := Value.bool v5.2.1) rfl rfl (r_extract rfl rfl) ?_
        refine run_same (v := Value.int .i64 v5.2.2) rfl rfl (r_extract rfl rfl) ?_
        refine run_same (v := Value.slice Av5_0_0 v5.1.length cv5_0_0) rfl rfl (r_assign rfl) ?_
        refine run_frame (by simp only [List.set_cons_zero, List.set_cons_succ]; rfl) ?_
        refine run_same (v := Value.bool v5.2.1) rfl rfl (r_assign rfl) ?_
        refine run_same (v := Value.int .i64 v5.2.2) rfl rfl (r_assign rfl) ?_
        try simp only [List.set_cons_zero, List.set_cons_succ]
        refine run_nil ?_
        refine norm_then ?_
        refine wp_seq ?_
        refine region ?_
        refine run_same (v := Value.agg #[Value.slice A0_0 a0.vSegs.length c0_0]) rfl rfl (r_loadBoxAgg (n := 1) (vs := [Value.slice A0_0 a0.vSegs.length c0_0]) rfl Tryz.isAgg27 (HS10.look 2 rfl) Tryz.sizeOf27 rfl rfl) ?_
        refine run_same (v := Value.pointer (some ⟨b2, 0, none⟩)) rfl rfl (r_fieldBox (n := 1) (o' := 0) rfl Tryz.runUnderlying32 rfl Tryz.sizeOf2 (by decide) rfl) ?_
        refine run_same (v := Value.int .i64 a1.vAt) rfl rfl (r_loadBox rfl Tryz.isAgg2 (HS10.look 1 rfl) rfl) ?_
        refine run_same (v := Value.int .i64 (iRem (IntKind.wrap .i64 a2.ve0) 51)) rfl rfl (r_move rfl) ?_
        refine run_frame (by simp only [List.set_cons_zero, List.set_cons_succ]; rfl) ?_
        obtain ⟨v6, H6, H⟩ := of_bind H
        refine run_ex rfl rfl (does_call Tryz.call24 rfl (gives_in (h := h1) (R := (fun hx u => ∃ (Av6_0_0 : Option Addr) (cv6_0_0 : Nat), u = Value.tuple #[Value.slice Av6_0_0 v6.1.length cv6_0_0, Value.bool v6.2.1, Value.int .i64 v6.2.2] ∧ v6.1.length ≤ cv6_0_0 ∧ Rd (Kd.int .u8) hx Av6_0_0 v6.1)) (Ext.rfl' w10) ((image_Read.calls k a0 a1.vAt (iRem (IntKind.wrap .i64 a2.ve0) 51) A0_0 c0_0 HS10.sees (hr0_0.ext HS10.sub) hc0_0 H6).mono ?_)) rfl) ?_
        · rintro _ _ ⟨h1, Av6_0_0, cv6_0_0, rfl, hcv6_0_0, hrv6_0_0, g, ss, x⟩
          exact ⟨h1, _, rfl, ⟨Av6_0_0, cv6_0_0, rfl, hcv6_0_0, hrv6_0_0⟩, g, ss, x⟩
        rintro w11 _ hE9 ⟨h2, ⟨Av6_0_0, cv6_0_0, rfl, hcv6_0_0, hrv6_0_0⟩, gr2, se2⟩
        have HS11 := HS10.view hE9 gr2 se2
        replace hrv5_0_0 : Rd (Kd.int .u8) h2 Av5_0_0 v5.1 := hrv5_0_0.ext gr2.1
        refine run_same (v := Value.tuple #[Value.slice Av6_0_0 v6.1.length cv6_0_0, Value.bool v6.2.1, Value.int .i64 v6.2.2]) rfl rfl (r_move rfl) ?_
        refine run_same (v := Value.slice Av6_0_0 v6.1.length cv6_0_0) rfl rfl (r_extract rfl rfl) ?_
        refine run_same (v := Value.bool v6.2.1) rfl rfl (r_extract rfl rfl) ?_
        refine run_frame (by simp only [List.set_cons_zero, List.set_cons_succ]; rfl) ?_
        refine run_same (v := Value.int .i64 v6.2.2) rfl rfl (r_extract rfl rfl) ?_
        refine run_same (v := Value.slice Av6_0_0 v6.1.length cv6_0_0) rfl rfl (r_assign rfl) ?_
        refine run_same (v := Value.bool v6.2.1) rfl rfl (r_assign rfl) ?_
        refine run_same (v := Value.int .i64 v6.2.2) rfl rfl (r_assign rfl) ?_
        try simp only [List.set_cons_zero, List.set_cons_succ]
        refine run_nil ?_
        refine norm_then ?_
        refine wp_seq ?_
        refine region ?_
        refine run_same (v := Value.agg #[Value.slice A0_0 a0.vSegs.length c0_0]) rfl rfl (r_loadBoxAgg (n := 1) (vs := [Value.slice A0_0 a0.vSegs.length c0_0]) rfl Tryz.isAgg27 (HS11.look 2 rfl) Tryz.sizeOf27 rfl rfl) ?_
        refine run_same (v := Value.pointer (some ⟨b2, 0, none⟩)) rfl rfl (r_fieldBox (n := 1) (o' := 0) rfl Tryz.runUnderlying32 rfl Tryz.sizeOf2 (by decide) rfl) ?_
        refine run_same (v := Value.int .i64 a1.vAt) rfl rfl (r_loadBox rfl Tryz.isAgg2 (HS11.look 1 rfl) rfl) ?_
        refine run_same (v := Value.int .i64 (iRem (IntKind.wrap .i64 a2.ve0) 51)) rfl rfl (r_move rfl) ?_
        refine run_frame (by simp only [List.set_cons_zero, List.set_cons_succ]; rfl) ?_
        refine run_same (v := Value.int .i64 (IntKind.wrap .i64 (a1.vAt + (iRem (IntKind.wrap .i64 a2.ve0) 51)))) rfl rfl (r_bin rfl rfl rfl) ?_
        refine run_same (v := Value.int .i64 (iRem (IntKind.wrap .i64 a2.ve1) 51)) rfl rfl (r_move rfl) ?_
        obtain ⟨v7, H7, H⟩ := of_bind H
        refine run_ex rfl rfl (does_call Tryz.call24 rfl (gives_in (h := h2) (R := (fun hx u => ∃ (Av7_0_0 : Option Addr) (cv7_0_0 : Nat), u = Value.tuple #[Value.slice Av7_0_0 v7.1.length cv7_0_0, Value.bool v7.2.1, Value.int .i64 v7.2.2] ∧ v7.1.length ≤ cv7_0_0 ∧ Rd (Kd.int .u8) hx Av7_0_0 v7.1)) (Ext.rfl' w11) ((image_Read.calls k a0 (IntKind.wrap .i64 (a1.vAt + (iRem (IntKind.wrap .i64 a2.ve0) 51))) (iRem (IntKind.wrap .i64 a2.ve1) 51) A0_0 c0_0 HS11.sees (hr0_0.ext HS11.sub) hc0_0 H7).mono ?_)) rfl) ?_
        · rintro _ _ ⟨h1, Av7_0_0, cv7_0_0, rfl, hcv7_0_0, hrv7_0_0, g, ss, x⟩
          exact ⟨h1, _, rfl, ⟨Av7_0_0, cv7_0_0, rfl, hcv7_0_0, hrv7_0_0⟩, g, ss, x⟩
        rintro w12 _ hE10 ⟨h3, ⟨Av7_0_0, cv7_0_0, rfl, hcv7_0_0, hrv7_0_0⟩, gr3, se3⟩
        have HS12 := HS11.view hE10 gr3 se3
        replace hrv5_0_0 : Rd (Kd.int .u8) h3 Av5_0_0 v5.1 := hrv5_0_0.ext gr3.1
        replace hrv6_0_0 : Rd (Kd.int .u8) h3 Av6_0_0 v6.1 := hrv6_0_0.ext gr3.1
        refine run_same (v := Value.tuple #[Value.slice Av7_0_0 v7.1.length cv7_0_0, Value.bool v7.2.1, Value.int .i64 v7.2.2]) rfl rfl (r_move rfl) ?_
        refine run_frame (by simp only [List.set_cons_zero, List.set_cons_succ]; rfl) ?_
        refine run_same (v := Value.slice Av7_0_0 v7.1.length cv7_0_0) rfl rfl (r_extract rfl rfl) ?_
        refine run_same (v := Value.bool v7.2.1) rfl rfl (r_extract rfl rfl) ?_
        refine run_same (v := Value.int .i64 v7.2.2) rfl rfl (r_extract rfl rfl) ?_
        refine run_same (v := Value.slice Av7_0_0 v7.1.length cv7_0_0) rfl rfl (r_assign rfl) ?_
        refine run_frame (by simp only [List.set_cons_zero, List.set_cons_succ]; rfl) ?_
        refine run_same (v := Value.bool v7.2.1) rfl rfl (r_assign rfl) ?_
        refine run_same (v := Value.int .i64 v7.2.2) rfl rfl (r_assign rfl) ?_
        try simp only [List.set_cons_zero, List.set_cons_succ]
        refine run_nil ?_
        refine norm_then ?_
        refine wp_seq ?_
        refine wp_seq ?_
        refine region ?_
        refine run_same (v := Value.int .i64 v5.2.2) rfl rfl (r_move rfl) ?_
        refine run_same (v := Value.bool (v5.2.2 != 0)) rfl rfl (r_bin rfl rfl rfl) ?_
        refine run_same (v := Value.bool (v5.2.2 != 0)) rfl rfl (r_move rfl) ?_
        refine run_g_same (b := (v5.2.2 != 0)) (c := true) (v := Value.int .i64 v6.2.2) rfl rfl rfl rfl (fun hg => (r_move rfl)) ?_
        refine run_frame (by simp only [List.set_cons_zero, List.set_cons_succ]; rfl) ?_
        refine run_g_same (b := (v5.2.2 != 0)) (c := true) (v := Value.bool (v6.2.2 != 0)) rfl rfl rfl rfl (fun hg => (r_bin ((show _ = gv (true && ((v5.2.2 != 0) == false)) (Value.int .i64 v6.2.2) from rfl).trans (gv_t hg)) rfl rfl)) ?_
        refine run_same (v := Value.bool ((v5.2.2 != 0) || (v6.2.2 != 0))) rfl rfl (r_pick_or rfl rfl (fun hp => ((show _ = gv (true && ((v5.2.2 != 0) == false)) (Value.bool (v6.2.2 != 0)) from rfl).trans (gv_t (and_i rfl hp))))) ?_
        refine run_same (v := Value.bool ((v5.2.2 != 0) || (v6.2.2 != 0))) rfl rfl (r_move rfl) ?_
        refine run_g_same (b := ((v5.2.2 != 0) || (v6.2.2 != 0))) (c := true) (v := Value.int .i64 v7.2.2) rfl rfl rfl rfl (fun hg => (r_move rfl)) ?_
        refine run_frame (by simp only [List.set_cons_zero, List.set_cons_succ]; rfl) ?_
        refine run_g_same (b := ((v5.2.2 != 0) || (v6.2.2 != 0))) (c := true) (v := Value.bool (v7.2.2 != 0)) rfl rfl rfl rfl (fun hg => (r_bin ((show _ = gv (true && (((v5.2.2 != 0) || (v6.2.2 != 0)) == false)) (Value.int .i64 v7.2.2) from rfl).trans (gv_t hg)) rfl rfl)) ?_
        refine run_same (v := Value.bool (((v5.2.2 != 0) || (v6.2.2 != 0)) || (v7.2.2 != 0))) rfl rfl (r_pick_or rfl rfl (fun hp => ((show _ = gv (true && (((v5.2.2 != 0) || (v6.2.2 != 0)) == false)) (Value.bool (v7.2.2 != 0)) from rfl).trans (gv_t (and_i rfl hp))))) ?_
        refine run_same (v := Value.bool (((v5.2.2 != 0) || (v6.2.2 != 0)) || (v7.2.2 != 0))) rfl rfl (r_move rfl) ?_
        refine run_g_same (b := (((v5.2.2 != 0) || (v6.2.2 != 0)) || (v7.2.2 != 0))) (c := true) (v := Value.bool v5.2.1) rfl rfl rfl rfl (fun hg => (r_move rfl)) ?_
        refine run_frame (by simp only [List.set_cons_zero, List.set_cons_succ]; rfl) ?_
        refine run_g_same (b := (((v5.2.2 != 0) || (v6.2.2 != 0)) || (v7.2.2 != 0))) (c := true) (v := Value.bool v6.2.1) rfl rfl rfl rfl (fun hg => (r_move rfl)) ?_
        refine run_g_same (b := (((v5.2.2 != 0) || (v6.2.2 != 0)) || (v7.2.2 != 0))) (c := true) (v := Value.bool v6.2.1) rfl rfl rfl rfl (fun hg => (r_move ((show _ = gv (true && ((((v5.2.2 != 0) || (v6.2.2 != 0)) || (v7.2.2 != 0)) == false)) (Value.bool v6.2.1) from rfl).trans (gv_t hg)))) ?_
        refine run_g_same (b := v6.2.1) (c := (true && ((((v5.2.2 != 0) || (v6.2.2 != 0)) || (v7.2.2 != 0)) == false))) (v := Value.bool v7.2.1) rfl rfl rfl rfl (fun hg => (r_move rfl)) ?_
        refine run_g_same (b := (((v5.2.2 != 0) || (v6.2.2 != 0)) || (v7.2.2 != 0))) (c := true) (v := Value.bool (v6.2.1 && v7.2.1)) rfl rfl rfl rfl (fun hg => (r_pick_and ((show _ = gv (true && ((((v5.2.2 != 0) || (v6.2.2 != 0)) || (v7.2.2 != 0)) == false)) (Value.bool v6.2.1) from rfl).trans (gv_t hg)) (fun hp => ((show _ = gv ((true && ((((v5.2.2 != 0) || (v6.2.2 != 0)) || (v7.2.2 != 0)) == false)) && (v6.2.1 == true)) (Value.bool v7.2.1) from rfl).trans (gv_t (and_i hg hp)))) rfl)) ?_
        refine run_frame (by simp only [List.set_cons_zero, List.set_cons_succ]; rfl) ?_
        refine run_g_same (b := (((v5.2.2 != 0) || (v6.2.2 != 0)) || (v7.2.2 != 0))) (c := true) (v := Value.bool (v5.2.1 != (v6.2.1 && v7.2.1))) rfl rfl rfl rfl (fun hg => (r_boolneq ((show _ = gv (true && ((((v5.2.2 != 0) || (v6.2.2 != 0)) || (v7.2.2 != 0)) == false)) (Value.bool v5.2.1) from rfl).trans (gv_t hg)) ((show _ = gv (true && ((((v5.2.2 != 0) || (v6.2.2 != 0)) || (v7.2.2 != 0)) == false)) (Value.bool (v6.2.1 && v7.2.1)) from rfl).trans (gv_t hg)) Tryz.runUnderlying4)) ?_
        refine run_same (v := Value.bool ((((v5.2.2 != 0) || (v6.2.2 != 0)) || (v7.2.2 != 0)) || (v5.2.1 != (v6.2.1 && v7.2.1)))) rfl rfl (r_pick_or rfl rfl (fun hp => ((show _ = gv (true && ((((v5.2.2 != 0) || (v6.2.2 != 0)) || (v7.2.2 != 0)) == false)) (Value.bool (v5.2.1 != (v6.2.1 && v7.2.1))) from rfl).trans (gv_t (and_i rfl hp))))) ?_
        try simp only [List.set_cons_zero, List.set_cons_succ]
        refine run_nil ?_
        refine norm_then ?_
        refine wp_cond_split (t := ((((v5.2.2 != 0) || (v6.2.2 != 0)) || (v7.2.2 != 0)) || (v5.2.1 != (v6.2.1 && v7.2.1)))) rfl (fun c5 => ?_) (fun c5 => ?_)
        · replace H := of_pos H c5
          refine wp_seq ?_
          refine region ?_
          refine run_same (v := Value.bool false) rfl rfl (r_assign rfl) ?_
          try simp only [List.set_cons_zero, List.set_cons_succ]
          refine run_nil ?_
          refine norm_then ?_
          refine wp_ret ?_
          refine ret_then ?_
          obtain rfl := Option.some.inj H
          refine bodyPost_ret (results_1 rfl (one_tmp rfl)) rfl ?_
          exact ⟨rfl, HS12.toE⟩
        · replace H := of_neg H (nt c5)
          refine wp_skip ?_
          refine norm_then ?_
          refine wp_seq ?_
          refine region ?_
          refine run_same (v := Value.bool v1) rfl rfl (r_move rfl) ?_
          refine run_same (v := Value.bool v1) rfl rfl (r_move rfl) ?_
          refine run_g_same (b := v1) (c := true) (v := Value.bool v5.2.1) rfl rfl rfl rfl (fun hg => (r_move rfl)) ?_
          refine run_g_same (b := v1) (c := true) (v := Value.bool (!v5.2.1)) rfl rfl rfl rfl (fun hg => (r_not ((show _ = gv (true && (v1 == true)) (Value.bool v5.2.1) from rfl).trans (gv_t hg)))) ?_
          refine run_frame (by simp only [List.set_cons_zero, List.set_cons_succ]; rfl) ?_
          refine run_g_same (b := v1) (c := true) (v := Value.bool (!v5.2.1)) rfl rfl rfl rfl (fun hg => (r_move ((show _ = gv (true && (v1 == true)) (Value.bool (!v5.2.1)) from rfl).trans (gv_t hg)))) ?_
          refine run_g_same (b := (!v5.2.1)) (c := (true && (v1 == true))) (v := Value.slice Av5_0_0 v5.1.length cv5_0_0) rfl rfl rfl rfl (fun hg => (r_move rfl)) ?_
          refine run_g_same (b := (!v5.2.1)) (c := (true && (v1 == true))) (v := Value.string (strOf v5.1)) rfl rfl rfl rfl (fun hg => (r_b2s ((show _ = gv ((true && (v1 == true)) && ((!v5.2.1) == false)) (Value.slice Av5_0_0 v5.1.length cv5_0_0) from rfl).trans (gv_t hg)) Tryz.runUnderlying42 Tryz.runUnderlying9 Tryz.runUnderlying5 HS12.sees hrv5_0_0)) ?_
          refine run_g_same (b := (!v5.2.1)) (c := (true && (v1 == true))) (v := Value.slice Av6_0_0 v6.1.length cv6_0_0) rfl rfl rfl rfl (fun hg => (r_move rfl)) ?_
          refine run_frame (by simp only [List.set_cons_zero, List.set_cons_succ]; rfl) ?_
          refine run_g_same (b := (!v5.2.1)) (c := (true && (v1 == true))) (v := Value.string (strOf v6.1)) rfl rfl rfl rfl (fun hg => (r_b2s ((show _ = gv ((true && (v1 == true)) && ((!v5.2.1) == false)) (Value.slice Av6_0_0 v6.1.length cv6_0_0) from rfl).trans (gv_t hg)) Tryz.runUnderlying42 Tryz.runUnderlying9 Tryz.runUnderlying5 HS12.sees hrv6_0_0)) ?_
          refine run_g_same (b := (!v5.2.1)) (c := (true && (v1 == true))) (v := Value.slice Av7_0_0 v7.1.length cv7_0_0) rfl rfl rfl rfl (fun hg => (r_move rfl)) ?_
          refine run_g_same (b := (!v5.2.1)) (c := (true && (v1 == true))) (v := Value.string (strOf v7.1)) rfl rfl rfl rfl (fun hg => (r_b2s ((show _ = gv ((true && (v1 == true)) && ((!v5.2.1) == false)) (Value.slice Av7_0_0 v7.1.length cv7_0_0) from rfl).trans (gv_t hg)) Tryz.runUnderlying42 Tryz.runUnderlying9 Tryz.runUnderlying5 HS12.sees hrv7_0_0)) ?_
          obtain ⟨hb7, H⟩ := of_ite H
          refine run_g_same (b := (!v5.2.1)) (c := (true && (v1 == true))) (v := Value.string ((strOf v6.1) ++ (strOf v7.1))) rfl rfl rfl rfl (fun hg => (r_stradd ((show _ = gv ((true && (v1 == true)) && ((!v5.2.1) == false)) (Value.string (strOf v6.1)) from rfl).trans (gv_t hg)) ((show _ = gv ((true && (v1 == true)) && ((!v5.2.1) == false)) (Value.string (strOf v7.1)) from rfl).trans (gv_t hg)) (hb7 hg))) ?_
          refine run_frame (by simp only [List.set_cons_zero, List.set_cons_succ]; rfl) ?_
          refine run_g_same (b := (!v5.2.1)) (c := (true && (v1 == true))) (v := Value.bool (strEq (strOf v5.1) ((strOf v6.1) ++ (strOf v7.1)))) rfl rfl rfl rfl (fun hg => (r_streql ((show _ = gv ((true && (v1 == true)) && ((!v5.2.1) == false)) (Value.string (strOf v5.1)) from rfl).trans (gv_t hg)) ((show _ = gv ((true && (v1 == true)) && ((!v5.2.1) == false)) (Value.string ((strOf v6.1) ++ (strOf v7.1))) from rfl).trans (gv_t hg)))) ?_
          refine run_g_same (b := v1) (c := true) (v := Value.bool ((!v5.2.1) || (strEq (strOf v5.1) ((strOf v6.1) ++ (strOf v7.1))))) rfl rfl rfl rfl (fun hg => (r_pick_or ((show _ = gv (true && (v1 == true)) (Value.bool (!v5.2.1)) from rfl).trans (gv_t hg)) rfl (fun hp => ((show _ = gv ((true && (v1 == true)) && ((!v5.2.1) == false)) (Value.bool (strEq (strOf v5.1) ((strOf v6.1) ++ (strOf v7.1)))) from rfl).trans (gv_t (and_i hg hp)))))) ?_
          refine run_same (v := Value.bool (v1 && ((!v5.2.1) || (strEq (strOf v5.1) ((strOf v6.1) ++ (strOf v7.1)))))) rfl rfl (r_pick_and rfl (fun hp => ((show _ = gv (true && (v1 == true)) (Value.bool ((!v5.2.1) || (strEq (strOf v5.1) ((strOf v6.1) ++ (strOf v7.1))))) from rfl).trans (gv_t (and_i rfl hp)))) rfl) ?_
          refine run_same (v := Value.bool (v1 && ((!v5.2.1) || (strEq (strOf v5.1) ((strOf v6.1) ++ (strOf v7.1)))))) rfl rfl (r_assign rfl) ?_
          try simp only [List.set_cons_zero, List.set_cons_succ]
          refine run_nil ?_
          refine norm_then ?_
          refine wp_ret ?_
          obtain rfl := Option.some.inj H
          refine bodyPost_ret (results_1 rfl (one_tmp rfl)) rfl ?_
          exact ⟨rfl, HS12.toE⟩

end Go.Proofs.YtecpbadkdpbkpaaGreatDoor
