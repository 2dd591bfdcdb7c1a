/- Parts of a proof, merged by program: G0 SV F10 C0 C1 E1 F46 F47 F15 F48 F16 F49 Shelf F50 F17 F51 F52 F18 F5 Q2. The walks (each function once) and the plain laws; no condition of their own. -/
import Derived.Test.YtecpbadkdpbkpaaGreatDoorNam1
import Derived.Test.YtecpbadkdpbkpaaGreatDoorNam3
import Derived.Test.YtecpbadkdpbkpaaGreatDoorProg
import Derived.KernelRfl
import Derived.Test.YtecpbadkdpbkpaaGreatDoorCards
import Derived.Test.YtecpbadkdpbkpaaGreatDoorTie
import Derived.WalkKit
import Derived.ProofKit
import Derived.OpenShut
import Derived.Deep.DeepHandedRow
import Derived.Lib.LaidTab
import Derived.Shelf.Strconv.Itoa0
import Derived.Shelf.Strconv.Itoa1
import Derived.Shelf.LaysM
import Derived.Shelf.Strconv.Itoa2
import Derived.Shelf.Strconv.Itoa3
import Derived.Shelf.Strconv.Itoa4
set_option linter.unusedVariables false
set_option linter.unusedSimpArgs false
namespace Go.Proofs.YtecpbadkdpbkpaaGreatDoor
open Go.RowKit Go.M
theorem hmix : Tryz.prog.follows .mixedOrders = true := by kernel_rfl
structure api_Sym where
  vName : ByteArray
  vAt : Int
  vSize : Int
def z_api_Sym : api_Sym := ⟨ByteArray.empty, 0, 0⟩
def k_api_Sym : Kd api_Sym := Kd.iso (Kd.pair Kd.str (Kd.pair (Kd.int .i64) (Kd.int .i64))) fun x => (x.vName, (x.vAt, x.vSize))
theorem one_api_Sym : One k_api_Sym := one_iso (one_pair one_str (one_pair one_int one_int))
def e_api_Sym (x : api_Sym) : Value := .agg #[.string x.vName, .int .i64 x.vAt, .int .i64 x.vSize]
theorem ld_api_Sym {h : View} {A : Option Addr} {xs : List api_Sym} {i : Int} (hr : Rd k_api_Sym h A xs) (h0 : 0 ≤ i) (h1 : i < xs.length) :
    ∃ ad, A = some ad ∧ VCells h (ad.add (i.toNat * 3)) [.string (rd z_api_Sym xs i).vName, .int .i64 (rd z_api_Sym xs i).vAt, .int .i64 (rd z_api_Sym xs i).vSize] := by
  obtain ⟨ad, cs, e, hK, hc⟩ := hr.get z_api_Sym h0 h1
  obtain ⟨_, _, rfl, rfl, ⟨_, _, rfl, rfl, rfl⟩⟩ := hK
  exact ⟨ad, e, hc⟩

end Go.Proofs.YtecpbadkdpbkpaaGreatDoor
/- taplinelaw09.sane, a closed call: shown by running it (the kernel evaluates), in parts. -/
namespace Go.Proofs.YtecpbadkdpbkpaaGreatDoor
open Go.V
noncomputable section
def gcells : List (Nat × List Value) := [
  /- internal_strconv_uint64pow10 -/ (0, [.int .u64 1, .int .u64 10, .int .u64 100, .int .u64 1000, .int .u64 10000, .int .u64 100000, .int .u64 1000000, .int .u64 10000000, .int .u64 100000000, .int .u64 1000000000, .int .u64 10000000000, .int .u64 100000000000, .int .u64 1000000000000, .int .u64 10000000000000, .int .u64 100000000000000, .int .u64 1000000000000000, .int .u64 10000000000000000, .int .u64 100000000000000000, .int .u64 1000000000000000000, .int .u64 10000000000000000000]),
  /- math_bits_deBruijn32tab -/ (1, [.int .u8 0, .int .u8 1, .int .u8 28, .int .u8 2, .int .u8 29, .int .u8 14, .int .u8 24, .int .u8 3, .int .u8 30, .int .u8 22, .int .u8 20, .int .u8 15, .int .u8 25, .int .u8 17, .int .u8 4, .int .u8 8, .int .u8 31, .int .u8 27, .int .u8 13, .int .u8 23, .int .u8 21, .int .u8 19, .int .u8 16, .int .u8 7, .int .u8 26, .int .u8 12, .int .u8 18, .int .u8 6, .int .u8 11, .int .u8 5, .int .u8 10, .int .u8 9]),
  /- math_bits_deBruijn64tab -/ (2, [.int .u8 0, .int .u8 1, .int .u8 56, .int .u8 2, .int .u8 57, .int .u8 49, .int .u8 28, .int .u8 3, .int .u8 61, .int .u8 58, .int .u8 42, .int .u8 50, .int .u8 38, .int .u8 29, .int .u8 17, .int .u8 4, .int .u8 62, .int .u8 47, .int .u8 59, .int .u8 36, .int .u8 45, .int .u8 43, .int .u8 51, .int .u8 22, .int .u8 53, .int .u8 39, .int .u8 33, .int .u8 30, .int .u8 24, .int .u8 18, .int .u8 12, .int .u8 5, .int .u8 63, .int .u8 55, .int .u8 48, .int .u8 27, .int .u8 60, .int .u8 41, .int .u8 37, .int .u8 16, .int .u8 46, .int .u8 35, .int .u8 44, .int .u8 21, .int .u8 52, .int .u8 32, .int .u8 23, .int .u8 11, .int .u8 54, .int .u8 26, .int .u8 40, .int .u8 15, .int .u8 34, .int .u8 20, .int .u8 31, .int .u8 10, .int .u8 25, .int .u8 14, .int .u8 19, .int .u8 9, .int .u8 13, .int .u8 8, .int .u8 7, .int .u8 6])]
def gheap : Tr := (.node (some (.cells ⟨[.int .u64 1, .int .u64 10, .int .u64 100, .int .u64 1000, .int .u64 10000, .int .u64 100000, .int .u64 1000000, .int .u64 10000000, .int .u64 100000000, .int .u64 1000000000, .int .u64 10000000000, .int .u64 100000000000, .int .u64 1000000000000, .int .u64 10000000000000, .int .u64 100000000000000, .int .u64 1000000000000000, .int .u64 10000000000000000, .int .u64 100000000000000000, .int .u64 1000000000000000000, .int .u64 10000000000000000000]⟩ 0 (0, 1))) (.node (some (.cells ⟨[.int .u8 0, .int .u8 1, .int .u8 28, .int .u8 2, .int .u8 29, .int .u8 14, .int .u8 24, .int .u8 3, .int .u8 30, .int .u8 22, .int .u8 20, .int .u8 15, .int .u8 25, .int .u8 17, .int .u8 4, .int .u8 8, .int .u8 31, .int .u8 27, .int .u8 13, .int .u8 23, .int .u8 21, .int .u8 19, .int .u8 16, .int .u8 7, .int .u8 26, .int .u8 12, .int .u8 18, .int .u8 6, .int .u8 11, .int .u8 5, .int .u8 10, .int .u8 9]⟩ 0 (0, 1))) .leaf .leaf) (.node (some (.cells ⟨[.int .u8 0, .int .u8 1, .int .u8 56, .int .u8 2, .int .u8 57, .int .u8 49, .int .u8 28, .int .u8 3, .int .u8 61, .int .u8 58, .int .u8 42, .int .u8 50, .int .u8 38, .int .u8 29, .int .u8 17, .int .u8 4, .int .u8 62, .int .u8 47, .int .u8 59, .int .u8 36, .int .u8 45, .int .u8 43, .int .u8 51, .int .u8 22, .int .u8 53, .int .u8 39, .int .u8 33, .int .u8 30, .int .u8 24, .int .u8 18, .int .u8 12, .int .u8 5, .int .u8 63, .int .u8 55, .int .u8 48, .int .u8 27, .int .u8 60, .int .u8 41, .int .u8 37, .int .u8 16, .int .u8 46, .int .u8 35, .int .u8 44, .int .u8 21, .int .u8 52, .int .u8 32, .int .u8 23, .int .u8 11, .int .u8 54, .int .u8 26, .int .u8 40, .int .u8 15, .int .u8 34, .int .u8 20, .int .u8 31, .int .u8 10, .int .u8 25, .int .u8 14, .int .u8 19, .int .u8 9, .int .u8 13, .int .u8 8, .int .u8 7, .int .u8 6]⟩ 0 (0, 1))) .leaf .leaf))

theorem gheap_eq : gheap = ofList gcells := by kernel_rfl
theorem gcells_ok : laidOk Tryz.prog gcells = true := by kernel_rfl
theorem gsize : Tryz.prog.globals.size = 3 := by kernel_rfl
theorem vmix : Tryz.prog.follows .mixedOrders = true := by kernel_rfl
theorem vnames : NamesOk Tryz.prog := namesOk_of (by kernel_rfl)
abbrev vS0 : VS := ⟨.leaf, gheap, 3, [], []⟩
def vS1 : VS := ⟨.node none (.node none (.node (some (.pointer (some ⟨79, 0, none⟩))) (.leaf) (.leaf)) (.leaf)) (.node (some (.pointer (some ⟨75, 0, none⟩))) (.leaf) (.leaf)), .node (some (.cells ⟨[.int .u64 1, .int .u64 10, .int .u64 100, .int .u64 1000, .int .u64 10000, .int .u64 100000, .int .u64 1000000, .int .u64 10000000, .int .u64 100000000, .int .u64 1000000000, .int .u64 10000000000, .int .u64 100000000000, .int .u64 1000000000000, .int .u64 10000000000000, .int .u64 100000000000000, .int .u64 1000000000000000, .int .u64 10000000000000000, .int .u64 100000000000000000, .int .u64 1000000000000000000, .int .u64 10000000000000000000]⟩ 0 (0, 1))) (.node (some (.cells ⟨[.int .u8 0, .int .u8 1, .int .u8 28, .int .u8 2, .int .u8 29, .int .u8 14, .int .u8 24, .int .u8 3, .int .u8 30, .int .u8 22, .int .u8 20, .int .u8 15, .int .u8 25, .int .u8 17, .int .u8 4, .int .u8 8, .int .u8 31, .int .u8 27, .int .u8 13, .int .u8 23, .int .u8 21, .int .u8 19, .int .u8 16, .int .u8 7, .int .u8 26, .int .u8 12, .int .u8 18, .int .u8 6, .int .u8 11, .int .u8 5, .int .u8 10, .int .u8 9]⟩ 0 (0, 1))) (.node none (.node none (.node none (.node none (.node (some (.cells ⟨[]⟩ 68 (0, 0))) (.leaf) (.leaf)) (.leaf)) (.node none (.node (some (.cells ⟨[.slice (some ⟨78, 0, none⟩) 4 9]⟩ 24 (0, 0))) (.leaf) (.leaf)) (.leaf))) (.leaf)) (.node none (.node none (.node (some (.cells ⟨[.int .i64 0, .int .i64 0, .int .i64 1]⟩ 188 (0, 0))) (.node (some (.cells ⟨[.int .i64 0, .int .i64 0, .int .i64 0, .int .i64 0, .int .i64 0, .int .i64 0, .int .i64 0, .int .i64 0, .int .i64 0, .int .i64 0, .int .i64 0, .int .i64 0, .int .i64 (-1)]⟩ 152 (0, 0))) (.leaf) (.leaf)) (.leaf)) (.leaf)) (.node none (.node none (.node (some (.cells ⟨[.slice (some ⟨65, 0, none⟩) 1 131084, .slice (some ⟨67, 0, none⟩) 1 131098, .slice (some ⟨69, 0, none⟩) 1 131076, .slice (some ⟨32, 0, none⟩) 1 131078, .slice (some ⟨35, 0, none⟩) 1 131078, .int .i64 1, .slice (some ⟨74, 0, none⟩) 1 131074, .slice (some ⟨70, 0, none⟩) 0 1, .slice none 0 0, .int .i64 0]⟩ 99 (0, 0))) (.leaf) (.leaf)) (.leaf)) (.leaf)))) (.node none (.node none (.node none (.node none (.node (some (.cells ⟨[.string ⟨#[105, 110, 105, 116]⟩, .slice (some ⟨61, 0, none⟩) 1 131074, .slice (some ⟨62, 0, none⟩) 64 8388610, .slice (some ⟨63, 0, none⟩) 0 1, .bool false, .int .i64 0]⟩ 147 (0, 0))) (.leaf) (.leaf)) (.leaf)) (.leaf)) (.leaf)) (.node none (.node none (.node none (.node (some (.cells ⟨[.int .i64 0, .int .i64 1]⟩ 145 (0, 0))) (.leaf) (.leaf)) (.leaf)) (.leaf)) (.node none (.node none (.node (some (.cells ⟨[.string ⟨#[112, 95, 112, 105, 100]⟩, .int .i64 0, .int .i64 4, .string ⟨#[112, 95, 110, 97, 109, 101]⟩, .int .i64 2, .int .i64 8]⟩ 129 (0, 0))) (.leaf) (.leaf)) (.leaf)) (.node (some (.cells ⟨[.int .i64 4]⟩ 3 (0, 0))) (.leaf) (.leaf)))))) (.node (some (.cells ⟨[.int .u8 0, .int .u8 1, .int .u8 56, .int .u8 2, .int .u8 57, .int .u8 49, .int .u8 28, .int .u8 3, .int .u8 61, .int .u8 58, .int .u8 42, .int .u8 50, .int .u8 38, .int .u8 29, .int .u8 17, .int .u8 4, .int .u8 62, .int .u8 47, .int .u8 59, .int .u8 36, .int .u8 45, .int .u8 43, .int .u8 51, .int .u8 22, .int .u8 53, .int .u8 39, .int .u8 33, .int .u8 30, .int .u8 24, .int .u8 18, .int .u8 12, .int .u8 5, .int .u8 63, .int .u8 55, .int .u8 48, .int .u8 27, .int .u8 60, .int .u8 41, .int .u8 37, .int .u8 16, .int .u8 46, .int .u8 35, .int .u8 44, .int .u8 21, .int .u8 52, .int .u8 32, .int .u8 23, .int .u8 11, .int .u8 54, .int .u8 26, .int .u8 40, .int .u8 15, .int .u8 34, .int .u8 20, .int .u8 31, .int .u8 10, .int .u8 25, .int .u8 14, .int .u8 19, .int .u8 9, .int .u8 13, .int .u8 8, .int .u8 7, .int .u8 6]⟩ 0 (0, 1))) (.node none (.node none (.node none (.node (some (.cells ⟨[.int .i64 (-1), .int .i64 0, .slice (some ⟨38, 0, none⟩) 1 131074]⟩ 185 (0, 0))) (.leaf) (.leaf)) (.leaf)) (.node none (.node none (.node (some (.cells ⟨[.int .u8 0, .int .u8 0, .int .u8 0, .int .u8 0, .int .u8 0, .int .u8 0, .int .u8 0, .int .u8 0, .int .u8 0, .int .u8 0, .int .u8 0, .int .u8 0, .int .u8 0, .int .u8 0, .int .u8 0, .int .u8 0]⟩ 5 (0, 0))) (.leaf) (.leaf)) (.leaf)) (.leaf))) (.leaf)) (.node none (.node none (.leaf) (.node none (.node none (.node (some (.cells ⟨[.slice (some ⟨72, 0, none⟩) 16 2097154]⟩ 42 (0, 0))) (.leaf) (.leaf)) (.leaf)) (.leaf))) (.node none (.node none (.node (some (.cells ⟨[.int .i64 0]⟩ 3 (0, 0))) (.node (some (.cells ⟨[]⟩ 207 (0, 0))) (.leaf) (.leaf)) (.leaf)) (.leaf)) (.node none (.node none (.node (some (.cells ⟨[.int .i64 1, .string ⟨#[105, 110, 116, 51, 50]⟩, .int .i64 4, .bool true, .int .i64 0, .int .i64 0, .slice none 0 0, .int .i64 1, .string ⟨#[99, 104, 97, 114]⟩, .int .i64 1, .bool true, .int .i64 0, .int .i64 0, .slice none 0 0, .int .i64 3, .string ⟨#[]⟩, .int .i64 0, .bool false, .int .i64 1, .int .i64 4, .slice none 0 0, .int .i64 4, .string ⟨#[112, 114, 111, 99, 95, 116]⟩, .int .i64 0, .bool false, .int .i64 0, .int .i64 16, .slice (some ⟨77, 0, none⟩) 2 5]⟩ 56 (0, 0))) (.leaf) (.leaf)) (.leaf)) (.node (some (.cells ⟨[.int .u8 0, .int .u8 0, .int .u8 0, .int .u8 0, .int .u8 0, .int .u8 0, .int .u8 0, .int .u8 0, .int .u8 0, .int .u8 0, .int .u8 0, .int .u8 0, .int .u8 0, .int .u8 0, .int .u8 0, .int .u8 0, .int .u8 0, .int .u8 0, .int .u8 0, .int .u8 0, .int .u8 0, .int .u8 0, .int .u8 0, .int .u8 0, .int .u8 0, .int .u8 0, .int .u8 0, .int .u8 0, .int .u8 0, .int .u8 0, .int .u8 0, .int .u8 0, .int .u8 0, .int .u8 0, .int .u8 0, .int .u8 0, .int .u8 0, .int .u8 0, .int .u8 0, .int .u8 0, .int .u8 0, .int .u8 0, .int .u8 0, .int .u8 0, .int .u8 0, .int .u8 0, .int .u8 0, .int .u8 0, .int .u8 0, .int .u8 0, .int .u8 0, .int .u8 0, .int .u8 0, .int .u8 0, .int .u8 0, .int .u8 0, .int .u8 0, .int .u8 0, .int .u8 0, .int .u8 0, .int .u8 0, .int .u8 0, .int .u8 0, .int .u8 0]⟩ 5 (0, 0))) (.leaf) (.leaf)))))), 80, [], []⟩
def vS2 : VS := ⟨.node none (.node none (.node (some (.pointer (some ⟨79, 0, none⟩))) (.leaf) (.leaf)) (.node (some (.int .i64 0)) (.leaf) (.leaf))) (.node none (.node (some (.pointer (some ⟨870, 0, none⟩))) (.leaf) (.leaf)) (.leaf)), .node (some (.cells ⟨[.int .u64 1, .int .u64 10, .int .u64 100, .int .u64 1000, .int .u64 10000, .int .u64 100000, .int .u64 1000000, .int .u64 10000000, .int .u64 100000000, .int .u64 1000000000, .int .u64 10000000000, .int .u64 100000000000, .int .u64 1000000000000, .int .u64 10000000000000, .int .u64 100000000000000, .int .u64 1000000000000000, .int .u64 10000000000000000, .int .u64 100000000000000000, .int .u64 1000000000000000000, .int .u64 10000000000000000000]⟩ 0 (0, 1))) (.node (some (.cells ⟨[.int .u8 0, .int .u8 1, .int .u8 28, .int .u8 2, .int .u8 29, .int .u8 14, .int .u8 24, .int .u8 3, .int .u8 30, .int .u8 22, .int .u8 20, .int .u8 15, .int .u8 25, .int .u8 17, .int .u8 4, .int .u8 8, .int .u8 31, .int .u8 27, .int .u8 13, .int .u8 23, .int .u8 21, .int .u8 19, .int .u8 16, .int .u8 7, .int .u8 26, .int .u8 12, .int .u8 18, .int .u8 6, .int .u8 11, .int .u8 5, .int .u8 10, .int .u8 9]⟩ 0 (0, 1))) (.node none (.node none (.node none (.leaf) (.node none (.node (some (.cells ⟨[.slice (some ⟨78, 0, none⟩) 4 9]⟩ 24 (0, 0))) (.leaf) (.leaf)) (.leaf))) (.leaf)) (.leaf)) (.node none (.node none (.node none (.leaf) (.node none (.leaf) (.node none (.leaf) (.node none (.leaf) (.node (some (.cells ⟨[.int .u8 0, .int .u8 0, .int .u8 0, .int .u8 0, .int .u8 0, .int .u8 0, .int .u8 0, .int .u8 0, .int .u8 105, .int .u8 110, .int .u8 105, .int .u8 116, .int .u8 0, .int .u8 0, .int .u8 0, .int .u8 0]⟩ 5 (0, 0))) (.leaf) (.leaf)))))) (.leaf)) (.node none (.leaf) (.node none (.node none (.node (some (.cells ⟨[.string ⟨#[112, 95, 112, 105, 100]⟩, .int .i64 0, .int .i64 4, .string ⟨#[112, 95, 110, 97, 109, 101]⟩, .int .i64 2, .int .i64 8]⟩ 129 (0, 0))) (.leaf) (.leaf)) (.leaf)) (.leaf))))) (.node (some (.cells ⟨[.int .u8 0, .int .u8 1, .int .u8 56, .int .u8 2, .int .u8 57, .int .u8 49, .int .u8 28, .int .u8 3, .int .u8 61, .int .u8 58, .int .u8 42, .int .u8 50, .int .u8 38, .int .u8 29, .int .u8 17, .int .u8 4, .int .u8 62, .int .u8 47, .int .u8 59, .int .u8 36, .int .u8 45, .int .u8 43, .int .u8 51, .int .u8 22, .int .u8 53, .int .u8 39, .int .u8 33, .int .u8 30, .int .u8 24, .int .u8 18, .int .u8 12, .int .u8 5, .int .u8 63, .int .u8 55, .int .u8 48, .int .u8 27, .int .u8 60, .int .u8 41, .int .u8 37, .int .u8 16, .int .u8 46, .int .u8 35, .int .u8 44, .int .u8 21, .int .u8 52, .int .u8 32, .int .u8 23, .int .u8 11, .int .u8 54, .int .u8 26, .int .u8 40, .int .u8 15, .int .u8 34, .int .u8 20, .int .u8 31, .int .u8 10, .int .u8 25, .int .u8 14, .int .u8 19, .int .u8 9, .int .u8 13, .int .u8 8, .int .u8 7, .int .u8 6]⟩ 0 (0, 1))) (.node none (.node none (.leaf) (.node none (.node none (.node none (.node none (.node none (.leaf) (.node (some (.cells ⟨[.int .i64 2097152, .slice (some ⟨497, 0, none⟩) 16 33]⟩ 58 (0, 0))) (.leaf) (.leaf))) (.leaf)) (.leaf)) (.leaf)) (.leaf))) (.leaf)) (.node none (.leaf) (.node none (.node none (.node none (.leaf) (.node none (.leaf) (.node none (.node none (.leaf) (.node (some (.cells ⟨[.slice (some ⟨776, 0, none⟩) 1 131076]⟩ 27 (0, 0))) (.leaf) (.leaf))) (.leaf)))) (.leaf)) (.node none (.node none (.node (some (.cells ⟨[.int .i64 1, .string ⟨#[105, 110, 116, 51, 50]⟩, .int .i64 4, .bool true, .int .i64 0, .int .i64 0, .slice none 0 0, .int .i64 1, .string ⟨#[99, 104, 97, 114]⟩, .int .i64 1, .bool true, .int .i64 0, .int .i64 0, .slice none 0 0, .int .i64 3, .string ⟨#[]⟩, .int .i64 0, .bool false, .int .i64 1, .int .i64 4, .slice none 0 0, .int .i64 4, .string ⟨#[112, 114, 111, 99, 95, 116]⟩, .int .i64 0, .bool false, .int .i64 0, .int .i64 16, .slice (some ⟨77, 0, none⟩) 2 5]⟩ 56 (0, 0))) (.leaf) (.leaf)) (.leaf)) (.leaf))))), 871, [], []⟩
def vS3 : VS := ⟨.node none (.node none (.node (some (.pointer (some ⟨79, 0, none⟩))) (.node (some (.bool true)) (.leaf) (.leaf)) (.leaf)) (.node (some (.int .i64 0)) (.leaf) (.leaf))) (.node none (.node (some (.pointer (some ⟨870, 0, none⟩))) (.leaf) (.leaf)) (.node (some (.int .i64 0)) (.leaf) (.leaf))), .node (some (.cells ⟨[.int .u64 1, .int .u64 10, .int .u64 100, .int .u64 1000, .int .u64 10000, .int .u64 100000, .int .u64 1000000, .int .u64 10000000, .int .u64 100000000, .int .u64 1000000000, .int .u64 10000000000, .int .u64 100000000000, .int .u64 1000000000000, .int .u64 10000000000000, .int .u64 100000000000000, .int .u64 1000000000000000, .int .u64 10000000000000000, .int .u64 100000000000000000, .int .u64 1000000000000000000, .int .u64 10000000000000000000]⟩ 0 (0, 1))) (.node (some (.cells ⟨[.int .u8 0, .int .u8 1, .int .u8 28, .int .u8 2, .int .u8 29, .int .u8 14, .int .u8 24, .int .u8 3, .int .u8 30, .int .u8 22, .int .u8 20, .int .u8 15, .int .u8 25, .int .u8 17, .int .u8 4, .int .u8 8, .int .u8 31, .int .u8 27, .int .u8 13, .int .u8 23, .int .u8 21, .int .u8 19, .int .u8 16, .int .u8 7, .int .u8 26, .int .u8 12, .int .u8 18, .int .u8 6, .int .u8 11, .int .u8 5, .int .u8 10, .int .u8 9]⟩ 0 (0, 1))) (.node none (.node none (.node none (.leaf) (.node none (.node (some (.cells ⟨[.slice (some ⟨78, 0, none⟩) 4 9]⟩ 24 (0, 0))) (.leaf) (.leaf)) (.leaf))) (.leaf)) (.leaf)) (.node none (.node none (.node none (.leaf) (.node none (.leaf) (.node none (.leaf) (.node none (.leaf) (.node (some (.cells ⟨[.int .u8 0, .int .u8 0, .int .u8 0, .int .u8 0, .int .u8 0, .int .u8 0, .int .u8 0, .int .u8 0, .int .u8 105, .int .u8 110, .int .u8 105, .int .u8 116, .int .u8 0, .int .u8 0, .int .u8 0, .int .u8 0]⟩ 5 (0, 0))) (.leaf) (.leaf)))))) (.leaf)) (.node none (.leaf) (.node none (.node none (.node (some (.cells ⟨[.string ⟨#[112, 95, 112, 105, 100]⟩, .int .i64 0, .int .i64 4, .string ⟨#[112, 95, 110, 97, 109, 101]⟩, .int .i64 2, .int .i64 8]⟩ 129 (0, 0))) (.leaf) (.leaf)) (.leaf)) (.leaf))))) (.node (some (.cells ⟨[.int .u8 0, .int .u8 1, .int .u8 56, .int .u8 2, .int .u8 57, .int .u8 49, .int .u8 28, .int .u8 3, .int .u8 61, .int .u8 58, .int .u8 42, .int .u8 50, .int .u8 38, .int .u8 29, .int .u8 17, .int .u8 4, .int .u8 62, .int .u8 47, .int .u8 59, .int .u8 36, .int .u8 45, .int .u8 43, .int .u8 51, .int .u8 22, .int .u8 53, .int .u8 39, .int .u8 33, .int .u8 30, .int .u8 24, .int .u8 18, .int .u8 12, .int .u8 5, .int .u8 63, .int .u8 55, .int .u8 48, .int .u8 27, .int .u8 60, .int .u8 41, .int .u8 37, .int .u8 16, .int .u8 46, .int .u8 35, .int .u8 44, .int .u8 21, .int .u8 52, .int .u8 32, .int .u8 23, .int .u8 11, .int .u8 54, .int .u8 26, .int .u8 40, .int .u8 15, .int .u8 34, .int .u8 20, .int .u8 31, .int .u8 10, .int .u8 25, .int .u8 14, .int .u8 19, .int .u8 9, .int .u8 13, .int .u8 8, .int .u8 7, .int .u8 6]⟩ 0 (0, 1))) (.node none (.node none (.leaf) (.node none (.node none (.node none (.node none (.node none (.leaf) (.node (some (.cells ⟨[.int .i64 2097152, .slice (some ⟨497, 0, none⟩) 16 33]⟩ 58 (0, 0))) (.leaf) (.leaf))) (.leaf)) (.leaf)) (.leaf)) (.leaf))) (.leaf)) (.node none (.leaf) (.node none (.node none (.node none (.leaf) (.node none (.leaf) (.node none (.node none (.leaf) (.node (some (.cells ⟨[.slice (some ⟨776, 0, none⟩) 1 131076]⟩ 27 (0, 0))) (.leaf) (.leaf))) (.leaf)))) (.leaf)) (.node none (.node none (.node (some (.cells ⟨[.int .i64 1, .string ⟨#[105, 110, 116, 51, 50]⟩, .int .i64 4, .bool true, .int .i64 0, .int .i64 0, .slice none 0 0, .int .i64 1, .string ⟨#[99, 104, 97, 114]⟩, .int .i64 1, .bool true, .int .i64 0, .int .i64 0, .slice none 0 0, .int .i64 3, .string ⟨#[]⟩, .int .i64 0, .bool false, .int .i64 1, .int .i64 4, .slice none 0 0, .int .i64 4, .string ⟨#[112, 114, 111, 99, 95, 116]⟩, .int .i64 0, .bool false, .int .i64 0, .int .i64 16, .slice (some ⟨77, 0, none⟩) 2 5]⟩ 56 (0, 0))) (.leaf) (.leaf)) (.leaf)) (.leaf))))), 1248, [], []⟩
def vS4 : VS := ⟨.node none (.node none (.node (some (.pointer (some ⟨79, 0, none⟩))) (.node (some (.bool true)) (.leaf) (.leaf)) (.leaf)) (.node (some (.int .i64 0)) (.node (some (.bool true)) (.leaf) (.leaf)) (.leaf))) (.node none (.node (some (.pointer (some ⟨870, 0, none⟩))) (.node (some (.int .i64 1761607680)) (.leaf) (.leaf)) (.leaf)) (.node (some (.int .i64 0)) (.node (some (.int .i64 0)) (.leaf) (.leaf)) (.leaf))), .node (some (.cells ⟨[.int .u64 1, .int .u64 10, .int .u64 100, .int .u64 1000, .int .u64 10000, .int .u64 100000, .int .u64 1000000, .int .u64 10000000, .int .u64 100000000, .int .u64 1000000000, .int .u64 10000000000, .int .u64 100000000000, .int .u64 1000000000000, .int .u64 10000000000000, .int .u64 100000000000000, .int .u64 1000000000000000, .int .u64 10000000000000000, .int .u64 100000000000000000, .int .u64 1000000000000000000, .int .u64 10000000000000000000]⟩ 0 (0, 1))) (.node (some (.cells ⟨[.int .u8 0, .int .u8 1, .int .u8 28, .int .u8 2, .int .u8 29, .int .u8 14, .int .u8 24, .int .u8 3, .int .u8 30, .int .u8 22, .int .u8 20, .int .u8 15, .int .u8 25, .int .u8 17, .int .u8 4, .int .u8 8, .int .u8 31, .int .u8 27, .int .u8 13, .int .u8 23, .int .u8 21, .int .u8 19, .int .u8 16, .int .u8 7, .int .u8 26, .int .u8 12, .int .u8 18, .int .u8 6, .int .u8 11, .int .u8 5, .int .u8 10, .int .u8 9]⟩ 0 (0, 1))) (.node none (.node none (.node none (.leaf) (.node none (.node (some (.cells ⟨[.slice (some ⟨78, 0, none⟩) 4 9]⟩ 24 (0, 0))) (.leaf) (.leaf)) (.leaf))) (.leaf)) (.leaf)) (.node none (.node none (.node none (.leaf) (.node none (.leaf) (.node none (.leaf) (.node none (.leaf) (.node (some (.cells ⟨[.int .u8 0, .int .u8 0, .int .u8 0, .int .u8 0, .int .u8 0, .int .u8 0, .int .u8 0, .int .u8 0, .int .u8 105, .int .u8 110, .int .u8 105, .int .u8 116, .int .u8 0, .int .u8 0, .int .u8 0, .int .u8 0]⟩ 5 (0, 0))) (.leaf) (.leaf)))))) (.leaf)) (.node none (.leaf) (.node none (.node none (.node (some (.cells ⟨[.string ⟨#[112, 95, 112, 105, 100]⟩, .int .i64 0, .int .i64 4, .string ⟨#[112, 95, 110, 97, 109, 101]⟩, .int .i64 2, .int .i64 8]⟩ 129 (0, 0))) (.leaf) (.leaf)) (.leaf)) (.leaf))))) (.node (some (.cells ⟨[.int .u8 0, .int .u8 1, .int .u8 56, .int .u8 2, .int .u8 57, .int .u8 49, .int .u8 28, .int .u8 3, .int .u8 61, .int .u8 58, .int .u8 42, .int .u8 50, .int .u8 38, .int .u8 29, .int .u8 17, .int .u8 4, .int .u8 62, .int .u8 47, .int .u8 59, .int .u8 36, .int .u8 45, .int .u8 43, .int .u8 51, .int .u8 22, .int .u8 53, .int .u8 39, .int .u8 33, .int .u8 30, .int .u8 24, .int .u8 18, .int .u8 12, .int .u8 5, .int .u8 63, .int .u8 55, .int .u8 48, .int .u8 27, .int .u8 60, .int .u8 41, .int .u8 37, .int .u8 16, .int .u8 46, .int .u8 35, .int .u8 44, .int .u8 21, .int .u8 52, .int .u8 32, .int .u8 23, .int .u8 11, .int .u8 54, .int .u8 26, .int .u8 40, .int .u8 15, .int .u8 34, .int .u8 20, .int .u8 31, .int .u8 10, .int .u8 25, .int .u8 14, .int .u8 19, .int .u8 9, .int .u8 13, .int .u8 8, .int .u8 7, .int .u8 6]⟩ 0 (0, 1))) (.node none (.node none (.leaf) (.node none (.node none (.node none (.node none (.node none (.leaf) (.node (some (.cells ⟨[.int .i64 2097152, .slice (some ⟨497, 0, none⟩) 16 33]⟩ 58 (0, 0))) (.leaf) (.leaf))) (.leaf)) (.leaf)) (.leaf)) (.leaf))) (.leaf)) (.node none (.leaf) (.node none (.node none (.node none (.leaf) (.node none (.leaf) (.node none (.node none (.leaf) (.node (some (.cells ⟨[.slice (some ⟨776, 0, none⟩) 1 131076]⟩ 27 (0, 0))) (.leaf) (.leaf))) (.leaf)))) (.leaf)) (.node none (.node none (.node (some (.cells ⟨[.int .i64 1, .string ⟨#[105, 110, 116, 51, 50]⟩, .int .i64 4, .bool true, .int .i64 0, .int .i64 0, .slice none 0 0, .int .i64 1, .string ⟨#[99, 104, 97, 114]⟩, .int .i64 1, .bool true, .int .i64 0, .int .i64 0, .slice none 0 0, .int .i64 3, .string ⟨#[]⟩, .int .i64 0, .bool false, .int .i64 1, .int .i64 4, .slice none 0 0, .int .i64 4, .string ⟨#[112, 114, 111, 99, 95, 116]⟩, .int .i64 0, .bool false, .int .i64 0, .int .i64 16, .slice (some ⟨77, 0, none⟩) 2 5]⟩ 56 (0, 0))) (.leaf) (.leaf)) (.leaf)) (.leaf))))), 1625, [], []⟩
def vS5 : VS := ⟨.node none (.node none (.node (some (.pointer (some ⟨79, 0, none⟩))) (.node (some (.bool true)) (.leaf) (.leaf)) (.leaf)) (.node (some (.int .i64 0)) (.node (some (.bool true)) (.leaf) (.leaf)) (.node (some (.int .i64 5)) (.leaf) (.leaf)))) (.node none (.node (some (.pointer (some ⟨870, 0, none⟩))) (.node (some (.int .i64 1761607680)) (.leaf) (.leaf)) (.leaf)) (.node (some (.int .i64 0)) (.node (some (.int .i64 0)) (.leaf) (.leaf)) (.leaf))), .node (some (.cells ⟨[.int .u64 1, .int .u64 10, .int .u64 100, .int .u64 1000, .int .u64 10000, .int .u64 100000, .int .u64 1000000, .int .u64 10000000, .int .u64 100000000, .int .u64 1000000000, .int .u64 10000000000, .int .u64 100000000000, .int .u64 1000000000000, .int .u64 10000000000000, .int .u64 100000000000000, .int .u64 1000000000000000, .int .u64 10000000000000000, .int .u64 100000000000000000, .int .u64 1000000000000000000, .int .u64 10000000000000000000]⟩ 0 (0, 1))) (.node (some (.cells ⟨[.int .u8 0, .int .u8 1, .int .u8 28, .int .u8 2, .int .u8 29, .int .u8 14, .int .u8 24, .int .u8 3, .int .u8 30, .int .u8 22, .int .u8 20, .int .u8 15, .int .u8 25, .int .u8 17, .int .u8 4, .int .u8 8, .int .u8 31, .int .u8 27, .int .u8 13, .int .u8 23, .int .u8 21, .int .u8 19, .int .u8 16, .int .u8 7, .int .u8 26, .int .u8 12, .int .u8 18, .int .u8 6, .int .u8 11, .int .u8 5, .int .u8 10, .int .u8 9]⟩ 0 (0, 1))) (.node none (.node none (.node none (.leaf) (.node none (.node (some (.cells ⟨[.slice (some ⟨78, 0, none⟩) 4 9]⟩ 24 (0, 0))) (.leaf) (.leaf)) (.leaf))) (.leaf)) (.leaf)) (.node none (.node none (.node none (.leaf) (.node none (.leaf) (.node none (.leaf) (.node none (.leaf) (.node (some (.cells ⟨[.int .u8 0, .int .u8 0, .int .u8 0, .int .u8 0, .int .u8 0, .int .u8 0, .int .u8 0, .int .u8 0, .int .u8 105, .int .u8 110, .int .u8 105, .int .u8 116, .int .u8 0, .int .u8 0, .int .u8 0, .int .u8 0]⟩ 5 (0, 0))) (.leaf) (.leaf)))))) (.leaf)) (.node none (.leaf) (.node none (.node none (.node (some (.cells ⟨[.string ⟨#[112, 95, 112, 105, 100]⟩, .int .i64 0, .int .i64 4, .string ⟨#[112, 95, 110, 97, 109, 101]⟩, .int .i64 2, .int .i64 8]⟩ 129 (0, 0))) (.leaf) (.leaf)) (.leaf)) (.leaf))))) (.node (some (.cells ⟨[.int .u8 0, .int .u8 1, .int .u8 56, .int .u8 2, .int .u8 57, .int .u8 49, .int .u8 28, .int .u8 3, .int .u8 61, .int .u8 58, .int .u8 42, .int .u8 50, .int .u8 38, .int .u8 29, .int .u8 17, .int .u8 4, .int .u8 62, .int .u8 47, .int .u8 59, .int .u8 36, .int .u8 45, .int .u8 43, .int .u8 51, .int .u8 22, .int .u8 53, .int .u8 39, .int .u8 33, .int .u8 30, .int .u8 24, .int .u8 18, .int .u8 12, .int .u8 5, .int .u8 63, .int .u8 55, .int .u8 48, .int .u8 27, .int .u8 60, .int .u8 41, .int .u8 37, .int .u8 16, .int .u8 46, .int .u8 35, .int .u8 44, .int .u8 21, .int .u8 52, .int .u8 32, .int .u8 23, .int .u8 11, .int .u8 54, .int .u8 26, .int .u8 40, .int .u8 15, .int .u8 34, .int .u8 20, .int .u8 31, .int .u8 10, .int .u8 25, .int .u8 14, .int .u8 19, .int .u8 9, .int .u8 13, .int .u8 8, .int .u8 7, .int .u8 6]⟩ 0 (0, 1))) (.node none (.node none (.leaf) (.node none (.node none (.node none (.node none (.node none (.leaf) (.node (some (.cells ⟨[.int .i64 2097152, .slice (some ⟨497, 0, none⟩) 16 33]⟩ 58 (0, 0))) (.leaf) (.leaf))) (.leaf)) (.leaf)) (.leaf)) (.leaf))) (.leaf)) (.node none (.leaf) (.node none (.node none (.node none (.leaf) (.node none (.leaf) (.node none (.node none (.leaf) (.node (some (.cells ⟨[.slice (some ⟨776, 0, none⟩) 1 131076]⟩ 27 (0, 0))) (.leaf) (.leaf))) (.leaf)))) (.leaf)) (.node none (.node none (.node (some (.cells ⟨[.int .i64 1, .string ⟨#[105, 110, 116, 51, 50]⟩, .int .i64 4, .bool true, .int .i64 0, .int .i64 0, .slice none 0 0, .int .i64 1, .string ⟨#[99, 104, 97, 114]⟩, .int .i64 1, .bool true, .int .i64 0, .int .i64 0, .slice none 0 0, .int .i64 3, .string ⟨#[]⟩, .int .i64 0, .bool false, .int .i64 1, .int .i64 4, .slice none 0 0, .int .i64 4, .string ⟨#[112, 114, 111, 99, 95, 116]⟩, .int .i64 0, .bool false, .int .i64 0, .int .i64 16, .slice (some ⟨77, 0, none⟩) 2 5]⟩ 56 (0, 0))) (.leaf) (.leaf)) (.leaf)) (.leaf))))), 1988, [], []⟩
def vS6 : VS := ⟨.node none (.node none (.node (some (.pointer (some ⟨79, 0, none⟩))) (.leaf) (.leaf)) (.node (some (.int .i64 0)) (.leaf) (.leaf))) (.leaf), .node (some (.cells ⟨[.int .u64 1, .int .u64 10, .int .u64 100, .int .u64 1000, .int .u64 10000, .int .u64 100000, .int .u64 1000000, .int .u64 10000000, .int .u64 100000000, .int .u64 1000000000, .int .u64 10000000000, .int .u64 100000000000, .int .u64 1000000000000, .int .u64 10000000000000, .int .u64 100000000000000, .int .u64 1000000000000000, .int .u64 10000000000000000, .int .u64 100000000000000000, .int .u64 1000000000000000000, .int .u64 10000000000000000000]⟩ 0 (0, 1))) (.node (some (.cells ⟨[.int .u8 0, .int .u8 1, .int .u8 28, .int .u8 2, .int .u8 29, .int .u8 14, .int .u8 24, .int .u8 3, .int .u8 30, .int .u8 22, .int .u8 20, .int .u8 15, .int .u8 25, .int .u8 17, .int .u8 4, .int .u8 8, .int .u8 31, .int .u8 27, .int .u8 13, .int .u8 23, .int .u8 21, .int .u8 19, .int .u8 16, .int .u8 7, .int .u8 26, .int .u8 12, .int .u8 18, .int .u8 6, .int .u8 11, .int .u8 5, .int .u8 10, .int .u8 9]⟩ 0 (0, 1))) (.node none (.node none (.node none (.leaf) (.node none (.node (some (.cells ⟨[.slice (some ⟨78, 0, none⟩) 4 9]⟩ 24 (0, 0))) (.leaf) (.leaf)) (.leaf))) (.leaf)) (.leaf)) (.node none (.leaf) (.node none (.leaf) (.node none (.node none (.node (some (.cells ⟨[.string ⟨#[112, 95, 112, 105, 100]⟩, .int .i64 0, .int .i64 4, .string ⟨#[112, 95, 110, 97, 109, 101]⟩, .int .i64 2, .int .i64 8]⟩ 129 (0, 0))) (.leaf) (.leaf)) (.leaf)) (.leaf))))) (.node (some (.cells ⟨[.int .u8 0, .int .u8 1, .int .u8 56, .int .u8 2, .int .u8 57, .int .u8 49, .int .u8 28, .int .u8 3, .int .u8 61, .int .u8 58, .int .u8 42, .int .u8 50, .int .u8 38, .int .u8 29, .int .u8 17, .int .u8 4, .int .u8 62, .int .u8 47, .int .u8 59, .int .u8 36, .int .u8 45, .int .u8 43, .int .u8 51, .int .u8 22, .int .u8 53, .int .u8 39, .int .u8 33, .int .u8 30, .int .u8 24, .int .u8 18, .int .u8 12, .int .u8 5, .int .u8 63, .int .u8 55, .int .u8 48, .int .u8 27, .int .u8 60, .int .u8 41, .int .u8 37, .int .u8 16, .int .u8 46, .int .u8 35, .int .u8 44, .int .u8 21, .int .u8 52, .int .u8 32, .int .u8 23, .int .u8 11, .int .u8 54, .int .u8 26, .int .u8 40, .int .u8 15, .int .u8 34, .int .u8 20, .int .u8 31, .int .u8 10, .int .u8 25, .int .u8 14, .int .u8 19, .int .u8 9, .int .u8 13, .int .u8 8, .int .u8 7, .int .u8 6]⟩ 0 (0, 1))) (.leaf) (.node none (.leaf) (.node none (.leaf) (.node none (.node none (.node (some (.cells ⟨[.int .i64 1, .string ⟨#[105, 110, 116, 51, 50]⟩, .int .i64 4, .bool true, .int .i64 0, .int .i64 0, .slice none 0 0, .int .i64 1, .string ⟨#[99, 104, 97, 114]⟩, .int .i64 1, .bool true, .int .i64 0, .int .i64 0, .slice none 0 0, .int .i64 3, .string ⟨#[]⟩, .int .i64 0, .bool false, .int .i64 1, .int .i64 4, .slice none 0 0, .int .i64 4, .string ⟨#[112, 114, 111, 99, 95, 116]⟩, .int .i64 0, .bool false, .int .i64 0, .int .i64 16, .slice (some ⟨77, 0, none⟩) 2 5]⟩ 56 (0, 0))) (.leaf) (.leaf)) (.leaf)) (.leaf))))), 2010, [], []⟩
theorem vpart1 : prune 3 gheap [2, 3] [32, 35, 38, 61, 62, 63, 65, 67, 69, 70, 72, 74, 75, 77, 78, 79] (vl Tryz.prog 100 161 3 ((codesOf Tryz.prog 10).take 4) vS0) = some vS1 := by kernel_rfl
theorem vpart2 : prune 3 gheap [3, 4, 5] [77, 78, 79, 497, 776, 870] (vl Tryz.prog 100 161 3 (((codesOf Tryz.prog 10).drop 4).take 1) vS1) = some vS2 := by kernel_rfl
theorem vpart3 : prune 3 gheap [3, 4, 5, 6, 7] [77, 78, 79, 497, 776, 870] (vl Tryz.prog 100 161 3 ((((codesOf Tryz.prog 10).drop 4).drop 1).take 3) vS2) = some vS3 := by kernel_rfl
theorem vpart4 : prune 3 gheap [3, 4, 5, 6, 7, 8, 9, 10] [77, 78, 79, 497, 776, 870] (vl Tryz.prog 100 161 3 (((((codesOf Tryz.prog 10).drop 4).drop 1).drop 3).take 1) vS3) = some vS4 := by kernel_rfl
theorem vpart5 : prune 3 gheap [3, 4, 5, 6, 7, 8, 9, 10, 13] [77, 78, 79, 497, 776, 870] (vl Tryz.prog 100 161 3 ((((((codesOf Tryz.prog 10).drop 4).drop 1).drop 3).drop 1).take 1) vS4) = some vS5 := by kernel_rfl
theorem vpart6 : prune 3 gheap [3, 5] [77, 78, 79] (vl Tryz.prog 100 161 3 (((((((codesOf Tryz.prog 10).drop 4).drop 1).drop 3).drop 1).drop 1).take 3) vS5) = some vS6 := by kernel_rfl
theorem vlast : ends true (endOf Tryz.prog 100 3 10 (vl Tryz.prog 100 161 3 (((((((codesOf Tryz.prog 10).drop 4).drop 1).drop 3).drop 1).drop 1).drop 3) vS6)) = true := by kernel_rfl
theorem vall (hmix : Tryz.prog.follows .mixedOrders = true) (hnm : NamesOk Tryz.prog) (R0 : Ren) (w0 : World) (hh : HR Tryz.prog R0 gheap.get w0) : ∃ e s, LOk Tryz.prog R0 3 gheap w0 161 (codesOf Tryz.prog 10) vS0 e s ∧ ends true (endOf Tryz.prog 100 3 10 (some (e, s))) = true :=
  part_then hmix hnm hh vpart1 (part_then hmix hnm hh vpart2 (part_then hmix hnm hh vpart3 (part_then hmix hnm hh vpart4 (part_then hmix hnm hh vpart5 (part_then hmix hnm hh vpart6 (last_ok hmix hnm vlast hh))))))

theorem sane_run {w : World} (h : Laid gcells w) : Calls Tryz.prog 10 #[] w fun e w' => e = .returned (.bool true) ∧ w'.os = w.os ∧ w'.tape = w.tape ∧ w'.output = w.output ∧ w.heap.size ≤ w'.heap.size ∧ ∀ k, k < w.heap.size → w'.heap[k]? = w.heap[k]? := by
  obtain ⟨h1, h2⟩ := laid_hr gheap_eq gcells_ok h
  exact closedL gsize vmix vnames (by kernel_rfl) (by kernel_rfl) (fun R0 w0 hh => vall vmix vnames R0 w0 hh) w h1 h2
end
end Go.Proofs.YtecpbadkdpbkpaaGreatDoor
/- taplinelaw09.sane in the form of the walks here; the package's variables. -/
namespace Go.Proofs.YtecpbadkdpbkpaaGreatDoor
open Go.RowKit Go.M
/-- the package's variables hold what the rows list -/
def Tab (w : World) : Prop := Go.V.Laid gcells w
theorem Tab.b {w w' : World} (h : Tab w) (hE : ExtB [] w w') : Tab w' := Go.V.Laid.later h fun k hk => hE.block k hk (by simp)
theorem Tab.e {w w' : World} (h : Tab w) (hE : Ext w w') : Tab w' := h.b (hE.toB [])
theorem Tab.s {h0 h : View} {w0 w : World} {bs : List Res} (ht : Tab w0) (HS : St [] h0 w0 h bs w) : Tab w := ht.b HS.ext
def taplinelaw09_sane.f : Option Bool := some true
theorem taplinelaw09_sane.calls {h0 : View} {w0 : World} (hv : Sees h0 w0) (ht : Tab w0) {r : Bool} (H : taplinelaw09_sane.f = some r) : Calls Tryz.prog 10 #[] w0 (fun e w1 => e = .returned (Value.bool r) ∧ Ext w0 w1) := by
  obtain rfl := Option.some.inj H
  refine (sane_run ht).mono ?_
  rintro e w1 ⟨rfl, h1, h2, h3, h4, h5⟩
  exact ⟨rfl, h1, h2, h3, h4, h5⟩
end Go.Proofs.YtecpbadkdpbkpaaGreatDoor
/- The laws' arguments as they lie in memory; what the rows list; a witness's world. -/
namespace Go.Proofs.YtecpbadkdpbkpaaGreatDoor
open Go.ChangeShapes Go.WideShapes Go.ChangeAt Go.RowKit Go.M
set_option maxRecDepth 100000
theorem own : ownKnob Tryz.prog.godebug = none := by kernel_rfl
theorem laidOut : laidOutB Tryz.prog = true := by kernel_rfl
/-- what the rows list -/
abbrev laidL : List (String × DataW Unit) := [("math/bits.deBruijn32tab", Rows.laid_math_bits_deBruijn32tab), ("math/bits.deBruijn64tab", Rows.laid_math_bits_deBruijn64tab), ("internal/strconv.uint64pow10", Rows.laid_internal_strconv_uint64pow10)]
section
open Go.V
theorem und0 : undG Tryz.prog 0 Rows.laid_internal_strconv_uint64pow10 = some [.int .u64 1, .int .u64 10, .int .u64 100, .int .u64 1000, .int .u64 10000, .int .u64 100000, .int .u64 1000000, .int .u64 10000000, .int .u64 100000000, .int .u64 1000000000, .int .u64 10000000000, .int .u64 100000000000, .int .u64 1000000000000, .int .u64 10000000000000, .int .u64 100000000000000, .int .u64 1000000000000000, .int .u64 10000000000000000, .int .u64 100000000000000000, .int .u64 1000000000000000000, .int .u64 10000000000000000000] := by kernel_rfl
theorem und1 : undG Tryz.prog 1 Rows.laid_math_bits_deBruijn32tab = some [.int .u8 0, .int .u8 1, .int .u8 28, .int .u8 2, .int .u8 29, .int .u8 14, .int .u8 24, .int .u8 3, .int .u8 30, .int .u8 22, .int .u8 20, .int .u8 15, .int .u8 25, .int .u8 17, .int .u8 4, .int .u8 8, .int .u8 31, .int .u8 27, .int .u8 13, .int .u8 23, .int .u8 21, .int .u8 19, .int .u8 16, .int .u8 7, .int .u8 26, .int .u8 12, .int .u8 18, .int .u8 6, .int .u8 11, .int .u8 5, .int .u8 10, .int .u8 9] := by kernel_rfl
theorem und2 : undG Tryz.prog 2 Rows.laid_math_bits_deBruijn64tab = some [.int .u8 0, .int .u8 1, .int .u8 56, .int .u8 2, .int .u8 57, .int .u8 49, .int .u8 28, .int .u8 3, .int .u8 61, .int .u8 58, .int .u8 42, .int .u8 50, .int .u8 38, .int .u8 29, .int .u8 17, .int .u8 4, .int .u8 62, .int .u8 47, .int .u8 59, .int .u8 36, .int .u8 45, .int .u8 43, .int .u8 51, .int .u8 22, .int .u8 53, .int .u8 39, .int .u8 33, .int .u8 30, .int .u8 24, .int .u8 18, .int .u8 12, .int .u8 5, .int .u8 63, .int .u8 55, .int .u8 48, .int .u8 27, .int .u8 60, .int .u8 41, .int .u8 37, .int .u8 16, .int .u8 46, .int .u8 35, .int .u8 44, .int .u8 21, .int .u8 52, .int .u8 32, .int .u8 23, .int .u8 11, .int .u8 54, .int .u8 26, .int .u8 40, .int .u8 15, .int .u8 34, .int .u8 20, .int .u8 31, .int .u8 10, .int .u8 25, .int .u8 14, .int .u8 19, .int .u8 9, .int .u8 13, .int .u8 8, .int .u8 7, .int .u8 6] := by kernel_rfl
theorem tab_of {W : World} (h : laidMetH Tryz.prog laidL W) : Tab W := by
  obtain ⟨ps, hL, _⟩ : laidMet Tryz.prog laidL W := h
  intro p hp
  unfold gcells at hp
  simp only [List.mem_cons, List.not_mem_nil, or_false] at hp
  rcases hp with rfl | rfl | rfl
  · exact laid_atG hL (n := "internal/strconv.uint64pow10") (D := Rows.laid_internal_strconv_uint64pow10) (by unfold laidL; simp) (by kernel_rfl) und0
  · exact laid_atG hL (n := "math/bits.deBruijn32tab") (D := Rows.laid_math_bits_deBruijn32tab) (by unfold laidL; simp) (by kernel_rfl) und1
  · exact laid_atG hL (n := "math/bits.deBruijn64tab") (D := Rows.laid_math_bits_deBruijn64tab) (by unfold laidL; simp) (by kernel_rfl) und2
end
/-- a witness's world -/
def layV (vs : List Value) : Obj → Obj
  | .cells _ t frozen => .cells ⟨vs⟩ t frozen
  | o => o
noncomputable def heap0 (os : Os) : Array Obj := (World.holding Tryz.prog os ⟨#[], #[], []⟩).heap
noncomputable def heap1 (os : Os) : Array Obj := gcells.foldl (fun h p => h.modify p.1 (layV p.2)) (heap0 os)
noncomputable def laidWorld (os : Os) : World := { World.holding Tryz.prog os ⟨#[], #[], []⟩ with heap := (heap1 os) }
theorem laid_met (os : Os) (args : Array Value) : laidMet Tryz.prog laidL ((laidWorld os).forCall (fun _ _ => 0) ⟨#[], args, []⟩).memory :=
  laidMet_of_run' 20 (by kernel_rfl) (by kernel_rfl)
section
variable {H : Type} {enc : TypeId × Value → H} {W : World}
theorem max63 {n : Nat} (h : n ≤ maxLen) : n ≤ 9223372036854775807 := by unfold maxLen at h; omega
theorem op2 : Opn enc Tryz.prog W 2 (Kd.int .i64) (fun n => (Lit.int .i64 n).wf = true) := op_int Tryz.underlying2 (by kernel_rfl)
theorem op3 : Opn enc Tryz.prog W 3 (Kd.int .i64) (fun n => (Lit.int .i64 n).wf = true) := op_int Tryz.underlying3 (by kernel_rfl)
theorem op4 : Opn enc Tryz.prog W 4 Kd.bool (fun _ => True) := op_bool Tryz.underlying4 (by kernel_rfl)
theorem op9 : Opn enc Tryz.prog W 9 Kd.str (fun s => s.size ≤ maxLen) := op_str Tryz.underlying9 (by kernel_rfl)
theorem wf64 {n : Int} (h : (Lit.int .i64 n).wf = true) : -9223372036854775808 ≤ n ∧ n ≤ 9223372036854775807 := by
  simp [Lit.wf, IntKind.min, IntKind.max, IntKind.bits, IntKind.signed] at h
  omega
def FitS (s : api_Sym) : Prop := s.vName.size ≤ maxLen ∧ (Lit.int .i64 s.vAt).wf = true ∧ (Lit.int .i64 s.vSize).wf = true
theorem op68 : Opn enc Tryz.prog W 68 k_api_Sym FitS :=
  (op_iso (fun p => (⟨p.1, p.2.1, p.2.2⟩ : api_Sym)) (fun _ => rfl) (op_struct Tryz.underlying68 (by kernel_rfl) (opf_cons op9 rfl (opf_cons op2 rfl (opf_one op2 rfl))))).weak fun _ h => h
theorem op49 : Opn enc Tryz.prog W 49 (Kd.slice k_api_Sym) (fun xs => xs.length ≤ maxLen ∧ ∀ s ∈ xs, FitS s) := op_slice op68 Tryz.underlying49 (by kernel_rfl)
theorem arg2 {b : Nat} {v : Value} {d : DataW H} {p : List MemPlace} (hval : Value.okWide Tryz.prog W .any b 2 v) (h : DataW.Trod enc Tryz.prog W 0 (fun _ => true) true 2 v d p) : ∃ n : Int, v = .int .i64 n ∧ -9223372036854775808 ≤ n ∧ n ≤ 9223372036854775807 := by
  obtain ⟨n, rfl⟩ := okWide_int Tryz.underlying2 hval
  obtain ⟨fuel, hf⟩ := h
  obtain ⟨m, hK, hF⟩ := op2.open_ _ _ _ hf
  have : [Value.int .i64 n] = [Value.int .i64 m] := hK
  injection this with this
  injection this with _ this
  subst this
  exact ⟨n, rfl, wf64 hF⟩
theorem arg49 {b : Nat} {v : Value} {d : DataW H} {p : List MemPlace} (hval : Value.okWide Tryz.prog W .any b 49 v) (h : DataW.Trod enc Tryz.prog W 0 (fun _ => true) true 49 v d p) :
    ∃ (xs : List api_Sym) (A : Option Addr) (c : Nat), v = .slice A xs.length c ∧ Rd k_api_Sym (vw W) A xs ∧ xs.length ≤ c ∧ xs.length ≤ maxLen ∧ ∀ s ∈ xs, FitS s := by
  obtain ⟨a, len, cap, rfl⟩ := okWide_slice Tryz.underlying49 hval
  obtain ⟨fuel, hf⟩ := h
  obtain ⟨xs, ⟨A, c, hcs, hc, hr⟩, hF⟩ := op49.open_ _ _ _ hf
  have : [Value.slice a len cap] = [Value.slice A xs.length c] := hcs
  injection this with this
  injection this with h1 h2 h3
  subst h1 h2 h3
  exact ⟨xs, _, _, rfl, hr, hc, hF⟩
/-- behind a law: its result is true, and the arguments read as they did -/
theorem law_post {fn : Func} {s : ChangeSpec} {args : Array Value} {ds gs : List (DataW H)} {before : List MemPlace} {W' : World} (hT : ∀ t ∈ fn.params.toList, Tryz.prog.readableRec t = true ∧ t < Tryz.prog.types.size) (hr : fn.resultTypes = #[4]) (hvs : s.vars = [])
    (hfn : s.fn H (ds ++ gs) = { results := [.lit (.bool true)], args := ds }) (hW : DataW.Whole enc Tryz.prog fn.params.toList s.vars false W args.toList ds gs before) (hE : Ext W W') : s.post enc Tryz.prog fn false true false false W args (.bool true) W' := by
  have hW' := hW
  obtain ⟨p, q, hA, hV, e, hfz, hnd⟩ := hW
  rw [hvs] at hV
  obtain ⟨rfl, rfl⟩ := trodVars_none hV
  have hlt : ∀ x ∈ p, x.block < W.heap.size := fun x hx => hW'.lt x (by rw [e]; exact List.mem_append_left _ hx)
  refine ⟨ds, [], before, [], p, [], hW', ?_, ?_, ?_, Below.frame hE _, fun h => by cases h⟩
  · rw [hfn, hr]
    exact trodAll_cons_mk (shut_bool Tryz.underlying4 _) trodAll_mk0
  · rw [hfn]
    exact all_stays laidOut hE hT hA hlt (fun x hx => by simpa using hlt x hx)
  · rw [hfn, hvs]
    rfl
end
end Go.Proofs.YtecpbadkdpbkpaaGreatDoor
/- The laws' arguments as they lie in memory, with the bound on strings' lengths. -/
namespace Go.Proofs.YtecpbadkdpbkpaaGreatDoor
open Go.ChangeShapes Go.WideShapes Go.ChangeAt Go.RowKit Go.M
set_option maxRecDepth 100000
section
variable {H : Type} {enc : TypeId × Value → H} {W : World}
def FitW (s : api_Sym) : Prop := s.vName.size ≤ 140737488351232 ∧ (-9223372036854775808 ≤ s.vAt ∧ s.vAt ≤ 9223372036854775807) ∧ (-9223372036854775808 ≤ s.vSize ∧ s.vSize ≤ 9223372036854775807)
theorem opw68 : Opw enc Tryz.prog W 68 k_api_Sym FitW :=
  (opw_iso (fun p => (⟨p.1, p.2.1, p.2.2⟩ : api_Sym)) (fun _ => rfl) (opw_struct Tryz.underlying68 (by kernel_rfl) (opwf_cons (opw_str Tryz.underlying9 (by kernel_rfl)) rfl (opwf_cons op2.opw rfl (opwf_one op2.opw rfl))))).weak fun _ h => ⟨h.1, wf64 h.2.1, wf64 h.2.2⟩
theorem opw49 : Opw enc Tryz.prog W 49 (Kd.slice k_api_Sym) (fun xs => xs.length ≤ maxLen ∧ ∀ s ∈ xs, FitW s) := opw_slice opw68 Tryz.underlying49 (by kernel_rfl)
theorem argw49 {b : Nat} {v : Value} {d : DataW H} {p : List MemPlace} (hval : Value.okWide Tryz.prog W .any b 49 v) (h : DataW.Trod enc Tryz.prog W 0 (fun _ => true) true 49 v d p) (hw : ∀ n ∈ d.weights Tryz.prog 49, n ≤ reachBytes) :
    ∃ (xs : List api_Sym) (A : Option Addr) (c : Nat), v = .slice A xs.length c ∧ Rd k_api_Sym (vw W) A xs ∧ xs.length ≤ c ∧ xs.length ≤ 9223372036854775807 ∧ ∀ s ∈ xs, FitW s := by
  obtain ⟨a, len, cap, rfl⟩ := okWide_slice Tryz.underlying49 hval
  obtain ⟨fuel, hf⟩ := h
  obtain ⟨xs, ⟨A, c, hcs, hc, hr⟩, hF⟩ := opw49.open_ _ _ _ hf hw
  have : [Value.slice a len cap] = [Value.slice A xs.length c] := hcs
  injection this with this
  injection this with h1 h2 h3
  subst h1 h2 h3
  exact ⟨xs, _, _, rfl, hr, hc, max63 hF.1, hF.2⟩
end
end Go.Proofs.YtecpbadkdpbkpaaGreatDoor
/- Plain laws: what holds from some number of rounds on; wrapped numbers; lists that are read by an index. -/
namespace Go.Proofs.YtecpbadkdpbkpaaGreatDoor
open Go.RowKit Go.M
/-- from some number of rounds on, this is what comes -/
def Ev {α : Type} (f : Nat → Option α) (v : α) : Prop := ∃ K, ∀ k, K ≤ k → f k = some v
def Ev2 {α : Type} (f : Nat → Nat → Option α) (v : α) : Prop := ∃ K, ∀ k m, K ≤ k → K ≤ m → f k m = some v
section
variable {α β γ : Type}
theorem Ev.pure {f : Nat → Option α} {v : α} (h : ∀ k, f k = some v) : Ev f v := ⟨0, fun k _ => h k⟩
theorem Ev.bind {f : Nat → Option α} {g : Nat → α → Option β} {a : α} {b : β} (hf : Ev f a) (hg : Ev (fun k => g k a) b) : Ev (fun k => (f k).bind (g k)) b := by
  obtain ⟨K, hK⟩ := hf
  obtain ⟨L, hL⟩ := hg
  exact ⟨max K L, fun k hk => by
    show (f k).bind (g k) = some b
    rw [hK k (by omega)]
    exact hL k (by omega)⟩
theorem Ev.congr {f g : Nat → Option α} {v : α} (hf : Ev f v) (h : ∀ k, g k = f k) : Ev g v := by
  obtain ⟨K, hK⟩ := hf
  exact ⟨K, fun k hk => (h k).trans (hK k hk)⟩
theorem Ev.of_le {f g : Nat → Option α} {v : α} (hf : Ev f v) (K : Nat) (h : ∀ k, K ≤ k → g k = f k) : Ev g v := by
  obtain ⟨L, hL⟩ := hf
  exact ⟨max K L, fun k hk => (h k (by omega)).trans (hL k (by omega))⟩
theorem Ev.succ {f : Nat → Option α} {v : α} (hf : Ev (fun k => f (k + 1)) v) : Ev f v := by
  obtain ⟨K, hK⟩ := hf
  refine ⟨K + 1, fun k hk => ?_⟩
  obtain ⟨m, rfl⟩ : ∃ m, k = m + 1 := ⟨k - 1, by omega⟩
  exact hK m (by omega)
theorem Ev.uniq {f : Nat → Option α} {v u : α} (hf : Ev f v) (hg : Ev f u) : v = u := by
  obtain ⟨K, hK⟩ := hf
  obtain ⟨L, hL⟩ := hg
  have h1 := hK (max K L) (by omega)
  have h2 := hL (max K L) (by omega)
  rw [h1] at h2
  exact Option.some.inj h2
theorem Ev2.diag {f : Nat → Nat → Option α} {v : α} (h : Ev2 f v) : Ev (fun k => f k k) v := by
  obtain ⟨K, hK⟩ := h
  exact ⟨K, fun k hk => hK k k hk hk⟩
theorem Ev2.pure {f : Nat → Nat → Option α} {v : α} (h : ∀ k m, f k (m + 1) = some v) : Ev2 f v := ⟨1, fun k m _ hm => by
  obtain ⟨q, rfl⟩ : ∃ q, m = q + 1 := ⟨m - 1, by omega⟩
  exact h k q⟩
/-- a round: what its body comes to, then the rest -/
theorem Ev2.step {f : Nat → Nat → Option α} {g : Nat → Option β} {b : β} {r : Nat → Nat → β → Option α} {v : α} (hg : Ev g b) (hr : Ev2 (fun k m => r k m b) v) (h : ∀ k m, f k (m + 1) = (g k).bind (r k m)) : Ev2 f v := by
  obtain ⟨K, hK⟩ := hg
  obtain ⟨L, hL⟩ := hr
  refine ⟨max K L + 1, fun k m hk hm => ?_⟩
  obtain ⟨q, rfl⟩ : ∃ q, m = q + 1 := ⟨m - 1, by omega⟩
  rw [h, hK k (by omega)]
  exact hL k q (by omega) (by omega)
theorem Ev2.next {f r : Nat → Nat → Option α} {v : α} (hr : Ev2 r v) (h : ∀ k m, f k (m + 1) = r k m) : Ev2 f v := by
  obtain ⟨L, hL⟩ := hr
  refine ⟨L + 1, fun k m hk hm => ?_⟩
  obtain ⟨q, rfl⟩ : ∃ q, m = q + 1 := ⟨m - 1, by omega⟩
  rw [h]
  exact hL k q (by omega) (by omega)
theorem Ev.all {f : γ → Nat → Option α} {q : γ → α} : ∀ (l : List γ), (∀ z ∈ l, Ev (f z) (q z)) → ∃ K, ∀ k, K ≤ k → ∀ z ∈ l, f z k = some (q z)
  | [], _ => ⟨0, fun k _ z hz => by cases hz⟩
  | x :: l, h => by
    obtain ⟨K, hK⟩ := h x List.mem_cons_self
    obtain ⟨L, hL⟩ := Ev.all l (fun z hz => h z (List.mem_cons_of_mem _ hz))
    refine ⟨max K L, fun k hk z hz => ?_⟩
    rcases List.mem_cons.1 hz with rfl | hz
    · exact hK k (by omega)
    · exact hL k (by omega) z hz
end
theorem wrap_id {x : Int} (h0 : -9223372036854775808 ≤ x) (h1 : x ≤ 9223372036854775807) : IntKind.wrap .i64 x = x := by
  simp [IntKind.wrap, IntKind.bits, IntKind.signed]
  omega
theorem wrap_nat {j n : Nat} (hj : j < n) (hn : n ≤ 9223372036854775807) : IntKind.wrap .i64 ((j : Int) + 1) = ((j + 1 : Nat) : Int) := by
  rw [wrap_id (by omega) (by omega)]; rfl
section
variable {α : Type} {z : α} {xs : List α}
theorem rd_nat (j : Nat) : rd z xs (j : Int) = xs.getD j z := by simp [rd]
theorem rd_mem {i : Int} (h0 : 0 ≤ i) (h1 : i < xs.length) : rd z xs i ∈ xs := by
  unfold rd
  have : i.toNat < xs.length := by omega
  rw [List.getD_eq_getElem?_getD, List.getElem?_eq_getElem this]
  exact List.getElem_mem this
theorem getD_mem {j : Nat} (h1 : j < xs.length) : xs.getD j z ∈ xs := by
  rw [List.getD_eq_getElem?_getD, List.getElem?_eq_getElem h1]
  exact List.getElem_mem h1
end
end Go.Proofs.YtecpbadkdpbkpaaGreatDoor
namespace Go.Proofs.YtecpbadkdpbkpaaGreatDoor
open Go.RowKit Go.M
def slices_IndexFunc_api_Sym_api_Sym.l0 (a0 : List api_Sym) (a1 : (api_Sym → Option Bool)) : Nat → Int → Option ((Int) ⊕ (Unit))
  | 0, _ => none
  | m + 1, y1_0 => if (decide (y1_0 < (a0.length : Int))) = true then (if 0 ≤ y1_0 ∧ y1_0 < a0.length then ((a1 (rd z_api_Sym a0 y1_0)).bind fun v1 => (if v1 = true then (some (.inl y1_0)) else (slices_IndexFunc_api_Sym_api_Sym.l0 a0 a1 m (IntKind.wrap .i64 (y1_0 + 1))))) else none) else (some (.inr ()))
def slices_IndexFunc_api_Sym_api_Sym.f (k : Nat) (a0 : List api_Sym) (a1 : api_Sym → Option Bool) : Option (Int) := (slices_IndexFunc_api_Sym_api_Sym.l0 a0 a1 k 0).bind fun xx1 => (match xx1 with | .inl r => some r | .inr s1 => some (-1))
set_option maxRecDepth 20000 in
set_option maxHeartbeats 4000000 in
theorem slices_IndexFunc_api_Sym_api_Sym.calls (k : Nat) (a0 : List api_Sym) (a1 : api_Sym → Option Bool) (A0_0 : Option Addr) (c0_0 : Nat) (fid1 : Nat) (cap1 : List Value) {h0 : View} {w0 : World} (hv : Sees h0 w0) (hr0_0 : Rd k_api_Sym h0 A0_0 a0) (hc0_0 : a0.length ≤ c0_0) (hent1 : ∀ args w, (callFunc fid1 args).run Tryz.prog w = .ok (.enter fid1 args) w) (hfp1 : ∀ (z0 : api_Sym) (h : View) (w : World), Ext w0 w → Sub h0 h → Sees h w → ∀ (r : Bool), a1 z0 = some r → Calls Tryz.prog fid1 ([Value.agg #[Value.string z0.vName, Value.int .i64 z0.vAt, Value.int .i64 z0.vSize]] ++ cap1).toArray w (fun e w1 => e = .returned (Value.bool r) ∧ Ext w w1)) {r : Int} (H : slices_IndexFunc_api_Sym_api_Sym.f k a0 a1 = some r) : Calls Tryz.prog 46 #[Value.slice A0_0 a0.length c0_0, Value.func (.func fid1) #[] cap1.toArray] w0 (fun e w1 => e = .returned (Value.int .i64 r) ∧ Ext w0 w1) := by
  unfold slices_IndexFunc_api_Sym_api_Sym.f at H
  have HS : St [] h0 w0 h0 [] w0 := St.init hv
  go_enter Tryz.func46, Tryz.ntmps46
  refine wp_seq ?_
  refine region ?_
  refine run_same (v := Value.int .i64 0) rfl rfl (r_assign rfl) ?_
  try simp only [List.set_cons_zero, List.set_cons_succ]
  refine run_nil ?_
  refine norm_then ?_
  refine wp_seq ?_
  refine wp_seq ?_
  refine region ?_
  refine run_same (v := Value.slice A0_0 a0.length c0_0) rfl rfl (r_move rfl) ?_
  refine run_same (v := Value.int .i64 (a0.length : Int)) rfl rfl (r_len rfl Tryz.runUnderlying49) ?_
  refine run_same (v := Value.int .i64 0) rfl rfl (r_move rfl) ?_
  try simp only [List.set_cons_zero, List.set_cons_succ]
  refine run_nil ?_
  refine norm_then ?_
  obtain ⟨xx1, H, G1⟩ := of_bind H
  refine loop_patch [4, 5, 8, 9, 10, 11, 12, 13, 14, 15, 16, 17, 18] (fun m us w' => ∃ (y1_0 : Int), ∃ (uy1_4 : Value), ∃ (uy1_5 : Value), ∃ (uy1_9 : Value), ∃ (uy1_10 : Value), ∃ (uy1_11 : Value), ∃ (uy1_12 : Value), ∃ (uy1_13 : Value), ∃ (uy1_14 : Value), ∃ (uy1_15 : Value), ∃ (uy1_16 : Value), ∃ (uy1_17 : Value), ∃ (uy1_18 : Value), us = [uy1_4, uy1_5, Value.int .i64 y1_0, uy1_9, uy1_10, uy1_11, uy1_12, uy1_13, uy1_14, uy1_15, uy1_16, uy1_17, uy1_18] ∧ slices_IndexFunc_api_Sym_api_Sym.l0 a0 a1 m y1_0 = some xx1 ∧ St [] h0 w0 h0 [] w') (fun us w' => ∃ (s1 : Unit), xx1 = .inr s1 ∧ ∃ (uo1_4 : Value), ∃ (uo1_5 : Value), ∃ (uo1_8 : Value), ∃ (uo1_9 : Value), ∃ (uo1_10 : Value), ∃ (uo1_11 : Value), ∃ (uo1_12 : Value), ∃ (uo1_13 : Value), ∃ (uo1_14 : Value), ∃ (uo1_15 : Value), ∃ (uo1_16 : Value), ∃ (uo1_17 : Value), ∃ (uo1_18 : Value), us = [uo1_4, uo1_5, uo1_8, uo1_9, uo1_10, uo1_11, uo1_12, uo1_13, uo1_14, uo1_15, uo1_16, uo1_17, uo1_18] ∧ St [] h0 w0 h0 [] w') k [Value.int .i64 0, undef, Value.int .i64 0, undef, undef, undef, undef, undef, undef, undef, undef, undef, undef] (by simp only [patch, List.set_cons_zero, List.set_cons_succ]) ⟨0, _, _, _, _, _, _, _, _, _, _, _, _, rfl, H, HS⟩ ?_ ?_
  · rintro m us w1 ⟨y1_0, uy1_4, uy1_5, uy1_9, uy1_10, uy1_11, uy1_12, uy1_13, uy1_14, uy1_15, uy1_16, uy1_17, uy1_18, rfl, H, HS1⟩
    cases m with
    | zero => exact absurd H (by simp [slices_IndexFunc_api_Sym_api_Sym.l0])
    | succ m =>
      rw [slices_IndexFunc_api_Sym_api_Sym.l0] at H
      try simp only [patch, List.set_cons_zero, List.set_cons_succ]
      refine wp_seq ?_
      refine region ?_
      refine run_same (v := Value.bool (decide (y1_0 < (a0.length : Int)))) rfl rfl (r_bin rfl rfl rfl) ?_
      try simp only [List.set_cons_zero, List.set_cons_succ]
      refine run_nil ?_
      refine norm_then ?_
      refine wp_seq ?_
      refine wp_cond_split (t := (decide (y1_0 < (a0.length : Int)))) rfl (fun c1 => ?_) (fun c1 => ?_)
      · replace H := of_pos H c1
        refine wp_skip ?_
        refine norm_then ?_
        refine wp_seq ?_
        refine wp_block ?_
        refine wp_seq ?_
        refine region ?_
        refine run_same (v := Value.int .i64 y1_0) rfl rfl (r_move rfl) ?_
        refine run_same (v := Value.int .i64 y1_0) rfl rfl (r_assign rfl) ?_
        try simp only [List.set_cons_zero, List.set_cons_succ]
        refine run_nil ?_
        refine norm_then ?_
        refine wp_seq ?_
        refine region ?_
        refine run_same (v := Value.func (.func fid1) #[] cap1.toArray) rfl rfl (r_move rfl) ?_
        refine run_same (v := Value.slice A0_0 a0.length c0_0) rfl rfl (r_move rfl) ?_
        refine run_same (v := Value.int .i64 y1_0) rfl rfl (r_move rfl) ?_
        obtain ⟨hi1, H⟩ := of_ite H
        obtain ⟨ad1, e1, hel1⟩ := ld_api_Sym hr0_0 hi1.1 hi1.2
        refine run_same (v := Value.pointer (some (Addr.add ad1 (y1_0.toNat * 3)))) rfl rfl (r_indexA (sz := 3) rfl e1 rfl hi1.1 hi1.2 Tryz.runUnderlying49 Tryz.sizeOf68) ?_
        refine run_frame (by simp only [List.set_cons_zero, List.set_cons_succ]; rfl) ?_
        refine run_same (v := Value.agg #[Value.string ((rd z_api_Sym a0 y1_0).vName), Value.int .i64 ((rd z_api_Sym a0 y1_0).vAt), Value.int .i64 ((rd z_api_Sym a0 y1_0).vSize)]) rfl rfl (r_loadAgg rfl Tryz.isAgg68 (hel1.sees HS1.sees) Tryz.sizeOf68) ?_
        obtain ⟨v1, H1, H⟩ := of_bind H
        refine run_eq (v := Value.bool v1) rfl rfl (does_callv (vs := [Value.agg #[Value.string ((rd z_api_Sym a0 y1_0).vName), Value.int .i64 ((rd z_api_Sym a0 y1_0).vAt), Value.int .i64 ((rd z_api_Sym a0 y1_0).vSize)]]) (caps := cap1) hent1 rfl rfl (hfp1 (rd z_api_Sym a0 y1_0) _ _ HS1.toE HS1.sub HS1.sees  _ H1)) ?_
        intro w2 hE1
        have HS2 := HS1.step hE1
        try simp only [List.set_cons_zero, List.set_cons_succ]
        refine run_nil ?_
        refine norm_then ?_
        refine wp_cond_split (t := v1) rfl (fun c2 => ?_) (fun c2 => ?_)
        · replace H := of_pos H c2
          refine wp_seq ?_
          refine region ?_
          refine run_same (v := Value.int .i64 y1_0) rfl rfl (r_move rfl) ?_
          refine run_same (v := Value.int .i64 y1_0) rfl rfl (r_assign rfl) ?_
          try simp only [List.set_cons_zero, List.set_cons_succ]
          refine run_nil ?_
          refine norm_then ?_
          refine wp_ret ?_
          refine ret_block ?_
          refine ret_then ?_
          refine ret_loop ?_
          refine ret_then ?_
          obtain rfl := Option.some.inj H
          obtain rfl := Option.some.inj G1
          refine bodyPost_ret (results_1 rfl (one_tmp rfl)) rfl ?_
          exact ⟨rfl, HS2.toE⟩
        · replace H := of_neg H (nt c2)
          refine wp_skip ?_
          refine norm_block ?_
          refine norm_then ?_
          refine region ?_
          refine run_same (v := Value.int .i64 (IntKind.wrap .i64 (y1_0 + 1))) rfl rfl (r_bin rfl rfl rfl) ?_
          refine run_same (v := Value.int .i64 (IntKind.wrap .i64 (y1_0 + 1))) rfl rfl (r_move rfl) ?_
          try simp only [List.set_cons_zero, List.set_cons_succ]
          refine run_nil ?_
          refine again m [uy1_4, Value.int .i64 y1_0, Value.int .i64 (IntKind.wrap .i64 (y1_0 + 1)), Value.bool (decide (y1_0 < (a0.length : Int))), Value.int .i64 y1_0, Value.func (.func fid1) #[] cap1.toArray, Value.slice A0_0 a0.length c0_0, Value.int .i64 y1_0, Value.pointer (some (Addr.add ad1 (y1_0.toNat * 3))), Value.agg #[Value.string ((rd z_api_Sym a0 y1_0).vName), Value.int .i64 ((rd z_api_Sym a0 y1_0).vAt), Value.int .i64 ((rd z_api_Sym a0 y1_0).vSize)], Value.bool v1, uy1_17, Value.int .i64 (IntKind.wrap .i64 (y1_0 + 1))] (Nat.lt_succ_self m) (by simp only [patch, List.set_cons_zero, List.set_cons_succ]) ⟨(IntKind.wrap .i64 (y1_0 + 1)), _, _, _, _, _, _, _, _, _, _, _, _, rfl, H, HS2⟩
      · replace H := of_neg H (nt c1)
        refine wp_exit ?_
        refine exit_then ?_
        obtain rfl := Option.some.inj H
        refine leave [uy1_4, uy1_5, Value.int .i64 y1_0, Value.bool (decide (y1_0 < (a0.length : Int))), uy1_10, uy1_11, uy1_12, uy1_13, uy1_14, uy1_15, uy1_16, uy1_17, uy1_18] (by simp only [patch, List.set_cons_zero, List.set_cons_succ]) ⟨_, rfl, _, _, _, _, _, _, _, _, _, _, _, _, _, rfl, HS1⟩
  · rintro us w3 ⟨s1, rfl, uo1_4, uo1_5, uo1_8, uo1_9, uo1_10, uo1_11, uo1_12, uo1_13, uo1_14, uo1_15, uo1_16, uo1_17, uo1_18, rfl, HS3⟩
    replace H := G1
    clear G1
    try simp only [patch, List.set_cons_zero, List.set_cons_succ]
    refine norm_then ?_
    refine wp_seq ?_
    refine region ?_
    refine run_same (v := Value.int .i64 (-1)) rfl rfl (r_assign rfl) ?_
    try simp only [List.set_cons_zero, List.set_cons_succ]
    refine run_nil ?_
    refine norm_then ?_
    refine wp_ret ?_
    obtain rfl := Option.some.inj H
    refine bodyPost_ret (results_1 rfl (one_tmp rfl)) rfl ?_
    exact ⟨rfl, HS3.toE⟩

end Go.Proofs.YtecpbadkdpbkpaaGreatDoor
namespace Go.Proofs.YtecpbadkdpbkpaaGreatDoor
open Go.RowKit Go.M
def image_Find_1.f (a0 : api_Sym) (x0 : Int) : Option (Bool) := some ((decide (a0.vAt ≤ x0)) && (decide ((IntKind.wrap .u64 ((IntKind.wrap .u64 x0) - (IntKind.wrap .u64 a0.vAt))) < (IntKind.wrap .u64 (iMax a0.vSize 0)))))
set_option maxRecDepth 20000 in
set_option maxHeartbeats 4000000 in
theorem image_Find_1.calls (a0 : api_Sym) (x0 : Int) (bx0 : Nat) {h0 : View} {w0 : World} (hv : Sees h0 w0) (hx0 : w0.heap[bx0]? = some (.cells #[Value.int .i64 x0] 2 (0, 0))) {r : Bool} (H : image_Find_1.f a0 x0 = some r) : Calls Tryz.prog 47 #[Value.agg #[Value.string a0.vName, Value.int .i64 a0.vAt, Value.int .i64 a0.vSize], Value.pointer (some ⟨bx0, 0, none⟩)] w0 (fun e w1 => e = .returned (Value.bool r) ∧ Ext w0 w1) := by
  unfold image_Find_1.f at H
  have HS : St [] h0 w0 h0 [] w0 := St.init hv
  go_enter Tryz.func47, Tryz.ntmps47
  refine wp_seq ?_
  refine region ?_
  refine run_ex rfl rfl (does_box (cs := #[Value.string a0.vName, Value.int .i64 a0.vAt, Value.int .i64 a0.vSize]) rfl rfl) ?_
  rintro w1 _ hE1 ⟨b1, rfl, ge1, hb1⟩
  have HS1 := HS.new hE1 ge1 hb1
  refine run_same (v := Value.bool false) rfl rfl (r_assign rfl) ?_
  try simp only [List.set_cons_zero, List.set_cons_succ]
  refine run_nil ?_
  refine norm_then ?_
  refine wp_seq ?_
  refine region ?_
  refine run_same (v := Value.pointer (some ⟨b1, 1, none⟩)) rfl rfl (r_fieldBox (n := 1) (o' := 1) rfl Tryz.runUnderlying68 rfl Tryz.sizeOf2 (by decide) rfl) ?_
  refine run_same (v := Value.int .i64 a0.vAt) rfl rfl (r_loadBox rfl Tryz.isAgg2 (HS1.look 0 rfl) rfl) ?_
  refine run_same (v := Value.int .i64 x0) rfl rfl (r_loadBox rfl Tryz.isAgg2 (heap_ext hx0 HS1.toE) rfl) ?_
  refine run_same (v := Value.bool (decide (a0.vAt ≤ x0))) rfl rfl (r_bin rfl rfl rfl) ?_
  refine run_frame (by simp only [List.set_cons_zero, List.set_cons_succ]; rfl) ?_
  refine run_same (v := Value.bool (decide (a0.vAt ≤ x0))) rfl rfl (r_move rfl) ?_
  refine run_g_same (b := (decide (a0.vAt ≤ x0))) (c := true) (v := Value.int .i64 x0) rfl rfl rfl rfl (fun hg => (r_loadBox rfl Tryz.isAgg2 (heap_ext hx0 HS1.toE) rfl)) ?_
  refine run_g_same (b := (decide (a0.vAt ≤ x0))) (c := true) (v := Value.int .u64 (IntKind.wrap .u64 x0)) rfl rfl rfl rfl (fun hg => (r_conv ((show _ = gv (true && ((decide (a0.vAt ≤ x0)) == true)) (Value.int .i64 x0) from rfl).trans (gv_t hg)) Tryz.runUnderlying2 Tryz.runUnderlying71)) ?_
  refine run_g_same (b := (decide (a0.vAt ≤ x0))) (c := true) (v := Value.pointer (some ⟨b1, 1, none⟩)) rfl rfl rfl rfl (fun hg => (r_fieldBox (n := 1) (o' := 1) rfl Tryz.runUnderlying68 rfl Tryz.sizeOf2 (by decide) rfl)) ?_
  refine run_frame (by simp only [List.set_cons_zero, List.set_cons_succ]; rfl) ?_
  refine run_g_same (b := (decide (a0.vAt ≤ x0))) (c := true) (v := Value.int .i64 a0.vAt) rfl rfl rfl rfl (fun hg => (r_loadBox ((show _ = gv (true && ((decide (a0.vAt ≤ x0)) == true)) (Value.pointer (some ⟨b1, 1, none⟩)) from rfl).trans (gv_t hg)) Tryz.isAgg2 (HS1.look 0 rfl) rfl)) ?_
  refine run_g_same (b := (decide (a0.vAt ≤ x0))) (c := true) (v := Value.int .u64 (IntKind.wrap .u64 a0.vAt)) rfl rfl rfl rfl (fun hg => (r_conv ((show _ = gv (true && ((decide (a0.vAt ≤ x0)) == true)) (Value.int .i64 a0.vAt) from rfl).trans (gv_t hg)) Tryz.runUnderlying2 Tryz.runUnderlying71)) ?_
  refine run_g_same (b := (decide (a0.vAt ≤ x0))) (c := true) (v := Value.int .u64 (IntKind.wrap .u64 ((IntKind.wrap .u64 x0) - (IntKind.wrap .u64 a0.vAt)))) rfl rfl rfl rfl (fun hg => (r_bin ((show _ = gv (true && ((decide (a0.vAt ≤ x0)) == true)) (Value.int .u64 (IntKind.wrap .u64 x0)) from rfl).trans (gv_t hg)) ((show _ = gv (true && ((decide (a0.vAt ≤ x0)) == true)) (Value.int .u64 (IntKind.wrap .u64 a0.vAt)) from rfl).trans (gv_t hg)) rfl)) ?_
  refine run_g_same (b := (decide (a0.vAt ≤ x0))) (c := true) (v := Value.pointer (some ⟨b1, 2, none⟩)) rfl rfl rfl rfl (fun hg => (r_fieldBox (n := 1) (o' := 2) rfl Tryz.runUnderlying68 rfl Tryz.sizeOf2 (by decide) rfl)) ?_
  refine run_frame (by simp only [List.set_cons_zero, List.set_cons_succ]; rfl) ?_
  refine run_g_same (b := (decide (a0.vAt ≤ x0))) (c := true) (v := Value.int .i64 a0.vSize) rfl rfl rfl rfl (fun hg => (r_loadBox ((show _ = gv (true && ((decide (a0.vAt ≤ x0)) == true)) (Value.pointer (some ⟨b1, 2, none⟩)) from rfl).trans (gv_t hg)) Tryz.isAgg2 (HS1.look 0 rfl) rfl)) ?_
  refine run_g_same (b := (decide (a0.vAt ≤ x0))) (c := true) (v := Value.int .i64 (iMax a0.vSize 0)) rfl rfl rfl rfl (fun hg => (r_max ((show _ = gv (true && ((decide (a0.vAt ≤ x0)) == true)) (Value.int .i64 a0.vSize) from rfl).trans (gv_t hg)) rfl)) ?_
  refine run_g_same (b := (decide (a0.vAt ≤ x0))) (c := true) (v := Value.int .u64 (IntKind.wrap .u64 (iMax a0.vSize 0))) rfl rfl rfl rfl (fun hg => (r_conv ((show _ = gv (true && ((decide (a0.vAt ≤ x0)) == true)) (Value.int .i64 (iMax a0.vSize 0)) from rfl).trans (gv_t hg)) Tryz.runUnderlying2 Tryz.runUnderlying71)) ?_
  refine run_g_same (b := (decide (a0.vAt ≤ x0))) (c := true) (v := Value.bool (decide ((IntKind.wrap .u64 ((IntKind.wrap .u64 x0) - (IntKind.wrap .u64 a0.vAt))) < (IntKind.wrap .u64 (iMax a0.vSize 0))))) rfl rfl rfl rfl (fun hg => (r_bin ((show _ = gv (true && ((decide (a0.vAt ≤ x0)) == true)) (Value.int .u64 (IntKind.wrap .u64 ((IntKind.wrap .u64 x0) - (IntKind.wrap .u64 a0.vAt)))) from rfl).trans (gv_t hg)) ((show _ = gv (true && ((decide (a0.vAt ≤ x0)) == true)) (Value.int .u64 (IntKind.wrap .u64 (iMax a0.vSize 0))) from rfl).trans (gv_t hg)) rfl)) ?_
  refine run_frame (by simp only [List.set_cons_zero, List.set_cons_succ]; rfl) ?_
  refine run_same (v := Value.bool ((decide (a0.vAt ≤ x0)) && (decide ((IntKind.wrap .u64 ((IntKind.wrap .u64 x0) - (IntKind.wrap .u64 a0.vAt))) < (IntKind.wrap .u64 (iMax a0.vSize 0)))))) rfl rfl (r_pick_and rfl (fun hp => ((show _ = gv (true && ((decide (a0.vAt ≤ x0)) == true)) (Value.bool (decide ((IntKind.wrap .u64 ((IntKind.wrap .u64 x0) - (IntKind.wrap .u64 a0.vAt))) < (IntKind.wrap .u64 (iMax a0.vSize 0))))) from rfl).trans (gv_t (and_i rfl hp)))) rfl) ?_
  refine run_same (v := Value.bool ((decide (a0.vAt ≤ x0)) && (decide ((IntKind.wrap .u64 ((IntKind.wrap .u64 x0) - (IntKind.wrap .u64 a0.vAt))) < (IntKind.wrap .u64 (iMax a0.vSize 0)))))) rfl rfl (r_assign rfl) ?_
  try simp only [List.set_cons_zero, List.set_cons_succ]
  refine run_nil ?_
  refine norm_then ?_
  refine wp_ret ?_
  obtain rfl := Option.some.inj H
  refine bodyPost_ret (results_1 rfl (one_tmp rfl)) rfl ?_
  exact ⟨rfl, HS1.toE⟩

end Go.Proofs.YtecpbadkdpbkpaaGreatDoor
namespace Go.Proofs.YtecpbadkdpbkpaaGreatDoor
open Go.RowKit Go.M
def image_Find.f (k : Nat) (a0 : List api_Sym) (a1 : Int) : Option (Int × Int × Bool) := (slices_IndexFunc_api_Sym_api_Sym.f k a0 (fun z0 => image_Find_1.f z0 a1)).bind fun v1 => (if (decide (v1 < 0)) = true then (some (0, 0, false)) else (if 0 ≤ v1 ∧ v1 < a0.length then (some (v1, (IntKind.wrap .i64 (a1 - ((rd z_api_Sym a0 v1).vAt))), true)) else none))
set_option maxRecDepth 20000 in
set_option maxHeartbeats 4000000 in
theorem image_Find.calls (k : Nat) (a0 : List api_Sym) (a1 : Int) (A0_0 : Option Addr) (c0_0 : Nat) {h0 : View} {w0 : World} (hv : Sees h0 w0) (hr0_0 : Rd k_api_Sym h0 A0_0 a0) (hc0_0 : a0.length ≤ c0_0) {r : Int × Int × Bool} (H : image_Find.f k a0 a1 = some r) : Calls Tryz.prog 15 #[Value.slice A0_0 a0.length c0_0, Value.int .i64 a1] w0 (fun e w1 => e = .returned (Value.tuple #[Value.int .i64 r.1, Value.int .i64 r.2.1, Value.bool r.2.2]) ∧ Ext w0 w1) := by
  unfold image_Find.f at H
  have HS : St [] h0 w0 h0 [] w0 := St.init hv
  go_enter Tryz.func15, Tryz.ntmps15
  refine wp_seq ?_
  refine region ?_
  refine run_ex rfl rfl (does_box (cs := #[Value.int .i64 a1]) rfl rfl) ?_
  rintro w1 _ hE1 ⟨b1, rfl, ge1, hb1⟩
  have HS1 := HS.new hE1 ge1 hb1
  refine run_same (v := Value.int .i64 0) rfl rfl (r_assign rfl) ?_
  refine run_same (v := Value.int .i64 0) rfl rfl (r_assign rfl) ?_
  refine run_same (v := Value.bool false) rfl rfl (r_assign rfl) ?_
  try simp only [List.set_cons_zero, List.set_cons_succ]
  refine run_nil ?_
  refine norm_then ?_
  refine wp_seq ?_
  refine region ?_
  refine run_same (v := Value.slice A0_0 a0.length c0_0) rfl rfl (r_move rfl) ?_
  refine run_same (v := Value.func (.func 47) #[] #[Value.pointer (some ⟨b1, 0, none⟩)]) rfl rfl (r_makeFunc (vs := [Value.pointer (some ⟨b1, 0, none⟩)]) rfl) ?_
  obtain ⟨v1, H1, H⟩ := of_bind H
  refine run_eq (v := Value.int .i64 v1) rfl rfl (does_call_eq Tryz.call46 rfl rfl (slices_IndexFunc_api_Sym_api_Sym.calls k a0 (fun z0 => image_Find_1.f z0 a1) A0_0 c0_0 47 [Value.pointer (some ⟨b1, 0, none⟩)] HS1.sees hr0_0 hc0_0 Tryz.call47 (fun z0 h w hE hs hv r H => image_Find_1.calls z0 a1 b1 hv (heap_ext (HS1.look 0 rfl) hE) H) H1)) ?_
  intro w2 hE2
  have HS2 := HS1.step hE2
  refine run_same (v := Value.int .i64 v1) rfl rfl (r_assign rfl) ?_
  try simp only [List.set_cons_zero, List.set_cons_succ]
  refine run_nil ?_
  refine norm_then ?_
  refine wp_seq ?_
  refine wp_seq ?_
  refine region ?_
  refine run_same (v := Value.int .i64 v1) rfl rfl (r_move rfl) ?_
  refine run_same (v := Value.bool (decide (v1 < 0))) rfl rfl (r_bin rfl rfl rfl) ?_
  try simp only [List.set_cons_zero, List.set_cons_succ]
  refine run_nil ?_
  refine norm_then ?_
  refine wp_cond_split (t := (decide (v1 < 0))) rfl (fun c1 => ?_) (fun c1 => ?_)
  · replace H := of_pos H c1
    refine wp_seq ?_
    refine region ?_
    refine run_same (v := Value.int .i64 0) rfl rfl (r_assign rfl) ?_
    refine run_same (v := Value.int .i64 0) rfl rfl (r_assign rfl) ?_
    refine run_same (v := Value.bool false) rfl rfl (r_assign rfl) ?_
    try simp only [List.set_cons_zero, List.set_cons_succ]
    refine run_nil ?_
    refine norm_then ?_
    refine wp_ret ?_
    refine ret_then ?_
    obtain rfl := Option.some.inj H
    refine bodyPost_ret (results_3 rfl (one_tmp rfl) (one_tmp rfl) (one_tmp rfl)) rfl ?_
    exact ⟨rfl, HS2.toE⟩
  · replace H := of_neg H (nt c1)
    refine wp_skip ?_
    refine norm_then ?_
    refine wp_seq ?_
    obtain ⟨hi1, H⟩ := of_ite H
    obtain ⟨ad1, e1, hel1⟩ := ld_api_Sym hr0_0 hi1.1 hi1.2
    refine drawn [.eq (Value.int .i64 v1), .eq (Value.int .i64 a1), .eq (Value.slice A0_0 a0.length c0_0), .eq (Value.int .i64 v1), .eq (Value.pointer (some (Addr.add ad1 (v1.toNat * 3)))), .eq (Value.pointer (some (Addr.add (Addr.add ad1 (v1.toNat * 3)) 1))), .eq (Value.int .i64 ((rd z_api_Sym a0 v1).vAt)), .eq (Value.int .i64 (IntKind.wrap .i64 (a1 - ((rd z_api_Sym a0 v1).vAt)))), .eq (Value.int .i64 v1)] [13, 14, 15, 16, 17, 18, 19, 20, 4] hmix (by kernel_rfl) rfl (stable_eq (stable_eq (stable_eq (stable_eq (stable_eq (stable_eq (stable_eq (stable_eq (stable_eq stable_nil))))))))) ⟨ob_plain rfl (fun a' w' hE hk => by have HSd := HS2.step hE; exact does_eq (r_move (show _ = Value.int .i64 v1 from hk 7 rfl))), ob_plain rfl (fun a' w' hE hk => by have HSd := HS2.step hE; exact does_eq (r_loadBox (show _ = Value.pointer (some ⟨b1, 0, none⟩) from hk 3 rfl) Tryz.isAgg2 (HSd.look 0 rfl) rfl)), ob_plain rfl (fun a' w' hE hk => by have HSd := HS2.step hE; exact does_eq (r_move (show _ = Value.slice A0_0 a0.length c0_0 from hk 0 rfl))), ob_plain rfl (fun a' w' hE hk => by have HSd := HS2.step hE; exact does_eq (r_move (show _ = Value.int .i64 v1 from hk 7 rfl))), ob_plain rfl (fun a' w' hE hk => by have HSd := HS2.step hE; exact does_eq (r_indexA (sz := 3) (show _ = Value.slice A0_0 a0.length c0_0 from hk 15 rfl) e1 (show _ = Value.int .i64 v1 from hk 16 rfl) hi1.1 hi1.2 Tryz.runUnderlying49 Tryz.sizeOf68)), ob_plain rfl (fun a' w' hE hk => by have HSd := HS2.step hE; exact does_eq (r_fieldEl (n := 1) (o' := 1) (show _ = Value.pointer (some (Addr.add ad1 (v1.toNat * 3))) from hk 17 rfl) Tryz.runUnderlying68 rfl Tryz.sizeOf2 (by decide) rfl)), ob_plain rfl (fun a' w' hE hk => by have HSd := HS2.step hE; exact does_eq (r_load (show _ = Value.pointer (some (Addr.add (Addr.add ad1 (v1.toNat * 3)) 1)) from hk 18 rfl) Tryz.isAgg2 (hel1.cell HSd.sees 1 rfl))), ob_plain rfl (fun a' w' hE hk => by have HSd := HS2.step hE; exact does_eq (r_bin (show _ = Value.int .i64 a1 from hk 14 rfl) (show _ = Value.int .i64 ((rd z_api_Sym a0 v1).vAt) from hk 19 rfl) rfl)), ob_plain rfl (fun a' w' hE hk => by have HSd := HS2.step hE; exact does_eq (r_assign (show _ = Value.int .i64 v1 from hk 13 rfl))), trivial⟩ ?_
    intro w3 hE3
    simp only [List.zip_cons_cons, List.zip_nil_left, List.zip_nil_right, finL, List.set_cons_zero, List.set_cons_succ, List.length_cons, List.length_nil, List.drop_succ_cons, List.drop_zero, Nat.zero_add, Nat.reduceAdd]
    have HS3 := HS2.step hE3
    refine run_same (v := Value.int .i64 (IntKind.wrap .i64 (a1 - ((rd z_api_Sym a0 v1).vAt)))) rfl rfl (r_assign rfl) ?_
    refine run_same (v := Value.bool true) rfl rfl (r_assign rfl) ?_
    try simp only [List.set_cons_zero, List.set_cons_succ]
    refine run_nil ?_
    refine norm_then ?_
    refine wp_ret ?_
    obtain rfl := Option.some.inj H
    refine bodyPost_ret (results_3 rfl (one_tmp rfl) (one_tmp rfl) (one_tmp rfl)) rfl ?_
    exact ⟨rfl, HS3.toE⟩

end Go.Proofs.YtecpbadkdpbkpaaGreatDoor
namespace Go.Proofs.YtecpbadkdpbkpaaGreatDoor
open Go.RowKit Go.M
def taplineref09_covers.f (a0 : api_Sym) (a1 : Int) : Option (Bool) := some (((decide (a0.vAt ≤ a1)) && (decide (a0.vSize > 0))) && (decide ((IntKind.wrap .u64 ((IntKind.wrap .u64 a1) - (IntKind.wrap .u64 a0.vAt))) < (IntKind.wrap .u64 a0.vSize))))
set_option maxRecDepth 20000 in
set_option maxHeartbeats 4000000 in
theorem taplineref09_covers.calls (a0 : api_Sym) (a1 : Int)  {h0 : View} {w0 : World} (hv : Sees h0 w0) {r : Bool} (H : taplineref09_covers.f a0 a1 = some r) : Calls Tryz.prog 48 #[Value.agg #[Value.string a0.vName, Value.int .i64 a0.vAt, Value.int .i64 a0.vSize], Value.int .i64 a1] w0 (fun e w1 => e = .returned (Value.bool r) ∧ Ext w0 w1) := by
  unfold taplineref09_covers.f at H
  have HS : St [] h0 w0 h0 [] w0 := St.init hv
  go_enter Tryz.func48, Tryz.ntmps48
  refine wp_seq ?_
  refine region ?_
  refine run_ex rfl rfl (does_box (cs := #[Value.string a0.vName, Value.int .i64 a0.vAt, Value.int .i64 a0.vSize]) rfl rfl) ?_
  rintro w1 _ hE1 ⟨b1, rfl, ge1, hb1⟩
  have HS1 := HS.new hE1 ge1 hb1
  refine run_same (v := Value.bool false) rfl rfl (r_assign rfl) ?_
  try simp only [List.set_cons_zero, List.set_cons_succ]
  refine run_nil ?_
  refine norm_then ?_
  refine wp_seq ?_
  refine region ?_
  refine run_same (v := Value.pointer (some ⟨b1, 1, none⟩)) rfl rfl (r_fieldBox (n := 1) (o' := 1) rfl Tryz.runUnderlying68 rfl Tryz.sizeOf2 (by decide) rfl) ?_
  refine run_same (v := Value.int .i64 a0.vAt) rfl rfl (r_loadBox rfl Tryz.isAgg2 (HS1.look 0 rfl) rfl) ?_
  refine run_same (v := Value.int .i64 a1) rfl rfl (r_move rfl) ?_
  refine run_same (v := Value.bool (decide (a0.vAt ≤ a1))) rfl rfl (r_bin rfl rfl rfl) ?_
  refine run_frame (by simp only [List.set_cons_zero, List.set_cons_succ]; rfl) ?_
  refine run_same (v := Value.bool (decide (a0.vAt ≤ a1))) rfl rfl (r_move rfl) ?_
  refine run_g_same (b := (decide (a0.vAt ≤ a1))) (c := true) (v := Value.pointer (some ⟨b1, 2, none⟩)) rfl rfl rfl rfl (fun hg => (r_fieldBox (n := 1) (o' := 2) rfl Tryz.runUnderlying68 rfl Tryz.sizeOf2 (by decide) rfl)) ?_
  refine run_g_same (b := (decide (a0.vAt ≤ a1))) (c := true) (v := Value.int .i64 a0.vSize) rfl rfl rfl rfl (fun hg => (r_loadBox ((show _ = gv (true && ((decide (a0.vAt ≤ a1)) == true)) (Value.pointer (some ⟨b1, 2, none⟩)) from rfl).trans (gv_t hg)) Tryz.isAgg2 (HS1.look 0 rfl) rfl)) ?_
  refine run_g_same (b := (decide (a0.vAt ≤ a1))) (c := true) (v := Value.bool (decide (a0.vSize > 0))) rfl rfl rfl rfl (fun hg => (r_bin ((show _ = gv (true && ((decide (a0.vAt ≤ a1)) == true)) (Value.int .i64 a0.vSize) from rfl).trans (gv_t hg)) rfl rfl)) ?_
  refine run_frame (by simp only [List.set_cons_zero, List.set_cons_succ]; rfl) ?_
  refine run_same (v := Value.bool ((decide (a0.vAt ≤ a1)) && (decide (a0.vSize > 0)))) rfl rfl (r_pick_and rfl (fun hp => ((show _ = gv (true && ((decide (a0.vAt ≤ a1)) == true)) (Value.bool (decide (a0.vSize > 0))) from rfl).trans (gv_t (and_i rfl hp)))) rfl) ?_
  refine run_same (v := Value.bool ((decide (a0.vAt ≤ a1)) && (decide (a0.vSize > 0)))) rfl rfl (r_move rfl) ?_
  refine run_g_same (b := ((decide (a0.vAt ≤ a1)) && (decide (a0.vSize > 0)))) (c := true) (v := Value.int .i64 a1) rfl rfl rfl rfl (fun hg => (r_move rfl)) ?_
  refine run_g_same (b := ((decide (a0.vAt ≤ a1)) && (decide (a0.vSize > 0)))) (c := true) (v := Value.int .u64 (IntKind.wrap .u64 a1)) rfl rfl rfl rfl (fun hg => (r_conv ((show _ = gv (true && (((decide (a0.vAt ≤ a1)) && (decide (a0.vSize > 0))) == true)) (Value.int .i64 a1) from rfl).trans (gv_t hg)) Tryz.runUnderlying2 Tryz.runUnderlying71)) ?_
  refine run_frame (by simp only [List.set_cons_zero, List.set_cons_succ]; rfl) ?_
  refine run_g_same (b := ((decide (a0.vAt ≤ a1)) && (decide (a0.vSize > 0)))) (c := true) (v := Value.pointer (some ⟨b1, 1, none⟩)) rfl rfl rfl rfl (fun hg => (r_fieldBox (n := 1) (o' := 1) rfl Tryz.runUnderlying68 rfl Tryz.sizeOf2 (by decide) rfl)) ?_
  refine run_g_same (b := ((decide (a0.vAt ≤ a1)) && (decide (a0.vSize > 0)))) (c := true) (v := Value.int .i64 a0.vAt) rfl rfl rfl rfl (fun hg => (r_loadBox ((show _ = gv (true && (((decide (a0.vAt ≤ a1)) && (decide (a0.vSize > 0))) == true)) (Value.pointer (some ⟨b1, 1, none⟩)) from rfl).trans (gv_t hg)) Tryz.isAgg2 (HS1.look 0 rfl) rfl)) ?_
  refine run_g_same (b := ((decide (a0.vAt ≤ a1)) && (decide (a0.vSize > 0)))) (c := true) (v := Value.int .u64 (IntKind.wrap .u64 a0.vAt)) rfl rfl rfl rfl (fun hg => (r_conv ((show _ = gv (true && (((decide (a0.vAt ≤ a1)) && (decide (a0.vSize > 0))) == true)) (Value.int .i64 a0.vAt) from rfl).trans (gv_t hg)) Tryz.runUnderlying2 Tryz.runUnderlying71)) ?_
  refine run_g_same (b := ((decide (a0.vAt ≤ a1)) && (decide (a0.vSize > 0)))) (c := true) (v := Value.int .u64 (IntKind.wrap .u64 ((IntKind.wrap .u64 a1) - (IntKind.wrap .u64 a0.vAt)))) rfl rfl rfl rfl (fun hg => (r_bin ((show _ = gv (true && (((decide (a0.vAt ≤ a1)) && (decide (a0.vSize > 0))) == true)) (Value.int .u64 (IntKind.wrap .u64 a1)) from rfl).trans (gv_t hg)) ((show _ = gv (true && (((decide (a0.vAt ≤ a1)) && (decide (a0.vSize > 0))) == true)) (Value.int .u64 (IntKind.wrap .u64 a0.vAt)) from rfl).trans (gv_t hg)) rfl)) ?_
  refine run_frame (by simp only [List.set_cons_zero, List.set_cons_succ]; rfl) ?_
  refine run_g_same (b := ((decide (a0.vAt ≤ a1)) && (decide (a0.vSize > 0)))) (c := true) (v := Value.pointer (some ⟨b1, 2, none⟩)) rfl rfl rfl rfl (fun hg => (r_fieldBox (n := 1) (o' := 2) rfl Tryz.runUnderlying68 rfl Tryz.sizeOf2 (by decide) rfl)) ?_
  refine run_g_same (b := ((decide (a0.vAt ≤ a1)) && (decide (a0.vSize > 0)))) (c := true) (v := Value.int .i64 a0.vSize) rfl rfl rfl rfl (fun hg => (r_loadBox ((show _ = gv (true && (((decide (a0.vAt ≤ a1)) && (decide (a0.vSize > 0))) == true)) (Value.pointer (some ⟨b1, 2, none⟩)) from rfl).trans (gv_t hg)) Tryz.isAgg2 (HS1.look 0 rfl) rfl)) ?_
  refine run_g_same (b := ((decide (a0.vAt ≤ a1)) && (decide (a0.vSize > 0)))) (c := true) (v := Value.int .u64 (IntKind.wrap .u64 a0.vSize)) rfl rfl rfl rfl (fun hg => (r_conv ((show _ = gv (true && (((decide (a0.vAt ≤ a1)) && (decide (a0.vSize > 0))) == true)) (Value.int .i64 a0.vSize) from rfl).trans (gv_t hg)) Tryz.runUnderlying2 Tryz.runUnderlying71)) ?_
  refine run_g_same (b := ((decide (a0.vAt ≤ a1)) && (decide (a0.vSize > 0)))) (c := true) (v := Value.bool (decide ((IntKind.wrap .u64 ((IntKind.wrap .u64 a1) - (IntKind.wrap .u64 a0.vAt))) < (IntKind.wrap .u64 a0.vSize)))) rfl rfl rfl rfl (fun hg => (r_bin ((show _ = gv (true && (((decide (a0.vAt ≤ a1)) && (decide (a0.vSize > 0))) == true)) (Value.int .u64 (IntKind.wrap .u64 ((IntKind.wrap .u64 a1) - (IntKind.wrap .u64 a0.vAt)))) from rfl).trans (gv_t hg)) ((show _ = gv (true && (((decide (a0.vAt ≤ a1)) && (decide (a0.vSize > 0))) == true)) (Value.int .u64 (IntKind.wrap .u64 a0.vSize)) from rfl).trans (gv_t hg)) rfl)) ?_
  refine run_frame (by simp only [List.set_cons_zero, List.set_cons_succ]; rfl) ?_
  refine run_same (v := Value.bool (((decide (a0.vAt ≤ a1)) && (decide (a0.vSize > 0))) && (decide ((IntKind.wrap .u64 ((IntKind.wrap .u64 a1) - (IntKind.wrap .u64 a0.vAt))) < (IntKind.wrap .u64 a0.vSize))))) rfl rfl (r_pick_and rfl (fun hp => ((show _ = gv (true && (((decide (a0.vAt ≤ a1)) && (decide (a0.vSize > 0))) == true)) (Value.bool (decide ((IntKind.wrap .u64 ((IntKind.wrap .u64 a1) - (IntKind.wrap .u64 a0.vAt))) < (IntKind.wrap .u64 a0.vSize)))) from rfl).trans (gv_t (and_i rfl hp)))) rfl) ?_
  refine run_same (v := Value.bool (((decide (a0.vAt ≤ a1)) && (decide (a0.vSize > 0))) && (decide ((IntKind.wrap .u64 ((IntKind.wrap .u64 a1) - (IntKind.wrap .u64 a0.vAt))) < (IntKind.wrap .u64 a0.vSize))))) rfl rfl (r_assign rfl) ?_
  try simp only [List.set_cons_zero, List.set_cons_succ]
  refine run_nil ?_
  refine norm_then ?_
  refine wp_ret ?_
  obtain rfl := Option.some.inj H
  refine bodyPost_ret (results_1 rfl (one_tmp rfl)) rfl ?_
  exact ⟨rfl, HS1.toE⟩

end Go.Proofs.YtecpbadkdpbkpaaGreatDoor
namespace Go.Proofs.YtecpbadkdpbkpaaGreatDoor
open Go.RowKit Go.M
def taplineref09_Find.l0 (a0 : List api_Sym) (a1 : Int) : Nat → Int → Option ((Int × Int × Bool) ⊕ (Unit))
  | 0, _ => none
  | m + 1, y1_0 => if (decide (y1_0 < (a0.length : Int))) = true then (if 0 ≤ y1_0 ∧ y1_0 < a0.length then ((taplineref09_covers.f (rd z_api_Sym a0 y1_0) a1).bind fun v1 => (if v1 = true then (if 0 ≤ y1_0 ∧ y1_0 < a0.length then (some (.inl (y1_0, (IntKind.wrap .i64 (a1 - ((rd z_api_Sym a0 y1_0).vAt))), true))) else none) else (taplineref09_Find.l0 a0 a1 m (IntKind.wrap .i64 (y1_0 + 1))))) else none) else (some (.inr ()))
def taplineref09_Find.f (k : Nat) (a0 : List api_Sym) (a1 : Int) : Option (Int × Int × Bool) := (taplineref09_Find.l0 a0 a1 k 0).bind fun xx1 => (match xx1 with | .inl r => some r | .inr s1 => some (0, 0, false))
set_option maxRecDepth 20000 in
set_option maxHeartbeats 4000000 in
theorem taplineref09_Find.calls (k : Nat) (a0 : List api_Sym) (a1 : Int) (A0_0 : Option Addr) (c0_0 : Nat) {h0 : View} {w0 : World} (hv : Sees h0 w0) (hr0_0 : Rd k_api_Sym h0 A0_0 a0) (hc0_0 : a0.length ≤ c0_0) {r : Int × Int × Bool} (H : taplineref09_Find.f k a0 a1 = some r) : Calls Tryz.prog 16 #[Value.slice A0_0 a0.length c0_0, Value.int .i64 a1] w0 (fun e w1 => e = .returned (Value.tuple #[Value.int .i64 r.1, Value.int .i64 r.2.1, Value.bool r.2.2]) ∧ Ext w0 w1) := by
  unfold taplineref09_Find.f at H
  have HS : St [] h0 w0 h0 [] w0 := St.init hv
  go_enter Tryz.func16, Tryz.ntmps16
  refine wp_seq ?_
  refine region ?_
  refine run_same (v := Value.int .i64 0) rfl rfl (r_assign rfl) ?_
  refine run_same (v := Value.int .i64 0) rfl rfl (r_assign rfl) ?_
  refine run_same (v := Value.bool false) rfl rfl (r_assign rfl) ?_
  try simp only [List.set_cons_zero, List.set_cons_succ]
  refine run_nil ?_
  refine norm_then ?_
  refine wp_seq ?_
  refine wp_seq ?_
  refine region ?_
  refine run_same (v := Value.int .i64 0) rfl rfl (r_assign rfl) ?_
  try simp only [List.set_cons_zero, List.set_cons_succ]
  refine run_nil ?_
  refine norm_then ?_
  obtain ⟨xx1, H, G1⟩ := of_bind H
  refine loop_patch [4, 5, 6, 7, 8, 9, 10, 11, 12, 13, 14, 15, 16, 17, 18, 19, 20, 21, 22, 23, 24, 25, 26, 27] (fun m us w' => ∃ (y1_0 : Int), ∃ (uy1_4 : Value), ∃ (uy1_5 : Value), ∃ (uy1_6 : Value), ∃ (uy1_8 : Value), ∃ (uy1_9 : Value), ∃ (uy1_10 : Value), ∃ (uy1_11 : Value), ∃ (uy1_12 : Value), ∃ (uy1_13 : Value), ∃ (uy1_14 : Value), ∃ (uy1_15 : Value), ∃ (uy1_16 : Value), ∃ (uy1_17 : Value), ∃ (uy1_18 : Value), ∃ (uy1_19 : Value), ∃ (uy1_20 : Value), ∃ (uy1_21 : Value), ∃ (uy1_22 : Value), ∃ (uy1_23 : Value), ∃ (uy1_24 : Value), ∃ (uy1_25 : Value), ∃ (uy1_26 : Value), ∃ (uy1_27 : Value), us = [uy1_4, uy1_5, uy1_6, Value.int .i64 y1_0, uy1_8, uy1_9, uy1_10, uy1_11, uy1_12, uy1_13, uy1_14, uy1_15, uy1_16, uy1_17, uy1_18, uy1_19, uy1_20, uy1_21, uy1_22, uy1_23, uy1_24, uy1_25, uy1_26, uy1_27] ∧ taplineref09_Find.l0 a0 a1 m y1_0 = some xx1 ∧ St [] h0 w0 h0 [] w') (fun us w' => ∃ (s1 : Unit), xx1 = .inr s1 ∧ ∃ (uo1_4 : Value), ∃ (uo1_5 : Value), ∃ (uo1_6 : Value), ∃ (uo1_7 : Value), ∃ (uo1_8 : Value), ∃ (uo1_9 : Value), ∃ (uo1_10 : Value), ∃ (uo1_11 : Value), ∃ (uo1_12 : Value), ∃ (uo1_13 : Value), ∃ (uo1_14 : Value), ∃ (uo1_15 : Value), ∃ (uo1_16 : Value), ∃ (uo1_17 : Value), ∃ (uo1_18 : Value), ∃ (uo1_19 : Value), ∃ (uo1_20 : Value), ∃ (uo1_21 : Value), ∃ (uo1_22 : Value), ∃ (uo1_23 : Value), ∃ (uo1_24 : Value), ∃ (uo1_25 : Value), ∃ (uo1_26 : Value), ∃ (uo1_27 : Value), us = [uo1_4, uo1_5, uo1_6, uo1_7, uo1_8, uo1_9, uo1_10, uo1_11, uo1_12, uo1_13, uo1_14, uo1_15, uo1_16, uo1_17, uo1_18, uo1_19, uo1_20, uo1_21, uo1_22, uo1_23, uo1_24, uo1_25, uo1_26, uo1_27] ∧ St [] h0 w0 h0 [] w') k [Value.int .i64 0, Value.int .i64 0, Value.bool false, Value.int .i64 0, undef, undef, undef, undef, undef, undef, undef, undef, undef, undef, undef, undef, undef, undef, undef, undef, undef, undef, undef, undef] (by simp only [patch, List.set_cons_zero, List.set_cons_succ]) ⟨0, _, _, _, _, _, _, _, _, _, _, _, _, _, _, _, _, _, _, _, _, _, _, _, rfl, H, HS⟩ ?_ ?_
  · rintro m us w1 ⟨y1_0, uy1_4, uy1_5, uy1_6, uy1_8, uy1_9, uy1_10, uy1_11, uy1_12, uy1_13, uy1_14, uy1_15, uy1_16, uy1_17, uy1_18, uy1_19, uy1_20, uy1_21, uy1_22, uy1_23, uy1_24, uy1_25, uy1_26, uy1_27, rfl, H, HS1⟩
    cases m with
    | zero => exact absurd H (by simp [taplineref09_Find.l0])
    | succ m =>
      rw [taplineref09_Find.l0] at H
      try simp only [patch, List.set_cons_zero, List.set_cons_succ]
      refine wp_seq ?_
      refine wp_seq ?_
      refine region ?_
      refine run_same (v := Value.int .i64 y1_0) rfl rfl (r_move rfl) ?_
      refine run_same (v := Value.slice A0_0 a0.length c0_0) rfl rfl (r_move rfl) ?_
      refine run_same (v := Value.int .i64 (a0.length : Int)) rfl rfl (r_len rfl Tryz.runUnderlying49) ?_
      refine run_same (v := Value.bool (decide (y1_0 < (a0.length : Int)))) rfl rfl (r_bin rfl rfl rfl) ?_
      try simp only [List.set_cons_zero, List.set_cons_succ]
      refine run_nil ?_
      refine norm_then ?_
      refine wp_cond_split (t := (decide (y1_0 < (a0.length : Int)))) rfl (fun c1 => ?_) (fun c1 => ?_)
      · replace H := of_pos H c1
        refine wp_skip ?_
        refine norm_then ?_
        refine wp_seq ?_
        refine wp_block ?_
        refine wp_seq ?_
        refine region ?_
        refine run_same (v := Value.slice A0_0 a0.length c0_0) rfl rfl (r_move rfl) ?_
        refine run_same (v := Value.int .i64 y1_0) rfl rfl (r_move rfl) ?_
        obtain ⟨hi1, H⟩ := of_ite H
        obtain ⟨ad1, e1, hel1⟩ := ld_api_Sym hr0_0 hi1.1 hi1.2
        refine run_same (v := Value.pointer (some (Addr.add ad1 (y1_0.toNat * 3)))) rfl rfl (r_indexA (sz := 3) rfl e1 rfl hi1.1 hi1.2 Tryz.runUnderlying49 Tryz.sizeOf68) ?_
        refine run_same (v := Value.agg #[Value.string ((rd z_api_Sym a0 y1_0).vName), Value.int .i64 ((rd z_api_Sym a0 y1_0).vAt), Value.int .i64 ((rd z_api_Sym a0 y1_0).vSize)]) rfl rfl (r_loadAgg rfl Tryz.isAgg68 (hel1.sees HS1.sees) Tryz.sizeOf68) ?_
        refine run_frame (by simp only [List.set_cons_zero, List.set_cons_succ]; rfl) ?_
        refine run_same (v := Value.int .i64 a1) rfl rfl (r_move rfl) ?_
        obtain ⟨v1, H1, H⟩ := of_bind H
        refine run_eq (v := Value.bool v1) rfl rfl (does_call_eq Tryz.call48 rfl rfl (taplineref09_covers.calls (rd z_api_Sym a0 y1_0) a1 HS1.sees H1)) ?_
        intro w2 hE1
        have HS2 := HS1.step hE1
        try simp only [List.set_cons_zero, List.set_cons_succ]
        refine run_nil ?_
        refine norm_then ?_
        refine wp_cond_split (t := v1) rfl (fun c2 => ?_) (fun c2 => ?_)
        · replace H := of_pos H c2
          refine wp_seq ?_
          obtain ⟨hi2, H⟩ := of_ite H
          obtain ⟨ad2, e2, hel2⟩ := ld_api_Sym hr0_0 hi2.1 hi2.2
          refine drawn [.eq (Value.int .i64 y1_0), .eq (Value.int .i64 a1), .eq (Value.slice A0_0 a0.length c0_0), .eq (Value.int .i64 y1_0), .eq (Value.pointer (some (Addr.add ad2 (y1_0.toNat * 3)))), .eq (Value.pointer (some (Addr.add (Addr.add ad2 (y1_0.toNat * 3)) 1))), .eq (Value.int .i64 ((rd z_api_Sym a0 y1_0).vAt)), .eq (Value.int .i64 (IntKind.wrap .i64 (a1 - ((rd z_api_Sym a0 y1_0).vAt)))), .eq (Value.int .i64 y1_0)] [20, 21, 22, 23, 24, 25, 26, 27, 4] hmix (by kernel_rfl) rfl (stable_eq (stable_eq (stable_eq (stable_eq (stable_eq (stable_eq (stable_eq (stable_eq (stable_eq stable_nil))))))))) ⟨ob_plain rfl (fun a' w' hE hk => by have HSd := HS2.step hE; exact does_eq (r_move (show _ = Value.int .i64 y1_0 from hk 7 rfl))), ob_plain rfl (fun a' w' hE hk => by have HSd := HS2.step hE; exact does_eq (r_move (show _ = Value.int .i64 a1 from hk 1 rfl))), ob_plain rfl (fun a' w' hE hk => by have HSd := HS2.step hE; exact does_eq (r_move (show _ = Value.slice A0_0 a0.length c0_0 from hk 0 rfl))), ob_plain rfl (fun a' w' hE hk => by have HSd := HS2.step hE; exact does_eq (r_move (show _ = Value.int .i64 y1_0 from hk 7 rfl))), ob_plain rfl (fun a' w' hE hk => by have HSd := HS2.step hE; exact does_eq (r_indexA (sz := 3) (show _ = Value.slice A0_0 a0.length c0_0 from hk 22 rfl) e2 (show _ = Value.int .i64 y1_0 from hk 23 rfl) hi2.1 hi2.2 Tryz.runUnderlying49 Tryz.sizeOf68)), ob_plain rfl (fun a' w' hE hk => by have HSd := HS2.step hE; exact does_eq (r_fieldEl (n := 1) (o' := 1) (show _ = Value.pointer (some (Addr.add ad2 (y1_0.toNat * 3))) from hk 24 rfl) Tryz.runUnderlying68 rfl Tryz.sizeOf2 (by decide) rfl)), ob_plain rfl (fun a' w' hE hk => by have HSd := HS2.step hE; exact does_eq (r_load (show _ = Value.pointer (some (Addr.add (Addr.add ad2 (y1_0.toNat * 3)) 1)) from hk 25 rfl) Tryz.isAgg2 (hel2.cell HSd.sees 1 rfl))), ob_plain rfl (fun a' w' hE hk => by have HSd := HS2.step hE; exact does_eq (r_bin (show _ = Value.int .i64 a1 from hk 21 rfl) (show _ = Value.int .i64 ((rd z_api_Sym a0 y1_0).vAt) from hk 26 rfl) rfl)), ob_plain rfl (fun a' w' hE hk => by have HSd := HS2.step hE; exact does_eq (r_assign (show _ = Value.int .i64 y1_0 from hk 20 rfl))), trivial⟩ ?_
          intro w3 hE2
          simp only [List.zip_cons_cons, List.zip_nil_left, List.zip_nil_right, finL, List.set_cons_zero, List.set_cons_succ, List.length_cons, List.length_nil, List.drop_succ_cons, List.drop_zero, Nat.zero_add, Nat.reduceAdd]
          have HS3 := HS2.step hE2
          refine run_same (v := Value.int .i64 (IntKind.wrap .i64 (a1 - ((rd z_api_Sym a0 y1_0).vAt)))) rfl rfl (r_assign rfl) ?_
          refine run_same (v := Value.bool true) rfl rfl (r_assign rfl) ?_
          try simp only [List.set_cons_zero, List.set_cons_succ]
          refine run_nil ?_
          refine norm_then ?_
          refine wp_ret ?_
          refine ret_block ?_
          refine ret_then ?_
          refine ret_loop ?_
          refine ret_then ?_
          obtain rfl := Option.some.inj H
          obtain rfl := Option.some.inj G1
          refine bodyPost_ret (results_3 rfl (one_tmp rfl) (one_tmp rfl) (one_tmp rfl)) rfl ?_
          exact ⟨rfl, HS3.toE⟩
        · replace H := of_neg H (nt c2)
          refine wp_skip ?_
          refine norm_block ?_
          refine norm_then ?_
          refine region ?_
          refine run_same (v := Value.int .i64 y1_0) rfl rfl (r_move rfl) ?_
          refine run_same (v := Value.int .i64 (IntKind.wrap .i64 (y1_0 + 1))) rfl rfl (r_bin rfl rfl rfl) ?_
          refine run_same (v := Value.int .i64 (IntKind.wrap .i64 (y1_0 + 1))) rfl rfl (r_assign rfl) ?_
          try simp only [List.set_cons_zero, List.set_cons_succ]
          refine run_nil ?_
          refine again m [uy1_4, uy1_5, uy1_6, Value.int .i64 (IntKind.wrap .i64 (y1_0 + 1)), Value.int .i64 y1_0, Value.slice A0_0 a0.length c0_0, Value.int .i64 (a0.length : Int), Value.bool (decide (y1_0 < (a0.length : Int))), Value.int .i64 y1_0, Value.int .i64 (IntKind.wrap .i64 (y1_0 + 1)), Value.slice A0_0 a0.length c0_0, Value.int .i64 y1_0, Value.pointer (some (Addr.add ad1 (y1_0.toNat * 3))), Value.agg #[Value.string ((rd z_api_Sym a0 y1_0).vName), Value.int .i64 ((rd z_api_Sym a0 y1_0).vAt), Value.int .i64 ((rd z_api_Sym a0 y1_0).vSize)], Value.int .i64 a1, Value.bool v1, uy1_20, uy1_21, uy1_22, uy1_23, uy1_24, uy1_25, uy1_26, uy1_27] (Nat.lt_succ_self m) (by simp only [patch, List.set_cons_zero, List.set_cons_succ]) ⟨(IntKind.wrap .i64 (y1_0 + 1)), _, _, _, _, _, _, _, _, _, _, _, _, _, _, _, _, _, _, _, _, _, _, _, rfl, H, HS2⟩
      · replace H := of_neg H (nt c1)
        refine wp_exit ?_
        refine exit_then ?_
        obtain rfl := Option.some.inj H
        refine leave [uy1_4, uy1_5, uy1_6, Value.int .i64 y1_0, Value.int .i64 y1_0, Value.slice A0_0 a0.length c0_0, Value.int .i64 (a0.length : Int), Value.bool (decide (y1_0 < (a0.length : Int))), uy1_12, uy1_13, uy1_14, uy1_15, uy1_16, uy1_17, uy1_18, uy1_19, uy1_20, uy1_21, uy1_22, uy1_23, uy1_24, uy1_25, uy1_26, uy1_27] (by simp only [patch, List.set_cons_zero, List.set_cons_succ]) ⟨_, rfl, _, _, _, _, _, _, _, _, _, _, _, _, _, _, _, _, _, _, _, _, _, _, _, _, rfl, HS1⟩
  · rintro us w4 ⟨s1, rfl, uo1_4, uo1_5, uo1_6, uo1_7, uo1_8, uo1_9, uo1_10, uo1_11, uo1_12, uo1_13, uo1_14, uo1_15, uo1_16, uo1_17, uo1_18, uo1_19, uo1_20, uo1_21, uo1_22, uo1_23, uo1_24, uo1_25, uo1_26, uo1_27, rfl, HS4⟩
    replace H := G1
    clear G1
    try simp only [patch, List.set_cons_zero, List.set_cons_succ]
    refine norm_then ?_
    refine wp_seq ?_
    refine region ?_
    refine run_same (v := Value.int .i64 0) rfl rfl (r_assign rfl) ?_
    refine run_same (v := Value.int .i64 0) rfl rfl (r_assign rfl) ?_
    refine run_same (v := Value.bool false) rfl rfl (r_assign rfl) ?_
    try simp only [List.set_cons_zero, List.set_cons_succ]
    refine run_nil ?_
    refine norm_then ?_
    refine wp_ret ?_
    obtain rfl := Option.some.inj H
    refine bodyPost_ret (results_3 rfl (one_tmp rfl) (one_tmp rfl) (one_tmp rfl)) rfl ?_
    exact ⟨rfl, HS4.toE⟩

end Go.Proofs.YtecpbadkdpbkpaaGreatDoor
namespace Go.Proofs.YtecpbadkdpbkpaaGreatDoor
open Go.RowKit Go.M
def image_Name_1.f : Nat → Int → Option (ByteArray)
  | 0, _ => none
  | k + 1, a0 => if (decide (a0 < 16)) = true then (if 0 ≤ a0 ∧ a0 ≤ (IntKind.wrap .u64 (a0 + 1)) ∧ (IntKind.wrap .u64 (a0 + 1)) ≤ ((⟨#[48, 49, 50, 51, 52, 53, 54, 55, 56, 57, 97, 98, 99, 100, 101, 102]⟩ : ByteArray).size : Int) then (some (subStr (⟨#[48, 49, 50, 51, 52, 53, 54, 55, 56, 57, 97, 98, 99, 100, 101, 102]⟩ : ByteArray) a0 (IntKind.wrap .u64 (a0 + 1)))) else none) else ((image_Name_1.f k (iQuo .u64 a0 16)).bind fun v1 => ((image_Name_1.f k (iRem a0 16)).bind fun v2 => (if v1.size + v2.size ≤ 9223372036854775807 then (some (v1 ++ v2)) else none)))
set_option maxRecDepth 20000 in
set_option maxHeartbeats 4000000 in
theorem image_Name_1.calls : ∀ (k : Nat) (a0 : Int) (bx0 : Nat) {h0 : View} {w0 : World} (hv : Sees h0 w0) (hx0 : w0.heap[bx0]? = some (.cells #[Value.func (.func 49) #[] #[Value.pointer (some ⟨bx0, 0, none⟩)]] 125 (0, 0))) {r : ByteArray} (H : image_Name_1.f k a0 = some r), Calls Tryz.prog 49 #[Value.int .u64 a0, Value.pointer (some ⟨bx0, 0, none⟩)] w0 (fun e w1 => e = .returned (Value.string r) ∧ Ext w0 w1) := by
  intro k
  induction k with
  | zero =>
    intros
    rename_i H
    exact absurd H (by simp [image_Name_1.f])
  | succ k ih =>
    intro a0 bx0 h0 w0 hv hx0 r H
    rw [image_Name_1.f] at H
    have HS : St [] h0 w0 h0 [] w0 := St.init hv
    go_enter Tryz.func49, Tryz.ntmps49
    refine wp_seq ?_
    refine region ?_
    refine run_same (v := Value.string ByteArray.empty) rfl rfl (r_assign rfl) ?_
    try simp only [List.set_cons_zero, List.set_cons_succ]
    refine run_nil ?_
    refine norm_then ?_
    refine wp_seq ?_
    refine wp_seq ?_
    refine region ?_
    refine run_same (v := Value.int .u64 a0) rfl rfl (r_move rfl) ?_
    refine run_same (v := Value.bool (decide (a0 < 16))) rfl rfl (r_bin rfl rfl rfl) ?_
    try simp only [List.set_cons_zero, List.set_cons_succ]
    refine run_nil ?_
    refine norm_then ?_
    refine wp_cond_split (t := (decide (a0 < 16))) rfl (fun c1 => ?_) (fun c1 => ?_)
    · replace H := of_pos H c1
      refine wp_seq ?_
      refine region ?_
      refine run_same (v := Value.int .u64 a0) rfl rfl (r_move rfl) ?_
      refine run_same (v := Value.int .u64 a0) rfl rfl (r_move rfl) ?_
      refine run_same (v := Value.int .u64 (IntKind.wrap .u64 (a0 + 1))) rfl rfl (r_bin rfl rfl rfl) ?_
      obtain ⟨hk1, H⟩ := of_ite H
      refine run_same (v := Value.string (subStr (⟨#[48, 49, 50, 51, 52, 53, 54, 55, 56, 57, 97, 98, 99, 100, 101, 102]⟩ : ByteArray) a0 (IntKind.wrap .u64 (a0 + 1)))) rfl rfl (r_subStr rfl Tryz.runUnderlying9 rfl rfl hk1) ?_
      refine run_frame (by simp only [List.set_cons_zero, List.set_cons_succ]; rfl) ?_
      refine run_same (v := Value.string (subStr (⟨#[48, 49, 50, 51, 52, 53, 54, 55, 56, 57, 97, 98, 99, 100, 101, 102]⟩ : ByteArray) a0 (IntKind.wrap .u64 (a0 + 1)))) rfl rfl (r_assign rfl) ?_
      try simp only [List.set_cons_zero, List.set_cons_succ]
      refine run_nil ?_
      refine norm_then ?_
      refine wp_ret ?_
      refine ret_then ?_
      obtain rfl := Option.some.inj H
      refine bodyPost_ret (results_1 rfl (one_tmp rfl)) rfl ?_
      exact ⟨rfl, HS.toE⟩
    · replace H := of_neg H (nt c1)
      refine wp_skip ?_
      refine norm_then ?_
      refine wp_seq ?_
      obtain ⟨v1, H1, H⟩ := of_bind H
      obtain ⟨v2, H2, H⟩ := of_bind H
      obtain ⟨hb3, H⟩ := of_ite H
      refine drawn [.eq (Value.func (.func 49) #[] #[Value.pointer (some ⟨bx0, 0, none⟩)]), .eq (Value.int .u64 a0), .eq (Value.int .u64 (iQuo .u64 a0 16)), .eq (Value.string v1), .eq (Value.func (.func 49) #[] #[Value.pointer (some ⟨bx0, 0, none⟩)]), .eq (Value.int .u64 a0), .eq (Value.int .u64 (iRem a0 16)), .eq (Value.string v2), .eq (Value.string (v1 ++ v2))] [10, 11, 12, 13, 14, 15, 16, 17, 18] hmix (by kernel_rfl) rfl (stable_eq (stable_eq (stable_eq (stable_eq (stable_eq (stable_eq (stable_eq (stable_eq (stable_eq stable_nil))))))))) ⟨ob_plain rfl (fun a' w' hE hk => by have HSd := HS.step hE; exact does_eq (r_loadBox (show _ = Value.pointer (some ⟨bx0, 0, none⟩) from hk 1 rfl) Tryz.isAgg125 (heap_ext hx0 HSd.toE) rfl)), ob_plain rfl (fun a' w' hE hk => by have HSd := HS.step hE; exact does_eq (r_move (show _ = Value.int .u64 a0 from hk 0 rfl))), ob_plain rfl (fun a' w' hE hk => by have HSd := HS.step hE; exact does_eq (r_quo (show _ = Value.int .u64 a0 from hk 11 rfl) rfl (by decide))), ob_plain rfl (fun a' w' hE hk => by have HSd := HS.step hE; exact (does_callv (vs := [Value.int .u64 (iQuo .u64 a0 16)]) (caps := [Value.pointer (some ⟨bx0, 0, none⟩)]) Tryz.call49 (show _ = Value.func (.func 49) #[] #[Value.pointer (some ⟨bx0, 0, none⟩)] from hk 10 rfl) (map1 (show _ = Value.int .u64 (iQuo .u64 a0 16) from hk 12 rfl)) (ih (iQuo .u64 a0 16) bx0 HSd.sees (heap_ext hx0 HSd.toE) H1))), ob_plain rfl (fun a' w' hE hk => by have HSd := HS.step hE; exact does_eq (r_loadBox (show _ = Value.pointer (some ⟨bx0, 0, none⟩) from hk 1 rfl) Tryz.isAgg125 (heap_ext hx0 HSd.toE) rfl)), ob_plain rfl (fun a' w' hE hk => by have HSd := HS.step hE; exact does_eq (r_move (show _ = Value.int .u64 a0 from hk 0 rfl))), ob_plain rfl (fun a' w' hE hk => by have HSd := HS.step hE; exact does_eq (r_rem (show _ = Value.int .u64 a0 from hk 15 rfl) rfl (by decide))), ob_plain rfl (fun a' w' hE hk => by have HSd := HS.step hE; exact (does_callv (vs := [Value.int .u64 (iRem a0 16)]) (caps := [Value.pointer (some ⟨bx0, 0, none⟩)]) Tryz.call49 (show _ = Value.func (.func 49) #[] #[Value.pointer (some ⟨bx0, 0, none⟩)] from hk 14 rfl) (map1 (show _ = Value.int .u64 (iRem a0 16) from hk 16 rfl)) (ih (iRem a0 16) bx0 HSd.sees (heap_ext hx0 HSd.toE) H2))), ob_plain rfl (fun a' w' hE hk => by have HSd := HS.step hE; exact does_eq (r_stradd (show _ = Value.string v1 from hk 13 rfl) (show _ = Value.string v2 from hk 17 rfl) hb3)), trivial⟩ ?_
      intro w1 hE1
      simp only [List.zip_cons_cons, List.zip_nil_left, List.zip_nil_right, finL, List.set_cons_zero, List.set_cons_succ, List.length_cons, List.length_nil, List.drop_succ_cons, List.drop_zero, Nat.zero_add, Nat.reduceAdd]
      have HS1 := HS.step hE1
      refine run_same (v := Value.string (v1 ++ v2)) rfl rfl (r_assign rfl) ?_
      try simp only [List.set_cons_zero, List.set_cons_succ]
      refine run_nil ?_
      refine norm_then ?_
      refine wp_ret ?_
      obtain rfl := Option.some.inj H
      refine bodyPost_ret (results_1 rfl (one_tmp rfl)) rfl ?_
      exact ⟨rfl, HS1.toE⟩

end Go.Proofs.YtecpbadkdpbkpaaGreatDoor
/-
  DERIVED: THE SHELF's CONTRACTS AT THIS DUMP, IN PLAIN WORDS (tools/lay-plain.mjs out of 'TryzShelf.lean', which tools/lay-shelf.mjs wrote): THE SAME DECLARATIONS UNDER THE SAME NAMES: 'import', 'namespace', 'open', 'def', 'theorem' AND NOTHING ELSE: no command of the shelf's: FOR A HAND-IN. Each laying: the table of numbers ('.._ren') and one theorem, a field a fact of the dump's own or the kernel's comparison; each contract: ONE APPLICATION.
-/
namespace Go.Proofs
open Go.Shelf
def Tryz.lays129_ren : Go.Shelf.Ren := ⟨fun | 129 => 160 | n => n, fun | 53 => 71 | 3 => 3 | 4 => 4 | 46 => 220 | 5 => 5 | 9 => 9 | n => n, fun | n => n⟩
theorem Tryz.lays129 : Go.Proofs.Lays.n129 Tryz.prog Tryz.lays129_ren := {
  mixed := by kernel_rfl
  f129 := Tryz.func160.trans (congrArg some (by kernel_rfl))
  t3 := Tryz.underlying3
  a3 := Tryz.isAgg3
  z3 := Tryz.sizeOf3
  v3 := Tryz.zeroValue3
  t4 := Tryz.underlying4
  a4 := Tryz.isAgg4
  z4 := Tryz.sizeOf4
  v4 := Tryz.zeroValue4
  t5 := Tryz.underlying5
  a5 := Tryz.isAgg5
  z5 := Tryz.sizeOf5
  v5 := Tryz.zeroValue5
  t9 := Tryz.underlying9
  a9 := Tryz.isAgg9
  z9 := Tryz.sizeOf9
  v9 := Tryz.zeroValue9
  t46 := Tryz.underlying220
  a46 := Tryz.isAgg220
  z46 := Tryz.sizeOf220
  v46 := Tryz.zeroValue220
  t53 := Tryz.underlying71
  a53 := Tryz.isAgg71
  z53 := Tryz.sizeOf71
  v53 := Tryz.zeroValue71 }
/-- bits.Len64: "Len64 returns the minimum number of bits required to represent x; the result is 0 for x == 0.": IT RETURNS 'Lib.bitLen x'; the world is as it was. ('h0', 'h1': x is a uint64.) (LAID: no walk: one application.) -/
theorem Tryz.bits_Len64 (x : Int) (w : World) (h0 : 0 ≤ x) (h1 : x ≤ 18446744073709551615) :
    Calls Tryz.prog 160 #[.int .u64 x] w fun e w' => e = .returned (.int .i64 (Lib.bitLen x.toNat)) ∧ w' = w := Any.bits_Len64 Tryz.lays129 x w h0 h1
def Tryz.lays317_ren : Go.Shelf.Ren := ⟨fun | 317 => 159 | n => n, fun | 3 => 3 | 46 => 220 | n => n, fun | n => n⟩
theorem Tryz.lays317 : Go.Proofs.Lays.n317 Tryz.prog Tryz.lays317_ren := {
  mixed := by kernel_rfl
  f317 := Tryz.func159.trans (congrArg some (by kernel_rfl))
  t3 := Tryz.underlying3
  a3 := Tryz.isAgg3
  z3 := Tryz.sizeOf3
  v3 := Tryz.zeroValue3
  t46 := Tryz.underlying220
  a46 := Tryz.isAgg220
  z46 := Tryz.sizeOf220
  v46 := Tryz.zeroValue220 }
open Go.Lib in
/-- internal/strconv.log10Pow2: "log10Pow2(x) returns ⌊log₁₀ 2**x⌋ = ⌊x * log₁₀ 2⌋.": '(x * 78913) >> 18', at an x up to 64 (a length in bits). The world is as it was. (LAID: no walk: one application.) -/
theorem Tryz.internal_strconv_log10Pow2 (x : Nat) (h : x ≤ 64) (w : World) :
    Calls Tryz.prog 159 #[.int .i64 x] w fun e w' => e = .returned (.int .i64 (Lib.l10 x)) ∧ w' = w := Any.internal_strconv_log10Pow2 Tryz.lays317 x h w
def Tryz.lays318_ren : Go.Shelf.Ren := ⟨fun | 318 => 161 | n => n, fun | 3 => 3 | 4 => 4 | n => n, fun | n => n⟩
theorem Tryz.lays318 : Go.Proofs.Lays.n318 Tryz.prog Tryz.lays318_ren := {
  mixed := by kernel_rfl
  f318 := Tryz.func161.trans (congrArg some (by kernel_rfl))
  t3 := Tryz.underlying3
  a3 := Tryz.isAgg3
  z3 := Tryz.sizeOf3
  v3 := Tryz.zeroValue3
  t4 := Tryz.underlying4
  a4 := Tryz.isAgg4
  z4 := Tryz.sizeOf4
  v4 := Tryz.zeroValue4 }
open Go.Lib in
/-- internal/strconv.bool2: "bool2 converts b to an integer: 1 for true, 0 for false." The world is as it was. (LAID: no walk: one application.) -/
theorem Tryz.internal_strconv_bool2_int (b : Bool) (w : World) :
    Calls Tryz.prog 161 #[.bool b] w fun e w' => e = .returned (.int .i64 (if b then 1 else 0)) ∧ w' = w := Any.internal_strconv_bool2_int Tryz.lays318 b w
def Tryz.lays283_ren : Go.Shelf.Ren := ⟨fun | 283 => 131 | n => n, fun | 3 => 3 | 9 => 9 | 4 => 4 | n => n, fun | n => n⟩
theorem Tryz.lays283 : Go.Proofs.Lays.n283 Tryz.prog Tryz.lays283_ren := {
  mixed := by kernel_rfl
  f283 := Tryz.func131.trans (congrArg some (by kernel_rfl))
  t3 := Tryz.underlying3
  a3 := Tryz.isAgg3
  z3 := Tryz.sizeOf3
  v3 := Tryz.zeroValue3
  t4 := Tryz.underlying4
  a4 := Tryz.isAgg4
  z4 := Tryz.sizeOf4
  v4 := Tryz.zeroValue4
  t9 := Tryz.underlying9
  a9 := Tryz.isAgg9
  z9 := Tryz.sizeOf9
  v9 := Tryz.zeroValue9 }
open Go.Lib in
/-- internal/strconv.small: "small returns the string for an i with 0 <= i < nSmalls.": i's decimal numeral. The world is as it was. (LAID: no walk: one application.) -/
theorem Tryz.internal_strconv_small (i : Nat) (h : i < 100) (w : World) :
    Calls Tryz.prog 131 #[.int .i64 i] w fun e w' => e = .returned (.string ⟨(Lib.decDigits i).toArray⟩) ∧ w' = w := Any.internal_strconv_small Tryz.lays283 i h w
def Tryz.laysM284_ren : Go.Shelf.Ren := ⟨fun | 284 => 132 | 129 => 160 | 317 => 159 | 318 => 161 | n => n, fun | 53 => 71 | 3 => 3 | 212 => 248 | 0 => 0 | 4 => 4 | 46 => 220 | 5 => 5 | 9 => 9 | n => n, fun | 17 => 0 | n => n⟩
theorem Tryz.laysM284 : Go.Proofs.LaysM.n284 Tryz.prog Tryz.laysM284_ren := {
  mixed := by kernel_rfl
  f129 := Tryz.func160.trans (congrArg some (by kernel_rfl))
  f284 := Tryz.func132.trans (congrArg some (by kernel_rfl))
  f317 := Tryz.func159.trans (congrArg some (by kernel_rfl))
  f318 := Tryz.func161.trans (congrArg some (by kernel_rfl))
  t0 := Tryz.underlying0
  a0 := Tryz.isAgg0
  z0 := Tryz.sizeOf0
  v0 := Tryz.zeroValue0
  t3 := Tryz.underlying3
  a3 := Tryz.isAgg3
  z3 := Tryz.sizeOf3
  v3 := Tryz.zeroValue3
  t4 := Tryz.underlying4
  a4 := Tryz.isAgg4
  z4 := Tryz.sizeOf4
  v4 := Tryz.zeroValue4
  t5 := Tryz.underlying5
  a5 := Tryz.isAgg5
  z5 := Tryz.sizeOf5
  v5 := Tryz.zeroValue5
  t9 := Tryz.underlying9
  a9 := Tryz.isAgg9
  z9 := Tryz.sizeOf9
  v9 := Tryz.zeroValue9
  t46 := Tryz.underlying220
  a46 := Tryz.isAgg220
  z46 := Tryz.sizeOf220
  v46 := Tryz.zeroValue220
  t53 := Tryz.underlying71
  a53 := Tryz.isAgg71
  z53 := Tryz.sizeOf71
  v53 := Tryz.zeroValue71
  t212 := Tryz.underlying248
  a212 := Tryz.isAgg248
  z212 := Tryz.sizeOf248
  v212 := Tryz.zeroValue248
  g17 := by kernel_rfl
  i0 := by kernel_rfl
  i3 := by kernel_rfl
  i4 := by kernel_rfl
  i5 := by kernel_rfl
  i9 := by kernel_rfl
  i46 := by kernel_rfl
  i53 := by kernel_rfl
  i212 := by kernel_rfl
  m17 := by kernel_rfl }
open Go.Lib in
/-- internal/strconv.numDigits, at a d that is not 0: THE NUMBER OF d's DECIMAL DIGITS. The world is as it was. (LAID: no walk: one application.) -/
theorem Tryz.internal_strconv_numDigits (u : Nat) (h1 : 1 ≤ u) (h2 : u < 18446744073709551616) (w : World) (htab : Lib.TabIs Tryz.prog w "internal/strconv.uint64pow10" .u64 Lib.pow10Tab) :
    Calls Tryz.prog 132 #[.int .u64 u] w fun e w' => e = .returned (.int .i64 (Lib.nDigits u)) ∧ w' = w := Any.internal_strconv_numDigits Tryz.laysM284 u h1 h2 w htab
def Tryz.lays285_ren : Go.Shelf.Ren := ⟨fun | 285 => 133 | n => n, fun | 37 => 42 | 53 => 71 | 3 => 3 | 4 => 4 | 51 => 230 | 9 => 9 | 5 => 5 | 0 => 0 | n => n, fun | n => n⟩
theorem Tryz.lays285 : Go.Proofs.Lays.n285 Tryz.prog Tryz.lays285_ren := {
  mixed := by kernel_rfl
  f285 := Tryz.func133.trans (congrArg some (by kernel_rfl))
  t0 := Tryz.underlying0
  a0 := Tryz.isAgg0
  z0 := Tryz.sizeOf0
  v0 := Tryz.zeroValue0
  t3 := Tryz.underlying3
  a3 := Tryz.isAgg3
  z3 := Tryz.sizeOf3
  v3 := Tryz.zeroValue3
  t4 := Tryz.underlying4
  a4 := Tryz.isAgg4
  z4 := Tryz.sizeOf4
  v4 := Tryz.zeroValue4
  t5 := Tryz.underlying5
  a5 := Tryz.isAgg5
  z5 := Tryz.sizeOf5
  v5 := Tryz.zeroValue5
  t9 := Tryz.underlying9
  a9 := Tryz.isAgg9
  z9 := Tryz.sizeOf9
  v9 := Tryz.zeroValue9
  t37 := Tryz.underlying42
  a37 := Tryz.isAgg42
  z37 := Tryz.sizeOf42
  v37 := Tryz.zeroValue42
  t51 := Tryz.underlying230
  a51 := Tryz.isAgg230
  z51 := Tryz.sizeOf230
  v51 := Tryz.zeroValue230
  t53 := Tryz.underlying71
  a53 := Tryz.isAgg71
  z53 := Tryz.sizeOf71
  v53 := Tryz.zeroValue71 }
open Go.RowKit Go.Sort Go.Lib in
/-- internal/strconv.formatBase10: "formatBase10 formats the decimal representation of u into a. The caller is responsible for ensuring that a is big enough to hold u. If a is too big, leading zeros will be filled in as needed.": THE ROW HOLDS u's DIGITS ('FmtInv .. 0 ..': every place t holds 'dg u (len - 1 - t)'); all else is as it was but for the count of draws. (LAID: no walk: one application.) -/
theorem Tryz.internal_strconv_formatBase10 (blk off cap : Nat) (u : Nat) (d : Array UInt8) (w : World) (hH : Holds (fun (b : UInt8) => Value.int .u8 (b.toNat : Int)) w blk off d) (hu : u < 10 ^ d.size) (hu64 : u < 18446744073709551616) (hsz : d.size < 4611686018427387904) :
    Calls Tryz.prog 133 #[.slice (some ⟨blk, off, none⟩) d.size cap, .int .u64 u] w fun e w' =>
      e = .returned (.tuple #[]) ∧ ∃ (n v' : Nat) (dk : Array UInt8), w' = (putRow (fun (b : UInt8) => Value.int .u8 (b.toNat : Int)) w blk off dk).drewN n ∧ FmtInv d.size u 0 v' dk := Any.internal_strconv_formatBase10 Tryz.lays285 blk off cap u d w hH hu hu64 hsz
def Tryz.laysM246_ren : Go.Shelf.Ren := ⟨fun | 246 => 88 | 283 => 131 | 284 => 132 | 285 => 133 | 286 => 134 | 129 => 160 | 317 => 159 | 318 => 161 | 319 => 162 | 320 => 163 | 337 => 167 | 338 => 168 | n => n, fun | 2 => 2 | 3 => 3 | 9 => 9 | 4 => 4 | 171 => 222 | 0 => 0 | 53 => 71 | 37 => 42 | 5 => 5 | 173 => 225 | 212 => 248 | 51 => 230 | 20 => 20 | 213 => 249 | 46 => 220 | 232 => 255 | 233 => 256 | n => n, fun | 17 => 0 | 18 => 1 | 19 => 2 | n => n⟩
theorem Tryz.laysM246 : Go.Proofs.LaysM.n246 Tryz.prog Tryz.laysM246_ren := {
  mixed := by kernel_rfl
  f129 := Tryz.func160.trans (congrArg some (by kernel_rfl))
  f246 := Tryz.func88.trans (congrArg some (by kernel_rfl))
  f283 := Tryz.func131.trans (congrArg some (by kernel_rfl))
  f284 := Tryz.func132.trans (congrArg some (by kernel_rfl))
  f285 := Tryz.func133.trans (congrArg some (by kernel_rfl))
  f286 := Tryz.func134.trans (congrArg some (by kernel_rfl))
  f317 := Tryz.func159.trans (congrArg some (by kernel_rfl))
  f318 := Tryz.func161.trans (congrArg some (by kernel_rfl))
  f319 := Tryz.func162.trans (congrArg some (by kernel_rfl))
  f320 := Tryz.func163.trans (congrArg some (by kernel_rfl))
  f337 := Tryz.func167.trans (congrArg some (by kernel_rfl))
  f338 := Tryz.func168.trans (congrArg some (by kernel_rfl))
  t0 := Tryz.underlying0
  a0 := Tryz.isAgg0
  z0 := Tryz.sizeOf0
  v0 := Tryz.zeroValue0
  t2 := Tryz.underlying2
  a2 := Tryz.isAgg2
  z2 := Tryz.sizeOf2
  v2 := Tryz.zeroValue2
  t3 := Tryz.underlying3
  a3 := Tryz.isAgg3
  z3 := Tryz.sizeOf3
  v3 := Tryz.zeroValue3
  t4 := Tryz.underlying4
  a4 := Tryz.isAgg4
  z4 := Tryz.sizeOf4
  v4 := Tryz.zeroValue4
  t5 := Tryz.underlying5
  a5 := Tryz.isAgg5
  z5 := Tryz.sizeOf5
  v5 := Tryz.zeroValue5
  t9 := Tryz.underlying9
  a9 := Tryz.isAgg9
  z9 := Tryz.sizeOf9
  v9 := Tryz.zeroValue9
  t20 := Tryz.underlying20
  a20 := Tryz.isAgg20
  z20 := Tryz.sizeOf20
  v20 := Tryz.zeroValue20
  t37 := Tryz.underlying42
  a37 := Tryz.isAgg42
  z37 := Tryz.sizeOf42
  v37 := Tryz.zeroValue42
  t46 := Tryz.underlying220
  a46 := Tryz.isAgg220
  z46 := Tryz.sizeOf220
  v46 := Tryz.zeroValue220
  t51 := Tryz.underlying230
  a51 := Tryz.isAgg230
  z51 := Tryz.sizeOf230
  v51 := Tryz.zeroValue230
  t53 := Tryz.underlying71
  a53 := Tryz.isAgg71
  z53 := Tryz.sizeOf71
  v53 := Tryz.zeroValue71
  t171 := Tryz.underlying222
  a171 := Tryz.isAgg222
  z171 := Tryz.sizeOf222
  v171 := Tryz.zeroValue222
  t173 := Tryz.underlying225
  a173 := Tryz.isAgg225
  z173 := Tryz.sizeOf225
  v173 := Tryz.zeroValue225
  t212 := Tryz.underlying248
  a212 := Tryz.isAgg248
  z212 := Tryz.sizeOf248
  v212 := Tryz.zeroValue248
  t213 := Tryz.underlying249
  a213 := Tryz.isAgg249
  z213 := Tryz.sizeOf249
  t232 := Tryz.underlying255
  a232 := Tryz.isAgg255
  z232 := Tryz.sizeOf255
  v232 := Tryz.zeroValue255
  t233 := Tryz.underlying256
  a233 := Tryz.isAgg256
  z233 := Tryz.sizeOf256
  v233 := Tryz.zeroValue256
  g17 := by kernel_rfl
  g18 := by kernel_rfl
  g19 := by kernel_rfl
  i0 := by kernel_rfl
  i2 := by kernel_rfl
  i3 := by kernel_rfl
  i4 := by kernel_rfl
  i5 := by kernel_rfl
  i9 := by kernel_rfl
  i20 := by kernel_rfl
  i37 := by kernel_rfl
  i46 := by kernel_rfl
  i51 := by kernel_rfl
  i53 := by kernel_rfl
  i171 := by kernel_rfl
  i173 := by kernel_rfl
  i212 := by kernel_rfl
  i232 := by kernel_rfl
  i233 := by kernel_rfl
  m17 := by kernel_rfl
  m18 := by kernel_rfl
  m19 := by kernel_rfl }
open Go.RowKit Go.Sort Go.Lib in
/-- internal/strconv.FormatInt: "FormatInt returns the string representation of i in the given base": AT BASE 10: i's decimal numeral, for every int64. The world behind the call: the world before it, new blocks behind the heap, draws. (LAID: no walk: one application.) -/
theorem Tryz.internal_strconv_FormatInt_10 (n : Int) (h0 : -9223372036854775808 ≤ n) (h1 : n ≤ 9223372036854775807) (w : World) (htab : Lib.TabIs Tryz.prog w "internal/strconv.uint64pow10" .u64 Lib.pow10Tab) :
    Calls Tryz.prog 88 #[.int .i64 n, .int .i64 10] w fun e w' => e = .returned (.string ⟨(Lib.itoa n).toArray⟩) ∧ ∃ k os, w' = grow (w.drewN k) os := Any.internal_strconv_FormatInt_10 Tryz.laysM246 n h0 h1 w htab
def Tryz.lays246_ren : Go.Shelf.Ren := ⟨fun | 246 => 88 | 283 => 131 | 284 => 132 | 285 => 133 | 286 => 134 | 129 => 160 | 317 => 159 | 318 => 161 | 319 => 162 | 320 => 163 | 337 => 167 | 338 => 168 | n => n, fun | 2 => 2 | 3 => 3 | 9 => 9 | 4 => 4 | 171 => 222 | 0 => 0 | 53 => 71 | 37 => 42 | 5 => 5 | 173 => 225 | 212 => 248 | 51 => 230 | 20 => 20 | 213 => 249 | 46 => 220 | 232 => 255 | 233 => 256 | n => n, fun | 17 => 0 | 18 => 1 | 19 => 2 | n => n⟩
theorem Tryz.lays246 : Go.Proofs.Lays.n246 Tryz.prog Tryz.lays246_ren := {
  mixed := by kernel_rfl
  f129 := Tryz.func160.trans (congrArg some (by kernel_rfl))
  f246 := Tryz.func88.trans (congrArg some (by kernel_rfl))
  f283 := Tryz.func131.trans (congrArg some (by kernel_rfl))
  f284 := Tryz.func132.trans (congrArg some (by kernel_rfl))
  f285 := Tryz.func133.trans (congrArg some (by kernel_rfl))
  f286 := Tryz.func134.trans (congrArg some (by kernel_rfl))
  f317 := Tryz.func159.trans (congrArg some (by kernel_rfl))
  f318 := Tryz.func161.trans (congrArg some (by kernel_rfl))
  f319 := Tryz.func162.trans (congrArg some (by kernel_rfl))
  f320 := Tryz.func163.trans (congrArg some (by kernel_rfl))
  f337 := Tryz.func167.trans (congrArg some (by kernel_rfl))
  f338 := Tryz.func168.trans (congrArg some (by kernel_rfl))
  t0 := Tryz.underlying0
  a0 := Tryz.isAgg0
  z0 := Tryz.sizeOf0
  v0 := Tryz.zeroValue0
  t2 := Tryz.underlying2
  a2 := Tryz.isAgg2
  z2 := Tryz.sizeOf2
  v2 := Tryz.zeroValue2
  t3 := Tryz.underlying3
  a3 := Tryz.isAgg3
  z3 := Tryz.sizeOf3
  v3 := Tryz.zeroValue3
  t4 := Tryz.underlying4
  a4 := Tryz.isAgg4
  z4 := Tryz.sizeOf4
  v4 := Tryz.zeroValue4
  t5 := Tryz.underlying5
  a5 := Tryz.isAgg5
  z5 := Tryz.sizeOf5
  v5 := Tryz.zeroValue5
  t9 := Tryz.underlying9
  a9 := Tryz.isAgg9
  z9 := Tryz.sizeOf9
  v9 := Tryz.zeroValue9
  t20 := Tryz.underlying20
  a20 := Tryz.isAgg20
  z20 := Tryz.sizeOf20
  v20 := Tryz.zeroValue20
  t37 := Tryz.underlying42
  a37 := Tryz.isAgg42
  z37 := Tryz.sizeOf42
  v37 := Tryz.zeroValue42
  t46 := Tryz.underlying220
  a46 := Tryz.isAgg220
  z46 := Tryz.sizeOf220
  v46 := Tryz.zeroValue220
  t51 := Tryz.underlying230
  a51 := Tryz.isAgg230
  z51 := Tryz.sizeOf230
  v51 := Tryz.zeroValue230
  t53 := Tryz.underlying71
  a53 := Tryz.isAgg71
  z53 := Tryz.sizeOf71
  v53 := Tryz.zeroValue71
  t171 := Tryz.underlying222
  a171 := Tryz.isAgg222
  z171 := Tryz.sizeOf222
  v171 := Tryz.zeroValue222
  t173 := Tryz.underlying225
  a173 := Tryz.isAgg225
  z173 := Tryz.sizeOf225
  v173 := Tryz.zeroValue225
  t212 := Tryz.underlying248
  a212 := Tryz.isAgg248
  z212 := Tryz.sizeOf248
  v212 := Tryz.zeroValue248
  t213 := Tryz.underlying249
  a213 := Tryz.isAgg249
  z213 := Tryz.sizeOf249
  t232 := Tryz.underlying255
  a232 := Tryz.isAgg255
  z232 := Tryz.sizeOf255
  v232 := Tryz.zeroValue255
  t233 := Tryz.underlying256
  a233 := Tryz.isAgg256
  z233 := Tryz.sizeOf256
  v233 := Tryz.zeroValue256
  g17 := by kernel_rfl
  g18 := by kernel_rfl
  g19 := by kernel_rfl }
open Go.RowKit Go.Sort Go.Lib in
/-- THE ROAD WITHOUT THE TABLE: 0 <= i < 100: two constants are read, nothing is laid: no premise on the world, and the world is as it was. (LAID: no walk: one application.) -/
theorem Tryz.internal_strconv_FormatInt_10_small (i : Nat) (hi : i < 100) (w : World) :
    Calls Tryz.prog 88 #[.int .i64 i, .int .i64 10] w fun e w' => e = .returned (.string ⟨(Lib.decDigits i).toArray⟩) ∧ w' = w := Any.internal_strconv_FormatInt_10_small Tryz.lays246 i hi w
def Tryz.laysM173_ren : Go.Shelf.Ren := ⟨fun | 173 => 50 | 246 => 88 | 283 => 131 | 284 => 132 | 285 => 133 | 286 => 134 | 129 => 160 | 317 => 159 | 318 => 161 | 319 => 162 | 320 => 163 | 337 => 167 | 338 => 168 | n => n, fun | 2 => 2 | 3 => 3 | 9 => 9 | 4 => 4 | 171 => 222 | 0 => 0 | 53 => 71 | 37 => 42 | 5 => 5 | 173 => 225 | 212 => 248 | 51 => 230 | 20 => 20 | 213 => 249 | 46 => 220 | 232 => 255 | 233 => 256 | n => n, fun | 17 => 0 | 18 => 1 | 19 => 2 | n => n⟩
theorem Tryz.laysM173 : Go.Proofs.LaysM.n173 Tryz.prog Tryz.laysM173_ren := {
  mixed := by kernel_rfl
  f129 := Tryz.func160.trans (congrArg some (by kernel_rfl))
  f173 := Tryz.func50.trans (congrArg some (by kernel_rfl))
  f246 := Tryz.func88.trans (congrArg some (by kernel_rfl))
  f283 := Tryz.func131.trans (congrArg some (by kernel_rfl))
  f284 := Tryz.func132.trans (congrArg some (by kernel_rfl))
  f285 := Tryz.func133.trans (congrArg some (by kernel_rfl))
  f286 := Tryz.func134.trans (congrArg some (by kernel_rfl))
  f317 := Tryz.func159.trans (congrArg some (by kernel_rfl))
  f318 := Tryz.func161.trans (congrArg some (by kernel_rfl))
  f319 := Tryz.func162.trans (congrArg some (by kernel_rfl))
  f320 := Tryz.func163.trans (congrArg some (by kernel_rfl))
  f337 := Tryz.func167.trans (congrArg some (by kernel_rfl))
  f338 := Tryz.func168.trans (congrArg some (by kernel_rfl))
  t0 := Tryz.underlying0
  a0 := Tryz.isAgg0
  z0 := Tryz.sizeOf0
  v0 := Tryz.zeroValue0
  t2 := Tryz.underlying2
  a2 := Tryz.isAgg2
  z2 := Tryz.sizeOf2
  v2 := Tryz.zeroValue2
  t3 := Tryz.underlying3
  a3 := Tryz.isAgg3
  z3 := Tryz.sizeOf3
  v3 := Tryz.zeroValue3
  t4 := Tryz.underlying4
  a4 := Tryz.isAgg4
  z4 := Tryz.sizeOf4
  v4 := Tryz.zeroValue4
  t5 := Tryz.underlying5
  a5 := Tryz.isAgg5
  z5 := Tryz.sizeOf5
  v5 := Tryz.zeroValue5
  t9 := Tryz.underlying9
  a9 := Tryz.isAgg9
  z9 := Tryz.sizeOf9
  v9 := Tryz.zeroValue9
  t20 := Tryz.underlying20
  a20 := Tryz.isAgg20
  z20 := Tryz.sizeOf20
  v20 := Tryz.zeroValue20
  t37 := Tryz.underlying42
  a37 := Tryz.isAgg42
  z37 := Tryz.sizeOf42
  v37 := Tryz.zeroValue42
  t46 := Tryz.underlying220
  a46 := Tryz.isAgg220
  z46 := Tryz.sizeOf220
  v46 := Tryz.zeroValue220
  t51 := Tryz.underlying230
  a51 := Tryz.isAgg230
  z51 := Tryz.sizeOf230
  v51 := Tryz.zeroValue230
  t53 := Tryz.underlying71
  a53 := Tryz.isAgg71
  z53 := Tryz.sizeOf71
  v53 := Tryz.zeroValue71
  t171 := Tryz.underlying222
  a171 := Tryz.isAgg222
  z171 := Tryz.sizeOf222
  v171 := Tryz.zeroValue222
  t173 := Tryz.underlying225
  a173 := Tryz.isAgg225
  z173 := Tryz.sizeOf225
  v173 := Tryz.zeroValue225
  t212 := Tryz.underlying248
  a212 := Tryz.isAgg248
  z212 := Tryz.sizeOf248
  v212 := Tryz.zeroValue248
  t213 := Tryz.underlying249
  a213 := Tryz.isAgg249
  z213 := Tryz.sizeOf249
  t232 := Tryz.underlying255
  a232 := Tryz.isAgg255
  z232 := Tryz.sizeOf255
  v232 := Tryz.zeroValue255
  t233 := Tryz.underlying256
  a233 := Tryz.isAgg256
  z233 := Tryz.sizeOf256
  v233 := Tryz.zeroValue256
  g17 := by kernel_rfl
  g18 := by kernel_rfl
  g19 := by kernel_rfl
  i0 := by kernel_rfl
  i2 := by kernel_rfl
  i3 := by kernel_rfl
  i4 := by kernel_rfl
  i5 := by kernel_rfl
  i9 := by kernel_rfl
  i20 := by kernel_rfl
  i37 := by kernel_rfl
  i46 := by kernel_rfl
  i51 := by kernel_rfl
  i53 := by kernel_rfl
  i171 := by kernel_rfl
  i173 := by kernel_rfl
  i212 := by kernel_rfl
  i232 := by kernel_rfl
  i233 := by kernel_rfl
  m17 := by kernel_rfl
  m18 := by kernel_rfl
  m19 := by kernel_rfl }
open Go.RowKit Go.Sort Go.Lib in
/-- strconv.FormatInt: "FormatInt returns the string representation of i in the given base": AT BASE 10: i's decimal numeral, for every int64. (LAID: no walk: one application.) -/
theorem Tryz.strconv_FormatInt_10 (n : Int) (h0 : -9223372036854775808 ≤ n) (h1 : n ≤ 9223372036854775807) (w : World) (htab : Lib.TabIs Tryz.prog w "internal/strconv.uint64pow10" .u64 Lib.pow10Tab) :
    Calls Tryz.prog 50 #[.int .i64 n, .int .i64 10] w fun e w' => e = .returned (.string ⟨(Lib.itoa n).toArray⟩) ∧ ∃ k os, w' = grow (w.drewN k) os := Any.strconv_FormatInt_10 Tryz.laysM173 n h0 h1 w htab
def Tryz.lays173_ren : Go.Shelf.Ren := ⟨fun | 173 => 50 | 246 => 88 | 283 => 131 | 284 => 132 | 285 => 133 | 286 => 134 | 129 => 160 | 317 => 159 | 318 => 161 | 319 => 162 | 320 => 163 | 337 => 167 | 338 => 168 | n => n, fun | 2 => 2 | 3 => 3 | 9 => 9 | 4 => 4 | 171 => 222 | 0 => 0 | 53 => 71 | 37 => 42 | 5 => 5 | 173 => 225 | 212 => 248 | 51 => 230 | 20 => 20 | 213 => 249 | 46 => 220 | 232 => 255 | 233 => 256 | n => n, fun | 17 => 0 | 18 => 1 | 19 => 2 | n => n⟩
theorem Tryz.lays173 : Go.Proofs.Lays.n173 Tryz.prog Tryz.lays173_ren := {
  mixed := by kernel_rfl
  f129 := Tryz.func160.trans (congrArg some (by kernel_rfl))
  f173 := Tryz.func50.trans (congrArg some (by kernel_rfl))
  f246 := Tryz.func88.trans (congrArg some (by kernel_rfl))
  f283 := Tryz.func131.trans (congrArg some (by kernel_rfl))
  f284 := Tryz.func132.trans (congrArg some (by kernel_rfl))
  f285 := Tryz.func133.trans (congrArg some (by kernel_rfl))
  f286 := Tryz.func134.trans (congrArg some (by kernel_rfl))
  f317 := Tryz.func159.trans (congrArg some (by kernel_rfl))
  f318 := Tryz.func161.trans (congrArg some (by kernel_rfl))
  f319 := Tryz.func162.trans (congrArg some (by kernel_rfl))
  f320 := Tryz.func163.trans (congrArg some (by kernel_rfl))
  f337 := Tryz.func167.trans (congrArg some (by kernel_rfl))
  f338 := Tryz.func168.trans (congrArg some (by kernel_rfl))
  t0 := Tryz.underlying0
  a0 := Tryz.isAgg0
  z0 := Tryz.sizeOf0
  v0 := Tryz.zeroValue0
  t2 := Tryz.underlying2
  a2 := Tryz.isAgg2
  z2 := Tryz.sizeOf2
  v2 := Tryz.zeroValue2
  t3 := Tryz.underlying3
  a3 := Tryz.isAgg3
  z3 := Tryz.sizeOf3
  v3 := Tryz.zeroValue3
  t4 := Tryz.underlying4
  a4 := Tryz.isAgg4
  z4 := Tryz.sizeOf4
  v4 := Tryz.zeroValue4
  t5 := Tryz.underlying5
  a5 := Tryz.isAgg5
  z5 := Tryz.sizeOf5
  v5 := Tryz.zeroValue5
  t9 := Tryz.underlying9
  a9 := Tryz.isAgg9
  z9 := Tryz.sizeOf9
  v9 := Tryz.zeroValue9
  t20 := Tryz.underlying20
  a20 := Tryz.isAgg20
  z20 := Tryz.sizeOf20
  v20 := Tryz.zeroValue20
  t37 := Tryz.underlying42
  a37 := Tryz.isAgg42
  z37 := Tryz.sizeOf42
  v37 := Tryz.zeroValue42
  t46 := Tryz.underlying220
  a46 := Tryz.isAgg220
  z46 := Tryz.sizeOf220
  v46 := Tryz.zeroValue220
  t51 := Tryz.underlying230
  a51 := Tryz.isAgg230
  z51 := Tryz.sizeOf230
  v51 := Tryz.zeroValue230
  t53 := Tryz.underlying71
  a53 := Tryz.isAgg71
  z53 := Tryz.sizeOf71
  v53 := Tryz.zeroValue71
  t171 := Tryz.underlying222
  a171 := Tryz.isAgg222
  z171 := Tryz.sizeOf222
  v171 := Tryz.zeroValue222
  t173 := Tryz.underlying225
  a173 := Tryz.isAgg225
  z173 := Tryz.sizeOf225
  v173 := Tryz.zeroValue225
  t212 := Tryz.underlying248
  a212 := Tryz.isAgg248
  z212 := Tryz.sizeOf248
  v212 := Tryz.zeroValue248
  t213 := Tryz.underlying249
  a213 := Tryz.isAgg249
  z213 := Tryz.sizeOf249
  t232 := Tryz.underlying255
  a232 := Tryz.isAgg255
  z232 := Tryz.sizeOf255
  v232 := Tryz.zeroValue255
  t233 := Tryz.underlying256
  a233 := Tryz.isAgg256
  z233 := Tryz.sizeOf256
  v233 := Tryz.zeroValue256
  g17 := by kernel_rfl
  g18 := by kernel_rfl
  g19 := by kernel_rfl }
open Go.RowKit Go.Sort Go.Lib in
/-- THE ROAD WITHOUT THE TABLE: 0 <= i < 100. (LAID: no walk: one application.) -/
theorem Tryz.strconv_FormatInt_10_small (i : Nat) (hi : i < 100) (w : World) :
    Calls Tryz.prog 50 #[.int .i64 i, .int .i64 10] w fun e w' => e = .returned (.string ⟨(Lib.decDigits i).toArray⟩) ∧ w' = w := Any.strconv_FormatInt_10_small Tryz.lays173 i hi w
end Go.Proofs
/- strconv.FormatInt to base ten, by the library's contract, in the form of the walks here. -/
namespace Go.Proofs.YtecpbadkdpbkpaaGreatDoor
open Go.RowKit Go.M
theorem tab_pow {w : World} (ht : Tab w) : Lib.TabIs Tryz.prog w "internal/strconv.uint64pow10" .u64 Lib.pow10Tab := by
  obtain ⟨t, fz, e⟩ := ht _ (List.mem_cons_self)
  unfold Lib.TabIs World.var?
  rw [show Tryz.prog.globalNamed "internal/strconv.uint64pow10" = some 0 by kernel_rfl]
  simp only [Option.bind_some]
  rw [e]
  kernel_rfl
def strconv_FormatInt.f (a0 a1 : Int) : Option ByteArray := if a1 = 10 ∧ -9223372036854775808 ≤ a0 ∧ a0 ≤ 9223372036854775807 then some ⟨(Lib.itoa a0).toArray⟩ else none
theorem strconv_FormatInt.calls (a0 a1 : Int) {h0 : View} {w0 : World} (hv : Sees h0 w0) (ht : Tab w0) {r : ByteArray} (H : strconv_FormatInt.f a0 a1 = some r) : Calls Tryz.prog 50 #[Value.int .i64 a0, Value.int .i64 a1] w0 (fun e w1 => e = .returned (Value.string r) ∧ Ext w0 w1) := by
  unfold strconv_FormatInt.f at H
  obtain ⟨hc, H⟩ := of_ite H
  obtain rfl := Option.some.inj H
  obtain ⟨rfl, hc⟩ := hc
  refine (Tryz.strconv_FormatInt_10 a0 hc.1 hc.2 w0 (tab_pow ht)).mono ?_
  rintro e w1 ⟨rfl, k, os, rfl⟩
  refine ⟨rfl, rfl, rfl, rfl, by simp [Sort.grow, World.drewN], fun i hi => ?_⟩
  simp only [Sort.grow, World.drewN]
  rw [Array.getElem?_append_left hi]
end Go.Proofs.YtecpbadkdpbkpaaGreatDoor
namespace Go.Proofs.YtecpbadkdpbkpaaGreatDoor
open Go.RowKit Go.M
def image_Name.f (k : Nat) (a0 : List api_Sym) (a1 : Int) : Option (ByteArray) := (image_Find.f k a0 a1).bind fun v1 => (if (!v1.2.2) = true then ((image_Name_1.f k (IntKind.wrap .u64 a1)).bind fun v2 => (if (⟨#[48, 120]⟩ : ByteArray).size + v2.size ≤ 9223372036854775807 then (some ((⟨#[48, 120]⟩ : ByteArray) ++ v2)) else none)) else (if (v1.2.1 == 0) = true then (if 0 ≤ v1.1 ∧ v1.1 < a0.length then (some ((rd z_api_Sym a0 v1.1).vName)) else none) else (if 0 ≤ v1.1 ∧ v1.1 < a0.length then (if ((rd z_api_Sym a0 v1.1).vName).size + (⟨#[43]⟩ : ByteArray).size ≤ 9223372036854775807 then ((strconv_FormatInt.f v1.2.1 10).bind fun v3 => (if ((rd z_api_Sym a0 v1.1).vName ++ (⟨#[43]⟩ : ByteArray)).size + v3.size ≤ 9223372036854775807 then (some (((rd z_api_Sym a0 v1.1).vName ++ (⟨#[43]⟩ : ByteArray)) ++ v3)) else none)) else none) else none)))
set_option maxRecDepth 20000 in
set_option maxHeartbeats 4000000 in
theorem image_Name.calls (k : Nat) (a0 : List api_Sym) (a1 : Int) (A0_0 : Option Addr) (c0_0 : Nat) {h0 : View} {w0 : World} (hv : Sees h0 w0) (ht : Tab w0) (hr0_0 : Rd k_api_Sym h0 A0_0 a0) (hc0_0 : a0.length ≤ c0_0) {r : ByteArray} (H : image_Name.f k a0 a1 = some r) : Calls Tryz.prog 17 #[Value.slice A0_0 a0.length c0_0, Value.int .i64 a1] w0 (fun e w1 => e = .returned (Value.string r) ∧ Ext w0 w1) := by
  unfold image_Name.f at H
  have HS : St [] h0 w0 h0 [] w0 := St.init hv
  go_enter Tryz.func17, Tryz.ntmps17
  refine wp_seq ?_
  refine region ?_
  refine run_same (v := Value.string ByteArray.empty) rfl rfl (r_assign rfl) ?_
  try simp only [List.set_cons_zero, List.set_cons_succ]
  refine run_nil ?_
  refine norm_then ?_
  refine wp_seq ?_
  refine region ?_
  refine run_same (v := Value.slice A0_0 a0.length c0_0) rfl rfl (r_move rfl) ?_
  refine run_same (v := Value.int .i64 a1) rfl rfl (r_move rfl) ?_
  obtain ⟨v1, H1, H⟩ := of_bind H
  refine run_eq (v := Value.tuple #[Value.int .i64 v1.1, Value.int .i64 v1.2.1, Value.bool v1.2.2]) rfl rfl (does_call_eq Tryz.call15 rfl rfl (image_Find.calls k a0 a1 A0_0 c0_0 HS.sees hr0_0 hc0_0 H1)) ?_
  intro w1 hE1
  have HS1 := HS.step hE1
  refine run_same (v := Value.tuple #[Value.int .i64 v1.1, Value.int .i64 v1.2.1, Value.bool v1.2.2]) rfl rfl (r_move rfl) ?_
  refine run_frame (by simp only [List.set_cons_zero, List.set_cons_succ]; rfl) ?_
  refine run_same (v := Value.int .i64 v1.1) rfl rfl (r_extract rfl rfl) ?_
  refine run_same (v := Value.int .i64 v1.2.1) rfl rfl (r_extract rfl rfl) ?_
  refine run_same (v := Value.bool v1.2.2) rfl rfl (r_extract rfl rfl) ?_
  refine run_same (v := Value.int .i64 v1.1) rfl rfl (r_assign rfl) ?_
  refine run_frame (by simp only [List.set_cons_zero, List.set_cons_succ]; rfl) ?_
  refine run_same (v := Value.int .i64 v1.2.1) rfl rfl (r_assign rfl) ?_
  refine run_same (v := Value.bool v1.2.2) rfl rfl (r_assign rfl) ?_
  try simp only [List.set_cons_zero, List.set_cons_succ]
  refine run_nil ?_
  refine norm_then ?_
  refine wp_seq ?_
  refine wp_seq ?_
  refine region ?_
  refine run_same (v := Value.bool v1.2.2) rfl rfl (r_move rfl) ?_
  refine run_same (v := Value.bool (!v1.2.2)) rfl rfl (r_not rfl) ?_
  try simp only [List.set_cons_zero, List.set_cons_succ]
  refine run_nil ?_
  refine norm_then ?_
  refine wp_cond_split (t := (!v1.2.2)) rfl (fun c1 => ?_) (fun c1 => ?_)
  · replace H := of_pos H c1
    refine wp_seq ?_
    refine region ?_
    refine run_ex rfl rfl (does_alloc (cs := #[Value.nilFunc]) Tryz.zeroValue125 rfl) ?_
    rintro w2 _ hE2 ⟨b1, rfl, ge1, hb1⟩
    have HS2 := HS1.new hE2 ge1 hb1
    try simp only [List.set_cons_zero, List.set_cons_succ]
    refine run_nil ?_
    refine norm_then ?_
    refine wp_seq ?_
    refine region ?_
    refine run_same (v := Value.func (.func 49) #[] #[Value.pointer (some ⟨b1, 0, none⟩)]) rfl rfl (r_makeFunc (vs := [Value.pointer (some ⟨b1, 0, none⟩)]) rfl) ?_
    refine run_st (i := 0) (cs := [Value.nilFunc]) (cs' := [Value.func (.func 49) #[] #[Value.pointer (some ⟨b1, 0, none⟩)]]) (vs := [Value.func (.func 49) #[] #[Value.pointer (some ⟨b1, 0, none⟩)]]) (bs' := [(some b1, .cells #[Value.func (.func 49) #[] #[Value.pointer (some ⟨b1, 0, none⟩)]] 125 (0, 0))]) rfl rfl Tryz.sizeOf125 rfl rfl (by decide) rfl HS2 rfl (Nat.le_of_ble_eq_true rfl) rfl rfl ?_
    intro w3 HS3
    try simp only [List.set_cons_zero, List.set_cons_succ]
    refine run_nil ?_
    refine norm_then ?_
    refine wp_seq ?_
    refine region ?_
    refine run_same (v := Value.func (.func 49) #[] #[Value.pointer (some ⟨b1, 0, none⟩)]) rfl rfl (r_loadBox rfl Tryz.isAgg125 (HS3.look 0 rfl) rfl) ?_
    refine run_same (v := Value.int .i64 a1) rfl rfl (r_move rfl) ?_
    refine run_same (v := Value.int .u64 (IntKind.wrap .u64 a1)) rfl rfl (r_conv rfl Tryz.runUnderlying2 Tryz.runUnderlying71) ?_
    obtain ⟨v2, H2, H⟩ := of_bind H
    refine run_eq (v := Value.string v2) rfl rfl (does_callv (vs := [Value.int .u64 (IntKind.wrap .u64 a1)]) (caps := [Value.pointer (some ⟨b1, 0, none⟩)]) Tryz.call49 rfl rfl (image_Name_1.calls k (IntKind.wrap .u64 a1) b1 HS3.sees (HS3.look 0 rfl) H2)) ?_
    intro w4 hE3
    have HS4 := HS3.step hE3
    refine run_frame (by simp only [List.set_cons_zero, List.set_cons_succ]; rfl) ?_
    obtain ⟨hb2, H⟩ := of_ite H
    refine run_same (v := Value.string ((⟨#[48, 120]⟩ : ByteArray) ++ v2)) rfl rfl (r_stradd rfl rfl hb2) ?_
    refine run_same (v := Value.string ((⟨#[48, 120]⟩ : ByteArray) ++ v2)) rfl rfl (r_assign rfl) ?_
    try simp only [List.set_cons_zero, List.set_cons_succ]
    refine run_nil ?_
    refine norm_then ?_
    refine wp_ret ?_
    refine ret_then ?_
    obtain rfl := Option.some.inj H
    refine bodyPost_ret (results_1 rfl (one_tmp rfl)) rfl ?_
    exact ⟨rfl, HS4.toE⟩
  · replace H := of_neg H (nt c1)
    refine wp_skip ?_
    refine norm_then ?_
    refine wp_seq ?_
    refine wp_seq ?_
    refine region ?_
    refine run_same (v := Value.int .i64 v1.2.1) rfl rfl (r_move rfl) ?_
    refine run_same (v := Value.bool (v1.2.1 == 0)) rfl rfl (r_bin rfl rfl rfl) ?_
    try simp only [List.set_cons_zero, List.set_cons_succ]
    refine run_nil ?_
    refine norm_then ?_
    refine wp_cond_split (t := (v1.2.1 == 0)) rfl (fun c2 => ?_) (fun c2 => ?_)
    · replace H := of_pos H c2
      refine wp_seq ?_
      refine region ?_
      refine run_same (v := Value.slice A0_0 a0.length c0_0) rfl rfl (r_move rfl) ?_
      refine run_same (v := Value.int .i64 v1.1) rfl rfl (r_move rfl) ?_
      obtain ⟨hi1, H⟩ := of_ite H
      obtain ⟨ad1, e1, hel1⟩ := ld_api_Sym hr0_0 hi1.1 hi1.2
      refine run_same (v := Value.pointer (some (Addr.add ad1 (v1.1.toNat * 3)))) rfl rfl (r_indexA (sz := 3) rfl e1 rfl hi1.1 hi1.2 Tryz.runUnderlying49 Tryz.sizeOf68) ?_
      refine run_same (v := Value.pointer (some (Addr.add (Addr.add ad1 (v1.1.toNat * 3)) 0))) rfl rfl (r_fieldEl (n := 1) (o' := 0) rfl Tryz.runUnderlying68 rfl Tryz.sizeOf9 (by decide) rfl) ?_
      refine run_frame (by simp only [List.set_cons_zero, List.set_cons_succ]; rfl) ?_
      refine run_same (v := Value.string ((rd z_api_Sym a0 v1.1).vName)) rfl rfl (r_load rfl Tryz.isAgg9 (hel1.cell HS1.sees 0 rfl)) ?_
      refine run_same (v := Value.string ((rd z_api_Sym a0 v1.1).vName)) rfl rfl (r_assign rfl) ?_
      try simp only [List.set_cons_zero, List.set_cons_succ]
      refine run_nil ?_
      refine norm_then ?_
      refine wp_ret ?_
      refine ret_then ?_
      obtain rfl := Option.some.inj H
      refine bodyPost_ret (results_1 rfl (one_tmp rfl)) rfl ?_
      exact ⟨rfl, HS1.toE⟩
    · replace H := of_neg H (nt c2)
      refine wp_skip ?_
      refine norm_then ?_
      refine wp_seq ?_
      obtain ⟨hi2, H⟩ := of_ite H
      obtain ⟨ad2, e2, hel2⟩ := ld_api_Sym hr0_0 hi2.1 hi2.2
      obtain ⟨hb3, H⟩ := of_ite H
      obtain ⟨v3, H3, H⟩ := of_bind H
      obtain ⟨hb4, H⟩ := of_ite H
      refine drawn [.eq (Value.slice A0_0 a0.length c0_0), .eq (Value.int .i64 v1.1), .eq (Value.pointer (some (Addr.add ad2 (v1.1.toNat * 3)))), .eq (Value.pointer (some (Addr.add (Addr.add ad2 (v1.1.toNat * 3)) 0))), .eq (Value.string ((rd z_api_Sym a0 v1.1).vName)), .eq (Value.string ((rd z_api_Sym a0 v1.1).vName ++ (⟨#[43]⟩ : ByteArray))), .eq (Value.int .i64 v1.2.1), .eq (Value.string v3), .eq (Value.string (((rd z_api_Sym a0 v1.1).vName ++ (⟨#[43]⟩ : ByteArray)) ++ v3))] [31, 32, 33, 34, 35, 36, 37, 38, 39] hmix (by kernel_rfl) rfl (stable_eq (stable_eq (stable_eq (stable_eq (stable_eq (stable_eq (stable_eq (stable_eq (stable_eq stable_nil))))))))) ⟨ob_plain rfl (fun a' w' hE hk => by have HSd := HS1.step hE; exact does_eq (r_move (show _ = Value.slice A0_0 a0.length c0_0 from hk 0 rfl))), ob_plain rfl (fun a' w' hE hk => by have HSd := HS1.step hE; exact does_eq (r_move (show _ = Value.int .i64 v1.1 from hk 5 rfl))), ob_plain rfl (fun a' w' hE hk => by have HSd := HS1.step hE; exact does_eq (r_indexA (sz := 3) (show _ = Value.slice A0_0 a0.length c0_0 from hk 31 rfl) e2 (show _ = Value.int .i64 v1.1 from hk 32 rfl) hi2.1 hi2.2 Tryz.runUnderlying49 Tryz.sizeOf68)), ob_plain rfl (fun a' w' hE hk => by have HSd := HS1.step hE; exact does_eq (r_fieldEl (n := 1) (o' := 0) (show _ = Value.pointer (some (Addr.add ad2 (v1.1.toNat * 3))) from hk 33 rfl) Tryz.runUnderlying68 rfl Tryz.sizeOf9 (by decide) rfl)), ob_plain rfl (fun a' w' hE hk => by have HSd := HS1.step hE; exact does_eq (r_load (show _ = Value.pointer (some (Addr.add (Addr.add ad2 (v1.1.toNat * 3)) 0)) from hk 34 rfl) Tryz.isAgg9 (hel2.cell HSd.sees 0 rfl))), ob_plain rfl (fun a' w' hE hk => by have HSd := HS1.step hE; exact does_eq (r_stradd (show _ = Value.string ((rd z_api_Sym a0 v1.1).vName) from hk 35 rfl) rfl hb3)), ob_plain rfl (fun a' w' hE hk => by have HSd := HS1.step hE; exact does_eq (r_move (show _ = Value.int .i64 v1.2.1 from hk 6 rfl))), ob_plain rfl (fun a' w' hE hk => by have HSd := HS1.step hE; exact (does_call_eq Tryz.call50 rfl (map2 (show _ = Value.int .i64 v1.2.1 from hk 37 rfl) rfl) (strconv_FormatInt.calls v1.2.1 10 HSd.sees (ht.s HSd) H3))), ob_plain rfl (fun a' w' hE hk => by have HSd := HS1.step hE; exact does_eq (r_stradd (show _ = Value.string ((rd z_api_Sym a0 v1.1).vName ++ (⟨#[43]⟩ : ByteArray)) from hk 36 rfl) (show _ = Value.string v3 from hk 38 rfl) hb4)), trivial⟩ ?_
      intro w5 hE4
      simp only [List.zip_cons_cons, List.zip_nil_left, List.zip_nil_right, finL, List.set_cons_zero, List.set_cons_succ, List.length_cons, List.length_nil, List.drop_succ_cons, List.drop_zero, Nat.zero_add, Nat.reduceAdd]
      have HS5 := HS1.step hE4
      refine run_same (v := Value.string (((rd z_api_Sym a0 v1.1).vName ++ (⟨#[43]⟩ : ByteArray)) ++ v3)) rfl rfl (r_assign rfl) ?_
      try simp only [List.set_cons_zero, List.set_cons_succ]
      refine run_nil ?_
      refine norm_then ?_
      refine wp_ret ?_
      obtain rfl := Option.some.inj H
      refine bodyPost_ret (results_1 rfl (one_tmp rfl)) rfl ?_
      exact ⟨rfl, HS5.toE⟩

end Go.Proofs.YtecpbadkdpbkpaaGreatDoor
namespace Go.Proofs.YtecpbadkdpbkpaaGreatDoor
open Go.RowKit Go.M
def taplineref09_hex.f : Nat → Int → Option (ByteArray)
  | 0, _ => none
  | k + 1, a0 => if 0 ≤ (iRem a0 16) ∧ (iRem a0 16) ≤ (IntKind.wrap .u64 ((iRem a0 16) + 1)) ∧ (IntKind.wrap .u64 ((iRem a0 16) + 1)) ≤ ((⟨#[48, 49, 50, 51, 52, 53, 54, 55, 56, 57, 97, 98, 99, 100, 101, 102]⟩ : ByteArray).size : Int) then (if (decide (a0 < 16)) = true then (some (subStr (⟨#[48, 49, 50, 51, 52, 53, 54, 55, 56, 57, 97, 98, 99, 100, 101, 102]⟩ : ByteArray) (iRem a0 16) (IntKind.wrap .u64 ((iRem a0 16) + 1)))) else ((taplineref09_hex.f k (iQuo .u64 a0 16)).bind fun v1 => (if v1.size + (subStr (⟨#[48, 49, 50, 51, 52, 53, 54, 55, 56, 57, 97, 98, 99, 100, 101, 102]⟩ : ByteArray) (iRem a0 16) (IntKind.wrap .u64 ((iRem a0 16) + 1))).size ≤ 9223372036854775807 then (some (v1 ++ (subStr (⟨#[48, 49, 50, 51, 52, 53, 54, 55, 56, 57, 97, 98, 99, 100, 101, 102]⟩ : ByteArray) (iRem a0 16) (IntKind.wrap .u64 ((iRem a0 16) + 1))))) else none))) else none
set_option maxRecDepth 20000 in
set_option maxHeartbeats 4000000 in
theorem taplineref09_hex.calls : ∀ (k : Nat) (a0 : Int)  {h0 : View} {w0 : World} (hv : Sees h0 w0) {r : ByteArray} (H : taplineref09_hex.f k a0 = some r), Calls Tryz.prog 51 #[Value.int .u64 a0] w0 (fun e w1 => e = .returned (Value.string r) ∧ Ext w0 w1) := by
  intro k
  induction k with
  | zero =>
    intros
    rename_i H
    exact absurd H (by simp [taplineref09_hex.f])
  | succ k ih =>
    intro a0 h0 w0 hv r H
    rw [taplineref09_hex.f] at H
    have HS : St [] h0 w0 h0 [] w0 := St.init hv
    go_enter Tryz.func51, Tryz.ntmps51
    refine wp_seq ?_
    refine region ?_
    refine run_same (v := Value.string ByteArray.empty) rfl rfl (r_assign rfl) ?_
    try simp only [List.set_cons_zero, List.set_cons_succ]
    refine run_nil ?_
    refine norm_then ?_
    refine wp_seq ?_
    refine region ?_
    refine run_same (v := Value.int .u64 a0) rfl rfl (r_move rfl) ?_
    refine run_same (v := Value.int .u64 (iRem a0 16)) rfl rfl (r_rem rfl rfl (by decide)) ?_
    refine run_same (v := Value.int .u64 a0) rfl rfl (r_move rfl) ?_
    refine run_same (v := Value.int .u64 (iRem a0 16)) rfl rfl (r_rem rfl rfl (by decide)) ?_
    refine run_frame (by simp only [List.set_cons_zero, List.set_cons_succ]; rfl) ?_
    refine run_same (v := Value.int .u64 (IntKind.wrap .u64 ((iRem a0 16) + 1))) rfl rfl (r_bin rfl rfl rfl) ?_
    obtain ⟨hk1, H⟩ := of_ite H
    refine run_same (v := Value.string (subStr (⟨#[48, 49, 50, 51, 52, 53, 54, 55, 56, 57, 97, 98, 99, 100, 101, 102]⟩ : ByteArray) (iRem a0 16) (IntKind.wrap .u64 ((iRem a0 16) + 1)))) rfl rfl (r_subStr rfl Tryz.runUnderlying9 rfl rfl hk1) ?_
    refine run_same (v := Value.string (subStr (⟨#[48, 49, 50, 51, 52, 53, 54, 55, 56, 57, 97, 98, 99, 100, 101, 102]⟩ : ByteArray) (iRem a0 16) (IntKind.wrap .u64 ((iRem a0 16) + 1)))) rfl rfl (r_assign rfl) ?_
    try simp only [List.set_cons_zero, List.set_cons_succ]
    refine run_nil ?_
    refine norm_then ?_
    refine wp_seq ?_
    refine wp_seq ?_
    refine region ?_
    refine run_same (v := Value.int .u64 a0) rfl rfl (r_move rfl) ?_
    refine run_same (v := Value.bool (decide (a0 < 16))) rfl rfl (r_bin rfl rfl rfl) ?_
    try simp only [List.set_cons_zero, List.set_cons_succ]
    refine run_nil ?_
    refine norm_then ?_
    refine wp_cond_split (t := (decide (a0 < 16))) rfl (fun c1 => ?_) (fun c1 => ?_)
    · replace H := of_pos H c1
      refine wp_seq ?_
      refine region ?_
      refine run_same (v := Value.string (subStr (⟨#[48, 49, 50, 51, 52, 53, 54, 55, 56, 57, 97, 98, 99, 100, 101, 102]⟩ : ByteArray) (iRem a0 16) (IntKind.wrap .u64 ((iRem a0 16) + 1)))) rfl rfl (r_move rfl) ?_
      refine run_same (v := Value.string (subStr (⟨#[48, 49, 50, 51, 52, 53, 54, 55, 56, 57, 97, 98, 99, 100, 101, 102]⟩ : ByteArray) (iRem a0 16) (IntKind.wrap .u64 ((iRem a0 16) + 1)))) rfl rfl (r_assign rfl) ?_
      try simp only [List.set_cons_zero, List.set_cons_succ]
      refine run_nil ?_
      refine norm_then ?_
      refine wp_ret ?_
      refine ret_then ?_
      obtain rfl := Option.some.inj H
      refine bodyPost_ret (results_1 rfl (one_tmp rfl)) rfl ?_
      exact ⟨rfl, HS.toE⟩
    · replace H := of_neg H (nt c1)
      refine wp_skip ?_
      refine norm_then ?_
      refine wp_seq ?_
      refine region ?_
      refine run_same (v := Value.int .u64 a0) rfl rfl (r_move rfl) ?_
      refine run_same (v := Value.int .u64 (iQuo .u64 a0 16)) rfl rfl (r_quo rfl rfl (by decide)) ?_
      obtain ⟨v1, H1, H⟩ := of_bind H
      refine run_eq (v := Value.string v1) rfl rfl (does_call_eq Tryz.call51 rfl rfl (ih (iQuo .u64 a0 16) HS.sees H1)) ?_
      intro w1 hE1
      have HS1 := HS.step hE1
      refine run_same (v := Value.string (subStr (⟨#[48, 49, 50, 51, 52, 53, 54, 55, 56, 57, 97, 98, 99, 100, 101, 102]⟩ : ByteArray) (iRem a0 16) (IntKind.wrap .u64 ((iRem a0 16) + 1)))) rfl rfl (r_move rfl) ?_
      refine run_frame (by simp only [List.set_cons_zero, List.set_cons_succ]; rfl) ?_
      obtain ⟨hb4, H⟩ := of_ite H
      refine run_same (v := Value.string (v1 ++ (subStr (⟨#[48, 49, 50, 51, 52, 53, 54, 55, 56, 57, 97, 98, 99, 100, 101, 102]⟩ : ByteArray) (iRem a0 16) (IntKind.wrap .u64 ((iRem a0 16) + 1))))) rfl rfl (r_stradd rfl rfl hb4) ?_
      refine run_same (v := Value.string (v1 ++ (subStr (⟨#[48, 49, 50, 51, 52, 53, 54, 55, 56, 57, 97, 98, 99, 100, 101, 102]⟩ : ByteArray) (iRem a0 16) (IntKind.wrap .u64 ((iRem a0 16) + 1))))) rfl rfl (r_assign rfl) ?_
      try simp only [List.set_cons_zero, List.set_cons_succ]
      refine run_nil ?_
      refine norm_then ?_
      refine wp_ret ?_
      obtain rfl := Option.some.inj H
      refine bodyPost_ret (results_1 rfl (one_tmp rfl)) rfl ?_
      exact ⟨rfl, HS1.toE⟩

end Go.Proofs.YtecpbadkdpbkpaaGreatDoor
namespace Go.Proofs.YtecpbadkdpbkpaaGreatDoor
open Go.RowKit Go.M
def taplineref01_Digits.f : Nat → Int → Option (ByteArray)
  | 0, _ => none
  | k + 1, a0 => if (decide (a0 < 10)) = true then (if 0 ≤ a0 ∧ a0 ≤ (IntKind.wrap .u64 (a0 + 1)) ∧ (IntKind.wrap .u64 (a0 + 1)) ≤ ((⟨#[48, 49, 50, 51, 52, 53, 54, 55, 56, 57]⟩ : ByteArray).size : Int) then (some (subStr (⟨#[48, 49, 50, 51, 52, 53, 54, 55, 56, 57]⟩ : ByteArray) a0 (IntKind.wrap .u64 (a0 + 1)))) else none) else ((taplineref01_Digits.f k (iQuo .u64 a0 10)).bind fun v1 => ((taplineref01_Digits.f k (iRem a0 10)).bind fun v2 => (if v1.size + v2.size ≤ 9223372036854775807 then (some (v1 ++ v2)) else none)))
set_option maxRecDepth 20000 in
set_option maxHeartbeats 4000000 in
theorem taplineref01_Digits.calls : ∀ (k : Nat) (a0 : Int)  {h0 : View} {w0 : World} (hv : Sees h0 w0) {r : ByteArray} (H : taplineref01_Digits.f k a0 = some r), Calls Tryz.prog 52 #[Value.int .u64 a0] w0 (fun e w1 => e = .returned (Value.string r) ∧ Ext w0 w1) := by
  intro k
  induction k with
  | zero =>
    intros
    rename_i H
    exact absurd H (by simp [taplineref01_Digits.f])
  | succ k ih =>
    intro a0 h0 w0 hv r H
    rw [taplineref01_Digits.f] at H
    have HS : St [] h0 w0 h0 [] w0 := St.init hv
    go_enter Tryz.func52, Tryz.ntmps52
    refine wp_seq ?_
    refine region ?_
    refine run_same (v := Value.string ByteArray.empty) rfl rfl (r_assign rfl) ?_
    try simp only [List.set_cons_zero, List.set_cons_succ]
    refine run_nil ?_
    refine norm_then ?_
    refine wp_seq ?_
    refine wp_seq ?_
    refine region ?_
    refine run_same (v := Value.int .u64 a0) rfl rfl (r_move rfl) ?_
    refine run_same (v := Value.bool (decide (a0 < 10))) rfl rfl (r_bin rfl rfl rfl) ?_
    try simp only [List.set_cons_zero, List.set_cons_succ]
    refine run_nil ?_
    refine norm_then ?_
    refine wp_cond_split (t := (decide (a0 < 10))) rfl (fun c1 => ?_) (fun c1 => ?_)
    · replace H := of_pos H c1
      refine wp_seq ?_
      refine region ?_
      refine run_same (v := Value.int .u64 a0) rfl rfl (r_move rfl) ?_
      refine run_same (v := Value.int .u64 a0) rfl rfl (r_move rfl) ?_
      refine run_same (v := Value.int .u64 (IntKind.wrap .u64 (a0 + 1))) rfl rfl (r_bin rfl rfl rfl) ?_
      obtain ⟨hk1, H⟩ := of_ite H
      refine run_same (v := Value.string (subStr (⟨#[48, 49, 50, 51, 52, 53, 54, 55, 56, 57]⟩ : ByteArray) a0 (IntKind.wrap .u64 (a0 + 1)))) rfl rfl (r_subStr rfl Tryz.runUnderlying9 rfl rfl hk1) ?_
      refine run_frame (by simp only [List.set_cons_zero, List.set_cons_succ]; rfl) ?_
      refine run_same (v := Value.string (subStr (⟨#[48, 49, 50, 51, 52, 53, 54, 55, 56, 57]⟩ : ByteArray) a0 (IntKind.wrap .u64 (a0 + 1)))) rfl rfl (r_assign rfl) ?_
      try simp only [List.set_cons_zero, List.set_cons_succ]
      refine run_nil ?_
      refine norm_then ?_
      refine wp_ret ?_
      refine ret_then ?_
      obtain rfl := Option.some.inj H
      refine bodyPost_ret (results_1 rfl (one_tmp rfl)) rfl ?_
      exact ⟨rfl, HS.toE⟩
    · replace H := of_neg H (nt c1)
      refine wp_skip ?_
      refine norm_then ?_
      refine wp_seq ?_
      refine region ?_
      refine run_same (v := Value.int .u64 a0) rfl rfl (r_move rfl) ?_
      refine run_same (v := Value.int .u64 (iQuo .u64 a0 10)) rfl rfl (r_quo rfl rfl (by decide)) ?_
      obtain ⟨v1, H1, H⟩ := of_bind H
      refine run_eq (v := Value.string v1) rfl rfl (does_call_eq Tryz.call52 rfl rfl (ih (iQuo .u64 a0 10) HS.sees H1)) ?_
      intro w1 hE1
      have HS1 := HS.step hE1
      refine run_same (v := Value.int .u64 a0) rfl rfl (r_move rfl) ?_
      refine run_frame (by simp only [List.set_cons_zero, List.set_cons_succ]; rfl) ?_
      refine run_same (v := Value.int .u64 (iRem a0 10)) rfl rfl (r_rem rfl rfl (by decide)) ?_
      obtain ⟨v2, H2, H⟩ := of_bind H
      refine run_eq (v := Value.string v2) rfl rfl (does_call_eq Tryz.call52 rfl rfl (ih (iRem a0 10) HS1.sees H2)) ?_
      intro w2 hE2
      have HS2 := HS1.step hE2
      obtain ⟨hb3, H⟩ := of_ite H
      refine run_same (v := Value.string (v1 ++ v2)) rfl rfl (r_stradd rfl rfl hb3) ?_
      refine run_same (v := Value.string (v1 ++ v2)) rfl rfl (r_assign rfl) ?_
      try simp only [List.set_cons_zero, List.set_cons_succ]
      refine run_nil ?_
      refine norm_then ?_
      refine wp_ret ?_
      obtain rfl := Option.some.inj H
      refine bodyPost_ret (results_1 rfl (one_tmp rfl)) rfl ?_
      exact ⟨rfl, HS2.toE⟩

end Go.Proofs.YtecpbadkdpbkpaaGreatDoor
namespace Go.Proofs.YtecpbadkdpbkpaaGreatDoor
open Go.RowKit Go.M
def taplineref09_Name.f (k : Nat) (a0 : List api_Sym) (a1 : Int) : Option (ByteArray) := (taplineref09_Find.f k a0 a1).bind fun v1 => (if (!v1.2.2) = true then ((taplineref09_hex.f k (IntKind.wrap .u64 a1)).bind fun v2 => (if (⟨#[48, 120]⟩ : ByteArray).size + v2.size ≤ 9223372036854775807 then (some ((⟨#[48, 120]⟩ : ByteArray) ++ v2)) else none)) else (if (v1.2.1 == 0) = true then (if 0 ≤ v1.1 ∧ v1.1 < a0.length then (some ((rd z_api_Sym a0 v1.1).vName)) else none) else (if 0 ≤ v1.1 ∧ v1.1 < a0.length then (if ((rd z_api_Sym a0 v1.1).vName).size + (⟨#[43]⟩ : ByteArray).size ≤ 9223372036854775807 then ((taplineref01_Digits.f k (IntKind.wrap .u64 v1.2.1)).bind fun v3 => (if ((rd z_api_Sym a0 v1.1).vName ++ (⟨#[43]⟩ : ByteArray)).size + v3.size ≤ 9223372036854775807 then (some (((rd z_api_Sym a0 v1.1).vName ++ (⟨#[43]⟩ : ByteArray)) ++ v3)) else none)) else none) else none)))
set_option maxRecDepth 20000 in
set_option maxHeartbeats 4000000 in
theorem taplineref09_Name.calls (k : Nat) (a0 : List api_Sym) (a1 : Int) (A0_0 : Option Addr) (c0_0 : Nat) {h0 : View} {w0 : World} (hv : Sees h0 w0) (hr0_0 : Rd k_api_Sym h0 A0_0 a0) (hc0_0 : a0.length ≤ c0_0) {r : ByteArray} (H : taplineref09_Name.f k a0 a1 = some r) : Calls Tryz.prog 18 #[Value.slice A0_0 a0.length c0_0, Value.int .i64 a1] w0 (fun e w1 => e = .returned (Value.string r) ∧ Ext w0 w1) := by
  unfold taplineref09_Name.f at H
  have HS : St [] h0 w0 h0 [] w0 := St.init hv
  go_enter Tryz.func18, Tryz.ntmps18
  refine wp_seq ?_
  refine region ?_
  refine run_same (v := Value.string ByteArray.empty) rfl rfl (r_assign rfl) ?_
  try simp only [List.set_cons_zero, List.set_cons_succ]
  refine run_nil ?_
  refine norm_then ?_
  refine wp_seq ?_
  refine region ?_
  refine run_same (v := Value.slice A0_0 a0.length c0_0) rfl rfl (r_move rfl) ?_
  refine run_same (v := Value.int .i64 a1) rfl rfl (r_move rfl) ?_
  obtain ⟨v1, H1, H⟩ := of_bind H
  refine run_eq (v := Value.tuple #[Value.int .i64 v1.1, Value.int .i64 v1.2.1, Value.bool v1.2.2]) rfl rfl (does_call_eq Tryz.call16 rfl rfl (taplineref09_Find.calls k a0 a1 A0_0 c0_0 HS.sees hr0_0 hc0_0 H1)) ?_
  intro w1 hE1
  have HS1 := HS.step hE1
  refine run_same (v := Value.tuple #[Value.int .i64 v1.1, Value.int .i64 v1.2.1, Value.bool v1.2.2]) rfl rfl (r_move rfl) ?_
  refine run_frame (by simp only [List.set_cons_zero, List.set_cons_succ]; rfl) ?_
  refine run_same (v := Value.int .i64 v1.1) rfl rfl (r_extract rfl rfl) ?_
  refine run_same (v := Value.int .i64 v1.2.1) rfl rfl (r_extract rfl rfl) ?_
  refine run_same (v := Value.bool v1.2.2) rfl rfl (r_extract rfl rfl) ?_
  refine run_same (v := Value.int .i64 v1.1) rfl rfl (r_assign rfl) ?_
  refine run_frame (by simp only [List.set_cons_zero, List.set_cons_succ]; rfl) ?_
  refine run_same (v := Value.int .i64 v1.2.1) rfl rfl (r_assign rfl) ?_
  refine run_same (v := Value.bool v1.2.2) rfl rfl (r_assign rfl) ?_
  try simp only [List.set_cons_zero, List.set_cons_succ]
  refine run_nil ?_
  refine norm_then ?_
  refine wp_seq ?_
  refine wp_seq ?_
  refine region ?_
  refine run_same (v := Value.bool v1.2.2) rfl rfl (r_move rfl) ?_
  refine run_same (v := Value.bool (!v1.2.2)) rfl rfl (r_not rfl) ?_
  try simp only [List.set_cons_zero, List.set_cons_succ]
  refine run_nil ?_
  refine norm_then ?_
  refine wp_cond_split (t := (!v1.2.2)) rfl (fun c1 => ?_) (fun c1 => ?_)
  · replace H := of_pos H c1
    refine wp_seq ?_
    refine region ?_
    refine run_same (v := Value.int .i64 a1) rfl rfl (r_move rfl) ?_
    refine run_same (v := Value.int .u64 (IntKind.wrap .u64 a1)) rfl rfl (r_conv rfl Tryz.runUnderlying2 Tryz.runUnderlying71) ?_
    obtain ⟨v2, H2, H⟩ := of_bind H
    refine run_eq (v := Value.string v2) rfl rfl (does_call_eq Tryz.call51 rfl rfl (taplineref09_hex.calls k (IntKind.wrap .u64 a1) HS1.sees H2)) ?_
    intro w2 hE2
    have HS2 := HS1.step hE2
    obtain ⟨hb1, H⟩ := of_ite H
    refine run_same (v := Value.string ((⟨#[48, 120]⟩ : ByteArray) ++ v2)) rfl rfl (r_stradd rfl rfl hb1) ?_
    refine run_frame (by simp only [List.set_cons_zero, List.set_cons_succ]; rfl) ?_
    refine run_same (v := Value.string ((⟨#[48, 120]⟩ : ByteArray) ++ v2)) rfl rfl (r_assign rfl) ?_
    try simp only [List.set_cons_zero, List.set_cons_succ]
    refine run_nil ?_
    refine norm_then ?_
    refine wp_ret ?_
    refine ret_then ?_
    obtain rfl := Option.some.inj H
    refine bodyPost_ret (results_1 rfl (one_tmp rfl)) rfl ?_
    exact ⟨rfl, HS2.toE⟩
  · replace H := of_neg H (nt c1)
    refine wp_skip ?_
    refine norm_then ?_
    refine wp_seq ?_
    refine wp_seq ?_
    refine region ?_
    refine run_same (v := Value.int .i64 v1.2.1) rfl rfl (r_move rfl) ?_
    refine run_same (v := Value.bool (v1.2.1 == 0)) rfl rfl (r_bin rfl rfl rfl) ?_
    try simp only [List.set_cons_zero, List.set_cons_succ]
    refine run_nil ?_
    refine norm_then ?_
    refine wp_cond_split (t := (v1.2.1 == 0)) rfl (fun c2 => ?_) (fun c2 => ?_)
    · replace H := of_pos H c2
      refine wp_seq ?_
      refine region ?_
      refine run_same (v := Value.slice A0_0 a0.length c0_0) rfl rfl (r_move rfl) ?_
      refine run_same (v := Value.int .i64 v1.1) rfl rfl (r_move rfl) ?_
      obtain ⟨hi1, H⟩ := of_ite H
      obtain ⟨ad1, e1, hel1⟩ := ld_api_Sym hr0_0 hi1.1 hi1.2
      refine run_same (v := Value.pointer (some (Addr.add ad1 (v1.1.toNat * 3)))) rfl rfl (r_indexA (sz := 3) rfl e1 rfl hi1.1 hi1.2 Tryz.runUnderlying49 Tryz.sizeOf68) ?_
      refine run_same (v := Value.pointer (some (Addr.add (Addr.add ad1 (v1.1.toNat * 3)) 0))) rfl rfl (r_fieldEl (n := 1) (o' := 0) rfl Tryz.runUnderlying68 rfl Tryz.sizeOf9 (by decide) rfl) ?_
      refine run_frame (by simp only [List.set_cons_zero, List.set_cons_succ]; rfl) ?_
      refine run_same (v := Value.string ((rd z_api_Sym a0 v1.1).vName)) rfl rfl (r_load rfl Tryz.isAgg9 (hel1.cell HS1.sees 0 rfl)) ?_
      refine run_same (v := Value.string ((rd z_api_Sym a0 v1.1).vName)) rfl rfl (r_assign rfl) ?_
      try simp only [List.set_cons_zero, List.set_cons_succ]
      refine run_nil ?_
      refine norm_then ?_
      refine wp_ret ?_
      refine ret_then ?_
      obtain rfl := Option.some.inj H
      refine bodyPost_ret (results_1 rfl (one_tmp rfl)) rfl ?_
      exact ⟨rfl, HS1.toE⟩
    · replace H := of_neg H (nt c2)
      refine wp_skip ?_
      refine norm_then ?_
      refine wp_seq ?_
      obtain ⟨hi2, H⟩ := of_ite H
      obtain ⟨ad2, e2, hel2⟩ := ld_api_Sym hr0_0 hi2.1 hi2.2
      obtain ⟨hb2, H⟩ := of_ite H
      obtain ⟨v3, H3, H⟩ := of_bind H
      obtain ⟨hb3, H⟩ := of_ite H
      refine drawn [.eq (Value.slice A0_0 a0.length c0_0), .eq (Value.int .i64 v1.1), .eq (Value.pointer (some (Addr.add ad2 (v1.1.toNat * 3)))), .eq (Value.pointer (some (Addr.add (Addr.add ad2 (v1.1.toNat * 3)) 0))), .eq (Value.string ((rd z_api_Sym a0 v1.1).vName)), .eq (Value.string ((rd z_api_Sym a0 v1.1).vName ++ (⟨#[43]⟩ : ByteArray))), .eq (Value.int .i64 v1.2.1), .eq (Value.int .u64 (IntKind.wrap .u64 v1.2.1)), .eq (Value.string v3), .eq (Value.string (((rd z_api_Sym a0 v1.1).vName ++ (⟨#[43]⟩ : ByteArray)) ++ v3))] [28, 29, 30, 31, 32, 33, 34, 35, 36, 37] hmix (by kernel_rfl) rfl (stable_eq (stable_eq (stable_eq (stable_eq (stable_eq (stable_eq (stable_eq (stable_eq (stable_eq (stable_eq stable_nil)))))))))) ⟨ob_plain rfl (fun a' w' hE hk => by have HSd := HS1.step hE; exact does_eq (r_move (show _ = Value.slice A0_0 a0.length c0_0 from hk 0 rfl))), ob_plain rfl (fun a' w' hE hk => by have HSd := HS1.step hE; exact does_eq (r_move (show _ = Value.int .i64 v1.1 from hk 5 rfl))), ob_plain rfl (fun a' w' hE hk => by have HSd := HS1.step hE; exact does_eq (r_indexA (sz := 3) (show _ = Value.slice A0_0 a0.length c0_0 from hk 28 rfl) e2 (show _ = Value.int .i64 v1.1 from hk 29 rfl) hi2.1 hi2.2 Tryz.runUnderlying49 Tryz.sizeOf68)), ob_plain rfl (fun a' w' hE hk => by have HSd := HS1.step hE; exact does_eq (r_fieldEl (n := 1) (o' := 0) (show _ = Value.pointer (some (Addr.add ad2 (v1.1.toNat * 3))) from hk 30 rfl) Tryz.runUnderlying68 rfl Tryz.sizeOf9 (by decide) rfl)), ob_plain rfl (fun a' w' hE hk => by have HSd := HS1.step hE; exact does_eq (r_load (show _ = Value.pointer (some (Addr.add (Addr.add ad2 (v1.1.toNat * 3)) 0)) from hk 31 rfl) Tryz.isAgg9 (hel2.cell HSd.sees 0 rfl))), ob_plain rfl (fun a' w' hE hk => by have HSd := HS1.step hE; exact does_eq (r_stradd (show _ = Value.string ((rd z_api_Sym a0 v1.1).vName) from hk 32 rfl) rfl hb2)), ob_plain rfl (fun a' w' hE hk => by have HSd := HS1.step hE; exact does_eq (r_move (show _ = Value.int .i64 v1.2.1 from hk 6 rfl))), ob_plain rfl (fun a' w' hE hk => by have HSd := HS1.step hE; exact does_eq (r_conv (show _ = Value.int .i64 v1.2.1 from hk 34 rfl) Tryz.runUnderlying2 Tryz.runUnderlying71)), ob_plain rfl (fun a' w' hE hk => by have HSd := HS1.step hE; exact (does_call_eq Tryz.call52 rfl (map1 (show _ = Value.int .u64 (IntKind.wrap .u64 v1.2.1) from hk 35 rfl)) (taplineref01_Digits.calls k (IntKind.wrap .u64 v1.2.1) HSd.sees H3))), ob_plain rfl (fun a' w' hE hk => by have HSd := HS1.step hE; exact does_eq (r_stradd (show _ = Value.string ((rd z_api_Sym a0 v1.1).vName ++ (⟨#[43]⟩ : ByteArray)) from hk 33 rfl) (show _ = Value.string v3 from hk 36 rfl) hb3)), trivial⟩ ?_
      intro w3 hE3
      simp only [List.zip_cons_cons, List.zip_nil_left, List.zip_nil_right, finL, List.set_cons_zero, List.set_cons_succ, List.length_cons, List.length_nil, List.drop_succ_cons, List.drop_zero, Nat.zero_add, Nat.reduceAdd]
      have HS3 := HS1.step hE3
      refine run_same (v := Value.string (((rd z_api_Sym a0 v1.1).vName ++ (⟨#[43]⟩ : ByteArray)) ++ v3)) rfl rfl (r_assign rfl) ?_
      try simp only [List.set_cons_zero, List.set_cons_succ]
      refine run_nil ?_
      refine norm_then ?_
      refine wp_ret ?_
      obtain rfl := Option.some.inj H
      refine bodyPost_ret (results_1 rfl (one_tmp rfl)) rfl ?_
      exact ⟨rfl, HS3.toE⟩

end Go.Proofs.YtecpbadkdpbkpaaGreatDoor
namespace Go.Proofs.YtecpbadkdpbkpaaGreatDoor
open Go.RowKit Go.M
def taplinelaw09_ImageNames.f (k : Nat) (a0 : List api_Sym) (a1 : Int) : Option (Bool) := (taplinelaw09_sane.f).bind fun v1 => ((image_Find.f k a0 a1).bind fun v2 => ((taplineref09_Find.f k a0 a1).bind fun v3 => ((if (true && ((((v1 && (v2.1 == v3.1)) && (v2.2.1 == v3.2.1)) && (v2.2.2 == v3.2.2)) == true)) = true then image_Name.f k a0 a1 else some ByteArray.empty).bind fun v4 => ((if (true && ((((v1 && (v2.1 == v3.1)) && (v2.2.1 == v3.2.1)) && (v2.2.2 == v3.2.2)) == true)) = true then taplineref09_Name.f k a0 a1 else some ByteArray.empty).bind fun v5 => (some ((((v1 && (v2.1 == v3.1)) && (v2.2.1 == v3.2.1)) && (v2.2.2 == v3.2.2)) && (strEq v4 v5)))))))
set_option maxRecDepth 20000 in
set_option maxHeartbeats 4000000 in
theorem taplinelaw09_ImageNames.calls (k : Nat) (a0 : List api_Sym) (a1 : Int) (A0_0 : Option Addr) (c0_0 : Nat) {h0 : View} {w0 : World} (hv : Sees h0 w0) (ht : Tab w0) (hr0_0 : Rd k_api_Sym h0 A0_0 a0) (hc0_0 : a0.length ≤ c0_0) {r : Bool} (H : taplinelaw09_ImageNames.f k a0 a1 = some r) : Calls Tryz.prog 5 #[Value.slice A0_0 a0.length c0_0, Value.int .i64 a1] w0 (fun e w1 => e = .returned (Value.bool r) ∧ Ext w0 w1) := by
  unfold taplinelaw09_ImageNames.f at H
  have HS : St [] h0 w0 h0 [] w0 := St.init hv
  go_enter Tryz.func5, Tryz.ntmps5
  refine wp_seq ?_
  refine region ?_
  refine run_same (v := Value.bool false) rfl rfl (r_assign rfl) ?_
  try simp only [List.set_cons_zero, List.set_cons_succ]
  refine run_nil ?_
  refine norm_then ?_
  refine wp_seq ?_
  refine region ?_
  obtain ⟨v1, H1, H⟩ := of_bind H
  refine run_eq (v := Value.bool v1) rfl rfl (does_call_eq Tryz.call10 rfl rfl (taplinelaw09_sane.calls HS.sees (ht.s HS) H1)) ?_
  intro w1 hE1
  have HS1 := HS.step hE1
  refine run_same (v := Value.bool v1) rfl rfl (r_assign rfl) ?_
  try simp only [List.set_cons_zero, List.set_cons_succ]
  refine run_nil ?_
  refine norm_then ?_
  refine wp_seq ?_
  refine region ?_
  refine run_same (v := Value.slice A0_0 a0.length c0_0) rfl rfl (r_move rfl) ?_
  refine run_same (v := Value.int .i64 a1) rfl rfl (r_move rfl) ?_
  obtain ⟨v2, H2, H⟩ := of_bind H
  refine run_eq (v := Value.tuple #[Value.int .i64 v2.1, Value.int .i64 v2.2.1, Value.bool v2.2.2]) rfl rfl (does_call_eq Tryz.call15 rfl rfl (image_Find.calls k a0 a1 A0_0 c0_0 HS1.sees hr0_0 hc0_0 H2)) ?_
  intro w2 hE2
  have HS2 := HS1.step hE2
  refine run_same (v := Value.tuple #[Value.int .i64 v2.1, Value.int .i64 v2.2.1, Value.bool v2.2.2]) rfl rfl (r_move rfl) ?_
  refine run_frame (by simp only [List.set_cons_zero, List.set_cons_succ]; rfl) ?_
  refine run_same (v := Value.int .i64 v2.1) rfl rfl (r_extract rfl rfl) ?_
  refine run_same (v := Value.int .i64 v2.2.1) rfl rfl (r_extract rfl rfl) ?_
  refine run_same (v := Value.bool v2.2.2) rfl rfl (r_extract rfl rfl) ?_
  refine run_same (v := Value.int .i64 v2.1) rfl rfl (r_assign rfl) ?_
  refine run_frame (by simp only [List.set_cons_zero, List.set_cons_succ]; rfl) ?_
  refine run_same (v := Value.int .i64 v2.2.1) rfl rfl (r_assign rfl) ?_
  refine run_same (v := Value.bool v2.2.2) rfl rfl (r_assign rfl) ?_
  try simp only [List.set_cons_zero, List.set_cons_succ]
  refine run_nil ?_
  refine norm_then ?_
  refine wp_seq ?_
  refine region ?_
  refine run_same (v := Value.slice A0_0 a0.length c0_0) rfl rfl (r_move rfl) ?_
  refine run_same (v := Value.int .i64 a1) rfl rfl (r_move rfl) ?_
  obtain ⟨v3, H3, H⟩ := of_bind H
  refine run_eq (v := Value.tuple #[Value.int .i64 v3.1, Value.int .i64 v3.2.1, Value.bool v3.2.2]) rfl rfl (does_call_eq Tryz.call16 rfl rfl (taplineref09_Find.calls k a0 a1 A0_0 c0_0 HS2.sees hr0_0 hc0_0 H3)) ?_
  intro w3 hE3
  have HS3 := HS2.step hE3
  refine run_same (v := Value.tuple #[Value.int .i64 v3.1, Value.int .i64 v3.2.1, Value.bool v3.2.2]) rfl rfl (r_move rfl) ?_
  refine run_frame (by simp only [List.set_cons_zero, List.set_cons_succ]; rfl) ?_
  refine run_same (v := Value.int .i64 v3.1) rfl rfl (r_extract rfl rfl) ?_
  refine run_same (v := Value.int .i64 v3.2.1) rfl rfl (r_extract rfl rfl) ?_
  refine run_same (v := Value.bool v3.2.2) rfl rfl (r_extract rfl rfl) ?_
  refine run_same (v := Value.int .i64 v3.1) rfl rfl (r_assign rfl) ?_
  refine run_frame (by simp only [List.set_cons_zero, List.set_cons_succ]; rfl) ?_
  refine run_same (v := Value.int .i64 v3.2.1) rfl rfl (r_assign rfl) ?_
  refine run_same (v := Value.bool v3.2.2) rfl rfl (r_assign rfl) ?_
  try simp only [List.set_cons_zero, List.set_cons_succ]
  refine run_nil ?_
  refine norm_then ?_
  refine wp_seq ?_
  refine region ?_
  refine run_same (v := Value.bool v1) rfl rfl (r_move rfl) ?_
  refine run_same (v := Value.bool v1) rfl rfl (r_move rfl) ?_
  refine run_g_same (b := v1) (c := true) (v := Value.int .i64 v2.1) rfl rfl rfl rfl (fun hg => (r_move rfl)) ?_
  refine run_g_same (b := v1) (c := true) (v := Value.int .i64 v3.1) rfl rfl rfl rfl (fun hg => (r_move rfl)) ?_
  refine run_frame (by simp only [List.set_cons_zero, List.set_cons_succ]; rfl) ?_
  refine run_g_same (b := v1) (c := true) (v := Value.bool (v2.1 == v3.1)) rfl rfl rfl rfl (fun hg => (r_bin ((show _ = gv (true && (v1 == true)) (Value.int .i64 v2.1) from rfl).trans (gv_t hg)) ((show _ = gv (true && (v1 == true)) (Value.int .i64 v3.1) from rfl).trans (gv_t hg)) rfl)) ?_
  refine run_same (v := Value.bool (v1 && (v2.1 == v3.1))) rfl rfl (r_pick_and rfl (fun hp => ((show _ = gv (true && (v1 == true)) (Value.bool (v2.1 == v3.1)) from rfl).trans (gv_t (and_i rfl hp)))) rfl) ?_
  refine run_same (v := Value.bool (v1 && (v2.1 == v3.1))) rfl rfl (r_move rfl) ?_
  refine run_g_same (b := (v1 && (v2.1 == v3.1))) (c := true) (v := Value.int .i64 v2.2.1) rfl rfl rfl rfl (fun hg => (r_move rfl)) ?_
  refine run_frame (by simp only [List.set_cons_zero, List.set_cons_succ]; rfl) ?_
  refine run_g_same (b := (v1 && (v2.1 == v3.1))) (c := true) (v := Value.int .i64 v3.2.1) rfl rfl rfl rfl (fun hg => (r_move rfl)) ?_
  refine run_g_same (b := (v1 && (v2.1 == v3.1))) (c := true) (v := Value.bool (v2.2.1 == v3.2.1)) rfl rfl rfl rfl (fun hg => (r_bin ((show _ = gv (true && ((v1 && (v2.1 == v3.1)) == true)) (Value.int .i64 v2.2.1) from rfl).trans (gv_t hg)) ((show _ = gv (true && ((v1 && (v2.1 == v3.1)) == true)) (Value.int .i64 v3.2.1) from rfl).trans (gv_t hg)) rfl)) ?_
  refine run_same (v := Value.bool ((v1 && (v2.1 == v3.1)) && (v2.2.1 == v3.2.1))) rfl rfl (r_pick_and rfl (fun hp => ((show _ = gv (true && ((v1 && (v2.1 == v3.1)) == true)) (Value.bool (v2.2.1 == v3.2.1)) from rfl).trans (gv_t (and_i rfl hp)))) rfl) ?_
  refine run_same (v := Value.bool ((v1 && (v2.1 == v3.1)) && (v2.2.1 == v3.2.1))) rfl rfl (r_move rfl) ?_
  refine run_frame (by simp only [List.set_cons_zero, List.set_cons_succ]; rfl) ?_
  refine run_g_same (b := ((v1 && (v2.1 == v3.1)) && (v2.2.1 == v3.2.1))) (c := true) (v := Value.bool v2.2.2) rfl rfl rfl rfl (fun hg => (r_move rfl)) ?_
  refine run_g_same (b := ((v1 && (v2.1 == v3.1)) && (v2.2.1 == v3.2.1))) (c := true) (v := Value.bool v3.2.2) rfl rfl rfl rfl (fun hg => (r_move rfl)) ?_
  refine run_g_same (b := ((v1 && (v2.1 == v3.1)) && (v2.2.1 == v3.2.1))) (c := true) (v := Value.bool (v2.2.2 == v3.2.2)) rfl rfl rfl rfl (fun hg => (r_booleql ((show _ = gv (true && (((v1 && (v2.1 == v3.1)) && (v2.2.1 == v3.2.1)) == true)) (Value.bool v2.2.2) from rfl).trans (gv_t hg)) ((show _ = gv (true && (((v1 && (v2.1 == v3.1)) && (v2.2.1 == v3.2.1)) == true)) (Value.bool v3.2.2) from rfl).trans (gv_t hg)) Tryz.runUnderlying4)) ?_
  refine run_same (v := Value.bool (((v1 && (v2.1 == v3.1)) && (v2.2.1 == v3.2.1)) && (v2.2.2 == v3.2.2))) rfl rfl (r_pick_and rfl (fun hp => ((show _ = gv (true && (((v1 && (v2.1 == v3.1)) && (v2.2.1 == v3.2.1)) == true)) (Value.bool (v2.2.2 == v3.2.2)) from rfl).trans (gv_t (and_i rfl hp)))) rfl) ?_
  refine run_frame (by simp only [List.set_cons_zero, List.set_cons_succ]; rfl) ?_
  refine run_same (v := Value.bool (((v1 && (v2.1 == v3.1)) && (v2.2.1 == v3.2.1)) && (v2.2.2 == v3.2.2))) rfl rfl (r_move rfl) ?_
  refine run_g_same (b := (((v1 && (v2.1 == v3.1)) && (v2.2.1 == v3.2.1)) && (v2.2.2 == v3.2.2))) (c := true) (v := Value.slice A0_0 a0.length c0_0) rfl rfl rfl rfl (fun hg => (r_move rfl)) ?_
  refine run_g_same (b := (((v1 && (v2.1 == v3.1)) && (v2.2.1 == v3.2.1)) && (v2.2.2 == v3.2.2))) (c := true) (v := Value.int .i64 a1) rfl rfl rfl rfl (fun hg => (r_move rfl)) ?_
  obtain ⟨v4, H4, H⟩ := of_bind H
  refine run_g (b := (((v1 && (v2.1 == v3.1)) && (v2.2.1 == v3.2.1)) && (v2.2.2 == v3.2.2))) (c := true) (v := Value.string v4) rfl rfl rfl rfl (fun hg => (does_call_eq Tryz.call17 rfl (map2 ((show _ = gv (true && ((((v1 && (v2.1 == v3.1)) && (v2.2.1 == v3.2.1)) && (v2.2.2 == v3.2.2)) == true)) (Value.slice A0_0 a0.length c0_0) from rfl).trans (gv_t hg)) ((show _ = gv (true && ((((v1 && (v2.1 == v3.1)) && (v2.2.1 == v3.2.1)) && (v2.2.2 == v3.2.2)) == true)) (Value.int .i64 a1) from rfl).trans (gv_t hg))) (image_Name.calls k a0 a1 A0_0 c0_0 HS3.sees (ht.s HS3) hr0_0 hc0_0 (of_pos H4 hg)))) ?_
  intro w4 hE4
  have HS4 := HS3.step hE4
  refine run_frame (by simp only [List.set_cons_zero, List.set_cons_succ]; rfl) ?_
  refine run_g_same (b := (((v1 && (v2.1 == v3.1)) && (v2.2.1 == v3.2.1)) && (v2.2.2 == v3.2.2))) (c := true) (v := Value.slice A0_0 a0.length c0_0) rfl rfl rfl rfl (fun hg => (r_move rfl)) ?_
  refine run_g_same (b := (((v1 && (v2.1 == v3.1)) && (v2.2.1 == v3.2.1)) && (v2.2.2 == v3.2.2))) (c := true) (v := Value.int .i64 a1) rfl rfl rfl rfl (fun hg => (r_move rfl)) ?_
  obtain ⟨v5, H5, H⟩ := of_bind H
  refine run_g (b := (((v1 && (v2.1 == v3.1)) && (v2.2.1 == v3.2.1)) && (v2.2.2 == v3.2.2))) (c := true) (v := Value.string v5) rfl rfl rfl rfl (fun hg => (does_call_eq Tryz.call18 rfl (map2 ((show _ = gv (true && ((((v1 && (v2.1 == v3.1)) && (v2.2.1 == v3.2.1)) && (v2.2.2 == v3.2.2)) == true)) (Value.slice A0_0 a0.length c0_0) from rfl).trans (gv_t hg)) ((show _ = gv (true && ((((v1 && (v2.1 == v3.1)) && (v2.2.1 == v3.2.1)) && (v2.2.2 == v3.2.2)) == true)) (Value.int .i64 a1) from rfl).trans (gv_t hg))) (taplineref09_Name.calls k a0 a1 A0_0 c0_0 HS4.sees hr0_0 hc0_0 (of_pos H5 hg)))) ?_
  intro w5 hE5
  have HS5 := HS4.step hE5
  refine run_g_same (b := (((v1 && (v2.1 == v3.1)) && (v2.2.1 == v3.2.1)) && (v2.2.2 == v3.2.2))) (c := true) (v := Value.bool (strEq v4 v5)) rfl rfl rfl rfl (fun hg => (r_streql ((show _ = gv (true && ((((v1 && (v2.1 == v3.1)) && (v2.2.1 == v3.2.1)) && (v2.2.2 == v3.2.2)) == true)) (Value.string v4) from rfl).trans (gv_t hg)) ((show _ = gv (true && ((((v1 && (v2.1 == v3.1)) && (v2.2.1 == v3.2.1)) && (v2.2.2 == v3.2.2)) == true)) (Value.string v5) from rfl).trans (gv_t hg)))) ?_
  refine run_frame (by simp only [List.set_cons_zero, List.set_cons_succ]; rfl) ?_
  refine run_same (v := Value.bool ((((v1 && (v2.1 == v3.1)) && (v2.2.1 == v3.2.1)) && (v2.2.2 == v3.2.2)) && (strEq v4 v5))) rfl rfl (r_pick_and rfl (fun hp => ((show _ = gv (true && ((((v1 && (v2.1 == v3.1)) && (v2.2.1 == v3.2.1)) && (v2.2.2 == v3.2.2)) == true)) (Value.bool (strEq v4 v5)) from rfl).trans (gv_t (and_i rfl hp)))) rfl) ?_
  refine run_same (v := Value.bool ((((v1 && (v2.1 == v3.1)) && (v2.2.1 == v3.2.1)) && (v2.2.2 == v3.2.2)) && (strEq v4 v5))) rfl rfl (r_assign rfl) ?_
  try simp only [List.set_cons_zero, List.set_cons_succ]
  refine run_nil ?_
  refine norm_then ?_
  refine wp_ret ?_
  obtain rfl := Option.some.inj H
  refine bodyPost_ret (results_1 rfl (one_tmp rfl)) rfl ?_
  exact ⟨rfl, HS5.toE⟩

end Go.Proofs.YtecpbadkdpbkpaaGreatDoor
/- The law of names: ImageNames answers true. -/
namespace Go.Proofs.YtecpbadkdpbkpaaGreatDoor
open Go.RowKit Go.M
theorem wrapm (x : Int) : IntKind.wrap .u64 x = x % 18446744073709551616 := by
  simp [IntKind.wrap, IntKind.bits, IntKind.signed]
/-! ### digits -/
def hexes : ByteArray := ⟨#[48, 49, 50, 51, 52, 53, 54, 55, 56, 57, 97, 98, 99, 100, 101, 102]⟩
def tens : ByteArray := ⟨#[48, 49, 50, 51, 52, 53, 54, 55, 56, 57]⟩
def hxd (n : Nat) : ByteArray := subStr hexes (n : Int) ((n : Int) + 1)
def hx (n : Nat) : ByteArray := if h : n < 16 then hxd n else hx (n / 16) ++ hxd (n % 16)
termination_by n
decreasing_by omega
theorem hxd_size (n : Nat) (h : n < 16) : (hxd n).size = 1 := by
  have : ∀ m : Fin 16, (hxd m.val).size = 1 := by decide
  exact this ⟨n, h⟩
theorem hx_size : ∀ (j n : Nat), n < 16 ^ (j + 1) → (hx n).size ≤ j + 1
  | 0, n, h => by
    rw [hx, dif_pos (by omega), hxd_size n (by omega)]; omega
  | j + 1, n, h => by
    rw [hx]
    split
    · rw [hxd_size n (by omega)]; omega
    · rw [ByteArray.size_append, hxd_size _ (by omega)]
      have := hx_size j (n / 16) (by rw [Nat.div_lt_iff_lt_mul (by omega)]; rw [Nat.pow_succ] at h; exact h)
      omega
theorem quo16 (n : Nat) (h : n < 18446744073709551616) : iQuo .u64 (n : Int) 16 = ((n / 16 : Nat) : Int) := by
  unfold iQuo
  rw [Int.tdiv_eq_ediv_of_nonneg (by omega), wrapm]
  omega
theorem rem16 (n : Nat) : iRem (n : Int) 16 = ((n % 16 : Nat) : Int) := by
  unfold iRem
  rw [Int.tmod_eq_emod_of_nonneg (by omega)]
  omega
theorem quo10 (n : Nat) (h : n < 18446744073709551616) : iQuo .u64 (n : Int) 10 = ((n / 10 : Nat) : Int) := by
  unfold iQuo
  rw [Int.tdiv_eq_ediv_of_nonneg (by omega), wrapm]
  omega
theorem rem10 (n : Nat) : iRem (n : Int) 10 = ((n % 10 : Nat) : Int) := by
  unfold iRem
  rw [Int.tmod_eq_emod_of_nonneg (by omega)]
  omega
theorem succ_u (n : Nat) (h : n < 16) : IntKind.wrap .u64 ((n : Int) + 1) = (n : Int) + 1 := by rw [wrapm]; omega
theorem hx_big {n : Nat} (h : ¬ n < 16) : hx n = hx (n / 16) ++ hx (n % 16) := by
  rw [hx, dif_neg h, hx.eq_def (n % 16), dif_pos (by omega)]
theorem hex_p : ∀ (k n : Nat), n < 16 ^ (k + 1) → n < 18446744073709551616 → image_Name_1.f (k + 1) (n : Int) = some (hx n) := by
  intro k
  induction k with
  | zero =>
    intro n h h2
    rw [image_Name_1.f, if_pos (by simp; omega), succ_u n (by omega), if_pos (by
      show 0 ≤ (n : Int) ∧ (n : Int) ≤ (n : Int) + 1 ∧ (n : Int) + 1 ≤ 16
      omega), hx, dif_pos (by omega)]
    rfl
  | succ k ih =>
    intro n h h2
    rw [image_Name_1.f]
    by_cases hlt : n < 16
    · rw [if_pos (by simp; omega), succ_u n hlt, if_pos (by
        show 0 ≤ (n : Int) ∧ (n : Int) ≤ (n : Int) + 1 ∧ (n : Int) + 1 ≤ 16
        omega), hx, dif_pos hlt]
      rfl
    · have hd : n / 16 < 16 ^ (k + 1) := by rw [Nat.div_lt_iff_lt_mul (by omega)]; rw [Nat.pow_succ] at h; exact h
      have hm : n % 16 < 16 ^ (k + 1) := Nat.lt_of_lt_of_le (Nat.mod_lt _ (by omega)) (by rw [Nat.pow_succ]; exact Nat.le_mul_of_pos_left _ (Nat.pow_pos (by omega)))
      have s1 := hx_size 15 (n / 16) (by omega)
      have s2 := hx_size 0 (n % 16) (by omega)
      rw [if_neg (by simp; omega), quo16 n h2, ih _ hd (by omega), rem16, ih _ hm (by omega)]
      simp only [Option.bind_some]
      rw [if_pos (by omega), hx_big hlt]
theorem hex_r : ∀ (k n : Nat), n < 16 ^ (k + 1) → n < 18446744073709551616 → taplineref09_hex.f (k + 1) (n : Int) = some (hx n) := by
  intro k
  induction k with
  | zero =>
    intro n h h2
    rw [taplineref09_hex.f, rem16, succ_u (n % 16) (by omega), if_pos (by
      show 0 ≤ ((n % 16 : Nat) : Int) ∧ ((n % 16 : Nat) : Int) ≤ ((n % 16 : Nat) : Int) + 1 ∧ ((n % 16 : Nat) : Int) + 1 ≤ 16
      omega), if_pos (by simp; omega), hx, dif_pos (by omega), Nat.mod_eq_of_lt (by omega)]
    rfl
  | succ k ih =>
    intro n h h2
    rw [taplineref09_hex.f, rem16, succ_u (n % 16) (by omega), if_pos (by
      show 0 ≤ ((n % 16 : Nat) : Int) ∧ ((n % 16 : Nat) : Int) ≤ ((n % 16 : Nat) : Int) + 1 ∧ ((n % 16 : Nat) : Int) + 1 ≤ 16
      omega)]
    by_cases hlt : n < 16
    · rw [if_pos (by simp; omega), hx, dif_pos hlt, Nat.mod_eq_of_lt hlt]
      rfl
    · have hd : n / 16 < 16 ^ (k + 1) := by rw [Nat.div_lt_iff_lt_mul (by omega)]; rw [Nat.pow_succ] at h; exact h
      have s1 := hx_size 15 (n / 16) (by omega)
      have s2 : (hxd (n % 16)).size = 1 := hxd_size _ (by omega)
      rw [if_neg (by simp; omega), quo16 n h2, ih _ hd (by omega)]
      simp only [Option.bind_some]
      rw [if_pos (by show (hx (n / 16)).size + (hxd (n % 16)).size ≤ _; omega), hx.eq_def n, dif_neg hlt]
      rfl
def dec (n : Nat) : ByteArray := ⟨(Lib.decDigits n).toArray⟩
theorem dec_one (n : Nat) (h : n < 10) : subStr tens (n : Int) ((n : Int) + 1) = dec n := by
  have : ∀ m : Fin 10, subStr tens (m.val : Int) ((m.val : Int) + 1) = ⟨#[UInt8.ofNat (48 + m.val)]⟩ := by decide
  rw [this ⟨n, h⟩, dec, Lib.decDigits_one h]
theorem dec_size : ∀ (j n : Nat), n < 10 ^ (j + 1) → (dec n).size ≤ j + 1
  | 0, n, h => by
    unfold dec; rw [Lib.decDigits_one (by omega)]; exact Nat.le_refl 1
  | j + 1, n, h => by
    by_cases hlt : n < 10
    · unfold dec; rw [Lib.decDigits_one hlt]
      show 1 ≤ _
      omega
    · have := dec_size j (n / 10) (by rw [Nat.div_lt_iff_lt_mul (by omega)]; rw [Nat.pow_succ] at h; exact h)
      have h1 : (dec n).size = (dec (n / 10)).size + 1 := by
        unfold dec
        rw [Lib.decDigits, dif_neg hlt]
        simp [ByteArray.size]
      omega
theorem dec_big {n : Nat} (h : ¬ n < 10) : dec n = dec (n / 10) ++ dec (n % 10) := by
  unfold dec
  rw [Lib.decDigits, dif_neg h, Lib.decDigits_one (i := n % 10) (by omega)]
  apply data_inj
  simp [ByteArray.data_append]
theorem dig_r : ∀ (k n : Nat), n < 10 ^ (k + 1) → n < 18446744073709551616 → taplineref01_Digits.f (k + 1) (n : Int) = some (dec n) := by
  intro k
  induction k with
  | zero =>
    intro n h h2
    rw [taplineref01_Digits.f, if_pos (by simp; omega), succ_u n (by omega), if_pos (by
      show 0 ≤ (n : Int) ∧ (n : Int) ≤ (n : Int) + 1 ∧ (n : Int) + 1 ≤ 10
      omega), ← dec_one n (by omega)]
    rfl
  | succ k ih =>
    intro n h h2
    rw [taplineref01_Digits.f]
    by_cases hlt : n < 10
    · rw [if_pos (by simp; omega), succ_u n (by omega), if_pos (by
        show 0 ≤ (n : Int) ∧ (n : Int) ≤ (n : Int) + 1 ∧ (n : Int) + 1 ≤ 10
        omega), ← dec_one n hlt]
      rfl
    · have hd : n / 10 < 10 ^ (k + 1) := by rw [Nat.div_lt_iff_lt_mul (by omega)]; rw [Nat.pow_succ] at h; exact h
      have hm : n % 10 < 10 ^ (k + 1) := Nat.lt_of_lt_of_le (Nat.mod_lt _ (by omega)) (by rw [Nat.pow_succ]; exact Nat.le_mul_of_pos_left _ (Nat.pow_pos (by omega)))
      have s1 := dec_size 20 (n / 10) (by omega)
      have s2 := dec_size 0 (n % 10) (by omega)
      rw [if_neg (by simp; omega), quo10 n h2, ih _ hd (by omega), rem10, ih _ hm (by omega)]
      simp only [Option.bind_some]
      rw [if_pos (by omega), dec_big hlt]
/-! ### what is found -/
def FitN (s : api_Sym) : Prop := s.vName.size ≤ 140737488351232 ∧ (-9223372036854775808 ≤ s.vAt ∧ s.vAt ≤ 9223372036854775807) ∧ (-9223372036854775808 ≤ s.vSize ∧ s.vSize ≤ 9223372036854775807)
def cov (at_ : Int) (s : api_Sym) : Bool := decide (s.vAt ≤ at_) && decide ((at_ - s.vAt) % 18446744073709551616 < if 0 < s.vSize then s.vSize else 0)
theorem cov_p {s : api_Sym} {at_ : Int} (h : FitN s) : image_Find_1.f s at_ = some (cov at_ s) := by
  unfold image_Find_1.f cov iMax
  obtain ⟨_, h1, h2⟩ := h
  rw [wrapm at_, wrapm s.vAt, wrapm (at_ % _ - _), show (at_ % 18446744073709551616 - s.vAt % 18446744073709551616) % 18446744073709551616 = (at_ - s.vAt) % 18446744073709551616 by omega]
  refine congrArg some (congrArg _ ?_)
  split
  · rw [if_neg (by omega)]; rfl
  · next h3 =>
    by_cases h4 : 0 < s.vSize
    · rw [if_pos h4, wrapm, Int.emod_eq_of_lt (a := s.vSize) (by omega) (by omega)]
    · rw [if_neg h4, wrapm, show s.vSize = 0 by omega]; rfl
theorem cov_r {s : api_Sym} {at_ : Int} (h : FitN s) : taplineref09_covers.f s at_ = some (cov at_ s) := by
  unfold taplineref09_covers.f cov
  obtain ⟨_, h1, h2⟩ := h
  rw [wrapm at_, wrapm s.vAt, wrapm (at_ % _ - _), show (at_ % 18446744073709551616 - s.vAt % 18446744073709551616) % 18446744073709551616 = (at_ - s.vAt) % 18446744073709551616 by omega]
  by_cases h4 : 0 < s.vSize
  · rw [if_pos h4, wrapm, Int.emod_eq_of_lt (a := s.vSize) (by omega) (by omega)]
    simp [h4]
  · rw [if_neg h4, show decide (s.vSize > 0) = false by simp; omega]
    have : ¬ (at_ - s.vAt) % 18446744073709551616 < 0 := by omega
    simp [this]
theorem cov_off {s : api_Sym} {at_ : Int} (h : FitN s) (ha : at_ ≤ 9223372036854775807) (hc : cov at_ s = true) : 0 ≤ at_ - s.vAt ∧ at_ - s.vAt ≤ 9223372036854775807 := by
  unfold cov at hc
  obtain ⟨_, h1, h2⟩ := h
  simp only [Bool.and_eq_true, decide_eq_true_eq] at hc
  obtain ⟨h3, h4⟩ := hc
  split at h4 <;> omega
section
variable {l : List api_Sym} {at_ : Int}
theorem indexN {p : api_Sym → Option Bool} {q : api_Sym → Bool} (hp : ∀ z ∈ l, p z = some (q z)) (hl : l.length ≤ 9223372036854775807) :
    ∀ (d j m : Nat), j + d = l.length → d < m → slices_IndexFunc_api_Sym_api_Sym.l0 l p m (j : Int) = some (if ((l.drop j).any q) = true then .inl (((j + (l.drop j).findIdx q : Nat)) : Int) else .inr ()) := by
  intro d
  induction d with
  | zero =>
    intro j m hj hm
    obtain ⟨m, rfl⟩ : ∃ q, m = q + 1 := ⟨m - 1, by omega⟩
    rw [slices_IndexFunc_api_Sym_api_Sym.l0, if_neg (by simp; omega)]
    have : l.drop j = [] := List.drop_eq_nil_of_le (by omega)
    rw [this]
    rfl
  | succ d ih =>
    intro j m hj hm
    obtain ⟨m, rfl⟩ : ∃ q, m = q + 1 := ⟨m - 1, by omega⟩
    have hlt : j < l.length := by omega
    rw [slices_IndexFunc_api_Sym_api_Sym.l0, if_pos (by simp; omega), if_pos (by omega), rd_nat, hp _ (getD_mem hlt)]
    have hd : l.drop j = l.getD j z_api_Sym :: l.drop (j + 1) := by
      rw [List.drop_eq_getElem_cons hlt, List.getD_eq_getElem?_getD, List.getElem?_eq_getElem hlt]; rfl
    simp only [Option.bind_some]
    cases hb : q (l.getD j z_api_Sym) with
    | true =>
      rw [if_pos rfl, hd]
      simp only [List.any_cons, hb, Bool.true_or, if_true, List.findIdx_cons, cond_true, Nat.add_zero]
    | false =>
      rw [if_neg (by simp), wrap_nat hlt hl, ih (j + 1) m (by omega) (by omega), hd]
      simp only [List.any_cons, hb, Bool.false_or, List.findIdx_cons, cond_false]
      split
      · congr 2; omega
      · rfl
def hit (at_ : Int) (l : List api_Sym) (i : Nat) : Int × Int × Bool := ((i : Int), IntKind.wrap .i64 (at_ - (l.getD i z_api_Sym).vAt), true)
theorem findR {q : api_Sym → Bool} (hp : ∀ z ∈ l, taplineref09_covers.f z at_ = some (q z)) (hl : l.length ≤ 9223372036854775807) :
    ∀ (d j m : Nat), j + d = l.length → d < m → taplineref09_Find.l0 l at_ m (j : Int) = some (if ((l.drop j).any q) = true then .inl (hit at_ l (j + (l.drop j).findIdx q)) else .inr ()) := by
  intro d
  induction d with
  | zero =>
    intro j m hj hm
    obtain ⟨m, rfl⟩ : ∃ q, m = q + 1 := ⟨m - 1, by omega⟩
    rw [taplineref09_Find.l0, if_neg (by simp; omega)]
    have : l.drop j = [] := List.drop_eq_nil_of_le (by omega)
    rw [this]
    rfl
  | succ d ih =>
    intro j m hj hm
    obtain ⟨m, rfl⟩ : ∃ q, m = q + 1 := ⟨m - 1, by omega⟩
    have hlt : j < l.length := by omega
    rw [taplineref09_Find.l0, if_pos (by simp; omega), if_pos (by omega), rd_nat, hp _ (getD_mem hlt)]
    have hd : l.drop j = l.getD j z_api_Sym :: l.drop (j + 1) := by
      rw [List.drop_eq_getElem_cons hlt, List.getD_eq_getElem?_getD, List.getElem?_eq_getElem hlt]; rfl
    simp only [Option.bind_some]
    cases hb : q (l.getD j z_api_Sym) with
    | true =>
      rw [if_pos rfl, if_pos (by omega), hd]
      simp only [List.any_cons, hb, Bool.true_or, if_true, List.findIdx_cons, cond_true, Nat.add_zero]
      rfl
    | false =>
      rw [if_neg (by simp), wrap_nat hlt hl, ih (j + 1) m (by omega) (by omega), hd]
      simp only [List.any_cons, hb, Bool.false_or, List.findIdx_cons, cond_false]
      split
      · congr 3; omega
      · rfl
theorem find_both (hF : ∀ s ∈ l, FitN s) (hl : l.length ≤ 9223372036854775807) {k : Nat} (hk : l.length + 1 ≤ k) :
    ∃ v, image_Find.f k l at_ = some v ∧ taplineref09_Find.f k l at_ = some v ∧ (v = (0, 0, false) ∨ ∃ i, i < l.length ∧ cov at_ (l.getD i z_api_Sym) = true ∧ v = hit at_ l i) := by
  have h1 := indexN (l := l) (p := fun z0 => image_Find_1.f z0 at_) (q := cov at_) (fun z hz => cov_p (hF z hz)) hl l.length 0 k (by omega) (by omega)
  have h2 := findR (l := l) (q := cov at_) (fun z hz => cov_r (hF z hz)) hl l.length 0 k (by omega) (by omega)
  rw [List.drop_zero] at h1 h2
  unfold image_Find.f slices_IndexFunc_api_Sym_api_Sym.f taplineref09_Find.f
  rw [show (0 : Int) = ((0 : Nat) : Int) from rfl, h1, h2]
  by_cases hany : (l.any (cov at_)) = true
  · rw [if_pos hany, if_pos hany]
    have hlt := List.findIdx_lt_length_of_exists (p := cov at_) (xs := l) (by simpa using hany)
    have hc := List.findIdx_getElem (p := cov at_) (xs := l) (w := hlt)
    generalize List.findIdx (cov at_) l = i at hlt hc ⊢
    have e : l.getD i z_api_Sym = l[i] := by rw [List.getD_eq_getElem?_getD, List.getElem?_eq_getElem hlt]; rfl
    refine ⟨hit at_ l i, ?_, ?_, .inr ⟨i, hlt, by rw [e]; exact hc, rfl⟩⟩
    · simp only [Option.bind_some, Nat.zero_add]
      rw [if_neg (by simp), if_pos (by omega), rd_nat]
      rfl
    · simp only [Option.bind_some, Nat.zero_add]
  · rw [if_neg hany, if_neg hany]
    exact ⟨_, rfl, rfl, .inl rfl⟩
theorem name_both (hF : ∀ s ∈ l, FitN s) (hl : l.length ≤ 9223372036854775807) (ha : at_ ≤ 9223372036854775807) {k : Nat} (hk : l.length + 1 ≤ k) (hk2 : 30 ≤ k) :
    ∃ s, image_Name.f k l at_ = some s ∧ taplineref09_Name.f k l at_ = some s := by
  obtain ⟨v, h1, h2, hv⟩ := find_both (at_ := at_) hF hl hk
  obtain ⟨k, rfl⟩ : ∃ q, k = q + 1 := ⟨k - 1, by omega⟩
  unfold image_Name.f taplineref09_Name.f
  rw [h1, h2]
  rcases hv with rfl | ⟨i, hi, hc, rfl⟩
  · obtain ⟨u, hu, hu2⟩ : ∃ u : Nat, IntKind.wrap .u64 at_ = (u : Int) ∧ u < 18446744073709551616 := ⟨(at_ % 18446744073709551616).toNat, by rw [wrapm]; omega, by omega⟩
    have hp : u < 16 ^ (k + 1) := Nat.lt_of_lt_of_le hu2 (Nat.le_trans (show 18446744073709551616 ≤ 16 ^ 16 by decide) (Nat.pow_le_pow_right (by omega) (by omega)))
    have hs := hx_size 15 u (by omega)
    simp only [Option.bind_some, Bool.not_false, if_true, hu, hex_p k u hp hu2, hex_r k u hp hu2]
    rw [if_pos (by show 2 + (hx u).size ≤ _; omega)]
    exact ⟨_, rfl, rfl⟩
  · have hfit := hF _ (getD_mem (z := z_api_Sym) hi)
    obtain ⟨o0, o1⟩ := cov_off hfit ha hc
    have hr : rd z_api_Sym l (i : Int) = l.getD i z_api_Sym := rd_nat i
    obtain ⟨n, hn, hn2⟩ : ∃ n : Nat, at_ - (l.getD i z_api_Sym).vAt = (n : Int) ∧ n ≤ 9223372036854775807 := ⟨(at_ - (l.getD i z_api_Sym).vAt).toNat, by omega, by omega⟩
    simp only [hit, Option.bind_some, Bool.not_true, Bool.false_eq_true, if_false, hr, hn]
    rw [wrap_id (x := (n : Int)) (by omega) (by omega)]
    by_cases h0 : n = 0
    · subst h0
      simp only [Int.natCast_zero, beq_self_eq_true, if_true]
      rw [if_pos (by omega)]
      exact ⟨_, rfl, rfl⟩
    · have hp : n < 10 ^ (k + 1) := Nat.lt_of_le_of_lt hn2 (Nat.lt_of_lt_of_le (show 9223372036854775807 < 10 ^ 19 by decide) (Nat.pow_le_pow_right (by omega) (by omega)))
      have hs := dec_size 18 n (by omega)
      have hf : strconv_FormatInt.f (n : Int) 10 = some (dec n) := by
        unfold strconv_FormatInt.f
        rw [if_pos (by omega)]
        unfold Lib.itoa
        rw [if_neg (by omega)]
        rfl
      have hnm := hfit.1
      rw [if_neg (by simp; omega), if_pos (by omega), if_pos (by show (l.getD i z_api_Sym).vName.size + 1 ≤ _; omega), wrapm, Int.emod_eq_of_lt (by omega) (by omega), hf, dig_r k n hp (by omega)]
      simp only [Option.bind_some]
      rw [if_pos (by rw [ByteArray.size_append]; show (l.getD i z_api_Sym).vName.size + 1 + _ ≤ _; omega), if_neg (by simp; omega), if_pos (by omega), if_pos (by show (l.getD i z_api_Sym).vName.size + 1 ≤ _; omega)]
      exact ⟨_, rfl, rfl⟩
end
/-- the law -/
theorem names_ok (l : List api_Sym) (at_ : Int) (hF : ∀ s ∈ l, FitN s) (hl : l.length ≤ 9223372036854775807) (ha : at_ ≤ 9223372036854775807) : ∃ K, ∀ k, K ≤ k → taplinelaw09_ImageNames.f k l at_ = some true := by
  refine ⟨l.length + 31, fun k hk => ?_⟩
  obtain ⟨v, h1, h2, _⟩ := find_both (at_ := at_) hF hl (k := k) (by omega)
  obtain ⟨s, h3, h4⟩ := name_both hF hl ha (k := k) (by omega) (by omega)
  unfold taplinelaw09_ImageNames.f
  simp only [taplinelaw09_sane.f, Option.bind_some, h1, h2, h3, h4, beq_self_eq_true, Bool.and_self, Bool.true_and, if_true]
  simp [strEq]
end Go.Proofs.YtecpbadkdpbkpaaGreatDoor
