/- Parts of a proof, merged by program: G0 SV F5 C0 F17 F30 F18 F6 F19 F20 F7 F21 F8 F9 F10 F11 Q1 F3 F4 Q2. The walks (each function once) and the plain laws; no condition of their own. -/
import Derived.Test.YtlmfgibfknjjpaaGreatDoorOrd1
import Derived.Test.YtlmfgibfknjjpaaGreatDoorOrd3
import Derived.Test.YtlmfgibfknjjpaaGreatDoorProg
import Derived.KernelRfl
import Derived.Test.YtlmfgibfknjjpaaGreatDoorCards
import Derived.Test.YtlmfgibfknjjpaaGreatDoorTie
import Derived.WalkKit
import Derived.ProofKit
import Derived.OpenShut
import Derived.Deep.DeepHandedRow
import Derived.Lib.LaidTab
set_option linter.unusedVariables false
set_option linter.unusedSimpArgs false
namespace Go.Proofs.YtlmfgibfknjjpaaGreatDoor
open Go.RowKit Go.M
theorem hmix : Tryz.prog.follows .mixedOrders = true := by kernel_rfl
structure api_Abs where
  vKind : Int
  vLo : Int
  vHi : Int
def z_api_Abs : api_Abs := ⟨0, 0, 0⟩
def k_api_Abs : Kd api_Abs := Kd.iso (Kd.pair (Kd.int .i64) (Kd.pair (Kd.int .i64) (Kd.int .i64))) fun x => (x.vKind, (x.vLo, x.vHi))
theorem one_api_Abs : One k_api_Abs := one_iso (one_pair one_int (one_pair one_int one_int))
def e_api_Abs (x : api_Abs) : Value := .agg #[.int .i64 x.vKind, .int .i64 x.vLo, .int .i64 x.vHi]
theorem ld_api_Abs {h : View} {A : Option Addr} {xs : List api_Abs} {i : Int} (hr : Rd k_api_Abs h A xs) (h0 : 0 ≤ i) (h1 : i < xs.length) :
    ∃ ad, A = some ad ∧ VCells h (ad.add (i.toNat * 3)) [.int .i64 (rd z_api_Abs xs i).vKind, .int .i64 (rd z_api_Abs xs i).vLo, .int .i64 (rd z_api_Abs xs i).vHi] := by
  obtain ⟨ad, cs, e, hK, hc⟩ := hr.get z_api_Abs h0 h1
  obtain ⟨_, _, rfl, rfl, ⟨_, _, rfl, rfl, rfl⟩⟩ := hK
  exact ⟨ad, e, hc⟩
structure api_Value where
  vStr : Bool
  vN : Int
  vS : ByteArray
def z_api_Value : api_Value := ⟨false, 0, ByteArray.empty⟩
def k_api_Value : Kd api_Value := Kd.iso (Kd.pair Kd.bool (Kd.pair (Kd.int .i64) Kd.str)) fun x => (x.vStr, (x.vN, x.vS))
theorem one_api_Value : One k_api_Value := one_iso (one_pair one_bool (one_pair one_int one_str))
def e_api_Value (x : api_Value) : Value := .agg #[.bool x.vStr, .int .i64 x.vN, .string x.vS]
theorem ld_api_Value {h : View} {A : Option Addr} {xs : List api_Value} {i : Int} (hr : Rd k_api_Value h A xs) (h0 : 0 ≤ i) (h1 : i < xs.length) :
    ∃ ad, A = some ad ∧ VCells h (ad.add (i.toNat * 3)) [.bool (rd z_api_Value xs i).vStr, .int .i64 (rd z_api_Value xs i).vN, .string (rd z_api_Value xs i).vS] := by
  obtain ⟨ad, cs, e, hK, hc⟩ := hr.get z_api_Value h0 h1
  obtain ⟨_, _, rfl, rfl, ⟨_, _, rfl, rfl, rfl⟩⟩ := hK
  exact ⟨ad, e, hc⟩

end Go.Proofs.YtlmfgibfknjjpaaGreatDoor
/- taplinelaw18.sane, a closed call: shown by running it (the kernel evaluates), in parts. -/
namespace Go.Proofs.YtlmfgibfknjjpaaGreatDoor
open Go.V
noncomputable section
def gcells : List (Nat × List Value) := [
  /- tapline_verify_text -/ (0, [.int .i64 2, .int .i64 0, .int .i64 0]),
  /- tapline_verify_full -/ (1, [.int .i64 1, .int .i64 (-9223372036854775808), .int .i64 9223372036854775807]),
  /- tapline_code_forms -/ (2, [.string ⟨#[]⟩, .bool false, .bool false, .bool false, .bool false, .string ⟨#[108, 100, 105]⟩, .bool true, .bool false, .bool false, .bool true, .string ⟨#[108, 100, 115]⟩, .bool true, .bool false, .bool false, .bool true, .string ⟨#[109, 111, 118]⟩, .bool true, .bool true, .bool false, .bool false, .string ⟨#[97, 100, 100]⟩, .bool true, .bool true, .bool true, .bool false, .string ⟨#[115, 117, 98]⟩, .bool true, .bool true, .bool true, .bool false, .string ⟨#[109, 117, 108]⟩, .bool true, .bool true, .bool true, .bool false, .string ⟨#[100, 105, 118]⟩, .bool true, .bool true, .bool true, .bool false, .string ⟨#[100, 105, 118, 117]⟩, .bool true, .bool true, .bool true, .bool false, .string ⟨#[109, 111, 100]⟩, .bool true, .bool true, .bool true, .bool false, .string ⟨#[109, 111, 100, 117]⟩, .bool true, .bool true, .bool true, .bool false, .string ⟨#[97, 110, 100]⟩, .bool true, .bool true, .bool true, .bool false, .string ⟨#[111, 114]⟩, .bool true, .bool true, .bool true, .bool false, .string ⟨#[120, 111, 114]⟩, .bool true, .bool true, .bool true, .bool false, .string ⟨#[115, 104, 108]⟩, .bool true, .bool true, .bool true, .bool false, .string ⟨#[115, 104, 114]⟩, .bool true, .bool true, .bool true, .bool false, .string ⟨#[115, 97, 114]⟩, .bool true, .bool true, .bool true, .bool false, .string ⟨#[110, 101, 103]⟩, .bool true, .bool true, .bool false, .bool false, .string ⟨#[110, 111, 116]⟩, .bool true, .bool true, .bool false, .bool false, .string ⟨#[119, 114, 97, 112]⟩, .bool true, .bool true, .bool false, .bool true, .string ⟨#[108, 116]⟩, .bool true, .bool true, .bool true, .bool false, .string ⟨#[108, 116, 117]⟩, .bool true, .bool true, .bool true, .bool false, .string ⟨#[101, 113]⟩, .bool true, .bool true, .bool true, .bool false, .string ⟨#[99, 109, 112]⟩, .bool true, .bool true, .bool true, .bool false, .string ⟨#[106, 109, 112]⟩, .bool false, .bool false, .bool false, .bool true, .string ⟨#[106, 122]⟩, .bool false, .bool true, .bool false, .bool true, .string ⟨#[108, 111, 97, 100]⟩, .bool true, .bool true, .bool false, .bool true, .string ⟨#[117, 108, 111, 97, 100]⟩, .bool true, .bool true, .bool false, .bool true, .string ⟨#[98, 117, 105]⟩, .bool true, .bool false, .bool false, .bool true, .string ⟨#[97, 114, 103]⟩, .bool true, .bool false, .bool false, .bool true, .string ⟨#[103, 108, 111]⟩, .bool true, .bool false, .bool false, .bool true, .string ⟨#[115, 101, 116, 103, 108, 111]⟩, .bool false, .bool true, .bool false, .bool true, .string ⟨#[116, 104, 114]⟩, .bool true, .bool false, .bool false, .bool true, .string ⟨#[115, 101, 116, 116, 104, 114]⟩, .bool false, .bool true, .bool false, .bool true, .string ⟨#[108, 111, 99]⟩, .bool true, .bool false, .bool false, .bool true, .string ⟨#[115, 101, 116, 108, 111, 99]⟩, .bool false, .bool true, .bool false, .bool true, .string ⟨#[112, 117, 115, 104]⟩, .bool false, .bool true, .bool false, .bool false, .string ⟨#[97, 115, 99]⟩, .bool true, .bool false, .bool false, .bool true, .string ⟨#[115, 101, 116, 97, 115, 99]⟩, .bool false, .bool true, .bool false, .bool true, .string ⟨#[99, 97, 108, 108]⟩, .bool true, .bool false, .bool false, .bool true, .string ⟨#[114, 101, 116]⟩, .bool false, .bool true, .bool false, .bool false]),
  /- tapline_check_builtins -/ (4, [.string ⟨#[]⟩, .string ⟨#[99, 112, 117]⟩, .string ⟨#[116, 105, 109, 101, 115, 116, 97, 109, 112]⟩, .string ⟨#[112, 105, 100]⟩, .string ⟨#[116, 105, 100]⟩, .string ⟨#[101, 120, 101, 99, 110, 97, 109, 101]⟩, .string ⟨#[105, 100]⟩, .string ⟨#[112, 114, 111, 98, 101, 112, 114, 111, 118]⟩, .string ⟨#[112, 114, 111, 98, 101, 109, 111, 100]⟩, .string ⟨#[112, 114, 111, 98, 101, 102, 117, 110, 99]⟩, .string ⟨#[112, 114, 111, 98, 101, 110, 97, 109, 101]⟩, .string ⟨#[112, 99]⟩, .string ⟨#[99, 117, 114, 116, 104, 114, 101, 97, 100]⟩, .string ⟨#[99, 117, 114, 112, 114, 111, 99]⟩]),
  /- internal_strconv_uint64pow10 -/ (7, [.int .u64 1, .int .u64 10, .int .u64 100, .int .u64 1000, .int .u64 10000, .int .u64 100000, .int .u64 1000000, .int .u64 10000000, .int .u64 100000000, .int .u64 1000000000, .int .u64 10000000000, .int .u64 100000000000, .int .u64 1000000000000, .int .u64 10000000000000, .int .u64 100000000000000, .int .u64 1000000000000000, .int .u64 10000000000000000, .int .u64 100000000000000000, .int .u64 1000000000000000000, .int .u64 10000000000000000000]),
  /- math_bits_deBruijn32tab -/ (8, [.int .u8 0, .int .u8 1, .int .u8 28, .int .u8 2, .int .u8 29, .int .u8 14, .int .u8 24, .int .u8 3, .int .u8 30, .int .u8 22, .int .u8 20, .int .u8 15, .int .u8 25, .int .u8 17, .int .u8 4, .int .u8 8, .int .u8 31, .int .u8 27, .int .u8 13, .int .u8 23, .int .u8 21, .int .u8 19, .int .u8 16, .int .u8 7, .int .u8 26, .int .u8 12, .int .u8 18, .int .u8 6, .int .u8 11, .int .u8 5, .int .u8 10, .int .u8 9]),
  /- math_bits_deBruijn64tab -/ (9, [.int .u8 0, .int .u8 1, .int .u8 56, .int .u8 2, .int .u8 57, .int .u8 49, .int .u8 28, .int .u8 3, .int .u8 61, .int .u8 58, .int .u8 42, .int .u8 50, .int .u8 38, .int .u8 29, .int .u8 17, .int .u8 4, .int .u8 62, .int .u8 47, .int .u8 59, .int .u8 36, .int .u8 45, .int .u8 43, .int .u8 51, .int .u8 22, .int .u8 53, .int .u8 39, .int .u8 33, .int .u8 30, .int .u8 24, .int .u8 18, .int .u8 12, .int .u8 5, .int .u8 63, .int .u8 55, .int .u8 48, .int .u8 27, .int .u8 60, .int .u8 41, .int .u8 37, .int .u8 16, .int .u8 46, .int .u8 35, .int .u8 44, .int .u8 21, .int .u8 52, .int .u8 32, .int .u8 23, .int .u8 11, .int .u8 54, .int .u8 26, .int .u8 40, .int .u8 15, .int .u8 34, .int .u8 20, .int .u8 31, .int .u8 10, .int .u8 25, .int .u8 14, .int .u8 19, .int .u8 9, .int .u8 13, .int .u8 8, .int .u8 7, .int .u8 6])]
def gheap : Tr := (.node (some (.cells ⟨[.int .i64 2, .int .i64 0, .int .i64 0]⟩ 0 (0, 1))) (.node (some (.cells ⟨[.int .i64 1, .int .i64 (-9223372036854775808), .int .i64 9223372036854775807]⟩ 0 (0, 1))) (.node none (.node (some (.cells ⟨[.int .u64 1, .int .u64 10, .int .u64 100, .int .u64 1000, .int .u64 10000, .int .u64 100000, .int .u64 1000000, .int .u64 10000000, .int .u64 100000000, .int .u64 1000000000, .int .u64 10000000000, .int .u64 100000000000, .int .u64 1000000000000, .int .u64 10000000000000, .int .u64 100000000000000, .int .u64 1000000000000000, .int .u64 10000000000000000, .int .u64 100000000000000000, .int .u64 1000000000000000000, .int .u64 10000000000000000000]⟩ 0 (0, 1))) .leaf .leaf) .leaf) (.node none (.node (some (.cells ⟨[.int .u8 0, .int .u8 1, .int .u8 56, .int .u8 2, .int .u8 57, .int .u8 49, .int .u8 28, .int .u8 3, .int .u8 61, .int .u8 58, .int .u8 42, .int .u8 50, .int .u8 38, .int .u8 29, .int .u8 17, .int .u8 4, .int .u8 62, .int .u8 47, .int .u8 59, .int .u8 36, .int .u8 45, .int .u8 43, .int .u8 51, .int .u8 22, .int .u8 53, .int .u8 39, .int .u8 33, .int .u8 30, .int .u8 24, .int .u8 18, .int .u8 12, .int .u8 5, .int .u8 63, .int .u8 55, .int .u8 48, .int .u8 27, .int .u8 60, .int .u8 41, .int .u8 37, .int .u8 16, .int .u8 46, .int .u8 35, .int .u8 44, .int .u8 21, .int .u8 52, .int .u8 32, .int .u8 23, .int .u8 11, .int .u8 54, .int .u8 26, .int .u8 40, .int .u8 15, .int .u8 34, .int .u8 20, .int .u8 31, .int .u8 10, .int .u8 25, .int .u8 14, .int .u8 19, .int .u8 9, .int .u8 13, .int .u8 8, .int .u8 7, .int .u8 6]⟩ 0 (0, 1))) .leaf .leaf) .leaf)) (.node (some (.cells ⟨[.string ⟨#[]⟩, .bool false, .bool false, .bool false, .bool false, .string ⟨#[108, 100, 105]⟩, .bool true, .bool false, .bool false, .bool true, .string ⟨#[108, 100, 115]⟩, .bool true, .bool false, .bool false, .bool true, .string ⟨#[109, 111, 118]⟩, .bool true, .bool true, .bool false, .bool false, .string ⟨#[97, 100, 100]⟩, .bool true, .bool true, .bool true, .bool false, .string ⟨#[115, 117, 98]⟩, .bool true, .bool true, .bool true, .bool false, .string ⟨#[109, 117, 108]⟩, .bool true, .bool true, .bool true, .bool false, .string ⟨#[100, 105, 118]⟩, .bool true, .bool true, .bool true, .bool false, .string ⟨#[100, 105, 118, 117]⟩, .bool true, .bool true, .bool true, .bool false, .string ⟨#[109, 111, 100]⟩, .bool true, .bool true, .bool true, .bool false, .string ⟨#[109, 111, 100, 117]⟩, .bool true, .bool true, .bool true, .bool false, .string ⟨#[97, 110, 100]⟩, .bool true, .bool true, .bool true, .bool false, .string ⟨#[111, 114]⟩, .bool true, .bool true, .bool true, .bool false, .string ⟨#[120, 111, 114]⟩, .bool true, .bool true, .bool true, .bool false, .string ⟨#[115, 104, 108]⟩, .bool true, .bool true, .bool true, .bool false, .string ⟨#[115, 104, 114]⟩, .bool true, .bool true, .bool true, .bool false, .string ⟨#[115, 97, 114]⟩, .bool true, .bool true, .bool true, .bool false, .string ⟨#[110, 101, 103]⟩, .bool true, .bool true, .bool false, .bool false, .string ⟨#[110, 111, 116]⟩, .bool true, .bool true, .bool false, .bool false, .string ⟨#[119, 114, 97, 112]⟩, .bool true, .bool true, .bool false, .bool true, .string ⟨#[108, 116]⟩, .bool true, .bool true, .bool true, .bool false, .string ⟨#[108, 116, 117]⟩, .bool true, .bool true, .bool true, .bool false, .string ⟨#[101, 113]⟩, .bool true, .bool true, .bool true, .bool false, .string ⟨#[99, 109, 112]⟩, .bool true, .bool true, .bool true, .bool false, .string ⟨#[106, 109, 112]⟩, .bool false, .bool false, .bool false, .bool true, .string ⟨#[106, 122]⟩, .bool false, .bool true, .bool false, .bool true, .string ⟨#[108, 111, 97, 100]⟩, .bool true, .bool true, .bool false, .bool true, .string ⟨#[117, 108, 111, 97, 100]⟩, .bool true, .bool true, .bool false, .bool true, .string ⟨#[98, 117, 105]⟩, .bool true, .bool false, .bool false, .bool true, .string ⟨#[97, 114, 103]⟩, .bool true, .bool false, .bool false, .bool true, .string ⟨#[103, 108, 111]⟩, .bool true, .bool false, .bool false, .bool true, .string ⟨#[115, 101, 116, 103, 108, 111]⟩, .bool false, .bool true, .bool false, .bool true, .string ⟨#[116, 104, 114]⟩, .bool true, .bool false, .bool false, .bool true, .string ⟨#[115, 101, 116, 116, 104, 114]⟩, .bool false, .bool true, .bool false, .bool true, .string ⟨#[108, 111, 99]⟩, .bool true, .bool false, .bool false, .bool true, .string ⟨#[115, 101, 116, 108, 111, 99]⟩, .bool false, .bool true, .bool false, .bool true, .string ⟨#[112, 117, 115, 104]⟩, .bool false, .bool true, .bool false, .bool false, .string ⟨#[97, 115, 99]⟩, .bool true, .bool false, .bool false, .bool true, .string ⟨#[115, 101, 116, 97, 115, 99]⟩, .bool false, .bool true, .bool false, .bool true, .string ⟨#[99, 97, 108, 108]⟩, .bool true, .bool false, .bool false, .bool true, .string ⟨#[114, 101, 116]⟩, .bool false, .bool true, .bool false, .bool false]⟩ 0 (0, 1))) (.node (some (.cells ⟨[.string ⟨#[]⟩, .string ⟨#[99, 112, 117]⟩, .string ⟨#[116, 105, 109, 101, 115, 116, 97, 109, 112]⟩, .string ⟨#[112, 105, 100]⟩, .string ⟨#[116, 105, 100]⟩, .string ⟨#[101, 120, 101, 99, 110, 97, 109, 101]⟩, .string ⟨#[105, 100]⟩, .string ⟨#[112, 114, 111, 98, 101, 112, 114, 111, 118]⟩, .string ⟨#[112, 114, 111, 98, 101, 109, 111, 100]⟩, .string ⟨#[112, 114, 111, 98, 101, 102, 117, 110, 99]⟩, .string ⟨#[112, 114, 111, 98, 101, 110, 97, 109, 101]⟩, .string ⟨#[112, 99]⟩, .string ⟨#[99, 117, 114, 116, 104, 114, 101, 97, 100]⟩, .string ⟨#[99, 117, 114, 112, 114, 111, 99]⟩]⟩ 0 (0, 1))) (.node (some (.cells ⟨[.int .u8 0, .int .u8 1, .int .u8 28, .int .u8 2, .int .u8 29, .int .u8 14, .int .u8 24, .int .u8 3, .int .u8 30, .int .u8 22, .int .u8 20, .int .u8 15, .int .u8 25, .int .u8 17, .int .u8 4, .int .u8 8, .int .u8 31, .int .u8 27, .int .u8 13, .int .u8 23, .int .u8 21, .int .u8 19, .int .u8 16, .int .u8 7, .int .u8 26, .int .u8 12, .int .u8 18, .int .u8 6, .int .u8 11, .int .u8 5, .int .u8 10, .int .u8 9]⟩ 0 (0, 1))) .leaf .leaf) .leaf) .leaf))

theorem gheap_eq : gheap = ofList gcells := by kernel_rfl
theorem gcells_ok : laidOk Tryz.prog gcells = true := by kernel_rfl
theorem gsize : Tryz.prog.globals.size = 10 := by kernel_rfl
theorem vmix : Tryz.prog.follows .mixedOrders = true := by kernel_rfl
theorem vnames : NamesOk Tryz.prog := namesOk_of (by kernel_rfl)
abbrev vS0 : VS := ⟨.leaf, gheap, 10, [], []⟩
def vS1 : VS := ⟨.node none (.node (some (.pointer (some ⟨10, 0, none⟩))) (.leaf) (.leaf)) (.leaf), .node (some (.cells ⟨[.int .i64 2, .int .i64 0, .int .i64 0]⟩ 0 (0, 1))) (.node (some (.cells ⟨[.int .i64 1, .int .i64 (-9223372036854775808), .int .i64 9223372036854775807]⟩ 0 (0, 1))) (.node none (.node (some (.cells ⟨[.int .u64 1, .int .u64 10, .int .u64 100, .int .u64 1000, .int .u64 10000, .int .u64 100000, .int .u64 1000000, .int .u64 10000000, .int .u64 100000000, .int .u64 1000000000, .int .u64 10000000000, .int .u64 100000000000, .int .u64 1000000000000, .int .u64 10000000000000, .int .u64 100000000000000, .int .u64 1000000000000000, .int .u64 10000000000000000, .int .u64 100000000000000000, .int .u64 1000000000000000000, .int .u64 10000000000000000000]⟩ 0 (0, 1))) (.leaf) (.leaf)) (.leaf)) (.node none (.node (some (.cells ⟨[.int .u8 0, .int .u8 1, .int .u8 56, .int .u8 2, .int .u8 57, .int .u8 49, .int .u8 28, .int .u8 3, .int .u8 61, .int .u8 58, .int .u8 42, .int .u8 50, .int .u8 38, .int .u8 29, .int .u8 17, .int .u8 4, .int .u8 62, .int .u8 47, .int .u8 59, .int .u8 36, .int .u8 45, .int .u8 43, .int .u8 51, .int .u8 22, .int .u8 53, .int .u8 39, .int .u8 33, .int .u8 30, .int .u8 24, .int .u8 18, .int .u8 12, .int .u8 5, .int .u8 63, .int .u8 55, .int .u8 48, .int .u8 27, .int .u8 60, .int .u8 41, .int .u8 37, .int .u8 16, .int .u8 46, .int .u8 35, .int .u8 44, .int .u8 21, .int .u8 52, .int .u8 32, .int .u8 23, .int .u8 11, .int .u8 54, .int .u8 26, .int .u8 40, .int .u8 15, .int .u8 34, .int .u8 20, .int .u8 31, .int .u8 10, .int .u8 25, .int .u8 14, .int .u8 19, .int .u8 9, .int .u8 13, .int .u8 8, .int .u8 7, .int .u8 6]⟩ 0 (0, 1))) (.leaf) (.leaf)) (.leaf))) (.node (some (.cells ⟨[.string ⟨#[]⟩, .bool false, .bool false, .bool false, .bool false, .string ⟨#[108, 100, 105]⟩, .bool true, .bool false, .bool false, .bool true, .string ⟨#[108, 100, 115]⟩, .bool true, .bool false, .bool false, .bool true, .string ⟨#[109, 111, 118]⟩, .bool true, .bool true, .bool false, .bool false, .string ⟨#[97, 100, 100]⟩, .bool true, .bool true, .bool true, .bool false, .string ⟨#[115, 117, 98]⟩, .bool true, .bool true, .bool true, .bool false, .string ⟨#[109, 117, 108]⟩, .bool true, .bool true, .bool true, .bool false, .string ⟨#[100, 105, 118]⟩, .bool true, .bool true, .bool true, .bool false, .string ⟨#[100, 105, 118, 117]⟩, .bool true, .bool true, .bool true, .bool false, .string ⟨#[109, 111, 100]⟩, .bool true, .bool true, .bool true, .bool false, .string ⟨#[109, 111, 100, 117]⟩, .bool true, .bool true, .bool true, .bool false, .string ⟨#[97, 110, 100]⟩, .bool true, .bool true, .bool true, .bool false, .string ⟨#[111, 114]⟩, .bool true, .bool true, .bool true, .bool false, .string ⟨#[120, 111, 114]⟩, .bool true, .bool true, .bool true, .bool false, .string ⟨#[115, 104, 108]⟩, .bool true, .bool true, .bool true, .bool false, .string ⟨#[115, 104, 114]⟩, .bool true, .bool true, .bool true, .bool false, .string ⟨#[115, 97, 114]⟩, .bool true, .bool true, .bool true, .bool false, .string ⟨#[110, 101, 103]⟩, .bool true, .bool true, .bool false, .bool false, .string ⟨#[110, 111, 116]⟩, .bool true, .bool true, .bool false, .bool false, .string ⟨#[119, 114, 97, 112]⟩, .bool true, .bool true, .bool false, .bool true, .string ⟨#[108, 116]⟩, .bool true, .bool true, .bool true, .bool false, .string ⟨#[108, 116, 117]⟩, .bool true, .bool true, .bool true, .bool false, .string ⟨#[101, 113]⟩, .bool true, .bool true, .bool true, .bool false, .string ⟨#[99, 109, 112]⟩, .bool true, .bool true, .bool true, .bool false, .string ⟨#[106, 109, 112]⟩, .bool false, .bool false, .bool false, .bool true, .string ⟨#[106, 122]⟩, .bool false, .bool true, .bool false, .bool true, .string ⟨#[108, 111, 97, 100]⟩, .bool true, .bool true, .bool false, .bool true, .string ⟨#[117, 108, 111, 97, 100]⟩, .bool true, .bool true, .bool false, .bool true, .string ⟨#[98, 117, 105]⟩, .bool true, .bool false, .bool false, .bool true, .string ⟨#[97, 114, 103]⟩, .bool true, .bool false, .bool false, .bool true, .string ⟨#[103, 108, 111]⟩, .bool true, .bool false, .bool false, .bool true, .string ⟨#[115, 101, 116, 103, 108, 111]⟩, .bool false, .bool true, .bool false, .bool true, .string ⟨#[116, 104, 114]⟩, .bool true, .bool false, .bool false, .bool true, .string ⟨#[115, 101, 116, 116, 104, 114]⟩, .bool false, .bool true, .bool false, .bool true, .string ⟨#[108, 111, 99]⟩, .bool true, .bool false, .bool false, .bool true, .string ⟨#[115, 101, 116, 108, 111, 99]⟩, .bool false, .bool true, .bool false, .bool true, .string ⟨#[112, 117, 115, 104]⟩, .bool false, .bool true, .bool false, .bool false, .string ⟨#[97, 115, 99]⟩, .bool true, .bool false, .bool false, .bool true, .string ⟨#[115, 101, 116, 97, 115, 99]⟩, .bool false, .bool true, .bool false, .bool true, .string ⟨#[99, 97, 108, 108]⟩, .bool true, .bool false, .bool false, .bool true, .string ⟨#[114, 101, 116]⟩, .bool false, .bool true, .bool false, .bool false]⟩ 0 (0, 1))) (.node (some (.cells ⟨[.string ⟨#[]⟩, .string ⟨#[99, 112, 117]⟩, .string ⟨#[116, 105, 109, 101, 115, 116, 97, 109, 112]⟩, .string ⟨#[112, 105, 100]⟩, .string ⟨#[116, 105, 100]⟩, .string ⟨#[101, 120, 101, 99, 110, 97, 109, 101]⟩, .string ⟨#[105, 100]⟩, .string ⟨#[112, 114, 111, 98, 101, 112, 114, 111, 118]⟩, .string ⟨#[112, 114, 111, 98, 101, 109, 111, 100]⟩, .string ⟨#[112, 114, 111, 98, 101, 102, 117, 110, 99]⟩, .string ⟨#[112, 114, 111, 98, 101, 110, 97, 109, 101]⟩, .string ⟨#[112, 99]⟩, .string ⟨#[99, 117, 114, 116, 104, 114, 101, 97, 100]⟩, .string ⟨#[99, 117, 114, 112, 114, 111, 99]⟩]⟩ 0 (0, 1))) (.node (some (.cells ⟨[.int .u8 0, .int .u8 1, .int .u8 28, .int .u8 2, .int .u8 29, .int .u8 14, .int .u8 24, .int .u8 3, .int .u8 30, .int .u8 22, .int .u8 20, .int .u8 15, .int .u8 25, .int .u8 17, .int .u8 4, .int .u8 8, .int .u8 31, .int .u8 27, .int .u8 13, .int .u8 23, .int .u8 21, .int .u8 19, .int .u8 16, .int .u8 7, .int .u8 26, .int .u8 12, .int .u8 18, .int .u8 6, .int .u8 11, .int .u8 5, .int .u8 10, .int .u8 9]⟩ 0 (0, 1))) (.leaf) (.leaf)) (.leaf)) (.node none (.node (some (.cells ⟨[.slice none 0 0, .slice none 0 0, .slice none 0 0, .slice none 0 0, .slice none 0 0, .slice none 0 0, .slice none 0 0]⟩ 37 (0, 0))) (.leaf) (.leaf)) (.leaf))), 509, [], []⟩
def vS2 : VS := ⟨.node none (.node (some (.pointer (some ⟨10, 0, none⟩))) (.leaf) (.node none (.node (some (.int .i64 0)) (.leaf) (.leaf)) (.node (some (.int .i64 180)) (.leaf) (.leaf)))) (.node none (.node none (.leaf) (.node (some (.int .i64 1)) (.leaf) (.leaf))) (.node none (.node (some (.int .i64 180)) (.leaf) (.leaf)) (.node (some (.pointer (some ⟨729, 0, none⟩))) (.leaf) (.leaf)))), .node (some (.cells ⟨[.int .i64 2, .int .i64 0, .int .i64 0]⟩ 0 (0, 1))) (.node (some (.cells ⟨[.int .i64 1, .int .i64 (-9223372036854775808), .int .i64 9223372036854775807]⟩ 0 (0, 1))) (.node none (.node (some (.cells ⟨[.int .u64 1, .int .u64 10, .int .u64 100, .int .u64 1000, .int .u64 10000, .int .u64 100000, .int .u64 1000000, .int .u64 10000000, .int .u64 100000000, .int .u64 1000000000, .int .u64 10000000000, .int .u64 100000000000, .int .u64 1000000000000, .int .u64 10000000000000, .int .u64 100000000000000, .int .u64 1000000000000000, .int .u64 10000000000000000, .int .u64 100000000000000000, .int .u64 1000000000000000000, .int .u64 10000000000000000000]⟩ 0 (0, 1))) (.leaf) (.node none (.leaf) (.node none (.node none (.leaf) (.node none (.leaf) (.node none (.node (some (.cells ⟨[.int .i64 28, .int .i64 0, .int .i64 0, .int .i64 0, .int .i64 1, .int .i64 1, .int .i64 1, .int .i64 0, .int .i64 0, .int .i64 0, .int .i64 4, .int .i64 2, .int .i64 0, .int .i64 1, .int .i64 0, .int .i64 40, .int .i64 0, .int .i64 2, .int .i64 0, .int .i64 0]⟩ 39 (0, 0))) (.leaf) (.leaf)) (.leaf)))) (.leaf)))) (.leaf)) (.node none (.node (some (.cells ⟨[.int .u8 0, .int .u8 1, .int .u8 56, .int .u8 2, .int .u8 57, .int .u8 49, .int .u8 28, .int .u8 3, .int .u8 61, .int .u8 58, .int .u8 42, .int .u8 50, .int .u8 38, .int .u8 29, .int .u8 17, .int .u8 4, .int .u8 62, .int .u8 47, .int .u8 59, .int .u8 36, .int .u8 45, .int .u8 43, .int .u8 51, .int .u8 22, .int .u8 53, .int .u8 39, .int .u8 33, .int .u8 30, .int .u8 24, .int .u8 18, .int .u8 12, .int .u8 5, .int .u8 63, .int .u8 55, .int .u8 48, .int .u8 27, .int .u8 60, .int .u8 41, .int .u8 37, .int .u8 16, .int .u8 46, .int .u8 35, .int .u8 44, .int .u8 21, .int .u8 52, .int .u8 32, .int .u8 23, .int .u8 11, .int .u8 54, .int .u8 26, .int .u8 40, .int .u8 15, .int .u8 34, .int .u8 20, .int .u8 31, .int .u8 10, .int .u8 25, .int .u8 14, .int .u8 19, .int .u8 9, .int .u8 13, .int .u8 8, .int .u8 7, .int .u8 6]⟩ 0 (0, 1))) (.leaf) (.node none (.leaf) (.node none (.node none (.leaf) (.node none (.leaf) (.node none (.node (some (.cells ⟨[.slice (some ⟨727, 0, none⟩) 4 9, .slice (some ⟨728, 0, none⟩) 1 3, .slice none 0 0, .slice none 0 0]⟩ 45 (0, 0))) (.leaf) (.leaf)) (.leaf)))) (.leaf)))) (.leaf))) (.node (some (.cells ⟨[.string ⟨#[]⟩, .bool false, .bool false, .bool false, .bool false, .string ⟨#[108, 100, 105]⟩, .bool true, .bool false, .bool false, .bool true, .string ⟨#[108, 100, 115]⟩, .bool true, .bool false, .bool false, .bool true, .string ⟨#[109, 111, 118]⟩, .bool true, .bool true, .bool false, .bool false, .string ⟨#[97, 100, 100]⟩, .bool true, .bool true, .bool true, .bool false, .string ⟨#[115, 117, 98]⟩, .bool true, .bool true, .bool true, .bool false, .string ⟨#[109, 117, 108]⟩, .bool true, .bool true, .bool true, .bool false, .string ⟨#[100, 105, 118]⟩, .bool true, .bool true, .bool true, .bool false, .string ⟨#[100, 105, 118, 117]⟩, .bool true, .bool true, .bool true, .bool false, .string ⟨#[109, 111, 100]⟩, .bool true, .bool true, .bool true, .bool false, .string ⟨#[109, 111, 100, 117]⟩, .bool true, .bool true, .bool true, .bool false, .string ⟨#[97, 110, 100]⟩, .bool true, .bool true, .bool true, .bool false, .string ⟨#[111, 114]⟩, .bool true, .bool true, .bool true, .bool false, .string ⟨#[120, 111, 114]⟩, .bool true, .bool true, .bool true, .bool false, .string ⟨#[115, 104, 108]⟩, .bool true, .bool true, .bool true, .bool false, .string ⟨#[115, 104, 114]⟩, .bool true, .bool true, .bool true, .bool false, .string ⟨#[115, 97, 114]⟩, .bool true, .bool true, .bool true, .bool false, .string ⟨#[110, 101, 103]⟩, .bool true, .bool true, .bool false, .bool false, .string ⟨#[110, 111, 116]⟩, .bool true, .bool true, .bool false, .bool false, .string ⟨#[119, 114, 97, 112]⟩, .bool true, .bool true, .bool false, .bool true, .string ⟨#[108, 116]⟩, .bool true, .bool true, .bool true, .bool false, .string ⟨#[108, 116, 117]⟩, .bool true, .bool true, .bool true, .bool false, .string ⟨#[101, 113]⟩, .bool true, .bool true, .bool true, .bool false, .string ⟨#[99, 109, 112]⟩, .bool true, .bool true, .bool true, .bool false, .string ⟨#[106, 109, 112]⟩, .bool false, .bool false, .bool false, .bool true, .string ⟨#[106, 122]⟩, .bool false, .bool true, .bool false, .bool true, .string ⟨#[108, 111, 97, 100]⟩, .bool true, .bool true, .bool false, .bool true, .string ⟨#[117, 108, 111, 97, 100]⟩, .bool true, .bool true, .bool false, .bool true, .string ⟨#[98, 117, 105]⟩, .bool true, .bool false, .bool false, .bool true, .string ⟨#[97, 114, 103]⟩, .bool true, .bool false, .bool false, .bool true, .string ⟨#[103, 108, 111]⟩, .bool true, .bool false, .bool false, .bool true, .string ⟨#[115, 101, 116, 103, 108, 111]⟩, .bool false, .bool true, .bool false, .bool true, .string ⟨#[116, 104, 114]⟩, .bool true, .bool false, .bool false, .bool true, .string ⟨#[115, 101, 116, 116, 104, 114]⟩, .bool false, .bool true, .bool false, .bool true, .string ⟨#[108, 111, 99]⟩, .bool true, .bool false, .bool false, .bool true, .string ⟨#[115, 101, 116, 108, 111, 99]⟩, .bool false, .bool true, .bool false, .bool true, .string ⟨#[112, 117, 115, 104]⟩, .bool false, .bool true, .bool false, .bool false, .string ⟨#[97, 115, 99]⟩, .bool true, .bool false, .bool false, .bool true, .string ⟨#[115, 101, 116, 97, 115, 99]⟩, .bool false, .bool true, .bool false, .bool true, .string ⟨#[99, 97, 108, 108]⟩, .bool true, .bool false, .bool false, .bool true, .string ⟨#[114, 101, 116]⟩, .bool false, .bool true, .bool false, .bool false]⟩ 0 (0, 1))) (.node (some (.cells ⟨[.string ⟨#[]⟩, .string ⟨#[99, 112, 117]⟩, .string ⟨#[116, 105, 109, 101, 115, 116, 97, 109, 112]⟩, .string ⟨#[112, 105, 100]⟩, .string ⟨#[116, 105, 100]⟩, .string ⟨#[101, 120, 101, 99, 110, 97, 109, 101]⟩, .string ⟨#[105, 100]⟩, .string ⟨#[112, 114, 111, 98, 101, 112, 114, 111, 118]⟩, .string ⟨#[112, 114, 111, 98, 101, 109, 111, 100]⟩, .string ⟨#[112, 114, 111, 98, 101, 102, 117, 110, 99]⟩, .string ⟨#[112, 114, 111, 98, 101, 110, 97, 109, 101]⟩, .string ⟨#[112, 99]⟩, .string ⟨#[99, 117, 114, 116, 104, 114, 101, 97, 100]⟩, .string ⟨#[99, 117, 114, 112, 114, 111, 99]⟩]⟩ 0 (0, 1))) (.node (some (.cells ⟨[.int .u8 0, .int .u8 1, .int .u8 28, .int .u8 2, .int .u8 29, .int .u8 14, .int .u8 24, .int .u8 3, .int .u8 30, .int .u8 22, .int .u8 20, .int .u8 15, .int .u8 25, .int .u8 17, .int .u8 4, .int .u8 8, .int .u8 31, .int .u8 27, .int .u8 13, .int .u8 23, .int .u8 21, .int .u8 19, .int .u8 16, .int .u8 7, .int .u8 26, .int .u8 12, .int .u8 18, .int .u8 6, .int .u8 11, .int .u8 5, .int .u8 10, .int .u8 9]⟩ 0 (0, 1))) (.leaf) (.node none (.leaf) (.node none (.node none (.leaf) (.node none (.leaf) (.node none (.node (some (.cells ⟨[.int .i64 10]⟩ 2 (0, 0))) (.leaf) (.leaf)) (.leaf)))) (.leaf)))) (.leaf)) (.node none (.node (some (.cells ⟨[.slice none 0 0, .slice none 0 0, .slice none 0 0, .slice none 0 0, .slice none 0 0, .slice none 0 0, .slice none 0 0]⟩ 37 (0, 0))) (.leaf) (.leaf)) (.leaf))), 730, [], []⟩
def vS3 : VS := ⟨.node none (.node (some (.pointer (some ⟨10, 0, none⟩))) (.node none (.leaf) (.node none (.node (some (.int .i64 0)) (.leaf) (.leaf)) (.leaf))) (.node none (.node (some (.int .i64 0)) (.node (some (.int .i64 0)) (.leaf) (.leaf)) (.leaf)) (.node (some (.int .i64 180)) (.leaf) (.leaf)))) (.node none (.node none (.leaf) (.node (some (.int .i64 1)) (.leaf) (.leaf))) (.node none (.node (some (.int .i64 180)) (.node (some (.pointer (some ⟨1280, 0, none⟩))) (.leaf) (.leaf)) (.leaf)) (.node (some (.pointer (some ⟨729, 0, none⟩))) (.leaf) (.leaf)))), .node (some (.cells ⟨[.int .i64 2, .int .i64 0, .int .i64 0]⟩ 0 (0, 1))) (.node (some (.cells ⟨[.int .i64 1, .int .i64 (-9223372036854775808), .int .i64 9223372036854775807]⟩ 0 (0, 1))) (.node none (.node (some (.cells ⟨[.int .u64 1, .int .u64 10, .int .u64 100, .int .u64 1000, .int .u64 10000, .int .u64 100000, .int .u64 1000000, .int .u64 10000000, .int .u64 100000000, .int .u64 1000000000, .int .u64 10000000000, .int .u64 100000000000, .int .u64 1000000000000, .int .u64 10000000000000, .int .u64 100000000000000, .int .u64 1000000000000000, .int .u64 10000000000000000, .int .u64 100000000000000000, .int .u64 1000000000000000000, .int .u64 10000000000000000000]⟩ 0 (0, 1))) (.leaf) (.node none (.leaf) (.node none (.node none (.leaf) (.node none (.leaf) (.node none (.node (some (.cells ⟨[.int .i64 28, .int .i64 0, .int .i64 0, .int .i64 0, .int .i64 1, .int .i64 1, .int .i64 1, .int .i64 0, .int .i64 0, .int .i64 0, .int .i64 4, .int .i64 2, .int .i64 0, .int .i64 1, .int .i64 0, .int .i64 40, .int .i64 0, .int .i64 2, .int .i64 0, .int .i64 0]⟩ 39 (0, 0))) (.leaf) (.leaf)) (.leaf)))) (.leaf)))) (.leaf)) (.node none (.node (some (.cells ⟨[.int .u8 0, .int .u8 1, .int .u8 56, .int .u8 2, .int .u8 57, .int .u8 49, .int .u8 28, .int .u8 3, .int .u8 61, .int .u8 58, .int .u8 42, .int .u8 50, .int .u8 38, .int .u8 29, .int .u8 17, .int .u8 4, .int .u8 62, .int .u8 47, .int .u8 59, .int .u8 36, .int .u8 45, .int .u8 43, .int .u8 51, .int .u8 22, .int .u8 53, .int .u8 39, .int .u8 33, .int .u8 30, .int .u8 24, .int .u8 18, .int .u8 12, .int .u8 5, .int .u8 63, .int .u8 55, .int .u8 48, .int .u8 27, .int .u8 60, .int .u8 41, .int .u8 37, .int .u8 16, .int .u8 46, .int .u8 35, .int .u8 44, .int .u8 21, .int .u8 52, .int .u8 32, .int .u8 23, .int .u8 11, .int .u8 54, .int .u8 26, .int .u8 40, .int .u8 15, .int .u8 34, .int .u8 20, .int .u8 31, .int .u8 10, .int .u8 25, .int .u8 14, .int .u8 19, .int .u8 9, .int .u8 13, .int .u8 8, .int .u8 7, .int .u8 6]⟩ 0 (0, 1))) (.leaf) (.node none (.leaf) (.node none (.node none (.leaf) (.node none (.leaf) (.node none (.node (some (.cells ⟨[.slice (some ⟨727, 0, none⟩) 4 9, .slice (some ⟨728, 0, none⟩) 1 3, .slice none 0 0, .slice none 0 0]⟩ 45 (0, 0))) (.leaf) (.leaf)) (.leaf)))) (.leaf)))) (.leaf))) (.node (some (.cells ⟨[.string ⟨#[]⟩, .bool false, .bool false, .bool false, .bool false, .string ⟨#[108, 100, 105]⟩, .bool true, .bool false, .bool false, .bool true, .string ⟨#[108, 100, 115]⟩, .bool true, .bool false, .bool false, .bool true, .string ⟨#[109, 111, 118]⟩, .bool true, .bool true, .bool false, .bool false, .string ⟨#[97, 100, 100]⟩, .bool true, .bool true, .bool true, .bool false, .string ⟨#[115, 117, 98]⟩, .bool true, .bool true, .bool true, .bool false, .string ⟨#[109, 117, 108]⟩, .bool true, .bool true, .bool true, .bool false, .string ⟨#[100, 105, 118]⟩, .bool true, .bool true, .bool true, .bool false, .string ⟨#[100, 105, 118, 117]⟩, .bool true, .bool true, .bool true, .bool false, .string ⟨#[109, 111, 100]⟩, .bool true, .bool true, .bool true, .bool false, .string ⟨#[109, 111, 100, 117]⟩, .bool true, .bool true, .bool true, .bool false, .string ⟨#[97, 110, 100]⟩, .bool true, .bool true, .bool true, .bool false, .string ⟨#[111, 114]⟩, .bool true, .bool true, .bool true, .bool false, .string ⟨#[120, 111, 114]⟩, .bool true, .bool true, .bool true, .bool false, .string ⟨#[115, 104, 108]⟩, .bool true, .bool true, .bool true, .bool false, .string ⟨#[115, 104, 114]⟩, .bool true, .bool true, .bool true, .bool false, .string ⟨#[115, 97, 114]⟩, .bool true, .bool true, .bool true, .bool false, .string ⟨#[110, 101, 103]⟩, .bool true, .bool true, .bool false, .bool false, .string ⟨#[110, 111, 116]⟩, .bool true, .bool true, .bool false, .bool false, .string ⟨#[119, 114, 97, 112]⟩, .bool true, .bool true, .bool false, .bool true, .string ⟨#[108, 116]⟩, .bool true, .bool true, .bool true, .bool false, .string ⟨#[108, 116, 117]⟩, .bool true, .bool true, .bool true, .bool false, .string ⟨#[101, 113]⟩, .bool true, .bool true, .bool true, .bool false, .string ⟨#[99, 109, 112]⟩, .bool true, .bool true, .bool true, .bool false, .string ⟨#[106, 109, 112]⟩, .bool false, .bool false, .bool false, .bool true, .string ⟨#[106, 122]⟩, .bool false, .bool true, .bool false, .bool true, .string ⟨#[108, 111, 97, 100]⟩, .bool true, .bool true, .bool false, .bool true, .string ⟨#[117, 108, 111, 97, 100]⟩, .bool true, .bool true, .bool false, .bool true, .string ⟨#[98, 117, 105]⟩, .bool true, .bool false, .bool false, .bool true, .string ⟨#[97, 114, 103]⟩, .bool true, .bool false, .bool false, .bool true, .string ⟨#[103, 108, 111]⟩, .bool true, .bool false, .bool false, .bool true, .string ⟨#[115, 101, 116, 103, 108, 111]⟩, .bool false, .bool true, .bool false, .bool true, .string ⟨#[116, 104, 114]⟩, .bool true, .bool false, .bool false, .bool true, .string ⟨#[115, 101, 116, 116, 104, 114]⟩, .bool false, .bool true, .bool false, .bool true, .string ⟨#[108, 111, 99]⟩, .bool true, .bool false, .bool false, .bool true, .string ⟨#[115, 101, 116, 108, 111, 99]⟩, .bool false, .bool true, .bool false, .bool true, .string ⟨#[112, 117, 115, 104]⟩, .bool false, .bool true, .bool false, .bool false, .string ⟨#[97, 115, 99]⟩, .bool true, .bool false, .bool false, .bool true, .string ⟨#[115, 101, 116, 97, 115, 99]⟩, .bool false, .bool true, .bool false, .bool true, .string ⟨#[99, 97, 108, 108]⟩, .bool true, .bool false, .bool false, .bool true, .string ⟨#[114, 101, 116]⟩, .bool false, .bool true, .bool false, .bool false]⟩ 0 (0, 1))) (.node (some (.cells ⟨[.string ⟨#[]⟩, .string ⟨#[99, 112, 117]⟩, .string ⟨#[116, 105, 109, 101, 115, 116, 97, 109, 112]⟩, .string ⟨#[112, 105, 100]⟩, .string ⟨#[116, 105, 100]⟩, .string ⟨#[101, 120, 101, 99, 110, 97, 109, 101]⟩, .string ⟨#[105, 100]⟩, .string ⟨#[112, 114, 111, 98, 101, 112, 114, 111, 118]⟩, .string ⟨#[112, 114, 111, 98, 101, 109, 111, 100]⟩, .string ⟨#[112, 114, 111, 98, 101, 102, 117, 110, 99]⟩, .string ⟨#[112, 114, 111, 98, 101, 110, 97, 109, 101]⟩, .string ⟨#[112, 99]⟩, .string ⟨#[99, 117, 114, 116, 104, 114, 101, 97, 100]⟩, .string ⟨#[99, 117, 114, 112, 114, 111, 99]⟩]⟩ 0 (0, 1))) (.node (some (.cells ⟨[.int .u8 0, .int .u8 1, .int .u8 28, .int .u8 2, .int .u8 29, .int .u8 14, .int .u8 24, .int .u8 3, .int .u8 30, .int .u8 22, .int .u8 20, .int .u8 15, .int .u8 25, .int .u8 17, .int .u8 4, .int .u8 8, .int .u8 31, .int .u8 27, .int .u8 13, .int .u8 23, .int .u8 21, .int .u8 19, .int .u8 16, .int .u8 7, .int .u8 26, .int .u8 12, .int .u8 18, .int .u8 6, .int .u8 11, .int .u8 5, .int .u8 10, .int .u8 9]⟩ 0 (0, 1))) (.node none (.node none (.node none (.node none (.node none (.leaf) (.node none (.node (some (.cells ⟨[.int .i64 1, .int .i64 10, .int .i64 13]⟩ 23 (0, 0))) (.leaf) (.leaf)) (.leaf))) (.leaf)) (.leaf)) (.leaf)) (.leaf)) (.node none (.leaf) (.node none (.node none (.leaf) (.node none (.leaf) (.node none (.node (some (.cells ⟨[.int .i64 10]⟩ 2 (0, 0))) (.leaf) (.leaf)) (.leaf)))) (.leaf)))) (.leaf)) (.node none (.node (some (.cells ⟨[.slice none 0 0, .slice none 0 0, .slice none 0 0, .slice none 0 0, .slice none 0 0, .slice none 0 0, .slice none 0 0]⟩ 37 (0, 0))) (.leaf) (.leaf)) (.leaf))), 1281, [], []⟩
theorem vpart1 : prune 10 gheap [1] [10] (vl Tryz.prog 100 205 10 ((codesOf Tryz.prog 5).take 7) vS0) = some vS1 := by kernel_rfl
theorem vpart2 : prune 10 gheap [1, 9, 10, 12, 13, 14] [10, 727, 728, 729] (vl Tryz.prog 100 205 10 (((codesOf Tryz.prog 5).drop 7).take 3) vS1) = some vS2 := by kernel_rfl
theorem vpart3 : prune 10 gheap [1, 9, 10, 12, 13, 14, 17, 18, 19] [10, 727, 728, 729, 1280] (vl Tryz.prog 100 205 10 ((((codesOf Tryz.prog 5).drop 7).drop 3).take 2) vS2) = some vS3 := by kernel_rfl
theorem vlast : ends true (endOf Tryz.prog 100 10 5 (vl Tryz.prog 100 205 10 ((((codesOf Tryz.prog 5).drop 7).drop 3).drop 2) vS3)) = true := by kernel_rfl
theorem vall (hmix : Tryz.prog.follows .mixedOrders = true) (hnm : NamesOk Tryz.prog) (R0 : Ren) (w0 : World) (hh : HR Tryz.prog R0 gheap.get w0) : ∃ e s, LOk Tryz.prog R0 10 gheap w0 205 (codesOf Tryz.prog 5) vS0 e s ∧ ends true (endOf Tryz.prog 100 10 5 (some (e, s))) = true :=
  part_then hmix hnm hh vpart1 (part_then hmix hnm hh vpart2 (part_then hmix hnm hh vpart3 (last_ok hmix hnm vlast hh)))

theorem sane_run {w : World} (h : Laid gcells w) : Calls Tryz.prog 5 #[] w fun e w' => e = .returned (.bool true) ∧ w'.os = w.os ∧ w'.tape = w.tape ∧ w'.output = w.output ∧ w.heap.size ≤ w'.heap.size ∧ ∀ k, k < w.heap.size → w'.heap[k]? = w.heap[k]? := by
  obtain ⟨h1, h2⟩ := laid_hr gheap_eq gcells_ok h
  exact closedL gsize vmix vnames (by kernel_rfl) (by kernel_rfl) (fun R0 w0 hh => vall vmix vnames R0 w0 hh) w h1 h2
end
end Go.Proofs.YtlmfgibfknjjpaaGreatDoor
/- taplinelaw18.sane in the form of the walks here; the package's variables. -/
namespace Go.Proofs.YtlmfgibfknjjpaaGreatDoor
open Go.RowKit Go.M
/-- the package's variables hold what the rows list -/
def Tab (w : World) : Prop := Go.V.Laid gcells w
theorem Tab.b {w w' : World} (h : Tab w) (hE : ExtB [] w w') : Tab w' := Go.V.Laid.later h fun k hk => hE.block k hk (by simp)
theorem Tab.e {w w' : World} (h : Tab w) (hE : Ext w w') : Tab w' := h.b (hE.toB [])
theorem Tab.s {h0 h : View} {w0 w : World} {bs : List Res} (ht : Tab w0) (HS : St [] h0 w0 h bs w) : Tab w := ht.b HS.ext
def taplinelaw18_sane.f : Option Bool := some true
theorem taplinelaw18_sane.calls {h0 : View} {w0 : World} (hv : Sees h0 w0) (ht : Tab w0) {r : Bool} (H : taplinelaw18_sane.f = some r) : Calls Tryz.prog 5 #[] w0 (fun e w1 => e = .returned (Value.bool r) ∧ Ext w0 w1) := by
  obtain rfl := Option.some.inj H
  refine (sane_run ht).mono ?_
  rintro e w1 ⟨rfl, h1, h2, h3, h4, h5⟩
  exact ⟨rfl, h1, h2, h3, h4, h5⟩
theorem r_glob0 {ρ : Operand → Value} {dst : Option Tmp} {ty : TypeId} {pos : String} {after : Array Edge} {guard : Option (Nat × Bool)} {w : World} (ht : Tab w) (hq : ρ (.global 0) = .pointer (some ⟨0, 0, none⟩)) :
    (execOp ρ ⟨dst, .load 23 (.global 0), ty, pos, after, guard⟩).run Tryz.prog w = .ok (.value (.agg #[.int .i64 2, .int .i64 0, .int .i64 0])) w := by
  obtain ⟨t, fz, e⟩ := ht (0, [.int .i64 2, .int .i64 0, .int .i64 0]) (by unfold gcells; exact List.mem_cons_self)
  exact r_loadBoxAgg (n := 3) hq Tryz.isAgg23 e Tryz.sizeOf23 rfl rfl
end Go.Proofs.YtlmfgibfknjjpaaGreatDoor
/- The laws' arguments as they lie in memory; what the rows list; a witness's world. -/
namespace Go.Proofs.YtlmfgibfknjjpaaGreatDoor
open Go.ChangeShapes Go.WideShapes Go.ChangeAt Go.RowKit Go.M
set_option maxRecDepth 100000
theorem own : ownKnob Tryz.prog.godebug = none := by kernel_rfl
theorem laidOut : laidOutB Tryz.prog = true := by kernel_rfl
/-- what the rows list -/
abbrev laidL : List (String × DataW Unit) := [("math/bits.deBruijn32tab", Rows.laid_math_bits_deBruijn32tab), ("math/bits.deBruijn64tab", Rows.laid_math_bits_deBruijn64tab), ("internal/strconv.uint64pow10", Rows.laid_internal_strconv_uint64pow10), ("strconv.ErrRange", Rows.laid_strconv_ErrRange), ("strconv.ErrSyntax", Rows.laid_strconv_ErrSyntax), ("tapline/code.forms", Rows.laid_tapline_code_forms), ("tapline/check.builtins", Rows.laid_tapline_check_builtins), ("tapline/verify.full", Rows.laid_tapline_verify_full), ("tapline/verify.text", Rows.laid_tapline_verify_text)]
section
open Go.V
theorem und0 : undG Tryz.prog 0 Rows.laid_tapline_verify_text = some [.int .i64 2, .int .i64 0, .int .i64 0] := by kernel_rfl
theorem und1 : undG Tryz.prog 1 Rows.laid_tapline_verify_full = some [.int .i64 1, .int .i64 (-9223372036854775808), .int .i64 9223372036854775807] := by kernel_rfl
theorem und2 : undG Tryz.prog 2 Rows.laid_tapline_code_forms = some [.string ⟨#[]⟩, .bool false, .bool false, .bool false, .bool false, .string ⟨#[108, 100, 105]⟩, .bool true, .bool false, .bool false, .bool true, .string ⟨#[108, 100, 115]⟩, .bool true, .bool false, .bool false, .bool true, .string ⟨#[109, 111, 118]⟩, .bool true, .bool true, .bool false, .bool false, .string ⟨#[97, 100, 100]⟩, .bool true, .bool true, .bool true, .bool false, .string ⟨#[115, 117, 98]⟩, .bool true, .bool true, .bool true, .bool false, .string ⟨#[109, 117, 108]⟩, .bool true, .bool true, .bool true, .bool false, .string ⟨#[100, 105, 118]⟩, .bool true, .bool true, .bool true, .bool false, .string ⟨#[100, 105, 118, 117]⟩, .bool true, .bool true, .bool true, .bool false, .string ⟨#[109, 111, 100]⟩, .bool true, .bool true, .bool true, .bool false, .string ⟨#[109, 111, 100, 117]⟩, .bool true, .bool true, .bool true, .bool false, .string ⟨#[97, 110, 100]⟩, .bool true, .bool true, .bool true, .bool false, .string ⟨#[111, 114]⟩, .bool true, .bool true, .bool true, .bool false, .string ⟨#[120, 111, 114]⟩, .bool true, .bool true, .bool true, .bool false, .string ⟨#[115, 104, 108]⟩, .bool true, .bool true, .bool true, .bool false, .string ⟨#[115, 104, 114]⟩, .bool true, .bool true, .bool true, .bool false, .string ⟨#[115, 97, 114]⟩, .bool true, .bool true, .bool true, .bool false, .string ⟨#[110, 101, 103]⟩, .bool true, .bool true, .bool false, .bool false, .string ⟨#[110, 111, 116]⟩, .bool true, .bool true, .bool false, .bool false, .string ⟨#[119, 114, 97, 112]⟩, .bool true, .bool true, .bool false, .bool true, .string ⟨#[108, 116]⟩, .bool true, .bool true, .bool true, .bool false, .string ⟨#[108, 116, 117]⟩, .bool true, .bool true, .bool true, .bool false, .string ⟨#[101, 113]⟩, .bool true, .bool true, .bool true, .bool false, .string ⟨#[99, 109, 112]⟩, .bool true, .bool true, .bool true, .bool false, .string ⟨#[106, 109, 112]⟩, .bool false, .bool false, .bool false, .bool true, .string ⟨#[106, 122]⟩, .bool false, .bool true, .bool false, .bool true, .string ⟨#[108, 111, 97, 100]⟩, .bool true, .bool true, .bool false, .bool true, .string ⟨#[117, 108, 111, 97, 100]⟩, .bool true, .bool true, .bool false, .bool true, .string ⟨#[98, 117, 105]⟩, .bool true, .bool false, .bool false, .bool true, .string ⟨#[97, 114, 103]⟩, .bool true, .bool false, .bool false, .bool true, .string ⟨#[103, 108, 111]⟩, .bool true, .bool false, .bool false, .bool true, .string ⟨#[115, 101, 116, 103, 108, 111]⟩, .bool false, .bool true, .bool false, .bool true, .string ⟨#[116, 104, 114]⟩, .bool true, .bool false, .bool false, .bool true, .string ⟨#[115, 101, 116, 116, 104, 114]⟩, .bool false, .bool true, .bool false, .bool true, .string ⟨#[108, 111, 99]⟩, .bool true, .bool false, .bool false, .bool true, .string ⟨#[115, 101, 116, 108, 111, 99]⟩, .bool false, .bool true, .bool false, .bool true, .string ⟨#[112, 117, 115, 104]⟩, .bool false, .bool true, .bool false, .bool false, .string ⟨#[97, 115, 99]⟩, .bool true, .bool false, .bool false, .bool true, .string ⟨#[115, 101, 116, 97, 115, 99]⟩, .bool false, .bool true, .bool false, .bool true, .string ⟨#[99, 97, 108, 108]⟩, .bool true, .bool false, .bool false, .bool true, .string ⟨#[114, 101, 116]⟩, .bool false, .bool true, .bool false, .bool false] := by kernel_rfl
theorem und4 : undG Tryz.prog 4 Rows.laid_tapline_check_builtins = some [.string ⟨#[]⟩, .string ⟨#[99, 112, 117]⟩, .string ⟨#[116, 105, 109, 101, 115, 116, 97, 109, 112]⟩, .string ⟨#[112, 105, 100]⟩, .string ⟨#[116, 105, 100]⟩, .string ⟨#[101, 120, 101, 99, 110, 97, 109, 101]⟩, .string ⟨#[105, 100]⟩, .string ⟨#[112, 114, 111, 98, 101, 112, 114, 111, 118]⟩, .string ⟨#[112, 114, 111, 98, 101, 109, 111, 100]⟩, .string ⟨#[112, 114, 111, 98, 101, 102, 117, 110, 99]⟩, .string ⟨#[112, 114, 111, 98, 101, 110, 97, 109, 101]⟩, .string ⟨#[112, 99]⟩, .string ⟨#[99, 117, 114, 116, 104, 114, 101, 97, 100]⟩, .string ⟨#[99, 117, 114, 112, 114, 111, 99]⟩] := by kernel_rfl
theorem und7 : undG Tryz.prog 7 Rows.laid_internal_strconv_uint64pow10 = some [.int .u64 1, .int .u64 10, .int .u64 100, .int .u64 1000, .int .u64 10000, .int .u64 100000, .int .u64 1000000, .int .u64 10000000, .int .u64 100000000, .int .u64 1000000000, .int .u64 10000000000, .int .u64 100000000000, .int .u64 1000000000000, .int .u64 10000000000000, .int .u64 100000000000000, .int .u64 1000000000000000, .int .u64 10000000000000000, .int .u64 100000000000000000, .int .u64 1000000000000000000, .int .u64 10000000000000000000] := by kernel_rfl
theorem und8 : undG Tryz.prog 8 Rows.laid_math_bits_deBruijn32tab = some [.int .u8 0, .int .u8 1, .int .u8 28, .int .u8 2, .int .u8 29, .int .u8 14, .int .u8 24, .int .u8 3, .int .u8 30, .int .u8 22, .int .u8 20, .int .u8 15, .int .u8 25, .int .u8 17, .int .u8 4, .int .u8 8, .int .u8 31, .int .u8 27, .int .u8 13, .int .u8 23, .int .u8 21, .int .u8 19, .int .u8 16, .int .u8 7, .int .u8 26, .int .u8 12, .int .u8 18, .int .u8 6, .int .u8 11, .int .u8 5, .int .u8 10, .int .u8 9] := by kernel_rfl
theorem und9 : undG Tryz.prog 9 Rows.laid_math_bits_deBruijn64tab = some [.int .u8 0, .int .u8 1, .int .u8 56, .int .u8 2, .int .u8 57, .int .u8 49, .int .u8 28, .int .u8 3, .int .u8 61, .int .u8 58, .int .u8 42, .int .u8 50, .int .u8 38, .int .u8 29, .int .u8 17, .int .u8 4, .int .u8 62, .int .u8 47, .int .u8 59, .int .u8 36, .int .u8 45, .int .u8 43, .int .u8 51, .int .u8 22, .int .u8 53, .int .u8 39, .int .u8 33, .int .u8 30, .int .u8 24, .int .u8 18, .int .u8 12, .int .u8 5, .int .u8 63, .int .u8 55, .int .u8 48, .int .u8 27, .int .u8 60, .int .u8 41, .int .u8 37, .int .u8 16, .int .u8 46, .int .u8 35, .int .u8 44, .int .u8 21, .int .u8 52, .int .u8 32, .int .u8 23, .int .u8 11, .int .u8 54, .int .u8 26, .int .u8 40, .int .u8 15, .int .u8 34, .int .u8 20, .int .u8 31, .int .u8 10, .int .u8 25, .int .u8 14, .int .u8 19, .int .u8 9, .int .u8 13, .int .u8 8, .int .u8 7, .int .u8 6] := by kernel_rfl
theorem tab_of {W : World} (h : laidMetH Tryz.prog laidL W) : Tab W := by
  obtain ⟨ps, hL, _⟩ : laidMet Tryz.prog laidL W := h
  intro p hp
  unfold gcells at hp
  simp only [List.mem_cons, List.not_mem_nil, or_false] at hp
  rcases hp with rfl | rfl | rfl | rfl | rfl | rfl | rfl
  · exact laid_atG hL (n := "tapline/verify.text") (D := Rows.laid_tapline_verify_text) (by unfold laidL; simp) (by kernel_rfl) und0
  · exact laid_atG hL (n := "tapline/verify.full") (D := Rows.laid_tapline_verify_full) (by unfold laidL; simp) (by kernel_rfl) und1
  · exact laid_atG hL (n := "tapline/code.forms") (D := Rows.laid_tapline_code_forms) (by unfold laidL; simp) (by kernel_rfl) und2
  · exact laid_atG hL (n := "tapline/check.builtins") (D := Rows.laid_tapline_check_builtins) (by unfold laidL; simp) (by kernel_rfl) und4
  · exact laid_atG hL (n := "internal/strconv.uint64pow10") (D := Rows.laid_internal_strconv_uint64pow10) (by unfold laidL; simp) (by kernel_rfl) und7
  · exact laid_atG hL (n := "math/bits.deBruijn32tab") (D := Rows.laid_math_bits_deBruijn32tab) (by unfold laidL; simp) (by kernel_rfl) und8
  · exact laid_atG hL (n := "math/bits.deBruijn64tab") (D := Rows.laid_math_bits_deBruijn64tab) (by unfold laidL; simp) (by kernel_rfl) und9
end
/-- a witness's world -/
def layV (vs : List Value) : Obj → Obj
  | .cells _ t frozen => .cells ⟨vs⟩ t frozen
  | o => o
noncomputable def heap0 (os : Os) : Array Obj := (World.holding Tryz.prog os ⟨#[], #[], []⟩).heap
noncomputable def heap1 (os : Os) : Array Obj := gcells.foldl (fun h p => h.modify p.1 (layV p.2)) (heap0 os)
noncomputable def laidWorld (os : Os) : World := { World.holding Tryz.prog os ⟨#[], #[], []⟩ with heap := (((((heap1 os).modify 6 (layV [.iface 385 (.pointer (some ⟨(heap0 os).size, 0, none⟩))])).modify 5 (layV [.iface 385 (.pointer (some ⟨(heap0 os).size + 1, 0, none⟩))])).push (.cells #[.string ⟨#[118, 97, 108, 117, 101, 32, 111, 117, 116, 32, 111, 102, 32, 114, 97, 110, 103, 101]⟩] 387)).push (.cells #[.string ⟨#[105, 110, 118, 97, 108, 105, 100, 32, 115, 121, 110, 116, 97, 120]⟩] 387)) }
theorem laid_met (os : Os) (args : Array Value) : laidMet Tryz.prog laidL ((laidWorld os).forCall (fun _ _ => 0) ⟨#[], args, []⟩).memory :=
  laidMet_of_run' 20 (by kernel_rfl) (by kernel_rfl)
section
variable {H : Type} {enc : TypeId × Value → H} {W : World}
theorem op2 : Opn enc Tryz.prog W 2 (Kd.int .i64) (fun n => (Lit.int .i64 n).wf = true) := op_int Tryz.underlying2 (by kernel_rfl)
theorem op3 : Opn enc Tryz.prog W 3 (Kd.int .i64) (fun n => (Lit.int .i64 n).wf = true) := op_int Tryz.underlying3 (by kernel_rfl)
theorem op4 : Opn enc Tryz.prog W 4 Kd.bool (fun _ => True) := op_bool Tryz.underlying4 (by kernel_rfl)
theorem op9 : Opn enc Tryz.prog W 9 Kd.str (fun s => s.size ≤ maxLen) := op_str Tryz.underlying9 (by kernel_rfl)
theorem op23 : Opn enc Tryz.prog W 23 k_api_Abs (fun _ => True) :=
  (op_iso (fun p => (⟨p.1, p.2.1, p.2.2⟩ : api_Abs)) (fun _ => rfl) (op_struct Tryz.underlying23 (by kernel_rfl) (opf_cons op3 rfl (opf_cons op2 rfl (opf_one op2 rfl))))).weak fun _ _ => trivial
theorem op25 : Opn enc Tryz.prog W 25 k_api_Value (fun _ => True) :=
  (op_iso (fun p => (⟨p.1, p.2.1, p.2.2⟩ : api_Value)) (fun _ => rfl) (op_struct Tryz.underlying25 (by kernel_rfl) (opf_cons op4 rfl (opf_cons op2 rfl (opf_one op9 rfl))))).weak fun _ _ => trivial
theorem arg23 {b : Nat} {v : Value} {d : DataW H} {p : List MemPlace} (hval : Value.okWide Tryz.prog W .any b 23 v) (h : DataW.Trod enc Tryz.prog W 0 (fun _ => true) true 23 v d p) :
    ∃ x : api_Abs, v = .agg #[.int .i64 x.vKind, .int .i64 x.vLo, .int .i64 x.vHi] := by
  obtain ⟨cs, rfl, _⟩ := okWide_struct Tryz.underlying23 hval
  obtain ⟨fuel, hf⟩ := h
  obtain ⟨x, hK, _⟩ := op23.open_ _ _ _ hf
  obtain ⟨_, _, e1, rfl, ⟨_, _, e2, rfl, rfl⟩⟩ := hK
  refine ⟨x, ?_⟩
  have : cs.toList = [.int .i64 x.vKind, .int .i64 x.vLo, .int .i64 x.vHi] := e1.trans (by rw [e2]; rfl)
  rw [← Array.toArray_toList (xs := cs), this]
theorem arg25 {b : Nat} {v : Value} {d : DataW H} {p : List MemPlace} (hval : Value.okWide Tryz.prog W .any b 25 v) (h : DataW.Trod enc Tryz.prog W 0 (fun _ => true) true 25 v d p) :
    ∃ x : api_Value, v = .agg #[.bool x.vStr, .int .i64 x.vN, .string x.vS] := by
  obtain ⟨cs, rfl, _⟩ := okWide_struct Tryz.underlying25 hval
  obtain ⟨fuel, hf⟩ := h
  obtain ⟨x, hK, _⟩ := op25.open_ _ _ _ hf
  obtain ⟨_, _, e1, rfl, ⟨_, _, e2, rfl, rfl⟩⟩ := hK
  refine ⟨x, ?_⟩
  have : cs.toList = [.bool x.vStr, .int .i64 x.vN, .string x.vS] := e1.trans (by rw [e2]; rfl)
  rw [← Array.toArray_toList (xs := cs), this]
/-- behind a law: its result is true, and the arguments read as they did -/
theorem law_post {fn : Func} {s : ChangeSpec} {args : Array Value} {ds gs : List (DataW H)} {before : List MemPlace} {W' : World} (hT : ∀ t ∈ fn.params.toList, Tryz.prog.readableRec t = true ∧ t < Tryz.prog.types.size) (hr : fn.resultTypes = #[4]) (hvs : s.vars = [])
    (hfn : s.fn H (ds ++ gs) = { results := [.lit (.bool true)], args := ds }) (hW : DataW.Whole enc Tryz.prog fn.params.toList s.vars false W args.toList ds gs before) (hE : Ext W W') : s.post enc Tryz.prog fn false true false false W args (.bool true) W' := by
  have hW' := hW
  obtain ⟨p, q, hA, hV, e, hfz, hnd⟩ := hW
  rw [hvs] at hV
  obtain ⟨rfl, rfl⟩ := trodVars_none hV
  have hlt : ∀ x ∈ p, x.block < W.heap.size := fun x hx => hW'.lt x (by rw [e]; exact List.mem_append_left _ hx)
  refine ⟨ds, [], before, [], p, [], hW', ?_, ?_, ?_, Below.frame hE _, fun h => by cases h⟩
  · rw [hfn, hr]
    exact trodAll_cons_mk (shut_bool Tryz.underlying4 _) trodAll_mk0
  · rw [hfn]
    exact all_stays laidOut hE hT hA hlt (fun x hx => by simpa using hlt x hx)
  · rw [hfn, hvs]
    rfl
end
end Go.Proofs.YtlmfgibfknjjpaaGreatDoor
namespace Go.Proofs.YtlmfgibfknjjpaaGreatDoor
open Go.RowKit Go.M
def verify_right.f (a0 : api_Abs) : Option (Bool) := ((if (a0.vKind == 0) = true then (some (a0.vKind == 0)) else (some (a0.vKind == 2))) : Option (Bool)).bind fun xx1 => (if xx1 = true then (some ((a0.vLo == 0) && (a0.vHi == 0))) else (if (a0.vKind == 1) = true then (some (decide (a0.vLo ≤ a0.vHi))) else (some false)))
set_option maxRecDepth 20000 in
set_option maxHeartbeats 4000000 in
theorem verify_right.calls (a0 : api_Abs)  {h0 : View} {w0 : World} (hv : Sees h0 w0) {r : Bool} (H : verify_right.f a0 = some r) : Calls Tryz.prog 17 #[Value.agg #[Value.int .i64 a0.vKind, Value.int .i64 a0.vLo, Value.int .i64 a0.vHi]] w0 (fun e w1 => e = .returned (Value.bool r) ∧ Ext w0 w1) := by
  unfold verify_right.f at H
  have HS : St [] h0 w0 h0 [] w0 := St.init hv
  go_enter Tryz.func17, Tryz.ntmps17
  refine wp_seq ?_
  refine region ?_
  refine run_ex rfl rfl (does_box (cs := #[Value.int .i64 a0.vKind, Value.int .i64 a0.vLo, Value.int .i64 a0.vHi]) rfl rfl) ?_
  rintro w1 _ hE1 ⟨b1, rfl, ge1, hb1⟩
  have HS1 := HS.new hE1 ge1 hb1
  refine run_same (v := Value.bool false) rfl rfl (r_assign rfl) ?_
  try simp only [List.set_cons_zero, List.set_cons_succ]
  refine run_nil ?_
  refine norm_then ?_
  refine wp_seq ?_
  refine wp_seq ?_
  refine region ?_
  refine run_same (v := Value.pointer (some ⟨b1, 0, none⟩)) rfl rfl (r_fieldBox (n := 1) (o' := 0) rfl Tryz.runUnderlying23 rfl Tryz.sizeOf3 (by decide) rfl) ?_
  refine run_same (v := Value.int .i64 a0.vKind) rfl rfl (r_loadBox rfl Tryz.isAgg3 (HS1.look 0 rfl) rfl) ?_
  try simp only [List.set_cons_zero, List.set_cons_succ]
  refine run_nil ?_
  refine norm_then ?_
  refine wp_block ?_
  refine wp_seq ?_
  refine wp_seq ?_
  refine region ?_
  refine run_same (v := Value.bool (a0.vKind == 0)) rfl rfl (r_bin rfl rfl rfl) ?_
  refine run_same (v := Value.bool (a0.vKind == 0)) rfl rfl (r_assign rfl) ?_
  try simp only [List.set_cons_zero, List.set_cons_succ]
  refine run_nil ?_
  refine norm_then ?_
  obtain ⟨xx1, H, G1⟩ := of_bind H
  refine cut_patch [5, 7] (fun us w' => ∃ (uj1_7 : Value), us = [Value.bool xx1, uj1_7] ∧ St [] h0 w0 h0 [(some b1, .cells #[Value.int .i64 a0.vKind, Value.int .i64 a0.vLo, Value.int .i64 a0.vHi] 23 (0, 0))] w') ?_ ?_
  · refine wp_cond_split (t := (a0.vKind == 0)) rfl (fun c1 => ?_) (fun c1 => ?_)
    · replace H := of_pos H c1
      refine wp_skip ?_
      obtain rfl := Option.some.inj H
      refine met [Value.bool (a0.vKind == 0), undef] (by simp only [patch, List.set_cons_zero, List.set_cons_succ]) ⟨_, rfl, HS1⟩
    · replace H := of_neg H (nt c1)
      refine region ?_
      refine run_same (v := Value.bool (a0.vKind == 2)) rfl rfl (r_bin rfl rfl rfl) ?_
      refine run_same (v := Value.bool (a0.vKind == 2)) rfl rfl (r_assign rfl) ?_
      try simp only [List.set_cons_zero, List.set_cons_succ]
      refine run_nil ?_
      obtain rfl := Option.some.inj H
      refine met [Value.bool (a0.vKind == 2), Value.bool (a0.vKind == 2)] (by simp only [patch, List.set_cons_zero, List.set_cons_succ]) ⟨_, rfl, HS1⟩
  · rintro _ w2 ⟨uj1_7, rfl, HS2⟩
    replace H := G1
    clear G1
    try simp only [patch, List.set_cons_zero, List.set_cons_succ]
    refine wp_cond_split (t := xx1) rfl (fun c2 => ?_) (fun c2 => ?_)
    · replace H := of_pos H c2
      refine wp_seq ?_
      refine region ?_
      refine run_same (v := Value.pointer (some ⟨b1, 1, none⟩)) rfl rfl (r_fieldBox (n := 1) (o' := 1) rfl Tryz.runUnderlying23 rfl Tryz.sizeOf2 (by decide) rfl) ?_
      refine run_same (v := Value.int .i64 a0.vLo) rfl rfl (r_loadBox rfl Tryz.isAgg2 (HS2.look 0 rfl) rfl) ?_
      refine run_same (v := Value.bool (a0.vLo == 0)) rfl rfl (r_bin rfl rfl rfl) ?_
      refine run_same (v := Value.bool (a0.vLo == 0)) rfl rfl (r_move rfl) ?_
      refine run_frame (by simp only [List.set_cons_zero, List.set_cons_succ]; rfl) ?_
      refine run_g_same (b := (a0.vLo == 0)) (c := true) (v := Value.pointer (some ⟨b1, 2, none⟩)) rfl rfl rfl rfl (fun hg => (r_fieldBox (n := 1) (o' := 2) rfl Tryz.runUnderlying23 rfl Tryz.sizeOf2 (by decide) rfl)) ?_
      refine run_g_same (b := (a0.vLo == 0)) (c := true) (v := Value.int .i64 a0.vHi) rfl rfl rfl rfl (fun hg => (r_loadBox ((show _ = gv (true && ((a0.vLo == 0) == true)) (Value.pointer (some ⟨b1, 2, none⟩)) from rfl).trans (gv_t hg)) Tryz.isAgg2 (HS2.look 0 rfl) rfl)) ?_
      refine run_g_same (b := (a0.vLo == 0)) (c := true) (v := Value.bool (a0.vHi == 0)) rfl rfl rfl rfl (fun hg => (r_bin ((show _ = gv (true && ((a0.vLo == 0) == true)) (Value.int .i64 a0.vHi) from rfl).trans (gv_t hg)) rfl rfl)) ?_
      refine run_same (v := Value.bool ((a0.vLo == 0) && (a0.vHi == 0))) rfl rfl (r_pick_and rfl (fun hp => ((show _ = gv (true && ((a0.vLo == 0) == true)) (Value.bool (a0.vHi == 0)) from rfl).trans (gv_t (and_i rfl hp)))) rfl) ?_
      refine run_frame (by simp only [List.set_cons_zero, List.set_cons_succ]; rfl) ?_
      refine run_same (v := Value.bool ((a0.vLo == 0) && (a0.vHi == 0))) rfl rfl (r_assign rfl) ?_
      try simp only [List.set_cons_zero, List.set_cons_succ]
      refine run_nil ?_
      refine norm_then ?_
      refine wp_ret ?_
      refine ret_block ?_
      refine ret_then ?_
      obtain rfl := Option.some.inj H
      refine bodyPost_ret (results_1 rfl (one_tmp rfl)) rfl ?_
      exact ⟨rfl, HS2.toE⟩
    · replace H := of_neg H (nt c2)
      refine wp_seq ?_
      refine region ?_
      refine run_same (v := Value.bool (a0.vKind == 1)) rfl rfl (r_bin rfl rfl rfl) ?_
      refine run_same (v := Value.bool (a0.vKind == 1)) rfl rfl (r_assign rfl) ?_
      try simp only [List.set_cons_zero, List.set_cons_succ]
      refine run_nil ?_
      refine norm_then ?_
      refine wp_cond_split (t := (a0.vKind == 1)) rfl (fun c3 => ?_) (fun c3 => ?_)
      · replace H := of_pos H c3
        refine wp_seq ?_
        refine region ?_
        refine run_same (v := Value.pointer (some ⟨b1, 1, none⟩)) rfl rfl (r_fieldBox (n := 1) (o' := 1) rfl Tryz.runUnderlying23 rfl Tryz.sizeOf2 (by decide) rfl) ?_
        refine run_same (v := Value.int .i64 a0.vLo) rfl rfl (r_loadBox rfl Tryz.isAgg2 (HS2.look 0 rfl) rfl) ?_
        refine run_same (v := Value.pointer (some ⟨b1, 2, none⟩)) rfl rfl (r_fieldBox (n := 1) (o' := 2) rfl Tryz.runUnderlying23 rfl Tryz.sizeOf2 (by decide) rfl) ?_
        refine run_same (v := Value.int .i64 a0.vHi) rfl rfl (r_loadBox rfl Tryz.isAgg2 (HS2.look 0 rfl) rfl) ?_
        refine run_frame (by simp only [List.set_cons_zero, List.set_cons_succ]; rfl) ?_
        refine run_same (v := Value.bool (decide (a0.vLo ≤ a0.vHi))) rfl rfl (r_bin rfl rfl rfl) ?_
        refine run_same (v := Value.bool (decide (a0.vLo ≤ a0.vHi))) rfl rfl (r_assign rfl) ?_
        try simp only [List.set_cons_zero, List.set_cons_succ]
        refine run_nil ?_
        refine norm_then ?_
        refine wp_ret ?_
        refine ret_block ?_
        refine ret_then ?_
        obtain rfl := Option.some.inj H
        refine bodyPost_ret (results_1 rfl (one_tmp rfl)) rfl ?_
        exact ⟨rfl, HS2.toE⟩
      · replace H := of_neg H (nt c3)
        refine wp_skip ?_
        refine norm_block ?_
        refine norm_then ?_
        refine wp_seq ?_
        refine region ?_
        refine run_same (v := Value.bool false) rfl rfl (r_assign rfl) ?_
        try simp only [List.set_cons_zero, List.set_cons_succ]
        refine run_nil ?_
        refine norm_then ?_
        refine wp_ret ?_
        obtain rfl := Option.some.inj H
        refine bodyPost_ret (results_1 rfl (one_tmp rfl)) rfl ?_
        exact ⟨rfl, HS2.toE⟩

end Go.Proofs.YtlmfgibfknjjpaaGreatDoor
namespace Go.Proofs.YtlmfgibfknjjpaaGreatDoor
open Go.RowKit Go.M
def verify_span.f (a0 : Int) (a1 : Int) : Option (api_Abs) := some (⟨1, a0, a1⟩ : api_Abs)
set_option maxRecDepth 20000 in
set_option maxHeartbeats 4000000 in
theorem verify_span.calls (a0 : Int) (a1 : Int)  {h0 : View} {w0 : World} (hv : Sees h0 w0) {r : api_Abs} (H : verify_span.f a0 a1 = some r) : Calls Tryz.prog 30 #[Value.int .i64 a0, Value.int .i64 a1] w0 (fun e w1 => e = .returned (Value.agg #[Value.int .i64 r.vKind, Value.int .i64 r.vLo, Value.int .i64 r.vHi]) ∧ Ext w0 w1) := by
  unfold verify_span.f at H
  have HS : St [] h0 w0 h0 [] w0 := St.init hv
  go_enter Tryz.func30, Tryz.ntmps30
  refine wp_seq ?_
  refine region ?_
  refine run_ex rfl rfl (does_alloc (cs := #[Value.int .i64 0, Value.int .i64 0, Value.int .i64 0]) Tryz.zeroValue23 rfl) ?_
  rintro w1 _ hE1 ⟨b1, rfl, ge1, hb1⟩
  have HS1 := HS.new hE1 ge1 hb1
  try simp only [List.set_cons_zero, List.set_cons_succ]
  refine run_nil ?_
  refine norm_then ?_
  refine wp_seq ?_
  refine region ?_
  refine run_same (v := Value.int .i64 a0) rfl rfl (r_move rfl) ?_
  refine run_same (v := Value.int .i64 a1) rfl rfl (r_move rfl) ?_
  refine run_same (v := Value.agg #[Value.int .i64 1, Value.int .i64 a0, Value.int .i64 a1]) rfl rfl (r_build (cs := [Value.int .i64 1, Value.int .i64 a0, Value.int .i64 a1]) (ps := [(0, Value.int .i64 1), (1, Value.int .i64 a0), (2, Value.int .i64 a1)]) Tryz.zeroValue23 Tryz.runUnderlying23 (pl := #[(0, 1), (1, 1), (2, 1)]) (fun w => by simp [Tryz.sizeOf2, Tryz.sizeOf3]) (parts_3 (show _ = Value.int .i64 1 from rfl) (show _ = Value.int .i64 a0 from rfl) (show _ = Value.int .i64 a1 from rfl)) rfl) ?_
  refine run_st (i := 0) (cs := [Value.int .i64 0, Value.int .i64 0, Value.int .i64 0]) (cs' := [Value.int .i64 1, Value.int .i64 a0, Value.int .i64 a1]) (vs := [Value.int .i64 1, Value.int .i64 a0, Value.int .i64 a1]) (bs' := [(some b1, .cells #[Value.int .i64 1, Value.int .i64 a0, Value.int .i64 a1] 23 (0, 0))]) rfl rfl Tryz.sizeOf23 rfl rfl (by decide) rfl HS1 rfl (Nat.le_of_ble_eq_true rfl) rfl rfl ?_
  intro w2 HS2
  try simp only [List.set_cons_zero, List.set_cons_succ]
  refine run_nil ?_
  refine norm_then ?_
  refine wp_ret ?_
  obtain rfl := Option.some.inj H
  refine bodyPost_ret (results_1 rfl (one_agg rfl Tryz.isAgg23 (HS2.look 0 rfl) Tryz.sizeOf23 rfl)) rfl ?_
  exact ⟨rfl, HS2.toE⟩

end Go.Proofs.YtlmfgibfknjjpaaGreatDoor
namespace Go.Proofs.YtlmfgibfknjjpaaGreatDoor
open Go.RowKit Go.M
def verify_join.f (a0 : api_Abs) (a1 : api_Abs) : Option (api_Abs) := if ((a0.vKind != a1.vKind) || (a0.vKind == 0)) = true then (some (⟨0, 0, 0⟩ : api_Abs)) else (if (a0.vKind == 2) = true then (some (⟨2, 0, 0⟩ : api_Abs)) else ((verify_span.f (iMin a0.vLo a1.vLo) (iMax a0.vHi a1.vHi)).bind fun v1 => (some v1)))
set_option maxRecDepth 20000 in
set_option maxHeartbeats 4000000 in
theorem verify_join.calls (a0 : api_Abs) (a1 : api_Abs)  {h0 : View} {w0 : World} (hv : Sees h0 w0) (ht : Tab w0) {r : api_Abs} (H : verify_join.f a0 a1 = some r) : Calls Tryz.prog 18 #[Value.agg #[Value.int .i64 a0.vKind, Value.int .i64 a0.vLo, Value.int .i64 a0.vHi], Value.agg #[Value.int .i64 a1.vKind, Value.int .i64 a1.vLo, Value.int .i64 a1.vHi]] w0 (fun e w1 => e = .returned (Value.agg #[Value.int .i64 r.vKind, Value.int .i64 r.vLo, Value.int .i64 r.vHi]) ∧ Ext w0 w1) := by
  unfold verify_join.f at H
  have HS : St [] h0 w0 h0 [] w0 := St.init hv
  go_enter Tryz.func18, Tryz.ntmps18
  refine wp_seq ?_
  refine region ?_
  refine run_ex rfl rfl (does_box (cs := #[Value.int .i64 a0.vKind, Value.int .i64 a0.vLo, Value.int .i64 a0.vHi]) rfl rfl) ?_
  rintro w1 _ hE1 ⟨b1, rfl, ge1, hb1⟩
  have HS1 := HS.new hE1 ge1 hb1
  refine run_ex rfl rfl (does_box (cs := #[Value.int .i64 a1.vKind, Value.int .i64 a1.vLo, Value.int .i64 a1.vHi]) rfl rfl) ?_
  rintro w2 _ hE2 ⟨b2, rfl, ge2, hb2⟩
  have HS2 := HS1.new hE2 ge2 hb2
  refine run_ex rfl rfl (does_alloc (cs := #[Value.int .i64 0, Value.int .i64 0, Value.int .i64 0]) Tryz.zeroValue23 rfl) ?_
  rintro w3 _ hE3 ⟨b3, rfl, ge3, hb3⟩
  have HS3 := HS2.new hE3 ge3 hb3
  try simp only [List.set_cons_zero, List.set_cons_succ]
  refine run_nil ?_
  refine norm_then ?_
  refine wp_seq ?_
  refine wp_block ?_
  refine wp_seq ?_
  refine region ?_
  refine run_same (v := Value.pointer (some ⟨b1, 0, none⟩)) rfl rfl (r_fieldBox (n := 1) (o' := 0) rfl Tryz.runUnderlying23 rfl Tryz.sizeOf3 (by decide) rfl) ?_
  refine run_same (v := Value.int .i64 a0.vKind) rfl rfl (r_loadBox rfl Tryz.isAgg3 (HS3.look 2 rfl) rfl) ?_
  refine run_same (v := Value.pointer (some ⟨b2, 0, none⟩)) rfl rfl (r_fieldBox (n := 1) (o' := 0) rfl Tryz.runUnderlying23 rfl Tryz.sizeOf3 (by decide) rfl) ?_
  refine run_same (v := Value.int .i64 a1.vKind) rfl rfl (r_loadBox rfl Tryz.isAgg3 (HS3.look 1 rfl) rfl) ?_
  refine run_frame (by simp only [List.set_cons_zero, List.set_cons_succ]; rfl) ?_
  refine run_same (v := Value.bool (a0.vKind != a1.vKind)) rfl rfl (r_bin rfl rfl rfl) ?_
  refine run_same (v := Value.bool (a0.vKind != a1.vKind)) rfl rfl (r_move rfl) ?_
  refine run_g_same (b := (a0.vKind != a1.vKind)) (c := true) (v := Value.pointer (some ⟨b1, 0, none⟩)) rfl rfl rfl rfl (fun hg => (r_fieldBox (n := 1) (o' := 0) rfl Tryz.runUnderlying23 rfl Tryz.sizeOf3 (by decide) rfl)) ?_
  refine run_g_same (b := (a0.vKind != a1.vKind)) (c := true) (v := Value.int .i64 a0.vKind) rfl rfl rfl rfl (fun hg => (r_loadBox ((show _ = gv (true && ((a0.vKind != a1.vKind) == false)) (Value.pointer (some ⟨b1, 0, none⟩)) from rfl).trans (gv_t hg)) Tryz.isAgg3 (HS3.look 2 rfl) rfl)) ?_
  refine run_frame (by simp only [List.set_cons_zero, List.set_cons_succ]; rfl) ?_
  refine run_g_same (b := (a0.vKind != a1.vKind)) (c := true) (v := Value.bool (a0.vKind == 0)) rfl rfl rfl rfl (fun hg => (r_bin ((show _ = gv (true && ((a0.vKind != a1.vKind) == false)) (Value.int .i64 a0.vKind) from rfl).trans (gv_t hg)) rfl rfl)) ?_
  refine run_same (v := Value.bool ((a0.vKind != a1.vKind) || (a0.vKind == 0))) rfl rfl (r_pick_or rfl rfl (fun hp => ((show _ = gv (true && ((a0.vKind != a1.vKind) == false)) (Value.bool (a0.vKind == 0)) from rfl).trans (gv_t (and_i rfl hp))))) ?_
  refine run_same (v := Value.bool ((a0.vKind != a1.vKind) || (a0.vKind == 0))) rfl rfl (r_assign rfl) ?_
  try simp only [List.set_cons_zero, List.set_cons_succ]
  refine run_nil ?_
  refine norm_then ?_
  refine wp_cond_split (t := ((a0.vKind != a1.vKind) || (a0.vKind == 0))) rfl (fun c1 => ?_) (fun c1 => ?_)
  · replace H := of_pos H c1
    refine wp_seq ?_
    refine region ?_
    refine run_same (v := Value.agg #[Value.int .i64 0, Value.int .i64 0, Value.int .i64 0]) rfl rfl (r_build0 (cs := [Value.int .i64 0, Value.int .i64 0, Value.int .i64 0]) Tryz.zeroValue23 Tryz.runUnderlying23 (pl := #[(0, 1), (1, 1), (2, 1)]) (fun w => by simp [Tryz.sizeOf2, Tryz.sizeOf3]) rfl) ?_
    refine run_st (i := 0) (cs := [Value.int .i64 0, Value.int .i64 0, Value.int .i64 0]) (cs' := [Value.int .i64 0, Value.int .i64 0, Value.int .i64 0]) (vs := [Value.int .i64 0, Value.int .i64 0, Value.int .i64 0]) (bs' := [(some b3, .cells #[Value.int .i64 0, Value.int .i64 0, Value.int .i64 0] 23 (0, 0)), (some b2, .cells #[Value.int .i64 a1.vKind, Value.int .i64 a1.vLo, Value.int .i64 a1.vHi] 23 (0, 0)), (some b1, .cells #[Value.int .i64 a0.vKind, Value.int .i64 a0.vLo, Value.int .i64 a0.vHi] 23 (0, 0))]) rfl rfl Tryz.sizeOf23 rfl rfl (by decide) rfl HS3 rfl (Nat.le_of_ble_eq_true rfl) rfl rfl ?_
    intro w4 HS4
    try simp only [List.set_cons_zero, List.set_cons_succ]
    refine run_nil ?_
    refine norm_then ?_
    refine wp_ret ?_
    refine ret_block ?_
    refine ret_then ?_
    obtain rfl := Option.some.inj H
    refine bodyPost_ret (results_1 rfl (one_agg rfl Tryz.isAgg23 (HS4.look 0 rfl) Tryz.sizeOf23 rfl)) rfl ?_
    exact ⟨rfl, HS4.toE⟩
  · replace H := of_neg H (nt c1)
    refine wp_seq ?_
    refine region ?_
    refine run_same (v := Value.pointer (some ⟨b1, 0, none⟩)) rfl rfl (r_fieldBox (n := 1) (o' := 0) rfl Tryz.runUnderlying23 rfl Tryz.sizeOf3 (by decide) rfl) ?_
    refine run_same (v := Value.int .i64 a0.vKind) rfl rfl (r_loadBox rfl Tryz.isAgg3 (HS3.look 2 rfl) rfl) ?_
    refine run_same (v := Value.bool (a0.vKind == 2)) rfl rfl (r_bin rfl rfl rfl) ?_
    refine run_same (v := Value.bool (a0.vKind == 2)) rfl rfl (r_assign rfl) ?_
    try simp only [List.set_cons_zero, List.set_cons_succ]
    refine run_nil ?_
    refine norm_then ?_
    refine wp_cond_split (t := (a0.vKind == 2)) rfl (fun c2 => ?_) (fun c2 => ?_)
    · replace H := of_pos H c2
      refine wp_seq ?_
      refine region ?_
      refine run_same (v := Value.agg #[Value.int .i64 2, Value.int .i64 0, Value.int .i64 0]) rfl rfl (r_glob0 (ht.s HS3) rfl) ?_
      refine run_st (i := 0) (cs := [Value.int .i64 0, Value.int .i64 0, Value.int .i64 0]) (cs' := [Value.int .i64 2, Value.int .i64 0, Value.int .i64 0]) (vs := [Value.int .i64 2, Value.int .i64 0, Value.int .i64 0]) (bs' := [(some b3, .cells #[Value.int .i64 2, Value.int .i64 0, Value.int .i64 0] 23 (0, 0)), (some b2, .cells #[Value.int .i64 a1.vKind, Value.int .i64 a1.vLo, Value.int .i64 a1.vHi] 23 (0, 0)), (some b1, .cells #[Value.int .i64 a0.vKind, Value.int .i64 a0.vLo, Value.int .i64 a0.vHi] 23 (0, 0))]) rfl rfl Tryz.sizeOf23 rfl rfl (by decide) rfl HS3 rfl (Nat.le_of_ble_eq_true rfl) rfl rfl ?_
      intro w5 HS5
      try simp only [List.set_cons_zero, List.set_cons_succ]
      refine run_nil ?_
      refine norm_then ?_
      refine wp_ret ?_
      refine ret_block ?_
      refine ret_then ?_
      obtain rfl := Option.some.inj H
      refine bodyPost_ret (results_1 rfl (one_agg rfl Tryz.isAgg23 (HS5.look 0 rfl) Tryz.sizeOf23 rfl)) rfl ?_
      exact ⟨rfl, HS5.toE⟩
    · replace H := of_neg H (nt c2)
      refine wp_skip ?_
      refine norm_block ?_
      refine norm_then ?_
      refine wp_seq ?_
      refine region ?_
      refine run_same (v := Value.pointer (some ⟨b1, 1, none⟩)) rfl rfl (r_fieldBox (n := 1) (o' := 1) rfl Tryz.runUnderlying23 rfl Tryz.sizeOf2 (by decide) rfl) ?_
      refine run_same (v := Value.int .i64 a0.vLo) rfl rfl (r_loadBox rfl Tryz.isAgg2 (HS3.look 2 rfl) rfl) ?_
      refine run_same (v := Value.pointer (some ⟨b2, 1, none⟩)) rfl rfl (r_fieldBox (n := 1) (o' := 1) rfl Tryz.runUnderlying23 rfl Tryz.sizeOf2 (by decide) rfl) ?_
      refine run_same (v := Value.int .i64 a1.vLo) rfl rfl (r_loadBox rfl Tryz.isAgg2 (HS3.look 1 rfl) rfl) ?_
      refine run_frame (by simp only [List.set_cons_zero, List.set_cons_succ]; rfl) ?_
      refine run_same (v := Value.int .i64 (iMin a0.vLo a1.vLo)) rfl rfl (r_min rfl rfl) ?_
      refine run_same (v := Value.pointer (some ⟨b1, 2, none⟩)) rfl rfl (r_fieldBox (n := 1) (o' := 2) rfl Tryz.runUnderlying23 rfl Tryz.sizeOf2 (by decide) rfl) ?_
      refine run_same (v := Value.int .i64 a0.vHi) rfl rfl (r_loadBox rfl Tryz.isAgg2 (HS3.look 2 rfl) rfl) ?_
      refine run_same (v := Value.pointer (some ⟨b2, 2, none⟩)) rfl rfl (r_fieldBox (n := 1) (o' := 2) rfl Tryz.runUnderlying23 rfl Tryz.sizeOf2 (by decide) rfl) ?_
      refine run_frame (by simp only [List.set_cons_zero, List.set_cons_succ]; rfl) ?_
      refine run_same (v := Value.int .i64 a1.vHi) rfl rfl (r_loadBox rfl Tryz.isAgg2 (HS3.look 1 rfl) rfl) ?_
      refine run_same (v := Value.int .i64 (iMax a0.vHi a1.vHi)) rfl rfl (r_max rfl rfl) ?_
      obtain ⟨v1, H1, H⟩ := of_bind H
      refine run_eq (v := Value.agg #[Value.int .i64 v1.vKind, Value.int .i64 v1.vLo, Value.int .i64 v1.vHi]) rfl rfl (does_call_eq Tryz.call30 rfl rfl (verify_span.calls (iMin a0.vLo a1.vLo) (iMax a0.vHi a1.vHi) HS3.sees H1)) ?_
      intro w6 hE4
      have HS6 := HS3.step hE4
      refine run_st (i := 0) (cs := [Value.int .i64 0, Value.int .i64 0, Value.int .i64 0]) (cs' := [Value.int .i64 v1.vKind, Value.int .i64 v1.vLo, Value.int .i64 v1.vHi]) (vs := [Value.int .i64 v1.vKind, Value.int .i64 v1.vLo, Value.int .i64 v1.vHi]) (bs' := [(some b3, .cells #[Value.int .i64 v1.vKind, Value.int .i64 v1.vLo, Value.int .i64 v1.vHi] 23 (0, 0)), (some b2, .cells #[Value.int .i64 a1.vKind, Value.int .i64 a1.vLo, Value.int .i64 a1.vHi] 23 (0, 0)), (some b1, .cells #[Value.int .i64 a0.vKind, Value.int .i64 a0.vLo, Value.int .i64 a0.vHi] 23 (0, 0))]) rfl rfl Tryz.sizeOf23 rfl rfl (by decide) rfl HS6 rfl (Nat.le_of_ble_eq_true rfl) rfl rfl ?_
      intro w7 HS7
      try simp only [List.set_cons_zero, List.set_cons_succ]
      refine run_nil ?_
      refine norm_then ?_
      refine wp_ret ?_
      obtain rfl := Option.some.inj H
      refine bodyPost_ret (results_1 rfl (one_agg rfl Tryz.isAgg23 (HS7.look 0 rfl) Tryz.sizeOf23 rfl)) rfl ?_
      exact ⟨rfl, HS7.toE⟩

end Go.Proofs.YtlmfgibfknjjpaaGreatDoor
namespace Go.Proofs.YtlmfgibfknjjpaaGreatDoor
open Go.RowKit Go.M
def verify_Join.f (a0 : api_Abs) (a1 : api_Abs) : Option (api_Abs) := (verify_right.f a0).bind fun v1 => ((if (true && ((!v1) == false)) = true then verify_right.f a1 else some false).bind fun v2 => (if ((!v1) || (!v2)) = true then (some (⟨0, 0, 0⟩ : api_Abs)) else ((verify_join.f a0 a1).bind fun v3 => (some v3))))
set_option maxRecDepth 20000 in
set_option maxHeartbeats 4000000 in
theorem verify_Join.calls (a0 : api_Abs) (a1 : api_Abs)  {h0 : View} {w0 : World} (hv : Sees h0 w0) (ht : Tab w0) {r : api_Abs} (H : verify_Join.f a0 a1 = some r) : Calls Tryz.prog 6 #[Value.agg #[Value.int .i64 a0.vKind, Value.int .i64 a0.vLo, Value.int .i64 a0.vHi], Value.agg #[Value.int .i64 a1.vKind, Value.int .i64 a1.vLo, Value.int .i64 a1.vHi]] w0 (fun e w1 => e = .returned (Value.agg #[Value.int .i64 r.vKind, Value.int .i64 r.vLo, Value.int .i64 r.vHi]) ∧ Ext w0 w1) := by
  unfold verify_Join.f at H
  have HS : St [] h0 w0 h0 [] w0 := St.init hv
  go_enter Tryz.func6, Tryz.ntmps6
  refine wp_seq ?_
  refine region ?_
  refine run_ex rfl rfl (does_box (cs := #[Value.int .i64 a0.vKind, Value.int .i64 a0.vLo, Value.int .i64 a0.vHi]) rfl rfl) ?_
  rintro w1 _ hE1 ⟨b1, rfl, ge1, hb1⟩
  have HS1 := HS.new hE1 ge1 hb1
  refine run_ex rfl rfl (does_box (cs := #[Value.int .i64 a1.vKind, Value.int .i64 a1.vLo, Value.int .i64 a1.vHi]) rfl rfl) ?_
  rintro w2 _ hE2 ⟨b2, rfl, ge2, hb2⟩
  have HS2 := HS1.new hE2 ge2 hb2
  refine run_ex rfl rfl (does_alloc (cs := #[Value.int .i64 0, Value.int .i64 0, Value.int .i64 0]) Tryz.zeroValue23 rfl) ?_
  rintro w3 _ hE3 ⟨b3, rfl, ge3, hb3⟩
  have HS3 := HS2.new hE3 ge3 hb3
  try simp only [List.set_cons_zero, List.set_cons_succ]
  refine run_nil ?_
  refine norm_then ?_
  refine wp_seq ?_
  refine wp_seq ?_
  refine region ?_
  refine run_same (v := Value.agg #[Value.int .i64 a0.vKind, Value.int .i64 a0.vLo, Value.int .i64 a0.vHi]) rfl rfl (r_loadBoxAgg (n := 3) (vs := [Value.int .i64 a0.vKind, Value.int .i64 a0.vLo, Value.int .i64 a0.vHi]) rfl Tryz.isAgg23 (HS3.look 2 rfl) Tryz.sizeOf23 rfl rfl) ?_
  obtain ⟨v1, H1, H⟩ := of_bind H
  refine run_eq (v := Value.bool v1) rfl rfl (does_call_eq Tryz.call17 rfl rfl (verify_right.calls a0 HS3.sees H1)) ?_
  intro w4 hE4
  have HS4 := HS3.step hE4
  refine run_same (v := Value.bool (!v1)) rfl rfl (r_not rfl) ?_
  refine run_same (v := Value.bool (!v1)) rfl rfl (r_move rfl) ?_
  refine run_frame (by simp only [List.set_cons_zero, List.set_cons_succ]; rfl) ?_
  refine run_g_same (b := (!v1)) (c := true) (v := Value.agg #[Value.int .i64 a1.vKind, Value.int .i64 a1.vLo, Value.int .i64 a1.vHi]) rfl rfl rfl rfl (fun hg => (r_loadBoxAgg (n := 3) (vs := [Value.int .i64 a1.vKind, Value.int .i64 a1.vLo, Value.int .i64 a1.vHi]) rfl Tryz.isAgg23 (HS4.look 1 rfl) Tryz.sizeOf23 rfl rfl)) ?_
  obtain ⟨v2, H2, H⟩ := of_bind H
  refine run_g (b := (!v1)) (c := true) (v := Value.bool v2) rfl rfl rfl rfl (fun hg => (does_call_eq Tryz.call17 rfl (map1 ((show _ = gv (true && ((!v1) == false)) (Value.agg #[Value.int .i64 a1.vKind, Value.int .i64 a1.vLo, Value.int .i64 a1.vHi]) from rfl).trans (gv_t hg))) (verify_right.calls a1 HS4.sees (of_pos H2 hg)))) ?_
  intro w5 hE5
  have HS5 := HS4.step hE5
  refine run_g_same (b := (!v1)) (c := true) (v := Value.bool (!v2)) rfl rfl rfl rfl (fun hg => (r_not ((show _ = gv (true && ((!v1) == false)) (Value.bool v2) from rfl).trans (gv_t hg)))) ?_
  refine run_same (v := Value.bool ((!v1) || (!v2))) rfl rfl (r_pick_or rfl rfl (fun hp => ((show _ = gv (true && ((!v1) == false)) (Value.bool (!v2)) from rfl).trans (gv_t (and_i rfl hp))))) ?_
  try simp only [List.set_cons_zero, List.set_cons_succ]
  refine run_nil ?_
  refine norm_then ?_
  refine wp_cond_split (t := ((!v1) || (!v2))) rfl (fun c1 => ?_) (fun c1 => ?_)
  · replace H := of_pos H c1
    refine wp_seq ?_
    refine region ?_
    refine run_same (v := Value.agg #[Value.int .i64 0, Value.int .i64 0, Value.int .i64 0]) rfl rfl (r_build0 (cs := [Value.int .i64 0, Value.int .i64 0, Value.int .i64 0]) Tryz.zeroValue23 Tryz.runUnderlying23 (pl := #[(0, 1), (1, 1), (2, 1)]) (fun w => by simp [Tryz.sizeOf2, Tryz.sizeOf3]) rfl) ?_
    refine run_st (i := 0) (cs := [Value.int .i64 0, Value.int .i64 0, Value.int .i64 0]) (cs' := [Value.int .i64 0, Value.int .i64 0, Value.int .i64 0]) (vs := [Value.int .i64 0, Value.int .i64 0, Value.int .i64 0]) (bs' := [(some b3, .cells #[Value.int .i64 0, Value.int .i64 0, Value.int .i64 0] 23 (0, 0)), (some b2, .cells #[Value.int .i64 a1.vKind, Value.int .i64 a1.vLo, Value.int .i64 a1.vHi] 23 (0, 0)), (some b1, .cells #[Value.int .i64 a0.vKind, Value.int .i64 a0.vLo, Value.int .i64 a0.vHi] 23 (0, 0))]) rfl rfl Tryz.sizeOf23 rfl rfl (by decide) rfl HS5 rfl (Nat.le_of_ble_eq_true rfl) rfl rfl ?_
    intro w6 HS6
    try simp only [List.set_cons_zero, List.set_cons_succ]
    refine run_nil ?_
    refine norm_then ?_
    refine wp_ret ?_
    refine ret_then ?_
    obtain rfl := Option.some.inj H
    refine bodyPost_ret (results_1 rfl (one_agg rfl Tryz.isAgg23 (HS6.look 0 rfl) Tryz.sizeOf23 rfl)) rfl ?_
    exact ⟨rfl, HS6.toE⟩
  · replace H := of_neg H (nt c1)
    refine wp_skip ?_
    refine norm_then ?_
    refine wp_seq ?_
    refine region ?_
    refine run_same (v := Value.agg #[Value.int .i64 a0.vKind, Value.int .i64 a0.vLo, Value.int .i64 a0.vHi]) rfl rfl (r_loadBoxAgg (n := 3) (vs := [Value.int .i64 a0.vKind, Value.int .i64 a0.vLo, Value.int .i64 a0.vHi]) rfl Tryz.isAgg23 (HS5.look 2 rfl) Tryz.sizeOf23 rfl rfl) ?_
    refine run_same (v := Value.agg #[Value.int .i64 a1.vKind, Value.int .i64 a1.vLo, Value.int .i64 a1.vHi]) rfl rfl (r_loadBoxAgg (n := 3) (vs := [Value.int .i64 a1.vKind, Value.int .i64 a1.vLo, Value.int .i64 a1.vHi]) rfl Tryz.isAgg23 (HS5.look 1 rfl) Tryz.sizeOf23 rfl rfl) ?_
    obtain ⟨v3, H3, H⟩ := of_bind H
    refine run_eq (v := Value.agg #[Value.int .i64 v3.vKind, Value.int .i64 v3.vLo, Value.int .i64 v3.vHi]) rfl rfl (does_call_eq Tryz.call18 rfl rfl (verify_join.calls a0 a1 HS5.sees (ht.s HS5) H3)) ?_
    intro w7 hE6
    have HS7 := HS5.step hE6
    refine run_st (i := 0) (cs := [Value.int .i64 0, Value.int .i64 0, Value.int .i64 0]) (cs' := [Value.int .i64 v3.vKind, Value.int .i64 v3.vLo, Value.int .i64 v3.vHi]) (vs := [Value.int .i64 v3.vKind, Value.int .i64 v3.vLo, Value.int .i64 v3.vHi]) (bs' := [(some b3, .cells #[Value.int .i64 v3.vKind, Value.int .i64 v3.vLo, Value.int .i64 v3.vHi] 23 (0, 0)), (some b2, .cells #[Value.int .i64 a1.vKind, Value.int .i64 a1.vLo, Value.int .i64 a1.vHi] 23 (0, 0)), (some b1, .cells #[Value.int .i64 a0.vKind, Value.int .i64 a0.vLo, Value.int .i64 a0.vHi] 23 (0, 0))]) rfl rfl Tryz.sizeOf23 rfl rfl (by decide) rfl HS7 rfl (Nat.le_of_ble_eq_true rfl) rfl rfl ?_
    intro w8 HS8
    try simp only [List.set_cons_zero, List.set_cons_succ]
    refine run_nil ?_
    refine norm_then ?_
    refine wp_ret ?_
    obtain rfl := Option.some.inj H
    refine bodyPost_ret (results_1 rfl (one_agg rfl Tryz.isAgg23 (HS8.look 0 rfl) Tryz.sizeOf23 rfl)) rfl ?_
    exact ⟨rfl, HS8.toE⟩

end Go.Proofs.YtlmfgibfknjjpaaGreatDoor
namespace Go.Proofs.YtlmfgibfknjjpaaGreatDoor
open Go.RowKit Go.M
def taplineref18_Valid.f (a0 : api_Abs) : Option (Bool) := if (a0.vKind == 1) = true then (some (decide (a0.vLo ≤ a0.vHi))) else (some ((((a0.vKind == 0) || (a0.vKind == 2)) && (a0.vLo == 0)) && (a0.vHi == 0)))
set_option maxRecDepth 20000 in
set_option maxHeartbeats 4000000 in
theorem taplineref18_Valid.calls (a0 : api_Abs)  {h0 : View} {w0 : World} (hv : Sees h0 w0) {r : Bool} (H : taplineref18_Valid.f a0 = some r) : Calls Tryz.prog 19 #[Value.agg #[Value.int .i64 a0.vKind, Value.int .i64 a0.vLo, Value.int .i64 a0.vHi]] w0 (fun e w1 => e = .returned (Value.bool r) ∧ Ext w0 w1) := by
  unfold taplineref18_Valid.f at H
  have HS : St [] h0 w0 h0 [] w0 := St.init hv
  go_enter Tryz.func19, Tryz.ntmps19
  refine wp_seq ?_
  refine region ?_
  refine run_ex rfl rfl (does_box (cs := #[Value.int .i64 a0.vKind, Value.int .i64 a0.vLo, Value.int .i64 a0.vHi]) rfl rfl) ?_
  rintro w1 _ hE1 ⟨b1, rfl, ge1, hb1⟩
  have HS1 := HS.new hE1 ge1 hb1
  refine run_same (v := Value.bool false) rfl rfl (r_assign rfl) ?_
  try simp only [List.set_cons_zero, List.set_cons_succ]
  refine run_nil ?_
  refine norm_then ?_
  refine wp_seq ?_
  refine wp_seq ?_
  refine region ?_
  refine run_same (v := Value.pointer (some ⟨b1, 0, none⟩)) rfl rfl (r_fieldBox (n := 1) (o' := 0) rfl Tryz.runUnderlying23 rfl Tryz.sizeOf3 (by decide) rfl) ?_
  refine run_same (v := Value.int .i64 a0.vKind) rfl rfl (r_loadBox rfl Tryz.isAgg3 (HS1.look 0 rfl) rfl) ?_
  refine run_same (v := Value.bool (a0.vKind == 1)) rfl rfl (r_bin rfl rfl rfl) ?_
  try simp only [List.set_cons_zero, List.set_cons_succ]
  refine run_nil ?_
  refine norm_then ?_
  refine wp_cond_split (t := (a0.vKind == 1)) rfl (fun c1 => ?_) (fun c1 => ?_)
  · replace H := of_pos H c1
    refine wp_seq ?_
    refine region ?_
    refine run_same (v := Value.pointer (some ⟨b1, 1, none⟩)) rfl rfl (r_fieldBox (n := 1) (o' := 1) rfl Tryz.runUnderlying23 rfl Tryz.sizeOf2 (by decide) rfl) ?_
    refine run_same (v := Value.int .i64 a0.vLo) rfl rfl (r_loadBox rfl Tryz.isAgg2 (HS1.look 0 rfl) rfl) ?_
    refine run_same (v := Value.pointer (some ⟨b1, 2, none⟩)) rfl rfl (r_fieldBox (n := 1) (o' := 2) rfl Tryz.runUnderlying23 rfl Tryz.sizeOf2 (by decide) rfl) ?_
    refine run_same (v := Value.int .i64 a0.vHi) rfl rfl (r_loadBox rfl Tryz.isAgg2 (HS1.look 0 rfl) rfl) ?_
    refine run_frame (by simp only [List.set_cons_zero, List.set_cons_succ]; rfl) ?_
    refine run_same (v := Value.bool (decide (a0.vLo ≤ a0.vHi))) rfl rfl (r_bin rfl rfl rfl) ?_
    refine run_same (v := Value.bool (decide (a0.vLo ≤ a0.vHi))) rfl rfl (r_assign rfl) ?_
    try simp only [List.set_cons_zero, List.set_cons_succ]
    refine run_nil ?_
    refine norm_then ?_
    refine wp_ret ?_
    refine ret_then ?_
    obtain rfl := Option.some.inj H
    refine bodyPost_ret (results_1 rfl (one_tmp rfl)) rfl ?_
    exact ⟨rfl, HS1.toE⟩
  · replace H := of_neg H (nt c1)
    refine wp_skip ?_
    refine norm_then ?_
    refine wp_seq ?_
    refine region ?_
    refine run_same (v := Value.pointer (some ⟨b1, 0, none⟩)) rfl rfl (r_fieldBox (n := 1) (o' := 0) rfl Tryz.runUnderlying23 rfl Tryz.sizeOf3 (by decide) rfl) ?_
    refine run_same (v := Value.int .i64 a0.vKind) rfl rfl (r_loadBox rfl Tryz.isAgg3 (HS1.look 0 rfl) rfl) ?_
    refine run_same (v := Value.bool (a0.vKind == 0)) rfl rfl (r_bin rfl rfl rfl) ?_
    refine run_same (v := Value.bool (a0.vKind == 0)) rfl rfl (r_move rfl) ?_
    refine run_frame (by simp only [List.set_cons_zero, List.set_cons_succ]; rfl) ?_
    refine run_g_same (b := (a0.vKind == 0)) (c := true) (v := Value.pointer (some ⟨b1, 0, none⟩)) rfl rfl rfl rfl (fun hg => (r_fieldBox (n := 1) (o' := 0) rfl Tryz.runUnderlying23 rfl Tryz.sizeOf3 (by decide) rfl)) ?_
    refine run_g_same (b := (a0.vKind == 0)) (c := true) (v := Value.int .i64 a0.vKind) rfl rfl rfl rfl (fun hg => (r_loadBox ((show _ = gv (true && ((a0.vKind == 0) == false)) (Value.pointer (some ⟨b1, 0, none⟩)) from rfl).trans (gv_t hg)) Tryz.isAgg3 (HS1.look 0 rfl) rfl)) ?_
    refine run_g_same (b := (a0.vKind == 0)) (c := true) (v := Value.bool (a0.vKind == 2)) rfl rfl rfl rfl (fun hg => (r_bin ((show _ = gv (true && ((a0.vKind == 0) == false)) (Value.int .i64 a0.vKind) from rfl).trans (gv_t hg)) rfl rfl)) ?_
    refine run_same (v := Value.bool ((a0.vKind == 0) || (a0.vKind == 2))) rfl rfl (r_pick_or rfl rfl (fun hp => ((show _ = gv (true && ((a0.vKind == 0) == false)) (Value.bool (a0.vKind == 2)) from rfl).trans (gv_t (and_i rfl hp))))) ?_
    refine run_frame (by simp only [List.set_cons_zero, List.set_cons_succ]; rfl) ?_
    refine run_same (v := Value.bool ((a0.vKind == 0) || (a0.vKind == 2))) rfl rfl (r_move rfl) ?_
    refine run_g_same (b := ((a0.vKind == 0) || (a0.vKind == 2))) (c := true) (v := Value.pointer (some ⟨b1, 1, none⟩)) rfl rfl rfl rfl (fun hg => (r_fieldBox (n := 1) (o' := 1) rfl Tryz.runUnderlying23 rfl Tryz.sizeOf2 (by decide) rfl)) ?_
    refine run_g_same (b := ((a0.vKind == 0) || (a0.vKind == 2))) (c := true) (v := Value.int .i64 a0.vLo) rfl rfl rfl rfl (fun hg => (r_loadBox ((show _ = gv (true && (((a0.vKind == 0) || (a0.vKind == 2)) == true)) (Value.pointer (some ⟨b1, 1, none⟩)) from rfl).trans (gv_t hg)) Tryz.isAgg2 (HS1.look 0 rfl) rfl)) ?_
    refine run_g_same (b := ((a0.vKind == 0) || (a0.vKind == 2))) (c := true) (v := Value.bool (a0.vLo == 0)) rfl rfl rfl rfl (fun hg => (r_bin ((show _ = gv (true && (((a0.vKind == 0) || (a0.vKind == 2)) == true)) (Value.int .i64 a0.vLo) from rfl).trans (gv_t hg)) rfl rfl)) ?_
    refine run_frame (by simp only [List.set_cons_zero, List.set_cons_succ]; rfl) ?_
    refine run_same (v := Value.bool (((a0.vKind == 0) || (a0.vKind == 2)) && (a0.vLo == 0))) rfl rfl (r_pick_and rfl (fun hp => ((show _ = gv (true && (((a0.vKind == 0) || (a0.vKind == 2)) == true)) (Value.bool (a0.vLo == 0)) from rfl).trans (gv_t (and_i rfl hp)))) rfl) ?_
    refine run_same (v := Value.bool (((a0.vKind == 0) || (a0.vKind == 2)) && (a0.vLo == 0))) rfl rfl (r_move rfl) ?_
    refine run_g_same (b := (((a0.vKind == 0) || (a0.vKind == 2)) && (a0.vLo == 0))) (c := true) (v := Value.pointer (some ⟨b1, 2, none⟩)) rfl rfl rfl rfl (fun hg => (r_fieldBox (n := 1) (o' := 2) rfl Tryz.runUnderlying23 rfl Tryz.sizeOf2 (by decide) rfl)) ?_
    refine run_g_same (b := (((a0.vKind == 0) || (a0.vKind == 2)) && (a0.vLo == 0))) (c := true) (v := Value.int .i64 a0.vHi) rfl rfl rfl rfl (fun hg => (r_loadBox ((show _ = gv (true && ((((a0.vKind == 0) || (a0.vKind == 2)) && (a0.vLo == 0)) == true)) (Value.pointer (some ⟨b1, 2, none⟩)) from rfl).trans (gv_t hg)) Tryz.isAgg2 (HS1.look 0 rfl) rfl)) ?_
    refine run_frame (by simp only [List.set_cons_zero, List.set_cons_succ]; rfl) ?_
    refine run_g_same (b := (((a0.vKind == 0) || (a0.vKind == 2)) && (a0.vLo == 0))) (c := true) (v := Value.bool (a0.vHi == 0)) rfl rfl rfl rfl (fun hg => (r_bin ((show _ = gv (true && ((((a0.vKind == 0) || (a0.vKind == 2)) && (a0.vLo == 0)) == true)) (Value.int .i64 a0.vHi) from rfl).trans (gv_t hg)) rfl rfl)) ?_
    refine run_same (v := Value.bool ((((a0.vKind == 0) || (a0.vKind == 2)) && (a0.vLo == 0)) && (a0.vHi == 0))) rfl rfl (r_pick_and rfl (fun hp => ((show _ = gv (true && ((((a0.vKind == 0) || (a0.vKind == 2)) && (a0.vLo == 0)) == true)) (Value.bool (a0.vHi == 0)) from rfl).trans (gv_t (and_i rfl hp)))) rfl) ?_
    refine run_same (v := Value.bool ((((a0.vKind == 0) || (a0.vKind == 2)) && (a0.vLo == 0)) && (a0.vHi == 0))) rfl rfl (r_assign rfl) ?_
    try simp only [List.set_cons_zero, List.set_cons_succ]
    refine run_nil ?_
    refine norm_then ?_
    refine wp_ret ?_
    obtain rfl := Option.some.inj H
    refine bodyPost_ret (results_1 rfl (one_tmp rfl)) rfl ?_
    exact ⟨rfl, HS1.toE⟩

end Go.Proofs.YtlmfgibfknjjpaaGreatDoor
namespace Go.Proofs.YtlmfgibfknjjpaaGreatDoor
open Go.RowKit Go.M
def taplineref18_from.f (a0 : Int) (a1 : Int) : Option (api_Abs) := some (⟨1, a0, a1⟩ : api_Abs)
set_option maxRecDepth 20000 in
set_option maxHeartbeats 4000000 in
theorem taplineref18_from.calls (a0 : Int) (a1 : Int)  {h0 : View} {w0 : World} (hv : Sees h0 w0) {r : api_Abs} (H : taplineref18_from.f a0 a1 = some r) : Calls Tryz.prog 20 #[Value.int .i64 a0, Value.int .i64 a1] w0 (fun e w1 => e = .returned (Value.agg #[Value.int .i64 r.vKind, Value.int .i64 r.vLo, Value.int .i64 r.vHi]) ∧ Ext w0 w1) := by
  unfold taplineref18_from.f at H
  have HS : St [] h0 w0 h0 [] w0 := St.init hv
  go_enter Tryz.func20, Tryz.ntmps20
  refine wp_seq ?_
  refine region ?_
  refine run_ex rfl rfl (does_alloc (cs := #[Value.int .i64 0, Value.int .i64 0, Value.int .i64 0]) Tryz.zeroValue23 rfl) ?_
  rintro w1 _ hE1 ⟨b1, rfl, ge1, hb1⟩
  have HS1 := HS.new hE1 ge1 hb1
  try simp only [List.set_cons_zero, List.set_cons_succ]
  refine run_nil ?_
  refine norm_then ?_
  refine wp_seq ?_
  refine region ?_
  refine run_same (v := Value.int .i64 a0) rfl rfl (r_move rfl) ?_
  refine run_same (v := Value.int .i64 a1) rfl rfl (r_move rfl) ?_
  refine run_same (v := Value.agg #[Value.int .i64 1, Value.int .i64 a0, Value.int .i64 a1]) rfl rfl (r_build (cs := [Value.int .i64 1, Value.int .i64 a0, Value.int .i64 a1]) (ps := [(0, Value.int .i64 1), (1, Value.int .i64 a0), (2, Value.int .i64 a1)]) Tryz.zeroValue23 Tryz.runUnderlying23 (pl := #[(0, 1), (1, 1), (2, 1)]) (fun w => by simp [Tryz.sizeOf2, Tryz.sizeOf3]) (parts_3 (show _ = Value.int .i64 1 from rfl) (show _ = Value.int .i64 a0 from rfl) (show _ = Value.int .i64 a1 from rfl)) rfl) ?_
  refine run_st (i := 0) (cs := [Value.int .i64 0, Value.int .i64 0, Value.int .i64 0]) (cs' := [Value.int .i64 1, Value.int .i64 a0, Value.int .i64 a1]) (vs := [Value.int .i64 1, Value.int .i64 a0, Value.int .i64 a1]) (bs' := [(some b1, .cells #[Value.int .i64 1, Value.int .i64 a0, Value.int .i64 a1] 23 (0, 0))]) rfl rfl Tryz.sizeOf23 rfl rfl (by decide) rfl HS1 rfl (Nat.le_of_ble_eq_true rfl) rfl rfl ?_
  intro w2 HS2
  try simp only [List.set_cons_zero, List.set_cons_succ]
  refine run_nil ?_
  refine norm_then ?_
  refine wp_ret ?_
  obtain rfl := Option.some.inj H
  refine bodyPost_ret (results_1 rfl (one_agg rfl Tryz.isAgg23 (HS2.look 0 rfl) Tryz.sizeOf23 rfl)) rfl ?_
  exact ⟨rfl, HS2.toE⟩

end Go.Proofs.YtlmfgibfknjjpaaGreatDoor
namespace Go.Proofs.YtlmfgibfknjjpaaGreatDoor
open Go.RowKit Go.M
def taplineref18_Join.f (a0 : api_Abs) (a1 : api_Abs) : Option (api_Abs) := (taplineref18_Valid.f a0).bind fun v1 => ((if (true && ((!v1) == false)) = true then taplineref18_Valid.f a1 else some false).bind fun v2 => (if (((!v1) || (!v2)) || (a0.vKind != a1.vKind)) = true then (some (⟨0, 0, 0⟩ : api_Abs)) else (if (a0.vKind == 1) = true then ((taplineref18_from.f (iMin a0.vLo a1.vLo) (iMax a0.vHi a1.vHi)).bind fun v3 => (some v3)) else (some a0))))
set_option maxRecDepth 20000 in
set_option maxHeartbeats 4000000 in
theorem taplineref18_Join.calls (a0 : api_Abs) (a1 : api_Abs)  {h0 : View} {w0 : World} (hv : Sees h0 w0) {r : api_Abs} (H : taplineref18_Join.f a0 a1 = some r) : Calls Tryz.prog 7 #[Value.agg #[Value.int .i64 a0.vKind, Value.int .i64 a0.vLo, Value.int .i64 a0.vHi], Value.agg #[Value.int .i64 a1.vKind, Value.int .i64 a1.vLo, Value.int .i64 a1.vHi]] w0 (fun e w1 => e = .returned (Value.agg #[Value.int .i64 r.vKind, Value.int .i64 r.vLo, Value.int .i64 r.vHi]) ∧ Ext w0 w1) := by
  unfold taplineref18_Join.f at H
  have HS : St [] h0 w0 h0 [] w0 := St.init hv
  go_enter Tryz.func7, Tryz.ntmps7
  refine wp_seq ?_
  refine region ?_
  refine run_ex rfl rfl (does_box (cs := #[Value.int .i64 a0.vKind, Value.int .i64 a0.vLo, Value.int .i64 a0.vHi]) rfl rfl) ?_
  rintro w1 _ hE1 ⟨b1, rfl, ge1, hb1⟩
  have HS1 := HS.new hE1 ge1 hb1
  refine run_ex rfl rfl (does_box (cs := #[Value.int .i64 a1.vKind, Value.int .i64 a1.vLo, Value.int .i64 a1.vHi]) rfl rfl) ?_
  rintro w2 _ hE2 ⟨b2, rfl, ge2, hb2⟩
  have HS2 := HS1.new hE2 ge2 hb2
  refine run_ex rfl rfl (does_alloc (cs := #[Value.int .i64 0, Value.int .i64 0, Value.int .i64 0]) Tryz.zeroValue23 rfl) ?_
  rintro w3 _ hE3 ⟨b3, rfl, ge3, hb3⟩
  have HS3 := HS2.new hE3 ge3 hb3
  try simp only [List.set_cons_zero, List.set_cons_succ]
  refine run_nil ?_
  refine norm_then ?_
  refine wp_seq ?_
  refine wp_seq ?_
  refine region ?_
  refine run_same (v := Value.agg #[Value.int .i64 a0.vKind, Value.int .i64 a0.vLo, Value.int .i64 a0.vHi]) rfl rfl (r_loadBoxAgg (n := 3) (vs := [Value.int .i64 a0.vKind, Value.int .i64 a0.vLo, Value.int .i64 a0.vHi]) rfl Tryz.isAgg23 (HS3.look 2 rfl) Tryz.sizeOf23 rfl rfl) ?_
  obtain ⟨v1, H1, H⟩ := of_bind H
  refine run_eq (v := Value.bool v1) rfl rfl (does_call_eq Tryz.call19 rfl rfl (taplineref18_Valid.calls a0 HS3.sees H1)) ?_
  intro w4 hE4
  have HS4 := HS3.step hE4
  refine run_same (v := Value.bool (!v1)) rfl rfl (r_not rfl) ?_
  refine run_same (v := Value.bool (!v1)) rfl rfl (r_move rfl) ?_
  refine run_frame (by simp only [List.set_cons_zero, List.set_cons_succ]; rfl) ?_
  refine run_g_same (b := (!v1)) (c := true) (v := Value.agg #[Value.int .i64 a1.vKind, Value.int .i64 a1.vLo, Value.int .i64 a1.vHi]) rfl rfl rfl rfl (fun hg => (r_loadBoxAgg (n := 3) (vs := [Value.int .i64 a1.vKind, Value.int .i64 a1.vLo, Value.int .i64 a1.vHi]) rfl Tryz.isAgg23 (HS4.look 1 rfl) Tryz.sizeOf23 rfl rfl)) ?_
  obtain ⟨v2, H2, H⟩ := of_bind H
  refine run_g (b := (!v1)) (c := true) (v := Value.bool v2) rfl rfl rfl rfl (fun hg => (does_call_eq Tryz.call19 rfl (map1 ((show _ = gv (true && ((!v1) == false)) (Value.agg #[Value.int .i64 a1.vKind, Value.int .i64 a1.vLo, Value.int .i64 a1.vHi]) from rfl).trans (gv_t hg))) (taplineref18_Valid.calls a1 HS4.sees (of_pos H2 hg)))) ?_
  intro w5 hE5
  have HS5 := HS4.step hE5
  refine run_g_same (b := (!v1)) (c := true) (v := Value.bool (!v2)) rfl rfl rfl rfl (fun hg => (r_not ((show _ = gv (true && ((!v1) == false)) (Value.bool v2) from rfl).trans (gv_t hg)))) ?_
  refine run_same (v := Value.bool ((!v1) || (!v2))) rfl rfl (r_pick_or rfl rfl (fun hp => ((show _ = gv (true && ((!v1) == false)) (Value.bool (!v2)) from rfl).trans (gv_t (and_i rfl hp))))) ?_
  refine run_frame (by simp only [List.set_cons_zero, List.set_cons_succ]; rfl) ?_
  refine run_same (v := Value.bool ((!v1) || (!v2))) rfl rfl (r_move rfl) ?_
  refine run_g_same (b := ((!v1) || (!v2))) (c := true) (v := Value.pointer (some ⟨b1, 0, none⟩)) rfl rfl rfl rfl (fun hg => (r_fieldBox (n := 1) (o' := 0) rfl Tryz.runUnderlying23 rfl Tryz.sizeOf3 (by decide) rfl)) ?_
  refine run_g_same (b := ((!v1) || (!v2))) (c := true) (v := Value.int .i64 a0.vKind) rfl rfl rfl rfl (fun hg => (r_loadBox ((show _ = gv (true && (((!v1) || (!v2)) == false)) (Value.pointer (some ⟨b1, 0, none⟩)) from rfl).trans (gv_t hg)) Tryz.isAgg3 (HS5.look 2 rfl) rfl)) ?_
  refine run_g_same (b := ((!v1) || (!v2))) (c := true) (v := Value.pointer (some ⟨b2, 0, none⟩)) rfl rfl rfl rfl (fun hg => (r_fieldBox (n := 1) (o' := 0) rfl Tryz.runUnderlying23 rfl Tryz.sizeOf3 (by decide) rfl)) ?_
  refine run_frame (by simp only [List.set_cons_zero, List.set_cons_succ]; rfl) ?_
  refine run_g_same (b := ((!v1) || (!v2))) (c := true) (v := Value.int .i64 a1.vKind) rfl rfl rfl rfl (fun hg => (r_loadBox ((show _ = gv (true && (((!v1) || (!v2)) == false)) (Value.pointer (some ⟨b2, 0, none⟩)) from rfl).trans (gv_t hg)) Tryz.isAgg3 (HS5.look 1 rfl) rfl)) ?_
  refine run_g_same (b := ((!v1) || (!v2))) (c := true) (v := Value.bool (a0.vKind != a1.vKind)) rfl rfl rfl rfl (fun hg => (r_bin ((show _ = gv (true && (((!v1) || (!v2)) == false)) (Value.int .i64 a0.vKind) from rfl).trans (gv_t hg)) ((show _ = gv (true && (((!v1) || (!v2)) == false)) (Value.int .i64 a1.vKind) from rfl).trans (gv_t hg)) rfl)) ?_
  refine run_same (v := Value.bool (((!v1) || (!v2)) || (a0.vKind != a1.vKind))) rfl rfl (r_pick_or rfl rfl (fun hp => ((show _ = gv (true && (((!v1) || (!v2)) == false)) (Value.bool (a0.vKind != a1.vKind)) from rfl).trans (gv_t (and_i rfl hp))))) ?_
  try simp only [List.set_cons_zero, List.set_cons_succ]
  refine run_nil ?_
  refine norm_then ?_
  refine wp_cond_split (t := (((!v1) || (!v2)) || (a0.vKind != a1.vKind))) rfl (fun c1 => ?_) (fun c1 => ?_)
  · replace H := of_pos H c1
    refine wp_seq ?_
    refine region ?_
    refine run_same (v := Value.agg #[Value.int .i64 0, Value.int .i64 0, Value.int .i64 0]) rfl rfl (r_build0 (cs := [Value.int .i64 0, Value.int .i64 0, Value.int .i64 0]) Tryz.zeroValue23 Tryz.runUnderlying23 (pl := #[(0, 1), (1, 1), (2, 1)]) (fun w => by simp [Tryz.sizeOf2, Tryz.sizeOf3]) rfl) ?_
    refine run_st (i := 0) (cs := [Value.int .i64 0, Value.int .i64 0, Value.int .i64 0]) (cs' := [Value.int .i64 0, Value.int .i64 0, Value.int .i64 0]) (vs := [Value.int .i64 0, Value.int .i64 0, Value.int .i64 0]) (bs' := [(some b3, .cells #[Value.int .i64 0, Value.int .i64 0, Value.int .i64 0] 23 (0, 0)), (some b2, .cells #[Value.int .i64 a1.vKind, Value.int .i64 a1.vLo, Value.int .i64 a1.vHi] 23 (0, 0)), (some b1, .cells #[Value.int .i64 a0.vKind, Value.int .i64 a0.vLo, Value.int .i64 a0.vHi] 23 (0, 0))]) rfl rfl Tryz.sizeOf23 rfl rfl (by decide) rfl HS5 rfl (Nat.le_of_ble_eq_true rfl) rfl rfl ?_
    intro w6 HS6
    try simp only [List.set_cons_zero, List.set_cons_succ]
    refine run_nil ?_
    refine norm_then ?_
    refine wp_ret ?_
    refine ret_then ?_
    obtain rfl := Option.some.inj H
    refine bodyPost_ret (results_1 rfl (one_agg rfl Tryz.isAgg23 (HS6.look 0 rfl) Tryz.sizeOf23 rfl)) rfl ?_
    exact ⟨rfl, HS6.toE⟩
  · replace H := of_neg H (nt c1)
    refine wp_skip ?_
    refine norm_then ?_
    refine wp_seq ?_
    refine wp_seq ?_
    refine region ?_
    refine run_same (v := Value.pointer (some ⟨b1, 0, none⟩)) rfl rfl (r_fieldBox (n := 1) (o' := 0) rfl Tryz.runUnderlying23 rfl Tryz.sizeOf3 (by decide) rfl) ?_
    refine run_same (v := Value.int .i64 a0.vKind) rfl rfl (r_loadBox rfl Tryz.isAgg3 (HS5.look 2 rfl) rfl) ?_
    refine run_same (v := Value.bool (a0.vKind == 1)) rfl rfl (r_bin rfl rfl rfl) ?_
    try simp only [List.set_cons_zero, List.set_cons_succ]
    refine run_nil ?_
    refine norm_then ?_
    refine wp_cond_split (t := (a0.vKind == 1)) rfl (fun c2 => ?_) (fun c2 => ?_)
    · replace H := of_pos H c2
      refine wp_seq ?_
      refine region ?_
      refine run_same (v := Value.pointer (some ⟨b1, 1, none⟩)) rfl rfl (r_fieldBox (n := 1) (o' := 1) rfl Tryz.runUnderlying23 rfl Tryz.sizeOf2 (by decide) rfl) ?_
      refine run_same (v := Value.int .i64 a0.vLo) rfl rfl (r_loadBox rfl Tryz.isAgg2 (HS5.look 2 rfl) rfl) ?_
      refine run_same (v := Value.pointer (some ⟨b2, 1, none⟩)) rfl rfl (r_fieldBox (n := 1) (o' := 1) rfl Tryz.runUnderlying23 rfl Tryz.sizeOf2 (by decide) rfl) ?_
      refine run_same (v := Value.int .i64 a1.vLo) rfl rfl (r_loadBox rfl Tryz.isAgg2 (HS5.look 1 rfl) rfl) ?_
      refine run_frame (by simp only [List.set_cons_zero, List.set_cons_succ]; rfl) ?_
      refine run_same (v := Value.int .i64 (iMin a0.vLo a1.vLo)) rfl rfl (r_min rfl rfl) ?_
      refine run_same (v := Value.pointer (some ⟨b1, 2, none⟩)) rfl rfl (r_fieldBox (n := 1) (o' := 2) rfl Tryz.runUnderlying23 rfl Tryz.sizeOf2 (by decide) rfl) ?_
      refine run_same (v := Value.int .i64 a0.vHi) rfl rfl (r_loadBox rfl Tryz.isAgg2 (HS5.look 2 rfl) rfl) ?_
      refine run_same (v := Value.pointer (some ⟨b2, 2, none⟩)) rfl rfl (r_fieldBox (n := 1) (o' := 2) rfl Tryz.runUnderlying23 rfl Tryz.sizeOf2 (by decide) rfl) ?_
      refine run_frame (by simp only [List.set_cons_zero, List.set_cons_succ]; rfl) ?_
      refine run_same (v := Value.int .i64 a1.vHi) rfl rfl (r_loadBox rfl Tryz.isAgg2 (HS5.look 1 rfl) rfl) ?_
      refine run_same (v := Value.int .i64 (iMax a0.vHi a1.vHi)) rfl rfl (r_max rfl rfl) ?_
      obtain ⟨v3, H3, H⟩ := of_bind H
      refine run_eq (v := Value.agg #[Value.int .i64 v3.vKind, Value.int .i64 v3.vLo, Value.int .i64 v3.vHi]) rfl rfl (does_call_eq Tryz.call20 rfl rfl (taplineref18_from.calls (iMin a0.vLo a1.vLo) (iMax a0.vHi a1.vHi) HS5.sees H3)) ?_
      intro w7 hE6
      have HS7 := HS5.step hE6
      refine run_st (i := 0) (cs := [Value.int .i64 0, Value.int .i64 0, Value.int .i64 0]) (cs' := [Value.int .i64 v3.vKind, Value.int .i64 v3.vLo, Value.int .i64 v3.vHi]) (vs := [Value.int .i64 v3.vKind, Value.int .i64 v3.vLo, Value.int .i64 v3.vHi]) (bs' := [(some b3, .cells #[Value.int .i64 v3.vKind, Value.int .i64 v3.vLo, Value.int .i64 v3.vHi] 23 (0, 0)), (some b2, .cells #[Value.int .i64 a1.vKind, Value.int .i64 a1.vLo, Value.int .i64 a1.vHi] 23 (0, 0)), (some b1, .cells #[Value.int .i64 a0.vKind, Value.int .i64 a0.vLo, Value.int .i64 a0.vHi] 23 (0, 0))]) rfl rfl Tryz.sizeOf23 rfl rfl (by decide) rfl HS7 rfl (Nat.le_of_ble_eq_true rfl) rfl rfl ?_
      intro w8 HS8
      try simp only [List.set_cons_zero, List.set_cons_succ]
      refine run_nil ?_
      refine norm_then ?_
      refine wp_ret ?_
      refine ret_then ?_
      obtain rfl := Option.some.inj H
      refine bodyPost_ret (results_1 rfl (one_agg rfl Tryz.isAgg23 (HS8.look 0 rfl) Tryz.sizeOf23 rfl)) rfl ?_
      exact ⟨rfl, HS8.toE⟩
    · replace H := of_neg H (nt c2)
      refine wp_skip ?_
      refine norm_then ?_
      refine wp_seq ?_
      refine region ?_
      refine run_same (v := Value.agg #[Value.int .i64 a0.vKind, Value.int .i64 a0.vLo, Value.int .i64 a0.vHi]) rfl rfl (r_loadBoxAgg (n := 3) (vs := [Value.int .i64 a0.vKind, Value.int .i64 a0.vLo, Value.int .i64 a0.vHi]) rfl Tryz.isAgg23 (HS5.look 2 rfl) Tryz.sizeOf23 rfl rfl) ?_
      refine run_st (i := 0) (cs := [Value.int .i64 0, Value.int .i64 0, Value.int .i64 0]) (cs' := [Value.int .i64 a0.vKind, Value.int .i64 a0.vLo, Value.int .i64 a0.vHi]) (vs := [Value.int .i64 a0.vKind, Value.int .i64 a0.vLo, Value.int .i64 a0.vHi]) (bs' := [(some b3, .cells #[Value.int .i64 a0.vKind, Value.int .i64 a0.vLo, Value.int .i64 a0.vHi] 23 (0, 0)), (some b2, .cells #[Value.int .i64 a1.vKind, Value.int .i64 a1.vLo, Value.int .i64 a1.vHi] 23 (0, 0)), (some b1, .cells #[Value.int .i64 a0.vKind, Value.int .i64 a0.vLo, Value.int .i64 a0.vHi] 23 (0, 0))]) rfl rfl Tryz.sizeOf23 rfl rfl (by decide) rfl HS5 rfl (Nat.le_of_ble_eq_true rfl) rfl rfl ?_
      intro w9 HS9
      try simp only [List.set_cons_zero, List.set_cons_succ]
      refine run_nil ?_
      refine norm_then ?_
      refine wp_ret ?_
      obtain rfl := Option.some.inj H
      refine bodyPost_ret (results_1 rfl (one_agg rfl Tryz.isAgg23 (HS9.look 0 rfl) Tryz.sizeOf23 rfl)) rfl ?_
      exact ⟨rfl, HS9.toE⟩

end Go.Proofs.YtlmfgibfknjjpaaGreatDoor
namespace Go.Proofs.YtlmfgibfknjjpaaGreatDoor
open Go.RowKit Go.M
def verify_below.f (a0 : api_Abs) (a1 : api_Abs) : Option (Bool) := if (a1.vKind == 0) = true then (some true) else (if (a0.vKind != a1.vKind) = true then (some false) else (some ((a0.vKind == 2) || ((decide (a0.vLo ≥ a1.vLo)) && (decide (a0.vHi ≤ a1.vHi))))))
set_option maxRecDepth 20000 in
set_option maxHeartbeats 4000000 in
theorem verify_below.calls (a0 : api_Abs) (a1 : api_Abs)  {h0 : View} {w0 : World} (hv : Sees h0 w0) {r : Bool} (H : verify_below.f a0 a1 = some r) : Calls Tryz.prog 21 #[Value.agg #[Value.int .i64 a0.vKind, Value.int .i64 a0.vLo, Value.int .i64 a0.vHi], Value.agg #[Value.int .i64 a1.vKind, Value.int .i64 a1.vLo, Value.int .i64 a1.vHi]] w0 (fun e w1 => e = .returned (Value.bool r) ∧ Ext w0 w1) := by
  unfold verify_below.f at H
  have HS : St [] h0 w0 h0 [] w0 := St.init hv
  go_enter Tryz.func21, Tryz.ntmps21
  refine wp_seq ?_
  refine region ?_
  refine run_ex rfl rfl (does_box (cs := #[Value.int .i64 a0.vKind, Value.int .i64 a0.vLo, Value.int .i64 a0.vHi]) rfl rfl) ?_
  rintro w1 _ hE1 ⟨b1, rfl, ge1, hb1⟩
  have HS1 := HS.new hE1 ge1 hb1
  refine run_ex rfl rfl (does_box (cs := #[Value.int .i64 a1.vKind, Value.int .i64 a1.vLo, Value.int .i64 a1.vHi]) rfl rfl) ?_
  rintro w2 _ hE2 ⟨b2, rfl, ge2, hb2⟩
  have HS2 := HS1.new hE2 ge2 hb2
  refine run_same (v := Value.bool false) rfl rfl (r_assign rfl) ?_
  try simp only [List.set_cons_zero, List.set_cons_succ]
  refine run_nil ?_
  refine norm_then ?_
  refine wp_seq ?_
  refine wp_block ?_
  refine wp_seq ?_
  refine region ?_
  refine run_same (v := Value.pointer (some ⟨b2, 0, none⟩)) rfl rfl (r_fieldBox (n := 1) (o' := 0) rfl Tryz.runUnderlying23 rfl Tryz.sizeOf3 (by decide) rfl) ?_
  refine run_same (v := Value.int .i64 a1.vKind) rfl rfl (r_loadBox rfl Tryz.isAgg3 (HS2.look 0 rfl) rfl) ?_
  refine run_same (v := Value.bool (a1.vKind == 0)) rfl rfl (r_bin rfl rfl rfl) ?_
  refine run_same (v := Value.bool (a1.vKind == 0)) rfl rfl (r_assign rfl) ?_
  try simp only [List.set_cons_zero, List.set_cons_succ]
  refine run_nil ?_
  refine norm_then ?_
  refine wp_cond_split (t := (a1.vKind == 0)) rfl (fun c1 => ?_) (fun c1 => ?_)
  · replace H := of_pos H c1
    refine wp_seq ?_
    refine region ?_
    refine run_same (v := Value.bool true) rfl rfl (r_assign rfl) ?_
    try simp only [List.set_cons_zero, List.set_cons_succ]
    refine run_nil ?_
    refine norm_then ?_
    refine wp_ret ?_
    refine ret_block ?_
    refine ret_then ?_
    obtain rfl := Option.some.inj H
    refine bodyPost_ret (results_1 rfl (one_tmp rfl)) rfl ?_
    exact ⟨rfl, HS2.toE⟩
  · replace H := of_neg H (nt c1)
    refine wp_seq ?_
    refine region ?_
    refine run_same (v := Value.pointer (some ⟨b1, 0, none⟩)) rfl rfl (r_fieldBox (n := 1) (o' := 0) rfl Tryz.runUnderlying23 rfl Tryz.sizeOf3 (by decide) rfl) ?_
    refine run_same (v := Value.int .i64 a0.vKind) rfl rfl (r_loadBox rfl Tryz.isAgg3 (HS2.look 1 rfl) rfl) ?_
    refine run_same (v := Value.pointer (some ⟨b2, 0, none⟩)) rfl rfl (r_fieldBox (n := 1) (o' := 0) rfl Tryz.runUnderlying23 rfl Tryz.sizeOf3 (by decide) rfl) ?_
    refine run_same (v := Value.int .i64 a1.vKind) rfl rfl (r_loadBox rfl Tryz.isAgg3 (HS2.look 0 rfl) rfl) ?_
    refine run_frame (by simp only [List.set_cons_zero, List.set_cons_succ]; rfl) ?_
    refine run_same (v := Value.bool (a0.vKind != a1.vKind)) rfl rfl (r_bin rfl rfl rfl) ?_
    refine run_same (v := Value.bool (a0.vKind != a1.vKind)) rfl rfl (r_assign rfl) ?_
    try simp only [List.set_cons_zero, List.set_cons_succ]
    refine run_nil ?_
    refine norm_then ?_
    refine wp_cond_split (t := (a0.vKind != a1.vKind)) rfl (fun c2 => ?_) (fun c2 => ?_)
    · replace H := of_pos H c2
      refine wp_seq ?_
      refine region ?_
      refine run_same (v := Value.bool false) rfl rfl (r_assign rfl) ?_
      try simp only [List.set_cons_zero, List.set_cons_succ]
      refine run_nil ?_
      refine norm_then ?_
      refine wp_ret ?_
      refine ret_block ?_
      refine ret_then ?_
      obtain rfl := Option.some.inj H
      refine bodyPost_ret (results_1 rfl (one_tmp rfl)) rfl ?_
      exact ⟨rfl, HS2.toE⟩
    · replace H := of_neg H (nt c2)
      refine wp_skip ?_
      refine norm_block ?_
      refine norm_then ?_
      refine wp_seq ?_
      refine region ?_
      refine run_same (v := Value.pointer (some ⟨b1, 0, none⟩)) rfl rfl (r_fieldBox (n := 1) (o' := 0) rfl Tryz.runUnderlying23 rfl Tryz.sizeOf3 (by decide) rfl) ?_
      refine run_same (v := Value.int .i64 a0.vKind) rfl rfl (r_loadBox rfl Tryz.isAgg3 (HS2.look 1 rfl) rfl) ?_
      refine run_same (v := Value.bool (a0.vKind == 2)) rfl rfl (r_bin rfl rfl rfl) ?_
      refine run_same (v := Value.bool (a0.vKind == 2)) rfl rfl (r_move rfl) ?_
      refine run_frame (by simp only [List.set_cons_zero, List.set_cons_succ]; rfl) ?_
      refine run_g_same (b := (a0.vKind == 2)) (c := true) (v := Value.pointer (some ⟨b1, 1, none⟩)) rfl rfl rfl rfl (fun hg => (r_fieldBox (n := 1) (o' := 1) rfl Tryz.runUnderlying23 rfl Tryz.sizeOf2 (by decide) rfl)) ?_
      refine run_g_same (b := (a0.vKind == 2)) (c := true) (v := Value.int .i64 a0.vLo) rfl rfl rfl rfl (fun hg => (r_loadBox ((show _ = gv (true && ((a0.vKind == 2) == false)) (Value.pointer (some ⟨b1, 1, none⟩)) from rfl).trans (gv_t hg)) Tryz.isAgg2 (HS2.look 1 rfl) rfl)) ?_
      refine run_g_same (b := (a0.vKind == 2)) (c := true) (v := Value.pointer (some ⟨b2, 1, none⟩)) rfl rfl rfl rfl (fun hg => (r_fieldBox (n := 1) (o' := 1) rfl Tryz.runUnderlying23 rfl Tryz.sizeOf2 (by decide) rfl)) ?_
      refine run_g_same (b := (a0.vKind == 2)) (c := true) (v := Value.int .i64 a1.vLo) rfl rfl rfl rfl (fun hg => (r_loadBox ((show _ = gv (true && ((a0.vKind == 2) == false)) (Value.pointer (some ⟨b2, 1, none⟩)) from rfl).trans (gv_t hg)) Tryz.isAgg2 (HS2.look 0 rfl) rfl)) ?_
      refine run_frame (by simp only [List.set_cons_zero, List.set_cons_succ]; rfl) ?_
      refine run_g_same (b := (a0.vKind == 2)) (c := true) (v := Value.bool (decide (a0.vLo ≥ a1.vLo))) rfl rfl rfl rfl (fun hg => (r_bin ((show _ = gv (true && ((a0.vKind == 2) == false)) (Value.int .i64 a0.vLo) from rfl).trans (gv_t hg)) ((show _ = gv (true && ((a0.vKind == 2) == false)) (Value.int .i64 a1.vLo) from rfl).trans (gv_t hg)) rfl)) ?_
      refine run_g_same (b := (a0.vKind == 2)) (c := true) (v := Value.bool (decide (a0.vLo ≥ a1.vLo))) rfl rfl rfl rfl (fun hg => (r_move ((show _ = gv (true && ((a0.vKind == 2) == false)) (Value.bool (decide (a0.vLo ≥ a1.vLo))) from rfl).trans (gv_t hg)))) ?_
      refine run_g_same (b := (decide (a0.vLo ≥ a1.vLo))) (c := (true && ((a0.vKind == 2) == false))) (v := Value.pointer (some ⟨b1, 2, none⟩)) rfl rfl rfl rfl (fun hg => (r_fieldBox (n := 1) (o' := 2) rfl Tryz.runUnderlying23 rfl Tryz.sizeOf2 (by decide) rfl)) ?_
      refine run_g_same (b := (decide (a0.vLo ≥ a1.vLo))) (c := (true && ((a0.vKind == 2) == false))) (v := Value.int .i64 a0.vHi) rfl rfl rfl rfl (fun hg => (r_loadBox ((show _ = gv ((true && ((a0.vKind == 2) == false)) && ((decide (a0.vLo ≥ a1.vLo)) == true)) (Value.pointer (some ⟨b1, 2, none⟩)) from rfl).trans (gv_t hg)) Tryz.isAgg2 (HS2.look 1 rfl) rfl)) ?_
      refine run_frame (by simp only [List.set_cons_zero, List.set_cons_succ]; rfl) ?_
      refine run_g_same (b := (decide (a0.vLo ≥ a1.vLo))) (c := (true && ((a0.vKind == 2) == false))) (v := Value.pointer (some ⟨b2, 2, none⟩)) rfl rfl rfl rfl (fun hg => (r_fieldBox (n := 1) (o' := 2) rfl Tryz.runUnderlying23 rfl Tryz.sizeOf2 (by decide) rfl)) ?_
      refine run_g_same (b := (decide (a0.vLo ≥ a1.vLo))) (c := (true && ((a0.vKind == 2) == false))) (v := Value.int .i64 a1.vHi) rfl rfl rfl rfl (fun hg => (r_loadBox ((show _ = gv ((true && ((a0.vKind == 2) == false)) && ((decide (a0.vLo ≥ a1.vLo)) == true)) (Value.pointer (some ⟨b2, 2, none⟩)) from rfl).trans (gv_t hg)) Tryz.isAgg2 (HS2.look 0 rfl) rfl)) ?_
      refine run_g_same (b := (decide (a0.vLo ≥ a1.vLo))) (c := (true && ((a0.vKind == 2) == false))) (v := Value.bool (decide (a0.vHi ≤ a1.vHi))) rfl rfl rfl rfl (fun hg => (r_bin ((show _ = gv ((true && ((a0.vKind == 2) == false)) && ((decide (a0.vLo ≥ a1.vLo)) == true)) (Value.int .i64 a0.vHi) from rfl).trans (gv_t hg)) ((show _ = gv ((true && ((a0.vKind == 2) == false)) && ((decide (a0.vLo ≥ a1.vLo)) == true)) (Value.int .i64 a1.vHi) from rfl).trans (gv_t hg)) rfl)) ?_
      refine run_g_same (b := (a0.vKind == 2)) (c := true) (v := Value.bool ((decide (a0.vLo ≥ a1.vLo)) && (decide (a0.vHi ≤ a1.vHi)))) rfl rfl rfl rfl (fun hg => (r_pick_and ((show _ = gv (true && ((a0.vKind == 2) == false)) (Value.bool (decide (a0.vLo ≥ a1.vLo))) from rfl).trans (gv_t hg)) (fun hp => ((show _ = gv ((true && ((a0.vKind == 2) == false)) && ((decide (a0.vLo ≥ a1.vLo)) == true)) (Value.bool (decide (a0.vHi ≤ a1.vHi))) from rfl).trans (gv_t (and_i hg hp)))) rfl)) ?_
      refine run_frame (by simp only [List.set_cons_zero, List.set_cons_succ]; rfl) ?_
      refine run_same (v := Value.bool ((a0.vKind == 2) || ((decide (a0.vLo ≥ a1.vLo)) && (decide (a0.vHi ≤ a1.vHi))))) rfl rfl (r_pick_or rfl rfl (fun hp => ((show _ = gv (true && ((a0.vKind == 2) == false)) (Value.bool ((decide (a0.vLo ≥ a1.vLo)) && (decide (a0.vHi ≤ a1.vHi)))) from rfl).trans (gv_t (and_i rfl hp))))) ?_
      refine run_same (v := Value.bool ((a0.vKind == 2) || ((decide (a0.vLo ≥ a1.vLo)) && (decide (a0.vHi ≤ a1.vHi))))) rfl rfl (r_assign rfl) ?_
      try simp only [List.set_cons_zero, List.set_cons_succ]
      refine run_nil ?_
      refine norm_then ?_
      refine wp_ret ?_
      obtain rfl := Option.some.inj H
      refine bodyPost_ret (results_1 rfl (one_tmp rfl)) rfl ?_
      exact ⟨rfl, HS2.toE⟩

end Go.Proofs.YtlmfgibfknjjpaaGreatDoor
namespace Go.Proofs.YtlmfgibfknjjpaaGreatDoor
open Go.RowKit Go.M
def verify_Below.f (a0 : api_Abs) (a1 : api_Abs) : Option (Bool) := (verify_right.f a0).bind fun v1 => ((if (true && (v1 == true)) = true then verify_right.f a1 else some false).bind fun v2 => ((if (true && ((v1 && v2) == true)) = true then verify_below.f a0 a1 else some false).bind fun v3 => (some ((v1 && v2) && v3))))
set_option maxRecDepth 20000 in
set_option maxHeartbeats 4000000 in
theorem verify_Below.calls (a0 : api_Abs) (a1 : api_Abs)  {h0 : View} {w0 : World} (hv : Sees h0 w0) {r : Bool} (H : verify_Below.f a0 a1 = some r) : Calls Tryz.prog 8 #[Value.agg #[Value.int .i64 a0.vKind, Value.int .i64 a0.vLo, Value.int .i64 a0.vHi], Value.agg #[Value.int .i64 a1.vKind, Value.int .i64 a1.vLo, Value.int .i64 a1.vHi]] w0 (fun e w1 => e = .returned (Value.bool r) ∧ Ext w0 w1) := by
  unfold verify_Below.f at H
  have HS : St [] h0 w0 h0 [] w0 := St.init hv
  go_enter Tryz.func8, Tryz.ntmps8
  refine wp_seq ?_
  refine region ?_
  refine run_ex rfl rfl (does_box (cs := #[Value.int .i64 a0.vKind, Value.int .i64 a0.vLo, Value.int .i64 a0.vHi]) rfl rfl) ?_
  rintro w1 _ hE1 ⟨b1, rfl, ge1, hb1⟩
  have HS1 := HS.new hE1 ge1 hb1
  refine run_ex rfl rfl (does_box (cs := #[Value.int .i64 a1.vKind, Value.int .i64 a1.vLo, Value.int .i64 a1.vHi]) rfl rfl) ?_
  rintro w2 _ hE2 ⟨b2, rfl, ge2, hb2⟩
  have HS2 := HS1.new hE2 ge2 hb2
  refine run_same (v := Value.bool false) rfl rfl (r_assign rfl) ?_
  try simp only [List.set_cons_zero, List.set_cons_succ]
  refine run_nil ?_
  refine norm_then ?_
  refine wp_seq ?_
  refine region ?_
  refine run_same (v := Value.agg #[Value.int .i64 a0.vKind, Value.int .i64 a0.vLo, Value.int .i64 a0.vHi]) rfl rfl (r_loadBoxAgg (n := 3) (vs := [Value.int .i64 a0.vKind, Value.int .i64 a0.vLo, Value.int .i64 a0.vHi]) rfl Tryz.isAgg23 (HS2.look 1 rfl) Tryz.sizeOf23 rfl rfl) ?_
  obtain ⟨v1, H1, H⟩ := of_bind H
  refine run_eq (v := Value.bool v1) rfl rfl (does_call_eq Tryz.call17 rfl rfl (verify_right.calls a0 HS2.sees H1)) ?_
  intro w3 hE3
  have HS3 := HS2.step hE3
  refine run_same (v := Value.bool v1) rfl rfl (r_move rfl) ?_
  refine run_g_same (b := v1) (c := true) (v := Value.agg #[Value.int .i64 a1.vKind, Value.int .i64 a1.vLo, Value.int .i64 a1.vHi]) rfl rfl rfl rfl (fun hg => (r_loadBoxAgg (n := 3) (vs := [Value.int .i64 a1.vKind, Value.int .i64 a1.vLo, Value.int .i64 a1.vHi]) rfl Tryz.isAgg23 (HS3.look 0 rfl) Tryz.sizeOf23 rfl rfl)) ?_
  refine run_frame (by simp only [List.set_cons_zero, List.set_cons_succ]; rfl) ?_
  obtain ⟨v2, H2, H⟩ := of_bind H
  refine run_g (b := v1) (c := true) (v := Value.bool v2) rfl rfl rfl rfl (fun hg => (does_call_eq Tryz.call17 rfl (map1 ((show _ = gv (true && (v1 == true)) (Value.agg #[Value.int .i64 a1.vKind, Value.int .i64 a1.vLo, Value.int .i64 a1.vHi]) from rfl).trans (gv_t hg))) (verify_right.calls a1 HS3.sees (of_pos H2 hg)))) ?_
  intro w4 hE4
  have HS4 := HS3.step hE4
  refine run_same (v := Value.bool (v1 && v2)) rfl rfl (r_pick_and rfl (fun hp => ((show _ = gv (true && (v1 == true)) (Value.bool v2) from rfl).trans (gv_t (and_i rfl hp)))) rfl) ?_
  refine run_same (v := Value.bool (v1 && v2)) rfl rfl (r_move rfl) ?_
  refine run_g_same (b := (v1 && v2)) (c := true) (v := Value.agg #[Value.int .i64 a0.vKind, Value.int .i64 a0.vLo, Value.int .i64 a0.vHi]) rfl rfl rfl rfl (fun hg => (r_loadBoxAgg (n := 3) (vs := [Value.int .i64 a0.vKind, Value.int .i64 a0.vLo, Value.int .i64 a0.vHi]) rfl Tryz.isAgg23 (HS4.look 1 rfl) Tryz.sizeOf23 rfl rfl)) ?_
  refine run_frame (by simp only [List.set_cons_zero, List.set_cons_succ]; rfl) ?_
  refine run_g_same (b := (v1 && v2)) (c := true) (v := Value.agg #[Value.int .i64 a1.vKind, Value.int .i64 a1.vLo, Value.int .i64 a1.vHi]) rfl rfl rfl rfl (fun hg => (r_loadBoxAgg (n := 3) (vs := [Value.int .i64 a1.vKind, Value.int .i64 a1.vLo, Value.int .i64 a1.vHi]) rfl Tryz.isAgg23 (HS4.look 0 rfl) Tryz.sizeOf23 rfl rfl)) ?_
  obtain ⟨v3, H3, H⟩ := of_bind H
  refine run_g (b := (v1 && v2)) (c := true) (v := Value.bool v3) rfl rfl rfl rfl (fun hg => (does_call_eq Tryz.call21 rfl (map2 ((show _ = gv (true && ((v1 && v2) == true)) (Value.agg #[Value.int .i64 a0.vKind, Value.int .i64 a0.vLo, Value.int .i64 a0.vHi]) from rfl).trans (gv_t hg)) ((show _ = gv (true && ((v1 && v2) == true)) (Value.agg #[Value.int .i64 a1.vKind, Value.int .i64 a1.vLo, Value.int .i64 a1.vHi]) from rfl).trans (gv_t hg))) (verify_below.calls a0 a1 HS4.sees (of_pos H3 hg)))) ?_
  intro w5 hE5
  have HS5 := HS4.step hE5
  refine run_same (v := Value.bool ((v1 && v2) && v3)) rfl rfl (r_pick_and rfl (fun hp => ((show _ = gv (true && ((v1 && v2) == true)) (Value.bool v3) from rfl).trans (gv_t (and_i rfl hp)))) rfl) ?_
  refine run_same (v := Value.bool ((v1 && v2) && v3)) rfl rfl (r_assign rfl) ?_
  try simp only [List.set_cons_zero, List.set_cons_succ]
  refine run_nil ?_
  refine norm_then ?_
  refine wp_ret ?_
  obtain rfl := Option.some.inj H
  refine bodyPost_ret (results_1 rfl (one_tmp rfl)) rfl ?_
  exact ⟨rfl, HS5.toE⟩

end Go.Proofs.YtlmfgibfknjjpaaGreatDoor
namespace Go.Proofs.YtlmfgibfknjjpaaGreatDoor
open Go.RowKit Go.M
def taplineref18_Below.f (a0 : api_Abs) (a1 : api_Abs) : Option (Bool) := (taplineref18_Valid.f a0).bind fun v1 => ((if (true && ((!v1) == false)) = true then taplineref18_Valid.f a1 else some false).bind fun v2 => (if ((!v1) || (!v2)) = true then (some false) else (if (a1.vKind == 0) = true then (some true) else (some (((a0.vKind == a1.vKind) && (decide (a0.vLo ≥ a1.vLo))) && (decide (a0.vHi ≤ a1.vHi)))))))
set_option maxRecDepth 20000 in
set_option maxHeartbeats 4000000 in
theorem taplineref18_Below.calls (a0 : api_Abs) (a1 : api_Abs)  {h0 : View} {w0 : World} (hv : Sees h0 w0) {r : Bool} (H : taplineref18_Below.f a0 a1 = some r) : Calls Tryz.prog 9 #[Value.agg #[Value.int .i64 a0.vKind, Value.int .i64 a0.vLo, Value.int .i64 a0.vHi], Value.agg #[Value.int .i64 a1.vKind, Value.int .i64 a1.vLo, Value.int .i64 a1.vHi]] w0 (fun e w1 => e = .returned (Value.bool r) ∧ Ext w0 w1) := by
  unfold taplineref18_Below.f at H
  have HS : St [] h0 w0 h0 [] w0 := St.init hv
  go_enter Tryz.func9, Tryz.ntmps9
  refine wp_seq ?_
  refine region ?_
  refine run_ex rfl rfl (does_box (cs := #[Value.int .i64 a0.vKind, Value.int .i64 a0.vLo, Value.int .i64 a0.vHi]) rfl rfl) ?_
  rintro w1 _ hE1 ⟨b1, rfl, ge1, hb1⟩
  have HS1 := HS.new hE1 ge1 hb1
  refine run_ex rfl rfl (does_box (cs := #[Value.int .i64 a1.vKind, Value.int .i64 a1.vLo, Value.int .i64 a1.vHi]) rfl rfl) ?_
  rintro w2 _ hE2 ⟨b2, rfl, ge2, hb2⟩
  have HS2 := HS1.new hE2 ge2 hb2
  refine run_same (v := Value.bool false) rfl rfl (r_assign rfl) ?_
  try simp only [List.set_cons_zero, List.set_cons_succ]
  refine run_nil ?_
  refine norm_then ?_
  refine wp_seq ?_
  refine wp_seq ?_
  refine region ?_
  refine run_same (v := Value.agg #[Value.int .i64 a0.vKind, Value.int .i64 a0.vLo, Value.int .i64 a0.vHi]) rfl rfl (r_loadBoxAgg (n := 3) (vs := [Value.int .i64 a0.vKind, Value.int .i64 a0.vLo, Value.int .i64 a0.vHi]) rfl Tryz.isAgg23 (HS2.look 1 rfl) Tryz.sizeOf23 rfl rfl) ?_
  obtain ⟨v1, H1, H⟩ := of_bind H
  refine run_eq (v := Value.bool v1) rfl rfl (does_call_eq Tryz.call19 rfl rfl (taplineref18_Valid.calls a0 HS2.sees H1)) ?_
  intro w3 hE3
  have HS3 := HS2.step hE3
  refine run_same (v := Value.bool (!v1)) rfl rfl (r_not rfl) ?_
  refine run_same (v := Value.bool (!v1)) rfl rfl (r_move rfl) ?_
  refine run_frame (by simp only [List.set_cons_zero, List.set_cons_succ]; rfl) ?_
  refine run_g_same (b := (!v1)) (c := true) (v := Value.agg #[Value.int .i64 a1.vKind, Value.int .i64 a1.vLo, Value.int .i64 a1.vHi]) rfl rfl rfl rfl (fun hg => (r_loadBoxAgg (n := 3) (vs := [Value.int .i64 a1.vKind, Value.int .i64 a1.vLo, Value.int .i64 a1.vHi]) rfl Tryz.isAgg23 (HS3.look 0 rfl) Tryz.sizeOf23 rfl rfl)) ?_
  obtain ⟨v2, H2, H⟩ := of_bind H
  refine run_g (b := (!v1)) (c := true) (v := Value.bool v2) rfl rfl rfl rfl (fun hg => (does_call_eq Tryz.call19 rfl (map1 ((show _ = gv (true && ((!v1) == false)) (Value.agg #[Value.int .i64 a1.vKind, Value.int .i64 a1.vLo, Value.int .i64 a1.vHi]) from rfl).trans (gv_t hg))) (taplineref18_Valid.calls a1 HS3.sees (of_pos H2 hg)))) ?_
  intro w4 hE4
  have HS4 := HS3.step hE4
  refine run_g_same (b := (!v1)) (c := true) (v := Value.bool (!v2)) rfl rfl rfl rfl (fun hg => (r_not ((show _ = gv (true && ((!v1) == false)) (Value.bool v2) from rfl).trans (gv_t hg)))) ?_
  refine run_same (v := Value.bool ((!v1) || (!v2))) rfl rfl (r_pick_or rfl rfl (fun hp => ((show _ = gv (true && ((!v1) == false)) (Value.bool (!v2)) from rfl).trans (gv_t (and_i rfl hp))))) ?_
  try simp only [List.set_cons_zero, List.set_cons_succ]
  refine run_nil ?_
  refine norm_then ?_
  refine wp_cond_split (t := ((!v1) || (!v2))) rfl (fun c1 => ?_) (fun c1 => ?_)
  · replace H := of_pos H c1
    refine wp_seq ?_
    refine region ?_
    refine run_same (v := Value.bool false) rfl rfl (r_assign rfl) ?_
    try simp only [List.set_cons_zero, List.set_cons_succ]
    refine run_nil ?_
    refine norm_then ?_
    refine wp_ret ?_
    refine ret_then ?_
    obtain rfl := Option.some.inj H
    refine bodyPost_ret (results_1 rfl (one_tmp rfl)) rfl ?_
    exact ⟨rfl, HS4.toE⟩
  · replace H := of_neg H (nt c1)
    refine wp_skip ?_
    refine norm_then ?_
    refine wp_seq ?_
    refine wp_seq ?_
    refine region ?_
    refine run_same (v := Value.pointer (some ⟨b2, 0, none⟩)) rfl rfl (r_fieldBox (n := 1) (o' := 0) rfl Tryz.runUnderlying23 rfl Tryz.sizeOf3 (by decide) rfl) ?_
    refine run_same (v := Value.int .i64 a1.vKind) rfl rfl (r_loadBox rfl Tryz.isAgg3 (HS4.look 0 rfl) rfl) ?_
    refine run_same (v := Value.bool (a1.vKind == 0)) rfl rfl (r_bin rfl rfl rfl) ?_
    try simp only [List.set_cons_zero, List.set_cons_succ]
    refine run_nil ?_
    refine norm_then ?_
    refine wp_cond_split (t := (a1.vKind == 0)) rfl (fun c2 => ?_) (fun c2 => ?_)
    · replace H := of_pos H c2
      refine wp_seq ?_
      refine region ?_
      refine run_same (v := Value.bool true) rfl rfl (r_assign rfl) ?_
      try simp only [List.set_cons_zero, List.set_cons_succ]
      refine run_nil ?_
      refine norm_then ?_
      refine wp_ret ?_
      refine ret_then ?_
      obtain rfl := Option.some.inj H
      refine bodyPost_ret (results_1 rfl (one_tmp rfl)) rfl ?_
      exact ⟨rfl, HS4.toE⟩
    · replace H := of_neg H (nt c2)
      refine wp_skip ?_
      refine norm_then ?_
      refine wp_seq ?_
      refine region ?_
      refine run_same (v := Value.pointer (some ⟨b1, 0, none⟩)) rfl rfl (r_fieldBox (n := 1) (o' := 0) rfl Tryz.runUnderlying23 rfl Tryz.sizeOf3 (by decide) rfl) ?_
      refine run_same (v := Value.int .i64 a0.vKind) rfl rfl (r_loadBox rfl Tryz.isAgg3 (HS4.look 1 rfl) rfl) ?_
      refine run_same (v := Value.pointer (some ⟨b2, 0, none⟩)) rfl rfl (r_fieldBox (n := 1) (o' := 0) rfl Tryz.runUnderlying23 rfl Tryz.sizeOf3 (by decide) rfl) ?_
      refine run_same (v := Value.int .i64 a1.vKind) rfl rfl (r_loadBox rfl Tryz.isAgg3 (HS4.look 0 rfl) rfl) ?_
      refine run_frame (by simp only [List.set_cons_zero, List.set_cons_succ]; rfl) ?_
      refine run_same (v := Value.bool (a0.vKind == a1.vKind)) rfl rfl (r_bin rfl rfl rfl) ?_
      refine run_same (v := Value.bool (a0.vKind == a1.vKind)) rfl rfl (r_move rfl) ?_
      refine run_g_same (b := (a0.vKind == a1.vKind)) (c := true) (v := Value.pointer (some ⟨b1, 1, none⟩)) rfl rfl rfl rfl (fun hg => (r_fieldBox (n := 1) (o' := 1) rfl Tryz.runUnderlying23 rfl Tryz.sizeOf2 (by decide) rfl)) ?_
      refine run_g_same (b := (a0.vKind == a1.vKind)) (c := true) (v := Value.int .i64 a0.vLo) rfl rfl rfl rfl (fun hg => (r_loadBox ((show _ = gv (true && ((a0.vKind == a1.vKind) == true)) (Value.pointer (some ⟨b1, 1, none⟩)) from rfl).trans (gv_t hg)) Tryz.isAgg2 (HS4.look 1 rfl) rfl)) ?_
      refine run_frame (by simp only [List.set_cons_zero, List.set_cons_succ]; rfl) ?_
      refine run_g_same (b := (a0.vKind == a1.vKind)) (c := true) (v := Value.pointer (some ⟨b2, 1, none⟩)) rfl rfl rfl rfl (fun hg => (r_fieldBox (n := 1) (o' := 1) rfl Tryz.runUnderlying23 rfl Tryz.sizeOf2 (by decide) rfl)) ?_
      refine run_g_same (b := (a0.vKind == a1.vKind)) (c := true) (v := Value.int .i64 a1.vLo) rfl rfl rfl rfl (fun hg => (r_loadBox ((show _ = gv (true && ((a0.vKind == a1.vKind) == true)) (Value.pointer (some ⟨b2, 1, none⟩)) from rfl).trans (gv_t hg)) Tryz.isAgg2 (HS4.look 0 rfl) rfl)) ?_
      refine run_g_same (b := (a0.vKind == a1.vKind)) (c := true) (v := Value.bool (decide (a0.vLo ≥ a1.vLo))) rfl rfl rfl rfl (fun hg => (r_bin ((show _ = gv (true && ((a0.vKind == a1.vKind) == true)) (Value.int .i64 a0.vLo) from rfl).trans (gv_t hg)) ((show _ = gv (true && ((a0.vKind == a1.vKind) == true)) (Value.int .i64 a1.vLo) from rfl).trans (gv_t hg)) rfl)) ?_
      refine run_same (v := Value.bool ((a0.vKind == a1.vKind) && (decide (a0.vLo ≥ a1.vLo)))) rfl rfl (r_pick_and rfl (fun hp => ((show _ = gv (true && ((a0.vKind == a1.vKind) == true)) (Value.bool (decide (a0.vLo ≥ a1.vLo))) from rfl).trans (gv_t (and_i rfl hp)))) rfl) ?_
      refine run_frame (by simp only [List.set_cons_zero, List.set_cons_succ]; rfl) ?_
      refine run_same (v := Value.bool ((a0.vKind == a1.vKind) && (decide (a0.vLo ≥ a1.vLo)))) rfl rfl (r_move rfl) ?_
      refine run_g_same (b := ((a0.vKind == a1.vKind) && (decide (a0.vLo ≥ a1.vLo)))) (c := true) (v := Value.pointer (some ⟨b1, 2, none⟩)) rfl rfl rfl rfl (fun hg => (r_fieldBox (n := 1) (o' := 2) rfl Tryz.runUnderlying23 rfl Tryz.sizeOf2 (by decide) rfl)) ?_
      refine run_g_same (b := ((a0.vKind == a1.vKind) && (decide (a0.vLo ≥ a1.vLo)))) (c := true) (v := Value.int .i64 a0.vHi) rfl rfl rfl rfl (fun hg => (r_loadBox ((show _ = gv (true && (((a0.vKind == a1.vKind) && (decide (a0.vLo ≥ a1.vLo))) == true)) (Value.pointer (some ⟨b1, 2, none⟩)) from rfl).trans (gv_t hg)) Tryz.isAgg2 (HS4.look 1 rfl) rfl)) ?_
      refine run_g_same (b := ((a0.vKind == a1.vKind) && (decide (a0.vLo ≥ a1.vLo)))) (c := true) (v := Value.pointer (some ⟨b2, 2, none⟩)) rfl rfl rfl rfl (fun hg => (r_fieldBox (n := 1) (o' := 2) rfl Tryz.runUnderlying23 rfl Tryz.sizeOf2 (by decide) rfl)) ?_
      refine run_frame (by simp only [List.set_cons_zero, List.set_cons_succ]; rfl) ?_
      refine run_g_same (b := ((a0.vKind == a1.vKind) && (decide (a0.vLo ≥ a1.vLo)))) (c := true) (v := Value.int .i64 a1.vHi) rfl rfl rfl rfl (fun hg => (r_loadBox ((show _ = gv (true && (((a0.vKind == a1.vKind) && (decide (a0.vLo ≥ a1.vLo))) == true)) (Value.pointer (some ⟨b2, 2, none⟩)) from rfl).trans (gv_t hg)) Tryz.isAgg2 (HS4.look 0 rfl) rfl)) ?_
      refine run_g_same (b := ((a0.vKind == a1.vKind) && (decide (a0.vLo ≥ a1.vLo)))) (c := true) (v := Value.bool (decide (a0.vHi ≤ a1.vHi))) rfl rfl rfl rfl (fun hg => (r_bin ((show _ = gv (true && (((a0.vKind == a1.vKind) && (decide (a0.vLo ≥ a1.vLo))) == true)) (Value.int .i64 a0.vHi) from rfl).trans (gv_t hg)) ((show _ = gv (true && (((a0.vKind == a1.vKind) && (decide (a0.vLo ≥ a1.vLo))) == true)) (Value.int .i64 a1.vHi) from rfl).trans (gv_t hg)) rfl)) ?_
      refine run_same (v := Value.bool (((a0.vKind == a1.vKind) && (decide (a0.vLo ≥ a1.vLo))) && (decide (a0.vHi ≤ a1.vHi)))) rfl rfl (r_pick_and rfl (fun hp => ((show _ = gv (true && (((a0.vKind == a1.vKind) && (decide (a0.vLo ≥ a1.vLo))) == true)) (Value.bool (decide (a0.vHi ≤ a1.vHi))) from rfl).trans (gv_t (and_i rfl hp)))) rfl) ?_
      refine run_same (v := Value.bool (((a0.vKind == a1.vKind) && (decide (a0.vLo ≥ a1.vLo))) && (decide (a0.vHi ≤ a1.vHi)))) rfl rfl (r_assign rfl) ?_
      try simp only [List.set_cons_zero, List.set_cons_succ]
      refine run_nil ?_
      refine norm_then ?_
      refine wp_ret ?_
      obtain rfl := Option.some.inj H
      refine bodyPost_ret (results_1 rfl (one_tmp rfl)) rfl ?_
      exact ⟨rfl, HS4.toE⟩

end Go.Proofs.YtlmfgibfknjjpaaGreatDoor
namespace Go.Proofs.YtlmfgibfknjjpaaGreatDoor
open Go.RowKit Go.M
def verify_Has.f (a0 : api_Abs) (a1 : api_Value) : Option (Bool) := (verify_right.f a0).bind fun v1 => (if (!v1) = true then (some false) else (if (a0.vKind == 1) = true then (some (((!a1.vStr) && (decide (a1.vN ≥ a0.vLo))) && (decide (a1.vN ≤ a0.vHi)))) else (if (a0.vKind == 2) = true then (some a1.vStr) else (some true))))
set_option maxRecDepth 20000 in
set_option maxHeartbeats 4000000 in
theorem verify_Has.calls (a0 : api_Abs) (a1 : api_Value)  {h0 : View} {w0 : World} (hv : Sees h0 w0) {r : Bool} (H : verify_Has.f a0 a1 = some r) : Calls Tryz.prog 10 #[Value.agg #[Value.int .i64 a0.vKind, Value.int .i64 a0.vLo, Value.int .i64 a0.vHi], Value.agg #[Value.bool a1.vStr, Value.int .i64 a1.vN, Value.string a1.vS]] w0 (fun e w1 => e = .returned (Value.bool r) ∧ Ext w0 w1) := by
  unfold verify_Has.f at H
  have HS : St [] h0 w0 h0 [] w0 := St.init hv
  go_enter Tryz.func10, Tryz.ntmps10
  refine wp_seq ?_
  refine region ?_
  refine run_ex rfl rfl (does_box (cs := #[Value.int .i64 a0.vKind, Value.int .i64 a0.vLo, Value.int .i64 a0.vHi]) rfl rfl) ?_
  rintro w1 _ hE1 ⟨b1, rfl, ge1, hb1⟩
  have HS1 := HS.new hE1 ge1 hb1
  refine run_ex rfl rfl (does_box (cs := #[Value.bool a1.vStr, Value.int .i64 a1.vN, Value.string a1.vS]) rfl rfl) ?_
  rintro w2 _ hE2 ⟨b2, rfl, ge2, hb2⟩
  have HS2 := HS1.new hE2 ge2 hb2
  refine run_same (v := Value.bool false) rfl rfl (r_assign rfl) ?_
  try simp only [List.set_cons_zero, List.set_cons_succ]
  refine run_nil ?_
  refine norm_then ?_
  refine wp_seq ?_
  refine wp_seq ?_
  refine region ?_
  refine run_same (v := Value.agg #[Value.int .i64 a0.vKind, Value.int .i64 a0.vLo, Value.int .i64 a0.vHi]) rfl rfl (r_loadBoxAgg (n := 3) (vs := [Value.int .i64 a0.vKind, Value.int .i64 a0.vLo, Value.int .i64 a0.vHi]) rfl Tryz.isAgg23 (HS2.look 1 rfl) Tryz.sizeOf23 rfl rfl) ?_
  obtain ⟨v1, H1, H⟩ := of_bind H
  refine run_eq (v := Value.bool v1) rfl rfl (does_call_eq Tryz.call17 rfl rfl (verify_right.calls a0 HS2.sees H1)) ?_
  intro w3 hE3
  have HS3 := HS2.step hE3
  refine run_same (v := Value.bool (!v1)) rfl rfl (r_not rfl) ?_
  try simp only [List.set_cons_zero, List.set_cons_succ]
  refine run_nil ?_
  refine norm_then ?_
  refine wp_cond_split (t := (!v1)) rfl (fun c1 => ?_) (fun c1 => ?_)
  · replace H := of_pos H c1
    refine wp_seq ?_
    refine region ?_
    refine run_same (v := Value.bool false) rfl rfl (r_assign rfl) ?_
    try simp only [List.set_cons_zero, List.set_cons_succ]
    refine run_nil ?_
    refine norm_then ?_
    refine wp_ret ?_
    refine ret_then ?_
    obtain rfl := Option.some.inj H
    refine bodyPost_ret (results_1 rfl (one_tmp rfl)) rfl ?_
    exact ⟨rfl, HS3.toE⟩
  · replace H := of_neg H (nt c1)
    refine wp_skip ?_
    refine norm_then ?_
    refine wp_seq ?_
    refine wp_seq ?_
    refine region ?_
    refine run_same (v := Value.pointer (some ⟨b1, 0, none⟩)) rfl rfl (r_fieldBox (n := 1) (o' := 0) rfl Tryz.runUnderlying23 rfl Tryz.sizeOf3 (by decide) rfl) ?_
    refine run_same (v := Value.int .i64 a0.vKind) rfl rfl (r_loadBox rfl Tryz.isAgg3 (HS3.look 1 rfl) rfl) ?_
    try simp only [List.set_cons_zero, List.set_cons_succ]
    refine run_nil ?_
    refine norm_then ?_
    refine wp_block ?_
    refine wp_seq ?_
    refine region ?_
    refine run_same (v := Value.bool (a0.vKind == 1)) rfl rfl (r_bin rfl rfl rfl) ?_
    refine run_same (v := Value.bool (a0.vKind == 1)) rfl rfl (r_assign rfl) ?_
    try simp only [List.set_cons_zero, List.set_cons_succ]
    refine run_nil ?_
    refine norm_then ?_
    refine wp_cond_split (t := (a0.vKind == 1)) rfl (fun c2 => ?_) (fun c2 => ?_)
    · replace H := of_pos H c2
      refine wp_seq ?_
      refine region ?_
      refine run_same (v := Value.pointer (some ⟨b2, 0, none⟩)) rfl rfl (r_fieldBox (n := 1) (o' := 0) rfl Tryz.runUnderlying25 rfl Tryz.sizeOf4 (by decide) rfl) ?_
      refine run_same (v := Value.bool a1.vStr) rfl rfl (r_loadBox rfl Tryz.isAgg4 (HS3.look 0 rfl) rfl) ?_
      refine run_same (v := Value.bool (!a1.vStr)) rfl rfl (r_not rfl) ?_
      refine run_same (v := Value.bool (!a1.vStr)) rfl rfl (r_move rfl) ?_
      refine run_frame (by simp only [List.set_cons_zero, List.set_cons_succ]; rfl) ?_
      refine run_g_same (b := (!a1.vStr)) (c := true) (v := Value.pointer (some ⟨b2, 1, none⟩)) rfl rfl rfl rfl (fun hg => (r_fieldBox (n := 1) (o' := 1) rfl Tryz.runUnderlying25 rfl Tryz.sizeOf2 (by decide) rfl)) ?_
      refine run_g_same (b := (!a1.vStr)) (c := true) (v := Value.int .i64 a1.vN) rfl rfl rfl rfl (fun hg => (r_loadBox ((show _ = gv (true && ((!a1.vStr) == true)) (Value.pointer (some ⟨b2, 1, none⟩)) from rfl).trans (gv_t hg)) Tryz.isAgg2 (HS3.look 0 rfl) rfl)) ?_
      refine run_g_same (b := (!a1.vStr)) (c := true) (v := Value.pointer (some ⟨b1, 1, none⟩)) rfl rfl rfl rfl (fun hg => (r_fieldBox (n := 1) (o' := 1) rfl Tryz.runUnderlying23 rfl Tryz.sizeOf2 (by decide) rfl)) ?_
      refine run_g_same (b := (!a1.vStr)) (c := true) (v := Value.int .i64 a0.vLo) rfl rfl rfl rfl (fun hg => (r_loadBox ((show _ = gv (true && ((!a1.vStr) == true)) (Value.pointer (some ⟨b1, 1, none⟩)) from rfl).trans (gv_t hg)) Tryz.isAgg2 (HS3.look 1 rfl) rfl)) ?_
      refine run_frame (by simp only [List.set_cons_zero, List.set_cons_succ]; rfl) ?_
      refine run_g_same (b := (!a1.vStr)) (c := true) (v := Value.bool (decide (a1.vN ≥ a0.vLo))) rfl rfl rfl rfl (fun hg => (r_bin ((show _ = gv (true && ((!a1.vStr) == true)) (Value.int .i64 a1.vN) from rfl).trans (gv_t hg)) ((show _ = gv (true && ((!a1.vStr) == true)) (Value.int .i64 a0.vLo) from rfl).trans (gv_t hg)) rfl)) ?_
      refine run_same (v := Value.bool ((!a1.vStr) && (decide (a1.vN ≥ a0.vLo)))) rfl rfl (r_pick_and rfl (fun hp => ((show _ = gv (true && ((!a1.vStr) == true)) (Value.bool (decide (a1.vN ≥ a0.vLo))) from rfl).trans (gv_t (and_i rfl hp)))) rfl) ?_
      refine run_same (v := Value.bool ((!a1.vStr) && (decide (a1.vN ≥ a0.vLo)))) rfl rfl (r_move rfl) ?_
      refine run_g_same (b := ((!a1.vStr) && (decide (a1.vN ≥ a0.vLo)))) (c := true) (v := Value.pointer (some ⟨b2, 1, none⟩)) rfl rfl rfl rfl (fun hg => (r_fieldBox (n := 1) (o' := 1) rfl Tryz.runUnderlying25 rfl Tryz.sizeOf2 (by decide) rfl)) ?_
      refine run_frame (by simp only [List.set_cons_zero, List.set_cons_succ]; rfl) ?_
      refine run_g_same (b := ((!a1.vStr) && (decide (a1.vN ≥ a0.vLo)))) (c := true) (v := Value.int .i64 a1.vN) rfl rfl rfl rfl (fun hg => (r_loadBox ((show _ = gv (true && (((!a1.vStr) && (decide (a1.vN ≥ a0.vLo))) == true)) (Value.pointer (some ⟨b2, 1, none⟩)) from rfl).trans (gv_t hg)) Tryz.isAgg2 (HS3.look 0 rfl) rfl)) ?_
      refine run_g_same (b := ((!a1.vStr) && (decide (a1.vN ≥ a0.vLo)))) (c := true) (v := Value.pointer (some ⟨b1, 2, none⟩)) rfl rfl rfl rfl (fun hg => (r_fieldBox (n := 1) (o' := 2) rfl Tryz.runUnderlying23 rfl Tryz.sizeOf2 (by decide) rfl)) ?_
      refine run_g_same (b := ((!a1.vStr) && (decide (a1.vN ≥ a0.vLo)))) (c := true) (v := Value.int .i64 a0.vHi) rfl rfl rfl rfl (fun hg => (r_loadBox ((show _ = gv (true && (((!a1.vStr) && (decide (a1.vN ≥ a0.vLo))) == true)) (Value.pointer (some ⟨b1, 2, none⟩)) from rfl).trans (gv_t hg)) Tryz.isAgg2 (HS3.look 1 rfl) rfl)) ?_
      refine run_g_same (b := ((!a1.vStr) && (decide (a1.vN ≥ a0.vLo)))) (c := true) (v := Value.bool (decide (a1.vN ≤ a0.vHi))) rfl rfl rfl rfl (fun hg => (r_bin ((show _ = gv (true && (((!a1.vStr) && (decide (a1.vN ≥ a0.vLo))) == true)) (Value.int .i64 a1.vN) from rfl).trans (gv_t hg)) ((show _ = gv (true && (((!a1.vStr) && (decide (a1.vN ≥ a0.vLo))) == true)) (Value.int .i64 a0.vHi) from rfl).trans (gv_t hg)) rfl)) ?_
      refine run_frame (by simp only [List.set_cons_zero, List.set_cons_succ]; rfl) ?_
      refine run_same (v := Value.bool (((!a1.vStr) && (decide (a1.vN ≥ a0.vLo))) && (decide (a1.vN ≤ a0.vHi)))) rfl rfl (r_pick_and rfl (fun hp => ((show _ = gv (true && (((!a1.vStr) && (decide (a1.vN ≥ a0.vLo))) == true)) (Value.bool (decide (a1.vN ≤ a0.vHi))) from rfl).trans (gv_t (and_i rfl hp)))) rfl) ?_
      refine run_same (v := Value.bool (((!a1.vStr) && (decide (a1.vN ≥ a0.vLo))) && (decide (a1.vN ≤ a0.vHi)))) rfl rfl (r_assign rfl) ?_
      try simp only [List.set_cons_zero, List.set_cons_succ]
      refine run_nil ?_
      refine norm_then ?_
      refine wp_ret ?_
      refine ret_block ?_
      refine ret_then ?_
      obtain rfl := Option.some.inj H
      refine bodyPost_ret (results_1 rfl (one_tmp rfl)) rfl ?_
      exact ⟨rfl, HS3.toE⟩
    · replace H := of_neg H (nt c2)
      refine wp_seq ?_
      refine region ?_
      refine run_same (v := Value.bool (a0.vKind == 2)) rfl rfl (r_bin rfl rfl rfl) ?_
      refine run_same (v := Value.bool (a0.vKind == 2)) rfl rfl (r_assign rfl) ?_
      try simp only [List.set_cons_zero, List.set_cons_succ]
      refine run_nil ?_
      refine norm_then ?_
      refine wp_cond_split (t := (a0.vKind == 2)) rfl (fun c3 => ?_) (fun c3 => ?_)
      · replace H := of_pos H c3
        refine wp_seq ?_
        refine region ?_
        refine run_same (v := Value.pointer (some ⟨b2, 0, none⟩)) rfl rfl (r_fieldBox (n := 1) (o' := 0) rfl Tryz.runUnderlying25 rfl Tryz.sizeOf4 (by decide) rfl) ?_
        refine run_same (v := Value.bool a1.vStr) rfl rfl (r_loadBox rfl Tryz.isAgg4 (HS3.look 0 rfl) rfl) ?_
        refine run_same (v := Value.bool a1.vStr) rfl rfl (r_assign rfl) ?_
        try simp only [List.set_cons_zero, List.set_cons_succ]
        refine run_nil ?_
        refine norm_then ?_
        refine wp_ret ?_
        refine ret_block ?_
        refine ret_then ?_
        obtain rfl := Option.some.inj H
        refine bodyPost_ret (results_1 rfl (one_tmp rfl)) rfl ?_
        exact ⟨rfl, HS3.toE⟩
      · replace H := of_neg H (nt c3)
        refine wp_skip ?_
        refine norm_block ?_
        refine norm_then ?_
        refine wp_seq ?_
        refine region ?_
        refine run_same (v := Value.bool true) rfl rfl (r_assign rfl) ?_
        try simp only [List.set_cons_zero, List.set_cons_succ]
        refine run_nil ?_
        refine norm_then ?_
        refine wp_ret ?_
        obtain rfl := Option.some.inj H
        refine bodyPost_ret (results_1 rfl (one_tmp rfl)) rfl ?_
        exact ⟨rfl, HS3.toE⟩

end Go.Proofs.YtlmfgibfknjjpaaGreatDoor
namespace Go.Proofs.YtlmfgibfknjjpaaGreatDoor
open Go.RowKit Go.M
def taplineref18_Has.f (a0 : api_Abs) (a1 : api_Value) : Option (Bool) := (taplineref18_Valid.f a0).bind fun v1 => (if (!v1) = true then (some false) else (if (a0.vKind == 1) = true then (some (((!a1.vStr) && (decide (a1.vN ≥ a0.vLo))) && (decide (a1.vN ≤ a0.vHi)))) else (if (a0.vKind == 2) = true then (some a1.vStr) else (some true))))
set_option maxRecDepth 20000 in
set_option maxHeartbeats 4000000 in
theorem taplineref18_Has.calls (a0 : api_Abs) (a1 : api_Value)  {h0 : View} {w0 : World} (hv : Sees h0 w0) {r : Bool} (H : taplineref18_Has.f a0 a1 = some r) : Calls Tryz.prog 11 #[Value.agg #[Value.int .i64 a0.vKind, Value.int .i64 a0.vLo, Value.int .i64 a0.vHi], Value.agg #[Value.bool a1.vStr, Value.int .i64 a1.vN, Value.string a1.vS]] w0 (fun e w1 => e = .returned (Value.bool r) ∧ Ext w0 w1) := by
  unfold taplineref18_Has.f at H
  have HS : St [] h0 w0 h0 [] w0 := St.init hv
  go_enter Tryz.func11, Tryz.ntmps11
  refine wp_seq ?_
  refine region ?_
  refine run_ex rfl rfl (does_box (cs := #[Value.int .i64 a0.vKind, Value.int .i64 a0.vLo, Value.int .i64 a0.vHi]) rfl rfl) ?_
  rintro w1 _ hE1 ⟨b1, rfl, ge1, hb1⟩
  have HS1 := HS.new hE1 ge1 hb1
  refine run_ex rfl rfl (does_box (cs := #[Value.bool a1.vStr, Value.int .i64 a1.vN, Value.string a1.vS]) rfl rfl) ?_
  rintro w2 _ hE2 ⟨b2, rfl, ge2, hb2⟩
  have HS2 := HS1.new hE2 ge2 hb2
  refine run_same (v := Value.bool false) rfl rfl (r_assign rfl) ?_
  try simp only [List.set_cons_zero, List.set_cons_succ]
  refine run_nil ?_
  refine norm_then ?_
  refine wp_seq ?_
  refine wp_seq ?_
  refine region ?_
  refine run_same (v := Value.agg #[Value.int .i64 a0.vKind, Value.int .i64 a0.vLo, Value.int .i64 a0.vHi]) rfl rfl (r_loadBoxAgg (n := 3) (vs := [Value.int .i64 a0.vKind, Value.int .i64 a0.vLo, Value.int .i64 a0.vHi]) rfl Tryz.isAgg23 (HS2.look 1 rfl) Tryz.sizeOf23 rfl rfl) ?_
  obtain ⟨v1, H1, H⟩ := of_bind H
  refine run_eq (v := Value.bool v1) rfl rfl (does_call_eq Tryz.call19 rfl rfl (taplineref18_Valid.calls a0 HS2.sees H1)) ?_
  intro w3 hE3
  have HS3 := HS2.step hE3
  refine run_same (v := Value.bool (!v1)) rfl rfl (r_not rfl) ?_
  try simp only [List.set_cons_zero, List.set_cons_succ]
  refine run_nil ?_
  refine norm_then ?_
  refine wp_cond_split (t := (!v1)) rfl (fun c1 => ?_) (fun c1 => ?_)
  · replace H := of_pos H c1
    refine wp_seq ?_
    refine region ?_
    refine run_same (v := Value.bool false) rfl rfl (r_assign rfl) ?_
    try simp only [List.set_cons_zero, List.set_cons_succ]
    refine run_nil ?_
    refine norm_then ?_
    refine wp_ret ?_
    refine ret_then ?_
    obtain rfl := Option.some.inj H
    refine bodyPost_ret (results_1 rfl (one_tmp rfl)) rfl ?_
    exact ⟨rfl, HS3.toE⟩
  · replace H := of_neg H (nt c1)
    refine wp_skip ?_
    refine norm_then ?_
    refine wp_seq ?_
    refine wp_seq ?_
    refine region ?_
    refine run_same (v := Value.pointer (some ⟨b1, 0, none⟩)) rfl rfl (r_fieldBox (n := 1) (o' := 0) rfl Tryz.runUnderlying23 rfl Tryz.sizeOf3 (by decide) rfl) ?_
    refine run_same (v := Value.int .i64 a0.vKind) rfl rfl (r_loadBox rfl Tryz.isAgg3 (HS3.look 1 rfl) rfl) ?_
    try simp only [List.set_cons_zero, List.set_cons_succ]
    refine run_nil ?_
    refine norm_then ?_
    refine wp_block ?_
    refine wp_seq ?_
    refine region ?_
    refine run_same (v := Value.bool (a0.vKind == 1)) rfl rfl (r_bin rfl rfl rfl) ?_
    refine run_same (v := Value.bool (a0.vKind == 1)) rfl rfl (r_assign rfl) ?_
    try simp only [List.set_cons_zero, List.set_cons_succ]
    refine run_nil ?_
    refine norm_then ?_
    refine wp_cond_split (t := (a0.vKind == 1)) rfl (fun c2 => ?_) (fun c2 => ?_)
    · replace H := of_pos H c2
      refine wp_seq ?_
      refine region ?_
      refine run_same (v := Value.pointer (some ⟨b2, 0, none⟩)) rfl rfl (r_fieldBox (n := 1) (o' := 0) rfl Tryz.runUnderlying25 rfl Tryz.sizeOf4 (by decide) rfl) ?_
      refine run_same (v := Value.bool a1.vStr) rfl rfl (r_loadBox rfl Tryz.isAgg4 (HS3.look 0 rfl) rfl) ?_
      refine run_same (v := Value.bool (!a1.vStr)) rfl rfl (r_not rfl) ?_
      refine run_same (v := Value.bool (!a1.vStr)) rfl rfl (r_move rfl) ?_
      refine run_frame (by simp only [List.set_cons_zero, List.set_cons_succ]; rfl) ?_
      refine run_g_same (b := (!a1.vStr)) (c := true) (v := Value.pointer (some ⟨b2, 1, none⟩)) rfl rfl rfl rfl (fun hg => (r_fieldBox (n := 1) (o' := 1) rfl Tryz.runUnderlying25 rfl Tryz.sizeOf2 (by decide) rfl)) ?_
      refine run_g_same (b := (!a1.vStr)) (c := true) (v := Value.int .i64 a1.vN) rfl rfl rfl rfl (fun hg => (r_loadBox ((show _ = gv (true && ((!a1.vStr) == true)) (Value.pointer (some ⟨b2, 1, none⟩)) from rfl).trans (gv_t hg)) Tryz.isAgg2 (HS3.look 0 rfl) rfl)) ?_
      refine run_g_same (b := (!a1.vStr)) (c := true) (v := Value.pointer (some ⟨b1, 1, none⟩)) rfl rfl rfl rfl (fun hg => (r_fieldBox (n := 1) (o' := 1) rfl Tryz.runUnderlying23 rfl Tryz.sizeOf2 (by decide) rfl)) ?_
      refine run_g_same (b := (!a1.vStr)) (c := true) (v := Value.int .i64 a0.vLo) rfl rfl rfl rfl (fun hg => (r_loadBox ((show _ = gv (true && ((!a1.vStr) == true)) (Value.pointer (some ⟨b1, 1, none⟩)) from rfl).trans (gv_t hg)) Tryz.isAgg2 (HS3.look 1 rfl) rfl)) ?_
      refine run_frame (by simp only [List.set_cons_zero, List.set_cons_succ]; rfl) ?_
      refine run_g_same (b := (!a1.vStr)) (c := true) (v := Value.bool (decide (a1.vN ≥ a0.vLo))) rfl rfl rfl rfl (fun hg => (r_bin ((show _ = gv (true && ((!a1.vStr) == true)) (Value.int .i64 a1.vN) from rfl).trans (gv_t hg)) ((show _ = gv (true && ((!a1.vStr) == true)) (Value.int .i64 a0.vLo) from rfl).trans (gv_t hg)) rfl)) ?_
      refine run_same (v := Value.bool ((!a1.vStr) && (decide (a1.vN ≥ a0.vLo)))) rfl rfl (r_pick_and rfl (fun hp => ((show _ = gv (true && ((!a1.vStr) == true)) (Value.bool (decide (a1.vN ≥ a0.vLo))) from rfl).trans (gv_t (and_i rfl hp)))) rfl) ?_
      refine run_same (v := Value.bool ((!a1.vStr) && (decide (a1.vN ≥ a0.vLo)))) rfl rfl (r_move rfl) ?_
      refine run_g_same (b := ((!a1.vStr) && (decide (a1.vN ≥ a0.vLo)))) (c := true) (v := Value.pointer (some ⟨b2, 1, none⟩)) rfl rfl rfl rfl (fun hg => (r_fieldBox (n := 1) (o' := 1) rfl Tryz.runUnderlying25 rfl Tryz.sizeOf2 (by decide) rfl)) ?_
      refine run_frame (by simp only [List.set_cons_zero, List.set_cons_succ]; rfl) ?_
      refine run_g_same (b := ((!a1.vStr) && (decide (a1.vN ≥ a0.vLo)))) (c := true) (v := Value.int .i64 a1.vN) rfl rfl rfl rfl (fun hg => (r_loadBox ((show _ = gv (true && (((!a1.vStr) && (decide (a1.vN ≥ a0.vLo))) == true)) (Value.pointer (some ⟨b2, 1, none⟩)) from rfl).trans (gv_t hg)) Tryz.isAgg2 (HS3.look 0 rfl) rfl)) ?_
      refine run_g_same (b := ((!a1.vStr) && (decide (a1.vN ≥ a0.vLo)))) (c := true) (v := Value.pointer (some ⟨b1, 2, none⟩)) rfl rfl rfl rfl (fun hg => (r_fieldBox (n := 1) (o' := 2) rfl Tryz.runUnderlying23 rfl Tryz.sizeOf2 (by decide) rfl)) ?_
      refine run_g_same (b := ((!a1.vStr) && (decide (a1.vN ≥ a0.vLo)))) (c := true) (v := Value.int .i64 a0.vHi) rfl rfl rfl rfl (fun hg => (r_loadBox ((show _ = gv (true && (((!a1.vStr) && (decide (a1.vN ≥ a0.vLo))) == true)) (Value.pointer (some ⟨b1, 2, none⟩)) from rfl).trans (gv_t hg)) Tryz.isAgg2 (HS3.look 1 rfl) rfl)) ?_
      refine run_g_same (b := ((!a1.vStr) && (decide (a1.vN ≥ a0.vLo)))) (c := true) (v := Value.bool (decide (a1.vN ≤ a0.vHi))) rfl rfl rfl rfl (fun hg => (r_bin ((show _ = gv (true && (((!a1.vStr) && (decide (a1.vN ≥ a0.vLo))) == true)) (Value.int .i64 a1.vN) from rfl).trans (gv_t hg)) ((show _ = gv (true && (((!a1.vStr) && (decide (a1.vN ≥ a0.vLo))) == true)) (Value.int .i64 a0.vHi) from rfl).trans (gv_t hg)) rfl)) ?_
      refine run_frame (by simp only [List.set_cons_zero, List.set_cons_succ]; rfl) ?_
      refine run_same (v := Value.bool (((!a1.vStr) && (decide (a1.vN ≥ a0.vLo))) && (decide (a1.vN ≤ a0.vHi)))) rfl rfl (r_pick_and rfl (fun hp => ((show _ = gv (true && (((!a1.vStr) && (decide (a1.vN ≥ a0.vLo))) == true)) (Value.bool (decide (a1.vN ≤ a0.vHi))) from rfl).trans (gv_t (and_i rfl hp)))) rfl) ?_
      refine run_same (v := Value.bool (((!a1.vStr) && (decide (a1.vN ≥ a0.vLo))) && (decide (a1.vN ≤ a0.vHi)))) rfl rfl (r_assign rfl) ?_
      try simp only [List.set_cons_zero, List.set_cons_succ]
      refine run_nil ?_
      refine norm_then ?_
      refine wp_ret ?_
      refine ret_block ?_
      refine ret_then ?_
      obtain rfl := Option.some.inj H
      refine bodyPost_ret (results_1 rfl (one_tmp rfl)) rfl ?_
      exact ⟨rfl, HS3.toE⟩
    · replace H := of_neg H (nt c2)
      refine wp_seq ?_
      refine region ?_
      refine run_same (v := Value.bool (a0.vKind == 2)) rfl rfl (r_bin rfl rfl rfl) ?_
      refine run_same (v := Value.bool (a0.vKind == 2)) rfl rfl (r_assign rfl) ?_
      try simp only [List.set_cons_zero, List.set_cons_succ]
      refine run_nil ?_
      refine norm_then ?_
      refine wp_cond_split (t := (a0.vKind == 2)) rfl (fun c3 => ?_) (fun c3 => ?_)
      · replace H := of_pos H c3
        refine wp_seq ?_
        refine region ?_
        refine run_same (v := Value.pointer (some ⟨b2, 0, none⟩)) rfl rfl (r_fieldBox (n := 1) (o' := 0) rfl Tryz.runUnderlying25 rfl Tryz.sizeOf4 (by decide) rfl) ?_
        refine run_same (v := Value.bool a1.vStr) rfl rfl (r_loadBox rfl Tryz.isAgg4 (HS3.look 0 rfl) rfl) ?_
        refine run_same (v := Value.bool a1.vStr) rfl rfl (r_assign rfl) ?_
        try simp only [List.set_cons_zero, List.set_cons_succ]
        refine run_nil ?_
        refine norm_then ?_
        refine wp_ret ?_
        refine ret_block ?_
        refine ret_then ?_
        obtain rfl := Option.some.inj H
        refine bodyPost_ret (results_1 rfl (one_tmp rfl)) rfl ?_
        exact ⟨rfl, HS3.toE⟩
      · replace H := of_neg H (nt c3)
        refine wp_skip ?_
        refine norm_block ?_
        refine norm_then ?_
        refine wp_seq ?_
        refine region ?_
        refine run_same (v := Value.bool true) rfl rfl (r_assign rfl) ?_
        try simp only [List.set_cons_zero, List.set_cons_succ]
        refine run_nil ?_
        refine norm_then ?_
        refine wp_ret ?_
        obtain rfl := Option.some.inj H
        refine bodyPost_ret (results_1 rfl (one_tmp rfl)) rfl ?_
        exact ⟨rfl, HS3.toE⟩

end Go.Proofs.YtlmfgibfknjjpaaGreatDoor
/- Abstract values: what Join, Below and Has come to, and their laws. -/
namespace Go.Proofs.YtlmfgibfknjjpaaGreatDoor
open Go.M
def rt (a : api_Abs) : Bool := if (a.vKind == 1) = true then decide (a.vLo ≤ a.vHi) else ((((a.vKind == 0) || (a.vKind == 2)) && (a.vLo == 0)) && (a.vHi == 0))
theorem right_eq (a : api_Abs) : verify_right.f a = some (rt a) := by
  obtain ⟨k, l, h⟩ := a
  unfold verify_right.f rt
  by_cases h0 : k = 0
  · subst h0; simp
  · by_cases h2 : k = 2
    · subst h2; simp
    · by_cases h1 : k = 1
      · subst h1; simp
      · simp [h0, h1, h2]
theorem valid_eq (a : api_Abs) : taplineref18_Valid.f a = some (rt a) := by
  unfold taplineref18_Valid.f rt
  split <;> rfl
theorem rt_cases {a : api_Abs} (h : rt a = true) : (a.vKind = 1 ∧ a.vLo ≤ a.vHi) ∨ (a.vKind = 0 ∧ a.vLo = 0 ∧ a.vHi = 0) ∨ (a.vKind = 2 ∧ a.vLo = 0 ∧ a.vHi = 0) := by
  unfold rt at h
  split at h
  · next h1 => exact .inl ⟨by simpa using h1, by simpa using h⟩
  · simp only [Bool.and_eq_true, Bool.or_eq_true, beq_iff_eq] at h
    rcases h.1.1 with h0 | h0
    · exact .inr (.inl ⟨h0, h.1.2, h.2⟩)
    · exact .inr (.inr ⟨h0, h.1.2, h.2⟩)
def Jn (a b : api_Abs) : api_Abs := if ((!rt a) || (!rt b)) || (a.vKind != b.vKind) then ⟨0, 0, 0⟩ else if a.vKind == 1 then ⟨1, iMin a.vLo b.vLo, iMax a.vHi b.vHi⟩ else a
def Bl (a b : api_Abs) : Bool := (rt a && rt b) && ((b.vKind == 0) || (((a.vKind == b.vKind) && decide (a.vLo ≥ b.vLo)) && decide (a.vHi ≤ b.vHi)))
def Hs (a : api_Abs) (v : api_Value) : Bool := rt a && (if a.vKind == 1 then ((!v.vStr) && decide (v.vN ≥ a.vLo)) && decide (v.vN ≤ a.vHi) else if a.vKind == 2 then v.vStr else true)
theorem Join_eq (a b : api_Abs) : verify_Join.f a b = some (Jn a b) := by
  unfold verify_Join.f Jn
  rw [right_eq]
  cases ha : rt a with
  | false => simp
  | true =>
    simp only [Option.bind_some, Bool.not_true, beq_self_eq_true, Bool.and_self, if_true, right_eq]
    cases hb : rt b with
    | false => simp
    | true =>
      obtain ⟨k, l, h⟩ := a
      obtain ⟨k', l', h'⟩ := b
      unfold verify_join.f verify_span.f
      rcases rt_cases ha with ⟨h1, h2⟩ | ⟨h1, h2, h3⟩ | ⟨h1, h2, h3⟩ <;> rcases rt_cases hb with ⟨g1, g2⟩ | ⟨g1, g2, g3⟩ | ⟨g1, g2, g3⟩ <;> simp only at h1 h2 g1 g2 <;> simp_all
theorem RJoin_eq (a b : api_Abs) : taplineref18_Join.f a b = some (Jn a b) := by
  unfold taplineref18_Join.f Jn
  rw [valid_eq]
  cases ha : rt a with
  | false => simp
  | true =>
    simp only [Option.bind_some, Bool.not_true, beq_self_eq_true, Bool.and_self, if_true, valid_eq, taplineref18_from.f]
    cases hb : rt b with
    | false => simp
    | true =>
      simp only [Bool.not_true, Bool.false_or]
      split
      · rfl
      · split <;> rfl
theorem Below_eq (a b : api_Abs) : verify_Below.f a b = some (Bl a b) := by
  unfold verify_Below.f Bl
  rw [right_eq]
  cases ha : rt a with
  | false => simp
  | true =>
    simp only [Option.bind_some, beq_self_eq_true, Bool.and_self, if_true, right_eq]
    cases hb : rt b with
    | false => simp
    | true =>
      obtain ⟨k, l, h⟩ := a
      obtain ⟨k', l', h'⟩ := b
      unfold verify_below.f
      rcases rt_cases ha with ⟨h1, h2⟩ | ⟨h1, h2, h3⟩ | ⟨h1, h2, h3⟩ <;> rcases rt_cases hb with ⟨g1, g2⟩ | ⟨g1, g2, g3⟩ | ⟨g1, g2, g3⟩ <;> simp only at h1 h2 g1 g2 <;> simp_all
theorem RBelow_eq (a b : api_Abs) : taplineref18_Below.f a b = some (Bl a b) := by
  unfold taplineref18_Below.f Bl
  rw [valid_eq]
  cases ha : rt a with
  | false => simp
  | true =>
    simp only [Option.bind_some, Bool.not_true, beq_self_eq_true, Bool.and_self, if_true, valid_eq]
    cases hb : rt b with
    | false => simp
    | true =>
      simp only [Bool.not_true, Bool.or_self, Bool.false_eq_true, if_false, Bool.true_and]
      split
      · next h => rw [h]; simp
      · next h => simp only [Bool.not_eq_true] at h; rw [h]; simp
theorem Has_eq (a : api_Abs) (v : api_Value) : verify_Has.f a v = some (Hs a v) := by
  unfold verify_Has.f Hs
  rw [right_eq]
  cases ha : rt a with
  | false => simp
  | true =>
    simp only [Option.bind_some, Bool.not_true, Bool.false_eq_true, if_false, Bool.true_and]
    split
    · rfl
    · split <;> rfl
theorem RHas_eq (a : api_Abs) (v : api_Value) : taplineref18_Has.f a v = some (Hs a v) := by
  unfold taplineref18_Has.f Hs
  rw [valid_eq]
  cases ha : rt a with
  | false => simp
  | true =>
    simp only [Option.bind_some, Bool.not_true, Bool.false_eq_true, if_false, Bool.true_and]
    split
    · rfl
    · split <;> rfl
/-! ### the laws -/
theorem Bl_self (a : api_Abs) : Bl a a = rt a := by
  unfold Bl
  cases ha : rt a with
  | false => rfl
  | true => simp
theorem none_ok : rt ⟨0, 0, 0⟩ = true := rfl
theorem Bl_none (a : api_Abs) : Bl a ⟨0, 0, 0⟩ = rt a := by
  unfold Bl
  rw [none_ok]
  simp
theorem Bl_trans {a b c : api_Abs} (h : Bl a b = true) (k : Bl b c = true) : Bl a c = true := by
  unfold Bl at *
  simp only [Bool.and_eq_true, Bool.or_eq_true, beq_iff_eq, decide_eq_true_eq] at *
  obtain ⟨⟨ha, hb⟩, h⟩ := h
  obtain ⟨⟨_, hc⟩, k⟩ := k
  refine ⟨⟨ha, hc⟩, ?_⟩
  rcases k with k | k
  · exact .inl k
  · rcases h with h | h
    · exact .inl (by omega)
    · exact .inr (by omega)
theorem Bl_anti {a b : api_Abs} (h : Bl a b = true) (k : Bl b a = true) : a.vKind = b.vKind ∧ a.vLo = b.vLo ∧ a.vHi = b.vHi := by
  unfold Bl at *
  simp only [Bool.and_eq_true, Bool.or_eq_true, beq_iff_eq, decide_eq_true_eq] at *
  obtain ⟨⟨ha, hb⟩, h⟩ := h
  obtain ⟨_, k⟩ := k
  have h1 := rt_cases ha
  have h2 := rt_cases hb
  omega
theorem rt_of {k l h : Int} (x : (k = 1 ∧ l ≤ h) ∨ (k = 0 ∧ l = 0 ∧ h = 0) ∨ (k = 2 ∧ l = 0 ∧ h = 0)) : rt ⟨k, l, h⟩ = true := by
  rcases x with ⟨rfl, x⟩ | ⟨rfl, rfl, rfl⟩ | ⟨rfl, rfl, rfl⟩
  · simpa [rt] using x
  · rfl
  · rfl
theorem Jn_eq {a b : api_Abs} (ha : rt a = true) (hb : rt b = true) : Jn a b = if a.vKind = b.vKind then (if a.vKind = 1 then ⟨1, iMin a.vLo b.vLo, iMax a.vHi b.vHi⟩ else a) else ⟨0, 0, 0⟩ := by
  unfold Jn
  rw [ha, hb]
  by_cases h : a.vKind = b.vKind
  · by_cases h1 : a.vKind = 1
    · simp [h, h1, h ▸ h1]
    · have : ¬ b.vKind = 1 := fun e => h1 (h.trans e)
      simp [h, this]
  · simp [h]
theorem Jn_rt {a b : api_Abs} (ha : rt a = true) (hb : rt b = true) : rt (Jn a b) = true := by
  rw [Jn_eq ha hb]
  split
  · split
    · have h1 := rt_cases ha
      have h2 := rt_cases hb
      refine rt_of (.inl ⟨rfl, ?_⟩)
      unfold iMin iMax
      split <;> split <;> omega
    · exact ha
  · rfl
theorem ext3 {a b : api_Abs} (h1 : a.vKind = b.vKind) (h2 : a.vLo = b.vLo) (h3 : a.vHi = b.vHi) : a = b := by
  obtain ⟨k, l, h⟩ := a
  obtain ⟨k', l', h'⟩ := b
  simp only at h1 h2 h3
  subst h1 h2 h3
  rfl
theorem Jn_comm {a b : api_Abs} (ha : rt a = true) (hb : rt b = true) : Jn a b = Jn b a := by
  have h1 := rt_cases ha
  have h2 := rt_cases hb
  rw [Jn_eq ha hb, Jn_eq hb ha]
  by_cases h : a.vKind = b.vKind
  · rw [if_pos h, if_pos h.symm]
    by_cases k : a.vKind = 1
    · rw [if_pos k, if_pos (h ▸ k)]
      refine ext3 rfl ?_ ?_
      · simp only [iMin]; split <;> split <;> omega
      · simp only [iMax]; split <;> split <;> omega
    · rw [if_neg k, if_neg (h ▸ k)]
      exact ext3 h (by omega) (by omega)
  · rw [if_neg h, if_neg (fun e => h e.symm)]
theorem Jn_idem {a : api_Abs} (ha : rt a = true) : Jn a a = a := by
  rw [Jn_eq ha ha, if_pos rfl]
  split
  · next h => exact ext3 h.symm (by simp [iMin]) (by simp [iMax])
  · rfl
theorem Jn_assoc {a b c : api_Abs} (ha : rt a = true) (hb : rt b = true) (hc : rt c = true) : Jn (Jn a b) c = Jn a (Jn b c) := by
  have h1 := rt_cases ha
  have h2 := rt_cases hb
  have h3 := rt_cases hc
  rw [Jn_eq (Jn_rt ha hb) hc, Jn_eq ha (Jn_rt hb hc), Jn_eq ha hb, Jn_eq hb hc]
  obtain ⟨k, l, h⟩ := a
  obtain ⟨k', l', h'⟩ := b
  obtain ⟨k2, l2, h2'⟩ := c
  simp only at h1 h2 h3 ⊢
  rcases h1 with ⟨rfl, h1⟩ | ⟨rfl, rfl, rfl⟩ | ⟨rfl, rfl, rfl⟩ <;> rcases h2 with ⟨rfl, h2⟩ | ⟨rfl, rfl, rfl⟩ | ⟨rfl, rfl, rfl⟩ <;> rcases h3 with ⟨rfl, h3⟩ | ⟨rfl, rfl, rfl⟩ | ⟨rfl, rfl, rfl⟩ <;> simp [iMin, iMax]
  constructor
  · repeat' split
    all_goals omega
  · repeat' split
    all_goals omega
theorem Bl_iff {a b : api_Abs} (ha : rt a = true) (hb : rt b = true) : Bl a b = true ↔ b.vKind = 0 ∨ (a.vKind = b.vKind ∧ b.vLo ≤ a.vLo ∧ a.vHi ≤ b.vHi) := by
  unfold Bl
  rw [ha, hb]
  simp only [Bool.and_eq_true, Bool.or_eq_true, beq_iff_eq, decide_eq_true_eq, Bool.and_self, true_and, ge_iff_le, and_assoc]
theorem Jn_ub {a b : api_Abs} (ha : rt a = true) (hb : rt b = true) : Bl a (Jn a b) = true := by
  rw [Bl_iff ha (Jn_rt ha hb), Jn_eq ha hb]
  have h1 := rt_cases ha
  have h2 := rt_cases hb
  split
  · split
    · simp only [iMin, iMax]
      refine .inr ⟨by omega, ?_, ?_⟩ <;> split <;> omega
    · exact .inr ⟨rfl, Int.le_refl _, Int.le_refl _⟩
  · exact .inl rfl
theorem Jn_least {a b c : api_Abs} (ha : rt a = true) (hb : rt b = true) (hc : rt c = true) (h : Bl a c = true) (k : Bl b c = true) : Bl (Jn a b) c = true := by
  rw [Bl_iff ha hc] at h
  rw [Bl_iff hb hc] at k
  rw [Bl_iff (Jn_rt ha hb) hc, Jn_eq ha hb]
  rcases h with h | h
  · exact .inl h
  · rcases k with k | k
    · exact .inl k
    · refine .inr ?_
      rw [if_pos (h.1.trans k.1.symm)]
      split
      · simp only [iMin, iMax]
        refine ⟨by omega, ?_, ?_⟩ <;> split <;> omega
      · exact h
theorem Hs_mono {a b : api_Abs} {v : api_Value} (h : Bl a b = true) (k : Hs a v = true) : Hs b v = true := by
  have hb : rt b = true := by
    unfold Bl at h
    simp only [Bool.and_eq_true] at h
    exact h.1.2
  have ha : rt a = true := by
    unfold Bl at h
    simp only [Bool.and_eq_true] at h
    exact h.1.1
  rw [Bl_iff ha hb] at h
  unfold Hs at *
  rw [hb]
  rw [ha] at k
  rcases h with h | ⟨h1, h2, h3⟩
  · rw [h]; rfl
  · rw [← h1]
    simp only [Bool.true_and] at *
    split at k
    · next e =>
      rw [if_pos e]
      simp only [Bool.and_eq_true, decide_eq_true_eq] at *
      exact ⟨⟨k.1.1, by omega⟩, by omega⟩
    · next e =>
      rw [if_neg e]
      exact k
end Go.Proofs.YtlmfgibfknjjpaaGreatDoor
namespace Go.Proofs.YtlmfgibfknjjpaaGreatDoor
open Go.RowKit Go.M
def taplinelaw18_VerifyValues.f (a0 : api_Abs) (a1 : api_Abs) (a2 : api_Value) : Option (Bool) := (taplinelaw18_sane.f).bind fun v1 => ((if (true && (v1 == true)) = true then verify_Join.f a0 a1 else some z_api_Abs).bind fun v2 => ((if (true && (v1 == true)) = true then taplineref18_Join.f a0 a1 else some z_api_Abs).bind fun v3 => ((if (true && ((v1 && ((v2.vKind == v3.vKind) && ((v2.vLo == v3.vLo) && ((v2.vHi == v3.vHi) && true)))) == true)) = true then verify_Below.f a0 a1 else some false).bind fun v4 => ((if (true && ((v1 && ((v2.vKind == v3.vKind) && ((v2.vLo == v3.vLo) && ((v2.vHi == v3.vHi) && true)))) == true)) = true then taplineref18_Below.f a0 a1 else some false).bind fun v5 => ((if (true && (((v1 && ((v2.vKind == v3.vKind) && ((v2.vLo == v3.vLo) && ((v2.vHi == v3.vHi) && true)))) && (v4 == v5)) == true)) = true then verify_Has.f a0 a2 else some false).bind fun v6 => ((if (true && (((v1 && ((v2.vKind == v3.vKind) && ((v2.vLo == v3.vLo) && ((v2.vHi == v3.vHi) && true)))) && (v4 == v5)) == true)) = true then taplineref18_Has.f a0 a2 else some false).bind fun v7 => (some (((v1 && ((v2.vKind == v3.vKind) && ((v2.vLo == v3.vLo) && ((v2.vHi == v3.vHi) && true)))) && (v4 == v5)) && (v6 == v7)))))))))
set_option maxRecDepth 20000 in
set_option maxHeartbeats 4000000 in
theorem taplinelaw18_VerifyValues.calls (a0 : api_Abs) (a1 : api_Abs) (a2 : api_Value)  {h0 : View} {w0 : World} (hv : Sees h0 w0) (ht : Tab w0) {r : Bool} (H : taplinelaw18_VerifyValues.f a0 a1 a2 = some r) : Calls Tryz.prog 3 #[Value.agg #[Value.int .i64 a0.vKind, Value.int .i64 a0.vLo, Value.int .i64 a0.vHi], Value.agg #[Value.int .i64 a1.vKind, Value.int .i64 a1.vLo, Value.int .i64 a1.vHi], Value.agg #[Value.bool a2.vStr, Value.int .i64 a2.vN, Value.string a2.vS]] w0 (fun e w1 => e = .returned (Value.bool r) ∧ Ext w0 w1) := by
  unfold taplinelaw18_VerifyValues.f at H
  have HS : St [] h0 w0 h0 [] w0 := St.init hv
  go_enter Tryz.func3, Tryz.ntmps3
  refine wp_seq ?_
  refine region ?_
  refine run_ex rfl rfl (does_box (cs := #[Value.int .i64 a0.vKind, Value.int .i64 a0.vLo, Value.int .i64 a0.vHi]) rfl rfl) ?_
  rintro w1 _ hE1 ⟨b1, rfl, ge1, hb1⟩
  have HS1 := HS.new hE1 ge1 hb1
  refine run_ex rfl rfl (does_box (cs := #[Value.int .i64 a1.vKind, Value.int .i64 a1.vLo, Value.int .i64 a1.vHi]) rfl rfl) ?_
  rintro w2 _ hE2 ⟨b2, rfl, ge2, hb2⟩
  have HS2 := HS1.new hE2 ge2 hb2
  refine run_ex rfl rfl (does_box (cs := #[Value.bool a2.vStr, Value.int .i64 a2.vN, Value.string a2.vS]) rfl rfl) ?_
  rintro w3 _ hE3 ⟨b3, rfl, ge3, hb3⟩
  have HS3 := HS2.new hE3 ge3 hb3
  refine run_same (v := Value.bool false) rfl rfl (r_assign rfl) ?_
  try simp only [List.set_cons_zero, List.set_cons_succ]
  refine run_nil ?_
  refine norm_then ?_
  refine wp_seq ?_
  refine region ?_
  obtain ⟨v1, H1, H⟩ := of_bind H
  refine run_eq (v := Value.bool v1) rfl rfl (does_call_eq Tryz.call5 rfl rfl (taplinelaw18_sane.calls HS3.sees (ht.s HS3) H1)) ?_
  intro w4 hE4
  have HS4 := HS3.step hE4
  refine run_same (v := Value.bool v1) rfl rfl (r_assign rfl) ?_
  try simp only [List.set_cons_zero, List.set_cons_succ]
  refine run_nil ?_
  refine norm_then ?_
  refine wp_seq ?_
  obtain ⟨v2, H2, H⟩ := of_bind H
  obtain ⟨v3, H3, H⟩ := of_bind H
  obtain ⟨v4, H4, H⟩ := of_bind H
  obtain ⟨v5, H5, H⟩ := of_bind H
  obtain ⟨v6, H6, H⟩ := of_bind H
  obtain ⟨v7, H7, H⟩ := of_bind H
  refine drawn [.eq (Value.bool v1), .eq (Value.bool v1), .eq (gv (true && (v1 == true)) (Value.agg #[Value.int .i64 a0.vKind, Value.int .i64 a0.vLo, Value.int .i64 a0.vHi])), .eq (gv (true && (v1 == true)) (Value.agg #[Value.int .i64 a1.vKind, Value.int .i64 a1.vLo, Value.int .i64 a1.vHi])), .eq (gv (true && (v1 == true)) (Value.agg #[Value.int .i64 v2.vKind, Value.int .i64 v2.vLo, Value.int .i64 v2.vHi])), .eq (gv (true && (v1 == true)) (Value.agg #[Value.int .i64 a0.vKind, Value.int .i64 a0.vLo, Value.int .i64 a0.vHi])), .eq (gv (true && (v1 == true)) (Value.agg #[Value.int .i64 a1.vKind, Value.int .i64 a1.vLo, Value.int .i64 a1.vHi])), .eq (gv (true && (v1 == true)) (Value.agg #[Value.int .i64 v3.vKind, Value.int .i64 v3.vLo, Value.int .i64 v3.vHi])), .eq (gv (true && (v1 == true)) (Value.bool ((v2.vKind == v3.vKind) && ((v2.vLo == v3.vLo) && ((v2.vHi == v3.vHi) && true))))), .eq (Value.bool (v1 && ((v2.vKind == v3.vKind) && ((v2.vLo == v3.vLo) && ((v2.vHi == v3.vHi) && true))))), .eq (Value.bool (v1 && ((v2.vKind == v3.vKind) && ((v2.vLo == v3.vLo) && ((v2.vHi == v3.vHi) && true))))), .eq (gv (true && ((v1 && ((v2.vKind == v3.vKind) && ((v2.vLo == v3.vLo) && ((v2.vHi == v3.vHi) && true)))) == true)) (Value.agg #[Value.int .i64 a0.vKind, Value.int .i64 a0.vLo, Value.int .i64 a0.vHi])), .eq (gv (true && ((v1 && ((v2.vKind == v3.vKind) && ((v2.vLo == v3.vLo) && ((v2.vHi == v3.vHi) && true)))) == true)) (Value.agg #[Value.int .i64 a1.vKind, Value.int .i64 a1.vLo, Value.int .i64 a1.vHi])), .eq (gv (true && ((v1 && ((v2.vKind == v3.vKind) && ((v2.vLo == v3.vLo) && ((v2.vHi == v3.vHi) && true)))) == true)) (Value.bool v4)), .eq (gv (true && ((v1 && ((v2.vKind == v3.vKind) && ((v2.vLo == v3.vLo) && ((v2.vHi == v3.vHi) && true)))) == true)) (Value.agg #[Value.int .i64 a0.vKind, Value.int .i64 a0.vLo, Value.int .i64 a0.vHi])), .eq (gv (true && ((v1 && ((v2.vKind == v3.vKind) && ((v2.vLo == v3.vLo) && ((v2.vHi == v3.vHi) && true)))) == true)) (Value.agg #[Value.int .i64 a1.vKind, Value.int .i64 a1.vLo, Value.int .i64 a1.vHi])), .eq (gv (true && ((v1 && ((v2.vKind == v3.vKind) && ((v2.vLo == v3.vLo) && ((v2.vHi == v3.vHi) && true)))) == true)) (Value.bool v5)), .eq (gv (true && ((v1 && ((v2.vKind == v3.vKind) && ((v2.vLo == v3.vLo) && ((v2.vHi == v3.vHi) && true)))) == true)) (Value.bool (v4 == v5))), .eq (Value.bool ((v1 && ((v2.vKind == v3.vKind) && ((v2.vLo == v3.vLo) && ((v2.vHi == v3.vHi) && true)))) && (v4 == v5))), .eq (Value.bool ((v1 && ((v2.vKind == v3.vKind) && ((v2.vLo == v3.vLo) && ((v2.vHi == v3.vHi) && true)))) && (v4 == v5))), .eq (gv (true && (((v1 && ((v2.vKind == v3.vKind) && ((v2.vLo == v3.vLo) && ((v2.vHi == v3.vHi) && true)))) && (v4 == v5)) == true)) (Value.agg #[Value.int .i64 a0.vKind, Value.int .i64 a0.vLo, Value.int .i64 a0.vHi])), .eq (gv (true && (((v1 && ((v2.vKind == v3.vKind) && ((v2.vLo == v3.vLo) && ((v2.vHi == v3.vHi) && true)))) && (v4 == v5)) == true)) (Value.agg #[Value.bool a2.vStr, Value.int .i64 a2.vN, Value.string a2.vS])), .eq (gv (true && (((v1 && ((v2.vKind == v3.vKind) && ((v2.vLo == v3.vLo) && ((v2.vHi == v3.vHi) && true)))) && (v4 == v5)) == true)) (Value.bool v6)), .eq (gv (true && (((v1 && ((v2.vKind == v3.vKind) && ((v2.vLo == v3.vLo) && ((v2.vHi == v3.vHi) && true)))) && (v4 == v5)) == true)) (Value.agg #[Value.int .i64 a0.vKind, Value.int .i64 a0.vLo, Value.int .i64 a0.vHi])), .eq (gv (true && (((v1 && ((v2.vKind == v3.vKind) && ((v2.vLo == v3.vLo) && ((v2.vHi == v3.vHi) && true)))) && (v4 == v5)) == true)) (Value.agg #[Value.bool a2.vStr, Value.int .i64 a2.vN, Value.string a2.vS])), .eq (gv (true && (((v1 && ((v2.vKind == v3.vKind) && ((v2.vLo == v3.vLo) && ((v2.vHi == v3.vHi) && true)))) && (v4 == v5)) == true)) (Value.bool v7)), .eq (gv (true && (((v1 && ((v2.vKind == v3.vKind) && ((v2.vLo == v3.vLo) && ((v2.vHi == v3.vHi) && true)))) && (v4 == v5)) == true)) (Value.bool (v6 == v7))), .eq (Value.bool (((v1 && ((v2.vKind == v3.vKind) && ((v2.vLo == v3.vLo) && ((v2.vHi == v3.vHi) && true)))) && (v4 == v5)) && (v6 == v7)))] [9, 10, 11, 12, 13, 14, 15, 16, 17, 18, 19, 20, 21, 22, 23, 24, 25, 26, 27, 28, 29, 30, 31, 32, 33, 34, 35, 36] hmix (by kernel_rfl) rfl (stable_eq (stable_eq (stable_eq (stable_eq (stable_eq (stable_eq (stable_eq (stable_eq (stable_eq (stable_eq (stable_eq (stable_eq (stable_eq (stable_eq (stable_eq (stable_eq (stable_eq (stable_eq (stable_eq (stable_eq (stable_eq (stable_eq (stable_eq (stable_eq (stable_eq (stable_eq (stable_eq (stable_eq stable_nil)))))))))))))))))))))))))))) ⟨ob_plain rfl (fun a' w' hE hk => by have HSd := HS4.step hE; exact does_eq (r_move (show _ = Value.bool v1 from hk 7 rfl))), ob_plain rfl (fun a' w' hE hk => by have HSd := HS4.step hE; exact does_eq (r_move (show _ = Value.bool v1 from hk 9 rfl))), ob_guard (b := v1) (c := true) rfl rfl (by decide) (fun w' u hu => hu) (fun a' w' hE hk hg => by have HSd := HS4.step hE; exact does_eq (r_loadBoxAgg (n := 3) (vs := [Value.int .i64 a0.vKind, Value.int .i64 a0.vLo, Value.int .i64 a0.vHi]) (show _ = Value.pointer (some ⟨b1, 0, none⟩) from hk 3 rfl) Tryz.isAgg23 (HSd.look 2 rfl) Tryz.sizeOf23 rfl rfl)), ob_guard (b := v1) (c := true) rfl rfl (by decide) (fun w' u hu => hu) (fun a' w' hE hk hg => by have HSd := HS4.step hE; exact does_eq (r_loadBoxAgg (n := 3) (vs := [Value.int .i64 a1.vKind, Value.int .i64 a1.vLo, Value.int .i64 a1.vHi]) (show _ = Value.pointer (some ⟨b2, 0, none⟩) from hk 4 rfl) Tryz.isAgg23 (HSd.look 1 rfl) Tryz.sizeOf23 rfl rfl)), ob_guard (b := v1) (c := true) rfl rfl (by decide) (fun w' u hu => hu) (fun a' w' hE hk hg => by have HSd := HS4.step hE; exact (does_call_eq Tryz.call6 rfl (map2 ((show _ = gv (true && (v1 == true)) (Value.agg #[Value.int .i64 a0.vKind, Value.int .i64 a0.vLo, Value.int .i64 a0.vHi]) from (show _ = gv (true && (v1 == true)) (Value.agg #[Value.int .i64 a0.vKind, Value.int .i64 a0.vLo, Value.int .i64 a0.vHi]) from hk 11 rfl)).trans (gv_t hg)) ((show _ = gv (true && (v1 == true)) (Value.agg #[Value.int .i64 a1.vKind, Value.int .i64 a1.vLo, Value.int .i64 a1.vHi]) from (show _ = gv (true && (v1 == true)) (Value.agg #[Value.int .i64 a1.vKind, Value.int .i64 a1.vLo, Value.int .i64 a1.vHi]) from hk 12 rfl)).trans (gv_t hg))) (verify_Join.calls a0 a1 HSd.sees (ht.s HSd) (of_pos H2 hg)))), ob_guard (b := v1) (c := true) rfl rfl (by decide) (fun w' u hu => hu) (fun a' w' hE hk hg => by have HSd := HS4.step hE; exact does_eq (r_loadBoxAgg (n := 3) (vs := [Value.int .i64 a0.vKind, Value.int .i64 a0.vLo, Value.int .i64 a0.vHi]) (show _ = Value.pointer (some ⟨b1, 0, none⟩) from hk 3 rfl) Tryz.isAgg23 (HSd.look 2 rfl) Tryz.sizeOf23 rfl rfl)), ob_guard (b := v1) (c := true) rfl rfl (by decide) (fun w' u hu => hu) (fun a' w' hE hk hg => by have HSd := HS4.step hE; exact does_eq (r_loadBoxAgg (n := 3) (vs := [Value.int .i64 a1.vKind, Value.int .i64 a1.vLo, Value.int .i64 a1.vHi]) (show _ = Value.pointer (some ⟨b2, 0, none⟩) from hk 4 rfl) Tryz.isAgg23 (HSd.look 1 rfl) Tryz.sizeOf23 rfl rfl)), ob_guard (b := v1) (c := true) rfl rfl (by decide) (fun w' u hu => hu) (fun a' w' hE hk hg => by have HSd := HS4.step hE; exact (does_call_eq Tryz.call7 rfl (map2 ((show _ = gv (true && (v1 == true)) (Value.agg #[Value.int .i64 a0.vKind, Value.int .i64 a0.vLo, Value.int .i64 a0.vHi]) from (show _ = gv (true && (v1 == true)) (Value.agg #[Value.int .i64 a0.vKind, Value.int .i64 a0.vLo, Value.int .i64 a0.vHi]) from hk 14 rfl)).trans (gv_t hg)) ((show _ = gv (true && (v1 == true)) (Value.agg #[Value.int .i64 a1.vKind, Value.int .i64 a1.vLo, Value.int .i64 a1.vHi]) from (show _ = gv (true && (v1 == true)) (Value.agg #[Value.int .i64 a1.vKind, Value.int .i64 a1.vLo, Value.int .i64 a1.vHi]) from hk 15 rfl)).trans (gv_t hg))) (taplineref18_Join.calls a0 a1 HSd.sees (of_pos H3 hg)))), ob_guard (b := v1) (c := true) rfl rfl (by decide) (fun w' u hu => hu) (fun a' w' hE hk hg => by have HSd := HS4.step hE; exact does_eq (r_aggeql ((show _ = gv (true && (v1 == true)) (Value.agg #[Value.int .i64 v2.vKind, Value.int .i64 v2.vLo, Value.int .i64 v2.vHi]) from (show _ = gv (true && (v1 == true)) (Value.agg #[Value.int .i64 v2.vKind, Value.int .i64 v2.vLo, Value.int .i64 v2.vHi]) from hk 13 rfl)).trans (gv_t hg)) ((show _ = gv (true && (v1 == true)) (Value.agg #[Value.int .i64 v3.vKind, Value.int .i64 v3.vLo, Value.int .i64 v3.vHi]) from (show _ = gv (true && (v1 == true)) (Value.agg #[Value.int .i64 v3.vKind, Value.int .i64 v3.vLo, Value.int .i64 v3.vHi]) from hk 16 rfl)).trans (gv_t hg)) Tryz.eqGuardType23 (eqr_agg Tryz.stoodInHeld23 Tryz.underlying23 (eqf_cons (by decide) (part_one Tryz.isAgg3 rfl) (part_one Tryz.isAgg3 rfl) (eqr_int Tryz.underlying3) (eqf_cons (by decide) (part_one Tryz.isAgg2 rfl) (part_one Tryz.isAgg2 rfl) (eqr_int Tryz.underlying2) (eqf_cons (by decide) (part_one Tryz.isAgg2 rfl) (part_one Tryz.isAgg2 rfl) (eqr_int Tryz.underlying2) eqf_nil)))))), ob_plain rfl (fun a' w' hE hk => by have HSd := HS4.step hE; exact does_eq (r_pick_and (show _ = Value.bool v1 from hk 10 rfl) (fun hp => ((show _ = gv (true && (v1 == true)) (Value.bool ((v2.vKind == v3.vKind) && ((v2.vLo == v3.vLo) && ((v2.vHi == v3.vHi) && true)))) from (show _ = gv (true && (v1 == true)) (Value.bool ((v2.vKind == v3.vKind) && ((v2.vLo == v3.vLo) && ((v2.vHi == v3.vHi) && true)))) from hk 17 rfl)).trans (gv_t (and_i rfl hp)))) rfl)), ob_plain rfl (fun a' w' hE hk => by have HSd := HS4.step hE; exact does_eq (r_move (show _ = Value.bool (v1 && ((v2.vKind == v3.vKind) && ((v2.vLo == v3.vLo) && ((v2.vHi == v3.vHi) && true)))) from hk 18 rfl))), ob_guard (b := (v1 && ((v2.vKind == v3.vKind) && ((v2.vLo == v3.vLo) && ((v2.vHi == v3.vHi) && true))))) (c := true) rfl rfl (by decide) (fun w' u hu => hu) (fun a' w' hE hk hg => by have HSd := HS4.step hE; exact does_eq (r_loadBoxAgg (n := 3) (vs := [Value.int .i64 a0.vKind, Value.int .i64 a0.vLo, Value.int .i64 a0.vHi]) (show _ = Value.pointer (some ⟨b1, 0, none⟩) from hk 3 rfl) Tryz.isAgg23 (HSd.look 2 rfl) Tryz.sizeOf23 rfl rfl)), ob_guard (b := (v1 && ((v2.vKind == v3.vKind) && ((v2.vLo == v3.vLo) && ((v2.vHi == v3.vHi) && true))))) (c := true) rfl rfl (by decide) (fun w' u hu => hu) (fun a' w' hE hk hg => by have HSd := HS4.step hE; exact does_eq (r_loadBoxAgg (n := 3) (vs := [Value.int .i64 a1.vKind, Value.int .i64 a1.vLo, Value.int .i64 a1.vHi]) (show _ = Value.pointer (some ⟨b2, 0, none⟩) from hk 4 rfl) Tryz.isAgg23 (HSd.look 1 rfl) Tryz.sizeOf23 rfl rfl)), ob_guard (b := (v1 && ((v2.vKind == v3.vKind) && ((v2.vLo == v3.vLo) && ((v2.vHi == v3.vHi) && true))))) (c := true) rfl rfl (by decide) (fun w' u hu => hu) (fun a' w' hE hk hg => by have HSd := HS4.step hE; exact (does_call_eq Tryz.call8 rfl (map2 ((show _ = gv (true && ((v1 && ((v2.vKind == v3.vKind) && ((v2.vLo == v3.vLo) && ((v2.vHi == v3.vHi) && true)))) == true)) (Value.agg #[Value.int .i64 a0.vKind, Value.int .i64 a0.vLo, Value.int .i64 a0.vHi]) from (show _ = gv (true && ((v1 && ((v2.vKind == v3.vKind) && ((v2.vLo == v3.vLo) && ((v2.vHi == v3.vHi) && true)))) == true)) (Value.agg #[Value.int .i64 a0.vKind, Value.int .i64 a0.vLo, Value.int .i64 a0.vHi]) from hk 20 rfl)).trans (gv_t hg)) ((show _ = gv (true && ((v1 && ((v2.vKind == v3.vKind) && ((v2.vLo == v3.vLo) && ((v2.vHi == v3.vHi) && true)))) == true)) (Value.agg #[Value.int .i64 a1.vKind, Value.int .i64 a1.vLo, Value.int .i64 a1.vHi]) from (show _ = gv (true && ((v1 && ((v2.vKind == v3.vKind) && ((v2.vLo == v3.vLo) && ((v2.vHi == v3.vHi) && true)))) == true)) (Value.agg #[Value.int .i64 a1.vKind, Value.int .i64 a1.vLo, Value.int .i64 a1.vHi]) from hk 21 rfl)).trans (gv_t hg))) (verify_Below.calls a0 a1 HSd.sees (of_pos H4 hg)))), ob_guard (b := (v1 && ((v2.vKind == v3.vKind) && ((v2.vLo == v3.vLo) && ((v2.vHi == v3.vHi) && true))))) (c := true) rfl rfl (by decide) (fun w' u hu => hu) (fun a' w' hE hk hg => by have HSd := HS4.step hE; exact does_eq (r_loadBoxAgg (n := 3) (vs := [Value.int .i64 a0.vKind, Value.int .i64 a0.vLo, Value.int .i64 a0.vHi]) (show _ = Value.pointer (some ⟨b1, 0, none⟩) from hk 3 rfl) Tryz.isAgg23 (HSd.look 2 rfl) Tryz.sizeOf23 rfl rfl)), ob_guard (b := (v1 && ((v2.vKind == v3.vKind) && ((v2.vLo == v3.vLo) && ((v2.vHi == v3.vHi) && true))))) (c := true) rfl rfl (by decide) (fun w' u hu => hu) (fun a' w' hE hk hg => by have HSd := HS4.step hE; exact does_eq (r_loadBoxAgg (n := 3) (vs := [Value.int .i64 a1.vKind, Value.int .i64 a1.vLo, Value.int .i64 a1.vHi]) (show _ = Value.pointer (some ⟨b2, 0, none⟩) from hk 4 rfl) Tryz.isAgg23 (HSd.look 1 rfl) Tryz.sizeOf23 rfl rfl)), ob_guard (b := (v1 && ((v2.vKind == v3.vKind) && ((v2.vLo == v3.vLo) && ((v2.vHi == v3.vHi) && true))))) (c := true) rfl rfl (by decide) (fun w' u hu => hu) (fun a' w' hE hk hg => by have HSd := HS4.step hE; exact (does_call_eq Tryz.call9 rfl (map2 ((show _ = gv (true && ((v1 && ((v2.vKind == v3.vKind) && ((v2.vLo == v3.vLo) && ((v2.vHi == v3.vHi) && true)))) == true)) (Value.agg #[Value.int .i64 a0.vKind, Value.int .i64 a0.vLo, Value.int .i64 a0.vHi]) from (show _ = gv (true && ((v1 && ((v2.vKind == v3.vKind) && ((v2.vLo == v3.vLo) && ((v2.vHi == v3.vHi) && true)))) == true)) (Value.agg #[Value.int .i64 a0.vKind, Value.int .i64 a0.vLo, Value.int .i64 a0.vHi]) from hk 23 rfl)).trans (gv_t hg)) ((show _ = gv (true && ((v1 && ((v2.vKind == v3.vKind) && ((v2.vLo == v3.vLo) && ((v2.vHi == v3.vHi) && true)))) == true)) (Value.agg #[Value.int .i64 a1.vKind, Value.int .i64 a1.vLo, Value.int .i64 a1.vHi]) from (show _ = gv (true && ((v1 && ((v2.vKind == v3.vKind) && ((v2.vLo == v3.vLo) && ((v2.vHi == v3.vHi) && true)))) == true)) (Value.agg #[Value.int .i64 a1.vKind, Value.int .i64 a1.vLo, Value.int .i64 a1.vHi]) from hk 24 rfl)).trans (gv_t hg))) (taplineref18_Below.calls a0 a1 HSd.sees (of_pos H5 hg)))), ob_guard (b := (v1 && ((v2.vKind == v3.vKind) && ((v2.vLo == v3.vLo) && ((v2.vHi == v3.vHi) && true))))) (c := true) rfl rfl (by decide) (fun w' u hu => hu) (fun a' w' hE hk hg => by have HSd := HS4.step hE; exact does_eq (r_booleql ((show _ = gv (true && ((v1 && ((v2.vKind == v3.vKind) && ((v2.vLo == v3.vLo) && ((v2.vHi == v3.vHi) && true)))) == true)) (Value.bool v4) from (show _ = gv (true && ((v1 && ((v2.vKind == v3.vKind) && ((v2.vLo == v3.vLo) && ((v2.vHi == v3.vHi) && true)))) == true)) (Value.bool v4) from hk 22 rfl)).trans (gv_t hg)) ((show _ = gv (true && ((v1 && ((v2.vKind == v3.vKind) && ((v2.vLo == v3.vLo) && ((v2.vHi == v3.vHi) && true)))) == true)) (Value.bool v5) from (show _ = gv (true && ((v1 && ((v2.vKind == v3.vKind) && ((v2.vLo == v3.vLo) && ((v2.vHi == v3.vHi) && true)))) == true)) (Value.bool v5) from hk 25 rfl)).trans (gv_t hg)) Tryz.runUnderlying4)), ob_plain rfl (fun a' w' hE hk => by have HSd := HS4.step hE; exact does_eq (r_pick_and (show _ = Value.bool (v1 && ((v2.vKind == v3.vKind) && ((v2.vLo == v3.vLo) && ((v2.vHi == v3.vHi) && true)))) from hk 19 rfl) (fun hp => ((show _ = gv (true && ((v1 && ((v2.vKind == v3.vKind) && ((v2.vLo == v3.vLo) && ((v2.vHi == v3.vHi) && true)))) == true)) (Value.bool (v4 == v5)) from (show _ = gv (true && ((v1 && ((v2.vKind == v3.vKind) && ((v2.vLo == v3.vLo) && ((v2.vHi == v3.vHi) && true)))) == true)) (Value.bool (v4 == v5)) from hk 26 rfl)).trans (gv_t (and_i rfl hp)))) rfl)), ob_plain rfl (fun a' w' hE hk => by have HSd := HS4.step hE; exact does_eq (r_move (show _ = Value.bool ((v1 && ((v2.vKind == v3.vKind) && ((v2.vLo == v3.vLo) && ((v2.vHi == v3.vHi) && true)))) && (v4 == v5)) from hk 27 rfl))), ob_guard (b := ((v1 && ((v2.vKind == v3.vKind) && ((v2.vLo == v3.vLo) && ((v2.vHi == v3.vHi) && true)))) && (v4 == v5))) (c := true) rfl rfl (by decide) (fun w' u hu => hu) (fun a' w' hE hk hg => by have HSd := HS4.step hE; exact does_eq (r_loadBoxAgg (n := 3) (vs := [Value.int .i64 a0.vKind, Value.int .i64 a0.vLo, Value.int .i64 a0.vHi]) (show _ = Value.pointer (some ⟨b1, 0, none⟩) from hk 3 rfl) Tryz.isAgg23 (HSd.look 2 rfl) Tryz.sizeOf23 rfl rfl)), ob_guard (b := ((v1 && ((v2.vKind == v3.vKind) && ((v2.vLo == v3.vLo) && ((v2.vHi == v3.vHi) && true)))) && (v4 == v5))) (c := true) rfl rfl (by decide) (fun w' u hu => hu) (fun a' w' hE hk hg => by have HSd := HS4.step hE; exact does_eq (r_loadBoxAgg (n := 3) (vs := [Value.bool a2.vStr, Value.int .i64 a2.vN, Value.string a2.vS]) (show _ = Value.pointer (some ⟨b3, 0, none⟩) from hk 5 rfl) Tryz.isAgg25 (HSd.look 0 rfl) Tryz.sizeOf25 rfl rfl)), ob_guard (b := ((v1 && ((v2.vKind == v3.vKind) && ((v2.vLo == v3.vLo) && ((v2.vHi == v3.vHi) && true)))) && (v4 == v5))) (c := true) rfl rfl (by decide) (fun w' u hu => hu) (fun a' w' hE hk hg => by have HSd := HS4.step hE; exact (does_call_eq Tryz.call10 rfl (map2 ((show _ = gv (true && (((v1 && ((v2.vKind == v3.vKind) && ((v2.vLo == v3.vLo) && ((v2.vHi == v3.vHi) && true)))) && (v4 == v5)) == true)) (Value.agg #[Value.int .i64 a0.vKind, Value.int .i64 a0.vLo, Value.int .i64 a0.vHi]) from (show _ = gv (true && (((v1 && ((v2.vKind == v3.vKind) && ((v2.vLo == v3.vLo) && ((v2.vHi == v3.vHi) && true)))) && (v4 == v5)) == true)) (Value.agg #[Value.int .i64 a0.vKind, Value.int .i64 a0.vLo, Value.int .i64 a0.vHi]) from hk 29 rfl)).trans (gv_t hg)) ((show _ = gv (true && (((v1 && ((v2.vKind == v3.vKind) && ((v2.vLo == v3.vLo) && ((v2.vHi == v3.vHi) && true)))) && (v4 == v5)) == true)) (Value.agg #[Value.bool a2.vStr, Value.int .i64 a2.vN, Value.string a2.vS]) from (show _ = gv (true && (((v1 && ((v2.vKind == v3.vKind) && ((v2.vLo == v3.vLo) && ((v2.vHi == v3.vHi) && true)))) && (v4 == v5)) == true)) (Value.agg #[Value.bool a2.vStr, Value.int .i64 a2.vN, Value.string a2.vS]) from hk 30 rfl)).trans (gv_t hg))) (verify_Has.calls a0 a2 HSd.sees (of_pos H6 hg)))), ob_guard (b := ((v1 && ((v2.vKind == v3.vKind) && ((v2.vLo == v3.vLo) && ((v2.vHi == v3.vHi) && true)))) && (v4 == v5))) (c := true) rfl rfl (by decide) (fun w' u hu => hu) (fun a' w' hE hk hg => by have HSd := HS4.step hE; exact does_eq (r_loadBoxAgg (n := 3) (vs := [Value.int .i64 a0.vKind, Value.int .i64 a0.vLo, Value.int .i64 a0.vHi]) (show _ = Value.pointer (some ⟨b1, 0, none⟩) from hk 3 rfl) Tryz.isAgg23 (HSd.look 2 rfl) Tryz.sizeOf23 rfl rfl)), ob_guard (b := ((v1 && ((v2.vKind == v3.vKind) && ((v2.vLo == v3.vLo) && ((v2.vHi == v3.vHi) && true)))) && (v4 == v5))) (c := true) rfl rfl (by decide) (fun w' u hu => hu) (fun a' w' hE hk hg => by have HSd := HS4.step hE; exact does_eq (r_loadBoxAgg (n := 3) (vs := [Value.bool a2.vStr, Value.int .i64 a2.vN, Value.string a2.vS]) (show _ = Value.pointer (some ⟨b3, 0, none⟩) from hk 5 rfl) Tryz.isAgg25 (HSd.look 0 rfl) Tryz.sizeOf25 rfl rfl)), ob_guard (b := ((v1 && ((v2.vKind == v3.vKind) && ((v2.vLo == v3.vLo) && ((v2.vHi == v3.vHi) && true)))) && (v4 == v5))) (c := true) rfl rfl (by decide) (fun w' u hu => hu) (fun a' w' hE hk hg => by have HSd := HS4.step hE; exact (does_call_eq Tryz.call11 rfl (map2 ((show _ = gv (true && (((v1 && ((v2.vKind == v3.vKind) && ((v2.vLo == v3.vLo) && ((v2.vHi == v3.vHi) && true)))) && (v4 == v5)) == true)) (Value.agg #[Value.int .i64 a0.vKind, Value.int .i64 a0.vLo, Value.int .i64 a0.vHi]) from (show _ = gv (true && (((v1 && ((v2.vKind == v3.vKind) && ((v2.vLo == v3.vLo) && ((v2.vHi == v3.vHi) && true)))) && (v4 == v5)) == true)) (Value.agg #[Value.int .i64 a0.vKind, Value.int .i64 a0.vLo, Value.int .i64 a0.vHi]) from hk 32 rfl)).trans (gv_t hg)) ((show _ = gv (true && (((v1 && ((v2.vKind == v3.vKind) && ((v2.vLo == v3.vLo) && ((v2.vHi == v3.vHi) && true)))) && (v4 == v5)) == true)) (Value.agg #[Value.bool a2.vStr, Value.int .i64 a2.vN, Value.string a2.vS]) from (show _ = gv (true && (((v1 && ((v2.vKind == v3.vKind) && ((v2.vLo == v3.vLo) && ((v2.vHi == v3.vHi) && true)))) && (v4 == v5)) == true)) (Value.agg #[Value.bool a2.vStr, Value.int .i64 a2.vN, Value.string a2.vS]) from hk 33 rfl)).trans (gv_t hg))) (taplineref18_Has.calls a0 a2 HSd.sees (of_pos H7 hg)))), ob_guard (b := ((v1 && ((v2.vKind == v3.vKind) && ((v2.vLo == v3.vLo) && ((v2.vHi == v3.vHi) && true)))) && (v4 == v5))) (c := true) rfl rfl (by decide) (fun w' u hu => hu) (fun a' w' hE hk hg => by have HSd := HS4.step hE; exact does_eq (r_booleql ((show _ = gv (true && (((v1 && ((v2.vKind == v3.vKind) && ((v2.vLo == v3.vLo) && ((v2.vHi == v3.vHi) && true)))) && (v4 == v5)) == true)) (Value.bool v6) from (show _ = gv (true && (((v1 && ((v2.vKind == v3.vKind) && ((v2.vLo == v3.vLo) && ((v2.vHi == v3.vHi) && true)))) && (v4 == v5)) == true)) (Value.bool v6) from hk 31 rfl)).trans (gv_t hg)) ((show _ = gv (true && (((v1 && ((v2.vKind == v3.vKind) && ((v2.vLo == v3.vLo) && ((v2.vHi == v3.vHi) && true)))) && (v4 == v5)) == true)) (Value.bool v7) from (show _ = gv (true && (((v1 && ((v2.vKind == v3.vKind) && ((v2.vLo == v3.vLo) && ((v2.vHi == v3.vHi) && true)))) && (v4 == v5)) == true)) (Value.bool v7) from hk 34 rfl)).trans (gv_t hg)) Tryz.runUnderlying4)), ob_plain rfl (fun a' w' hE hk => by have HSd := HS4.step hE; exact does_eq (r_pick_and (show _ = Value.bool ((v1 && ((v2.vKind == v3.vKind) && ((v2.vLo == v3.vLo) && ((v2.vHi == v3.vHi) && true)))) && (v4 == v5)) from hk 28 rfl) (fun hp => ((show _ = gv (true && (((v1 && ((v2.vKind == v3.vKind) && ((v2.vLo == v3.vLo) && ((v2.vHi == v3.vHi) && true)))) && (v4 == v5)) == true)) (Value.bool (v6 == v7)) from (show _ = gv (true && (((v1 && ((v2.vKind == v3.vKind) && ((v2.vLo == v3.vLo) && ((v2.vHi == v3.vHi) && true)))) && (v4 == v5)) == true)) (Value.bool (v6 == v7)) from hk 35 rfl)).trans (gv_t (and_i rfl hp)))) rfl)), trivial⟩ ?_
  intro w5 hE5
  simp only [List.zip_cons_cons, List.zip_nil_left, List.zip_nil_right, finL, List.set_cons_zero, List.set_cons_succ, List.length_cons, List.length_nil, List.drop_succ_cons, List.drop_zero, Nat.zero_add, Nat.reduceAdd]
  have HS5 := HS4.step hE5
  refine run_same (v := Value.bool (((v1 && ((v2.vKind == v3.vKind) && ((v2.vLo == v3.vLo) && ((v2.vHi == v3.vHi) && true)))) && (v4 == v5)) && (v6 == v7))) rfl rfl (r_assign rfl) ?_
  try simp only [List.set_cons_zero, List.set_cons_succ]
  refine run_nil ?_
  refine norm_then ?_
  refine wp_ret ?_
  obtain rfl := Option.some.inj H
  refine bodyPost_ret (results_1 rfl (one_tmp rfl)) rfl ?_
  exact ⟨rfl, HS5.toE⟩

end Go.Proofs.YtlmfgibfknjjpaaGreatDoor
namespace Go.Proofs.YtlmfgibfknjjpaaGreatDoor
open Go.RowKit Go.M
def taplinelaw18_VerifyOrder.f (a0 : api_Abs) (a1 : api_Abs) (a2 : api_Abs) (a3 : api_Value) : Option (Bool) := (taplinelaw18_sane.f).bind fun v1 => ((verify_Below.f a0 a0).bind fun v2 => ((if (true && ((!v2) == false)) = true then verify_Below.f a1 a1 else some false).bind fun v3 => ((if (true && (((!v2) || (!v3)) == false)) = true then verify_Below.f a2 a2 else some false).bind fun v4 => (if (((!v2) || (!v3)) || (!v4)) = true then ((verify_Below.f a0 (⟨0, 0, 0⟩ : api_Abs)).bind fun v5 => ((if (true && (v5 == true)) = true then verify_Below.f a1 (⟨0, 0, 0⟩ : api_Abs) else some false).bind fun v6 => ((if (true && ((v5 && v6) == true)) = true then verify_Below.f a2 (⟨0, 0, 0⟩ : api_Abs) else some false).bind fun v7 => (some (v1 && (!((v5 && v6) && v7))))))) else ((verify_Below.f a0 a1).bind fun v8 => ((if (true && (v8 == true)) = true then verify_Below.f a1 a2 else some false).bind fun v9 => ((if (true && ((v8 && v9) == true)) = true then verify_Below.f a0 a2 else some false).bind fun v10 => ((if (true && (((v8 && v9) && (!v10)) == false)) = true then verify_Below.f a0 a1 else some false).bind fun v11 => ((if ((true && (((v8 && v9) && (!v10)) == false)) && (v11 == true)) = true then verify_Below.f a1 a0 else some false).bind fun v12 => (if (((v8 && v9) && (!v10)) || ((v11 && v12) && (!((a0.vKind == a1.vKind) && ((a0.vLo == a1.vLo) && ((a0.vHi == a1.vHi) && true)))))) = true then (some false) else ((verify_Join.f a0 a1).bind fun v13 => ((verify_Join.f a1 a0).bind fun v14 => ((if (true && ((!((v13.vKind == v14.vKind) && ((v13.vLo == v14.vLo) && ((v13.vHi == v14.vHi) && true)))) == false)) = true then verify_Join.f a0 a0 else some z_api_Abs).bind fun v15 => ((if (true && (((!((v13.vKind == v14.vKind) && ((v13.vLo == v14.vLo) && ((v13.vHi == v14.vHi) && true)))) || (!((v15.vKind == a0.vKind) && ((v15.vLo == a0.vLo) && ((v15.vHi == a0.vHi) && true))))) == false)) = true then verify_Join.f v13 a2 else some z_api_Abs).bind fun v16 => ((if (true && (((!((v13.vKind == v14.vKind) && ((v13.vLo == v14.vLo) && ((v13.vHi == v14.vHi) && true)))) || (!((v15.vKind == a0.vKind) && ((v15.vLo == a0.vLo) && ((v15.vHi == a0.vHi) && true))))) == false)) = true then verify_Join.f a1 a2 else some z_api_Abs).bind fun v17 => ((if (true && (((!((v13.vKind == v14.vKind) && ((v13.vLo == v14.vLo) && ((v13.vHi == v14.vHi) && true)))) || (!((v15.vKind == a0.vKind) && ((v15.vLo == a0.vLo) && ((v15.vHi == a0.vHi) && true))))) == false)) = true then verify_Join.f a0 v17 else some z_api_Abs).bind fun v18 => (if (((!((v13.vKind == v14.vKind) && ((v13.vLo == v14.vLo) && ((v13.vHi == v14.vHi) && true)))) || (!((v15.vKind == a0.vKind) && ((v15.vLo == a0.vLo) && ((v15.vHi == a0.vHi) && true))))) || (!((v16.vKind == v18.vKind) && ((v16.vLo == v18.vLo) && ((v16.vHi == v18.vHi) && true))))) = true then (some false) else ((verify_Below.f a0 v13).bind fun v19 => ((if (true && ((!v19) == false)) = true then verify_Below.f a1 v13 else some false).bind fun v20 => ((if (true && (((!v19) || (!v20)) == false)) = true then verify_Below.f a0 a2 else some false).bind fun v21 => ((if ((true && (((!v19) || (!v20)) == false)) && (v21 == true)) = true then verify_Below.f a1 a2 else some false).bind fun v22 => ((if ((true && (((!v19) || (!v20)) == false)) && ((v21 && v22) == true)) = true then verify_Below.f v13 a2 else some false).bind fun v23 => (if (((!v19) || (!v20)) || ((v21 && v22) && (!v23))) = true then (some false) else ((if (true && (v1 == true)) = true then verify_Below.f a0 a1 else some false).bind fun v24 => ((if ((true && (v1 == true)) && ((!v24) == false)) = true then verify_Has.f a0 a3 else some false).bind fun v25 => ((if ((true && (v1 == true)) && (((!v24) || (!v25)) == false)) = true then verify_Has.f a1 a3 else some false).bind fun v26 => ((if (true && ((v1 && (((!v24) || (!v25)) || v26)) == true)) = true then verify_Has.f (⟨0, 0, 0⟩ : api_Abs) a3 else some false).bind fun v27 => (some ((v1 && (((!v24) || (!v25)) || v26)) && v27)))))))))))))))))))))))))))))
set_option maxRecDepth 20000 in
set_option maxHeartbeats 4000000 in
theorem taplinelaw18_VerifyOrder.calls (a0 : api_Abs) (a1 : api_Abs) (a2 : api_Abs) (a3 : api_Value)  {h0 : View} {w0 : World} (hv : Sees h0 w0) (ht : Tab w0) {r : Bool} (H : taplinelaw18_VerifyOrder.f a0 a1 a2 a3 = some r) : Calls Tryz.prog 4 #[Value.agg #[Value.int .i64 a0.vKind, Value.int .i64 a0.vLo, Value.int .i64 a0.vHi], Value.agg #[Value.int .i64 a1.vKind, Value.int .i64 a1.vLo, Value.int .i64 a1.vHi], Value.agg #[Value.int .i64 a2.vKind, Value.int .i64 a2.vLo, Value.int .i64 a2.vHi], Value.agg #[Value.bool a3.vStr, Value.int .i64 a3.vN, Value.string a3.vS]] w0 (fun e w1 => e = .returned (Value.bool r) ∧ Ext w0 w1) := by
  unfold taplinelaw18_VerifyOrder.f at H
  have HS : St [] h0 w0 h0 [] w0 := St.init hv
  go_enter Tryz.func4, Tryz.ntmps4
  refine wp_seq ?_
  refine region ?_
  refine run_ex rfl rfl (does_box (cs := #[Value.int .i64 a0.vKind, Value.int .i64 a0.vLo, Value.int .i64 a0.vHi]) rfl rfl) ?_
  rintro w1 _ hE1 ⟨b1, rfl, ge1, hb1⟩
  have HS1 := HS.new hE1 ge1 hb1
  refine run_ex rfl rfl (does_box (cs := #[Value.int .i64 a1.vKind, Value.int .i64 a1.vLo, Value.int .i64 a1.vHi]) rfl rfl) ?_
  rintro w2 _ hE2 ⟨b2, rfl, ge2, hb2⟩
  have HS2 := HS1.new hE2 ge2 hb2
  refine run_ex rfl rfl (does_box (cs := #[Value.int .i64 a2.vKind, Value.int .i64 a2.vLo, Value.int .i64 a2.vHi]) rfl rfl) ?_
  rintro w3 _ hE3 ⟨b3, rfl, ge3, hb3⟩
  have HS3 := HS2.new hE3 ge3 hb3
  refine run_ex rfl rfl (does_box (cs := #[Value.bool a3.vStr, Value.int .i64 a3.vN, Value.string a3.vS]) rfl rfl) ?_
  rintro w4 _ hE4 ⟨b4, rfl, ge4, hb4⟩
  have HS4 := HS3.new hE4 ge4 hb4
  refine run_frame (by simp only [List.set_cons_zero, List.set_cons_succ]; rfl) ?_
  refine run_same (v := Value.bool false) rfl rfl (r_assign rfl) ?_
  try simp only [List.set_cons_zero, List.set_cons_succ]
  refine run_nil ?_
  refine norm_then ?_
  refine wp_seq ?_
  refine region ?_
  obtain ⟨v1, H1, H⟩ := of_bind H
  refine run_eq (v := Value.bool v1) rfl rfl (does_call_eq Tryz.call5 rfl rfl (taplinelaw18_sane.calls HS4.sees (ht.s HS4) H1)) ?_
  intro w5 hE5
  have HS5 := HS4.step hE5
  refine run_same (v := Value.bool v1) rfl rfl (r_assign rfl) ?_
  try simp only [List.set_cons_zero, List.set_cons_succ]
  refine run_nil ?_
  refine norm_then ?_
  refine wp_seq ?_
  refine region ?_
  refine run_same (v := Value.agg #[Value.int .i64 0, Value.int .i64 0, Value.int .i64 0]) rfl rfl (r_build0 (cs := [Value.int .i64 0, Value.int .i64 0, Value.int .i64 0]) Tryz.zeroValue23 Tryz.runUnderlying23 (pl := #[(0, 1), (1, 1), (2, 1)]) (fun w => by simp [Tryz.sizeOf2, Tryz.sizeOf3]) rfl) ?_
  refine run_ex rfl rfl (does_alloc (cs := #[Value.int .i64 0, Value.int .i64 0, Value.int .i64 0]) Tryz.zeroValue23 rfl) ?_
  rintro w6 _ hE6 ⟨b5, rfl, ge5, hb5⟩
  have HS6 := HS5.new hE6 ge5 hb5
  refine run_st (i := 0) (cs := [Value.int .i64 0, Value.int .i64 0, Value.int .i64 0]) (cs' := [Value.int .i64 0, Value.int .i64 0, Value.int .i64 0]) (vs := [Value.int .i64 0, Value.int .i64 0, Value.int .i64 0]) (bs' := [(some b5, .cells #[Value.int .i64 0, Value.int .i64 0, Value.int .i64 0] 23 (0, 0)), (some b4, .cells #[Value.bool a3.vStr, Value.int .i64 a3.vN, Value.string a3.vS] 25 (0, 0)), (some b3, .cells #[Value.int .i64 a2.vKind, Value.int .i64 a2.vLo, Value.int .i64 a2.vHi] 23 (0, 0)), (some b2, .cells #[Value.int .i64 a1.vKind, Value.int .i64 a1.vLo, Value.int .i64 a1.vHi] 23 (0, 0)), (some b1, .cells #[Value.int .i64 a0.vKind, Value.int .i64 a0.vLo, Value.int .i64 a0.vHi] 23 (0, 0))]) rfl rfl Tryz.sizeOf23 rfl rfl (by decide) rfl HS6 rfl (Nat.le_of_ble_eq_true rfl) rfl rfl ?_
  intro w7 HS7
  try simp only [List.set_cons_zero, List.set_cons_succ]
  refine run_nil ?_
  refine norm_then ?_
  refine wp_seq ?_
  refine wp_seq ?_
  refine region ?_
  refine run_same (v := Value.agg #[Value.int .i64 a0.vKind, Value.int .i64 a0.vLo, Value.int .i64 a0.vHi]) rfl rfl (r_loadBoxAgg (n := 3) (vs := [Value.int .i64 a0.vKind, Value.int .i64 a0.vLo, Value.int .i64 a0.vHi]) rfl Tryz.isAgg23 (HS7.look 4 rfl) Tryz.sizeOf23 rfl rfl) ?_
  refine run_same (v := Value.agg #[Value.int .i64 a0.vKind, Value.int .i64 a0.vLo, Value.int .i64 a0.vHi]) rfl rfl (r_loadBoxAgg (n := 3) (vs := [Value.int .i64 a0.vKind, Value.int .i64 a0.vLo, Value.int .i64 a0.vHi]) rfl Tryz.isAgg23 (HS7.look 4 rfl) Tryz.sizeOf23 rfl rfl) ?_
  obtain ⟨v2, H2, H⟩ := of_bind H
  refine run_eq (v := Value.bool v2) rfl rfl (does_call_eq Tryz.call8 rfl rfl (verify_Below.calls a0 a0 HS7.sees H2)) ?_
  intro w8 hE7
  have HS8 := HS7.step hE7
  refine run_same (v := Value.bool (!v2)) rfl rfl (r_not rfl) ?_
  refine run_frame (by simp only [List.set_cons_zero, List.set_cons_succ]; rfl) ?_
  refine run_same (v := Value.bool (!v2)) rfl rfl (r_move rfl) ?_
  refine run_g_same (b := (!v2)) (c := true) (v := Value.agg #[Value.int .i64 a1.vKind, Value.int .i64 a1.vLo, Value.int .i64 a1.vHi]) rfl rfl rfl rfl (fun hg => (r_loadBoxAgg (n := 3) (vs := [Value.int .i64 a1.vKind, Value.int .i64 a1.vLo, Value.int .i64 a1.vHi]) rfl Tryz.isAgg23 (HS8.look 3 rfl) Tryz.sizeOf23 rfl rfl)) ?_
  refine run_g_same (b := (!v2)) (c := true) (v := Value.agg #[Value.int .i64 a1.vKind, Value.int .i64 a1.vLo, Value.int .i64 a1.vHi]) rfl rfl rfl rfl (fun hg => (r_loadBoxAgg (n := 3) (vs := [Value.int .i64 a1.vKind, Value.int .i64 a1.vLo, Value.int .i64 a1.vHi]) rfl Tryz.isAgg23 (HS8.look 3 rfl) Tryz.sizeOf23 rfl rfl)) ?_
  obtain ⟨v3, H3, H⟩ := of_bind H
  refine run_g (b := (!v2)) (c := true) (v := Value.bool v3) rfl rfl rfl rfl (fun hg => (does_call_eq Tryz.call8 rfl (map2 ((show _ = gv (true && ((!v2) == false)) (Value.agg #[Value.int .i64 a1.vKind, Value.int .i64 a1.vLo, Value.int .i64 a1.vHi]) from rfl).trans (gv_t hg)) ((show _ = gv (true && ((!v2) == false)) (Value.agg #[Value.int .i64 a1.vKind, Value.int .i64 a1.vLo, Value.int .i64 a1.vHi]) from rfl).trans (gv_t hg))) (verify_Below.calls a1 a1 HS8.sees (of_pos H3 hg)))) ?_
  intro w9 hE8
  have HS9 := HS8.step hE8
  refine run_frame (by simp only [List.set_cons_zero, List.set_cons_succ]; rfl) ?_
  refine run_g_same (b := (!v2)) (c := true) (v := Value.bool (!v3)) rfl rfl rfl rfl (fun hg => (r_not ((show _ = gv (true && ((!v2) == false)) (Value.bool v3) from rfl).trans (gv_t hg)))) ?_
  refine run_same (v := Value.bool ((!v2) || (!v3))) rfl rfl (r_pick_or rfl rfl (fun hp => ((show _ = gv (true && ((!v2) == false)) (Value.bool (!v3)) from rfl).trans (gv_t (and_i rfl hp))))) ?_
  refine run_same (v := Value.bool ((!v2) || (!v3))) rfl rfl (r_move rfl) ?_
  refine run_g_same (b := ((!v2) || (!v3))) (c := true) (v := Value.agg #[Value.int .i64 a2.vKind, Value.int .i64 a2.vLo, Value.int .i64 a2.vHi]) rfl rfl rfl rfl (fun hg => (r_loadBoxAgg (n := 3) (vs := [Value.int .i64 a2.vKind, Value.int .i64 a2.vLo, Value.int .i64 a2.vHi]) rfl Tryz.isAgg23 (HS9.look 2 rfl) Tryz.sizeOf23 rfl rfl)) ?_
  refine run_frame (by simp only [List.set_cons_zero, List.set_cons_succ]; rfl) ?_
  refine run_g_same (b := ((!v2) || (!v3))) (c := true) (v := Value.agg #[Value.int .i64 a2.vKind, Value.int .i64 a2.vLo, Value.int .i64 a2.vHi]) rfl rfl rfl rfl (fun hg => (r_loadBoxAgg (n := 3) (vs := [Value.int .i64 a2.vKind, Value.int .i64 a2.vLo, Value.int .i64 a2.vHi]) rfl Tryz.isAgg23 (HS9.look 2 rfl) Tryz.sizeOf23 rfl rfl)) ?_
  obtain ⟨v4, H4, H⟩ := of_bind H
  refine run_g (b := ((!v2) || (!v3))) (c := true) (v := Value.bool v4) rfl rfl rfl rfl (fun hg => (does_call_eq Tryz.call8 rfl (map2 ((show _ = gv (true && (((!v2) || (!v3)) == false)) (Value.agg #[Value.int .i64 a2.vKind, Value.int .i64 a2.vLo, Value.int .i64 a2.vHi]) from rfl).trans (gv_t hg)) ((show _ = gv (true && (((!v2) || (!v3)) == false)) (Value.agg #[Value.int .i64 a2.vKind, Value.int .i64 a2.vLo, Value.int .i64 a2.vHi]) from rfl).trans (gv_t hg))) (verify_Below.calls a2 a2 HS9.sees (of_pos H4 hg)))) ?_
  intro w10 hE9
  have HS10 := HS9.step hE9
  refine run_g_same (b := ((!v2) || (!v3))) (c := true) (v := Value.bool (!v4)) rfl rfl rfl rfl (fun hg => (r_not ((show _ = gv (true && (((!v2) || (!v3)) == false)) (Value.bool v4) from rfl).trans (gv_t hg)))) ?_
  refine run_same (v := Value.bool (((!v2) || (!v3)) || (!v4))) rfl rfl (r_pick_or rfl rfl (fun hp => ((show _ = gv (true && (((!v2) || (!v3)) == false)) (Value.bool (!v4)) from rfl).trans (gv_t (and_i rfl hp))))) ?_
  try simp only [List.set_cons_zero, List.set_cons_succ]
  refine run_nil ?_
  refine norm_then ?_
  refine wp_cond_split (t := (((!v2) || (!v3)) || (!v4))) rfl (fun c1 => ?_) (fun c1 => ?_)
  · replace H := of_pos H c1
    refine wp_seq ?_
    refine region ?_
    refine run_same (v := Value.agg #[Value.int .i64 a0.vKind, Value.int .i64 a0.vLo, Value.int .i64 a0.vHi]) rfl rfl (r_loadBoxAgg (n := 3) (vs := [Value.int .i64 a0.vKind, Value.int .i64 a0.vLo, Value.int .i64 a0.vHi]) rfl Tryz.isAgg23 (HS10.look 4 rfl) Tryz.sizeOf23 rfl rfl) ?_
    refine run_same (v := Value.agg #[Value.int .i64 0, Value.int .i64 0, Value.int .i64 0]) rfl rfl (r_loadBoxAgg (n := 3) (vs := [Value.int .i64 0, Value.int .i64 0, Value.int .i64 0]) rfl Tryz.isAgg23 (HS10.look 0 rfl) Tryz.sizeOf23 rfl rfl) ?_
    obtain ⟨v5, H5, H⟩ := of_bind H
    refine run_eq (v := Value.bool v5) rfl rfl (does_call_eq Tryz.call8 rfl rfl (verify_Below.calls a0 (⟨0, 0, 0⟩ : api_Abs) HS10.sees H5)) ?_
    intro w11 hE10
    have HS11 := HS10.step hE10
    refine run_same (v := Value.bool v5) rfl rfl (r_move rfl) ?_
    refine run_frame (by simp only [List.set_cons_zero, List.set_cons_succ]; rfl) ?_
    refine run_g_same (b := v5) (c := true) (v := Value.agg #[Value.int .i64 a1.vKind, Value.int .i64 a1.vLo, Value.int .i64 a1.vHi]) rfl rfl rfl rfl (fun hg => (r_loadBoxAgg (n := 3) (vs := [Value.int .i64 a1.vKind, Value.int .i64 a1.vLo, Value.int .i64 a1.vHi]) rfl Tryz.isAgg23 (HS11.look 3 rfl) Tryz.sizeOf23 rfl rfl)) ?_
    refine run_g_same (b := v5) (c := true) (v := Value.agg #[Value.int .i64 0, Value.int .i64 0, Value.int .i64 0]) rfl rfl rfl rfl (fun hg => (r_loadBoxAgg (n := 3) (vs := [Value.int .i64 0, Value.int .i64 0, Value.int .i64 0]) rfl Tryz.isAgg23 (HS11.look 0 rfl) Tryz.sizeOf23 rfl rfl)) ?_
    obtain ⟨v6, H6, H⟩ := of_bind H
    refine run_g (b := v5) (c := true) (v := Value.bool v6) rfl rfl rfl rfl (fun hg => (does_call_eq Tryz.call8 rfl (map2 ((show _ = gv (true && (v5 == true)) (Value.agg #[Value.int .i64 a1.vKind, Value.int .i64 a1.vLo, Value.int .i64 a1.vHi]) from rfl).trans (gv_t hg)) ((show _ = gv (true && (v5 == true)) (Value.agg #[Value.int .i64 0, Value.int .i64 0, Value.int .i64 0]) from rfl).trans (gv_t hg))) (verify_Below.calls a1 (⟨0, 0, 0⟩ : api_Abs) HS11.sees (of_pos H6 hg)))) ?_
    intro w12 hE11
    have HS12 := HS11.step hE11
    refine run_same (v := Value.bool (v5 && v6)) rfl rfl (r_pick_and rfl (fun hp => ((show _ = gv (true && (v5 == true)) (Value.bool v6) from rfl).trans (gv_t (and_i rfl hp)))) rfl) ?_
    refine run_frame (by simp only [List.set_cons_zero, List.set_cons_succ]; rfl) ?_
    refine run_same (v := Value.bool (v5 && v6)) rfl rfl (r_move rfl) ?_
    refine run_g_same (b := (v5 && v6)) (c := true) (v := Value.agg #[Value.int .i64 a2.vKind, Value.int .i64 a2.vLo, Value.int .i64 a2.vHi]) rfl rfl rfl rfl (fun hg => (r_loadBoxAgg (n := 3) (vs := [Value.int .i64 a2.vKind, Value.int .i64 a2.vLo, Value.int .i64 a2.vHi]) rfl Tryz.isAgg23 (HS12.look 2 rfl) Tryz.sizeOf23 rfl rfl)) ?_
    refine run_g_same (b := (v5 && v6)) (c := true) (v := Value.agg #[Value.int .i64 0, Value.int .i64 0, Value.int .i64 0]) rfl rfl rfl rfl (fun hg => (r_loadBoxAgg (n := 3) (vs := [Value.int .i64 0, Value.int .i64 0, Value.int .i64 0]) rfl Tryz.isAgg23 (HS12.look 0 rfl) Tryz.sizeOf23 rfl rfl)) ?_
    obtain ⟨v7, H7, H⟩ := of_bind H
    refine run_g (b := (v5 && v6)) (c := true) (v := Value.bool v7) rfl rfl rfl rfl (fun hg => (does_call_eq Tryz.call8 rfl (map2 ((show _ = gv (true && ((v5 && v6) == true)) (Value.agg #[Value.int .i64 a2.vKind, Value.int .i64 a2.vLo, Value.int .i64 a2.vHi]) from rfl).trans (gv_t hg)) ((show _ = gv (true && ((v5 && v6) == true)) (Value.agg #[Value.int .i64 0, Value.int .i64 0, Value.int .i64 0]) from rfl).trans (gv_t hg))) (verify_Below.calls a2 (⟨0, 0, 0⟩ : api_Abs) HS12.sees (of_pos H7 hg)))) ?_
    intro w13 hE12
    have HS13 := HS12.step hE12
    refine run_frame (by simp only [List.set_cons_zero, List.set_cons_succ]; rfl) ?_
    refine run_same (v := Value.bool ((v5 && v6) && v7)) rfl rfl (r_pick_and rfl (fun hp => ((show _ = gv (true && ((v5 && v6) == true)) (Value.bool v7) from rfl).trans (gv_t (and_i rfl hp)))) rfl) ?_
    refine run_same (v := Value.bool ((v5 && v6) && v7)) rfl rfl (r_assign rfl) ?_
    try simp only [List.set_cons_zero, List.set_cons_succ]
    refine run_nil ?_
    refine norm_then ?_
    refine wp_seq ?_
    refine region ?_
    refine run_same (v := Value.bool v1) rfl rfl (r_move rfl) ?_
    refine run_same (v := Value.bool v1) rfl rfl (r_move rfl) ?_
    refine run_g_same (b := v1) (c := true) (v := Value.bool ((v5 && v6) && v7)) rfl rfl rfl rfl (fun hg => (r_move rfl)) ?_
    refine run_g_same (b := v1) (c := true) (v := Value.bool (!((v5 && v6) && v7))) rfl rfl rfl rfl (fun hg => (r_not ((show _ = gv (true && (v1 == true)) (Value.bool ((v5 && v6) && v7)) from rfl).trans (gv_t hg)))) ?_
    refine run_frame (by simp only [List.set_cons_zero, List.set_cons_succ]; rfl) ?_
    refine run_same (v := Value.bool (v1 && (!((v5 && v6) && v7)))) rfl rfl (r_pick_and rfl (fun hp => ((show _ = gv (true && (v1 == true)) (Value.bool (!((v5 && v6) && v7))) from rfl).trans (gv_t (and_i rfl hp)))) rfl) ?_
    refine run_same (v := Value.bool (v1 && (!((v5 && v6) && v7)))) rfl rfl (r_assign rfl) ?_
    try simp only [List.set_cons_zero, List.set_cons_succ]
    refine run_nil ?_
    refine norm_then ?_
    refine wp_ret ?_
    refine ret_then ?_
    obtain rfl := Option.some.inj H
    refine bodyPost_ret (results_1 rfl (one_tmp rfl)) rfl ?_
    exact ⟨rfl, HS13.toE⟩
  · replace H := of_neg H (nt c1)
    refine wp_skip ?_
    refine norm_then ?_
    refine wp_seq ?_
    refine wp_seq ?_
    refine region ?_
    refine run_same (v := Value.agg #[Value.int .i64 a0.vKind, Value.int .i64 a0.vLo, Value.int .i64 a0.vHi]) rfl rfl (r_loadBoxAgg (n := 3) (vs := [Value.int .i64 a0.vKind, Value.int .i64 a0.vLo, Value.int .i64 a0.vHi]) rfl Tryz.isAgg23 (HS10.look 4 rfl) Tryz.sizeOf23 rfl rfl) ?_
    refine run_same (v := Value.agg #[Value.int .i64 a1.vKind, Value.int .i64 a1.vLo, Value.int .i64 a1.vHi]) rfl rfl (r_loadBoxAgg (n := 3) (vs := [Value.int .i64 a1.vKind, Value.int .i64 a1.vLo, Value.int .i64 a1.vHi]) rfl Tryz.isAgg23 (HS10.look 3 rfl) Tryz.sizeOf23 rfl rfl) ?_
    obtain ⟨v8, H8, H⟩ := of_bind H
    refine run_eq (v := Value.bool v8) rfl rfl (does_call_eq Tryz.call8 rfl rfl (verify_Below.calls a0 a1 HS10.sees H8)) ?_
    intro w14 hE13
    have HS14 := HS10.step hE13
    refine run_same (v := Value.bool v8) rfl rfl (r_move rfl) ?_
    refine run_frame (by simp only [List.set_cons_zero, List.set_cons_succ]; rfl) ?_
    refine run_g_same (b := v8) (c := true) (v := Value.agg #[Value.int .i64 a1.vKind, Value.int .i64 a1.vLo, Value.int .i64 a1.vHi]) rfl rfl rfl rfl (fun hg => (r_loadBoxAgg (n := 3) (vs := [Value.int .i64 a1.vKind, Value.int .i64 a1.vLo, Value.int .i64 a1.vHi]) rfl Tryz.isAgg23 (HS14.look 3 rfl) Tryz.sizeOf23 rfl rfl)) ?_
    refine run_g_same (b := v8) (c := true) (v := Value.agg #[Value.int .i64 a2.vKind, Value.int .i64 a2.vLo, Value.int .i64 a2.vHi]) rfl rfl rfl rfl (fun hg => (r_loadBoxAgg (n := 3) (vs := [Value.int .i64 a2.vKind, Value.int .i64 a2.vLo, Value.int .i64 a2.vHi]) rfl Tryz.isAgg23 (HS14.look 2 rfl) Tryz.sizeOf23 rfl rfl)) ?_
    obtain ⟨v9, H9, H⟩ := of_bind H
    refine run_g (b := v8) (c := true) (v := Value.bool v9) rfl rfl rfl rfl (fun hg => (does_call_eq Tryz.call8 rfl (map2 ((show _ = gv (true && (v8 == true)) (Value.agg #[Value.int .i64 a1.vKind, Value.int .i64 a1.vLo, Value.int .i64 a1.vHi]) from rfl).trans (gv_t hg)) ((show _ = gv (true && (v8 == true)) (Value.agg #[Value.int .i64 a2.vKind, Value.int .i64 a2.vLo, Value.int .i64 a2.vHi]) from rfl).trans (gv_t hg))) (verify_Below.calls a1 a2 HS14.sees (of_pos H9 hg)))) ?_
    intro w15 hE14
    have HS15 := HS14.step hE14
    refine run_same (v := Value.bool (v8 && v9)) rfl rfl (r_pick_and rfl (fun hp => ((show _ = gv (true && (v8 == true)) (Value.bool v9) from rfl).trans (gv_t (and_i rfl hp)))) rfl) ?_
    refine run_frame (by simp only [List.set_cons_zero, List.set_cons_succ]; rfl) ?_
    refine run_same (v := Value.bool (v8 && v9)) rfl rfl (r_move rfl) ?_
    refine run_g_same (b := (v8 && v9)) (c := true) (v := Value.agg #[Value.int .i64 a0.vKind, Value.int .i64 a0.vLo, Value.int .i64 a0.vHi]) rfl rfl rfl rfl (fun hg => (r_loadBoxAgg (n := 3) (vs := [Value.int .i64 a0.vKind, Value.int .i64 a0.vLo, Value.int .i64 a0.vHi]) rfl Tryz.isAgg23 (HS15.look 4 rfl) Tryz.sizeOf23 rfl rfl)) ?_
    refine run_g_same (b := (v8 && v9)) (c := true) (v := Value.agg #[Value.int .i64 a2.vKind, Value.int .i64 a2.vLo, Value.int .i64 a2.vHi]) rfl rfl rfl rfl (fun hg => (r_loadBoxAgg (n := 3) (vs := [Value.int .i64 a2.vKind, Value.int .i64 a2.vLo, Value.int .i64 a2.vHi]) rfl Tryz.isAgg23 (HS15.look 2 rfl) Tryz.sizeOf23 rfl rfl)) ?_
    obtain ⟨v10, H10, H⟩ := of_bind H
    refine run_g (b := (v8 && v9)) (c := true) (v := Value.bool v10) rfl rfl rfl rfl (fun hg => (does_call_eq Tryz.call8 rfl (map2 ((show _ = gv (true && ((v8 && v9) == true)) (Value.agg #[Value.int .i64 a0.vKind, Value.int .i64 a0.vLo, Value.int .i64 a0.vHi]) from rfl).trans (gv_t hg)) ((show _ = gv (true && ((v8 && v9) == true)) (Value.agg #[Value.int .i64 a2.vKind, Value.int .i64 a2.vLo, Value.int .i64 a2.vHi]) from rfl).trans (gv_t hg))) (verify_Below.calls a0 a2 HS15.sees (of_pos H10 hg)))) ?_
    intro w16 hE15
    have HS16 := HS15.step hE15
    refine run_frame (by simp only [List.set_cons_zero, List.set_cons_succ]; rfl) ?_
    refine run_g_same (b := (v8 && v9)) (c := true) (v := Value.bool (!v10)) rfl rfl rfl rfl (fun hg => (r_not ((show _ = gv (true && ((v8 && v9) == true)) (Value.bool v10) from rfl).trans (gv_t hg)))) ?_
    refine run_same (v := Value.bool ((v8 && v9) && (!v10))) rfl rfl (r_pick_and rfl (fun hp => ((show _ = gv (true && ((v8 && v9) == true)) (Value.bool (!v10)) from rfl).trans (gv_t (and_i rfl hp)))) rfl) ?_
    refine run_same (v := Value.bool ((v8 && v9) && (!v10))) rfl rfl (r_move rfl) ?_
    refine run_g_same (b := ((v8 && v9) && (!v10))) (c := true) (v := Value.agg #[Value.int .i64 a0.vKind, Value.int .i64 a0.vLo, Value.int .i64 a0.vHi]) rfl rfl rfl rfl (fun hg => (r_loadBoxAgg (n := 3) (vs := [Value.int .i64 a0.vKind, Value.int .i64 a0.vLo, Value.int .i64 a0.vHi]) rfl Tryz.isAgg23 (HS16.look 4 rfl) Tryz.sizeOf23 rfl rfl)) ?_
    refine run_frame (by simp only [List.set_cons_zero, List.set_cons_succ]; rfl) ?_
    refine run_g_same (b := ((v8 && v9) && (!v10))) (c := true) (v := Value.agg #[Value.int .i64 a1.vKind, Value.int .i64 a1.vLo, Value.int .i64 a1.vHi]) rfl rfl rfl rfl (fun hg => (r_loadBoxAgg (n := 3) (vs := [Value.int .i64 a1.vKind, Value.int .i64 a1.vLo, Value.int .i64 a1.vHi]) rfl Tryz.isAgg23 (HS16.look 3 rfl) Tryz.sizeOf23 rfl rfl)) ?_
    obtain ⟨v11, H11, H⟩ := of_bind H
    refine run_g (b := ((v8 && v9) && (!v10))) (c := true) (v := Value.bool v11) rfl rfl rfl rfl (fun hg => (does_call_eq Tryz.call8 rfl (map2 ((show _ = gv (true && (((v8 && v9) && (!v10)) == false)) (Value.agg #[Value.int .i64 a0.vKind, Value.int .i64 a0.vLo, Value.int .i64 a0.vHi]) from rfl).trans (gv_t hg)) ((show _ = gv (true && (((v8 && v9) && (!v10)) == false)) (Value.agg #[Value.int .i64 a1.vKind, Value.int .i64 a1.vLo, Value.int .i64 a1.vHi]) from rfl).trans (gv_t hg))) (verify_Below.calls a0 a1 HS16.sees (of_pos H11 hg)))) ?_
    intro w17 hE16
    have HS17 := HS16.step hE16
    refine run_g_same (b := ((v8 && v9) && (!v10))) (c := true) (v := Value.bool v11) rfl rfl rfl rfl (fun hg => (r_move ((show _ = gv (true && (((v8 && v9) && (!v10)) == false)) (Value.bool v11) from rfl).trans (gv_t hg)))) ?_
    refine run_g_same (b := v11) (c := (true && (((v8 && v9) && (!v10)) == false))) (v := Value.agg #[Value.int .i64 a1.vKind, Value.int .i64 a1.vLo, Value.int .i64 a1.vHi]) rfl rfl rfl rfl (fun hg => (r_loadBoxAgg (n := 3) (vs := [Value.int .i64 a1.vKind, Value.int .i64 a1.vLo, Value.int .i64 a1.vHi]) rfl Tryz.isAgg23 (HS17.look 3 rfl) Tryz.sizeOf23 rfl rfl)) ?_
    refine run_frame (by simp only [List.set_cons_zero, List.set_cons_succ]; rfl) ?_
    refine run_g_same (b := v11) (c := (true && (((v8 && v9) && (!v10)) == false))) (v := Value.agg #[Value.int .i64 a0.vKind, Value.int .i64 a0.vLo, Value.int .i64 a0.vHi]) rfl rfl rfl rfl (fun hg => (r_loadBoxAgg (n := 3) (vs := [Value.int .i64 a0.vKind, Value.int .i64 a0.vLo, Value.int .i64 a0.vHi]) rfl Tryz.isAgg23 (HS17.look 4 rfl) Tryz.sizeOf23 rfl rfl)) ?_
    obtain ⟨v12, H12, H⟩ := of_bind H
    refine run_g (b := v11) (c := (true && (((v8 && v9) && (!v10)) == false))) (v := Value.bool v12) rfl rfl rfl rfl (fun hg => (does_call_eq Tryz.call8 rfl (map2 ((show _ = gv ((true && (((v8 && v9) && (!v10)) == false)) && (v11 == true)) (Value.agg #[Value.int .i64 a1.vKind, Value.int .i64 a1.vLo, Value.int .i64 a1.vHi]) from rfl).trans (gv_t hg)) ((show _ = gv ((true && (((v8 && v9) && (!v10)) == false)) && (v11 == true)) (Value.agg #[Value.int .i64 a0.vKind, Value.int .i64 a0.vLo, Value.int .i64 a0.vHi]) from rfl).trans (gv_t hg))) (verify_Below.calls a1 a0 HS17.sees (of_pos H12 hg)))) ?_
    intro w18 hE17
    have HS18 := HS17.step hE17
    refine run_g_same (b := ((v8 && v9) && (!v10))) (c := true) (v := Value.bool (v11 && v12)) rfl rfl rfl rfl (fun hg => (r_pick_and ((show _ = gv (true && (((v8 && v9) && (!v10)) == false)) (Value.bool v11) from rfl).trans (gv_t hg)) (fun hp => ((show _ = gv ((true && (((v8 && v9) && (!v10)) == false)) && (v11 == true)) (Value.bool v12) from rfl).trans (gv_t (and_i hg hp)))) rfl)) ?_
    refine run_g_same (b := ((v8 && v9) && (!v10))) (c := true) (v := Value.bool (v11 && v12)) rfl rfl rfl rfl (fun hg => (r_move ((show _ = gv (true && (((v8 && v9) && (!v10)) == false)) (Value.bool (v11 && v12)) from rfl).trans (gv_t hg)))) ?_
    refine run_frame (by simp only [List.set_cons_zero, List.set_cons_succ]; rfl) ?_
    refine run_g_same (b := (v11 && v12)) (c := (true && (((v8 && v9) && (!v10)) == false))) (v := Value.agg #[Value.int .i64 a0.vKind, Value.int .i64 a0.vLo, Value.int .i64 a0.vHi]) rfl rfl rfl rfl (fun hg => (r_loadBoxAgg (n := 3) (vs := [Value.int .i64 a0.vKind, Value.int .i64 a0.vLo, Value.int .i64 a0.vHi]) rfl Tryz.isAgg23 (HS18.look 4 rfl) Tryz.sizeOf23 rfl rfl)) ?_
    refine run_g_same (b := (v11 && v12)) (c := (true && (((v8 && v9) && (!v10)) == false))) (v := Value.agg #[Value.int .i64 a1.vKind, Value.int .i64 a1.vLo, Value.int .i64 a1.vHi]) rfl rfl rfl rfl (fun hg => (r_loadBoxAgg (n := 3) (vs := [Value.int .i64 a1.vKind, Value.int .i64 a1.vLo, Value.int .i64 a1.vHi]) rfl Tryz.isAgg23 (HS18.look 3 rfl) Tryz.sizeOf23 rfl rfl)) ?_
    refine run_g_same (b := (v11 && v12)) (c := (true && (((v8 && v9) && (!v10)) == false))) (v := Value.bool (!((a0.vKind == a1.vKind) && ((a0.vLo == a1.vLo) && ((a0.vHi == a1.vHi) && true))))) rfl rfl rfl rfl (fun hg => (r_aggneq ((show _ = gv ((true && (((v8 && v9) && (!v10)) == false)) && ((v11 && v12) == true)) (Value.agg #[Value.int .i64 a0.vKind, Value.int .i64 a0.vLo, Value.int .i64 a0.vHi]) from rfl).trans (gv_t hg)) ((show _ = gv ((true && (((v8 && v9) && (!v10)) == false)) && ((v11 && v12) == true)) (Value.agg #[Value.int .i64 a1.vKind, Value.int .i64 a1.vLo, Value.int .i64 a1.vHi]) from rfl).trans (gv_t hg)) Tryz.eqGuardType23 (eqr_agg Tryz.stoodInHeld23 Tryz.underlying23 (eqf_cons (by decide) (part_one Tryz.isAgg3 rfl) (part_one Tryz.isAgg3 rfl) (eqr_int Tryz.underlying3) (eqf_cons (by decide) (part_one Tryz.isAgg2 rfl) (part_one Tryz.isAgg2 rfl) (eqr_int Tryz.underlying2) (eqf_cons (by decide) (part_one Tryz.isAgg2 rfl) (part_one Tryz.isAgg2 rfl) (eqr_int Tryz.underlying2) eqf_nil)))))) ?_
    refine run_g_same (b := ((v8 && v9) && (!v10))) (c := true) (v := Value.bool ((v11 && v12) && (!((a0.vKind == a1.vKind) && ((a0.vLo == a1.vLo) && ((a0.vHi == a1.vHi) && true)))))) rfl rfl rfl rfl (fun hg => (r_pick_and ((show _ = gv (true && (((v8 && v9) && (!v10)) == false)) (Value.bool (v11 && v12)) from rfl).trans (gv_t hg)) (fun hp => ((show _ = gv ((true && (((v8 && v9) && (!v10)) == false)) && ((v11 && v12) == true)) (Value.bool (!((a0.vKind == a1.vKind) && ((a0.vLo == a1.vLo) && ((a0.vHi == a1.vHi) && true))))) from rfl).trans (gv_t (and_i hg hp)))) rfl)) ?_
    refine run_frame (by simp only [List.set_cons_zero, List.set_cons_succ]; rfl) ?_
    refine run_same (v := Value.bool (((v8 && v9) && (!v10)) || ((v11 && v12) && (!((a0.vKind == a1.vKind) && ((a0.vLo == a1.vLo) && ((a0.vHi == a1.vHi) && true))))))) rfl rfl (r_pick_or rfl rfl (fun hp => ((show _ = gv (true && (((v8 && v9) && (!v10)) == false)) (Value.bool ((v11 && v12) && (!((a0.vKind == a1.vKind) && ((a0.vLo == a1.vLo) && ((a0.vHi == a1.vHi) && true)))))) from rfl).trans (gv_t (and_i rfl hp))))) ?_
    try simp only [List.set_cons_zero, List.set_cons_succ]
    refine run_nil ?_
    refine norm_then ?_
    refine wp_cond_split (t := (((v8 && v9) && (!v10)) || ((v11 && v12) && (!((a0.vKind == a1.vKind) && ((a0.vLo == a1.vLo) && ((a0.vHi == a1.vHi) && true))))))) rfl (fun c2 => ?_) (fun c2 => ?_)
    · replace H := of_pos H c2
      refine wp_seq ?_
      refine region ?_
      refine run_same (v := Value.bool false) rfl rfl (r_assign rfl) ?_
      try simp only [List.set_cons_zero, List.set_cons_succ]
      refine run_nil ?_
      refine norm_then ?_
      refine wp_ret ?_
      refine ret_then ?_
      obtain rfl := Option.some.inj H
      refine bodyPost_ret (results_1 rfl (one_tmp rfl)) rfl ?_
      exact ⟨rfl, HS18.toE⟩
    · replace H := of_neg H (nt c2)
      refine wp_skip ?_
      refine norm_then ?_
      refine wp_seq ?_
      refine region ?_
      refine run_same (v := Value.agg #[Value.int .i64 a0.vKind, Value.int .i64 a0.vLo, Value.int .i64 a0.vHi]) rfl rfl (r_loadBoxAgg (n := 3) (vs := [Value.int .i64 a0.vKind, Value.int .i64 a0.vLo, Value.int .i64 a0.vHi]) rfl Tryz.isAgg23 (HS18.look 4 rfl) Tryz.sizeOf23 rfl rfl) ?_
      refine run_same (v := Value.agg #[Value.int .i64 a1.vKind, Value.int .i64 a1.vLo, Value.int .i64 a1.vHi]) rfl rfl (r_loadBoxAgg (n := 3) (vs := [Value.int .i64 a1.vKind, Value.int .i64 a1.vLo, Value.int .i64 a1.vHi]) rfl Tryz.isAgg23 (HS18.look 3 rfl) Tryz.sizeOf23 rfl rfl) ?_
      obtain ⟨v13, H13, H⟩ := of_bind H
      refine run_eq (v := Value.agg #[Value.int .i64 v13.vKind, Value.int .i64 v13.vLo, Value.int .i64 v13.vHi]) rfl rfl (does_call_eq Tryz.call6 rfl rfl (verify_Join.calls a0 a1 HS18.sees (ht.s HS18) H13)) ?_
      intro w19 hE18
      have HS19 := HS18.step hE18
      refine run_ex rfl rfl (does_alloc (cs := #[Value.int .i64 0, Value.int .i64 0, Value.int .i64 0]) Tryz.zeroValue23 rfl) ?_
      rintro w20 _ hE19 ⟨b6, rfl, ge6, hb6⟩
      have HS20 := HS19.new hE19 ge6 hb6
      refine run_frame (by simp only [List.set_cons_zero, List.set_cons_succ]; rfl) ?_
      refine run_st (i := 0) (cs := [Value.int .i64 0, Value.int .i64 0, Value.int .i64 0]) (cs' := [Value.int .i64 v13.vKind, Value.int .i64 v13.vLo, Value.int .i64 v13.vHi]) (vs := [Value.int .i64 v13.vKind, Value.int .i64 v13.vLo, Value.int .i64 v13.vHi]) (bs' := [(some b6, .cells #[Value.int .i64 v13.vKind, Value.int .i64 v13.vLo, Value.int .i64 v13.vHi] 23 (0, 0)), (some b5, .cells #[Value.int .i64 0, Value.int .i64 0, Value.int .i64 0] 23 (0, 0)), (some b4, .cells #[Value.bool a3.vStr, Value.int .i64 a3.vN, Value.string a3.vS] 25 (0, 0)), (some b3, .cells #[Value.int .i64 a2.vKind, Value.int .i64 a2.vLo, Value.int .i64 a2.vHi] 23 (0, 0)), (some b2, .cells #[Value.int .i64 a1.vKind, Value.int .i64 a1.vLo, Value.int .i64 a1.vHi] 23 (0, 0)), (some b1, .cells #[Value.int .i64 a0.vKind, Value.int .i64 a0.vLo, Value.int .i64 a0.vHi] 23 (0, 0))]) rfl rfl Tryz.sizeOf23 rfl rfl (by decide) rfl HS20 rfl (Nat.le_of_ble_eq_true rfl) rfl rfl ?_
      intro w21 HS21
      try simp only [List.set_cons_zero, List.set_cons_succ]
      refine run_nil ?_
      refine norm_then ?_
      refine wp_seq ?_
      refine wp_seq ?_
      obtain ⟨v14, H14, H⟩ := of_bind H
      obtain ⟨v15, H15, H⟩ := of_bind H
      obtain ⟨v16, H16, H⟩ := of_bind H
      obtain ⟨v17, H17, H⟩ := of_bind H
      obtain ⟨v18, H18, H⟩ := of_bind H
      refine drawn [.eq (Value.agg #[Value.int .i64 v13.vKind, Value.int .i64 v13.vLo, Value.int .i64 v13.vHi]), .eq (Value.agg #[Value.int .i64 a1.vKind, Value.int .i64 a1.vLo, Value.int .i64 a1.vHi]), .eq (Value.agg #[Value.int .i64 a0.vKind, Value.int .i64 a0.vLo, Value.int .i64 a0.vHi]), .eq (Value.agg #[Value.int .i64 v14.vKind, Value.int .i64 v14.vLo, Value.int .i64 v14.vHi]), .eq (Value.bool (!((v13.vKind == v14.vKind) && ((v13.vLo == v14.vLo) && ((v13.vHi == v14.vHi) && true))))), .eq (Value.bool (!((v13.vKind == v14.vKind) && ((v13.vLo == v14.vLo) && ((v13.vHi == v14.vHi) && true))))), .eq (gv (true && ((!((v13.vKind == v14.vKind) && ((v13.vLo == v14.vLo) && ((v13.vHi == v14.vHi) && true)))) == false)) (Value.agg #[Value.int .i64 a0.vKind, Value.int .i64 a0.vLo, Value.int .i64 a0.vHi])), .eq (gv (true && ((!((v13.vKind == v14.vKind) && ((v13.vLo == v14.vLo) && ((v13.vHi == v14.vHi) && true)))) == false)) (Value.agg #[Value.int .i64 a0.vKind, Value.int .i64 a0.vLo, Value.int .i64 a0.vHi])), .eq (gv (true && ((!((v13.vKind == v14.vKind) && ((v13.vLo == v14.vLo) && ((v13.vHi == v14.vHi) && true)))) == false)) (Value.agg #[Value.int .i64 v15.vKind, Value.int .i64 v15.vLo, Value.int .i64 v15.vHi])), .eq (gv (true && ((!((v13.vKind == v14.vKind) && ((v13.vLo == v14.vLo) && ((v13.vHi == v14.vHi) && true)))) == false)) (Value.agg #[Value.int .i64 a0.vKind, Value.int .i64 a0.vLo, Value.int .i64 a0.vHi])), .eq (gv (true && ((!((v13.vKind == v14.vKind) && ((v13.vLo == v14.vLo) && ((v13.vHi == v14.vHi) && true)))) == false)) (Value.bool (!((v15.vKind == a0.vKind) && ((v15.vLo == a0.vLo) && ((v15.vHi == a0.vHi) && true)))))), .eq (Value.bool ((!((v13.vKind == v14.vKind) && ((v13.vLo == v14.vLo) && ((v13.vHi == v14.vHi) && true)))) || (!((v15.vKind == a0.vKind) && ((v15.vLo == a0.vLo) && ((v15.vHi == a0.vHi) && true)))))), .eq (Value.bool ((!((v13.vKind == v14.vKind) && ((v13.vLo == v14.vLo) && ((v13.vHi == v14.vHi) && true)))) || (!((v15.vKind == a0.vKind) && ((v15.vLo == a0.vLo) && ((v15.vHi == a0.vHi) && true)))))), .eq (gv (true && (((!((v13.vKind == v14.vKind) && ((v13.vLo == v14.vLo) && ((v13.vHi == v14.vHi) && true)))) || (!((v15.vKind == a0.vKind) && ((v15.vLo == a0.vLo) && ((v15.vHi == a0.vHi) && true))))) == false)) (Value.agg #[Value.int .i64 v13.vKind, Value.int .i64 v13.vLo, Value.int .i64 v13.vHi])), .eq (gv (true && (((!((v13.vKind == v14.vKind) && ((v13.vLo == v14.vLo) && ((v13.vHi == v14.vHi) && true)))) || (!((v15.vKind == a0.vKind) && ((v15.vLo == a0.vLo) && ((v15.vHi == a0.vHi) && true))))) == false)) (Value.agg #[Value.int .i64 a2.vKind, Value.int .i64 a2.vLo, Value.int .i64 a2.vHi])), .eq (gv (true && (((!((v13.vKind == v14.vKind) && ((v13.vLo == v14.vLo) && ((v13.vHi == v14.vHi) && true)))) || (!((v15.vKind == a0.vKind) && ((v15.vLo == a0.vLo) && ((v15.vHi == a0.vHi) && true))))) == false)) (Value.agg #[Value.int .i64 v16.vKind, Value.int .i64 v16.vLo, Value.int .i64 v16.vHi])), .eq (gv (true && (((!((v13.vKind == v14.vKind) && ((v13.vLo == v14.vLo) && ((v13.vHi == v14.vHi) && true)))) || (!((v15.vKind == a0.vKind) && ((v15.vLo == a0.vLo) && ((v15.vHi == a0.vHi) && true))))) == false)) (Value.agg #[Value.int .i64 a0.vKind, Value.int .i64 a0.vLo, Value.int .i64 a0.vHi])), .eq (gv (true && (((!((v13.vKind == v14.vKind) && ((v13.vLo == v14.vLo) && ((v13.vHi == v14.vHi) && true)))) || (!((v15.vKind == a0.vKind) && ((v15.vLo == a0.vLo) && ((v15.vHi == a0.vHi) && true))))) == false)) (Value.agg #[Value.int .i64 a1.vKind, Value.int .i64 a1.vLo, Value.int .i64 a1.vHi])), .eq (gv (true && (((!((v13.vKind == v14.vKind) && ((v13.vLo == v14.vLo) && ((v13.vHi == v14.vHi) && true)))) || (!((v15.vKind == a0.vKind) && ((v15.vLo == a0.vLo) && ((v15.vHi == a0.vHi) && true))))) == false)) (Value.agg #[Value.int .i64 a2.vKind, Value.int .i64 a2.vLo, Value.int .i64 a2.vHi])), .eq (gv (true && (((!((v13.vKind == v14.vKind) && ((v13.vLo == v14.vLo) && ((v13.vHi == v14.vHi) && true)))) || (!((v15.vKind == a0.vKind) && ((v15.vLo == a0.vLo) && ((v15.vHi == a0.vHi) && true))))) == false)) (Value.agg #[Value.int .i64 v17.vKind, Value.int .i64 v17.vLo, Value.int .i64 v17.vHi])), .eq (gv (true && (((!((v13.vKind == v14.vKind) && ((v13.vLo == v14.vLo) && ((v13.vHi == v14.vHi) && true)))) || (!((v15.vKind == a0.vKind) && ((v15.vLo == a0.vLo) && ((v15.vHi == a0.vHi) && true))))) == false)) (Value.agg #[Value.int .i64 v18.vKind, Value.int .i64 v18.vLo, Value.int .i64 v18.vHi])), .eq (gv (true && (((!((v13.vKind == v14.vKind) && ((v13.vLo == v14.vLo) && ((v13.vHi == v14.vHi) && true)))) || (!((v15.vKind == a0.vKind) && ((v15.vLo == a0.vLo) && ((v15.vHi == a0.vHi) && true))))) == false)) (Value.bool (!((v16.vKind == v18.vKind) && ((v16.vLo == v18.vLo) && ((v16.vHi == v18.vHi) && true)))))), .eq (Value.bool (((!((v13.vKind == v14.vKind) && ((v13.vLo == v14.vLo) && ((v13.vHi == v14.vHi) && true)))) || (!((v15.vKind == a0.vKind) && ((v15.vLo == a0.vLo) && ((v15.vHi == a0.vHi) && true))))) || (!((v16.vKind == v18.vKind) && ((v16.vLo == v18.vLo) && ((v16.vHi == v18.vHi) && true))))))] [81, 82, 83, 84, 85, 86, 87, 88, 89, 90, 91, 92, 93, 94, 95, 96, 97, 98, 99, 100, 101, 102, 103] hmix (by kernel_rfl) rfl (stable_eq (stable_eq (stable_eq (stable_eq (stable_eq (stable_eq (stable_eq (stable_eq (stable_eq (stable_eq (stable_eq (stable_eq (stable_eq (stable_eq (stable_eq (stable_eq (stable_eq (stable_eq (stable_eq (stable_eq (stable_eq (stable_eq (stable_eq stable_nil))))))))))))))))))))))) ⟨ob_plain rfl (fun a' w' hE hk => by have HSd := HS21.step hE; exact does_eq (r_loadBoxAgg (n := 3) (vs := [Value.int .i64 v13.vKind, Value.int .i64 v13.vLo, Value.int .i64 v13.vHi]) (show _ = Value.pointer (some ⟨b6, 0, none⟩) from hk 12 rfl) Tryz.isAgg23 (HSd.look 0 rfl) Tryz.sizeOf23 rfl rfl)), ob_plain rfl (fun a' w' hE hk => by have HSd := HS21.step hE; exact does_eq (r_loadBoxAgg (n := 3) (vs := [Value.int .i64 a1.vKind, Value.int .i64 a1.vLo, Value.int .i64 a1.vHi]) (show _ = Value.pointer (some ⟨b2, 0, none⟩) from hk 5 rfl) Tryz.isAgg23 (HSd.look 4 rfl) Tryz.sizeOf23 rfl rfl)), ob_plain rfl (fun a' w' hE hk => by have HSd := HS21.step hE; exact does_eq (r_loadBoxAgg (n := 3) (vs := [Value.int .i64 a0.vKind, Value.int .i64 a0.vLo, Value.int .i64 a0.vHi]) (show _ = Value.pointer (some ⟨b1, 0, none⟩) from hk 4 rfl) Tryz.isAgg23 (HSd.look 5 rfl) Tryz.sizeOf23 rfl rfl)), ob_plain rfl (fun a' w' hE hk => by have HSd := HS21.step hE; exact (does_call_eq Tryz.call6 rfl (map2 (show _ = Value.agg #[Value.int .i64 a1.vKind, Value.int .i64 a1.vLo, Value.int .i64 a1.vHi] from hk 82 rfl) (show _ = Value.agg #[Value.int .i64 a0.vKind, Value.int .i64 a0.vLo, Value.int .i64 a0.vHi] from hk 83 rfl)) (verify_Join.calls a1 a0 HSd.sees (ht.s HSd) H14))), ob_plain rfl (fun a' w' hE hk => by have HSd := HS21.step hE; exact does_eq (r_aggneq (show _ = Value.agg #[Value.int .i64 v13.vKind, Value.int .i64 v13.vLo, Value.int .i64 v13.vHi] from hk 81 rfl) (show _ = Value.agg #[Value.int .i64 v14.vKind, Value.int .i64 v14.vLo, Value.int .i64 v14.vHi] from hk 84 rfl) Tryz.eqGuardType23 (eqr_agg Tryz.stoodInHeld23 Tryz.underlying23 (eqf_cons (by decide) (part_one Tryz.isAgg3 rfl) (part_one Tryz.isAgg3 rfl) (eqr_int Tryz.underlying3) (eqf_cons (by decide) (part_one Tryz.isAgg2 rfl) (part_one Tryz.isAgg2 rfl) (eqr_int Tryz.underlying2) (eqf_cons (by decide) (part_one Tryz.isAgg2 rfl) (part_one Tryz.isAgg2 rfl) (eqr_int Tryz.underlying2) eqf_nil)))))), ob_plain rfl (fun a' w' hE hk => by have HSd := HS21.step hE; exact does_eq (r_move (show _ = Value.bool (!((v13.vKind == v14.vKind) && ((v13.vLo == v14.vLo) && ((v13.vHi == v14.vHi) && true)))) from hk 85 rfl))), ob_guard (b := (!((v13.vKind == v14.vKind) && ((v13.vLo == v14.vLo) && ((v13.vHi == v14.vHi) && true))))) (c := true) rfl rfl (by decide) (fun w' u hu => hu) (fun a' w' hE hk hg => by have HSd := HS21.step hE; exact does_eq (r_loadBoxAgg (n := 3) (vs := [Value.int .i64 a0.vKind, Value.int .i64 a0.vLo, Value.int .i64 a0.vHi]) (show _ = Value.pointer (some ⟨b1, 0, none⟩) from hk 4 rfl) Tryz.isAgg23 (HSd.look 5 rfl) Tryz.sizeOf23 rfl rfl)), ob_guard (b := (!((v13.vKind == v14.vKind) && ((v13.vLo == v14.vLo) && ((v13.vHi == v14.vHi) && true))))) (c := true) rfl rfl (by decide) (fun w' u hu => hu) (fun a' w' hE hk hg => by have HSd := HS21.step hE; exact does_eq (r_loadBoxAgg (n := 3) (vs := [Value.int .i64 a0.vKind, Value.int .i64 a0.vLo, Value.int .i64 a0.vHi]) (show _ = Value.pointer (some ⟨b1, 0, none⟩) from hk 4 rfl) Tryz.isAgg23 (HSd.look 5 rfl) Tryz.sizeOf23 rfl rfl)), ob_guard (b := (!((v13.vKind == v14.vKind) && ((v13.vLo == v14.vLo) && ((v13.vHi == v14.vHi) && true))))) (c := true) rfl rfl (by decide) (fun w' u hu => hu) (fun a' w' hE hk hg => by have HSd := HS21.step hE; exact (does_call_eq Tryz.call6 rfl (map2 ((show _ = gv (true && ((!((v13.vKind == v14.vKind) && ((v13.vLo == v14.vLo) && ((v13.vHi == v14.vHi) && true)))) == false)) (Value.agg #[Value.int .i64 a0.vKind, Value.int .i64 a0.vLo, Value.int .i64 a0.vHi]) from (show _ = gv (true && ((!((v13.vKind == v14.vKind) && ((v13.vLo == v14.vLo) && ((v13.vHi == v14.vHi) && true)))) == false)) (Value.agg #[Value.int .i64 a0.vKind, Value.int .i64 a0.vLo, Value.int .i64 a0.vHi]) from hk 87 rfl)).trans (gv_t hg)) ((show _ = gv (true && ((!((v13.vKind == v14.vKind) && ((v13.vLo == v14.vLo) && ((v13.vHi == v14.vHi) && true)))) == false)) (Value.agg #[Value.int .i64 a0.vKind, Value.int .i64 a0.vLo, Value.int .i64 a0.vHi]) from (show _ = gv (true && ((!((v13.vKind == v14.vKind) && ((v13.vLo == v14.vLo) && ((v13.vHi == v14.vHi) && true)))) == false)) (Value.agg #[Value.int .i64 a0.vKind, Value.int .i64 a0.vLo, Value.int .i64 a0.vHi]) from hk 88 rfl)).trans (gv_t hg))) (verify_Join.calls a0 a0 HSd.sees (ht.s HSd) (of_pos H15 hg)))), ob_guard (b := (!((v13.vKind == v14.vKind) && ((v13.vLo == v14.vLo) && ((v13.vHi == v14.vHi) && true))))) (c := true) rfl rfl (by decide) (fun w' u hu => hu) (fun a' w' hE hk hg => by have HSd := HS21.step hE; exact does_eq (r_loadBoxAgg (n := 3) (vs := [Value.int .i64 a0.vKind, Value.int .i64 a0.vLo, Value.int .i64 a0.vHi]) (show _ = Value.pointer (some ⟨b1, 0, none⟩) from hk 4 rfl) Tryz.isAgg23 (HSd.look 5 rfl) Tryz.sizeOf23 rfl rfl)), ob_guard (b := (!((v13.vKind == v14.vKind) && ((v13.vLo == v14.vLo) && ((v13.vHi == v14.vHi) && true))))) (c := true) rfl rfl (by decide) (fun w' u hu => hu) (fun a' w' hE hk hg => by have HSd := HS21.step hE; exact does_eq (r_aggneq ((show _ = gv (true && ((!((v13.vKind == v14.vKind) && ((v13.vLo == v14.vLo) && ((v13.vHi == v14.vHi) && true)))) == false)) (Value.agg #[Value.int .i64 v15.vKind, Value.int .i64 v15.vLo, Value.int .i64 v15.vHi]) from (show _ = gv (true && ((!((v13.vKind == v14.vKind) && ((v13.vLo == v14.vLo) && ((v13.vHi == v14.vHi) && true)))) == false)) (Value.agg #[Value.int .i64 v15.vKind, Value.int .i64 v15.vLo, Value.int .i64 v15.vHi]) from hk 89 rfl)).trans (gv_t hg)) ((show _ = gv (true && ((!((v13.vKind == v14.vKind) && ((v13.vLo == v14.vLo) && ((v13.vHi == v14.vHi) && true)))) == false)) (Value.agg #[Value.int .i64 a0.vKind, Value.int .i64 a0.vLo, Value.int .i64 a0.vHi]) from (show _ = gv (true && ((!((v13.vKind == v14.vKind) && ((v13.vLo == v14.vLo) && ((v13.vHi == v14.vHi) && true)))) == false)) (Value.agg #[Value.int .i64 a0.vKind, Value.int .i64 a0.vLo, Value.int .i64 a0.vHi]) from hk 90 rfl)).trans (gv_t hg)) Tryz.eqGuardType23 (eqr_agg Tryz.stoodInHeld23 Tryz.underlying23 (eqf_cons (by decide) (part_one Tryz.isAgg3 rfl) (part_one Tryz.isAgg3 rfl) (eqr_int Tryz.underlying3) (eqf_cons (by decide) (part_one Tryz.isAgg2 rfl) (part_one Tryz.isAgg2 rfl) (eqr_int Tryz.underlying2) (eqf_cons (by decide) (part_one Tryz.isAgg2 rfl) (part_one Tryz.isAgg2 rfl) (eqr_int Tryz.underlying2) eqf_nil)))))), ob_plain rfl (fun a' w' hE hk => by have HSd := HS21.step hE; exact does_eq (r_pick_or (show _ = Value.bool (!((v13.vKind == v14.vKind) && ((v13.vLo == v14.vLo) && ((v13.vHi == v14.vHi) && true)))) from hk 86 rfl) rfl (fun hp => ((show _ = gv (true && ((!((v13.vKind == v14.vKind) && ((v13.vLo == v14.vLo) && ((v13.vHi == v14.vHi) && true)))) == false)) (Value.bool (!((v15.vKind == a0.vKind) && ((v15.vLo == a0.vLo) && ((v15.vHi == a0.vHi) && true))))) from (show _ = gv (true && ((!((v13.vKind == v14.vKind) && ((v13.vLo == v14.vLo) && ((v13.vHi == v14.vHi) && true)))) == false)) (Value.bool (!((v15.vKind == a0.vKind) && ((v15.vLo == a0.vLo) && ((v15.vHi == a0.vHi) && true))))) from hk 91 rfl)).trans (gv_t (and_i rfl hp)))))), ob_plain rfl (fun a' w' hE hk => by have HSd := HS21.step hE; exact does_eq (r_move (show _ = Value.bool ((!((v13.vKind == v14.vKind) && ((v13.vLo == v14.vLo) && ((v13.vHi == v14.vHi) && true)))) || (!((v15.vKind == a0.vKind) && ((v15.vLo == a0.vLo) && ((v15.vHi == a0.vHi) && true))))) from hk 92 rfl))), ob_guard (b := ((!((v13.vKind == v14.vKind) && ((v13.vLo == v14.vLo) && ((v13.vHi == v14.vHi) && true)))) || (!((v15.vKind == a0.vKind) && ((v15.vLo == a0.vLo) && ((v15.vHi == a0.vHi) && true)))))) (c := true) rfl rfl (by decide) (fun w' u hu => hu) (fun a' w' hE hk hg => by have HSd := HS21.step hE; exact does_eq (r_loadBoxAgg (n := 3) (vs := [Value.int .i64 v13.vKind, Value.int .i64 v13.vLo, Value.int .i64 v13.vHi]) (show _ = Value.pointer (some ⟨b6, 0, none⟩) from hk 12 rfl) Tryz.isAgg23 (HSd.look 0 rfl) Tryz.sizeOf23 rfl rfl)), ob_guard (b := ((!((v13.vKind == v14.vKind) && ((v13.vLo == v14.vLo) && ((v13.vHi == v14.vHi) && true)))) || (!((v15.vKind == a0.vKind) && ((v15.vLo == a0.vLo) && ((v15.vHi == a0.vHi) && true)))))) (c := true) rfl rfl (by decide) (fun w' u hu => hu) (fun a' w' hE hk hg => by have HSd := HS21.step hE; exact does_eq (r_loadBoxAgg (n := 3) (vs := [Value.int .i64 a2.vKind, Value.int .i64 a2.vLo, Value.int .i64 a2.vHi]) (show _ = Value.pointer (some ⟨b3, 0, none⟩) from hk 6 rfl) Tryz.isAgg23 (HSd.look 3 rfl) Tryz.sizeOf23 rfl rfl)), ob_guard (b := ((!((v13.vKind == v14.vKind) && ((v13.vLo == v14.vLo) && ((v13.vHi == v14.vHi) && true)))) || (!((v15.vKind == a0.vKind) && ((v15.vLo == a0.vLo) && ((v15.vHi == a0.vHi) && true)))))) (c := true) rfl rfl (by decide) (fun w' u hu => hu) (fun a' w' hE hk hg => by have HSd := HS21.step hE; exact (does_call_eq Tryz.call6 rfl (map2 ((show _ = gv (true && (((!((v13.vKind == v14.vKind) && ((v13.vLo == v14.vLo) && ((v13.vHi == v14.vHi) && true)))) || (!((v15.vKind == a0.vKind) && ((v15.vLo == a0.vLo) && ((v15.vHi == a0.vHi) && true))))) == false)) (Value.agg #[Value.int .i64 v13.vKind, Value.int .i64 v13.vLo, Value.int .i64 v13.vHi]) from (show _ = gv (true && (((!((v13.vKind == v14.vKind) && ((v13.vLo == v14.vLo) && ((v13.vHi == v14.vHi) && true)))) || (!((v15.vKind == a0.vKind) && ((v15.vLo == a0.vLo) && ((v15.vHi == a0.vHi) && true))))) == false)) (Value.agg #[Value.int .i64 v13.vKind, Value.int .i64 v13.vLo, Value.int .i64 v13.vHi]) from hk 94 rfl)).trans (gv_t hg)) ((show _ = gv (true && (((!((v13.vKind == v14.vKind) && ((v13.vLo == v14.vLo) && ((v13.vHi == v14.vHi) && true)))) || (!((v15.vKind == a0.vKind) && ((v15.vLo == a0.vLo) && ((v15.vHi == a0.vHi) && true))))) == false)) (Value.agg #[Value.int .i64 a2.vKind, Value.int .i64 a2.vLo, Value.int .i64 a2.vHi]) from (show _ = gv (true && (((!((v13.vKind == v14.vKind) && ((v13.vLo == v14.vLo) && ((v13.vHi == v14.vHi) && true)))) || (!((v15.vKind == a0.vKind) && ((v15.vLo == a0.vLo) && ((v15.vHi == a0.vHi) && true))))) == false)) (Value.agg #[Value.int .i64 a2.vKind, Value.int .i64 a2.vLo, Value.int .i64 a2.vHi]) from hk 95 rfl)).trans (gv_t hg))) (verify_Join.calls v13 a2 HSd.sees (ht.s HSd) (of_pos H16 hg)))), ob_guard (b := ((!((v13.vKind == v14.vKind) && ((v13.vLo == v14.vLo) && ((v13.vHi == v14.vHi) && true)))) || (!((v15.vKind == a0.vKind) && ((v15.vLo == a0.vLo) && ((v15.vHi == a0.vHi) && true)))))) (c := true) rfl rfl (by decide) (fun w' u hu => hu) (fun a' w' hE hk hg => by have HSd := HS21.step hE; exact does_eq (r_loadBoxAgg (n := 3) (vs := [Value.int .i64 a0.vKind, Value.int .i64 a0.vLo, Value.int .i64 a0.vHi]) (show _ = Value.pointer (some ⟨b1, 0, none⟩) from hk 4 rfl) Tryz.isAgg23 (HSd.look 5 rfl) Tryz.sizeOf23 rfl rfl)), ob_guard (b := ((!((v13.vKind == v14.vKind) && ((v13.vLo == v14.vLo) && ((v13.vHi == v14.vHi) && true)))) || (!((v15.vKind == a0.vKind) && ((v15.vLo == a0.vLo) && ((v15.vHi == a0.vHi) && true)))))) (c := true) rfl rfl (by decide) (fun w' u hu => hu) (fun a' w' hE hk hg => by have HSd := HS21.step hE; exact does_eq (r_loadBoxAgg (n := 3) (vs := [Value.int .i64 a1.vKind, Value.int .i64 a1.vLo, Value.int .i64 a1.vHi]) (show _ = Value.pointer (some ⟨b2, 0, none⟩) from hk 5 rfl) Tryz.isAgg23 (HSd.look 4 rfl) Tryz.sizeOf23 rfl rfl)), ob_guard (b := ((!((v13.vKind == v14.vKind) && ((v13.vLo == v14.vLo) && ((v13.vHi == v14.vHi) && true)))) || (!((v15.vKind == a0.vKind) && ((v15.vLo == a0.vLo) && ((v15.vHi == a0.vHi) && true)))))) (c := true) rfl rfl (by decide) (fun w' u hu => hu) (fun a' w' hE hk hg => by have HSd := HS21.step hE; exact does_eq (r_loadBoxAgg (n := 3) (vs := [Value.int .i64 a2.vKind, Value.int .i64 a2.vLo, Value.int .i64 a2.vHi]) (show _ = Value.pointer (some ⟨b3, 0, none⟩) from hk 6 rfl) Tryz.isAgg23 (HSd.look 3 rfl) Tryz.sizeOf23 rfl rfl)), ob_guard (b := ((!((v13.vKind == v14.vKind) && ((v13.vLo == v14.vLo) && ((v13.vHi == v14.vHi) && true)))) || (!((v15.vKind == a0.vKind) && ((v15.vLo == a0.vLo) && ((v15.vHi == a0.vHi) && true)))))) (c := true) rfl rfl (by decide) (fun w' u hu => hu) (fun a' w' hE hk hg => by have HSd := HS21.step hE; exact (does_call_eq Tryz.call6 rfl (map2 ((show _ = gv (true && (((!((v13.vKind == v14.vKind) && ((v13.vLo == v14.vLo) && ((v13.vHi == v14.vHi) && true)))) || (!((v15.vKind == a0.vKind) && ((v15.vLo == a0.vLo) && ((v15.vHi == a0.vHi) && true))))) == false)) (Value.agg #[Value.int .i64 a1.vKind, Value.int .i64 a1.vLo, Value.int .i64 a1.vHi]) from (show _ = gv (true && (((!((v13.vKind == v14.vKind) && ((v13.vLo == v14.vLo) && ((v13.vHi == v14.vHi) && true)))) || (!((v15.vKind == a0.vKind) && ((v15.vLo == a0.vLo) && ((v15.vHi == a0.vHi) && true))))) == false)) (Value.agg #[Value.int .i64 a1.vKind, Value.int .i64 a1.vLo, Value.int .i64 a1.vHi]) from hk 98 rfl)).trans (gv_t hg)) ((show _ = gv (true && (((!((v13.vKind == v14.vKind) && ((v13.vLo == v14.vLo) && ((v13.vHi == v14.vHi) && true)))) || (!((v15.vKind == a0.vKind) && ((v15.vLo == a0.vLo) && ((v15.vHi == a0.vHi) && true))))) == false)) (Value.agg #[Value.int .i64 a2.vKind, Value.int .i64 a2.vLo, Value.int .i64 a2.vHi]) from (show _ = gv (true && (((!((v13.vKind == v14.vKind) && ((v13.vLo == v14.vLo) && ((v13.vHi == v14.vHi) && true)))) || (!((v15.vKind == a0.vKind) && ((v15.vLo == a0.vLo) && ((v15.vHi == a0.vHi) && true))))) == false)) (Value.agg #[Value.int .i64 a2.vKind, Value.int .i64 a2.vLo, Value.int .i64 a2.vHi]) from hk 99 rfl)).trans (gv_t hg))) (verify_Join.calls a1 a2 HSd.sees (ht.s HSd) (of_pos H17 hg)))), ob_guard (b := ((!((v13.vKind == v14.vKind) && ((v13.vLo == v14.vLo) && ((v13.vHi == v14.vHi) && true)))) || (!((v15.vKind == a0.vKind) && ((v15.vLo == a0.vLo) && ((v15.vHi == a0.vHi) && true)))))) (c := true) rfl rfl (by decide) (fun w' u hu => hu) (fun a' w' hE hk hg => by have HSd := HS21.step hE; exact (does_call_eq Tryz.call6 rfl (map2 ((show _ = gv (true && (((!((v13.vKind == v14.vKind) && ((v13.vLo == v14.vLo) && ((v13.vHi == v14.vHi) && true)))) || (!((v15.vKind == a0.vKind) && ((v15.vLo == a0.vLo) && ((v15.vHi == a0.vHi) && true))))) == false)) (Value.agg #[Value.int .i64 a0.vKind, Value.int .i64 a0.vLo, Value.int .i64 a0.vHi]) from (show _ = gv (true && (((!((v13.vKind == v14.vKind) && ((v13.vLo == v14.vLo) && ((v13.vHi == v14.vHi) && true)))) || (!((v15.vKind == a0.vKind) && ((v15.vLo == a0.vLo) && ((v15.vHi == a0.vHi) && true))))) == false)) (Value.agg #[Value.int .i64 a0.vKind, Value.int .i64 a0.vLo, Value.int .i64 a0.vHi]) from hk 97 rfl)).trans (gv_t hg)) ((show _ = gv (true && (((!((v13.vKind == v14.vKind) && ((v13.vLo == v14.vLo) && ((v13.vHi == v14.vHi) && true)))) || (!((v15.vKind == a0.vKind) && ((v15.vLo == a0.vLo) && ((v15.vHi == a0.vHi) && true))))) == false)) (Value.agg #[Value.int .i64 v17.vKind, Value.int .i64 v17.vLo, Value.int .i64 v17.vHi]) from (show _ = gv (true && (((!((v13.vKind == v14.vKind) && ((v13.vLo == v14.vLo) && ((v13.vHi == v14.vHi) && true)))) || (!((v15.vKind == a0.vKind) && ((v15.vLo == a0.vLo) && ((v15.vHi == a0.vHi) && true))))) == false)) (Value.agg #[Value.int .i64 v17.vKind, Value.int .i64 v17.vLo, Value.int .i64 v17.vHi]) from hk 100 rfl)).trans (gv_t hg))) (verify_Join.calls a0 v17 HSd.sees (ht.s HSd) (of_pos H18 hg)))), ob_guard (b := ((!((v13.vKind == v14.vKind) && ((v13.vLo == v14.vLo) && ((v13.vHi == v14.vHi) && true)))) || (!((v15.vKind == a0.vKind) && ((v15.vLo == a0.vLo) && ((v15.vHi == a0.vHi) && true)))))) (c := true) rfl rfl (by decide) (fun w' u hu => hu) (fun a' w' hE hk hg => by have HSd := HS21.step hE; exact does_eq (r_aggneq ((show _ = gv (true && (((!((v13.vKind == v14.vKind) && ((v13.vLo == v14.vLo) && ((v13.vHi == v14.vHi) && true)))) || (!((v15.vKind == a0.vKind) && ((v15.vLo == a0.vLo) && ((v15.vHi == a0.vHi) && true))))) == false)) (Value.agg #[Value.int .i64 v16.vKind, Value.int .i64 v16.vLo, Value.int .i64 v16.vHi]) from (show _ = gv (true && (((!((v13.vKind == v14.vKind) && ((v13.vLo == v14.vLo) && ((v13.vHi == v14.vHi) && true)))) || (!((v15.vKind == a0.vKind) && ((v15.vLo == a0.vLo) && ((v15.vHi == a0.vHi) && true))))) == false)) (Value.agg #[Value.int .i64 v16.vKind, Value.int .i64 v16.vLo, Value.int .i64 v16.vHi]) from hk 96 rfl)).trans (gv_t hg)) ((show _ = gv (true && (((!((v13.vKind == v14.vKind) && ((v13.vLo == v14.vLo) && ((v13.vHi == v14.vHi) && true)))) || (!((v15.vKind == a0.vKind) && ((v15.vLo == a0.vLo) && ((v15.vHi == a0.vHi) && true))))) == false)) (Value.agg #[Value.int .i64 v18.vKind, Value.int .i64 v18.vLo, Value.int .i64 v18.vHi]) from (show _ = gv (true && (((!((v13.vKind == v14.vKind) && ((v13.vLo == v14.vLo) && ((v13.vHi == v14.vHi) && true)))) || (!((v15.vKind == a0.vKind) && ((v15.vLo == a0.vLo) && ((v15.vHi == a0.vHi) && true))))) == false)) (Value.agg #[Value.int .i64 v18.vKind, Value.int .i64 v18.vLo, Value.int .i64 v18.vHi]) from hk 101 rfl)).trans (gv_t hg)) Tryz.eqGuardType23 (eqr_agg Tryz.stoodInHeld23 Tryz.underlying23 (eqf_cons (by decide) (part_one Tryz.isAgg3 rfl) (part_one Tryz.isAgg3 rfl) (eqr_int Tryz.underlying3) (eqf_cons (by decide) (part_one Tryz.isAgg2 rfl) (part_one Tryz.isAgg2 rfl) (eqr_int Tryz.underlying2) (eqf_cons (by decide) (part_one Tryz.isAgg2 rfl) (part_one Tryz.isAgg2 rfl) (eqr_int Tryz.underlying2) eqf_nil)))))), ob_plain rfl (fun a' w' hE hk => by have HSd := HS21.step hE; exact does_eq (r_pick_or (show _ = Value.bool ((!((v13.vKind == v14.vKind) && ((v13.vLo == v14.vLo) && ((v13.vHi == v14.vHi) && true)))) || (!((v15.vKind == a0.vKind) && ((v15.vLo == a0.vLo) && ((v15.vHi == a0.vHi) && true))))) from hk 93 rfl) rfl (fun hp => ((show _ = gv (true && (((!((v13.vKind == v14.vKind) && ((v13.vLo == v14.vLo) && ((v13.vHi == v14.vHi) && true)))) || (!((v15.vKind == a0.vKind) && ((v15.vLo == a0.vLo) && ((v15.vHi == a0.vHi) && true))))) == false)) (Value.bool (!((v16.vKind == v18.vKind) && ((v16.vLo == v18.vLo) && ((v16.vHi == v18.vHi) && true))))) from (show _ = gv (true && (((!((v13.vKind == v14.vKind) && ((v13.vLo == v14.vLo) && ((v13.vHi == v14.vHi) && true)))) || (!((v15.vKind == a0.vKind) && ((v15.vLo == a0.vLo) && ((v15.vHi == a0.vHi) && true))))) == false)) (Value.bool (!((v16.vKind == v18.vKind) && ((v16.vLo == v18.vLo) && ((v16.vHi == v18.vHi) && true))))) from hk 102 rfl)).trans (gv_t (and_i rfl hp)))))), trivial⟩ ?_
      intro w22 hE20
      simp only [List.zip_cons_cons, List.zip_nil_left, List.zip_nil_right, finL, List.set_cons_zero, List.set_cons_succ, List.length_cons, List.length_nil, List.drop_succ_cons, List.drop_zero, Nat.zero_add, Nat.reduceAdd]
      have HS22 := HS21.step hE20
      refine run_nil ?_
      refine norm_then ?_
      refine wp_cond_split (t := (((!((v13.vKind == v14.vKind) && ((v13.vLo == v14.vLo) && ((v13.vHi == v14.vHi) && true)))) || (!((v15.vKind == a0.vKind) && ((v15.vLo == a0.vLo) && ((v15.vHi == a0.vHi) && true))))) || (!((v16.vKind == v18.vKind) && ((v16.vLo == v18.vLo) && ((v16.vHi == v18.vHi) && true)))))) rfl (fun c3 => ?_) (fun c3 => ?_)
      · replace H := of_pos H c3
        refine wp_seq ?_
        refine region ?_
        refine run_same (v := Value.bool false) rfl rfl (r_assign rfl) ?_
        try simp only [List.set_cons_zero, List.set_cons_succ]
        refine run_nil ?_
        refine norm_then ?_
        refine wp_ret ?_
        refine ret_then ?_
        obtain rfl := Option.some.inj H
        refine bodyPost_ret (results_1 rfl (one_tmp rfl)) rfl ?_
        exact ⟨rfl, HS22.toE⟩
      · replace H := of_neg H (nt c3)
        refine wp_skip ?_
        refine norm_then ?_
        refine wp_seq ?_
        refine wp_seq ?_
        refine region ?_
        refine run_same (v := Value.agg #[Value.int .i64 a0.vKind, Value.int .i64 a0.vLo, Value.int .i64 a0.vHi]) rfl rfl (r_loadBoxAgg (n := 3) (vs := [Value.int .i64 a0.vKind, Value.int .i64 a0.vLo, Value.int .i64 a0.vHi]) rfl Tryz.isAgg23 (HS22.look 5 rfl) Tryz.sizeOf23 rfl rfl) ?_
        refine run_same (v := Value.agg #[Value.int .i64 v13.vKind, Value.int .i64 v13.vLo, Value.int .i64 v13.vHi]) rfl rfl (r_loadBoxAgg (n := 3) (vs := [Value.int .i64 v13.vKind, Value.int .i64 v13.vLo, Value.int .i64 v13.vHi]) rfl Tryz.isAgg23 (HS22.look 0 rfl) Tryz.sizeOf23 rfl rfl) ?_
        obtain ⟨v19, H19, H⟩ := of_bind H
        refine run_eq (v := Value.bool v19) rfl rfl (does_call_eq Tryz.call8 rfl rfl (verify_Below.calls a0 v13 HS22.sees H19)) ?_
        intro w23 hE21
        have HS23 := HS22.step hE21
        refine run_same (v := Value.bool (!v19)) rfl rfl (r_not rfl) ?_
        refine run_frame (by simp only [List.set_cons_zero, List.set_cons_succ]; rfl) ?_
        refine run_same (v := Value.bool (!v19)) rfl rfl (r_move rfl) ?_
        refine run_g_same (b := (!v19)) (c := true) (v := Value.agg #[Value.int .i64 a1.vKind, Value.int .i64 a1.vLo, Value.int .i64 a1.vHi]) rfl rfl rfl rfl (fun hg => (r_loadBoxAgg (n := 3) (vs := [Value.int .i64 a1.vKind, Value.int .i64 a1.vLo, Value.int .i64 a1.vHi]) rfl Tryz.isAgg23 (HS23.look 4 rfl) Tryz.sizeOf23 rfl rfl)) ?_
        refine run_g_same (b := (!v19)) (c := true) (v := Value.agg #[Value.int .i64 v13.vKind, Value.int .i64 v13.vLo, Value.int .i64 v13.vHi]) rfl rfl rfl rfl (fun hg => (r_loadBoxAgg (n := 3) (vs := [Value.int .i64 v13.vKind, Value.int .i64 v13.vLo, Value.int .i64 v13.vHi]) rfl Tryz.isAgg23 (HS23.look 0 rfl) Tryz.sizeOf23 rfl rfl)) ?_
        obtain ⟨v20, H20, H⟩ := of_bind H
        refine run_g (b := (!v19)) (c := true) (v := Value.bool v20) rfl rfl rfl rfl (fun hg => (does_call_eq Tryz.call8 rfl (map2 ((show _ = gv (true && ((!v19) == false)) (Value.agg #[Value.int .i64 a1.vKind, Value.int .i64 a1.vLo, Value.int .i64 a1.vHi]) from rfl).trans (gv_t hg)) ((show _ = gv (true && ((!v19) == false)) (Value.agg #[Value.int .i64 v13.vKind, Value.int .i64 v13.vLo, Value.int .i64 v13.vHi]) from rfl).trans (gv_t hg))) (verify_Below.calls a1 v13 HS23.sees (of_pos H20 hg)))) ?_
        intro w24 hE22
        have HS24 := HS23.step hE22
        refine run_frame (by simp only [List.set_cons_zero, List.set_cons_succ]; rfl) ?_
        refine run_g_same (b := (!v19)) (c := true) (v := Value.bool (!v20)) rfl rfl rfl rfl (fun hg => (r_not ((show _ = gv (true && ((!v19) == false)) (Value.bool v20) from rfl).trans (gv_t hg)))) ?_
        refine run_same (v := Value.bool ((!v19) || (!v20))) rfl rfl (r_pick_or rfl rfl (fun hp => ((show _ = gv (true && ((!v19) == false)) (Value.bool (!v20)) from rfl).trans (gv_t (and_i rfl hp))))) ?_
        refine run_same (v := Value.bool ((!v19) || (!v20))) rfl rfl (r_move rfl) ?_
        refine run_g_same (b := ((!v19) || (!v20))) (c := true) (v := Value.agg #[Value.int .i64 a0.vKind, Value.int .i64 a0.vLo, Value.int .i64 a0.vHi]) rfl rfl rfl rfl (fun hg => (r_loadBoxAgg (n := 3) (vs := [Value.int .i64 a0.vKind, Value.int .i64 a0.vLo, Value.int .i64 a0.vHi]) rfl Tryz.isAgg23 (HS24.look 5 rfl) Tryz.sizeOf23 rfl rfl)) ?_
        refine run_frame (by simp only [List.set_cons_zero, List.set_cons_succ]; rfl) ?_
        refine run_g_same (b := ((!v19) || (!v20))) (c := true) (v := Value.agg #[Value.int .i64 a2.vKind, Value.int .i64 a2.vLo, Value.int .i64 a2.vHi]) rfl rfl rfl rfl (fun hg => (r_loadBoxAgg (n := 3) (vs := [Value.int .i64 a2.vKind, Value.int .i64 a2.vLo, Value.int .i64 a2.vHi]) rfl Tryz.isAgg23 (HS24.look 3 rfl) Tryz.sizeOf23 rfl rfl)) ?_
        obtain ⟨v21, H21, H⟩ := of_bind H
        refine run_g (b := ((!v19) || (!v20))) (c := true) (v := Value.bool v21) rfl rfl rfl rfl (fun hg => (does_call_eq Tryz.call8 rfl (map2 ((show _ = gv (true && (((!v19) || (!v20)) == false)) (Value.agg #[Value.int .i64 a0.vKind, Value.int .i64 a0.vLo, Value.int .i64 a0.vHi]) from rfl).trans (gv_t hg)) ((show _ = gv (true && (((!v19) || (!v20)) == false)) (Value.agg #[Value.int .i64 a2.vKind, Value.int .i64 a2.vLo, Value.int .i64 a2.vHi]) from rfl).trans (gv_t hg))) (verify_Below.calls a0 a2 HS24.sees (of_pos H21 hg)))) ?_
        intro w25 hE23
        have HS25 := HS24.step hE23
        refine run_g_same (b := ((!v19) || (!v20))) (c := true) (v := Value.bool v21) rfl rfl rfl rfl (fun hg => (r_move ((show _ = gv (true && (((!v19) || (!v20)) == false)) (Value.bool v21) from rfl).trans (gv_t hg)))) ?_
        refine run_g_same (b := v21) (c := (true && (((!v19) || (!v20)) == false))) (v := Value.agg #[Value.int .i64 a1.vKind, Value.int .i64 a1.vLo, Value.int .i64 a1.vHi]) rfl rfl rfl rfl (fun hg => (r_loadBoxAgg (n := 3) (vs := [Value.int .i64 a1.vKind, Value.int .i64 a1.vLo, Value.int .i64 a1.vHi]) rfl Tryz.isAgg23 (HS25.look 4 rfl) Tryz.sizeOf23 rfl rfl)) ?_
        refine run_frame (by simp only [List.set_cons_zero, List.set_cons_succ]; rfl) ?_
        refine run_g_same (b := v21) (c := (true && (((!v19) || (!v20)) == false))) (v := Value.agg #[Value.int .i64 a2.vKind, Value.int .i64 a2.vLo, Value.int .i64 a2.vHi]) rfl rfl rfl rfl (fun hg => (r_loadBoxAgg (n := 3) (vs := [Value.int .i64 a2.vKind, Value.int .i64 a2.vLo, Value.int .i64 a2.vHi]) rfl Tryz.isAgg23 (HS25.look 3 rfl) Tryz.sizeOf23 rfl rfl)) ?_
        obtain ⟨v22, H22, H⟩ := of_bind H
        refine run_g (b := v21) (c := (true && (((!v19) || (!v20)) == false))) (v := Value.bool v22) rfl rfl rfl rfl (fun hg => (does_call_eq Tryz.call8 rfl (map2 ((show _ = gv ((true && (((!v19) || (!v20)) == false)) && (v21 == true)) (Value.agg #[Value.int .i64 a1.vKind, Value.int .i64 a1.vLo, Value.int .i64 a1.vHi]) from rfl).trans (gv_t hg)) ((show _ = gv ((true && (((!v19) || (!v20)) == false)) && (v21 == true)) (Value.agg #[Value.int .i64 a2.vKind, Value.int .i64 a2.vLo, Value.int .i64 a2.vHi]) from rfl).trans (gv_t hg))) (verify_Below.calls a1 a2 HS25.sees (of_pos H22 hg)))) ?_
        intro w26 hE24
        have HS26 := HS25.step hE24
        refine run_g_same (b := ((!v19) || (!v20))) (c := true) (v := Value.bool (v21 && v22)) rfl rfl rfl rfl (fun hg => (r_pick_and ((show _ = gv (true && (((!v19) || (!v20)) == false)) (Value.bool v21) from rfl).trans (gv_t hg)) (fun hp => ((show _ = gv ((true && (((!v19) || (!v20)) == false)) && (v21 == true)) (Value.bool v22) from rfl).trans (gv_t (and_i hg hp)))) rfl)) ?_
        refine run_g_same (b := ((!v19) || (!v20))) (c := true) (v := Value.bool (v21 && v22)) rfl rfl rfl rfl (fun hg => (r_move ((show _ = gv (true && (((!v19) || (!v20)) == false)) (Value.bool (v21 && v22)) from rfl).trans (gv_t hg)))) ?_
        refine run_frame (by simp only [List.set_cons_zero, List.set_cons_succ]; rfl) ?_
        refine run_g_same (b := (v21 && v22)) (c := (true && (((!v19) || (!v20)) == false))) (v := Value.agg #[Value.int .i64 v13.vKind, Value.int .i64 v13.vLo, Value.int .i64 v13.vHi]) rfl rfl rfl rfl (fun hg => (r_loadBoxAgg (n := 3) (vs := [Value.int .i64 v13.vKind, Value.int .i64 v13.vLo, Value.int .i64 v13.vHi]) rfl Tryz.isAgg23 (HS26.look 0 rfl) Tryz.sizeOf23 rfl rfl)) ?_
        refine run_g_same (b := (v21 && v22)) (c := (true && (((!v19) || (!v20)) == false))) (v := Value.agg #[Value.int .i64 a2.vKind, Value.int .i64 a2.vLo, Value.int .i64 a2.vHi]) rfl rfl rfl rfl (fun hg => (r_loadBoxAgg (n := 3) (vs := [Value.int .i64 a2.vKind, Value.int .i64 a2.vLo, Value.int .i64 a2.vHi]) rfl Tryz.isAgg23 (HS26.look 3 rfl) Tryz.sizeOf23 rfl rfl)) ?_
        obtain ⟨v23, H23, H⟩ := of_bind H
        refine run_g (b := (v21 && v22)) (c := (true && (((!v19) || (!v20)) == false))) (v := Value.bool v23) rfl rfl rfl rfl (fun hg => (does_call_eq Tryz.call8 rfl (map2 ((show _ = gv ((true && (((!v19) || (!v20)) == false)) && ((v21 && v22) == true)) (Value.agg #[Value.int .i64 v13.vKind, Value.int .i64 v13.vLo, Value.int .i64 v13.vHi]) from rfl).trans (gv_t hg)) ((show _ = gv ((true && (((!v19) || (!v20)) == false)) && ((v21 && v22) == true)) (Value.agg #[Value.int .i64 a2.vKind, Value.int .i64 a2.vLo, Value.int .i64 a2.vHi]) from rfl).trans (gv_t hg))) (verify_Below.calls v13 a2 HS26.sees (of_pos H23 hg)))) ?_
        intro w27 hE25
        have HS27 := HS26.step hE25
        refine run_g_same (b := (v21 && v22)) (c := (true && (((!v19) || (!v20)) == false))) (v := Value.bool (!v23)) rfl rfl rfl rfl (fun hg => (r_not ((show _ = gv ((true && (((!v19) || (!v20)) == false)) && ((v21 && v22) == true)) (Value.bool v23) from rfl).trans (gv_t hg)))) ?_
        refine run_frame (by simp only [List.set_cons_zero, List.set_cons_succ]; rfl) ?_
        refine run_g_same (b := ((!v19) || (!v20))) (c := true) (v := Value.bool ((v21 && v22) && (!v23))) rfl rfl rfl rfl (fun hg => (r_pick_and ((show _ = gv (true && (((!v19) || (!v20)) == false)) (Value.bool (v21 && v22)) from rfl).trans (gv_t hg)) (fun hp => ((show _ = gv ((true && (((!v19) || (!v20)) == false)) && ((v21 && v22) == true)) (Value.bool (!v23)) from rfl).trans (gv_t (and_i hg hp)))) rfl)) ?_
        refine run_same (v := Value.bool (((!v19) || (!v20)) || ((v21 && v22) && (!v23)))) rfl rfl (r_pick_or rfl rfl (fun hp => ((show _ = gv (true && (((!v19) || (!v20)) == false)) (Value.bool ((v21 && v22) && (!v23))) from rfl).trans (gv_t (and_i rfl hp))))) ?_
        try simp only [List.set_cons_zero, List.set_cons_succ]
        refine run_nil ?_
        refine norm_then ?_
        refine wp_cond_split (t := (((!v19) || (!v20)) || ((v21 && v22) && (!v23)))) rfl (fun c4 => ?_) (fun c4 => ?_)
        · replace H := of_pos H c4
          refine wp_seq ?_
          refine region ?_
          refine run_same (v := Value.bool false) rfl rfl (r_assign rfl) ?_
          try simp only [List.set_cons_zero, List.set_cons_succ]
          refine run_nil ?_
          refine norm_then ?_
          refine wp_ret ?_
          refine ret_then ?_
          obtain rfl := Option.some.inj H
          refine bodyPost_ret (results_1 rfl (one_tmp rfl)) rfl ?_
          exact ⟨rfl, HS27.toE⟩
        · replace H := of_neg H (nt c4)
          refine wp_skip ?_
          refine norm_then ?_
          refine wp_seq ?_
          refine region ?_
          refine run_same (v := Value.bool v1) rfl rfl (r_move rfl) ?_
          refine run_same (v := Value.bool v1) rfl rfl (r_move rfl) ?_
          refine run_g_same (b := v1) (c := true) (v := Value.agg #[Value.int .i64 a0.vKind, Value.int .i64 a0.vLo, Value.int .i64 a0.vHi]) rfl rfl rfl rfl (fun hg => (r_loadBoxAgg (n := 3) (vs := [Value.int .i64 a0.vKind, Value.int .i64 a0.vLo, Value.int .i64 a0.vHi]) rfl Tryz.isAgg23 (HS27.look 5 rfl) Tryz.sizeOf23 rfl rfl)) ?_
          refine run_g_same (b := v1) (c := true) (v := Value.agg #[Value.int .i64 a1.vKind, Value.int .i64 a1.vLo, Value.int .i64 a1.vHi]) rfl rfl rfl rfl (fun hg => (r_loadBoxAgg (n := 3) (vs := [Value.int .i64 a1.vKind, Value.int .i64 a1.vLo, Value.int .i64 a1.vHi]) rfl Tryz.isAgg23 (HS27.look 4 rfl) Tryz.sizeOf23 rfl rfl)) ?_
          refine run_frame (by simp only [List.set_cons_zero, List.set_cons_succ]; rfl) ?_
          obtain ⟨v24, H24, H⟩ := of_bind H
          refine run_g (b := v1) (c := true) (v := Value.bool v24) rfl rfl rfl rfl (fun hg => (does_call_eq Tryz.call8 rfl (map2 ((show _ = gv (true && (v1 == true)) (Value.agg #[Value.int .i64 a0.vKind, Value.int .i64 a0.vLo, Value.int .i64 a0.vHi]) from rfl).trans (gv_t hg)) ((show _ = gv (true && (v1 == true)) (Value.agg #[Value.int .i64 a1.vKind, Value.int .i64 a1.vLo, Value.int .i64 a1.vHi]) from rfl).trans (gv_t hg))) (verify_Below.calls a0 a1 HS27.sees (of_pos H24 hg)))) ?_
          intro w28 hE26
          have HS28 := HS27.step hE26
          refine run_g_same (b := v1) (c := true) (v := Value.bool (!v24)) rfl rfl rfl rfl (fun hg => (r_not ((show _ = gv (true && (v1 == true)) (Value.bool v24) from rfl).trans (gv_t hg)))) ?_
          refine run_g_same (b := v1) (c := true) (v := Value.bool (!v24)) rfl rfl rfl rfl (fun hg => (r_move ((show _ = gv (true && (v1 == true)) (Value.bool (!v24)) from rfl).trans (gv_t hg)))) ?_
          refine run_g_same (b := (!v24)) (c := (true && (v1 == true))) (v := Value.agg #[Value.int .i64 a0.vKind, Value.int .i64 a0.vLo, Value.int .i64 a0.vHi]) rfl rfl rfl rfl (fun hg => (r_loadBoxAgg (n := 3) (vs := [Value.int .i64 a0.vKind, Value.int .i64 a0.vLo, Value.int .i64 a0.vHi]) rfl Tryz.isAgg23 (HS28.look 5 rfl) Tryz.sizeOf23 rfl rfl)) ?_
          refine run_frame (by simp only [List.set_cons_zero, List.set_cons_succ]; rfl) ?_
          refine run_g_same (b := (!v24)) (c := (true && (v1 == true))) (v := Value.agg #[Value.bool a3.vStr, Value.int .i64 a3.vN, Value.string a3.vS]) rfl rfl rfl rfl (fun hg => (r_loadBoxAgg (n := 3) (vs := [Value.bool a3.vStr, Value.int .i64 a3.vN, Value.string a3.vS]) rfl Tryz.isAgg25 (HS28.look 2 rfl) Tryz.sizeOf25 rfl rfl)) ?_
          obtain ⟨v25, H25, H⟩ := of_bind H
          refine run_g (b := (!v24)) (c := (true && (v1 == true))) (v := Value.bool v25) rfl rfl rfl rfl (fun hg => (does_call_eq Tryz.call10 rfl (map2 ((show _ = gv ((true && (v1 == true)) && ((!v24) == false)) (Value.agg #[Value.int .i64 a0.vKind, Value.int .i64 a0.vLo, Value.int .i64 a0.vHi]) from rfl).trans (gv_t hg)) ((show _ = gv ((true && (v1 == true)) && ((!v24) == false)) (Value.agg #[Value.bool a3.vStr, Value.int .i64 a3.vN, Value.string a3.vS]) from rfl).trans (gv_t hg))) (verify_Has.calls a0 a3 HS28.sees (of_pos H25 hg)))) ?_
          intro w29 hE27
          have HS29 := HS28.step hE27
          refine run_g_same (b := (!v24)) (c := (true && (v1 == true))) (v := Value.bool (!v25)) rfl rfl rfl rfl (fun hg => (r_not ((show _ = gv ((true && (v1 == true)) && ((!v24) == false)) (Value.bool v25) from rfl).trans (gv_t hg)))) ?_
          refine run_g_same (b := v1) (c := true) (v := Value.bool ((!v24) || (!v25))) rfl rfl rfl rfl (fun hg => (r_pick_or ((show _ = gv (true && (v1 == true)) (Value.bool (!v24)) from rfl).trans (gv_t hg)) rfl (fun hp => ((show _ = gv ((true && (v1 == true)) && ((!v24) == false)) (Value.bool (!v25)) from rfl).trans (gv_t (and_i hg hp)))))) ?_
          refine run_frame (by simp only [List.set_cons_zero, List.set_cons_succ]; rfl) ?_
          refine run_g_same (b := v1) (c := true) (v := Value.bool ((!v24) || (!v25))) rfl rfl rfl rfl (fun hg => (r_move ((show _ = gv (true && (v1 == true)) (Value.bool ((!v24) || (!v25))) from rfl).trans (gv_t hg)))) ?_
          refine run_g_same (b := ((!v24) || (!v25))) (c := (true && (v1 == true))) (v := Value.agg #[Value.int .i64 a1.vKind, Value.int .i64 a1.vLo, Value.int .i64 a1.vHi]) rfl rfl rfl rfl (fun hg => (r_loadBoxAgg (n := 3) (vs := [Value.int .i64 a1.vKind, Value.int .i64 a1.vLo, Value.int .i64 a1.vHi]) rfl Tryz.isAgg23 (HS29.look 4 rfl) Tryz.sizeOf23 rfl rfl)) ?_
          refine run_g_same (b := ((!v24) || (!v25))) (c := (true && (v1 == true))) (v := Value.agg #[Value.bool a3.vStr, Value.int .i64 a3.vN, Value.string a3.vS]) rfl rfl rfl rfl (fun hg => (r_loadBoxAgg (n := 3) (vs := [Value.bool a3.vStr, Value.int .i64 a3.vN, Value.string a3.vS]) rfl Tryz.isAgg25 (HS29.look 2 rfl) Tryz.sizeOf25 rfl rfl)) ?_
          obtain ⟨v26, H26, H⟩ := of_bind H
          refine run_g (b := ((!v24) || (!v25))) (c := (true && (v1 == true))) (v := Value.bool v26) rfl rfl rfl rfl (fun hg => (does_call_eq Tryz.call10 rfl (map2 ((show _ = gv ((true && (v1 == true)) && (((!v24) || (!v25)) == false)) (Value.agg #[Value.int .i64 a1.vKind, Value.int .i64 a1.vLo, Value.int .i64 a1.vHi]) from rfl).trans (gv_t hg)) ((show _ = gv ((true && (v1 == true)) && (((!v24) || (!v25)) == false)) (Value.agg #[Value.bool a3.vStr, Value.int .i64 a3.vN, Value.string a3.vS]) from rfl).trans (gv_t hg))) (verify_Has.calls a1 a3 HS29.sees (of_pos H26 hg)))) ?_
          intro w30 hE28
          have HS30 := HS29.step hE28
          refine run_frame (by simp only [List.set_cons_zero, List.set_cons_succ]; rfl) ?_
          refine run_g_same (b := v1) (c := true) (v := Value.bool (((!v24) || (!v25)) || v26)) rfl rfl rfl rfl (fun hg => (r_pick_or ((show _ = gv (true && (v1 == true)) (Value.bool ((!v24) || (!v25))) from rfl).trans (gv_t hg)) rfl (fun hp => ((show _ = gv ((true && (v1 == true)) && (((!v24) || (!v25)) == false)) (Value.bool v26) from rfl).trans (gv_t (and_i hg hp)))))) ?_
          refine run_same (v := Value.bool (v1 && (((!v24) || (!v25)) || v26))) rfl rfl (r_pick_and rfl (fun hp => ((show _ = gv (true && (v1 == true)) (Value.bool (((!v24) || (!v25)) || v26)) from rfl).trans (gv_t (and_i rfl hp)))) rfl) ?_
          refine run_same (v := Value.bool (v1 && (((!v24) || (!v25)) || v26))) rfl rfl (r_move rfl) ?_
          refine run_g_same (b := (v1 && (((!v24) || (!v25)) || v26))) (c := true) (v := Value.agg #[Value.int .i64 0, Value.int .i64 0, Value.int .i64 0]) rfl rfl rfl rfl (fun hg => (r_loadBoxAgg (n := 3) (vs := [Value.int .i64 0, Value.int .i64 0, Value.int .i64 0]) rfl Tryz.isAgg23 (HS30.look 1 rfl) Tryz.sizeOf23 rfl rfl)) ?_
          refine run_frame (by simp only [List.set_cons_zero, List.set_cons_succ]; rfl) ?_
          refine run_g_same (b := (v1 && (((!v24) || (!v25)) || v26))) (c := true) (v := Value.agg #[Value.bool a3.vStr, Value.int .i64 a3.vN, Value.string a3.vS]) rfl rfl rfl rfl (fun hg => (r_loadBoxAgg (n := 3) (vs := [Value.bool a3.vStr, Value.int .i64 a3.vN, Value.string a3.vS]) rfl Tryz.isAgg25 (HS30.look 2 rfl) Tryz.sizeOf25 rfl rfl)) ?_
          obtain ⟨v27, H27, H⟩ := of_bind H
          refine run_g (b := (v1 && (((!v24) || (!v25)) || v26))) (c := true) (v := Value.bool v27) rfl rfl rfl rfl (fun hg => (does_call_eq Tryz.call10 rfl (map2 ((show _ = gv (true && ((v1 && (((!v24) || (!v25)) || v26)) == true)) (Value.agg #[Value.int .i64 0, Value.int .i64 0, Value.int .i64 0]) from rfl).trans (gv_t hg)) ((show _ = gv (true && ((v1 && (((!v24) || (!v25)) || v26)) == true)) (Value.agg #[Value.bool a3.vStr, Value.int .i64 a3.vN, Value.string a3.vS]) from rfl).trans (gv_t hg))) (verify_Has.calls (⟨0, 0, 0⟩ : api_Abs) a3 HS30.sees (of_pos H27 hg)))) ?_
          intro w31 hE29
          have HS31 := HS30.step hE29
          refine run_same (v := Value.bool ((v1 && (((!v24) || (!v25)) || v26)) && v27)) rfl rfl (r_pick_and rfl (fun hp => ((show _ = gv (true && ((v1 && (((!v24) || (!v25)) || v26)) == true)) (Value.bool v27) from rfl).trans (gv_t (and_i rfl hp)))) rfl) ?_
          refine run_same (v := Value.bool ((v1 && (((!v24) || (!v25)) || v26)) && v27)) rfl rfl (r_assign rfl) ?_
          try simp only [List.set_cons_zero, List.set_cons_succ]
          refine run_nil ?_
          refine norm_then ?_
          refine wp_ret ?_
          obtain rfl := Option.some.inj H
          refine bodyPost_ret (results_1 rfl (one_tmp rfl)) rfl ?_
          exact ⟨rfl, HS31.toE⟩

end Go.Proofs.YtlmfgibfknjjpaaGreatDoor
/- The laws of abstract values: VerifyValues and VerifyOrder answer true. -/
namespace Go.Proofs.YtlmfgibfknjjpaaGreatDoor
open Go.M
theorem values_ok (a b : api_Abs) (v : api_Value) : taplinelaw18_VerifyValues.f a b v = some true := by
  simp [taplinelaw18_VerifyValues.f, taplinelaw18_sane.f, Join_eq, RJoin_eq, Below_eq, RBelow_eq, Has_eq, RHas_eq]
theorem same3 (a b : api_Abs) : ((a.vKind == b.vKind) && ((a.vLo == b.vLo) && ((a.vHi == b.vHi) && true))) = true ↔ a = b := by
  constructor
  · intro h
    simp only [Bool.and_eq_true, beq_iff_eq, Bool.and_true] at h
    exact ext3 h.1 h.2.1 h.2.2
  · rintro rfl
    simp
theorem same3b {a b : api_Abs} (h : a = b) : ((a.vKind == b.vKind) && ((a.vLo == b.vLo) && ((a.vHi == b.vHi) && true))) = true := (same3 a b).2 h
theorem order_ok (a b c : api_Abs) (v : api_Value) : taplinelaw18_VerifyOrder.f a b c v = some true := by
  unfold taplinelaw18_VerifyOrder.f
  simp only [taplinelaw18_sane.f, Join_eq, Below_eq, Has_eq, Option.bind_some, Bl_self, Bl_none]
  cases ha : rt a with
  | false => simp
  | true =>
  cases hb : rt b with
  | false => simp [ha, hb, Bl_none]
  | true =>
  cases hc : rt c with
  | false => simp [ha, hb, hc, Bl_none]
  | true =>
    simp only [Bool.not_true, beq_self_eq_true, Bool.and_self, Bool.or_self, Bool.false_eq_true, if_false, if_true, Option.bind_some, Bool.true_and]
    have t1 : Bl a (Jn a b) = true := Jn_ub ha hb
    have t2 : Bl b (Jn a b) = true := by rw [Jn_comm ha hb]; exact Jn_ub hb ha
    have t3 : Hs ⟨0, 0, 0⟩ v = true := rfl
    have t4 : Bl a c = true → Bl b c = true → Bl (Jn a b) c = true := Jn_least ha hb hc
    have t5 : Bl a b = true → Bl b c = true → Bl a c = true := Bl_trans
    have t6 : Bl a b = true → Hs a v = true → Hs b v = true := Hs_mono
    have t7 : Bl a b = true → Bl b a = true → ((a.vKind == b.vKind) && ((a.vLo == b.vLo) && ((a.vHi == b.vHi) && true))) = true := fun h k => by
      obtain ⟨h1, h2, h3⟩ := Bl_anti h k
      exact same3b (ext3 h1 h2 h3)
    generalize ((a.vKind == b.vKind) && ((a.vLo == b.vLo) && ((a.vHi == b.vHi) && true))) = eq at t7 ⊢
    simp only [Jn_comm hb ha, Jn_idem ha, Jn_assoc ha hb hc, t1, t2, t3, beq_self_eq_true, Bool.and_self, Bool.not_true, Bool.or_self, if_true, Option.bind_some, Bool.false_eq_true, if_false, Bool.false_or, Bool.or_false, Bool.true_and, Bool.and_true]
    generalize Bl (Jn a b) c = jc at t4 ⊢
    generalize Hs a v = hav at t6 ⊢
    generalize Hs b v = hbv at t6 ⊢
    generalize Bl a b = ab at *
    generalize Bl b c = bc at *
    generalize Bl a c = ac at *
    generalize Bl b a = ba at *
    revert t4 t5 t6 t7
    cases ab <;> cases bc <;> cases ac <;> cases ba <;> cases eq <;> cases jc <;> cases hav <;> cases hbv <;> simp
end Go.Proofs.YtlmfgibfknjjpaaGreatDoor
