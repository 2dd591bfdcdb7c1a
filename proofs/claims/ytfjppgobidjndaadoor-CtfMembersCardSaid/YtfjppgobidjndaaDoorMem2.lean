/- Parts of a proof, merged by program: Shelf F99 M24 M25 M26 F88 F87 F44 F68 F116 F118 F124 F119. The walks (each function once) and the plain laws; no condition of their own. -/
import Derived.Test.YtfjppgobidjndaaDoorMem1
import Derived.Shelf.Strconv.Itoa0
import Derived.Shelf.Strconv.Itoa1
import Derived.Shelf.LaysM
import Derived.Shelf.Strconv.Itoa2
import Derived.Shelf.Strconv.Itoa3
import Derived.Test.YtfjppgobidjndaaDoorProg
import Derived.ChangeArms
import Derived.ChangeSlices
import Derived.ReadAgain
import Derived.Carry
import Derived.OpenShut
set_option linter.unusedVariables false
set_option linter.unusedSimpArgs false
/-
  DERIVED: THE SHELF's CONTRACTS AT THIS DUMP, IN PLAIN WORDS (tools/lay-plain.mjs out of 'TrydShelf.lean', which tools/lay-shelf.mjs wrote): THE SAME DECLARATIONS UNDER THE SAME NAMES: 'import', 'namespace', 'open', 'def', 'theorem' AND NOTHING ELSE: no command of the shelf's: FOR A HAND-IN. Each laying: the table of numbers ('.._ren') and one theorem, a field a fact of the dump's own or the kernel's comparison; each contract: ONE APPLICATION.
-/
namespace Go.Proofs
open Go.Shelf
def Tryd.lays129_ren : Go.Shelf.Ren := ⟨fun | 129 => 139 | n => n, fun | 53 => 168 | 3 => 3 | 4 => 4 | 46 => 169 | 5 => 5 | 9 => 9 | n => n, fun | n => n⟩
theorem Tryd.lays129 : Go.Proofs.Lays.n129 Tryd.prog Tryd.lays129_ren := {
  mixed := by kernel_rfl
  f129 := Tryd.func139.trans (congrArg some (by kernel_rfl))
  t3 := Tryd.underlying3
  a3 := Tryd.isAgg3
  z3 := Tryd.sizeOf3
  v3 := Tryd.zeroValue3
  t4 := Tryd.underlying4
  a4 := Tryd.isAgg4
  z4 := Tryd.sizeOf4
  v4 := Tryd.zeroValue4
  t5 := Tryd.underlying5
  a5 := Tryd.isAgg5
  z5 := Tryd.sizeOf5
  v5 := Tryd.zeroValue5
  t9 := Tryd.underlying9
  a9 := Tryd.isAgg9
  z9 := Tryd.sizeOf9
  v9 := Tryd.zeroValue9
  t46 := Tryd.underlying169
  a46 := Tryd.isAgg169
  z46 := Tryd.sizeOf169
  v46 := Tryd.zeroValue169
  t53 := Tryd.underlying168
  a53 := Tryd.isAgg168
  z53 := Tryd.sizeOf168
  v53 := Tryd.zeroValue168 }
/-- bits.Len64: "Len64 returns the minimum number of bits required to represent x; the result is 0 for x == 0.": IT RETURNS 'Lib.bitLen x'; the world is as it was. ('h0', 'h1': x is a uint64.) (LAID: no walk: one application.) -/
theorem Tryd.bits_Len64 (x : Int) (w : World) (h0 : 0 ≤ x) (h1 : x ≤ 18446744073709551615) :
    Calls Tryd.prog 139 #[.int .u64 x] w fun e w' => e = .returned (.int .i64 (Lib.bitLen x.toNat)) ∧ w' = w := Any.bits_Len64 Tryd.lays129 x w h0 h1
def Tryd.lays317_ren : Go.Shelf.Ren := ⟨fun | 317 => 138 | n => n, fun | 3 => 3 | 46 => 169 | n => n, fun | n => n⟩
theorem Tryd.lays317 : Go.Proofs.Lays.n317 Tryd.prog Tryd.lays317_ren := {
  mixed := by kernel_rfl
  f317 := Tryd.func138.trans (congrArg some (by kernel_rfl))
  t3 := Tryd.underlying3
  a3 := Tryd.isAgg3
  z3 := Tryd.sizeOf3
  v3 := Tryd.zeroValue3
  t46 := Tryd.underlying169
  a46 := Tryd.isAgg169
  z46 := Tryd.sizeOf169
  v46 := Tryd.zeroValue169 }
open Go.Lib in
/-- internal/strconv.log10Pow2: "log10Pow2(x) returns ⌊log₁₀ 2**x⌋ = ⌊x * log₁₀ 2⌋.": '(x * 78913) >> 18', at an x up to 64 (a length in bits). The world is as it was. (LAID: no walk: one application.) -/
theorem Tryd.internal_strconv_log10Pow2 (x : Nat) (h : x ≤ 64) (w : World) :
    Calls Tryd.prog 138 #[.int .i64 x] w fun e w' => e = .returned (.int .i64 (Lib.l10 x)) ∧ w' = w := Any.internal_strconv_log10Pow2 Tryd.lays317 x h w
def Tryd.lays318_ren : Go.Shelf.Ren := ⟨fun | 318 => 140 | n => n, fun | 3 => 3 | 4 => 4 | n => n, fun | n => n⟩
theorem Tryd.lays318 : Go.Proofs.Lays.n318 Tryd.prog Tryd.lays318_ren := {
  mixed := by kernel_rfl
  f318 := Tryd.func140.trans (congrArg some (by kernel_rfl))
  t3 := Tryd.underlying3
  a3 := Tryd.isAgg3
  z3 := Tryd.sizeOf3
  v3 := Tryd.zeroValue3
  t4 := Tryd.underlying4
  a4 := Tryd.isAgg4
  z4 := Tryd.sizeOf4
  v4 := Tryd.zeroValue4 }
open Go.Lib in
/-- internal/strconv.bool2: "bool2 converts b to an integer: 1 for true, 0 for false." The world is as it was. (LAID: no walk: one application.) -/
theorem Tryd.internal_strconv_bool2_int (b : Bool) (w : World) :
    Calls Tryd.prog 140 #[.bool b] w fun e w' => e = .returned (.int .i64 (if b then 1 else 0)) ∧ w' = w := Any.internal_strconv_bool2_int Tryd.lays318 b w
def Tryd.lays283_ren : Go.Shelf.Ren := ⟨fun | 283 => 134 | n => n, fun | 3 => 3 | 9 => 9 | 4 => 4 | n => n, fun | n => n⟩
theorem Tryd.lays283 : Go.Proofs.Lays.n283 Tryd.prog Tryd.lays283_ren := {
  mixed := by kernel_rfl
  f283 := Tryd.func134.trans (congrArg some (by kernel_rfl))
  t3 := Tryd.underlying3
  a3 := Tryd.isAgg3
  z3 := Tryd.sizeOf3
  v3 := Tryd.zeroValue3
  t4 := Tryd.underlying4
  a4 := Tryd.isAgg4
  z4 := Tryd.sizeOf4
  v4 := Tryd.zeroValue4
  t9 := Tryd.underlying9
  a9 := Tryd.isAgg9
  z9 := Tryd.sizeOf9
  v9 := Tryd.zeroValue9 }
open Go.Lib in
/-- internal/strconv.small: "small returns the string for an i with 0 <= i < nSmalls.": i's decimal numeral. The world is as it was. (LAID: no walk: one application.) -/
theorem Tryd.internal_strconv_small (i : Nat) (h : i < 100) (w : World) :
    Calls Tryd.prog 134 #[.int .i64 i] w fun e w' => e = .returned (.string ⟨(Lib.decDigits i).toArray⟩) ∧ w' = w := Any.internal_strconv_small Tryd.lays283 i h w
def Tryd.laysM284_ren : Go.Shelf.Ren := ⟨fun | 284 => 135 | 129 => 139 | 317 => 138 | 318 => 140 | n => n, fun | 53 => 168 | 3 => 3 | 212 => 194 | 0 => 0 | 4 => 4 | 46 => 169 | 5 => 5 | 9 => 9 | n => n, fun | 17 => 0 | n => n⟩
theorem Tryd.laysM284 : Go.Proofs.LaysM.n284 Tryd.prog Tryd.laysM284_ren := {
  mixed := by kernel_rfl
  f129 := Tryd.func139.trans (congrArg some (by kernel_rfl))
  f284 := Tryd.func135.trans (congrArg some (by kernel_rfl))
  f317 := Tryd.func138.trans (congrArg some (by kernel_rfl))
  f318 := Tryd.func140.trans (congrArg some (by kernel_rfl))
  t0 := Tryd.underlying0
  a0 := Tryd.isAgg0
  z0 := Tryd.sizeOf0
  v0 := Tryd.zeroValue0
  t3 := Tryd.underlying3
  a3 := Tryd.isAgg3
  z3 := Tryd.sizeOf3
  v3 := Tryd.zeroValue3
  t4 := Tryd.underlying4
  a4 := Tryd.isAgg4
  z4 := Tryd.sizeOf4
  v4 := Tryd.zeroValue4
  t5 := Tryd.underlying5
  a5 := Tryd.isAgg5
  z5 := Tryd.sizeOf5
  v5 := Tryd.zeroValue5
  t9 := Tryd.underlying9
  a9 := Tryd.isAgg9
  z9 := Tryd.sizeOf9
  v9 := Tryd.zeroValue9
  t46 := Tryd.underlying169
  a46 := Tryd.isAgg169
  z46 := Tryd.sizeOf169
  v46 := Tryd.zeroValue169
  t53 := Tryd.underlying168
  a53 := Tryd.isAgg168
  z53 := Tryd.sizeOf168
  v53 := Tryd.zeroValue168
  t212 := Tryd.underlying194
  a212 := Tryd.isAgg194
  z212 := Tryd.sizeOf194
  v212 := Tryd.zeroValue194
  g17 := by kernel_rfl
  i0 := by kernel_rfl
  i3 := by kernel_rfl
  i4 := by kernel_rfl
  i5 := by kernel_rfl
  i9 := by kernel_rfl
  i46 := by kernel_rfl
  i53 := by kernel_rfl
  i212 := by kernel_rfl
  m17 := by kernel_rfl }
open Go.Lib in
/-- internal/strconv.numDigits, at a d that is not 0: THE NUMBER OF d's DECIMAL DIGITS. The world is as it was. (LAID: no walk: one application.) -/
theorem Tryd.internal_strconv_numDigits (u : Nat) (h1 : 1 ≤ u) (h2 : u < 18446744073709551616) (w : World) (htab : Lib.TabIs Tryd.prog w "internal/strconv.uint64pow10" .u64 Lib.pow10Tab) :
    Calls Tryd.prog 135 #[.int .u64 u] w fun e w' => e = .returned (.int .i64 (Lib.nDigits u)) ∧ w' = w := Any.internal_strconv_numDigits Tryd.laysM284 u h1 h2 w htab
def Tryd.lays285_ren : Go.Shelf.Ren := ⟨fun | 285 => 136 | n => n, fun | 37 => 80 | 53 => 168 | 3 => 3 | 4 => 4 | 51 => 187 | 9 => 9 | 5 => 5 | 0 => 0 | n => n, fun | n => n⟩
theorem Tryd.lays285 : Go.Proofs.Lays.n285 Tryd.prog Tryd.lays285_ren := {
  mixed := by kernel_rfl
  f285 := Tryd.func136.trans (congrArg some (by kernel_rfl))
  t0 := Tryd.underlying0
  a0 := Tryd.isAgg0
  z0 := Tryd.sizeOf0
  v0 := Tryd.zeroValue0
  t3 := Tryd.underlying3
  a3 := Tryd.isAgg3
  z3 := Tryd.sizeOf3
  v3 := Tryd.zeroValue3
  t4 := Tryd.underlying4
  a4 := Tryd.isAgg4
  z4 := Tryd.sizeOf4
  v4 := Tryd.zeroValue4
  t5 := Tryd.underlying5
  a5 := Tryd.isAgg5
  z5 := Tryd.sizeOf5
  v5 := Tryd.zeroValue5
  t9 := Tryd.underlying9
  a9 := Tryd.isAgg9
  z9 := Tryd.sizeOf9
  v9 := Tryd.zeroValue9
  t37 := Tryd.underlying80
  a37 := Tryd.isAgg80
  z37 := Tryd.sizeOf80
  v37 := Tryd.zeroValue80
  t51 := Tryd.underlying187
  a51 := Tryd.isAgg187
  z51 := Tryd.sizeOf187
  v51 := Tryd.zeroValue187
  t53 := Tryd.underlying168
  a53 := Tryd.isAgg168
  z53 := Tryd.sizeOf168
  v53 := Tryd.zeroValue168 }
open Go.RowKit Go.Sort Go.Lib in
/-- internal/strconv.formatBase10: "formatBase10 formats the decimal representation of u into a. The caller is responsible for ensuring that a is big enough to hold u. If a is too big, leading zeros will be filled in as needed.": THE ROW HOLDS u's DIGITS ('FmtInv .. 0 ..': every place t holds 'dg u (len - 1 - t)'); all else is as it was but for the count of draws. (LAID: no walk: one application.) -/
theorem Tryd.internal_strconv_formatBase10 (blk off cap : Nat) (u : Nat) (d : Array UInt8) (w : World) (hH : Holds (fun (b : UInt8) => Value.int .u8 (b.toNat : Int)) w blk off d) (hu : u < 10 ^ d.size) (hu64 : u < 18446744073709551616) (hsz : d.size < 4611686018427387904) :
    Calls Tryd.prog 136 #[.slice (some ⟨blk, off, none⟩) d.size cap, .int .u64 u] w fun e w' =>
      e = .returned (.tuple #[]) ∧ ∃ (n v' : Nat) (dk : Array UInt8), w' = (putRow (fun (b : UInt8) => Value.int .u8 (b.toNat : Int)) w blk off dk).drewN n ∧ FmtInv d.size u 0 v' dk := Any.internal_strconv_formatBase10 Tryd.lays285 blk off cap u d w hH hu hu64 hsz
def Tryd.laysM246_ren : Go.Shelf.Ren := ⟨fun | 246 => 125 | 283 => 134 | 284 => 135 | 285 => 136 | 286 => 137 | 129 => 139 | 317 => 138 | 318 => 140 | 319 => 141 | 320 => 142 | 337 => 143 | 338 => 144 | n => n, fun | 2 => 2 | 3 => 3 | 9 => 9 | 4 => 4 | 171 => 188 | 0 => 0 | 53 => 168 | 37 => 80 | 5 => 5 | 173 => 191 | 212 => 194 | 51 => 187 | 20 => 20 | 213 => 195 | 46 => 169 | 232 => 199 | 233 => 200 | n => n, fun | 17 => 0 | 18 => 1 | 19 => 2 | n => n⟩
theorem Tryd.laysM246 : Go.Proofs.LaysM.n246 Tryd.prog Tryd.laysM246_ren := {
  mixed := by kernel_rfl
  f129 := Tryd.func139.trans (congrArg some (by kernel_rfl))
  f246 := Tryd.func125.trans (congrArg some (by kernel_rfl))
  f283 := Tryd.func134.trans (congrArg some (by kernel_rfl))
  f284 := Tryd.func135.trans (congrArg some (by kernel_rfl))
  f285 := Tryd.func136.trans (congrArg some (by kernel_rfl))
  f286 := Tryd.func137.trans (congrArg some (by kernel_rfl))
  f317 := Tryd.func138.trans (congrArg some (by kernel_rfl))
  f318 := Tryd.func140.trans (congrArg some (by kernel_rfl))
  f319 := Tryd.func141.trans (congrArg some (by kernel_rfl))
  f320 := Tryd.func142.trans (congrArg some (by kernel_rfl))
  f337 := Tryd.func143.trans (congrArg some (by kernel_rfl))
  f338 := Tryd.func144.trans (congrArg some (by kernel_rfl))
  t0 := Tryd.underlying0
  a0 := Tryd.isAgg0
  z0 := Tryd.sizeOf0
  v0 := Tryd.zeroValue0
  t2 := Tryd.underlying2
  a2 := Tryd.isAgg2
  z2 := Tryd.sizeOf2
  v2 := Tryd.zeroValue2
  t3 := Tryd.underlying3
  a3 := Tryd.isAgg3
  z3 := Tryd.sizeOf3
  v3 := Tryd.zeroValue3
  t4 := Tryd.underlying4
  a4 := Tryd.isAgg4
  z4 := Tryd.sizeOf4
  v4 := Tryd.zeroValue4
  t5 := Tryd.underlying5
  a5 := Tryd.isAgg5
  z5 := Tryd.sizeOf5
  v5 := Tryd.zeroValue5
  t9 := Tryd.underlying9
  a9 := Tryd.isAgg9
  z9 := Tryd.sizeOf9
  v9 := Tryd.zeroValue9
  t20 := Tryd.underlying20
  a20 := Tryd.isAgg20
  z20 := Tryd.sizeOf20
  v20 := Tryd.zeroValue20
  t37 := Tryd.underlying80
  a37 := Tryd.isAgg80
  z37 := Tryd.sizeOf80
  v37 := Tryd.zeroValue80
  t46 := Tryd.underlying169
  a46 := Tryd.isAgg169
  z46 := Tryd.sizeOf169
  v46 := Tryd.zeroValue169
  t51 := Tryd.underlying187
  a51 := Tryd.isAgg187
  z51 := Tryd.sizeOf187
  v51 := Tryd.zeroValue187
  t53 := Tryd.underlying168
  a53 := Tryd.isAgg168
  z53 := Tryd.sizeOf168
  v53 := Tryd.zeroValue168
  t171 := Tryd.underlying188
  a171 := Tryd.isAgg188
  z171 := Tryd.sizeOf188
  v171 := Tryd.zeroValue188
  t173 := Tryd.underlying191
  a173 := Tryd.isAgg191
  z173 := Tryd.sizeOf191
  v173 := Tryd.zeroValue191
  t212 := Tryd.underlying194
  a212 := Tryd.isAgg194
  z212 := Tryd.sizeOf194
  v212 := Tryd.zeroValue194
  t213 := Tryd.underlying195
  a213 := Tryd.isAgg195
  z213 := Tryd.sizeOf195
  t232 := Tryd.underlying199
  a232 := Tryd.isAgg199
  z232 := Tryd.sizeOf199
  v232 := Tryd.zeroValue199
  t233 := Tryd.underlying200
  a233 := Tryd.isAgg200
  z233 := Tryd.sizeOf200
  v233 := Tryd.zeroValue200
  g17 := by kernel_rfl
  g18 := by kernel_rfl
  g19 := by kernel_rfl
  i0 := by kernel_rfl
  i2 := by kernel_rfl
  i3 := by kernel_rfl
  i4 := by kernel_rfl
  i5 := by kernel_rfl
  i9 := by kernel_rfl
  i20 := by kernel_rfl
  i37 := by kernel_rfl
  i46 := by kernel_rfl
  i51 := by kernel_rfl
  i53 := by kernel_rfl
  i171 := by kernel_rfl
  i173 := by kernel_rfl
  i212 := by kernel_rfl
  i232 := by kernel_rfl
  i233 := by kernel_rfl
  m17 := by kernel_rfl
  m18 := by kernel_rfl
  m19 := by kernel_rfl }
open Go.RowKit Go.Sort Go.Lib in
/-- internal/strconv.FormatInt: "FormatInt returns the string representation of i in the given base": AT BASE 10: i's decimal numeral, for every int64. The world behind the call: the world before it, new blocks behind the heap, draws. (LAID: no walk: one application.) -/
theorem Tryd.internal_strconv_FormatInt_10 (n : Int) (h0 : -9223372036854775808 ≤ n) (h1 : n ≤ 9223372036854775807) (w : World) (htab : Lib.TabIs Tryd.prog w "internal/strconv.uint64pow10" .u64 Lib.pow10Tab) :
    Calls Tryd.prog 125 #[.int .i64 n, .int .i64 10] w fun e w' => e = .returned (.string ⟨(Lib.itoa n).toArray⟩) ∧ ∃ k os, w' = grow (w.drewN k) os := Any.internal_strconv_FormatInt_10 Tryd.laysM246 n h0 h1 w htab
def Tryd.lays246_ren : Go.Shelf.Ren := ⟨fun | 246 => 125 | 283 => 134 | 284 => 135 | 285 => 136 | 286 => 137 | 129 => 139 | 317 => 138 | 318 => 140 | 319 => 141 | 320 => 142 | 337 => 143 | 338 => 144 | n => n, fun | 2 => 2 | 3 => 3 | 9 => 9 | 4 => 4 | 171 => 188 | 0 => 0 | 53 => 168 | 37 => 80 | 5 => 5 | 173 => 191 | 212 => 194 | 51 => 187 | 20 => 20 | 213 => 195 | 46 => 169 | 232 => 199 | 233 => 200 | n => n, fun | 17 => 0 | 18 => 1 | 19 => 2 | n => n⟩
theorem Tryd.lays246 : Go.Proofs.Lays.n246 Tryd.prog Tryd.lays246_ren := {
  mixed := by kernel_rfl
  f129 := Tryd.func139.trans (congrArg some (by kernel_rfl))
  f246 := Tryd.func125.trans (congrArg some (by kernel_rfl))
  f283 := Tryd.func134.trans (congrArg some (by kernel_rfl))
  f284 := Tryd.func135.trans (congrArg some (by kernel_rfl))
  f285 := Tryd.func136.trans (congrArg some (by kernel_rfl))
  f286 := Tryd.func137.trans (congrArg some (by kernel_rfl))
  f317 := Tryd.func138.trans (congrArg some (by kernel_rfl))
  f318 := Tryd.func140.trans (congrArg some (by kernel_rfl))
  f319 := Tryd.func141.trans (congrArg some (by kernel_rfl))
  f320 := Tryd.func142.trans (congrArg some (by kernel_rfl))
  f337 := Tryd.func143.trans (congrArg some (by kernel_rfl))
  f338 := Tryd.func144.trans (congrArg some (by kernel_rfl))
  t0 := Tryd.underlying0
  a0 := Tryd.isAgg0
  z0 := Tryd.sizeOf0
  v0 := Tryd.zeroValue0
  t2 := Tryd.underlying2
  a2 := Tryd.isAgg2
  z2 := Tryd.sizeOf2
  v2 := Tryd.zeroValue2
  t3 := Tryd.underlying3
  a3 := Tryd.isAgg3
  z3 := Tryd.sizeOf3
  v3 := Tryd.zeroValue3
  t4 := Tryd.underlying4
  a4 := Tryd.isAgg4
  z4 := Tryd.sizeOf4
  v4 := Tryd.zeroValue4
  t5 := Tryd.underlying5
  a5 := Tryd.isAgg5
  z5 := Tryd.sizeOf5
  v5 := Tryd.zeroValue5
  t9 := Tryd.underlying9
  a9 := Tryd.isAgg9
  z9 := Tryd.sizeOf9
  v9 := Tryd.zeroValue9
  t20 := Tryd.underlying20
  a20 := Tryd.isAgg20
  z20 := Tryd.sizeOf20
  v20 := Tryd.zeroValue20
  t37 := Tryd.underlying80
  a37 := Tryd.isAgg80
  z37 := Tryd.sizeOf80
  v37 := Tryd.zeroValue80
  t46 := Tryd.underlying169
  a46 := Tryd.isAgg169
  z46 := Tryd.sizeOf169
  v46 := Tryd.zeroValue169
  t51 := Tryd.underlying187
  a51 := Tryd.isAgg187
  z51 := Tryd.sizeOf187
  v51 := Tryd.zeroValue187
  t53 := Tryd.underlying168
  a53 := Tryd.isAgg168
  z53 := Tryd.sizeOf168
  v53 := Tryd.zeroValue168
  t171 := Tryd.underlying188
  a171 := Tryd.isAgg188
  z171 := Tryd.sizeOf188
  v171 := Tryd.zeroValue188
  t173 := Tryd.underlying191
  a173 := Tryd.isAgg191
  z173 := Tryd.sizeOf191
  v173 := Tryd.zeroValue191
  t212 := Tryd.underlying194
  a212 := Tryd.isAgg194
  z212 := Tryd.sizeOf194
  v212 := Tryd.zeroValue194
  t213 := Tryd.underlying195
  a213 := Tryd.isAgg195
  z213 := Tryd.sizeOf195
  t232 := Tryd.underlying199
  a232 := Tryd.isAgg199
  z232 := Tryd.sizeOf199
  v232 := Tryd.zeroValue199
  t233 := Tryd.underlying200
  a233 := Tryd.isAgg200
  z233 := Tryd.sizeOf200
  v233 := Tryd.zeroValue200
  g17 := by kernel_rfl
  g18 := by kernel_rfl
  g19 := by kernel_rfl }
open Go.RowKit Go.Sort Go.Lib in
/-- THE ROAD WITHOUT THE TABLE: 0 <= i < 100: two constants are read, nothing is laid: no premise on the world, and the world is as it was. (LAID: no walk: one application.) -/
theorem Tryd.internal_strconv_FormatInt_10_small (i : Nat) (hi : i < 100) (w : World) :
    Calls Tryd.prog 125 #[.int .i64 i, .int .i64 10] w fun e w' => e = .returned (.string ⟨(Lib.decDigits i).toArray⟩) ∧ w' = w := Any.internal_strconv_FormatInt_10_small Tryd.lays246 i hi w
def Tryd.laysM243_ren : Go.Shelf.Ren := ⟨fun | 243 => 121 | 246 => 125 | 283 => 134 | 284 => 135 | 285 => 136 | 286 => 137 | 129 => 139 | 317 => 138 | 318 => 140 | 319 => 141 | 320 => 142 | 337 => 143 | 338 => 144 | n => n, fun | 3 => 3 | 9 => 9 | 2 => 2 | 4 => 4 | 171 => 188 | 0 => 0 | 53 => 168 | 37 => 80 | 5 => 5 | 173 => 191 | 212 => 194 | 51 => 187 | 20 => 20 | 213 => 195 | 46 => 169 | 232 => 199 | 233 => 200 | n => n, fun | 17 => 0 | 18 => 1 | 19 => 2 | n => n⟩
theorem Tryd.laysM243 : Go.Proofs.LaysM.n243 Tryd.prog Tryd.laysM243_ren := {
  mixed := by kernel_rfl
  f129 := Tryd.func139.trans (congrArg some (by kernel_rfl))
  f243 := Tryd.func121.trans (congrArg some (by kernel_rfl))
  f246 := Tryd.func125.trans (congrArg some (by kernel_rfl))
  f283 := Tryd.func134.trans (congrArg some (by kernel_rfl))
  f284 := Tryd.func135.trans (congrArg some (by kernel_rfl))
  f285 := Tryd.func136.trans (congrArg some (by kernel_rfl))
  f286 := Tryd.func137.trans (congrArg some (by kernel_rfl))
  f317 := Tryd.func138.trans (congrArg some (by kernel_rfl))
  f318 := Tryd.func140.trans (congrArg some (by kernel_rfl))
  f319 := Tryd.func141.trans (congrArg some (by kernel_rfl))
  f320 := Tryd.func142.trans (congrArg some (by kernel_rfl))
  f337 := Tryd.func143.trans (congrArg some (by kernel_rfl))
  f338 := Tryd.func144.trans (congrArg some (by kernel_rfl))
  t0 := Tryd.underlying0
  a0 := Tryd.isAgg0
  z0 := Tryd.sizeOf0
  v0 := Tryd.zeroValue0
  t2 := Tryd.underlying2
  a2 := Tryd.isAgg2
  z2 := Tryd.sizeOf2
  v2 := Tryd.zeroValue2
  t3 := Tryd.underlying3
  a3 := Tryd.isAgg3
  z3 := Tryd.sizeOf3
  v3 := Tryd.zeroValue3
  t4 := Tryd.underlying4
  a4 := Tryd.isAgg4
  z4 := Tryd.sizeOf4
  v4 := Tryd.zeroValue4
  t5 := Tryd.underlying5
  a5 := Tryd.isAgg5
  z5 := Tryd.sizeOf5
  v5 := Tryd.zeroValue5
  t9 := Tryd.underlying9
  a9 := Tryd.isAgg9
  z9 := Tryd.sizeOf9
  v9 := Tryd.zeroValue9
  t20 := Tryd.underlying20
  a20 := Tryd.isAgg20
  z20 := Tryd.sizeOf20
  v20 := Tryd.zeroValue20
  t37 := Tryd.underlying80
  a37 := Tryd.isAgg80
  z37 := Tryd.sizeOf80
  v37 := Tryd.zeroValue80
  t46 := Tryd.underlying169
  a46 := Tryd.isAgg169
  z46 := Tryd.sizeOf169
  v46 := Tryd.zeroValue169
  t51 := Tryd.underlying187
  a51 := Tryd.isAgg187
  z51 := Tryd.sizeOf187
  v51 := Tryd.zeroValue187
  t53 := Tryd.underlying168
  a53 := Tryd.isAgg168
  z53 := Tryd.sizeOf168
  v53 := Tryd.zeroValue168
  t171 := Tryd.underlying188
  a171 := Tryd.isAgg188
  z171 := Tryd.sizeOf188
  v171 := Tryd.zeroValue188
  t173 := Tryd.underlying191
  a173 := Tryd.isAgg191
  z173 := Tryd.sizeOf191
  v173 := Tryd.zeroValue191
  t212 := Tryd.underlying194
  a212 := Tryd.isAgg194
  z212 := Tryd.sizeOf194
  v212 := Tryd.zeroValue194
  t213 := Tryd.underlying195
  a213 := Tryd.isAgg195
  z213 := Tryd.sizeOf195
  t232 := Tryd.underlying199
  a232 := Tryd.isAgg199
  z232 := Tryd.sizeOf199
  v232 := Tryd.zeroValue199
  t233 := Tryd.underlying200
  a233 := Tryd.isAgg200
  z233 := Tryd.sizeOf200
  v233 := Tryd.zeroValue200
  g17 := by kernel_rfl
  g18 := by kernel_rfl
  g19 := by kernel_rfl
  i0 := by kernel_rfl
  i2 := by kernel_rfl
  i3 := by kernel_rfl
  i4 := by kernel_rfl
  i5 := by kernel_rfl
  i9 := by kernel_rfl
  i20 := by kernel_rfl
  i37 := by kernel_rfl
  i46 := by kernel_rfl
  i51 := by kernel_rfl
  i53 := by kernel_rfl
  i171 := by kernel_rfl
  i173 := by kernel_rfl
  i212 := by kernel_rfl
  i232 := by kernel_rfl
  i233 := by kernel_rfl
  m17 := by kernel_rfl
  m18 := by kernel_rfl
  m19 := by kernel_rfl }
open Go.RowKit Go.Sort Go.Lib in
/-- internal/strconv.Itoa: "Itoa is equivalent to FormatInt(int64(i), 10).": i's decimal numeral, for every int. (LAID: no walk: one application.) -/
theorem Tryd.internal_strconv_Itoa (n : Int) (h0 : -9223372036854775808 ≤ n) (h1 : n ≤ 9223372036854775807) (w : World) (htab : Lib.TabIs Tryd.prog w "internal/strconv.uint64pow10" .u64 Lib.pow10Tab) :
    Calls Tryd.prog 121 #[.int .i64 n] w fun e w' => e = .returned (.string ⟨(Lib.itoa n).toArray⟩) ∧ ∃ k os, w' = grow (w.drewN k) os := Any.internal_strconv_Itoa Tryd.laysM243 n h0 h1 w htab
def Tryd.lays243_ren : Go.Shelf.Ren := ⟨fun | 243 => 121 | 246 => 125 | 283 => 134 | 284 => 135 | 285 => 136 | 286 => 137 | 129 => 139 | 317 => 138 | 318 => 140 | 319 => 141 | 320 => 142 | 337 => 143 | 338 => 144 | n => n, fun | 3 => 3 | 9 => 9 | 2 => 2 | 4 => 4 | 171 => 188 | 0 => 0 | 53 => 168 | 37 => 80 | 5 => 5 | 173 => 191 | 212 => 194 | 51 => 187 | 20 => 20 | 213 => 195 | 46 => 169 | 232 => 199 | 233 => 200 | n => n, fun | 17 => 0 | 18 => 1 | 19 => 2 | n => n⟩
theorem Tryd.lays243 : Go.Proofs.Lays.n243 Tryd.prog Tryd.lays243_ren := {
  mixed := by kernel_rfl
  f129 := Tryd.func139.trans (congrArg some (by kernel_rfl))
  f243 := Tryd.func121.trans (congrArg some (by kernel_rfl))
  f246 := Tryd.func125.trans (congrArg some (by kernel_rfl))
  f283 := Tryd.func134.trans (congrArg some (by kernel_rfl))
  f284 := Tryd.func135.trans (congrArg some (by kernel_rfl))
  f285 := Tryd.func136.trans (congrArg some (by kernel_rfl))
  f286 := Tryd.func137.trans (congrArg some (by kernel_rfl))
  f317 := Tryd.func138.trans (congrArg some (by kernel_rfl))
  f318 := Tryd.func140.trans (congrArg some (by kernel_rfl))
  f319 := Tryd.func141.trans (congrArg some (by kernel_rfl))
  f320 := Tryd.func142.trans (congrArg some (by kernel_rfl))
  f337 := Tryd.func143.trans (congrArg some (by kernel_rfl))
  f338 := Tryd.func144.trans (congrArg some (by kernel_rfl))
  t0 := Tryd.underlying0
  a0 := Tryd.isAgg0
  z0 := Tryd.sizeOf0
  v0 := Tryd.zeroValue0
  t2 := Tryd.underlying2
  a2 := Tryd.isAgg2
  z2 := Tryd.sizeOf2
  v2 := Tryd.zeroValue2
  t3 := Tryd.underlying3
  a3 := Tryd.isAgg3
  z3 := Tryd.sizeOf3
  v3 := Tryd.zeroValue3
  t4 := Tryd.underlying4
  a4 := Tryd.isAgg4
  z4 := Tryd.sizeOf4
  v4 := Tryd.zeroValue4
  t5 := Tryd.underlying5
  a5 := Tryd.isAgg5
  z5 := Tryd.sizeOf5
  v5 := Tryd.zeroValue5
  t9 := Tryd.underlying9
  a9 := Tryd.isAgg9
  z9 := Tryd.sizeOf9
  v9 := Tryd.zeroValue9
  t20 := Tryd.underlying20
  a20 := Tryd.isAgg20
  z20 := Tryd.sizeOf20
  v20 := Tryd.zeroValue20
  t37 := Tryd.underlying80
  a37 := Tryd.isAgg80
  z37 := Tryd.sizeOf80
  v37 := Tryd.zeroValue80
  t46 := Tryd.underlying169
  a46 := Tryd.isAgg169
  z46 := Tryd.sizeOf169
  v46 := Tryd.zeroValue169
  t51 := Tryd.underlying187
  a51 := Tryd.isAgg187
  z51 := Tryd.sizeOf187
  v51 := Tryd.zeroValue187
  t53 := Tryd.underlying168
  a53 := Tryd.isAgg168
  z53 := Tryd.sizeOf168
  v53 := Tryd.zeroValue168
  t171 := Tryd.underlying188
  a171 := Tryd.isAgg188
  z171 := Tryd.sizeOf188
  v171 := Tryd.zeroValue188
  t173 := Tryd.underlying191
  a173 := Tryd.isAgg191
  z173 := Tryd.sizeOf191
  v173 := Tryd.zeroValue191
  t212 := Tryd.underlying194
  a212 := Tryd.isAgg194
  z212 := Tryd.sizeOf194
  v212 := Tryd.zeroValue194
  t213 := Tryd.underlying195
  a213 := Tryd.isAgg195
  z213 := Tryd.sizeOf195
  t232 := Tryd.underlying199
  a232 := Tryd.isAgg199
  z232 := Tryd.sizeOf199
  v232 := Tryd.zeroValue199
  t233 := Tryd.underlying200
  a233 := Tryd.isAgg200
  z233 := Tryd.sizeOf200
  v233 := Tryd.zeroValue200
  g17 := by kernel_rfl
  g18 := by kernel_rfl
  g19 := by kernel_rfl }
open Go.RowKit Go.Sort Go.Lib in
/-- THE ROAD WITHOUT THE TABLE: 0 <= i < 100. (LAID: no walk: one application.) -/
theorem Tryd.internal_strconv_Itoa_small (i : Nat) (hi : i < 100) (w : World) :
    Calls Tryd.prog 121 #[.int .i64 i] w fun e w' => e = .returned (.string ⟨(Lib.decDigits i).toArray⟩) ∧ w' = w := Any.internal_strconv_Itoa_small Tryd.lays243 i hi w
def Tryd.laysM171_ren : Go.Shelf.Ren := ⟨fun | 171 => 99 | 243 => 121 | 246 => 125 | 283 => 134 | 284 => 135 | 285 => 136 | 286 => 137 | 129 => 139 | 317 => 138 | 318 => 140 | 319 => 141 | 320 => 142 | 337 => 143 | 338 => 144 | n => n, fun | 3 => 3 | 9 => 9 | 2 => 2 | 4 => 4 | 171 => 188 | 0 => 0 | 53 => 168 | 37 => 80 | 5 => 5 | 173 => 191 | 212 => 194 | 51 => 187 | 20 => 20 | 213 => 195 | 46 => 169 | 232 => 199 | 233 => 200 | n => n, fun | 17 => 0 | 18 => 1 | 19 => 2 | n => n⟩
theorem Tryd.laysM171 : Go.Proofs.LaysM.n171 Tryd.prog Tryd.laysM171_ren := {
  mixed := by kernel_rfl
  f129 := Tryd.func139.trans (congrArg some (by kernel_rfl))
  f171 := Tryd.func99.trans (congrArg some (by kernel_rfl))
  f243 := Tryd.func121.trans (congrArg some (by kernel_rfl))
  f246 := Tryd.func125.trans (congrArg some (by kernel_rfl))
  f283 := Tryd.func134.trans (congrArg some (by kernel_rfl))
  f284 := Tryd.func135.trans (congrArg some (by kernel_rfl))
  f285 := Tryd.func136.trans (congrArg some (by kernel_rfl))
  f286 := Tryd.func137.trans (congrArg some (by kernel_rfl))
  f317 := Tryd.func138.trans (congrArg some (by kernel_rfl))
  f318 := Tryd.func140.trans (congrArg some (by kernel_rfl))
  f319 := Tryd.func141.trans (congrArg some (by kernel_rfl))
  f320 := Tryd.func142.trans (congrArg some (by kernel_rfl))
  f337 := Tryd.func143.trans (congrArg some (by kernel_rfl))
  f338 := Tryd.func144.trans (congrArg some (by kernel_rfl))
  t0 := Tryd.underlying0
  a0 := Tryd.isAgg0
  z0 := Tryd.sizeOf0
  v0 := Tryd.zeroValue0
  t2 := Tryd.underlying2
  a2 := Tryd.isAgg2
  z2 := Tryd.sizeOf2
  v2 := Tryd.zeroValue2
  t3 := Tryd.underlying3
  a3 := Tryd.isAgg3
  z3 := Tryd.sizeOf3
  v3 := Tryd.zeroValue3
  t4 := Tryd.underlying4
  a4 := Tryd.isAgg4
  z4 := Tryd.sizeOf4
  v4 := Tryd.zeroValue4
  t5 := Tryd.underlying5
  a5 := Tryd.isAgg5
  z5 := Tryd.sizeOf5
  v5 := Tryd.zeroValue5
  t9 := Tryd.underlying9
  a9 := Tryd.isAgg9
  z9 := Tryd.sizeOf9
  v9 := Tryd.zeroValue9
  t20 := Tryd.underlying20
  a20 := Tryd.isAgg20
  z20 := Tryd.sizeOf20
  v20 := Tryd.zeroValue20
  t37 := Tryd.underlying80
  a37 := Tryd.isAgg80
  z37 := Tryd.sizeOf80
  v37 := Tryd.zeroValue80
  t46 := Tryd.underlying169
  a46 := Tryd.isAgg169
  z46 := Tryd.sizeOf169
  v46 := Tryd.zeroValue169
  t51 := Tryd.underlying187
  a51 := Tryd.isAgg187
  z51 := Tryd.sizeOf187
  v51 := Tryd.zeroValue187
  t53 := Tryd.underlying168
  a53 := Tryd.isAgg168
  z53 := Tryd.sizeOf168
  v53 := Tryd.zeroValue168
  t171 := Tryd.underlying188
  a171 := Tryd.isAgg188
  z171 := Tryd.sizeOf188
  v171 := Tryd.zeroValue188
  t173 := Tryd.underlying191
  a173 := Tryd.isAgg191
  z173 := Tryd.sizeOf191
  v173 := Tryd.zeroValue191
  t212 := Tryd.underlying194
  a212 := Tryd.isAgg194
  z212 := Tryd.sizeOf194
  v212 := Tryd.zeroValue194
  t213 := Tryd.underlying195
  a213 := Tryd.isAgg195
  z213 := Tryd.sizeOf195
  t232 := Tryd.underlying199
  a232 := Tryd.isAgg199
  z232 := Tryd.sizeOf199
  v232 := Tryd.zeroValue199
  t233 := Tryd.underlying200
  a233 := Tryd.isAgg200
  z233 := Tryd.sizeOf200
  v233 := Tryd.zeroValue200
  g17 := by kernel_rfl
  g18 := by kernel_rfl
  g19 := by kernel_rfl
  i0 := by kernel_rfl
  i2 := by kernel_rfl
  i3 := by kernel_rfl
  i4 := by kernel_rfl
  i5 := by kernel_rfl
  i9 := by kernel_rfl
  i20 := by kernel_rfl
  i37 := by kernel_rfl
  i46 := by kernel_rfl
  i51 := by kernel_rfl
  i53 := by kernel_rfl
  i171 := by kernel_rfl
  i173 := by kernel_rfl
  i212 := by kernel_rfl
  i232 := by kernel_rfl
  i233 := by kernel_rfl
  m17 := by kernel_rfl
  m18 := by kernel_rfl
  m19 := by kernel_rfl }
open Go.RowKit Go.Sort Go.Lib in
/-- strconv.Itoa: "Itoa is equivalent to FormatInt(int64(i), 10).": i's DECIMAL NUMERAL ('Lib.itoa': a '-' where i is negative, then the digits), FOR EVERY int. The world behind the call: the world before it, new blocks behind the heap (the library's 'var a [24]byte'), draws. (LAID: no walk: one application.) -/
theorem Tryd.strconv_Itoa (n : Int) (h0 : -9223372036854775808 ≤ n) (h1 : n ≤ 9223372036854775807) (w : World) (htab : Lib.TabIs Tryd.prog w "internal/strconv.uint64pow10" .u64 Lib.pow10Tab) :
    Calls Tryd.prog 99 #[.int .i64 n] w fun e w' => e = .returned (.string ⟨(Lib.itoa n).toArray⟩) ∧ ∃ k os, w' = grow (w.drewN k) os := Any.strconv_Itoa Tryd.laysM171 n h0 h1 w htab
def Tryd.lays171_ren : Go.Shelf.Ren := ⟨fun | 171 => 99 | 243 => 121 | 246 => 125 | 283 => 134 | 284 => 135 | 285 => 136 | 286 => 137 | 129 => 139 | 317 => 138 | 318 => 140 | 319 => 141 | 320 => 142 | 337 => 143 | 338 => 144 | n => n, fun | 3 => 3 | 9 => 9 | 2 => 2 | 4 => 4 | 171 => 188 | 0 => 0 | 53 => 168 | 37 => 80 | 5 => 5 | 173 => 191 | 212 => 194 | 51 => 187 | 20 => 20 | 213 => 195 | 46 => 169 | 232 => 199 | 233 => 200 | n => n, fun | 17 => 0 | 18 => 1 | 19 => 2 | n => n⟩
theorem Tryd.lays171 : Go.Proofs.Lays.n171 Tryd.prog Tryd.lays171_ren := {
  mixed := by kernel_rfl
  f129 := Tryd.func139.trans (congrArg some (by kernel_rfl))
  f171 := Tryd.func99.trans (congrArg some (by kernel_rfl))
  f243 := Tryd.func121.trans (congrArg some (by kernel_rfl))
  f246 := Tryd.func125.trans (congrArg some (by kernel_rfl))
  f283 := Tryd.func134.trans (congrArg some (by kernel_rfl))
  f284 := Tryd.func135.trans (congrArg some (by kernel_rfl))
  f285 := Tryd.func136.trans (congrArg some (by kernel_rfl))
  f286 := Tryd.func137.trans (congrArg some (by kernel_rfl))
  f317 := Tryd.func138.trans (congrArg some (by kernel_rfl))
  f318 := Tryd.func140.trans (congrArg some (by kernel_rfl))
  f319 := Tryd.func141.trans (congrArg some (by kernel_rfl))
  f320 := Tryd.func142.trans (congrArg some (by kernel_rfl))
  f337 := Tryd.func143.trans (congrArg some (by kernel_rfl))
  f338 := Tryd.func144.trans (congrArg some (by kernel_rfl))
  t0 := Tryd.underlying0
  a0 := Tryd.isAgg0
  z0 := Tryd.sizeOf0
  v0 := Tryd.zeroValue0
  t2 := Tryd.underlying2
  a2 := Tryd.isAgg2
  z2 := Tryd.sizeOf2
  v2 := Tryd.zeroValue2
  t3 := Tryd.underlying3
  a3 := Tryd.isAgg3
  z3 := Tryd.sizeOf3
  v3 := Tryd.zeroValue3
  t4 := Tryd.underlying4
  a4 := Tryd.isAgg4
  z4 := Tryd.sizeOf4
  v4 := Tryd.zeroValue4
  t5 := Tryd.underlying5
  a5 := Tryd.isAgg5
  z5 := Tryd.sizeOf5
  v5 := Tryd.zeroValue5
  t9 := Tryd.underlying9
  a9 := Tryd.isAgg9
  z9 := Tryd.sizeOf9
  v9 := Tryd.zeroValue9
  t20 := Tryd.underlying20
  a20 := Tryd.isAgg20
  z20 := Tryd.sizeOf20
  v20 := Tryd.zeroValue20
  t37 := Tryd.underlying80
  a37 := Tryd.isAgg80
  z37 := Tryd.sizeOf80
  v37 := Tryd.zeroValue80
  t46 := Tryd.underlying169
  a46 := Tryd.isAgg169
  z46 := Tryd.sizeOf169
  v46 := Tryd.zeroValue169
  t51 := Tryd.underlying187
  a51 := Tryd.isAgg187
  z51 := Tryd.sizeOf187
  v51 := Tryd.zeroValue187
  t53 := Tryd.underlying168
  a53 := Tryd.isAgg168
  z53 := Tryd.sizeOf168
  v53 := Tryd.zeroValue168
  t171 := Tryd.underlying188
  a171 := Tryd.isAgg188
  z171 := Tryd.sizeOf188
  v171 := Tryd.zeroValue188
  t173 := Tryd.underlying191
  a173 := Tryd.isAgg191
  z173 := Tryd.sizeOf191
  v173 := Tryd.zeroValue191
  t212 := Tryd.underlying194
  a212 := Tryd.isAgg194
  z212 := Tryd.sizeOf194
  v212 := Tryd.zeroValue194
  t213 := Tryd.underlying195
  a213 := Tryd.isAgg195
  z213 := Tryd.sizeOf195
  t232 := Tryd.underlying199
  a232 := Tryd.isAgg199
  z232 := Tryd.sizeOf199
  v232 := Tryd.zeroValue199
  t233 := Tryd.underlying200
  a233 := Tryd.isAgg200
  z233 := Tryd.sizeOf200
  v233 := Tryd.zeroValue200
  g17 := by kernel_rfl
  g18 := by kernel_rfl
  g19 := by kernel_rfl }
open Go.RowKit Go.Sort Go.Lib in
/-- THE ROAD WITHOUT THE TABLE: 0 <= i < 100: NO PREMISE ON THE WORLD, AND THE WORLD IS AS IT WAS: a row that keeps its argument in that range need list no table ('laid = []'). (LAID: no walk: one application.) -/
theorem Tryd.strconv_Itoa_small (i : Nat) (hi : i < 100) (w : World) :
    Calls Tryd.prog 99 #[.int .i64 i] w fun e w' => e = .returned (.string ⟨(Lib.decDigits i).toArray⟩) ∧ w' = w := Any.strconv_Itoa_small Tryd.lays171 i hi w
end Go.Proofs
/- strconv.Itoa, by the library's contract, in the form of the walks here; the table that it looks at. -/
namespace Go.Proofs.YtfjppgobidjndaaDoor
open Go.RowKit Go.M
/-- the table of powers of ten is there -/
def Tab (w : World) : Prop := Lib.TabIs Tryd.prog w "internal/strconv.uint64pow10" .u64 Lib.pow10Tab
theorem Tab.b {w w' : World} (h : Tab w) (hE : ExtB [] w w') : Tab w' := by
  unfold Tab Lib.TabIs World.var? at *
  cases hg : Tryd.prog.globalNamed "internal/strconv.uint64pow10" with
  | none => rw [hg] at h; cases h
  | some g =>
    rw [hg] at h
    simp only [Option.bind_some] at h ⊢
    cases hb : w.heap[g]? with
    | none => rw [hb] at h; cases h
    | some o =>
      have hlt := (Array.getElem?_eq_some_iff.1 hb).1
      rw [hE.block g hlt (by simp)]
      exact h
theorem Tab.e {w w' : World} (h : Tab w) (hE : Ext w w') : Tab w' := h.b (hE.toB [])
theorem Tab.s {h0 h : View} {w0 w : World} {bs : List Res} (ht : Tab w0) (HS : St [] h0 w0 h bs w) : Tab w := ht.b HS.ext
def strconv_Itoa.f (a0 : Int) : Option ByteArray := if -9223372036854775808 ≤ a0 ∧ a0 ≤ 9223372036854775807 then some ⟨(Lib.itoa a0).toArray⟩ else none
theorem strconv_Itoa.calls (a0 : Int) {h0 : View} {w0 : World} (hv : Sees h0 w0) (ht : Tab w0) {r : ByteArray} (H : strconv_Itoa.f a0 = some r) : Calls Tryd.prog 99 #[Value.int .i64 a0] w0 (fun e w1 => e = .returned (Value.string r) ∧ Ext w0 w1) := by
  unfold strconv_Itoa.f at H
  obtain ⟨hc, H⟩ := of_ite H
  obtain rfl := Option.some.inj H
  refine (Tryd.strconv_Itoa a0 hc.1 hc.2 w0 ht).mono ?_
  rintro e w1 ⟨rfl, k, os, rfl⟩
  refine ⟨rfl, rfl, rfl, rfl, by simp [Sort.grow, World.drewN], fun i hi => ?_⟩
  simp only [Sort.grow, World.drewN]
  rw [Array.getElem?_append_left hi]
end Go.Proofs.YtfjppgobidjndaaDoor
/- A row that is built under a guard. Over any program. -/
namespace Go.M
open Go.RowKit
theorem run_gbs {P : Program} {Q : Exit → Act → World → Prop} {l : List Value} {df : List Deferred} {ops : Array Oper} {os : List Oper} {h0 h : View} {w0 w : World} {bs : List Res} {dst e : Tmp} {ty : TypeId} {pos : String} {after : Array Edge}
    {α : Type} (d : Kd α) {t te : TypeId} {parts : Array (Nat × Operand)} {xs : List α} {n j : Nat} {want b c : Bool} {cs : List Value} {zv : Value} {i : TypeInfo} (hj : (ops[j]?).bind (·.dst) = some e) (he : l.getD e undef = gv c (.bool b))
    (hu : ∀ w, (underlying t).run P w = .ok (.slice te) w) (hi : ∀ w, (typeInfo te).run P w = .ok i w) (hz : ∀ w, (zeroValue te).run P w = .ok zv w) (hsz : i.size = d.sz) (hn : xs.length = n)
    (hsmall : n * d.sz ≤ 16777216) (hpos : n * d.sz ≠ 0) (hn2 : n ≤ 9223372036854775807)
    (vs : List Value) (hp : (c && (b == want)) = true → (parts.map fun x => (x.1, ev l x.2)).toList = (vs.zipIdx 0).map fun x => (x.2, x.1)) (hv : vs.all (fun v => v.cells.size == d.sz) = true) (hvn : vs.length = n)
    (hcs : (vs.flatMap fun v => v.cells.toList) = cs) (hc : cs.length = n * d.sz) (hK : ∀ (i : Nat) x, xs[i]? = some x → ∃ qs, d.K h x qs ∧ ∀ j v, qs[j]? = some v → cs[i * d.sz + j]? = some v) (HS : St [] h0 w0 h bs w)
    (kk : ∀ w' h1 A, St [] h0 w0 h1 bs w' → Sub h h1 → ((c && (b == want)) = true → Rd d h1 A xs) → run P ops Q df os (l.set dst (gv (c && (b == want)) (.slice A n n))) w') :
    run P ops Q df (⟨some dst, .buildSlice t n parts, ty, pos, after, some (j, want)⟩ :: os) l w := by
  have hw : Region.wanted (⟨some dst, .buildSlice t n parts, ty, pos, after, some (j, want)⟩ : Oper) (yielded ops (⟨l.toArray, df⟩ : Act).tmps) = (c && (b == want)) := wanted_at rfl hj (by simpa using he)
  cases hC : (c && (b == want)) with
  | true =>
    rw [hC] at kk hp
    have := run_bs (P := P) (Q := Q) (l := l) (df := df) (ops := ops) (os := os) (dst := dst) (ty := ty) (pos := pos) (after := after) d hu hi hz hsz hn hsmall hpos hn2 vs (hp rfl) hv hvn hcs hc hK HS (fun w' bb HS' ho => by
      obtain ⟨h1, HS1, hs, hr⟩ := row_pub HS' (i := 0) rfl ho
      exact kk w' h1 (rowA (some bb)) HS1 hs (fun _ => hr))
    unfold run at this ⊢
    simp only [wpList] at this ⊢
    rw [hw, hC, if_pos rfl]
    rw [if_pos (by simp [Region.wanted])] at this
    exact this
  | false =>
    rw [hC] at kk
    have := kk w h none HS (Sub.rfl' h) (fun h => by cases h)
    unfold run at this ⊢
    simp only [wpList]
    rw [hw, hC, if_neg (by simp), put_list]
    exact this
end Go.M
/- Maps whose keys are structs: what is new is put in; what is there is found. Over any program. -/
namespace Go.M
open Go.RowKit
structure KeyS (P : Program) {κ : Type} (kt : TypeId) (fs : Array Field) (ek : κ → Value) (eq : κ → κ → Bool) : Prop where
  hu : ∀ w, (underlying kt).run P w = .ok (.struct fs) w
  same : ∀ a b w, (Op.equal kt (ek a) (ek b)).run P w = .ok (eq a b) w
  check : ∀ e k w, (Instr.checkKey e 10000 kt (ek k)).run P w = .ok () w
section
variable {P : Program} {κ : Type} {kt : TypeId} {fs : Array Field} {ek : κ → Value} {eq : κ → κ → Bool}
/-- a map's keys, in the order in which they were put in -/
def KeysOk (ek : κ → Value) (ks : List κ) (es : Array MapEntry) : Prop := es.toList.map (·.key) = ks.map ek
theorem asking (K : KeyS P kt fs ek eq) (k : κ) : ∀ (es : List MapEntry) (ks : List κ) (i : Nat) (w : World), es.map (·.key) = ks.map ek →
    ∃ r, (Instr.findAsking kt (ek k) es i).run P w = .ok r w ∧ r.isSome = ks.any (eq k)
  | [], [], i, w, h => ⟨none, by simp [Instr.findAsking], rfl⟩
  | [], k' :: ks, i, w, h => by simp at h
  | e :: es, [], i, w, h => by simp at h
  | e :: es, k' :: ks, i, w, h => by
    simp only [List.map_cons, List.cons.injEq] at h
    obtain ⟨r, h1, h2⟩ := asking K k es ks (i + 1) w h.2
    cases hb : eq k k' with
    | true => exact ⟨some (i, e.val), by simp [Instr.findAsking, h.1, K.same, hb], by simp [hb]⟩
    | false => exact ⟨r, by simp [Instr.findAsking, h.1, K.same, hb, h1], by simp [hb, h2]⟩
theorem findKey_s (K : KeyS P kt fs ek eq) (k : κ) {es : Array MapEntry} {ks : List κ} (h : KeysOk ek ks es) (w : World) : ∃ r, (Instr.findKey kt (ek k) es.toList).run P w = .ok r w ∧ r.isSome = ks.any (eq k) := by
  obtain ⟨r, h1, h2⟩ := asking K k es.toList ks 0 w h
  cases hf : Instr.findNow (.struct fs) (ek k) es.toList 0 with
  | none => exact ⟨r, by simp [Instr.findKey, K.hu, hf, h1], h2⟩
  | some q =>
    cases hl : es.toList with
    | nil =>
      unfold KeysOk at h
      rw [hl] at h
      have : ks = [] := by simpa using h.symm
      subst this
      exact ⟨none, by simp [Instr.findKey, K.hu, Instr.findNow], rfl⟩
    | cons e l =>
      rw [hl] at hf
      simp [Instr.findNow, Instr.sameNow] at hf
/-- is a key there? -/
theorem lookup_s (K : KeyS P kt fs ek eq) (k : κ) {xt vt : TypeId} {b : Nat} {es : Array MapEntry} {cl : Nat} {ks : List κ} {z : Value} {w : World} (h : KeysOk ek ks es) (hx : ∀ w, (underlying xt).run P w = .ok (.map kt vt) w) (hz : ∀ w, (zeroValue vt).run P w = .ok z w)
    (hb : w.heap[b]? = some (.map es cl)) : ∃ v, (Instr.lookup xt (.map (some b)) (ek k) true).run P w = .ok (.tuple #[v, .bool (ks.any (eq k))]) w := by
  have hg : (getObj b).run P w = .ok (.map es cl) w := by simp [getObj, Sem.run, hb]
  obtain ⟨r, h1, h2⟩ := findKey_s K k h w
  cases r with
  | none => exact ⟨z, by simp [Instr.lookup, hx, hg, K.check, h1, hz, ← h2]⟩
  | some q => exact ⟨q.2, by simp [Instr.lookup, hx, hg, K.check, h1, ← h2]⟩
/-- a key that is not there is put in -/
theorem put_s (K : KeyS P kt fs ek eq) (k : κ) {xt vt : TypeId} {b : Nat} {v : Value} {es : Array MapEntry} {cl : Nat} {ks : List κ} {w : World} (h : KeysOk ek ks es) (hx : ∀ w, (underlying xt).run P w = .ok (.map kt vt) w)
    (hb : w.heap[b]? = some (.map es cl)) (hn : ks.any (eq k) = false) : ∃ es' cl', (Instr.mapUpdate xt (.map (some b)) (ek k) v).run P w = .ok () (setb w b (.map es' cl')) ∧ KeysOk ek (ks ++ [k]) es' := by
  have hg : (getObj b).run P w = .ok (.map es cl) w := by simp [getObj, Sem.run, hb]
  have hset : ∀ o, (setObj b o).run P w = .ok () (setb w b o) := fun o => by simp [setObj, Sem.run, hb, setb]
  obtain ⟨r, h1, h2⟩ := findKey_s K k h w
  rw [hn] at h2
  cases r with
  | some q => simp at h2
  | none => exact ⟨es.push ⟨ek k, v, cl⟩, cl + 1, by simp [Instr.mapUpdate, hx, hg, K.check, h1, hset], by unfold KeysOk at *; simp [h]⟩
end
end Go.M
/- What comes in, as it lies in memory: of a type's data, what its cells say. Over any program. -/
namespace Go.M
open Go.RowKit
/-- all cells of a world -/
def vw (w : World) : View := fun a => w.cell? a
theorem vw_sees (w : World) : Sees (vw w) w := fun a v h => h
section
variable {H : Type} {enc : TypeId × Value → H} {P : Program} {w : World}
structure Opn (enc : TypeId × Value → H) (P : Program) (w : World) (t : TypeId) {α : Type} (d : Kd α) (F : α → Prop) : Prop where
  size : P.cellsOf t = d.sz
  open_ : ∀ fuel cs x, DataW.trod enc P w 0 (fun _ => true) true fuel t cs = some x → ∃ y, d.K (vw w) y cs ∧ F y
theorem op_int {t : TypeId} {k : IntKind} (ht : P.underlying t = some (.int k)) (hc : P.cellsOf t = 1) : Opn enc P w t (Kd.int k) (fun n => (Lit.int k n).wf = true) :=
  ⟨hc, fun fuel cs x h => by obtain ⟨n, rfl, _, hw⟩ := DataW.trod_int ht h; exact ⟨n, rfl, hw⟩⟩
theorem op_bool {t : TypeId} (ht : P.underlying t = some .bool) (hc : P.cellsOf t = 1) : Opn enc P w t Kd.bool (fun _ => True) :=
  ⟨hc, fun fuel cs x h => by obtain ⟨n, rfl, _⟩ := DataW.trod_bool ht h; exact ⟨n, rfl, trivial⟩⟩
theorem op_str {t : TypeId} (ht : P.underlying t = some .string) (hc : P.cellsOf t = 1) : Opn enc P w t Kd.str (fun s => s.size ≤ maxLen) :=
  ⟨hc, fun fuel cs x h => by obtain ⟨s, rfl, _, hs⟩ := DataW.trod_string ht h; exact ⟨s, rfl, hs⟩⟩
theorem list_of {α : Type} {Q : Nat → α → Prop} : ∀ (n : Nat), (∀ i, i < n → ∃ y, Q i y) → ∃ ys : List α, ys.length = n ∧ ∀ i y, ys[i]? = some y → Q i y
  | 0, _ => ⟨[], rfl, fun i y h => by simp at h⟩
  | n + 1, h => by
    obtain ⟨ys, h1, h2⟩ := list_of n (fun i hi => h i (by omega))
    obtain ⟨y, hy⟩ := h n (by omega)
    refine ⟨ys ++ [y], by simp [h1], fun i z hz => ?_⟩
    by_cases hi : i < n
    · rw [List.getElem?_append_left (by omega)] at hz; exact h2 i z hz
    · rw [List.getElem?_append_right (by omega)] at hz
      have : i - ys.length = 0 := by
        have := (List.getElem?_eq_some_iff.1 hz).1
        simp at this
        omega
      rw [this] at hz
      simp only [List.getElem?_cons_zero, Option.some.injEq] at hz
      subst hz
      rwa [show i = n by omega]
theorem op_slice {t e : TypeId} {α : Type} {d : Kd α} {F : α → Prop} (ho : Opn enc P w e d F) (ht : P.underlying t = some (.slice e)) (hc : P.cellsOf t = 1) : Opn enc P w t (Kd.slice d) (fun xs => xs.length ≤ maxLen ∧ ∀ x ∈ xs, F x) := by
  refine ⟨hc, fun fuel cs x h => ?_⟩
  rcases DataW.trod_slice ht h with ⟨rfl, _⟩ | ⟨a, len, cap, elems, rest, n, _, rfl, _, _, hl, hm, hlen, hel, _, _⟩
  · exact ⟨[], ⟨none, 0, rfl, Nat.le_refl _, Rd.nil _ _ _⟩, by simp [maxLen], by simp⟩
  · obtain ⟨ys, h1, h2⟩ := list_of (Q := fun i y => ∃ cs, d.K (vw w) y cs ∧ VCells (vw w) (a.add (i * d.sz)) cs ∧ F y) len (fun i hi => by
      have h3 := hel i hi
      rw [List.getElem?_eq_getElem (by omega), Option.bind_eq_some_iff] at h3
      obtain ⟨cs', h4, h5⟩ := h3
      obtain ⟨y, h6, h7⟩ := ho.open_ _ _ _ h5
      refine ⟨y, cs', h6, fun j v hj => ?_, h7⟩
      obtain ⟨_, hcl, hall⟩ := World.cells?_some h4
      rw [ho.size] at hall hcl
      have hlt := (List.getElem?_eq_some_iff.1 hj).1
      show w.cell? _ = some v
      rw [hall j (by omega)]
      exact hj)
    refine ⟨ys, ⟨some a, cap, by rw [h1], by omega, ?_, fun _ => ⟨a, rfl, fun i x hx => ?_⟩⟩, by omega, fun x hx => ?_⟩
    · unfold maxLen at hm; omega
    · obtain ⟨cs', h3, h4, _⟩ := h2 i x hx; exact ⟨cs', h3, h4⟩
    · obtain ⟨i, hi⟩ := List.getElem?_of_mem hx
      obtain ⟨_, _, _, h5⟩ := h2 i x hi
      exact h5
/-- fields, from an offset on -/
def OpF (enc : TypeId × Value → H) (P : Program) (w : World) (fs : List Field) (off : Nat) {α : Type} (d : Kd α) (F : α → Prop) : Prop :=
  ∀ fuel (cs : List Value), (∀ (i : Nat) (f : Field), fs[i]? = some f → ∃ x, DataW.trod enc P w 0 (fun _ => true) true fuel f.type ((cs.drop f.offset).take (P.cellsOf f.type)) = some x) → off + d.sz ≤ cs.length → ∃ y, d.K (vw w) y ((cs.drop off).take d.sz) ∧ F y
theorem opf_one {f : Field} {off : Nat} {α : Type} {d : Kd α} {F : α → Prop} (ho : Opn enc P w f.type d F) (hoff : f.offset = off) : OpF enc P w [f] off d F := fun fuel cs h _ => by
  obtain ⟨x, hx⟩ := h 0 f rfl
  rw [ho.size, hoff] at hx
  exact ho.open_ _ _ _ hx
theorem opf_cons {f : Field} {fs : List Field} {off : Nat} {α β : Type} {a : Kd α} {b : Kd β} {F : α → Prop} {G : β → Prop} (ho : Opn enc P w f.type a F) (hoff : f.offset = off) (hr : OpF enc P w fs (off + a.sz) b G) :
    OpF enc P w (f :: fs) off (Kd.pair a b) (fun y => F y.1 ∧ G y.2) := fun fuel cs h hl => by
  have hl' : off + (a.sz + b.sz) ≤ cs.length := hl
  obtain ⟨x, hx⟩ := h 0 f rfl
  rw [ho.size, hoff] at hx
  obtain ⟨y, h1, h2⟩ := ho.open_ _ _ _ hx
  obtain ⟨z, h3, h4⟩ := hr fuel cs (fun i g hg => h (i + 1) g (by simpa using hg)) (by omega)
  refine ⟨(y, z), ⟨_, _, ?_, h1, h3⟩, h2, h4⟩
  show (cs.drop off).take (a.sz + b.sz) = _
  rw [List.take_add, List.drop_drop]
theorem op_struct {t : TypeId} {fs : Array Field} {α : Type} {d : Kd α} {F : α → Prop} (ht : P.underlying t = some (.struct fs)) (hc : P.cellsOf t = d.sz) (ho : OpF enc P w fs.toList 0 d F) : Opn enc P w t d F := by
  refine ⟨hc, fun fuel cs x h => ?_⟩
  obtain ⟨xs, n, _, _, hl, hxl, hf⟩ := DataW.trod_struct ht h
  obtain ⟨y, h1, h2⟩ := ho n cs (fun i f hi => by
    have hi' : fs[i]? = some f := by simpa using hi
    have hlt := (Array.getElem?_eq_some_iff.1 hi').1
    exact ⟨xs[i], by rw [hf i f hi']; simp⟩) (by omega)
  rw [List.drop_zero, List.take_of_length_le (by omega)] at h1
  exact ⟨y, h1, h2⟩
theorem op_iso {t : TypeId} {α β : Type} {d : Kd α} {F : α → Prop} {f : β → α} (g : α → β) (hg : ∀ a, f (g a) = a) (ho : Opn enc P w t d F) : Opn enc P w t (Kd.iso d f) (fun y => F (f y)) :=
  ⟨ho.size, fun fuel cs x h => by
    obtain ⟨y, h1, h2⟩ := ho.open_ _ _ _ h
    exact ⟨g y, by show d.K (vw w) (f (g y)) cs; rw [hg]; exact h1, by rw [hg]; exact h2⟩⟩
theorem Opn.weak {t : TypeId} {α : Type} {d : Kd α} {F G : α → Prop} (ho : Opn enc P w t d F) (h : ∀ y, F y → G y) : Opn enc P w t d G :=
  ⟨ho.size, fun fuel cs x hx => by obtain ⟨y, h1, h2⟩ := ho.open_ _ _ _ hx; exact ⟨y, h1, h y h2⟩⟩
/-- what came in reads in a later world as it did -/
theorem all_stays (hl : laidOutB P = true) {W W' : World} (hE : Ext W W') {sp : Nat → Bool} : ∀ {ts : List TypeId} {vs : List Value} {ds : List (DataW H)} {ps : List MemPlace}, (∀ t ∈ ts, P.readableRec t = true ∧ t < P.types.size) →
    DataW.TrodAll enc P W 0 (fun _ => true) true ts vs ds ps → (∀ p ∈ ps, p.block < W.heap.size) → (∀ p ∈ ps, sp p.block = true) → DataW.TrodAll enc P W' 0 sp true ts vs ds ps
  | [], [], [], _, _, h, _, _ => h
  | t :: ts, v :: vs, d :: ds, _, hT, ⟨p, q, h1, h2, e⟩, hlt, hs => ⟨p, q, WideElems.Trod_stays hl (hT t List.mem_cons_self).1 (hT t List.mem_cons_self).2 h1 (fun x hx => hE.same (hlt x (by rw [e]; exact List.mem_append_left _ hx))) (fun x hx => hs x (by rw [e]; exact List.mem_append_left _ hx)),
      all_stays hl hE (fun t ht => hT t (List.mem_cons_of_mem _ ht)) h2 (fun x hx => hlt x (by rw [e]; exact List.mem_append_right _ hx)) (fun x hx => hs x (by rw [e]; exact List.mem_append_right _ hx)), e⟩
end
end Go.M
namespace Go.Proofs.YtfjppgobidjndaaDoor
open Go.RowKit Go.M
def ctf_contained.l0 (a0 : api_Def) : Nat → Int → (List Int) → Option ((List Int))
  | 0, _, _ => none
  | m + 1, y1_0, y1_1 => if (decide (y1_0 < (a0.vFields.length : Int))) = true then (if 0 ≤ y1_0 ∧ y1_0 < a0.vFields.length then (if y1_1.length + 1 ≤ 4294967296 then (ctf_contained.l0 a0 m (IntKind.wrap .i64 (y1_0 + 1)) (y1_1 ++ ([(rd z_api_Field a0.vFields y1_0).vType] : List Int))) else none) else none) else (some y1_1)
def ctf_contained.f (k : Nat) (a0 : api_Def) : Option ((List Int)) := ((if (a0.vKind == 3) = true then (some (a0.vKind == 3)) else (some (a0.vKind == 6))) : Option (Bool)).bind fun xx1 => (if xx1 = true then (some ([a0.vRef] : List Int)) else (if (a0.vKind == 4) = true then ((ctf_contained.l0 a0 k 0 ([] : List Int)).bind fun xx2 => (some xx2)) else (some ([] : List Int))))
set_option maxRecDepth 20000 in
set_option maxHeartbeats 4000000 in
theorem ctf_contained.calls (k : Nat) (a0 : api_Def) (A0_6 : Option Addr) (c0_6 : Nat) {h0 : View} {w0 : World} (hv : Sees h0 w0) (hr0_6 : Rd k_api_Field h0 A0_6 a0.vFields) (hc0_6 : a0.vFields.length ≤ c0_6) {r : (List Int)} (H : ctf_contained.f k a0 = some r) : Calls Tryd.prog 88 #[Value.agg #[Value.int .i64 a0.vKind, Value.string a0.vName, Value.int .i64 a0.vInt.vSize, Value.bool a0.vInt.vSigned, Value.int .i64 a0.vRef, Value.int .i64 a0.vN, Value.slice A0_6 a0.vFields.length c0_6]] w0 (fun e w1 => ∃ (h1 : View) (A0_0 : Option Addr) (c0_0 : Nat), e = .returned (Value.slice A0_0 r.length c0_0) ∧ r.length ≤ c0_0 ∧ Rd (Kd.int .i64) h1 A0_0 r ∧ Gr w0.heap.size h0 h1 ∧ Sees h1 w1 ∧ Ext w0 w1) := by
  unfold ctf_contained.f at H
  have HS : St [] h0 w0 h0 [] w0 := St.init hv
  go_enter Tryd.func88, Tryd.ntmps88
  refine wp_seq ?_
  refine region ?_
  refine run_ex rfl rfl (does_box (cs := #[Value.int .i64 a0.vKind, Value.string a0.vName, Value.int .i64 a0.vInt.vSize, Value.bool a0.vInt.vSigned, Value.int .i64 a0.vRef, Value.int .i64 a0.vN, Value.slice A0_6 a0.vFields.length c0_6]) rfl rfl) ?_
  rintro w1 _ hE1 ⟨b1, rfl, ge1, hb1⟩
  have HS1 := HS.new hE1 ge1 hb1
  refine run_same (v := Value.slice none 0 0) rfl rfl (r_assign rfl) ?_
  try simp only [List.set_cons_zero, List.set_cons_succ]
  refine run_nil ?_
  refine norm_then ?_
  refine wp_seq ?_
  refine wp_seq ?_
  refine region ?_
  refine run_same (v := Value.pointer (some ⟨b1, 0, none⟩)) rfl rfl (r_fieldBox (n := 1) (o' := 0) rfl Tryd.runUnderlying34 rfl Tryd.sizeOf3 (by decide) rfl) ?_
  refine run_same (v := Value.int .i64 a0.vKind) rfl rfl (r_loadBox rfl Tryd.isAgg3 (HS1.look 0 rfl) rfl) ?_
  try simp only [List.set_cons_zero, List.set_cons_succ]
  refine run_nil ?_
  refine norm_then ?_
  refine wp_block ?_
  refine wp_seq ?_
  refine wp_seq ?_
  refine region ?_
  refine run_same (v := Value.bool (a0.vKind == 3)) rfl rfl (r_bin rfl rfl rfl) ?_
  refine run_same (v := Value.bool (a0.vKind == 3)) rfl rfl (r_assign rfl) ?_
  try simp only [List.set_cons_zero, List.set_cons_succ]
  refine run_nil ?_
  refine norm_then ?_
  obtain ⟨xx1, H, G1⟩ := of_bind H
  refine cut_patch [8, 10] (fun us w' => ∃ (uj1_10 : Value), us = [Value.bool xx1, uj1_10] ∧ St [] h0 w0 h0 [(some b1, .cells #[Value.int .i64 a0.vKind, Value.string a0.vName, Value.int .i64 a0.vInt.vSize, Value.bool a0.vInt.vSigned, Value.int .i64 a0.vRef, Value.int .i64 a0.vN, Value.slice A0_6 a0.vFields.length c0_6] 34 (0, 0))] w') ?_ ?_
  · refine wp_cond_split (t := (a0.vKind == 3)) rfl (fun c1 => ?_) (fun c1 => ?_)
    · replace H := of_pos H c1
      refine wp_skip ?_
      obtain rfl := Option.some.inj H
      refine met [Value.bool (a0.vKind == 3), undef] (by simp only [patch, List.set_cons_zero, List.set_cons_succ]) ⟨_, rfl, HS1⟩
    · replace H := of_neg H (nt c1)
      refine region ?_
      refine run_same (v := Value.bool (a0.vKind == 6)) rfl rfl (r_bin rfl rfl rfl) ?_
      refine run_same (v := Value.bool (a0.vKind == 6)) rfl rfl (r_assign rfl) ?_
      try simp only [List.set_cons_zero, List.set_cons_succ]
      refine run_nil ?_
      obtain rfl := Option.some.inj H
      refine met [Value.bool (a0.vKind == 6), Value.bool (a0.vKind == 6)] (by simp only [patch, List.set_cons_zero, List.set_cons_succ]) ⟨_, rfl, HS1⟩
  · rintro _ w2 ⟨uj1_10, rfl, HS2⟩
    replace H := G1
    clear G1
    try simp only [patch, List.set_cons_zero, List.set_cons_succ]
    refine wp_cond_split (t := xx1) rfl (fun c2 => ?_) (fun c2 => ?_)
    · replace H := of_pos H c2
      refine wp_seq ?_
      refine region ?_
      refine run_same (v := Value.pointer (some ⟨b1, 4, none⟩)) rfl rfl (r_fieldBox (n := 1) (o' := 4) rfl Tryd.runUnderlying34 rfl Tryd.sizeOf3 (by decide) rfl) ?_
      refine run_same (v := Value.int .i64 a0.vRef) rfl rfl (r_loadBox rfl Tryd.isAgg3 (HS2.look 0 rfl) rfl) ?_
      refine run_bs (Kd.int .i64) (xs := ([a0.vRef] : List Int)) (n := 1) (cs := [Value.int .i64 a0.vRef]) Tryd.runUnderlying62 Tryd.typeInfo3 Tryd.zeroValue3 rfl rfl (by decide) (by decide) (by decide) [Value.int .i64 a0.vRef] (parts_any.trans rfl) rfl rfl rfl rfl (elems_cons (qs := [Value.int .i64 a0.vRef]) rfl (elems_nil (cs := []))) HS2 ?_
      intro w3 b2 HS3 ho1
      refine run_same (v := Value.slice (rowA (some b2)) 1 1) rfl rfl (r_assign rfl) ?_
      try simp only [List.set_cons_zero, List.set_cons_succ]
      refine run_nil ?_
      refine norm_then ?_
      refine wp_ret ?_
      refine ret_block ?_
      refine ret_then ?_
      obtain rfl := Option.some.inj H
      refine bodyPost_ret (results_1 rfl (one_tmp rfl)) rfl ?_
      obtain ⟨h1, HS4, hs1, rdp1⟩ := row_pub HS3 (i := 0) rfl ho1
      exact ⟨h1, (rowA (some b2)), 1, (by first | rfl | (rw [ho1.len]; done) | (rw [ho1.len]; rfl)), ho1.cap, rdp1, HS4.gr, HS4.sees, HS4.toE⟩
    · replace H := of_neg H (nt c2)
      refine wp_seq ?_
      refine region ?_
      refine run_same (v := Value.bool (a0.vKind == 4)) rfl rfl (r_bin rfl rfl rfl) ?_
      refine run_same (v := Value.bool (a0.vKind == 4)) rfl rfl (r_assign rfl) ?_
      try simp only [List.set_cons_zero, List.set_cons_succ]
      refine run_nil ?_
      refine norm_then ?_
      refine wp_cond_split (t := (a0.vKind == 4)) rfl (fun c3 => ?_) (fun c3 => ?_)
      · replace H := of_pos H c3
        refine wp_seq ?_
        refine region ?_
        refine run_same (v := Value.slice none 0 0) rfl rfl (r_assign rfl) ?_
        try simp only [List.set_cons_zero, List.set_cons_succ]
        refine run_nil ?_
        refine norm_then ?_
        refine wp_seq ?_
        refine wp_seq ?_
        refine region ?_
        refine run_same (v := Value.pointer (some ⟨b1, 6, none⟩)) rfl rfl (r_fieldBox (n := 1) (o' := 6) rfl Tryd.runUnderlying34 rfl Tryd.sizeOf32 (by decide) rfl) ?_
        refine run_same (v := Value.slice A0_6 a0.vFields.length c0_6) rfl rfl (r_loadBox rfl Tryd.isAgg32 (HS2.look 0 rfl) rfl) ?_
        refine run_same (v := Value.int .i64 (a0.vFields.length : Int)) rfl rfl (r_len rfl Tryd.runUnderlying32) ?_
        refine run_same (v := Value.int .i64 0) rfl rfl (r_move rfl) ?_
        try simp only [List.set_cons_zero, List.set_cons_succ]
        refine run_nil ?_
        refine norm_then ?_
        have HS5 := HS2.nothing (.cells ([] : List Value).toArray 3 (0, 0))
        obtain ⟨xx2, H, G2⟩ := of_bind H
        refine loop_patch [3, 5, 19, 20, 21, 22, 23, 24, 25, 26, 27, 28] (fun m us w' => ∃ (y1_0 : Int), ∃ (y1_1 : List Int), ∃ (oby1_1 : Option Nat) (cy1_1 : Nat), ∃ (csy1_1 : List Value), ∃ (uy1_5 : Value), ∃ (uy1_20 : Value), ∃ (uy1_21 : Value), ∃ (uy1_22 : Value), ∃ (uy1_23 : Value), ∃ (uy1_24 : Value), ∃ (uy1_25 : Value), ∃ (uy1_26 : Value), ∃ (uy1_27 : Value), ∃ (uy1_28 : Value), us = [Value.slice (rowA oby1_1) y1_1.length cy1_1, uy1_5, Value.int .i64 y1_0, uy1_20, uy1_21, uy1_22, uy1_23, uy1_24, uy1_25, uy1_26, uy1_27, uy1_28] ∧ ctf_contained.l0 a0 m y1_0 y1_1 = some xx2 ∧ RowOk (Kd.int .i64) h0 y1_1 oby1_1 y1_1.length cy1_1 csy1_1 ∧ St [] h0 w0 h0 [(oby1_1, .cells (csy1_1).toArray 3 (0, 0)), (some b1, .cells #[Value.int .i64 a0.vKind, Value.string a0.vName, Value.int .i64 a0.vInt.vSize, Value.bool a0.vInt.vSigned, Value.int .i64 a0.vRef, Value.int .i64 a0.vN, Value.slice A0_6 a0.vFields.length c0_6] 34 (0, 0))] w') (fun us w' => ∃ (obo1_0 : Option Nat) (co1_0 : Nat), ∃ (cso1_0 : List Value), ∃ (uo1_5 : Value), ∃ (uo1_19 : Value), ∃ (uo1_20 : Value), ∃ (uo1_21 : Value), ∃ (uo1_22 : Value), ∃ (uo1_23 : Value), ∃ (uo1_24 : Value), ∃ (uo1_25 : Value), ∃ (uo1_26 : Value), ∃ (uo1_27 : Value), ∃ (uo1_28 : Value), us = [Value.slice (rowA obo1_0) xx2.length co1_0, uo1_5, uo1_19, uo1_20, uo1_21, uo1_22, uo1_23, uo1_24, uo1_25, uo1_26, uo1_27, uo1_28] ∧ RowOk (Kd.int .i64) h0 xx2 obo1_0 xx2.length co1_0 cso1_0 ∧ St [] h0 w0 h0 [(obo1_0, .cells (cso1_0).toArray 3 (0, 0)), (some b1, .cells #[Value.int .i64 a0.vKind, Value.string a0.vName, Value.int .i64 a0.vInt.vSize, Value.bool a0.vInt.vSigned, Value.int .i64 a0.vRef, Value.int .i64 a0.vN, Value.slice A0_6 a0.vFields.length c0_6] 34 (0, 0))] w') k [Value.slice none 0 0, undef, Value.int .i64 0, undef, undef, undef, undef, undef, undef, undef, undef, undef] (by simp only [patch, List.set_cons_zero, List.set_cons_succ]) ⟨0, ([] : List Int), none, 0, ([] : List Value), _, _, _, _, _, _, _, _, _, _, rfl, H, (RowOk.none' (Kd.int .i64) _).norm, HS5⟩ ?_ ?_
        · rintro m us w4 ⟨y1_0, y1_1, oby1_1, cy1_1, csy1_1, uy1_5, uy1_20, uy1_21, uy1_22, uy1_23, uy1_24, uy1_25, uy1_26, uy1_27, uy1_28, rfl, H, hoy1_1, HS6⟩
          cases m with
          | zero => exact absurd H (by simp [ctf_contained.l0])
          | succ m =>
            rw [ctf_contained.l0] at H
            try simp only [patch, List.set_cons_zero, List.set_cons_succ]
            refine wp_seq ?_
            refine region ?_
            refine run_same (v := Value.bool (decide (y1_0 < (a0.vFields.length : Int)))) rfl rfl (r_bin rfl rfl rfl) ?_
            try simp only [List.set_cons_zero, List.set_cons_succ]
            refine run_nil ?_
            refine norm_then ?_
            refine wp_seq ?_
            refine wp_cond_split (t := (decide (y1_0 < (a0.vFields.length : Int)))) rfl (fun c4 => ?_) (fun c4 => ?_)
            · replace H := of_pos H c4
              refine wp_skip ?_
              refine norm_then ?_
              refine wp_seq ?_
              refine wp_block ?_
              refine wp_seq ?_
              refine region ?_
              obtain ⟨hi1, H⟩ := of_ite H
              obtain ⟨ad1, e1, hel1⟩ := ld_api_Field hr0_6 hi1.1 hi1.2
              refine run_same (v := Value.pointer (some (Addr.add ad1 (y1_0.toNat * 3)))) rfl rfl (r_indexA (sz := 3) rfl e1 rfl hi1.1 hi1.2 Tryd.runUnderlying32 Tryd.sizeOf36) ?_
              refine run_same (v := Value.agg #[Value.string ((rd z_api_Field a0.vFields y1_0).vName), Value.int .i64 ((rd z_api_Field a0.vFields y1_0).vType), Value.int .i64 ((rd z_api_Field a0.vFields y1_0).vAt)]) rfl rfl (r_loadAgg rfl Tryd.isAgg36 (hel1.sees HS6.sees) Tryd.sizeOf36) ?_
              refine run_ex rfl rfl (does_alloc (cs := #[Value.string ByteArray.empty, Value.int .i64 0, Value.int .i64 0]) Tryd.zeroValue36 rfl) ?_
              rintro w5 _ hE2 ⟨b3, rfl, ge2, hb2⟩
              have HS7 := HS6.new hE2 ge2 hb2
              refine run_st (i := 0) (cs := [Value.string ByteArray.empty, Value.int .i64 0, Value.int .i64 0]) (cs' := [Value.string ((rd z_api_Field a0.vFields y1_0).vName), Value.int .i64 ((rd z_api_Field a0.vFields y1_0).vType), Value.int .i64 ((rd z_api_Field a0.vFields y1_0).vAt)]) (vs := [Value.string ((rd z_api_Field a0.vFields y1_0).vName), Value.int .i64 ((rd z_api_Field a0.vFields y1_0).vType), Value.int .i64 ((rd z_api_Field a0.vFields y1_0).vAt)]) (bs' := [(some b3, .cells #[Value.string ((rd z_api_Field a0.vFields y1_0).vName), Value.int .i64 ((rd z_api_Field a0.vFields y1_0).vType), Value.int .i64 ((rd z_api_Field a0.vFields y1_0).vAt)] 36 (0, 0)), (oby1_1, .cells (csy1_1).toArray 3 (0, 0)), (some b1, .cells #[Value.int .i64 a0.vKind, Value.string a0.vName, Value.int .i64 a0.vInt.vSize, Value.bool a0.vInt.vSigned, Value.int .i64 a0.vRef, Value.int .i64 a0.vN, Value.slice A0_6 a0.vFields.length c0_6] 34 (0, 0))]) rfl rfl Tryd.sizeOf36 rfl rfl (by decide) rfl HS7 rfl (Nat.le_of_ble_eq_true rfl) rfl rfl ?_
              intro w6 HS8
              try simp only [List.set_cons_zero, List.set_cons_succ]
              refine run_nil ?_
              refine norm_then ?_
              refine region ?_
              refine run_same (v := Value.slice (rowA oby1_1) y1_1.length cy1_1) rfl rfl (r_move rfl) ?_
              refine run_same (v := Value.pointer (some ⟨b3, 1, none⟩)) rfl rfl (r_fieldBox (n := 1) (o' := 1) rfl Tryd.runUnderlying36 rfl Tryd.sizeOf3 (by decide) rfl) ?_
              refine run_same (v := Value.int .i64 ((rd z_api_Field a0.vFields y1_0).vType)) rfl rfl (r_loadBox rfl Tryd.isAgg3 (HS8.look 0 rfl) rfl) ?_
              refine run_bs (Kd.int .i64) (xs := ([(rd z_api_Field a0.vFields y1_0).vType] : List Int)) (n := 1) (cs := [Value.int .i64 ((rd z_api_Field a0.vFields y1_0).vType)]) Tryd.runUnderlying62 Tryd.typeInfo3 Tryd.zeroValue3 rfl rfl (by decide) (by decide) (by decide) [Value.int .i64 ((rd z_api_Field a0.vFields y1_0).vType)] (parts_any.trans rfl) rfl rfl rfl rfl (elems_cons (qs := [Value.int .i64 ((rd z_api_Field a0.vFields y1_0).vType)]) rfl (elems_nil (cs := []))) HS8 ?_
              intro w7 b4 HS9 ho2
              refine run_frame (by simp only [List.set_cons_zero, List.set_cons_succ]; rfl) ?_
              obtain ⟨hl1, H⟩ := of_ite H
              refine run_app (Kd.int .i64) (q := 2) (cs := csy1_1) rfl rfl Tryd.runUnderlying62 Tryd.typeInfo3 Tryd.zeroValue3 rfl (by decide) rfl (src_row Tryd.runUnderlying62 HS9 (i := 0) rfl ho2 rfl) ho2.len (src_row_elems ho2) hl1 HS9 rfl hoy1_1 ?_
              intro w8 ob1 c5 cs1 HS10 ho3
              refine run_same (v := Value.slice (rowA ob1) (y1_1.length + 1) c5) rfl rfl (r_assign rfl) ?_
              try simp only [List.set_cons_zero, List.set_cons_succ]
              refine run_nil ?_
              refine norm_block ?_
              refine norm_then ?_
              refine region ?_
              refine run_same (v := Value.int .i64 (IntKind.wrap .i64 (y1_0 + 1))) rfl rfl (r_bin rfl rfl rfl) ?_
              refine run_same (v := Value.int .i64 (IntKind.wrap .i64 (y1_0 + 1))) rfl rfl (r_move rfl) ?_
              try simp only [List.set_cons_zero, List.set_cons_succ]
              refine run_nil ?_
              refine again m [Value.slice (rowA ob1) (y1_1.length + 1) c5, Value.pointer (some ⟨b3, 0, none⟩), Value.int .i64 (IntKind.wrap .i64 (y1_0 + 1)), Value.bool (decide (y1_0 < (a0.vFields.length : Int))), Value.pointer (some (Addr.add ad1 (y1_0.toNat * 3))), Value.agg #[Value.string ((rd z_api_Field a0.vFields y1_0).vName), Value.int .i64 ((rd z_api_Field a0.vFields y1_0).vType), Value.int .i64 ((rd z_api_Field a0.vFields y1_0).vAt)], Value.slice (rowA oby1_1) y1_1.length cy1_1, Value.pointer (some ⟨b3, 1, none⟩), Value.int .i64 ((rd z_api_Field a0.vFields y1_0).vType), Value.slice (rowA (some b4)) 1 1, Value.slice (rowA ob1) (y1_1.length + 1) c5, Value.int .i64 (IntKind.wrap .i64 (y1_0 + 1))] (Nat.lt_succ_self m) (by simp only [patch, List.set_cons_zero, List.set_cons_succ]) ⟨(IntKind.wrap .i64 (y1_0 + 1)), (y1_1 ++ ([(rd z_api_Field a0.vFields y1_0).vType] : List Int)), ob1, c5, cs1, _, _, _, _, _, _, _, _, _, _, (by first | rfl | (rw [ho3.len]; done) | (rw [ho3.len]; rfl)), H, ho3.norm, HS10.tail.tail⟩
            · replace H := of_neg H (nt c4)
              refine wp_exit ?_
              refine exit_then ?_
              obtain rfl := Option.some.inj H
              refine leave [Value.slice (rowA oby1_1) y1_1.length cy1_1, uy1_5, Value.int .i64 y1_0, Value.bool (decide (y1_0 < (a0.vFields.length : Int))), uy1_21, uy1_22, uy1_23, uy1_24, uy1_25, uy1_26, uy1_27, uy1_28] (by simp only [patch, List.set_cons_zero, List.set_cons_succ]) ⟨oby1_1, cy1_1, csy1_1, _, _, _, _, _, _, _, _, _, _, _, rfl, hoy1_1.norm, HS6⟩
        · rintro us w9 ⟨obo1_0, co1_0, cso1_0, uo1_5, uo1_19, uo1_20, uo1_21, uo1_22, uo1_23, uo1_24, uo1_25, uo1_26, uo1_27, uo1_28, rfl, hoo1_0, HS11⟩
          replace H := G2
          clear G2
          try simp only [patch, List.set_cons_zero, List.set_cons_succ]
          refine norm_then ?_
          refine wp_seq ?_
          refine region ?_
          refine run_same (v := Value.slice (rowA obo1_0) xx2.length co1_0) rfl rfl (r_move rfl) ?_
          refine run_same (v := Value.slice (rowA obo1_0) xx2.length co1_0) rfl rfl (r_assign rfl) ?_
          try simp only [List.set_cons_zero, List.set_cons_succ]
          refine run_nil ?_
          refine norm_then ?_
          refine wp_ret ?_
          refine ret_block ?_
          refine ret_then ?_
          obtain rfl := Option.some.inj H
          refine bodyPost_ret (results_1 rfl (one_tmp rfl)) rfl ?_
          obtain ⟨h2, HS12, hs2, rdp2⟩ := row_pub HS11 (i := 0) rfl hoo1_0
          exact ⟨h2, (rowA obo1_0), co1_0, rfl, hoo1_0.cap, rdp2, HS12.gr, HS12.sees, HS12.toE⟩
      · replace H := of_neg H (nt c3)
        refine wp_skip ?_
        refine norm_block ?_
        refine norm_then ?_
        refine wp_seq ?_
        refine region ?_
        refine run_same (v := Value.slice none 0 0) rfl rfl (r_assign rfl) ?_
        try simp only [List.set_cons_zero, List.set_cons_succ]
        refine run_nil ?_
        refine norm_then ?_
        refine wp_ret ?_
        obtain rfl := Option.some.inj H
        refine bodyPost_ret (results_1 rfl (one_tmp rfl)) rfl ?_
        exact ⟨h0, none, 0, rfl, (Nat.le_refl 0), (Rd.nil _ _ _), HS2.gr, HS2.sees, HS2.toE⟩

end Go.Proofs.YtfjppgobidjndaaDoor
namespace Go.Proofs.YtfjppgobidjndaaDoor
open Go.RowKit Go.M
def ctf_sizes_1.l0 (rec : Int → (List Int) → Bool → (List Bool) → (List api_Def) → Option (Int × (List Int) × Bool × (List Bool))) (x3 : List api_Def) (v1 : (List Int)) : Nat → Int → Int → Bool → (List Int) → (List Bool) → Option (Int × Bool × (List Int) × (List Bool))
  | 0, _, _, _, _, _ => none
  | m + 1, y1_0, y1_1, y1_2, y1_3, y1_4 => if (decide (y1_1 < (v1.length : Int))) = true then (if 0 ≤ y1_1 ∧ y1_1 < v1.length then ((rec (rd 0 v1 y1_1) y1_3 y1_2 y1_4 x3).bind fun v2 => (ctf_sizes_1.l0 rec x3 v1 m v2.1 (IntKind.wrap .i64 (y1_1 + 1)) v2.2.2.1 v2.2.1 v2.2.2.2)) else none) else (some (y1_0, y1_2, y1_3, y1_4))
def ctf_sizes_1.f : Nat → Int → (List Int) → Bool → (List Bool) → (List api_Def) → Option (Int × (List Int) × Bool × (List Bool))
  | 0, _, _, _, _, _ => none
  | k + 1, a0, x0, x1, x2, x3 => if 0 ≤ a0 ∧ a0 < ((x0.length : Nat) : Int) then (if ((decide ((rd 0 x0 a0) > 0)) || (!x1)) = true then (if 0 ≤ a0 ∧ a0 < ((x0.length : Nat) : Int) then (some ((rd 0 x0 a0), x0, x1, x2)) else none) else (if 0 ≤ a0 ∧ a0 < ((x2.length : Nat) : Int) then (if (rd false x2 a0) = true then (some (0, x0, false, x2)) else (if 0 ≤ a0 ∧ a0 < ((x2.length : Nat) : Int) then (if 0 ≤ a0 ∧ a0 < x3.length then ((ctf_contained.f k (rd z_api_Def x3 a0)).bind fun v1 => ((ctf_sizes_1.l0 (ctf_sizes_1.f k) x3 v1 k 0 0 x1 x0 (List.set x2 a0.toNat true)).bind fun xx1 => (if 0 ≤ a0 ∧ a0 < ((xx1.2.2.1.length : Nat) : Int) then (some (((mfind ieq (mput ieq (mput ieq (mput ieq (mput ieq (mput ieq (mput ieq ([] : List (Int × Int)) 1 ((rd z_api_Def x3 a0).vInt.vSize)) 2 8) 3 (IntKind.wrap .i64 ((rd z_api_Def x3 a0).vN * xx1.1))) 4 ((rd z_api_Def x3 a0).vN)) 5 4) 6 xx1.1) ((rd z_api_Def x3 a0).vKind)).getD 0), (List.set xx1.2.2.1 a0.toNat ((mfind ieq (mput ieq (mput ieq (mput ieq (mput ieq (mput ieq (mput ieq ([] : List (Int × Int)) 1 ((rd z_api_Def x3 a0).vInt.vSize)) 2 8) 3 (IntKind.wrap .i64 ((rd z_api_Def x3 a0).vN * xx1.1))) 4 ((rd z_api_Def x3 a0).vN)) 5 4) 6 xx1.1) ((rd z_api_Def x3 a0).vKind)).getD 0)), (xx1.2.1 && (decide (((mfind ieq (mput ieq (mput ieq (mput ieq (mput ieq (mput ieq (mput ieq ([] : List (Int × Int)) 1 ((rd z_api_Def x3 a0).vInt.vSize)) 2 8) 3 (IntKind.wrap .i64 ((rd z_api_Def x3 a0).vN * xx1.1))) 4 ((rd z_api_Def x3 a0).vN)) 5 4) 6 xx1.1) ((rd z_api_Def x3 a0).vKind)).getD 0) ≤ 512))), xx1.2.2.2)) else none))) else none) else none)) else none)) else none
set_option maxRecDepth 20000 in
set_option maxHeartbeats 4000000 in
theorem ctf_sizes_1.calls : ∀ (k : Nat) (a0 : Int) (x0 : List Int) (x1 : Bool) (x2 : List Bool) (x3 : List api_Def) (bx0 : Nat) (obx0 : Option Nat) (cx0 : Nat) (csx0 : List Value) (bx1 : Nat) (bx2 : Nat) (obx2 : Option Nat) (cx2 : Nat) (csx2 : List Value) (bx3 : Nat) (Ax3 : Option Addr) (cx3 : Nat) (bx4 : Nat) {h0 : View} {w0 : World} {h : View} {w : World} {rest : List Res} (HS : St [] h0 w0 h ((some bx0, .cells #[Value.slice (rowA obx0) x0.length cx0] 62 (0, 0)) :: (obx0, .cells (csx0).toArray 3 (0, 0)) :: (some bx1, .cells #[Value.bool x1] 4 (0, 0)) :: (some bx2, .cells #[Value.slice (rowA obx2) x2.length cx2] 112 (0, 0)) :: (obx2, .cells (csx2).toArray 4 (0, 0)) :: (some bx3, .cells #[Value.slice Ax3 x3.length cx3] 24 (0, 0)) :: (some bx4, .cells #[Value.func (.func 87) #[] #[Value.pointer (some ⟨bx0, 0, none⟩), Value.pointer (some ⟨bx1, 0, none⟩), Value.pointer (some ⟨bx2, 0, none⟩), Value.pointer (some ⟨bx3, 0, none⟩), Value.pointer (some ⟨bx4, 0, none⟩)]] 147 (0, 0)) :: rest) w) (hox0 : RowOk (Kd.int .i64) h x0 obx0 x0.length cx0 csx0) (hox2 : RowOk Kd.bool h x2 obx2 x2.length cx2 csx2) (hrx3 : Rd k_api_Def h Ax3 x3) (hcx3 : x3.length ≤ cx3) {r : Int × (List Int) × Bool × (List Bool)} (H : ctf_sizes_1.f k a0 x0 x1 x2 x3 = some r), Calls Tryd.prog 87 #[Value.int .i64 a0, Value.pointer (some ⟨bx0, 0, none⟩), Value.pointer (some ⟨bx1, 0, none⟩), Value.pointer (some ⟨bx2, 0, none⟩), Value.pointer (some ⟨bx3, 0, none⟩), Value.pointer (some ⟨bx4, 0, none⟩)] w (fun e w1 => ∃ (h1 : View), ∃ (obz_x0 : Option Nat) (cz_x0 : Nat) (csz_x0 : List Value), ∃ (obz_x2 : Option Nat) (cz_x2 : Nat) (csz_x2 : List Value), e = .returned (Value.int .i64 r.1) ∧ RowOk (Kd.int .i64) h1 r.2.1 obz_x0 r.2.1.length cz_x0 csz_x0 ∧ RowOk Kd.bool h1 r.2.2.2 obz_x2 r.2.2.2.length cz_x2 csz_x2 ∧ Sub h h1 ∧ St [] h0 w0 h1 ((some bx0, .cells #[Value.slice (rowA obz_x0) r.2.1.length cz_x0] 62 (0, 0)) :: (obz_x0, .cells (csz_x0).toArray 3 (0, 0)) :: (some bx1, .cells #[Value.bool r.2.2.1] 4 (0, 0)) :: (some bx2, .cells #[Value.slice (rowA obz_x2) r.2.2.2.length cz_x2] 112 (0, 0)) :: (obz_x2, .cells (csz_x2).toArray 4 (0, 0)) :: (some bx3, .cells #[Value.slice Ax3 x3.length cx3] 24 (0, 0)) :: (some bx4, .cells #[Value.func (.func 87) #[] #[Value.pointer (some ⟨bx0, 0, none⟩), Value.pointer (some ⟨bx1, 0, none⟩), Value.pointer (some ⟨bx2, 0, none⟩), Value.pointer (some ⟨bx3, 0, none⟩), Value.pointer (some ⟨bx4, 0, none⟩)]] 147 (0, 0)) :: rest) w1) := by
  intro k
  induction k with
  | zero =>
    intros
    rename_i H
    exact absurd H (by simp [ctf_sizes_1.f])
  | succ k ih =>
    intro a0 x0 x1 x2 x3 bx0 obx0 cx0 csx0 bx1 bx2 obx2 cx2 csx2 bx3 Ax3 cx3 bx4 h0 w0 h w rest HS hox0 hox2 hrx3 hcx3 r H
    rw [ctf_sizes_1.f] at H
    have hsub : Sub h h := Sub.rfl' h
    go_enter Tryd.func87, Tryd.ntmps87
    refine wp_seq ?_
    refine region ?_
    refine run_same (v := Value.int .i64 0) rfl rfl (r_assign rfl) ?_
    try simp only [List.set_cons_zero, List.set_cons_succ]
    refine run_nil ?_
    refine norm_then ?_
    refine wp_seq ?_
    refine wp_seq ?_
    refine region ?_
    refine run_same (v := Value.slice (rowA obx0) x0.length cx0) rfl rfl (r_loadBox rfl Tryd.isAgg62 (HS.look 0 rfl) rfl) ?_
    refine run_same (v := Value.int .i64 a0) rfl rfl (r_move rfl) ?_
    obtain ⟨hi1, H⟩ := of_ite H
    obtain ⟨rb1, _, hrb1, rfl, hp1⟩ := hox0.at 0 hi1.1 hi1.2
    refine run_same (v := Value.pointer (some ⟨rb1, a0.toNat * 1 + 0, none⟩)) rfl rfl (r_indexRow (sz := 1) rfl hrb1 rfl hi1.1 hi1.2 Tryd.runUnderlying62 Tryd.sizeOf3) ?_
    refine run_same (v := Value.int .i64 (rd 0 x0 a0)) rfl rfl (r_loadBox (cs := csx0) rfl Tryd.isAgg3 (HS.lookr 1 rfl hrb1) (hp1 0 _ rfl)) ?_
    refine run_frame (by simp only [List.set_cons_zero, List.set_cons_succ]; rfl) ?_
    refine run_same (v := Value.bool (decide ((rd 0 x0 a0) > 0))) rfl rfl (r_bin rfl rfl rfl) ?_
    refine run_same (v := Value.bool (decide ((rd 0 x0 a0) > 0))) rfl rfl (r_move rfl) ?_
    refine run_g_same (b := (decide ((rd 0 x0 a0) > 0))) (c := true) (v := Value.bool x1) rfl rfl rfl rfl (fun hg => (r_loadBox rfl Tryd.isAgg4 (HS.look 2 rfl) rfl)) ?_
    refine run_g_same (b := (decide ((rd 0 x0 a0) > 0))) (c := true) (v := Value.bool (!x1)) rfl rfl rfl rfl (fun hg => (r_not ((show _ = gv (true && ((decide ((rd 0 x0 a0) > 0)) == false)) (Value.bool x1) from rfl).trans (gv_t hg)))) ?_
    refine run_frame (by simp only [List.set_cons_zero, List.set_cons_succ]; rfl) ?_
    refine run_same (v := Value.bool ((decide ((rd 0 x0 a0) > 0)) || (!x1))) rfl rfl (r_pick_or rfl rfl (fun hp => ((show _ = gv (true && ((decide ((rd 0 x0 a0) > 0)) == false)) (Value.bool (!x1)) from rfl).trans (gv_t (and_i rfl hp))))) ?_
    try simp only [List.set_cons_zero, List.set_cons_succ]
    refine run_nil ?_
    refine norm_then ?_
    refine wp_cond_split (t := ((decide ((rd 0 x0 a0) > 0)) || (!x1))) rfl (fun c1 => ?_) (fun c1 => ?_)
    · replace H := of_pos H c1
      refine wp_seq ?_
      refine region ?_
      refine run_same (v := Value.slice (rowA obx0) x0.length cx0) rfl rfl (r_loadBox rfl Tryd.isAgg62 (HS.look 0 rfl) rfl) ?_
      refine run_same (v := Value.int .i64 a0) rfl rfl (r_move rfl) ?_
      obtain ⟨hi2, H⟩ := of_ite H
      obtain ⟨rb2, _, hrb2, rfl, hp2⟩ := hox0.at 0 hi2.1 hi2.2
      refine run_same (v := Value.pointer (some ⟨rb2, a0.toNat * 1 + 0, none⟩)) rfl rfl (r_indexRow (sz := 1) rfl hrb2 rfl hi2.1 hi2.2 Tryd.runUnderlying62 Tryd.sizeOf3) ?_
      refine run_same (v := Value.int .i64 (rd 0 x0 a0)) rfl rfl (r_loadBox (cs := csx0) rfl Tryd.isAgg3 (HS.lookr 1 rfl hrb2) (hp2 0 _ rfl)) ?_
      refine run_frame (by simp only [List.set_cons_zero, List.set_cons_succ]; rfl) ?_
      refine run_same (v := Value.int .i64 (rd 0 x0 a0)) rfl rfl (r_assign rfl) ?_
      try simp only [List.set_cons_zero, List.set_cons_succ]
      refine run_nil ?_
      refine norm_then ?_
      refine wp_ret ?_
      refine ret_then ?_
      obtain rfl := Option.some.inj H
      refine bodyPost_ret (results_1 rfl (one_tmp rfl)) rfl ?_
      exact ⟨h, obx0, cx0, csx0, obx2, cx2, csx2, rfl, hox0, hox2, hsub, HS⟩
    · replace H := of_neg H (nt c1)
      refine wp_skip ?_
      refine norm_then ?_
      refine wp_seq ?_
      refine wp_seq ?_
      refine region ?_
      refine run_same (v := Value.slice (rowA obx2) x2.length cx2) rfl rfl (r_loadBox rfl Tryd.isAgg112 (HS.look 3 rfl) rfl) ?_
      refine run_same (v := Value.int .i64 a0) rfl rfl (r_move rfl) ?_
      obtain ⟨hi3, H⟩ := of_ite H
      obtain ⟨rb3, _, hrb3, rfl, hp3⟩ := hox2.at false hi3.1 hi3.2
      refine run_same (v := Value.pointer (some ⟨rb3, a0.toNat * 1 + 0, none⟩)) rfl rfl (r_indexRow (sz := 1) rfl hrb3 rfl hi3.1 hi3.2 Tryd.runUnderlying112 Tryd.sizeOf4) ?_
      refine run_same (v := Value.bool (rd false x2 a0)) rfl rfl (r_loadBox (cs := csx2) rfl Tryd.isAgg4 (HS.lookr 4 rfl hrb3) (hp3 0 _ rfl)) ?_
      try simp only [List.set_cons_zero, List.set_cons_succ]
      refine run_nil ?_
      refine norm_then ?_
      refine wp_cond_split (t := (rd false x2 a0)) rfl (fun c2 => ?_) (fun c2 => ?_)
      · replace H := of_pos H c2
        refine wp_seq ?_
        refine region ?_
        refine run_st (i := 2) (cs := [Value.bool x1]) (cs' := [Value.bool false]) (vs := [Value.bool false]) (bs' := ((some bx0, .cells #[Value.slice (rowA obx0) x0.length cx0] 62 (0, 0)) :: (obx0, .cells (csx0).toArray 3 (0, 0)) :: (some bx1, .cells #[Value.bool false] 4 (0, 0)) :: (some bx2, .cells #[Value.slice (rowA obx2) x2.length cx2] 112 (0, 0)) :: (obx2, .cells (csx2).toArray 4 (0, 0)) :: (some bx3, .cells #[Value.slice Ax3 x3.length cx3] 24 (0, 0)) :: (some bx4, .cells #[Value.func (.func 87) #[] #[Value.pointer (some ⟨bx0, 0, none⟩), Value.pointer (some ⟨bx1, 0, none⟩), Value.pointer (some ⟨bx2, 0, none⟩), Value.pointer (some ⟨bx3, 0, none⟩), Value.pointer (some ⟨bx4, 0, none⟩)]] 147 (0, 0)) :: rest)) rfl rfl Tryd.sizeOf4 rfl rfl (by decide) rfl HS rfl (Nat.le_of_ble_eq_true rfl) rfl rfl ?_
        intro w1 HS1
        try simp only [List.set_cons_zero, List.set_cons_succ]
        refine run_nil ?_
        refine norm_then ?_
        refine wp_seq ?_
        refine region ?_
        refine run_same (v := Value.int .i64 0) rfl rfl (r_assign rfl) ?_
        try simp only [List.set_cons_zero, List.set_cons_succ]
        refine run_nil ?_
        refine norm_then ?_
        refine wp_ret ?_
        refine ret_then ?_
        obtain rfl := Option.some.inj H
        refine bodyPost_ret (results_1 rfl (one_tmp rfl)) rfl ?_
        exact ⟨h, obx0, cx0, csx0, obx2, cx2, csx2, rfl, hox0, hox2, hsub, HS1⟩
      · replace H := of_neg H (nt c2)
        refine wp_skip ?_
        refine norm_then ?_
        refine wp_seq ?_
        refine region ?_
        refine run_same (v := Value.slice (rowA obx2) x2.length cx2) rfl rfl (r_loadBox rfl Tryd.isAgg112 (HS.look 3 rfl) rfl) ?_
        refine run_same (v := Value.int .i64 a0) rfl rfl (r_move rfl) ?_
        obtain ⟨hi4, H⟩ := of_ite H
        obtain ⟨rb4, _, hrb4, rfl, hp4⟩ := hox2.at false hi4.1 hi4.2
        refine run_same (v := Value.pointer (some ⟨rb4, a0.toNat * 1 + 0, none⟩)) rfl rfl (r_indexRow (sz := 1) rfl hrb4 rfl hi4.1 hi4.2 Tryd.runUnderlying112 Tryd.sizeOf4) ?_
        refine run_str (i := 4) (cs := csx2) (v := Value.bool true) hrb4 rfl rfl Tryd.sizeOf4 rfl rfl HS rfl (hox2.inb hi4.1 hi4.2 (m := 1) (by decide)) ?_
        intro w2 HS2
        have ho1 := hox2.set (o := 0) (v := Value.bool true) (x' := true) hi4.1 hi4.2 hp4 rfl (Nat.le_of_ble_eq_true rfl)
        try simp only [List.set_cons_zero, List.set_cons_succ]
        refine run_nil ?_
        refine norm_then ?_
        refine wp_seq ?_
        refine region ?_
        refine run_same (v := Value.pointer (some ⟨bx3, 0, none⟩)) rfl rfl (r_fieldBox (n := 1) (o' := 0) rfl Tryd.runUnderlying24 rfl Tryd.sizeOf22 (by decide) rfl) ?_
        refine run_same (v := Value.slice Ax3 x3.length cx3) rfl rfl (r_loadBox rfl Tryd.isAgg22 (HS2.look 5 rfl) rfl) ?_
        refine run_same (v := Value.int .i64 a0) rfl rfl (r_move rfl) ?_
        obtain ⟨hi5, H⟩ := of_ite H
        obtain ⟨ad1, Aad1_6, cad1_6, e1, hel1, hcad1_6, hrad1_6⟩ := ld_api_Def hrx3 hi5.1 hi5.2
        refine run_same (v := Value.pointer (some (Addr.add ad1 (a0.toNat * 7)))) rfl rfl (r_indexA (sz := 7) rfl e1 rfl hi5.1 hi5.2 Tryd.runUnderlying22 Tryd.sizeOf34) ?_
        refine run_frame (by simp only [List.set_cons_zero, List.set_cons_succ]; rfl) ?_
        refine run_same (v := Value.agg #[Value.int .i64 ((rd z_api_Def x3 a0).vKind), Value.string ((rd z_api_Def x3 a0).vName), Value.int .i64 ((rd z_api_Def x3 a0).vInt.vSize), Value.bool ((rd z_api_Def x3 a0).vInt.vSigned), Value.int .i64 ((rd z_api_Def x3 a0).vRef), Value.int .i64 ((rd z_api_Def x3 a0).vN), Value.slice Aad1_6 ((rd z_api_Def x3 a0).vFields).length cad1_6]) rfl rfl (r_loadAgg rfl Tryd.isAgg34 (hel1.sees HS2.sees) Tryd.sizeOf34) ?_
        refine run_ex rfl rfl (does_alloc (cs := #[Value.int .i64 0, Value.string ByteArray.empty, Value.int .i64 0, Value.bool false, Value.int .i64 0, Value.int .i64 0, Value.slice none 0 0]) Tryd.zeroValue34 rfl) ?_
        rintro w3 _ hE1 ⟨b1, rfl, ge1, hb1⟩
        have HS3 := HS2.new hE1 ge1 hb1
        refine run_st (i := 0) (cs := [Value.int .i64 0, Value.string ByteArray.empty, Value.int .i64 0, Value.bool false, Value.int .i64 0, Value.int .i64 0, Value.slice none 0 0]) (cs' := [Value.int .i64 ((rd z_api_Def x3 a0).vKind), Value.string ((rd z_api_Def x3 a0).vName), Value.int .i64 ((rd z_api_Def x3 a0).vInt.vSize), Value.bool ((rd z_api_Def x3 a0).vInt.vSigned), Value.int .i64 ((rd z_api_Def x3 a0).vRef), Value.int .i64 ((rd z_api_Def x3 a0).vN), Value.slice Aad1_6 ((rd z_api_Def x3 a0).vFields).length cad1_6]) (vs := [Value.int .i64 ((rd z_api_Def x3 a0).vKind), Value.string ((rd z_api_Def x3 a0).vName), Value.int .i64 ((rd z_api_Def x3 a0).vInt.vSize), Value.bool ((rd z_api_Def x3 a0).vInt.vSigned), Value.int .i64 ((rd z_api_Def x3 a0).vRef), Value.int .i64 ((rd z_api_Def x3 a0).vN), Value.slice Aad1_6 ((rd z_api_Def x3 a0).vFields).length cad1_6]) (bs' := ((some b1, .cells #[Value.int .i64 ((rd z_api_Def x3 a0).vKind), Value.string ((rd z_api_Def x3 a0).vName), Value.int .i64 ((rd z_api_Def x3 a0).vInt.vSize), Value.bool ((rd z_api_Def x3 a0).vInt.vSigned), Value.int .i64 ((rd z_api_Def x3 a0).vRef), Value.int .i64 ((rd z_api_Def x3 a0).vN), Value.slice Aad1_6 ((rd z_api_Def x3 a0).vFields).length cad1_6] 34 (0, 0)) :: (some bx0, .cells #[Value.slice (rowA obx0) x0.length cx0] 62 (0, 0)) :: (obx0, .cells (csx0).toArray 3 (0, 0)) :: (some bx1, .cells #[Value.bool x1] 4 (0, 0)) :: (some bx2, .cells #[Value.slice (rowA obx2) x2.length cx2] 112 (0, 0)) :: (obx2, .cells ((List.set csx2 (a0.toNat * 1 + 0) (Value.bool true))).toArray 4 (0, 0)) :: (some bx3, .cells #[Value.slice Ax3 x3.length cx3] 24 (0, 0)) :: (some bx4, .cells #[Value.func (.func 87) #[] #[Value.pointer (some ⟨bx0, 0, none⟩), Value.pointer (some ⟨bx1, 0, none⟩), Value.pointer (some ⟨bx2, 0, none⟩), Value.pointer (some ⟨bx3, 0, none⟩), Value.pointer (some ⟨bx4, 0, none⟩)]] 147 (0, 0)) :: rest)) rfl rfl Tryd.sizeOf34 rfl rfl (by decide) rfl HS3 rfl (Nat.le_of_ble_eq_true rfl) rfl rfl ?_
        intro w4 HS4
        try simp only [List.set_cons_zero, List.set_cons_succ]
        refine run_nil ?_
        refine norm_then ?_
        refine wp_seq ?_
        refine region ?_
        refine run_same (v := Value.int .i64 0) rfl rfl (r_assign rfl) ?_
        try simp only [List.set_cons_zero, List.set_cons_succ]
        refine run_nil ?_
        refine norm_then ?_
        refine wp_seq ?_
        refine wp_seq ?_
        refine region ?_
        refine run_same (v := Value.agg #[Value.int .i64 ((rd z_api_Def x3 a0).vKind), Value.string ((rd z_api_Def x3 a0).vName), Value.int .i64 ((rd z_api_Def x3 a0).vInt.vSize), Value.bool ((rd z_api_Def x3 a0).vInt.vSigned), Value.int .i64 ((rd z_api_Def x3 a0).vRef), Value.int .i64 ((rd z_api_Def x3 a0).vN), Value.slice Aad1_6 ((rd z_api_Def x3 a0).vFields).length cad1_6]) rfl rfl (r_loadBoxAgg (n := 7) (vs := [Value.int .i64 ((rd z_api_Def x3 a0).vKind), Value.string ((rd z_api_Def x3 a0).vName), Value.int .i64 ((rd z_api_Def x3 a0).vInt.vSize), Value.bool ((rd z_api_Def x3 a0).vInt.vSigned), Value.int .i64 ((rd z_api_Def x3 a0).vRef), Value.int .i64 ((rd z_api_Def x3 a0).vN), Value.slice Aad1_6 ((rd z_api_Def x3 a0).vFields).length cad1_6]) rfl Tryd.isAgg34 (HS4.look 0 rfl) Tryd.sizeOf34 rfl rfl) ?_
        obtain ⟨v1, H1, H⟩ := of_bind H
        refine run_ex rfl rfl (does_call Tryd.call88 rfl (gives_in (h := h) (R := (fun hx u => ∃ (Av1_0_0 : Option Addr) (cv1_0_0 : Nat), u = Value.slice Av1_0_0 v1.length cv1_0_0 ∧ v1.length ≤ cv1_0_0 ∧ Rd (Kd.int .i64) hx Av1_0_0 v1)) (Ext.rfl' w4) ((ctf_contained.calls k (rd z_api_Def x3 a0) Aad1_6 cad1_6 HS4.sees hrad1_6 hcad1_6 H1).mono ?_)) rfl) ?_
        · rintro _ _ ⟨h1, Av1_0_0, cv1_0_0, rfl, hcv1_0_0, hrv1_0_0, g, ss, x⟩
          exact ⟨h1, _, rfl, ⟨Av1_0_0, cv1_0_0, rfl, hcv1_0_0, hrv1_0_0⟩, g, ss, x⟩
        rintro w5 _ hE2 ⟨h1, ⟨Av1_0_0, cv1_0_0, rfl, hcv1_0_0, hrv1_0_0⟩, gr1, se1⟩
        have HS5 := HS4.view hE2 gr1 se1
        replace hrx3 : Rd k_api_Def h1 Ax3 x3 := hrx3.ext gr1.1
        replace hsub : Sub h h1 := hsub.then gr1.1
        replace hel1 : VCells h1 (Addr.add ad1 (a0.toNat * 7)) [Value.int .i64 ((rd z_api_Def x3 a0).vKind), Value.string ((rd z_api_Def x3 a0).vName), Value.int .i64 ((rd z_api_Def x3 a0).vInt.vSize), Value.bool ((rd z_api_Def x3 a0).vInt.vSigned), Value.int .i64 ((rd z_api_Def x3 a0).vRef), Value.int .i64 ((rd z_api_Def x3 a0).vN), Value.slice Aad1_6 ((rd z_api_Def x3 a0).vFields).length cad1_6] := hel1.sub gr1.1
        replace hrad1_6 : Rd k_api_Field h1 Aad1_6 ((rd z_api_Def x3 a0).vFields) := hrad1_6.ext gr1.1
        replace hox0 := hox0.view gr1.1
        replace ho1 := ho1.view gr1.1
        refine run_same (v := Value.int .i64 (v1.length : Int)) rfl rfl (r_len rfl Tryd.runUnderlying62) ?_
        refine run_same (v := Value.int .i64 0) rfl rfl (r_move rfl) ?_
        try simp only [List.set_cons_zero, List.set_cons_succ]
        refine run_nil ?_
        refine norm_then ?_
        obtain ⟨xx1, H, G1⟩ := of_bind H
        have HS24 : St [] h0 w0 h1 ((some b1, .cells #[Value.int .i64 ((rd z_api_Def x3 a0).vKind), Value.string ((rd z_api_Def x3 a0).vName), Value.int .i64 ((rd z_api_Def x3 a0).vInt.vSize), Value.bool ((rd z_api_Def x3 a0).vInt.vSigned), Value.int .i64 ((rd z_api_Def x3 a0).vRef), Value.int .i64 ((rd z_api_Def x3 a0).vN), Value.slice Aad1_6 ((rd z_api_Def x3 a0).vFields).length cad1_6] 34 (0, 0)) :: (some bx0, .cells #[Value.slice (rowA obx0) x0.length cx0] 62 (0, 0)) :: (obx0, .cells (csx0).toArray 3 (0, 0)) :: (some bx1, .cells #[Value.bool x1] 4 (0, 0)) :: (some bx2, .cells #[Value.slice (rowA obx2) ((List.set x2 a0.toNat true).length) cx2] 112 (0, 0)) :: (obx2, .cells ((List.set csx2 (a0.toNat * 1 + 0) (Value.bool true))).toArray 4 (0, 0)) :: (some bx3, .cells #[Value.slice Ax3 x3.length cx3] 24 (0, 0)) :: (some bx4, .cells #[Value.func (.func 87) #[] #[Value.pointer (some ⟨bx0, 0, none⟩), Value.pointer (some ⟨bx1, 0, none⟩), Value.pointer (some ⟨bx2, 0, none⟩), Value.pointer (some ⟨bx3, 0, none⟩), Value.pointer (some ⟨bx4, 0, none⟩)]] 147 (0, 0)) :: rest) w5 := HS5.cast (by first | rfl | (rw [ho1.len]; done) | (rw [ho1.len]; rfl))
        have ho2 := ho1.norm
        refine loop_patch [9, 11, 41, 42, 43, 44, 45, 46, 47, 48] (fun m us w' => ∃ (y1_0 : Int), ∃ (y1_1 : Int), ∃ (y1_2 : Bool), ∃ (y1_3 : List Int), ∃ (y1_4 : List Bool), ∃ (h2 : View), ∃ (oby1_3 : Option Nat) (cy1_3 : Nat), ∃ (csy1_3 : List Value), ∃ (oby1_4 : Option Nat) (cy1_4 : Nat), ∃ (csy1_4 : List Value), ∃ (uy1_11 : Value), ∃ (uy1_42 : Value), ∃ (uy1_43 : Value), ∃ (uy1_44 : Value), ∃ (uy1_45 : Value), ∃ (uy1_46 : Value), ∃ (uy1_47 : Value), ∃ (uy1_48 : Value), us = [Value.int .i64 y1_0, uy1_11, Value.int .i64 y1_1, uy1_42, uy1_43, uy1_44, uy1_45, uy1_46, uy1_47, uy1_48] ∧ ctf_sizes_1.l0 (ctf_sizes_1.f k) x3 v1 m y1_0 y1_1 y1_2 y1_3 y1_4 = some xx1 ∧ RowOk (Kd.int .i64) h2 y1_3 oby1_3 y1_3.length cy1_3 csy1_3 ∧ RowOk Kd.bool h2 y1_4 oby1_4 y1_4.length cy1_4 csy1_4 ∧ Rd k_api_Def h2 Ax3 x3 ∧ Sub h h2 ∧ VCells h2 (Addr.add ad1 (a0.toNat * 7)) [Value.int .i64 ((rd z_api_Def x3 a0).vKind), Value.string ((rd z_api_Def x3 a0).vName), Value.int .i64 ((rd z_api_Def x3 a0).vInt.vSize), Value.bool ((rd z_api_Def x3 a0).vInt.vSigned), Value.int .i64 ((rd z_api_Def x3 a0).vRef), Value.int .i64 ((rd z_api_Def x3 a0).vN), Value.slice Aad1_6 ((rd z_api_Def x3 a0).vFields).length cad1_6] ∧ Rd k_api_Field h2 Aad1_6 ((rd z_api_Def x3 a0).vFields) ∧ Rd (Kd.int .i64) h2 Av1_0_0 v1 ∧ St [] h0 w0 h2 ((some b1, .cells #[Value.int .i64 ((rd z_api_Def x3 a0).vKind), Value.string ((rd z_api_Def x3 a0).vName), Value.int .i64 ((rd z_api_Def x3 a0).vInt.vSize), Value.bool ((rd z_api_Def x3 a0).vInt.vSigned), Value.int .i64 ((rd z_api_Def x3 a0).vRef), Value.int .i64 ((rd z_api_Def x3 a0).vN), Value.slice Aad1_6 ((rd z_api_Def x3 a0).vFields).length cad1_6] 34 (0, 0)) :: (some bx0, .cells #[Value.slice (rowA oby1_3) y1_3.length cy1_3] 62 (0, 0)) :: (oby1_3, .cells (csy1_3).toArray 3 (0, 0)) :: (some bx1, .cells #[Value.bool y1_2] 4 (0, 0)) :: (some bx2, .cells #[Value.slice (rowA oby1_4) y1_4.length cy1_4] 112 (0, 0)) :: (oby1_4, .cells (csy1_4).toArray 4 (0, 0)) :: (some bx3, .cells #[Value.slice Ax3 x3.length cx3] 24 (0, 0)) :: (some bx4, .cells #[Value.func (.func 87) #[] #[Value.pointer (some ⟨bx0, 0, none⟩), Value.pointer (some ⟨bx1, 0, none⟩), Value.pointer (some ⟨bx2, 0, none⟩), Value.pointer (some ⟨bx3, 0, none⟩), Value.pointer (some ⟨bx4, 0, none⟩)]] 147 (0, 0)) :: rest) w') (fun us w' => ∃ (h4 : View), ∃ (obo1_2 : Option Nat) (co1_2 : Nat), ∃ (cso1_2 : List Value), ∃ (obo1_3 : Option Nat) (co1_3 : Nat), ∃ (cso1_3 : List Value), ∃ (uo1_11 : Value), ∃ (uo1_41 : Value), ∃ (uo1_42 : Value), ∃ (uo1_43 : Value), ∃ (uo1_44 : Value), ∃ (uo1_45 : Value), ∃ (uo1_46 : Value), ∃ (uo1_47 : Value), ∃ (uo1_48 : Value), us = [Value.int .i64 xx1.1, uo1_11, uo1_41, uo1_42, uo1_43, uo1_44, uo1_45, uo1_46, uo1_47, uo1_48] ∧ RowOk (Kd.int .i64) h4 xx1.2.2.1 obo1_2 xx1.2.2.1.length co1_2 cso1_2 ∧ RowOk Kd.bool h4 xx1.2.2.2 obo1_3 xx1.2.2.2.length co1_3 cso1_3 ∧ Rd k_api_Def h4 Ax3 x3 ∧ Sub h h4 ∧ VCells h4 (Addr.add ad1 (a0.toNat * 7)) [Value.int .i64 ((rd z_api_Def x3 a0).vKind), Value.string ((rd z_api_Def x3 a0).vName), Value.int .i64 ((rd z_api_Def x3 a0).vInt.vSize), Value.bool ((rd z_api_Def x3 a0).vInt.vSigned), Value.int .i64 ((rd z_api_Def x3 a0).vRef), Value.int .i64 ((rd z_api_Def x3 a0).vN), Value.slice Aad1_6 ((rd z_api_Def x3 a0).vFields).length cad1_6] ∧ Rd k_api_Field h4 Aad1_6 ((rd z_api_Def x3 a0).vFields) ∧ Rd (Kd.int .i64) h4 Av1_0_0 v1 ∧ St [] h0 w0 h4 ((some b1, .cells #[Value.int .i64 ((rd z_api_Def x3 a0).vKind), Value.string ((rd z_api_Def x3 a0).vName), Value.int .i64 ((rd z_api_Def x3 a0).vInt.vSize), Value.bool ((rd z_api_Def x3 a0).vInt.vSigned), Value.int .i64 ((rd z_api_Def x3 a0).vRef), Value.int .i64 ((rd z_api_Def x3 a0).vN), Value.slice Aad1_6 ((rd z_api_Def x3 a0).vFields).length cad1_6] 34 (0, 0)) :: (some bx0, .cells #[Value.slice (rowA obo1_2) xx1.2.2.1.length co1_2] 62 (0, 0)) :: (obo1_2, .cells (cso1_2).toArray 3 (0, 0)) :: (some bx1, .cells #[Value.bool xx1.2.1] 4 (0, 0)) :: (some bx2, .cells #[Value.slice (rowA obo1_3) xx1.2.2.2.length co1_3] 112 (0, 0)) :: (obo1_3, .cells (cso1_3).toArray 4 (0, 0)) :: (some bx3, .cells #[Value.slice Ax3 x3.length cx3] 24 (0, 0)) :: (some bx4, .cells #[Value.func (.func 87) #[] #[Value.pointer (some ⟨bx0, 0, none⟩), Value.pointer (some ⟨bx1, 0, none⟩), Value.pointer (some ⟨bx2, 0, none⟩), Value.pointer (some ⟨bx3, 0, none⟩), Value.pointer (some ⟨bx4, 0, none⟩)]] 147 (0, 0)) :: rest) w') k [Value.int .i64 0, undef, Value.int .i64 0, undef, undef, undef, undef, undef, undef, undef] (by simp only [patch, List.set_cons_zero, List.set_cons_succ]) ⟨0, 0, x1, x0, (List.set x2 a0.toNat true), h1, obx0, cx0, csx0, obx2, cx2, (List.set csx2 (a0.toNat * 1 + 0) (Value.bool true)), _, _, _, _, _, _, _, _, (by first | rfl | (rw [ho1.len]; done) | (rw [ho1.len]; rfl)), H, hox0.norm, ho2.norm, hrx3, hsub, hel1, hrad1_6, hrv1_0_0, HS24⟩ ?_ ?_
        · rintro m us w6 ⟨y1_0, y1_1, y1_2, y1_3, y1_4, h2, oby1_3, cy1_3, csy1_3, oby1_4, cy1_4, csy1_4, uy1_11, uy1_42, uy1_43, uy1_44, uy1_45, uy1_46, uy1_47, uy1_48, rfl, H, hoy1_3, hoy1_4, hrx3, hsub, hel1, hrad1_6, hrv1_0_0, HS6⟩
          cases m with
          | zero => exact absurd H (by simp [ctf_sizes_1.l0])
          | succ m =>
            rw [ctf_sizes_1.l0] at H
            try simp only [patch, List.set_cons_zero, List.set_cons_succ]
            refine wp_seq ?_
            refine region ?_
            refine run_same (v := Value.bool (decide (y1_1 < (v1.length : Int)))) rfl rfl (r_bin rfl rfl rfl) ?_
            try simp only [List.set_cons_zero, List.set_cons_succ]
            refine run_nil ?_
            refine norm_then ?_
            refine wp_seq ?_
            refine wp_cond_split (t := (decide (y1_1 < (v1.length : Int)))) rfl (fun c3 => ?_) (fun c3 => ?_)
            · replace H := of_pos H c3
              refine wp_skip ?_
              refine norm_then ?_
              refine wp_seq ?_
              refine wp_block ?_
              refine wp_seq ?_
              refine region ?_
              obtain ⟨hi6, H⟩ := of_ite H
              obtain ⟨ad2, e2, hel2⟩ := ld_int hrv1_0_0 hi6.1 hi6.2
              refine run_same (v := Value.pointer (some (Addr.add ad2 (y1_1.toNat * 1)))) rfl rfl (r_indexA (sz := 1) rfl e2 rfl hi6.1 hi6.2 Tryd.runUnderlying62 Tryd.sizeOf3) ?_
              refine run_same (v := Value.int .i64 (rd 0 v1 y1_1)) rfl rfl (r_load rfl Tryd.isAgg3 (hel2.cell0 HS6.sees rfl)) ?_
              refine run_same (v := Value.int .i64 (rd 0 v1 y1_1)) rfl rfl (r_assign rfl) ?_
              try simp only [List.set_cons_zero, List.set_cons_succ]
              refine run_nil ?_
              refine norm_then ?_
              refine region ?_
              refine run_same (v := Value.func (.func 87) #[] #[Value.pointer (some ⟨bx0, 0, none⟩), Value.pointer (some ⟨bx1, 0, none⟩), Value.pointer (some ⟨bx2, 0, none⟩), Value.pointer (some ⟨bx3, 0, none⟩), Value.pointer (some ⟨bx4, 0, none⟩)]) rfl rfl (r_loadBox rfl Tryd.isAgg147 (HS6.look 7 rfl) rfl) ?_
              refine run_same (v := Value.int .i64 (rd 0 v1 y1_1)) rfl rfl (r_move rfl) ?_
              obtain ⟨v2, H2, H⟩ := of_bind H
              have HS7 : St [] h0 w0 h2 ((some bx4, .cells #[Value.func (.func 87) #[] #[Value.pointer (some ⟨bx0, 0, none⟩), Value.pointer (some ⟨bx1, 0, none⟩), Value.pointer (some ⟨bx2, 0, none⟩), Value.pointer (some ⟨bx3, 0, none⟩), Value.pointer (some ⟨bx4, 0, none⟩)]] 147 (0, 0)) :: (some b1, .cells #[Value.int .i64 ((rd z_api_Def x3 a0).vKind), Value.string ((rd z_api_Def x3 a0).vName), Value.int .i64 ((rd z_api_Def x3 a0).vInt.vSize), Value.bool ((rd z_api_Def x3 a0).vInt.vSigned), Value.int .i64 ((rd z_api_Def x3 a0).vRef), Value.int .i64 ((rd z_api_Def x3 a0).vN), Value.slice Aad1_6 ((rd z_api_Def x3 a0).vFields).length cad1_6] 34 (0, 0)) :: (some bx0, .cells #[Value.slice (rowA oby1_3) y1_3.length cy1_3] 62 (0, 0)) :: (oby1_3, .cells (csy1_3).toArray 3 (0, 0)) :: (some bx1, .cells #[Value.bool y1_2] 4 (0, 0)) :: (some bx2, .cells #[Value.slice (rowA oby1_4) y1_4.length cy1_4] 112 (0, 0)) :: (oby1_4, .cells (csy1_4).toArray 4 (0, 0)) :: (some bx3, .cells #[Value.slice Ax3 x3.length cx3] 24 (0, 0)) :: rest) w6 := HS6.front (i := 7) rfl
              have HS8 : St [] h0 w0 h2 ((some bx3, .cells #[Value.slice Ax3 x3.length cx3] 24 (0, 0)) :: (some bx4, .cells #[Value.func (.func 87) #[] #[Value.pointer (some ⟨bx0, 0, none⟩), Value.pointer (some ⟨bx1, 0, none⟩), Value.pointer (some ⟨bx2, 0, none⟩), Value.pointer (some ⟨bx3, 0, none⟩), Value.pointer (some ⟨bx4, 0, none⟩)]] 147 (0, 0)) :: (some b1, .cells #[Value.int .i64 ((rd z_api_Def x3 a0).vKind), Value.string ((rd z_api_Def x3 a0).vName), Value.int .i64 ((rd z_api_Def x3 a0).vInt.vSize), Value.bool ((rd z_api_Def x3 a0).vInt.vSigned), Value.int .i64 ((rd z_api_Def x3 a0).vRef), Value.int .i64 ((rd z_api_Def x3 a0).vN), Value.slice Aad1_6 ((rd z_api_Def x3 a0).vFields).length cad1_6] 34 (0, 0)) :: (some bx0, .cells #[Value.slice (rowA oby1_3) y1_3.length cy1_3] 62 (0, 0)) :: (oby1_3, .cells (csy1_3).toArray 3 (0, 0)) :: (some bx1, .cells #[Value.bool y1_2] 4 (0, 0)) :: (some bx2, .cells #[Value.slice (rowA oby1_4) y1_4.length cy1_4] 112 (0, 0)) :: (oby1_4, .cells (csy1_4).toArray 4 (0, 0)) :: rest) w6 := HS7.front (i := 7) rfl
              have HS9 : St [] h0 w0 h2 ((oby1_4, .cells (csy1_4).toArray 4 (0, 0)) :: (some bx3, .cells #[Value.slice Ax3 x3.length cx3] 24 (0, 0)) :: (some bx4, .cells #[Value.func (.func 87) #[] #[Value.pointer (some ⟨bx0, 0, none⟩), Value.pointer (some ⟨bx1, 0, none⟩), Value.pointer (some ⟨bx2, 0, none⟩), Value.pointer (some ⟨bx3, 0, none⟩), Value.pointer (some ⟨bx4, 0, none⟩)]] 147 (0, 0)) :: (some b1, .cells #[Value.int .i64 ((rd z_api_Def x3 a0).vKind), Value.string ((rd z_api_Def x3 a0).vName), Value.int .i64 ((rd z_api_Def x3 a0).vInt.vSize), Value.bool ((rd z_api_Def x3 a0).vInt.vSigned), Value.int .i64 ((rd z_api_Def x3 a0).vRef), Value.int .i64 ((rd z_api_Def x3 a0).vN), Value.slice Aad1_6 ((rd z_api_Def x3 a0).vFields).length cad1_6] 34 (0, 0)) :: (some bx0, .cells #[Value.slice (rowA oby1_3) y1_3.length cy1_3] 62 (0, 0)) :: (oby1_3, .cells (csy1_3).toArray 3 (0, 0)) :: (some bx1, .cells #[Value.bool y1_2] 4 (0, 0)) :: (some bx2, .cells #[Value.slice (rowA oby1_4) y1_4.length cy1_4] 112 (0, 0)) :: rest) w6 := HS8.front (i := 7) rfl
              have HS10 : St [] h0 w0 h2 ((some bx2, .cells #[Value.slice (rowA oby1_4) y1_4.length cy1_4] 112 (0, 0)) :: (oby1_4, .cells (csy1_4).toArray 4 (0, 0)) :: (some bx3, .cells #[Value.slice Ax3 x3.length cx3] 24 (0, 0)) :: (some bx4, .cells #[Value.func (.func 87) #[] #[Value.pointer (some ⟨bx0, 0, none⟩), Value.pointer (some ⟨bx1, 0, none⟩), Value.pointer (some ⟨bx2, 0, none⟩), Value.pointer (some ⟨bx3, 0, none⟩), Value.pointer (some ⟨bx4, 0, none⟩)]] 147 (0, 0)) :: (some b1, .cells #[Value.int .i64 ((rd z_api_Def x3 a0).vKind), Value.string ((rd z_api_Def x3 a0).vName), Value.int .i64 ((rd z_api_Def x3 a0).vInt.vSize), Value.bool ((rd z_api_Def x3 a0).vInt.vSigned), Value.int .i64 ((rd z_api_Def x3 a0).vRef), Value.int .i64 ((rd z_api_Def x3 a0).vN), Value.slice Aad1_6 ((rd z_api_Def x3 a0).vFields).length cad1_6] 34 (0, 0)) :: (some bx0, .cells #[Value.slice (rowA oby1_3) y1_3.length cy1_3] 62 (0, 0)) :: (oby1_3, .cells (csy1_3).toArray 3 (0, 0)) :: (some bx1, .cells #[Value.bool y1_2] 4 (0, 0)) :: rest) w6 := HS9.front (i := 7) rfl
              have HS11 : St [] h0 w0 h2 ((some bx1, .cells #[Value.bool y1_2] 4 (0, 0)) :: (some bx2, .cells #[Value.slice (rowA oby1_4) y1_4.length cy1_4] 112 (0, 0)) :: (oby1_4, .cells (csy1_4).toArray 4 (0, 0)) :: (some bx3, .cells #[Value.slice Ax3 x3.length cx3] 24 (0, 0)) :: (some bx4, .cells #[Value.func (.func 87) #[] #[Value.pointer (some ⟨bx0, 0, none⟩), Value.pointer (some ⟨bx1, 0, none⟩), Value.pointer (some ⟨bx2, 0, none⟩), Value.pointer (some ⟨bx3, 0, none⟩), Value.pointer (some ⟨bx4, 0, none⟩)]] 147 (0, 0)) :: (some b1, .cells #[Value.int .i64 ((rd z_api_Def x3 a0).vKind), Value.string ((rd z_api_Def x3 a0).vName), Value.int .i64 ((rd z_api_Def x3 a0).vInt.vSize), Value.bool ((rd z_api_Def x3 a0).vInt.vSigned), Value.int .i64 ((rd z_api_Def x3 a0).vRef), Value.int .i64 ((rd z_api_Def x3 a0).vN), Value.slice Aad1_6 ((rd z_api_Def x3 a0).vFields).length cad1_6] 34 (0, 0)) :: (some bx0, .cells #[Value.slice (rowA oby1_3) y1_3.length cy1_3] 62 (0, 0)) :: (oby1_3, .cells (csy1_3).toArray 3 (0, 0)) :: rest) w6 := HS10.front (i := 7) rfl
              have HS12 : St [] h0 w0 h2 ((oby1_3, .cells (csy1_3).toArray 3 (0, 0)) :: (some bx1, .cells #[Value.bool y1_2] 4 (0, 0)) :: (some bx2, .cells #[Value.slice (rowA oby1_4) y1_4.length cy1_4] 112 (0, 0)) :: (oby1_4, .cells (csy1_4).toArray 4 (0, 0)) :: (some bx3, .cells #[Value.slice Ax3 x3.length cx3] 24 (0, 0)) :: (some bx4, .cells #[Value.func (.func 87) #[] #[Value.pointer (some ⟨bx0, 0, none⟩), Value.pointer (some ⟨bx1, 0, none⟩), Value.pointer (some ⟨bx2, 0, none⟩), Value.pointer (some ⟨bx3, 0, none⟩), Value.pointer (some ⟨bx4, 0, none⟩)]] 147 (0, 0)) :: (some b1, .cells #[Value.int .i64 ((rd z_api_Def x3 a0).vKind), Value.string ((rd z_api_Def x3 a0).vName), Value.int .i64 ((rd z_api_Def x3 a0).vInt.vSize), Value.bool ((rd z_api_Def x3 a0).vInt.vSigned), Value.int .i64 ((rd z_api_Def x3 a0).vRef), Value.int .i64 ((rd z_api_Def x3 a0).vN), Value.slice Aad1_6 ((rd z_api_Def x3 a0).vFields).length cad1_6] 34 (0, 0)) :: (some bx0, .cells #[Value.slice (rowA oby1_3) y1_3.length cy1_3] 62 (0, 0)) :: rest) w6 := HS11.front (i := 7) rfl
              have HS13 : St [] h0 w0 h2 ((some bx0, .cells #[Value.slice (rowA oby1_3) y1_3.length cy1_3] 62 (0, 0)) :: (oby1_3, .cells (csy1_3).toArray 3 (0, 0)) :: (some bx1, .cells #[Value.bool y1_2] 4 (0, 0)) :: (some bx2, .cells #[Value.slice (rowA oby1_4) y1_4.length cy1_4] 112 (0, 0)) :: (oby1_4, .cells (csy1_4).toArray 4 (0, 0)) :: (some bx3, .cells #[Value.slice Ax3 x3.length cx3] 24 (0, 0)) :: (some bx4, .cells #[Value.func (.func 87) #[] #[Value.pointer (some ⟨bx0, 0, none⟩), Value.pointer (some ⟨bx1, 0, none⟩), Value.pointer (some ⟨bx2, 0, none⟩), Value.pointer (some ⟨bx3, 0, none⟩), Value.pointer (some ⟨bx4, 0, none⟩)]] 147 (0, 0)) :: (some b1, .cells #[Value.int .i64 ((rd z_api_Def x3 a0).vKind), Value.string ((rd z_api_Def x3 a0).vName), Value.int .i64 ((rd z_api_Def x3 a0).vInt.vSize), Value.bool ((rd z_api_Def x3 a0).vInt.vSigned), Value.int .i64 ((rd z_api_Def x3 a0).vRef), Value.int .i64 ((rd z_api_Def x3 a0).vN), Value.slice Aad1_6 ((rd z_api_Def x3 a0).vFields).length cad1_6] 34 (0, 0)) :: rest) w6 := HS12.front (i := 7) rfl
              refine run_call (vs := [Value.int .i64 (rd 0 v1 y1_1)]) (caps := [Value.pointer (some ⟨bx0, 0, none⟩), Value.pointer (some ⟨bx1, 0, none⟩), Value.pointer (some ⟨bx2, 0, none⟩), Value.pointer (some ⟨bx3, 0, none⟩), Value.pointer (some ⟨bx4, 0, none⟩)]) Tryd.call87 rfl rfl (ih (rd 0 v1 y1_1) y1_3 y1_2 y1_4 x3 bx0 oby1_3 cy1_3 csy1_3 bx1 bx2 oby1_4 cy1_4 csy1_4 bx3 Ax3 cx3 bx4 HS13 hoy1_3 hoy1_4 hrx3 hcx3 H2) ?_
              rintro _ w7 ⟨h3, obv2_x0, cv2_x0, csv2_x0, obv2_x2, cv2_x2, csv2_x2, rfl, hov2_x0, hov2_x2, hs1, HS14⟩
              refine ⟨_, rfl, ?_⟩
              replace hrx3 : Rd k_api_Def h3 Ax3 x3 := hrx3.ext hs1
              replace hsub : Sub h h3 := hsub.then hs1
              replace hel1 : VCells h3 (Addr.add ad1 (a0.toNat * 7)) [Value.int .i64 ((rd z_api_Def x3 a0).vKind), Value.string ((rd z_api_Def x3 a0).vName), Value.int .i64 ((rd z_api_Def x3 a0).vInt.vSize), Value.bool ((rd z_api_Def x3 a0).vInt.vSigned), Value.int .i64 ((rd z_api_Def x3 a0).vRef), Value.int .i64 ((rd z_api_Def x3 a0).vN), Value.slice Aad1_6 ((rd z_api_Def x3 a0).vFields).length cad1_6] := hel1.sub hs1
              replace hrad1_6 : Rd k_api_Field h3 Aad1_6 ((rd z_api_Def x3 a0).vFields) := hrad1_6.ext hs1
              replace hrv1_0_0 : Rd (Kd.int .i64) h3 Av1_0_0 v1 := hrv1_0_0.ext hs1
              replace hel2 : VCells h3 (Addr.add ad2 (y1_1.toNat * 1)) [Value.int .i64 (rd 0 v1 y1_1)] := hel2.sub hs1
              have HS15 : St [] h0 w0 h3 ((some bx4, .cells #[Value.func (.func 87) #[] #[Value.pointer (some ⟨bx0, 0, none⟩), Value.pointer (some ⟨bx1, 0, none⟩), Value.pointer (some ⟨bx2, 0, none⟩), Value.pointer (some ⟨bx3, 0, none⟩), Value.pointer (some ⟨bx4, 0, none⟩)]] 147 (0, 0)) :: (some bx0, .cells #[Value.slice (rowA obv2_x0) v2.2.1.length cv2_x0] 62 (0, 0)) :: (obv2_x0, .cells (csv2_x0).toArray 3 (0, 0)) :: (some bx1, .cells #[Value.bool v2.2.2.1] 4 (0, 0)) :: (some bx2, .cells #[Value.slice (rowA obv2_x2) v2.2.2.2.length cv2_x2] 112 (0, 0)) :: (obv2_x2, .cells (csv2_x2).toArray 4 (0, 0)) :: (some bx3, .cells #[Value.slice Ax3 x3.length cx3] 24 (0, 0)) :: (some b1, .cells #[Value.int .i64 ((rd z_api_Def x3 a0).vKind), Value.string ((rd z_api_Def x3 a0).vName), Value.int .i64 ((rd z_api_Def x3 a0).vInt.vSize), Value.bool ((rd z_api_Def x3 a0).vInt.vSigned), Value.int .i64 ((rd z_api_Def x3 a0).vRef), Value.int .i64 ((rd z_api_Def x3 a0).vN), Value.slice Aad1_6 ((rd z_api_Def x3 a0).vFields).length cad1_6] 34 (0, 0)) :: rest) w7 := HS14.front (i := 6) rfl
              have HS16 : St [] h0 w0 h3 ((some bx3, .cells #[Value.slice Ax3 x3.length cx3] 24 (0, 0)) :: (some bx4, .cells #[Value.func (.func 87) #[] #[Value.pointer (some ⟨bx0, 0, none⟩), Value.pointer (some ⟨bx1, 0, none⟩), Value.pointer (some ⟨bx2, 0, none⟩), Value.pointer (some ⟨bx3, 0, none⟩), Value.pointer (some ⟨bx4, 0, none⟩)]] 147 (0, 0)) :: (some bx0, .cells #[Value.slice (rowA obv2_x0) v2.2.1.length cv2_x0] 62 (0, 0)) :: (obv2_x0, .cells (csv2_x0).toArray 3 (0, 0)) :: (some bx1, .cells #[Value.bool v2.2.2.1] 4 (0, 0)) :: (some bx2, .cells #[Value.slice (rowA obv2_x2) v2.2.2.2.length cv2_x2] 112 (0, 0)) :: (obv2_x2, .cells (csv2_x2).toArray 4 (0, 0)) :: (some b1, .cells #[Value.int .i64 ((rd z_api_Def x3 a0).vKind), Value.string ((rd z_api_Def x3 a0).vName), Value.int .i64 ((rd z_api_Def x3 a0).vInt.vSize), Value.bool ((rd z_api_Def x3 a0).vInt.vSigned), Value.int .i64 ((rd z_api_Def x3 a0).vRef), Value.int .i64 ((rd z_api_Def x3 a0).vN), Value.slice Aad1_6 ((rd z_api_Def x3 a0).vFields).length cad1_6] 34 (0, 0)) :: rest) w7 := HS15.front (i := 6) rfl
              have HS17 : St [] h0 w0 h3 ((obv2_x2, .cells (csv2_x2).toArray 4 (0, 0)) :: (some bx3, .cells #[Value.slice Ax3 x3.length cx3] 24 (0, 0)) :: (some bx4, .cells #[Value.func (.func 87) #[] #[Value.pointer (some ⟨bx0, 0, none⟩), Value.pointer (some ⟨bx1, 0, none⟩), Value.pointer (some ⟨bx2, 0, none⟩), Value.pointer (some ⟨bx3, 0, none⟩), Value.pointer (some ⟨bx4, 0, none⟩)]] 147 (0, 0)) :: (some bx0, .cells #[Value.slice (rowA obv2_x0) v2.2.1.length cv2_x0] 62 (0, 0)) :: (obv2_x0, .cells (csv2_x0).toArray 3 (0, 0)) :: (some bx1, .cells #[Value.bool v2.2.2.1] 4 (0, 0)) :: (some bx2, .cells #[Value.slice (rowA obv2_x2) v2.2.2.2.length cv2_x2] 112 (0, 0)) :: (some b1, .cells #[Value.int .i64 ((rd z_api_Def x3 a0).vKind), Value.string ((rd z_api_Def x3 a0).vName), Value.int .i64 ((rd z_api_Def x3 a0).vInt.vSize), Value.bool ((rd z_api_Def x3 a0).vInt.vSigned), Value.int .i64 ((rd z_api_Def x3 a0).vRef), Value.int .i64 ((rd z_api_Def x3 a0).vN), Value.slice Aad1_6 ((rd z_api_Def x3 a0).vFields).length cad1_6] 34 (0, 0)) :: rest) w7 := HS16.front (i := 6) rfl
              have HS18 : St [] h0 w0 h3 ((some bx2, .cells #[Value.slice (rowA obv2_x2) v2.2.2.2.length cv2_x2] 112 (0, 0)) :: (obv2_x2, .cells (csv2_x2).toArray 4 (0, 0)) :: (some bx3, .cells #[Value.slice Ax3 x3.length cx3] 24 (0, 0)) :: (some bx4, .cells #[Value.func (.func 87) #[] #[Value.pointer (some ⟨bx0, 0, none⟩), Value.pointer (some ⟨bx1, 0, none⟩), Value.pointer (some ⟨bx2, 0, none⟩), Value.pointer (some ⟨bx3, 0, none⟩), Value.pointer (some ⟨bx4, 0, none⟩)]] 147 (0, 0)) :: (some bx0, .cells #[Value.slice (rowA obv2_x0) v2.2.1.length cv2_x0] 62 (0, 0)) :: (obv2_x0, .cells (csv2_x0).toArray 3 (0, 0)) :: (some bx1, .cells #[Value.bool v2.2.2.1] 4 (0, 0)) :: (some b1, .cells #[Value.int .i64 ((rd z_api_Def x3 a0).vKind), Value.string ((rd z_api_Def x3 a0).vName), Value.int .i64 ((rd z_api_Def x3 a0).vInt.vSize), Value.bool ((rd z_api_Def x3 a0).vInt.vSigned), Value.int .i64 ((rd z_api_Def x3 a0).vRef), Value.int .i64 ((rd z_api_Def x3 a0).vN), Value.slice Aad1_6 ((rd z_api_Def x3 a0).vFields).length cad1_6] 34 (0, 0)) :: rest) w7 := HS17.front (i := 6) rfl
              have HS19 : St [] h0 w0 h3 ((some bx1, .cells #[Value.bool v2.2.2.1] 4 (0, 0)) :: (some bx2, .cells #[Value.slice (rowA obv2_x2) v2.2.2.2.length cv2_x2] 112 (0, 0)) :: (obv2_x2, .cells (csv2_x2).toArray 4 (0, 0)) :: (some bx3, .cells #[Value.slice Ax3 x3.length cx3] 24 (0, 0)) :: (some bx4, .cells #[Value.func (.func 87) #[] #[Value.pointer (some ⟨bx0, 0, none⟩), Value.pointer (some ⟨bx1, 0, none⟩), Value.pointer (some ⟨bx2, 0, none⟩), Value.pointer (some ⟨bx3, 0, none⟩), Value.pointer (some ⟨bx4, 0, none⟩)]] 147 (0, 0)) :: (some bx0, .cells #[Value.slice (rowA obv2_x0) v2.2.1.length cv2_x0] 62 (0, 0)) :: (obv2_x0, .cells (csv2_x0).toArray 3 (0, 0)) :: (some b1, .cells #[Value.int .i64 ((rd z_api_Def x3 a0).vKind), Value.string ((rd z_api_Def x3 a0).vName), Value.int .i64 ((rd z_api_Def x3 a0).vInt.vSize), Value.bool ((rd z_api_Def x3 a0).vInt.vSigned), Value.int .i64 ((rd z_api_Def x3 a0).vRef), Value.int .i64 ((rd z_api_Def x3 a0).vN), Value.slice Aad1_6 ((rd z_api_Def x3 a0).vFields).length cad1_6] 34 (0, 0)) :: rest) w7 := HS18.front (i := 6) rfl
              have HS20 : St [] h0 w0 h3 ((obv2_x0, .cells (csv2_x0).toArray 3 (0, 0)) :: (some bx1, .cells #[Value.bool v2.2.2.1] 4 (0, 0)) :: (some bx2, .cells #[Value.slice (rowA obv2_x2) v2.2.2.2.length cv2_x2] 112 (0, 0)) :: (obv2_x2, .cells (csv2_x2).toArray 4 (0, 0)) :: (some bx3, .cells #[Value.slice Ax3 x3.length cx3] 24 (0, 0)) :: (some bx4, .cells #[Value.func (.func 87) #[] #[Value.pointer (some ⟨bx0, 0, none⟩), Value.pointer (some ⟨bx1, 0, none⟩), Value.pointer (some ⟨bx2, 0, none⟩), Value.pointer (some ⟨bx3, 0, none⟩), Value.pointer (some ⟨bx4, 0, none⟩)]] 147 (0, 0)) :: (some bx0, .cells #[Value.slice (rowA obv2_x0) v2.2.1.length cv2_x0] 62 (0, 0)) :: (some b1, .cells #[Value.int .i64 ((rd z_api_Def x3 a0).vKind), Value.string ((rd z_api_Def x3 a0).vName), Value.int .i64 ((rd z_api_Def x3 a0).vInt.vSize), Value.bool ((rd z_api_Def x3 a0).vInt.vSigned), Value.int .i64 ((rd z_api_Def x3 a0).vRef), Value.int .i64 ((rd z_api_Def x3 a0).vN), Value.slice Aad1_6 ((rd z_api_Def x3 a0).vFields).length cad1_6] 34 (0, 0)) :: rest) w7 := HS19.front (i := 6) rfl
              have HS21 : St [] h0 w0 h3 ((some bx0, .cells #[Value.slice (rowA obv2_x0) v2.2.1.length cv2_x0] 62 (0, 0)) :: (obv2_x0, .cells (csv2_x0).toArray 3 (0, 0)) :: (some bx1, .cells #[Value.bool v2.2.2.1] 4 (0, 0)) :: (some bx2, .cells #[Value.slice (rowA obv2_x2) v2.2.2.2.length cv2_x2] 112 (0, 0)) :: (obv2_x2, .cells (csv2_x2).toArray 4 (0, 0)) :: (some bx3, .cells #[Value.slice Ax3 x3.length cx3] 24 (0, 0)) :: (some bx4, .cells #[Value.func (.func 87) #[] #[Value.pointer (some ⟨bx0, 0, none⟩), Value.pointer (some ⟨bx1, 0, none⟩), Value.pointer (some ⟨bx2, 0, none⟩), Value.pointer (some ⟨bx3, 0, none⟩), Value.pointer (some ⟨bx4, 0, none⟩)]] 147 (0, 0)) :: (some b1, .cells #[Value.int .i64 ((rd z_api_Def x3 a0).vKind), Value.string ((rd z_api_Def x3 a0).vName), Value.int .i64 ((rd z_api_Def x3 a0).vInt.vSize), Value.bool ((rd z_api_Def x3 a0).vInt.vSigned), Value.int .i64 ((rd z_api_Def x3 a0).vRef), Value.int .i64 ((rd z_api_Def x3 a0).vN), Value.slice Aad1_6 ((rd z_api_Def x3 a0).vFields).length cad1_6] 34 (0, 0)) :: rest) w7 := HS20.front (i := 6) rfl
              have HS22 : St [] h0 w0 h3 ((some b1, .cells #[Value.int .i64 ((rd z_api_Def x3 a0).vKind), Value.string ((rd z_api_Def x3 a0).vName), Value.int .i64 ((rd z_api_Def x3 a0).vInt.vSize), Value.bool ((rd z_api_Def x3 a0).vInt.vSigned), Value.int .i64 ((rd z_api_Def x3 a0).vRef), Value.int .i64 ((rd z_api_Def x3 a0).vN), Value.slice Aad1_6 ((rd z_api_Def x3 a0).vFields).length cad1_6] 34 (0, 0)) :: (some bx0, .cells #[Value.slice (rowA obv2_x0) v2.2.1.length cv2_x0] 62 (0, 0)) :: (obv2_x0, .cells (csv2_x0).toArray 3 (0, 0)) :: (some bx1, .cells #[Value.bool v2.2.2.1] 4 (0, 0)) :: (some bx2, .cells #[Value.slice (rowA obv2_x2) v2.2.2.2.length cv2_x2] 112 (0, 0)) :: (obv2_x2, .cells (csv2_x2).toArray 4 (0, 0)) :: (some bx3, .cells #[Value.slice Ax3 x3.length cx3] 24 (0, 0)) :: (some bx4, .cells #[Value.func (.func 87) #[] #[Value.pointer (some ⟨bx0, 0, none⟩), Value.pointer (some ⟨bx1, 0, none⟩), Value.pointer (some ⟨bx2, 0, none⟩), Value.pointer (some ⟨bx3, 0, none⟩), Value.pointer (some ⟨bx4, 0, none⟩)]] 147 (0, 0)) :: rest) w7 := HS21.front (i := 7) rfl
              refine run_same (v := Value.int .i64 v2.1) rfl rfl (r_assign rfl) ?_
              try simp only [List.set_cons_zero, List.set_cons_succ]
              refine run_nil ?_
              refine norm_block ?_
              refine norm_then ?_
              refine region ?_
              refine run_same (v := Value.int .i64 (IntKind.wrap .i64 (y1_1 + 1))) rfl rfl (r_bin rfl rfl rfl) ?_
              refine run_same (v := Value.int .i64 (IntKind.wrap .i64 (y1_1 + 1))) rfl rfl (r_move rfl) ?_
              try simp only [List.set_cons_zero, List.set_cons_succ]
              refine run_nil ?_
              refine again m [Value.int .i64 v2.1, Value.int .i64 (rd 0 v1 y1_1), Value.int .i64 (IntKind.wrap .i64 (y1_1 + 1)), Value.bool (decide (y1_1 < (v1.length : Int))), Value.pointer (some (Addr.add ad2 (y1_1.toNat * 1))), Value.int .i64 (rd 0 v1 y1_1), Value.func (.func 87) #[] #[Value.pointer (some ⟨bx0, 0, none⟩), Value.pointer (some ⟨bx1, 0, none⟩), Value.pointer (some ⟨bx2, 0, none⟩), Value.pointer (some ⟨bx3, 0, none⟩), Value.pointer (some ⟨bx4, 0, none⟩)], Value.int .i64 (rd 0 v1 y1_1), Value.int .i64 v2.1, Value.int .i64 (IntKind.wrap .i64 (y1_1 + 1))] (Nat.lt_succ_self m) (by simp only [patch, List.set_cons_zero, List.set_cons_succ]) ⟨v2.1, (IntKind.wrap .i64 (y1_1 + 1)), v2.2.2.1, v2.2.1, v2.2.2.2, h3, obv2_x0, cv2_x0, csv2_x0, obv2_x2, cv2_x2, csv2_x2, _, _, _, _, _, _, _, _, rfl, H, hov2_x0.norm, hov2_x2.norm, hrx3, hsub, hel1, hrad1_6, hrv1_0_0, HS22⟩
            · replace H := of_neg H (nt c3)
              refine wp_exit ?_
              refine exit_then ?_
              obtain rfl := Option.some.inj H
              refine leave [Value.int .i64 y1_0, uy1_11, Value.int .i64 y1_1, Value.bool (decide (y1_1 < (v1.length : Int))), uy1_43, uy1_44, uy1_45, uy1_46, uy1_47, uy1_48] (by simp only [patch, List.set_cons_zero, List.set_cons_succ]) ⟨h2, oby1_3, cy1_3, csy1_3, oby1_4, cy1_4, csy1_4, _, _, _, _, _, _, _, _, _, rfl, hoy1_3.norm, hoy1_4.norm, hrx3, hsub, hel1, hrad1_6, hrv1_0_0, HS6⟩
        · rintro us w8 ⟨h4, obo1_2, co1_2, cso1_2, obo1_3, co1_3, cso1_3, uo1_11, uo1_41, uo1_42, uo1_43, uo1_44, uo1_45, uo1_46, uo1_47, uo1_48, rfl, hoo1_2, hoo1_3, hrx3, hsub, hel1, hrad1_6, hrv1_0_0, HS23⟩
          replace H := G1
          clear G1
          try simp only [patch, List.set_cons_zero, List.set_cons_succ]
          refine norm_then ?_
          refine wp_seq ?_
          refine region ?_
          refine run_mkmap HS23 ?_
          intro w9 b2 HS25
          refine run_same (v := Value.pointer (some ⟨b1, 2, none⟩)) rfl rfl (r_fieldBox (n := 2) (o' := 2) rfl Tryd.runUnderlying34 rfl Tryd.sizeOf31 (by decide) rfl) ?_
          refine run_same (v := Value.pointer (some ⟨b1, 2, none⟩)) rfl rfl (r_fieldBox (n := 1) (o' := 2) rfl Tryd.runUnderlying31 rfl Tryd.sizeOf3 (by decide) rfl) ?_
          refine run_same (v := Value.int .i64 ((rd z_api_Def x3 a0).vInt.vSize)) rfl rfl (r_loadBox rfl Tryd.isAgg3 (HS25.look 1 rfl) rfl) ?_
          refine run_frame (by simp only [List.set_cons_zero, List.set_cons_succ]; rfl) ?_
          refine mupd (key_int Tryd.runUnderlying3) (i := 0) (k := 1) (v := ((rd z_api_Def x3 a0).vInt.vSize)) (ev := (Value.int .i64)) (m := ([] : List (Int × Int))) (by first | exact .inl rfl | exact .inr rfl) rfl rfl rfl rfl rfl Tryd.runUnderlying149 HS25 rfl (MapOk.nil) ?_
          intro w10 es1 cl1 HS26 ho3
          refine mupd (key_int Tryd.runUnderlying3) (i := 0) (k := 2) (v := 8) (ev := (Value.int .i64)) (m := (mput ieq ([] : List (Int × Int)) 1 ((rd z_api_Def x3 a0).vInt.vSize))) (by first | exact .inl rfl | exact .inr rfl) rfl rfl rfl rfl rfl Tryd.runUnderlying149 HS26 rfl ho3 ?_
          intro w11 es2 cl2 HS27 ho4
          refine run_same (v := Value.pointer (some ⟨b1, 5, none⟩)) rfl rfl (r_fieldBox (n := 1) (o' := 5) rfl Tryd.runUnderlying34 rfl Tryd.sizeOf3 (by decide) rfl) ?_
          refine run_same (v := Value.int .i64 ((rd z_api_Def x3 a0).vN)) rfl rfl (r_loadBox rfl Tryd.isAgg3 (HS27.look 1 rfl) rfl) ?_
          refine run_frame (by simp only [List.set_cons_zero, List.set_cons_succ]; rfl) ?_
          refine run_same (v := Value.int .i64 xx1.1) rfl rfl (r_move rfl) ?_
          refine run_same (v := Value.int .i64 (IntKind.wrap .i64 ((rd z_api_Def x3 a0).vN * xx1.1))) rfl rfl (r_bin rfl rfl rfl) ?_
          refine mupd (key_int Tryd.runUnderlying3) (i := 0) (k := 3) (v := (IntKind.wrap .i64 ((rd z_api_Def x3 a0).vN * xx1.1))) (ev := (Value.int .i64)) (m := (mput ieq (mput ieq ([] : List (Int × Int)) 1 ((rd z_api_Def x3 a0).vInt.vSize)) 2 8)) (by first | exact .inl rfl | exact .inr rfl) rfl rfl rfl rfl rfl Tryd.runUnderlying149 HS27 rfl ho4 ?_
          intro w12 es3 cl3 HS28 ho5
          refine run_same (v := Value.pointer (some ⟨b1, 5, none⟩)) rfl rfl (r_fieldBox (n := 1) (o' := 5) rfl Tryd.runUnderlying34 rfl Tryd.sizeOf3 (by decide) rfl) ?_
          refine run_frame (by simp only [List.set_cons_zero, List.set_cons_succ]; rfl) ?_
          refine run_same (v := Value.int .i64 ((rd z_api_Def x3 a0).vN)) rfl rfl (r_loadBox rfl Tryd.isAgg3 (HS28.look 1 rfl) rfl) ?_
          refine mupd (key_int Tryd.runUnderlying3) (i := 0) (k := 4) (v := ((rd z_api_Def x3 a0).vN)) (ev := (Value.int .i64)) (m := (mput ieq (mput ieq (mput ieq ([] : List (Int × Int)) 1 ((rd z_api_Def x3 a0).vInt.vSize)) 2 8) 3 (IntKind.wrap .i64 ((rd z_api_Def x3 a0).vN * xx1.1)))) (by first | exact .inl rfl | exact .inr rfl) rfl rfl rfl rfl rfl Tryd.runUnderlying149 HS28 rfl ho5 ?_
          intro w13 es4 cl4 HS29 ho6
          refine mupd (key_int Tryd.runUnderlying3) (i := 0) (k := 5) (v := 4) (ev := (Value.int .i64)) (m := (mput ieq (mput ieq (mput ieq (mput ieq ([] : List (Int × Int)) 1 ((rd z_api_Def x3 a0).vInt.vSize)) 2 8) 3 (IntKind.wrap .i64 ((rd z_api_Def x3 a0).vN * xx1.1))) 4 ((rd z_api_Def x3 a0).vN))) (by first | exact .inl rfl | exact .inr rfl) rfl rfl rfl rfl rfl Tryd.runUnderlying149 HS29 rfl ho6 ?_
          intro w14 es5 cl5 HS30 ho7
          refine run_same (v := Value.int .i64 xx1.1) rfl rfl (r_move rfl) ?_
          refine run_frame (by simp only [List.set_cons_zero, List.set_cons_succ]; rfl) ?_
          refine mupd (key_int Tryd.runUnderlying3) (i := 0) (k := 6) (v := xx1.1) (ev := (Value.int .i64)) (m := (mput ieq (mput ieq (mput ieq (mput ieq (mput ieq ([] : List (Int × Int)) 1 ((rd z_api_Def x3 a0).vInt.vSize)) 2 8) 3 (IntKind.wrap .i64 ((rd z_api_Def x3 a0).vN * xx1.1))) 4 ((rd z_api_Def x3 a0).vN)) 5 4)) (by first | exact .inl rfl | exact .inr rfl) rfl rfl rfl rfl rfl Tryd.runUnderlying149 HS30 rfl ho7 ?_
          intro w15 es6 cl6 HS31 ho8
          refine run_same (v := Value.map (some b2)) rfl rfl (r_move rfl) ?_
          refine run_same (v := Value.pointer (some ⟨b1, 0, none⟩)) rfl rfl (r_fieldBox (n := 1) (o' := 0) rfl Tryd.runUnderlying34 rfl Tryd.sizeOf3 (by decide) rfl) ?_
          refine run_same (v := Value.int .i64 ((rd z_api_Def x3 a0).vKind)) rfl rfl (r_loadBox rfl Tryd.isAgg3 (HS31.look 1 rfl) rfl) ?_
          refine run_frame (by simp only [List.set_cons_zero, List.set_cons_succ]; rfl) ?_
          refine run_same (v := Value.int .i64 ((mfind ieq (mput ieq (mput ieq (mput ieq (mput ieq (mput ieq (mput ieq ([] : List (Int × Int)) 1 ((rd z_api_Def x3 a0).vInt.vSize)) 2 8) 3 (IntKind.wrap .i64 ((rd z_api_Def x3 a0).vN * xx1.1))) 4 ((rd z_api_Def x3 a0).vN)) 5 4) 6 xx1.1) ((rd z_api_Def x3 a0).vKind)).getD 0)) rfl rfl (r_mget (key_int Tryd.runUnderlying3) (k := ((rd z_api_Def x3 a0).vKind)) (m := (mput ieq (mput ieq (mput ieq (mput ieq (mput ieq (mput ieq ([] : List (Int × Int)) 1 ((rd z_api_Def x3 a0).vInt.vSize)) 2 8) 3 (IntKind.wrap .i64 ((rd z_api_Def x3 a0).vN * xx1.1))) 4 ((rd z_api_Def x3 a0).vN)) 5 4) 6 xx1.1)) (ev := (Value.int .i64)) 0 rfl rfl Tryd.runUnderlying149 Tryd.zeroValue3 (HS31.look 0 rfl) ho8) ?_
          refine run_same (v := Value.int .i64 ((mfind ieq (mput ieq (mput ieq (mput ieq (mput ieq (mput ieq (mput ieq ([] : List (Int × Int)) 1 ((rd z_api_Def x3 a0).vInt.vSize)) 2 8) 3 (IntKind.wrap .i64 ((rd z_api_Def x3 a0).vN * xx1.1))) 4 ((rd z_api_Def x3 a0).vN)) 5 4) 6 xx1.1) ((rd z_api_Def x3 a0).vKind)).getD 0)) rfl rfl (r_assign rfl) ?_
          try simp only [List.set_cons_zero, List.set_cons_succ]
          refine run_nil ?_
          refine norm_then ?_
          refine wp_seq ?_
          refine region ?_
          refine run_same (v := Value.bool xx1.2.1) rfl rfl (r_loadBox rfl Tryd.isAgg4 (HS31.look 4 rfl) rfl) ?_
          refine run_same (v := Value.bool xx1.2.1) rfl rfl (r_move rfl) ?_
          refine run_g_same (b := xx1.2.1) (c := true) (v := Value.int .i64 ((mfind ieq (mput ieq (mput ieq (mput ieq (mput ieq (mput ieq (mput ieq ([] : List (Int × Int)) 1 ((rd z_api_Def x3 a0).vInt.vSize)) 2 8) 3 (IntKind.wrap .i64 ((rd z_api_Def x3 a0).vN * xx1.1))) 4 ((rd z_api_Def x3 a0).vN)) 5 4) 6 xx1.1) ((rd z_api_Def x3 a0).vKind)).getD 0)) rfl rfl rfl rfl (fun hg => (r_move rfl)) ?_
          refine run_g_same (b := xx1.2.1) (c := true) (v := Value.bool (decide (((mfind ieq (mput ieq (mput ieq (mput ieq (mput ieq (mput ieq (mput ieq ([] : List (Int × Int)) 1 ((rd z_api_Def x3 a0).vInt.vSize)) 2 8) 3 (IntKind.wrap .i64 ((rd z_api_Def x3 a0).vN * xx1.1))) 4 ((rd z_api_Def x3 a0).vN)) 5 4) 6 xx1.1) ((rd z_api_Def x3 a0).vKind)).getD 0) ≤ 512))) rfl rfl rfl rfl (fun hg => (r_bin ((show _ = gv (true && (xx1.2.1 == true)) (Value.int .i64 ((mfind ieq (mput ieq (mput ieq (mput ieq (mput ieq (mput ieq (mput ieq ([] : List (Int × Int)) 1 ((rd z_api_Def x3 a0).vInt.vSize)) 2 8) 3 (IntKind.wrap .i64 ((rd z_api_Def x3 a0).vN * xx1.1))) 4 ((rd z_api_Def x3 a0).vN)) 5 4) 6 xx1.1) ((rd z_api_Def x3 a0).vKind)).getD 0)) from rfl).trans (gv_t hg)) rfl rfl)) ?_
          refine run_frame (by simp only [List.set_cons_zero, List.set_cons_succ]; rfl) ?_
          refine run_same (v := Value.bool (xx1.2.1 && (decide (((mfind ieq (mput ieq (mput ieq (mput ieq (mput ieq (mput ieq (mput ieq ([] : List (Int × Int)) 1 ((rd z_api_Def x3 a0).vInt.vSize)) 2 8) 3 (IntKind.wrap .i64 ((rd z_api_Def x3 a0).vN * xx1.1))) 4 ((rd z_api_Def x3 a0).vN)) 5 4) 6 xx1.1) ((rd z_api_Def x3 a0).vKind)).getD 0) ≤ 512)))) rfl rfl (r_pick_and rfl (fun hp => ((show _ = gv (true && (xx1.2.1 == true)) (Value.bool (decide (((mfind ieq (mput ieq (mput ieq (mput ieq (mput ieq (mput ieq (mput ieq ([] : List (Int × Int)) 1 ((rd z_api_Def x3 a0).vInt.vSize)) 2 8) 3 (IntKind.wrap .i64 ((rd z_api_Def x3 a0).vN * xx1.1))) 4 ((rd z_api_Def x3 a0).vN)) 5 4) 6 xx1.1) ((rd z_api_Def x3 a0).vKind)).getD 0) ≤ 512))) from rfl).trans (gv_t (and_i rfl hp)))) rfl) ?_
          refine run_st (i := 4) (cs := [Value.bool xx1.2.1]) (cs' := [Value.bool (xx1.2.1 && (decide (((mfind ieq (mput ieq (mput ieq (mput ieq (mput ieq (mput ieq (mput ieq ([] : List (Int × Int)) 1 ((rd z_api_Def x3 a0).vInt.vSize)) 2 8) 3 (IntKind.wrap .i64 ((rd z_api_Def x3 a0).vN * xx1.1))) 4 ((rd z_api_Def x3 a0).vN)) 5 4) 6 xx1.1) ((rd z_api_Def x3 a0).vKind)).getD 0) ≤ 512)))]) (vs := [Value.bool (xx1.2.1 && (decide (((mfind ieq (mput ieq (mput ieq (mput ieq (mput ieq (mput ieq (mput ieq ([] : List (Int × Int)) 1 ((rd z_api_Def x3 a0).vInt.vSize)) 2 8) 3 (IntKind.wrap .i64 ((rd z_api_Def x3 a0).vN * xx1.1))) 4 ((rd z_api_Def x3 a0).vN)) 5 4) 6 xx1.1) ((rd z_api_Def x3 a0).vKind)).getD 0) ≤ 512)))]) (bs' := ((some b2, .map es6 cl6) :: (some b1, .cells #[Value.int .i64 ((rd z_api_Def x3 a0).vKind), Value.string ((rd z_api_Def x3 a0).vName), Value.int .i64 ((rd z_api_Def x3 a0).vInt.vSize), Value.bool ((rd z_api_Def x3 a0).vInt.vSigned), Value.int .i64 ((rd z_api_Def x3 a0).vRef), Value.int .i64 ((rd z_api_Def x3 a0).vN), Value.slice Aad1_6 ((rd z_api_Def x3 a0).vFields).length cad1_6] 34 (0, 0)) :: (some bx0, .cells #[Value.slice (rowA obo1_2) xx1.2.2.1.length co1_2] 62 (0, 0)) :: (obo1_2, .cells (cso1_2).toArray 3 (0, 0)) :: (some bx1, .cells #[Value.bool (xx1.2.1 && (decide (((mfind ieq (mput ieq (mput ieq (mput ieq (mput ieq (mput ieq (mput ieq ([] : List (Int × Int)) 1 ((rd z_api_Def x3 a0).vInt.vSize)) 2 8) 3 (IntKind.wrap .i64 ((rd z_api_Def x3 a0).vN * xx1.1))) 4 ((rd z_api_Def x3 a0).vN)) 5 4) 6 xx1.1) ((rd z_api_Def x3 a0).vKind)).getD 0) ≤ 512)))] 4 (0, 0)) :: (some bx2, .cells #[Value.slice (rowA obo1_3) xx1.2.2.2.length co1_3] 112 (0, 0)) :: (obo1_3, .cells (cso1_3).toArray 4 (0, 0)) :: (some bx3, .cells #[Value.slice Ax3 x3.length cx3] 24 (0, 0)) :: (some bx4, .cells #[Value.func (.func 87) #[] #[Value.pointer (some ⟨bx0, 0, none⟩), Value.pointer (some ⟨bx1, 0, none⟩), Value.pointer (some ⟨bx2, 0, none⟩), Value.pointer (some ⟨bx3, 0, none⟩), Value.pointer (some ⟨bx4, 0, none⟩)]] 147 (0, 0)) :: rest)) rfl rfl Tryd.sizeOf4 rfl rfl (by decide) rfl HS31 rfl (Nat.le_of_ble_eq_true rfl) rfl rfl ?_
          intro w16 HS32
          try simp only [List.set_cons_zero, List.set_cons_succ]
          refine run_nil ?_
          refine norm_then ?_
          refine wp_seq ?_
          refine region ?_
          refine run_same (v := Value.slice (rowA obo1_2) xx1.2.2.1.length co1_2) rfl rfl (r_loadBox rfl Tryd.isAgg62 (HS32.look 2 rfl) rfl) ?_
          refine run_same (v := Value.int .i64 a0) rfl rfl (r_move rfl) ?_
          refine run_same (v := Value.int .i64 ((mfind ieq (mput ieq (mput ieq (mput ieq (mput ieq (mput ieq (mput ieq ([] : List (Int × Int)) 1 ((rd z_api_Def x3 a0).vInt.vSize)) 2 8) 3 (IntKind.wrap .i64 ((rd z_api_Def x3 a0).vN * xx1.1))) 4 ((rd z_api_Def x3 a0).vN)) 5 4) 6 xx1.1) ((rd z_api_Def x3 a0).vKind)).getD 0)) rfl rfl (r_move rfl) ?_
          obtain ⟨hi7, H⟩ := of_ite H
          obtain ⟨rb5, _, hrb5, rfl, hp5⟩ := hoo1_2.at 0 hi7.1 hi7.2
          refine run_same (v := Value.pointer (some ⟨rb5, a0.toNat * 1 + 0, none⟩)) rfl rfl (r_indexRow (sz := 1) rfl hrb5 rfl hi7.1 hi7.2 Tryd.runUnderlying62 Tryd.sizeOf3) ?_
          refine run_frame (by simp only [List.set_cons_zero, List.set_cons_succ]; rfl) ?_
          refine run_str (i := 3) (cs := cso1_2) (v := Value.int .i64 ((mfind ieq (mput ieq (mput ieq (mput ieq (mput ieq (mput ieq (mput ieq ([] : List (Int × Int)) 1 ((rd z_api_Def x3 a0).vInt.vSize)) 2 8) 3 (IntKind.wrap .i64 ((rd z_api_Def x3 a0).vN * xx1.1))) 4 ((rd z_api_Def x3 a0).vN)) 5 4) 6 xx1.1) ((rd z_api_Def x3 a0).vKind)).getD 0)) hrb5 rfl rfl Tryd.sizeOf3 rfl rfl HS32 rfl (hoo1_2.inb hi7.1 hi7.2 (m := 1) (by decide)) ?_
          intro w17 HS33
          have ho9 := hoo1_2.set (o := 0) (v := Value.int .i64 ((mfind ieq (mput ieq (mput ieq (mput ieq (mput ieq (mput ieq (mput ieq ([] : List (Int × Int)) 1 ((rd z_api_Def x3 a0).vInt.vSize)) 2 8) 3 (IntKind.wrap .i64 ((rd z_api_Def x3 a0).vN * xx1.1))) 4 ((rd z_api_Def x3 a0).vN)) 5 4) 6 xx1.1) ((rd z_api_Def x3 a0).vKind)).getD 0)) (x' := ((mfind ieq (mput ieq (mput ieq (mput ieq (mput ieq (mput ieq (mput ieq ([] : List (Int × Int)) 1 ((rd z_api_Def x3 a0).vInt.vSize)) 2 8) 3 (IntKind.wrap .i64 ((rd z_api_Def x3 a0).vN * xx1.1))) 4 ((rd z_api_Def x3 a0).vN)) 5 4) 6 xx1.1) ((rd z_api_Def x3 a0).vKind)).getD 0)) hi7.1 hi7.2 hp5 rfl (Nat.le_of_ble_eq_true rfl)
          try simp only [List.set_cons_zero, List.set_cons_succ]
          refine run_nil ?_
          refine norm_then ?_
          refine wp_seq ?_
          refine region ?_
          refine run_same (v := Value.int .i64 ((mfind ieq (mput ieq (mput ieq (mput ieq (mput ieq (mput ieq (mput ieq ([] : List (Int × Int)) 1 ((rd z_api_Def x3 a0).vInt.vSize)) 2 8) 3 (IntKind.wrap .i64 ((rd z_api_Def x3 a0).vN * xx1.1))) 4 ((rd z_api_Def x3 a0).vN)) 5 4) 6 xx1.1) ((rd z_api_Def x3 a0).vKind)).getD 0)) rfl rfl (r_move rfl) ?_
          refine run_same (v := Value.int .i64 ((mfind ieq (mput ieq (mput ieq (mput ieq (mput ieq (mput ieq (mput ieq ([] : List (Int × Int)) 1 ((rd z_api_Def x3 a0).vInt.vSize)) 2 8) 3 (IntKind.wrap .i64 ((rd z_api_Def x3 a0).vN * xx1.1))) 4 ((rd z_api_Def x3 a0).vN)) 5 4) 6 xx1.1) ((rd z_api_Def x3 a0).vKind)).getD 0)) rfl rfl (r_assign rfl) ?_
          try simp only [List.set_cons_zero, List.set_cons_succ]
          refine run_nil ?_
          refine norm_then ?_
          refine wp_ret ?_
          obtain rfl := Option.some.inj H
          refine bodyPost_ret (results_1 rfl (one_tmp rfl)) rfl ?_
          have HS34 : St [] h0 w0 h4 ((some b2, .map es6 cl6) :: (some b1, .cells #[Value.int .i64 ((rd z_api_Def x3 a0).vKind), Value.string ((rd z_api_Def x3 a0).vName), Value.int .i64 ((rd z_api_Def x3 a0).vInt.vSize), Value.bool ((rd z_api_Def x3 a0).vInt.vSigned), Value.int .i64 ((rd z_api_Def x3 a0).vRef), Value.int .i64 ((rd z_api_Def x3 a0).vN), Value.slice Aad1_6 ((rd z_api_Def x3 a0).vFields).length cad1_6] 34 (0, 0)) :: (some bx0, .cells #[Value.slice (rowA obo1_2) ((List.set xx1.2.2.1 a0.toNat ((mfind ieq (mput ieq (mput ieq (mput ieq (mput ieq (mput ieq (mput ieq ([] : List (Int × Int)) 1 ((rd z_api_Def x3 a0).vInt.vSize)) 2 8) 3 (IntKind.wrap .i64 ((rd z_api_Def x3 a0).vN * xx1.1))) 4 ((rd z_api_Def x3 a0).vN)) 5 4) 6 xx1.1) ((rd z_api_Def x3 a0).vKind)).getD 0)).length) co1_2] 62 (0, 0)) :: (obo1_2, .cells ((List.set cso1_2 (a0.toNat * 1 + 0) (Value.int .i64 ((mfind ieq (mput ieq (mput ieq (mput ieq (mput ieq (mput ieq (mput ieq ([] : List (Int × Int)) 1 ((rd z_api_Def x3 a0).vInt.vSize)) 2 8) 3 (IntKind.wrap .i64 ((rd z_api_Def x3 a0).vN * xx1.1))) 4 ((rd z_api_Def x3 a0).vN)) 5 4) 6 xx1.1) ((rd z_api_Def x3 a0).vKind)).getD 0)))).toArray 3 (0, 0)) :: (some bx1, .cells #[Value.bool (xx1.2.1 && (decide (((mfind ieq (mput ieq (mput ieq (mput ieq (mput ieq (mput ieq (mput ieq ([] : List (Int × Int)) 1 ((rd z_api_Def x3 a0).vInt.vSize)) 2 8) 3 (IntKind.wrap .i64 ((rd z_api_Def x3 a0).vN * xx1.1))) 4 ((rd z_api_Def x3 a0).vN)) 5 4) 6 xx1.1) ((rd z_api_Def x3 a0).vKind)).getD 0) ≤ 512)))] 4 (0, 0)) :: (some bx2, .cells #[Value.slice (rowA obo1_3) xx1.2.2.2.length co1_3] 112 (0, 0)) :: (obo1_3, .cells (cso1_3).toArray 4 (0, 0)) :: (some bx3, .cells #[Value.slice Ax3 x3.length cx3] 24 (0, 0)) :: (some bx4, .cells #[Value.func (.func 87) #[] #[Value.pointer (some ⟨bx0, 0, none⟩), Value.pointer (some ⟨bx1, 0, none⟩), Value.pointer (some ⟨bx2, 0, none⟩), Value.pointer (some ⟨bx3, 0, none⟩), Value.pointer (some ⟨bx4, 0, none⟩)]] 147 (0, 0)) :: rest) w17 := HS33.cast (by first | rfl | (rw [ho9.len]; done) | (rw [ho9.len]; rfl))
          have ho10 := ho9.norm
          have HS35 : St [] h0 w0 h4 ((some b2, .map es6 cl6) :: (some bx0, .cells #[Value.slice (rowA obo1_2) ((List.set xx1.2.2.1 a0.toNat ((mfind ieq (mput ieq (mput ieq (mput ieq (mput ieq (mput ieq (mput ieq ([] : List (Int × Int)) 1 ((rd z_api_Def x3 a0).vInt.vSize)) 2 8) 3 (IntKind.wrap .i64 ((rd z_api_Def x3 a0).vN * xx1.1))) 4 ((rd z_api_Def x3 a0).vN)) 5 4) 6 xx1.1) ((rd z_api_Def x3 a0).vKind)).getD 0)).length) co1_2] 62 (0, 0)) :: (obo1_2, .cells ((List.set cso1_2 (a0.toNat * 1 + 0) (Value.int .i64 ((mfind ieq (mput ieq (mput ieq (mput ieq (mput ieq (mput ieq (mput ieq ([] : List (Int × Int)) 1 ((rd z_api_Def x3 a0).vInt.vSize)) 2 8) 3 (IntKind.wrap .i64 ((rd z_api_Def x3 a0).vN * xx1.1))) 4 ((rd z_api_Def x3 a0).vN)) 5 4) 6 xx1.1) ((rd z_api_Def x3 a0).vKind)).getD 0)))).toArray 3 (0, 0)) :: (some bx1, .cells #[Value.bool (xx1.2.1 && (decide (((mfind ieq (mput ieq (mput ieq (mput ieq (mput ieq (mput ieq (mput ieq ([] : List (Int × Int)) 1 ((rd z_api_Def x3 a0).vInt.vSize)) 2 8) 3 (IntKind.wrap .i64 ((rd z_api_Def x3 a0).vN * xx1.1))) 4 ((rd z_api_Def x3 a0).vN)) 5 4) 6 xx1.1) ((rd z_api_Def x3 a0).vKind)).getD 0) ≤ 512)))] 4 (0, 0)) :: (some bx2, .cells #[Value.slice (rowA obo1_3) xx1.2.2.2.length co1_3] 112 (0, 0)) :: (obo1_3, .cells (cso1_3).toArray 4 (0, 0)) :: (some bx3, .cells #[Value.slice Ax3 x3.length cx3] 24 (0, 0)) :: (some bx4, .cells #[Value.func (.func 87) #[] #[Value.pointer (some ⟨bx0, 0, none⟩), Value.pointer (some ⟨bx1, 0, none⟩), Value.pointer (some ⟨bx2, 0, none⟩), Value.pointer (some ⟨bx3, 0, none⟩), Value.pointer (some ⟨bx4, 0, none⟩)]] 147 (0, 0)) :: rest) w17 := HS34.drop 1
          have HS36 : St [] h0 w0 h4 ((some bx0, .cells #[Value.slice (rowA obo1_2) ((List.set xx1.2.2.1 a0.toNat ((mfind ieq (mput ieq (mput ieq (mput ieq (mput ieq (mput ieq (mput ieq ([] : List (Int × Int)) 1 ((rd z_api_Def x3 a0).vInt.vSize)) 2 8) 3 (IntKind.wrap .i64 ((rd z_api_Def x3 a0).vN * xx1.1))) 4 ((rd z_api_Def x3 a0).vN)) 5 4) 6 xx1.1) ((rd z_api_Def x3 a0).vKind)).getD 0)).length) co1_2] 62 (0, 0)) :: (obo1_2, .cells ((List.set cso1_2 (a0.toNat * 1 + 0) (Value.int .i64 ((mfind ieq (mput ieq (mput ieq (mput ieq (mput ieq (mput ieq (mput ieq ([] : List (Int × Int)) 1 ((rd z_api_Def x3 a0).vInt.vSize)) 2 8) 3 (IntKind.wrap .i64 ((rd z_api_Def x3 a0).vN * xx1.1))) 4 ((rd z_api_Def x3 a0).vN)) 5 4) 6 xx1.1) ((rd z_api_Def x3 a0).vKind)).getD 0)))).toArray 3 (0, 0)) :: (some bx1, .cells #[Value.bool (xx1.2.1 && (decide (((mfind ieq (mput ieq (mput ieq (mput ieq (mput ieq (mput ieq (mput ieq ([] : List (Int × Int)) 1 ((rd z_api_Def x3 a0).vInt.vSize)) 2 8) 3 (IntKind.wrap .i64 ((rd z_api_Def x3 a0).vN * xx1.1))) 4 ((rd z_api_Def x3 a0).vN)) 5 4) 6 xx1.1) ((rd z_api_Def x3 a0).vKind)).getD 0) ≤ 512)))] 4 (0, 0)) :: (some bx2, .cells #[Value.slice (rowA obo1_3) xx1.2.2.2.length co1_3] 112 (0, 0)) :: (obo1_3, .cells (cso1_3).toArray 4 (0, 0)) :: (some bx3, .cells #[Value.slice Ax3 x3.length cx3] 24 (0, 0)) :: (some bx4, .cells #[Value.func (.func 87) #[] #[Value.pointer (some ⟨bx0, 0, none⟩), Value.pointer (some ⟨bx1, 0, none⟩), Value.pointer (some ⟨bx2, 0, none⟩), Value.pointer (some ⟨bx3, 0, none⟩), Value.pointer (some ⟨bx4, 0, none⟩)]] 147 (0, 0)) :: rest) w17 := HS35.drop 0
          exact ⟨h4, obo1_2, co1_2, (List.set cso1_2 (a0.toNat * 1 + 0) (Value.int .i64 ((mfind ieq (mput ieq (mput ieq (mput ieq (mput ieq (mput ieq (mput ieq ([] : List (Int × Int)) 1 ((rd z_api_Def x3 a0).vInt.vSize)) 2 8) 3 (IntKind.wrap .i64 ((rd z_api_Def x3 a0).vN * xx1.1))) 4 ((rd z_api_Def x3 a0).vN)) 5 4) 6 xx1.1) ((rd z_api_Def x3 a0).vKind)).getD 0))), obo1_3, co1_3, cso1_3, rfl, ho10, hoo1_3, hsub, HS36⟩

end Go.Proofs.YtfjppgobidjndaaDoor
namespace Go.Proofs.YtfjppgobidjndaaDoor
open Go.RowKit Go.M
def ctf_sizes.l0 (k : Nat) (a0 : api_Types) : Nat → Int → Bool → (List Bool) → (List Int) → Option (Bool × (List Bool) × (List Int))
  | 0, _, _, _, _ => none
  | m + 1, y1_0, y1_1, y1_2, y1_3 => if (decide (y1_0 < (a0.vDefs.length : Int))) = true then ((ctf_sizes_1.f k y1_0 y1_3 y1_1 y1_2 a0.vDefs).bind fun v1 => (ctf_sizes.l0 k a0 m (IntKind.wrap .i64 (y1_0 + 1)) v1.2.2.1 v1.2.2.2 v1.2.1)) else (some (y1_1, y1_2, y1_3))
def ctf_sizes.f (k : Nat) (a0 : api_Types) : Option ((List Int) × Bool) := if 0 ≤ (a0.vDefs.length : Int) ∧ (a0.vDefs.length : Int) ≤ 4294967296 then (if 0 ≤ (a0.vDefs.length : Int) ∧ (a0.vDefs.length : Int) ≤ 4294967296 then ((ctf_sizes.l0 k a0 k 0 true (List.replicate (a0.vDefs.length : Int).toNat (false : Bool)) (List.replicate (a0.vDefs.length : Int).toNat (0 : Int))).bind fun xx1 => (some (xx1.2.2, xx1.1))) else none) else none
set_option maxRecDepth 20000 in
set_option maxHeartbeats 4000000 in
theorem ctf_sizes.calls (k : Nat) (a0 : api_Types) (A0_0 : Option Addr) (c0_0 : Nat) {h0 : View} {w0 : World} (hv : Sees h0 w0) (hr0_0 : Rd k_api_Def h0 A0_0 a0.vDefs) (hc0_0 : a0.vDefs.length ≤ c0_0) {r : (List Int) × Bool} (H : ctf_sizes.f k a0 = some r) : Calls Tryd.prog 44 #[Value.agg #[Value.slice A0_0 a0.vDefs.length c0_0]] w0 (fun e w1 => ∃ (h1 : View) (A0_0 : Option Addr) (c0_0 : Nat), e = .returned (Value.tuple #[Value.slice A0_0 r.1.length c0_0, Value.bool r.2]) ∧ r.1.length ≤ c0_0 ∧ Rd (Kd.int .i64) h1 A0_0 r.1 ∧ Gr w0.heap.size h0 h1 ∧ Sees h1 w1 ∧ Ext w0 w1) := by
  unfold ctf_sizes.f at H
  have HS : St [] h0 w0 h0 [] w0 := St.init hv
  go_enter Tryd.func44, Tryd.ntmps44
  refine wp_seq ?_
  refine region ?_
  refine run_ex rfl rfl (does_box (cs := #[Value.slice A0_0 a0.vDefs.length c0_0]) rfl rfl) ?_
  rintro w1 _ hE1 ⟨b1, rfl, ge1, hb1⟩
  have HS1 := HS.new hE1 ge1 hb1
  refine run_same (v := Value.slice none 0 0) rfl rfl (r_assign rfl) ?_
  refine run_same (v := Value.bool false) rfl rfl (r_assign rfl) ?_
  try simp only [List.set_cons_zero, List.set_cons_succ]
  refine run_nil ?_
  refine norm_then ?_
  refine wp_seq ?_
  refine region ?_
  refine run_same (v := Value.pointer (some ⟨b1, 0, none⟩)) rfl rfl (r_fieldBox (n := 1) (o' := 0) rfl Tryd.runUnderlying24 rfl Tryd.sizeOf22 (by decide) rfl) ?_
  refine run_same (v := Value.slice A0_0 a0.vDefs.length c0_0) rfl rfl (r_loadBox rfl Tryd.isAgg22 (HS1.look 0 rfl) rfl) ?_
  refine run_same (v := Value.int .i64 (a0.vDefs.length : Int)) rfl rfl (r_len rfl Tryd.runUnderlying22) ?_
  obtain ⟨hk1, H⟩ := of_ite H
  refine run_mk (Kd.int .i64) 0 (zs := [Value.int .i64 0]) rfl rfl hk1 Tryd.runUnderlying62 Tryd.typeInfo3 (by decide) rfl Tryd.zeroValue3 rfl rfl HS1 ?_
  intro w2 b2 cs1 HS2 ho1
  refine run_frame (by simp only [List.set_cons_zero, List.set_cons_succ]; rfl) ?_
  refine run_ex rfl rfl (does_alloc (cs := #[Value.slice none 0 0]) Tryd.zeroValue62 rfl) ?_
  rintro w3 _ hE2 ⟨b3, rfl, ge2, hb2⟩
  have HS3 := HS2.new hE2 ge2 hb2
  refine run_st (i := 0) (cs := [Value.slice none 0 0]) (cs' := [Value.slice (rowA (some b2)) ((a0.vDefs.length : Int).toNat) ((a0.vDefs.length : Int).toNat)]) (vs := [Value.slice (rowA (some b2)) ((a0.vDefs.length : Int).toNat) ((a0.vDefs.length : Int).toNat)]) (bs' := [(some b3, .cells #[Value.slice (rowA (some b2)) ((a0.vDefs.length : Int).toNat) ((a0.vDefs.length : Int).toNat)] 62 (0, 0)), ((some b2), .cells (cs1).toArray 3 (0, 0)), (some b1, .cells #[Value.slice A0_0 a0.vDefs.length c0_0] 24 (0, 0))]) rfl rfl Tryd.sizeOf62 rfl rfl (by decide) rfl HS3 rfl (Nat.le_of_ble_eq_true rfl) rfl rfl ?_
  intro w4 HS4
  try simp only [List.set_cons_zero, List.set_cons_succ]
  refine run_nil ?_
  refine norm_then ?_
  refine wp_seq ?_
  refine region ?_
  refine run_same (v := Value.pointer (some ⟨b1, 0, none⟩)) rfl rfl (r_fieldBox (n := 1) (o' := 0) rfl Tryd.runUnderlying24 rfl Tryd.sizeOf22 (by decide) rfl) ?_
  refine run_same (v := Value.slice A0_0 a0.vDefs.length c0_0) rfl rfl (r_loadBox rfl Tryd.isAgg22 (HS4.look 2 rfl) rfl) ?_
  refine run_same (v := Value.int .i64 (a0.vDefs.length : Int)) rfl rfl (r_len rfl Tryd.runUnderlying22) ?_
  obtain ⟨hk2, H⟩ := of_ite H
  refine run_mk Kd.bool false (zs := [Value.bool false]) rfl rfl hk2 Tryd.runUnderlying112 Tryd.typeInfo4 (by decide) rfl Tryd.zeroValue4 rfl rfl HS4 ?_
  intro w5 b4 cs2 HS5 ho2
  refine run_frame (by simp only [List.set_cons_zero, List.set_cons_succ]; rfl) ?_
  refine run_ex rfl rfl (does_alloc (cs := #[Value.slice none 0 0]) Tryd.zeroValue112 rfl) ?_
  rintro w6 _ hE3 ⟨b5, rfl, ge3, hb3⟩
  have HS6 := HS5.new hE3 ge3 hb3
  refine run_st (i := 0) (cs := [Value.slice none 0 0]) (cs' := [Value.slice (rowA (some b4)) ((a0.vDefs.length : Int).toNat) ((a0.vDefs.length : Int).toNat)]) (vs := [Value.slice (rowA (some b4)) ((a0.vDefs.length : Int).toNat) ((a0.vDefs.length : Int).toNat)]) (bs' := [(some b5, .cells #[Value.slice (rowA (some b4)) ((a0.vDefs.length : Int).toNat) ((a0.vDefs.length : Int).toNat)] 112 (0, 0)), ((some b4), .cells (cs2).toArray 4 (0, 0)), (some b3, .cells #[Value.slice (rowA (some b2)) ((a0.vDefs.length : Int).toNat) ((a0.vDefs.length : Int).toNat)] 62 (0, 0)), ((some b2), .cells (cs1).toArray 3 (0, 0)), (some b1, .cells #[Value.slice A0_0 a0.vDefs.length c0_0] 24 (0, 0))]) rfl rfl Tryd.sizeOf112 rfl rfl (by decide) rfl HS6 rfl (Nat.le_of_ble_eq_true rfl) rfl rfl ?_
  intro w7 HS7
  try simp only [List.set_cons_zero, List.set_cons_succ]
  refine run_nil ?_
  refine norm_then ?_
  refine wp_seq ?_
  refine region ?_
  refine run_ex rfl rfl (does_alloc (cs := #[Value.bool false]) Tryd.zeroValue4 rfl) ?_
  rintro w8 _ hE4 ⟨b6, rfl, ge4, hb4⟩
  have HS8 := HS7.new hE4 ge4 hb4
  refine run_st (i := 0) (cs := [Value.bool false]) (cs' := [Value.bool true]) (vs := [Value.bool true]) (bs' := [(some b6, .cells #[Value.bool true] 4 (0, 0)), (some b5, .cells #[Value.slice (rowA (some b4)) ((a0.vDefs.length : Int).toNat) ((a0.vDefs.length : Int).toNat)] 112 (0, 0)), ((some b4), .cells (cs2).toArray 4 (0, 0)), (some b3, .cells #[Value.slice (rowA (some b2)) ((a0.vDefs.length : Int).toNat) ((a0.vDefs.length : Int).toNat)] 62 (0, 0)), ((some b2), .cells (cs1).toArray 3 (0, 0)), (some b1, .cells #[Value.slice A0_0 a0.vDefs.length c0_0] 24 (0, 0))]) rfl rfl Tryd.sizeOf4 rfl rfl (by decide) rfl HS8 rfl (Nat.le_of_ble_eq_true rfl) rfl rfl ?_
  intro w9 HS9
  try simp only [List.set_cons_zero, List.set_cons_succ]
  refine run_nil ?_
  refine norm_then ?_
  refine wp_seq ?_
  refine region ?_
  refine run_ex rfl rfl (does_alloc (cs := #[Value.nilFunc]) Tryd.zeroValue147 rfl) ?_
  rintro w10 _ hE5 ⟨b7, rfl, ge5, hb5⟩
  have HS10 := HS9.new hE5 ge5 hb5
  try simp only [List.set_cons_zero, List.set_cons_succ]
  refine run_nil ?_
  refine norm_then ?_
  refine wp_seq ?_
  refine region ?_
  refine run_same (v := Value.func (.func 87) #[] #[Value.pointer (some ⟨b3, 0, none⟩), Value.pointer (some ⟨b6, 0, none⟩), Value.pointer (some ⟨b5, 0, none⟩), Value.pointer (some ⟨b1, 0, none⟩), Value.pointer (some ⟨b7, 0, none⟩)]) rfl rfl (r_makeFunc (vs := [Value.pointer (some ⟨b3, 0, none⟩), Value.pointer (some ⟨b6, 0, none⟩), Value.pointer (some ⟨b5, 0, none⟩), Value.pointer (some ⟨b1, 0, none⟩), Value.pointer (some ⟨b7, 0, none⟩)]) rfl) ?_
  refine run_st (i := 0) (cs := [Value.nilFunc]) (cs' := [Value.func (.func 87) #[] #[Value.pointer (some ⟨b3, 0, none⟩), Value.pointer (some ⟨b6, 0, none⟩), Value.pointer (some ⟨b5, 0, none⟩), Value.pointer (some ⟨b1, 0, none⟩), Value.pointer (some ⟨b7, 0, none⟩)]]) (vs := [Value.func (.func 87) #[] #[Value.pointer (some ⟨b3, 0, none⟩), Value.pointer (some ⟨b6, 0, none⟩), Value.pointer (some ⟨b5, 0, none⟩), Value.pointer (some ⟨b1, 0, none⟩), Value.pointer (some ⟨b7, 0, none⟩)]]) (bs' := [(some b7, .cells #[Value.func (.func 87) #[] #[Value.pointer (some ⟨b3, 0, none⟩), Value.pointer (some ⟨b6, 0, none⟩), Value.pointer (some ⟨b5, 0, none⟩), Value.pointer (some ⟨b1, 0, none⟩), Value.pointer (some ⟨b7, 0, none⟩)]] 147 (0, 0)), (some b6, .cells #[Value.bool true] 4 (0, 0)), (some b5, .cells #[Value.slice (rowA (some b4)) ((a0.vDefs.length : Int).toNat) ((a0.vDefs.length : Int).toNat)] 112 (0, 0)), ((some b4), .cells (cs2).toArray 4 (0, 0)), (some b3, .cells #[Value.slice (rowA (some b2)) ((a0.vDefs.length : Int).toNat) ((a0.vDefs.length : Int).toNat)] 62 (0, 0)), ((some b2), .cells (cs1).toArray 3 (0, 0)), (some b1, .cells #[Value.slice A0_0 a0.vDefs.length c0_0] 24 (0, 0))]) rfl rfl Tryd.sizeOf147 rfl rfl (by decide) rfl HS10 rfl (Nat.le_of_ble_eq_true rfl) rfl rfl ?_
  intro w11 HS11
  try simp only [List.set_cons_zero, List.set_cons_succ]
  refine run_nil ?_
  refine norm_then ?_
  refine wp_seq ?_
  refine wp_seq ?_
  refine region ?_
  refine run_same (v := Value.pointer (some ⟨b1, 0, none⟩)) rfl rfl (r_fieldBox (n := 1) (o' := 0) rfl Tryd.runUnderlying24 rfl Tryd.sizeOf22 (by decide) rfl) ?_
  refine run_same (v := Value.slice A0_0 a0.vDefs.length c0_0) rfl rfl (r_loadBox rfl Tryd.isAgg22 (HS11.look 6 rfl) rfl) ?_
  refine run_same (v := Value.int .i64 (a0.vDefs.length : Int)) rfl rfl (r_len rfl Tryd.runUnderlying22) ?_
  refine run_same (v := Value.int .i64 0) rfl rfl (r_move rfl) ?_
  try simp only [List.set_cons_zero, List.set_cons_succ]
  refine run_nil ?_
  refine norm_then ?_
  obtain ⟨xx1, H, G1⟩ := of_bind H
  have HS28 : St [] h0 w0 h0 [(some b7, .cells #[Value.func (.func 87) #[] #[Value.pointer (some ⟨b3, 0, none⟩), Value.pointer (some ⟨b6, 0, none⟩), Value.pointer (some ⟨b5, 0, none⟩), Value.pointer (some ⟨b1, 0, none⟩), Value.pointer (some ⟨b7, 0, none⟩)]] 147 (0, 0)), (some b6, .cells #[Value.bool true] 4 (0, 0)), (some b5, .cells #[Value.slice (rowA (some b4)) ((List.replicate (a0.vDefs.length : Int).toNat (false : Bool)).length) ((a0.vDefs.length : Int).toNat)] 112 (0, 0)), ((some b4), .cells (cs2).toArray 4 (0, 0)), (some b3, .cells #[Value.slice (rowA (some b2)) ((List.replicate (a0.vDefs.length : Int).toNat (0 : Int)).length) ((a0.vDefs.length : Int).toNat)] 62 (0, 0)), ((some b2), .cells (cs1).toArray 3 (0, 0)), (some b1, .cells #[Value.slice A0_0 a0.vDefs.length c0_0] 24 (0, 0))] w11 := HS11.cast (by first | rfl | (rw [ho2.len, ho1.len]; done) | (rw [ho2.len, ho1.len]; rfl))
  have ho3 := ho2.norm
  have ho4 := ho1.norm
  refine loop_patch [8, 21, 22, 23, 24, 25, 26, 27] (fun m us w' => ∃ (y1_0 : Int), ∃ (y1_1 : Bool), ∃ (y1_2 : List Bool), ∃ (y1_3 : List Int), ∃ (h1 : View), ∃ (oby1_2 : Option Nat) (cy1_2 : Nat), ∃ (csy1_2 : List Value), ∃ (oby1_3 : Option Nat) (cy1_3 : Nat), ∃ (csy1_3 : List Value), ∃ (uy1_8 : Value), ∃ (uy1_22 : Value), ∃ (uy1_23 : Value), ∃ (uy1_24 : Value), ∃ (uy1_25 : Value), ∃ (uy1_26 : Value), ∃ (uy1_27 : Value), us = [uy1_8, Value.int .i64 y1_0, uy1_22, uy1_23, uy1_24, uy1_25, uy1_26, uy1_27] ∧ ctf_sizes.l0 k a0 m y1_0 y1_1 y1_2 y1_3 = some xx1 ∧ RowOk Kd.bool h1 y1_2 oby1_2 y1_2.length cy1_2 csy1_2 ∧ RowOk (Kd.int .i64) h1 y1_3 oby1_3 y1_3.length cy1_3 csy1_3 ∧ St [] h0 w0 h1 [(some b7, .cells #[Value.func (.func 87) #[] #[Value.pointer (some ⟨b3, 0, none⟩), Value.pointer (some ⟨b6, 0, none⟩), Value.pointer (some ⟨b5, 0, none⟩), Value.pointer (some ⟨b1, 0, none⟩), Value.pointer (some ⟨b7, 0, none⟩)]] 147 (0, 0)), (some b6, .cells #[Value.bool y1_1] 4 (0, 0)), (some b5, .cells #[Value.slice (rowA oby1_2) y1_2.length cy1_2] 112 (0, 0)), (oby1_2, .cells (csy1_2).toArray 4 (0, 0)), (some b3, .cells #[Value.slice (rowA oby1_3) y1_3.length cy1_3] 62 (0, 0)), (oby1_3, .cells (csy1_3).toArray 3 (0, 0)), (some b1, .cells #[Value.slice A0_0 a0.vDefs.length c0_0] 24 (0, 0))] w') (fun us w' => ∃ (h3 : View), ∃ (obo1_1 : Option Nat) (co1_1 : Nat), ∃ (cso1_1 : List Value), ∃ (obo1_2 : Option Nat) (co1_2 : Nat), ∃ (cso1_2 : List Value), ∃ (uo1_8 : Value), ∃ (uo1_21 : Value), ∃ (uo1_22 : Value), ∃ (uo1_23 : Value), ∃ (uo1_24 : Value), ∃ (uo1_25 : Value), ∃ (uo1_26 : Value), ∃ (uo1_27 : Value), us = [uo1_8, uo1_21, uo1_22, uo1_23, uo1_24, uo1_25, uo1_26, uo1_27] ∧ RowOk Kd.bool h3 xx1.2.1 obo1_1 xx1.2.1.length co1_1 cso1_1 ∧ RowOk (Kd.int .i64) h3 xx1.2.2 obo1_2 xx1.2.2.length co1_2 cso1_2 ∧ St [] h0 w0 h3 [(some b7, .cells #[Value.func (.func 87) #[] #[Value.pointer (some ⟨b3, 0, none⟩), Value.pointer (some ⟨b6, 0, none⟩), Value.pointer (some ⟨b5, 0, none⟩), Value.pointer (some ⟨b1, 0, none⟩), Value.pointer (some ⟨b7, 0, none⟩)]] 147 (0, 0)), (some b6, .cells #[Value.bool xx1.1] 4 (0, 0)), (some b5, .cells #[Value.slice (rowA obo1_1) xx1.2.1.length co1_1] 112 (0, 0)), (obo1_1, .cells (cso1_1).toArray 4 (0, 0)), (some b3, .cells #[Value.slice (rowA obo1_2) xx1.2.2.length co1_2] 62 (0, 0)), (obo1_2, .cells (cso1_2).toArray 3 (0, 0)), (some b1, .cells #[Value.slice A0_0 a0.vDefs.length c0_0] 24 (0, 0))] w') k [undef, Value.int .i64 0, undef, undef, undef, undef, undef, undef] (by simp only [patch, List.set_cons_zero, List.set_cons_succ]) ⟨0, true, (List.replicate (a0.vDefs.length : Int).toNat (false : Bool)), (List.replicate (a0.vDefs.length : Int).toNat (0 : Int)), h0, (some b4), (a0.vDefs.length : Int).toNat, cs2, (some b2), (a0.vDefs.length : Int).toNat, cs1, _, _, _, _, _, _, _, (by first | rfl | (rw [ho2.len, ho1.len]; done) | (rw [ho2.len, ho1.len]; rfl)), H, ho3.norm, ho4.norm, HS28⟩ ?_ ?_
  · rintro m us w12 ⟨y1_0, y1_1, y1_2, y1_3, h1, oby1_2, cy1_2, csy1_2, oby1_3, cy1_3, csy1_3, uy1_8, uy1_22, uy1_23, uy1_24, uy1_25, uy1_26, uy1_27, rfl, H, hoy1_2, hoy1_3, HS12⟩
    cases m with
    | zero => exact absurd H (by simp [ctf_sizes.l0])
    | succ m =>
      rw [ctf_sizes.l0] at H
      try simp only [patch, List.set_cons_zero, List.set_cons_succ]
      refine wp_seq ?_
      refine region ?_
      refine run_same (v := Value.bool (decide (y1_0 < (a0.vDefs.length : Int)))) rfl rfl (r_bin rfl rfl rfl) ?_
      try simp only [List.set_cons_zero, List.set_cons_succ]
      refine run_nil ?_
      refine norm_then ?_
      refine wp_seq ?_
      refine wp_cond_split (t := (decide (y1_0 < (a0.vDefs.length : Int)))) rfl (fun c1 => ?_) (fun c1 => ?_)
      · replace H := of_pos H c1
        refine wp_skip ?_
        refine norm_then ?_
        refine wp_seq ?_
        refine wp_block ?_
        refine wp_seq ?_
        refine region ?_
        refine run_same (v := Value.int .i64 y1_0) rfl rfl (r_move rfl) ?_
        refine run_same (v := Value.int .i64 y1_0) rfl rfl (r_assign rfl) ?_
        try simp only [List.set_cons_zero, List.set_cons_succ]
        refine run_nil ?_
        refine norm_then ?_
        refine region ?_
        refine run_same (v := Value.func (.func 87) #[] #[Value.pointer (some ⟨b3, 0, none⟩), Value.pointer (some ⟨b6, 0, none⟩), Value.pointer (some ⟨b5, 0, none⟩), Value.pointer (some ⟨b1, 0, none⟩), Value.pointer (some ⟨b7, 0, none⟩)]) rfl rfl (r_loadBox rfl Tryd.isAgg147 (HS12.look 0 rfl) rfl) ?_
        refine run_same (v := Value.int .i64 y1_0) rfl rfl (r_move rfl) ?_
        obtain ⟨v1, H1, H⟩ := of_bind H
        have HS13 : St [] h0 w0 h1 [(some b1, .cells #[Value.slice A0_0 a0.vDefs.length c0_0] 24 (0, 0)), (some b7, .cells #[Value.func (.func 87) #[] #[Value.pointer (some ⟨b3, 0, none⟩), Value.pointer (some ⟨b6, 0, none⟩), Value.pointer (some ⟨b5, 0, none⟩), Value.pointer (some ⟨b1, 0, none⟩), Value.pointer (some ⟨b7, 0, none⟩)]] 147 (0, 0)), (some b6, .cells #[Value.bool y1_1] 4 (0, 0)), (some b5, .cells #[Value.slice (rowA oby1_2) y1_2.length cy1_2] 112 (0, 0)), (oby1_2, .cells (csy1_2).toArray 4 (0, 0)), (some b3, .cells #[Value.slice (rowA oby1_3) y1_3.length cy1_3] 62 (0, 0)), (oby1_3, .cells (csy1_3).toArray 3 (0, 0))] w12 := HS12.front (i := 6) rfl
        have HS14 : St [] h0 w0 h1 [(oby1_2, .cells (csy1_2).toArray 4 (0, 0)), (some b1, .cells #[Value.slice A0_0 a0.vDefs.length c0_0] 24 (0, 0)), (some b7, .cells #[Value.func (.func 87) #[] #[Value.pointer (some ⟨b3, 0, none⟩), Value.pointer (some ⟨b6, 0, none⟩), Value.pointer (some ⟨b5, 0, none⟩), Value.pointer (some ⟨b1, 0, none⟩), Value.pointer (some ⟨b7, 0, none⟩)]] 147 (0, 0)), (some b6, .cells #[Value.bool y1_1] 4 (0, 0)), (some b5, .cells #[Value.slice (rowA oby1_2) y1_2.length cy1_2] 112 (0, 0)), (some b3, .cells #[Value.slice (rowA oby1_3) y1_3.length cy1_3] 62 (0, 0)), (oby1_3, .cells (csy1_3).toArray 3 (0, 0))] w12 := HS13.front (i := 4) rfl
        have HS15 : St [] h0 w0 h1 [(some b5, .cells #[Value.slice (rowA oby1_2) y1_2.length cy1_2] 112 (0, 0)), (oby1_2, .cells (csy1_2).toArray 4 (0, 0)), (some b1, .cells #[Value.slice A0_0 a0.vDefs.length c0_0] 24 (0, 0)), (some b7, .cells #[Value.func (.func 87) #[] #[Value.pointer (some ⟨b3, 0, none⟩), Value.pointer (some ⟨b6, 0, none⟩), Value.pointer (some ⟨b5, 0, none⟩), Value.pointer (some ⟨b1, 0, none⟩), Value.pointer (some ⟨b7, 0, none⟩)]] 147 (0, 0)), (some b6, .cells #[Value.bool y1_1] 4 (0, 0)), (some b3, .cells #[Value.slice (rowA oby1_3) y1_3.length cy1_3] 62 (0, 0)), (oby1_3, .cells (csy1_3).toArray 3 (0, 0))] w12 := HS14.front (i := 4) rfl
        have HS16 : St [] h0 w0 h1 [(some b6, .cells #[Value.bool y1_1] 4 (0, 0)), (some b5, .cells #[Value.slice (rowA oby1_2) y1_2.length cy1_2] 112 (0, 0)), (oby1_2, .cells (csy1_2).toArray 4 (0, 0)), (some b1, .cells #[Value.slice A0_0 a0.vDefs.length c0_0] 24 (0, 0)), (some b7, .cells #[Value.func (.func 87) #[] #[Value.pointer (some ⟨b3, 0, none⟩), Value.pointer (some ⟨b6, 0, none⟩), Value.pointer (some ⟨b5, 0, none⟩), Value.pointer (some ⟨b1, 0, none⟩), Value.pointer (some ⟨b7, 0, none⟩)]] 147 (0, 0)), (some b3, .cells #[Value.slice (rowA oby1_3) y1_3.length cy1_3] 62 (0, 0)), (oby1_3, .cells (csy1_3).toArray 3 (0, 0))] w12 := HS15.front (i := 4) rfl
        have HS17 : St [] h0 w0 h1 [(oby1_3, .cells (csy1_3).toArray 3 (0, 0)), (some b6, .cells #[Value.bool y1_1] 4 (0, 0)), (some b5, .cells #[Value.slice (rowA oby1_2) y1_2.length cy1_2] 112 (0, 0)), (oby1_2, .cells (csy1_2).toArray 4 (0, 0)), (some b1, .cells #[Value.slice A0_0 a0.vDefs.length c0_0] 24 (0, 0)), (some b7, .cells #[Value.func (.func 87) #[] #[Value.pointer (some ⟨b3, 0, none⟩), Value.pointer (some ⟨b6, 0, none⟩), Value.pointer (some ⟨b5, 0, none⟩), Value.pointer (some ⟨b1, 0, none⟩), Value.pointer (some ⟨b7, 0, none⟩)]] 147 (0, 0)), (some b3, .cells #[Value.slice (rowA oby1_3) y1_3.length cy1_3] 62 (0, 0))] w12 := HS16.front (i := 6) rfl
        have HS18 : St [] h0 w0 h1 [(some b3, .cells #[Value.slice (rowA oby1_3) y1_3.length cy1_3] 62 (0, 0)), (oby1_3, .cells (csy1_3).toArray 3 (0, 0)), (some b6, .cells #[Value.bool y1_1] 4 (0, 0)), (some b5, .cells #[Value.slice (rowA oby1_2) y1_2.length cy1_2] 112 (0, 0)), (oby1_2, .cells (csy1_2).toArray 4 (0, 0)), (some b1, .cells #[Value.slice A0_0 a0.vDefs.length c0_0] 24 (0, 0)), (some b7, .cells #[Value.func (.func 87) #[] #[Value.pointer (some ⟨b3, 0, none⟩), Value.pointer (some ⟨b6, 0, none⟩), Value.pointer (some ⟨b5, 0, none⟩), Value.pointer (some ⟨b1, 0, none⟩), Value.pointer (some ⟨b7, 0, none⟩)]] 147 (0, 0))] w12 := HS17.front (i := 6) rfl
        refine run_call (vs := [Value.int .i64 y1_0]) (caps := [Value.pointer (some ⟨b3, 0, none⟩), Value.pointer (some ⟨b6, 0, none⟩), Value.pointer (some ⟨b5, 0, none⟩), Value.pointer (some ⟨b1, 0, none⟩), Value.pointer (some ⟨b7, 0, none⟩)]) Tryd.call87 rfl rfl (ctf_sizes_1.calls k y1_0 y1_3 y1_1 y1_2 a0.vDefs b3 oby1_3 cy1_3 csy1_3 b6 b5 oby1_2 cy1_2 csy1_2 b1 A0_0 c0_0 b7 HS18 hoy1_3 hoy1_2 (hr0_0.ext HS18.sub) hc0_0 H1) ?_
        rintro _ w13 ⟨h2, obv1_x0, cv1_x0, csv1_x0, obv1_x2, cv1_x2, csv1_x2, rfl, hov1_x0, hov1_x2, hs1, HS19⟩
        refine ⟨_, rfl, ?_⟩
        have HS20 : St [] h0 w0 h2 [(some b1, .cells #[Value.slice A0_0 a0.vDefs.length c0_0] 24 (0, 0)), (some b3, .cells #[Value.slice (rowA obv1_x0) v1.2.1.length cv1_x0] 62 (0, 0)), (obv1_x0, .cells (csv1_x0).toArray 3 (0, 0)), (some b6, .cells #[Value.bool v1.2.2.1] 4 (0, 0)), (some b5, .cells #[Value.slice (rowA obv1_x2) v1.2.2.2.length cv1_x2] 112 (0, 0)), (obv1_x2, .cells (csv1_x2).toArray 4 (0, 0)), (some b7, .cells #[Value.func (.func 87) #[] #[Value.pointer (some ⟨b3, 0, none⟩), Value.pointer (some ⟨b6, 0, none⟩), Value.pointer (some ⟨b5, 0, none⟩), Value.pointer (some ⟨b1, 0, none⟩), Value.pointer (some ⟨b7, 0, none⟩)]] 147 (0, 0))] w13 := HS19.front (i := 5) rfl
        have HS21 : St [] h0 w0 h2 [(obv1_x0, .cells (csv1_x0).toArray 3 (0, 0)), (some b1, .cells #[Value.slice A0_0 a0.vDefs.length c0_0] 24 (0, 0)), (some b3, .cells #[Value.slice (rowA obv1_x0) v1.2.1.length cv1_x0] 62 (0, 0)), (some b6, .cells #[Value.bool v1.2.2.1] 4 (0, 0)), (some b5, .cells #[Value.slice (rowA obv1_x2) v1.2.2.2.length cv1_x2] 112 (0, 0)), (obv1_x2, .cells (csv1_x2).toArray 4 (0, 0)), (some b7, .cells #[Value.func (.func 87) #[] #[Value.pointer (some ⟨b3, 0, none⟩), Value.pointer (some ⟨b6, 0, none⟩), Value.pointer (some ⟨b5, 0, none⟩), Value.pointer (some ⟨b1, 0, none⟩), Value.pointer (some ⟨b7, 0, none⟩)]] 147 (0, 0))] w13 := HS20.front (i := 2) rfl
        have HS22 : St [] h0 w0 h2 [(some b3, .cells #[Value.slice (rowA obv1_x0) v1.2.1.length cv1_x0] 62 (0, 0)), (obv1_x0, .cells (csv1_x0).toArray 3 (0, 0)), (some b1, .cells #[Value.slice A0_0 a0.vDefs.length c0_0] 24 (0, 0)), (some b6, .cells #[Value.bool v1.2.2.1] 4 (0, 0)), (some b5, .cells #[Value.slice (rowA obv1_x2) v1.2.2.2.length cv1_x2] 112 (0, 0)), (obv1_x2, .cells (csv1_x2).toArray 4 (0, 0)), (some b7, .cells #[Value.func (.func 87) #[] #[Value.pointer (some ⟨b3, 0, none⟩), Value.pointer (some ⟨b6, 0, none⟩), Value.pointer (some ⟨b5, 0, none⟩), Value.pointer (some ⟨b1, 0, none⟩), Value.pointer (some ⟨b7, 0, none⟩)]] 147 (0, 0))] w13 := HS21.front (i := 2) rfl
        have HS23 : St [] h0 w0 h2 [(obv1_x2, .cells (csv1_x2).toArray 4 (0, 0)), (some b3, .cells #[Value.slice (rowA obv1_x0) v1.2.1.length cv1_x0] 62 (0, 0)), (obv1_x0, .cells (csv1_x0).toArray 3 (0, 0)), (some b1, .cells #[Value.slice A0_0 a0.vDefs.length c0_0] 24 (0, 0)), (some b6, .cells #[Value.bool v1.2.2.1] 4 (0, 0)), (some b5, .cells #[Value.slice (rowA obv1_x2) v1.2.2.2.length cv1_x2] 112 (0, 0)), (some b7, .cells #[Value.func (.func 87) #[] #[Value.pointer (some ⟨b3, 0, none⟩), Value.pointer (some ⟨b6, 0, none⟩), Value.pointer (some ⟨b5, 0, none⟩), Value.pointer (some ⟨b1, 0, none⟩), Value.pointer (some ⟨b7, 0, none⟩)]] 147 (0, 0))] w13 := HS22.front (i := 5) rfl
        have HS24 : St [] h0 w0 h2 [(some b5, .cells #[Value.slice (rowA obv1_x2) v1.2.2.2.length cv1_x2] 112 (0, 0)), (obv1_x2, .cells (csv1_x2).toArray 4 (0, 0)), (some b3, .cells #[Value.slice (rowA obv1_x0) v1.2.1.length cv1_x0] 62 (0, 0)), (obv1_x0, .cells (csv1_x0).toArray 3 (0, 0)), (some b1, .cells #[Value.slice A0_0 a0.vDefs.length c0_0] 24 (0, 0)), (some b6, .cells #[Value.bool v1.2.2.1] 4 (0, 0)), (some b7, .cells #[Value.func (.func 87) #[] #[Value.pointer (some ⟨b3, 0, none⟩), Value.pointer (some ⟨b6, 0, none⟩), Value.pointer (some ⟨b5, 0, none⟩), Value.pointer (some ⟨b1, 0, none⟩), Value.pointer (some ⟨b7, 0, none⟩)]] 147 (0, 0))] w13 := HS23.front (i := 5) rfl
        have HS25 : St [] h0 w0 h2 [(some b6, .cells #[Value.bool v1.2.2.1] 4 (0, 0)), (some b5, .cells #[Value.slice (rowA obv1_x2) v1.2.2.2.length cv1_x2] 112 (0, 0)), (obv1_x2, .cells (csv1_x2).toArray 4 (0, 0)), (some b3, .cells #[Value.slice (rowA obv1_x0) v1.2.1.length cv1_x0] 62 (0, 0)), (obv1_x0, .cells (csv1_x0).toArray 3 (0, 0)), (some b1, .cells #[Value.slice A0_0 a0.vDefs.length c0_0] 24 (0, 0)), (some b7, .cells #[Value.func (.func 87) #[] #[Value.pointer (some ⟨b3, 0, none⟩), Value.pointer (some ⟨b6, 0, none⟩), Value.pointer (some ⟨b5, 0, none⟩), Value.pointer (some ⟨b1, 0, none⟩), Value.pointer (some ⟨b7, 0, none⟩)]] 147 (0, 0))] w13 := HS24.front (i := 5) rfl
        have HS26 : St [] h0 w0 h2 [(some b7, .cells #[Value.func (.func 87) #[] #[Value.pointer (some ⟨b3, 0, none⟩), Value.pointer (some ⟨b6, 0, none⟩), Value.pointer (some ⟨b5, 0, none⟩), Value.pointer (some ⟨b1, 0, none⟩), Value.pointer (some ⟨b7, 0, none⟩)]] 147 (0, 0)), (some b6, .cells #[Value.bool v1.2.2.1] 4 (0, 0)), (some b5, .cells #[Value.slice (rowA obv1_x2) v1.2.2.2.length cv1_x2] 112 (0, 0)), (obv1_x2, .cells (csv1_x2).toArray 4 (0, 0)), (some b3, .cells #[Value.slice (rowA obv1_x0) v1.2.1.length cv1_x0] 62 (0, 0)), (obv1_x0, .cells (csv1_x0).toArray 3 (0, 0)), (some b1, .cells #[Value.slice A0_0 a0.vDefs.length c0_0] 24 (0, 0))] w13 := HS25.front (i := 6) rfl
        try simp only [List.set_cons_zero, List.set_cons_succ]
        refine run_nil ?_
        refine norm_block ?_
        refine norm_then ?_
        refine region ?_
        refine run_same (v := Value.int .i64 (IntKind.wrap .i64 (y1_0 + 1))) rfl rfl (r_bin rfl rfl rfl) ?_
        refine run_same (v := Value.int .i64 (IntKind.wrap .i64 (y1_0 + 1))) rfl rfl (r_move rfl) ?_
        try simp only [List.set_cons_zero, List.set_cons_succ]
        refine run_nil ?_
        refine again m [Value.int .i64 y1_0, Value.int .i64 (IntKind.wrap .i64 (y1_0 + 1)), Value.bool (decide (y1_0 < (a0.vDefs.length : Int))), Value.int .i64 y1_0, Value.func (.func 87) #[] #[Value.pointer (some ⟨b3, 0, none⟩), Value.pointer (some ⟨b6, 0, none⟩), Value.pointer (some ⟨b5, 0, none⟩), Value.pointer (some ⟨b1, 0, none⟩), Value.pointer (some ⟨b7, 0, none⟩)], Value.int .i64 y1_0, Value.int .i64 v1.1, Value.int .i64 (IntKind.wrap .i64 (y1_0 + 1))] (Nat.lt_succ_self m) (by simp only [patch, List.set_cons_zero, List.set_cons_succ]) ⟨(IntKind.wrap .i64 (y1_0 + 1)), v1.2.2.1, v1.2.2.2, v1.2.1, h2, obv1_x2, cv1_x2, csv1_x2, obv1_x0, cv1_x0, csv1_x0, _, _, _, _, _, _, _, rfl, H, hov1_x2.norm, hov1_x0.norm, HS26⟩
      · replace H := of_neg H (nt c1)
        refine wp_exit ?_
        refine exit_then ?_
        obtain rfl := Option.some.inj H
        refine leave [uy1_8, Value.int .i64 y1_0, Value.bool (decide (y1_0 < (a0.vDefs.length : Int))), uy1_23, uy1_24, uy1_25, uy1_26, uy1_27] (by simp only [patch, List.set_cons_zero, List.set_cons_succ]) ⟨h1, oby1_2, cy1_2, csy1_2, oby1_3, cy1_3, csy1_3, _, _, _, _, _, _, _, _, rfl, hoy1_2.norm, hoy1_3.norm, HS12⟩
  · rintro us w14 ⟨h3, obo1_1, co1_1, cso1_1, obo1_2, co1_2, cso1_2, uo1_8, uo1_21, uo1_22, uo1_23, uo1_24, uo1_25, uo1_26, uo1_27, rfl, hoo1_1, hoo1_2, HS27⟩
    replace H := G1
    clear G1
    try simp only [patch, List.set_cons_zero, List.set_cons_succ]
    refine norm_then ?_
    refine wp_seq ?_
    refine drawn [.eq (Value.slice (rowA obo1_2) xx1.2.2.length co1_2), .eq (Value.bool xx1.1), .eq (Value.slice (rowA obo1_2) xx1.2.2.length co1_2)] [28, 29, 2] hmix (by kernel_rfl) rfl (stable_eq (stable_eq (stable_eq stable_nil))) ⟨ob_plain rfl (fun a' w' hE hk => by have HSd := HS27.step hE; exact does_eq (r_loadBox (show _ = Value.pointer (some ⟨b3, 0, none⟩) from hk 4 rfl) Tryd.isAgg62 (HSd.look 4 rfl) rfl)), ob_plain rfl (fun a' w' hE hk => by have HSd := HS27.step hE; exact does_eq (r_loadBox (show _ = Value.pointer (some ⟨b6, 0, none⟩) from hk 6 rfl) Tryd.isAgg4 (HSd.look 1 rfl) rfl)), ob_plain rfl (fun a' w' hE hk => by have HSd := HS27.step hE; exact does_eq (r_assign (show _ = Value.slice (rowA obo1_2) xx1.2.2.length co1_2 from hk 28 rfl))), trivial⟩ ?_
    intro w15 hE6
    simp only [List.zip_cons_cons, List.zip_nil_left, List.zip_nil_right, finL, List.set_cons_zero, List.set_cons_succ, List.length_cons, List.length_nil, List.drop_succ_cons, List.drop_zero, Nat.zero_add, Nat.reduceAdd]
    have HS29 := HS27.step hE6
    refine run_same (v := Value.bool xx1.1) rfl rfl (r_assign rfl) ?_
    try simp only [List.set_cons_zero, List.set_cons_succ]
    refine run_nil ?_
    refine norm_then ?_
    refine wp_ret ?_
    obtain rfl := Option.some.inj H
    refine bodyPost_ret (results_2 rfl (one_tmp rfl) (one_tmp rfl)) rfl ?_
    obtain ⟨h4, HS30, hs2, rdp1⟩ := row_pub HS29 (i := 5) rfl hoo1_2
    replace hoo1_1 := hoo1_1.view hs2
    exact ⟨h4, (rowA obo1_2), co1_2, rfl, hoo1_2.cap, rdp1, HS30.gr, HS30.sees, HS30.toE⟩

end Go.Proofs.YtfjppgobidjndaaDoor
namespace Go.Proofs.YtfjppgobidjndaaDoor
open Go.RowKit Go.M
def ctf_named.f (a0 : api_Def) : Option (Bool) := some ((a0.vKind != 2) && (a0.vKind != 3))
set_option maxRecDepth 20000 in
set_option maxHeartbeats 4000000 in
theorem ctf_named.calls (a0 : api_Def) (A0_6 : Option Addr) (c0_6 : Nat) {h0 : View} {w0 : World} (hv : Sees h0 w0) (hr0_6 : Rd k_api_Field h0 A0_6 a0.vFields) (hc0_6 : a0.vFields.length ≤ c0_6) {r : Bool} (H : ctf_named.f a0 = some r) : Calls Tryd.prog 68 #[Value.agg #[Value.int .i64 a0.vKind, Value.string a0.vName, Value.int .i64 a0.vInt.vSize, Value.bool a0.vInt.vSigned, Value.int .i64 a0.vRef, Value.int .i64 a0.vN, Value.slice A0_6 a0.vFields.length c0_6]] w0 (fun e w1 => e = .returned (Value.bool r) ∧ Ext w0 w1) := by
  unfold ctf_named.f at H
  have HS : St [] h0 w0 h0 [] w0 := St.init hv
  go_enter Tryd.func68, Tryd.ntmps68
  refine wp_seq ?_
  refine region ?_
  refine run_ex rfl rfl (does_box (cs := #[Value.int .i64 a0.vKind, Value.string a0.vName, Value.int .i64 a0.vInt.vSize, Value.bool a0.vInt.vSigned, Value.int .i64 a0.vRef, Value.int .i64 a0.vN, Value.slice A0_6 a0.vFields.length c0_6]) rfl rfl) ?_
  rintro w1 _ hE1 ⟨b1, rfl, ge1, hb1⟩
  have HS1 := HS.new hE1 ge1 hb1
  refine run_same (v := Value.bool false) rfl rfl (r_assign rfl) ?_
  try simp only [List.set_cons_zero, List.set_cons_succ]
  refine run_nil ?_
  refine norm_then ?_
  refine wp_seq ?_
  refine region ?_
  refine run_same (v := Value.pointer (some ⟨b1, 0, none⟩)) rfl rfl (r_fieldBox (n := 1) (o' := 0) rfl Tryd.runUnderlying34 rfl Tryd.sizeOf3 (by decide) rfl) ?_
  refine run_same (v := Value.int .i64 a0.vKind) rfl rfl (r_loadBox rfl Tryd.isAgg3 (HS1.look 0 rfl) rfl) ?_
  refine run_same (v := Value.bool (a0.vKind != 2)) rfl rfl (r_bin rfl rfl rfl) ?_
  refine run_same (v := Value.bool (a0.vKind != 2)) rfl rfl (r_move rfl) ?_
  refine run_frame (by simp only [List.set_cons_zero, List.set_cons_succ]; rfl) ?_
  refine run_g_same (b := (a0.vKind != 2)) (c := true) (v := Value.pointer (some ⟨b1, 0, none⟩)) rfl rfl rfl rfl (fun hg => (r_fieldBox (n := 1) (o' := 0) rfl Tryd.runUnderlying34 rfl Tryd.sizeOf3 (by decide) rfl)) ?_
  refine run_g_same (b := (a0.vKind != 2)) (c := true) (v := Value.int .i64 a0.vKind) rfl rfl rfl rfl (fun hg => (r_loadBox ((show _ = gv (true && ((a0.vKind != 2) == true)) (Value.pointer (some ⟨b1, 0, none⟩)) from rfl).trans (gv_t hg)) Tryd.isAgg3 (HS1.look 0 rfl) rfl)) ?_
  refine run_g_same (b := (a0.vKind != 2)) (c := true) (v := Value.bool (a0.vKind != 3)) rfl rfl rfl rfl (fun hg => (r_bin ((show _ = gv (true && ((a0.vKind != 2) == true)) (Value.int .i64 a0.vKind) from rfl).trans (gv_t hg)) rfl rfl)) ?_
  refine run_same (v := Value.bool ((a0.vKind != 2) && (a0.vKind != 3))) rfl rfl (r_pick_and rfl (fun hp => ((show _ = gv (true && ((a0.vKind != 2) == true)) (Value.bool (a0.vKind != 3)) from rfl).trans (gv_t (and_i rfl hp)))) rfl) ?_
  refine run_frame (by simp only [List.set_cons_zero, List.set_cons_succ]; rfl) ?_
  refine run_same (v := Value.bool ((a0.vKind != 2) && (a0.vKind != 3))) rfl rfl (r_assign rfl) ?_
  try simp only [List.set_cons_zero, List.set_cons_succ]
  refine run_nil ?_
  refine norm_then ?_
  refine wp_ret ?_
  obtain rfl := Option.some.inj H
  refine bodyPost_ret (results_1 rfl (one_tmp rfl)) rfl ?_
  exact ⟨rfl, HS1.toE⟩

end Go.Proofs.YtfjppgobidjndaaDoor
namespace Go.Proofs.YtfjppgobidjndaaDoor
open Go.RowKit Go.M
def ctf_shapes.f  : Option ((List (Int × ctf_shape))) := some (mput ieq (mput ieq (mput ieq (mput ieq (mput ieq (mput ieq ([] : List (Int × ctf_shape)) 1 (⟨true, true, false, false, false⟩ : ctf_shape)) 2 (⟨false, false, true, false, false⟩ : ctf_shape)) 3 (⟨false, false, true, true, false⟩ : ctf_shape)) 4 (⟨true, false, false, true, true⟩ : ctf_shape)) 5 (⟨true, false, false, false, true⟩ : ctf_shape)) 6 (⟨true, false, true, false, false⟩ : ctf_shape))
set_option maxRecDepth 20000 in
set_option maxHeartbeats 4000000 in
theorem ctf_shapes.calls   {h0 : View} {w0 : World} (hv : Sees h0 w0) {r : (List (Int × ctf_shape))} (H : ctf_shapes.f = some r) : Calls Tryd.prog 116 #[] w0 (fun e w1 => ∃ (b : Nat) (es : Array MapEntry) (cl : Nat), e = .returned (.map (some b)) ∧ (w0.heap.size ≤ b ∧ w1.heap[b]? = some (.map es cl)) ∧ MapOk (Value.int .i64) e_ctf_shape r es cl ∧ Ext w0 w1) := by
  unfold ctf_shapes.f at H
  have HS : St [] h0 w0 h0 [] w0 := St.init hv
  go_enter Tryd.func116, Tryd.ntmps116
  refine wp_seq ?_
  refine region ?_
  refine run_same (v := Value.map none) rfl rfl (r_assign rfl) ?_
  try simp only [List.set_cons_zero, List.set_cons_succ]
  refine run_nil ?_
  refine norm_then ?_
  refine wp_seq ?_
  refine region ?_
  refine run_mkmap HS ?_
  intro w1 b1 HS1
  refine run_same (v := Value.agg #[Value.bool true, Value.bool true, Value.bool false, Value.bool false, Value.bool false]) rfl rfl (r_build (cs := [Value.bool true, Value.bool true, Value.bool false, Value.bool false, Value.bool false]) (ps := [(0, Value.bool true), (1, Value.bool true)]) Tryd.zeroValue171 Tryd.runUnderlying171 (pl := #[(0, 1), (1, 1), (2, 1), (3, 1), (4, 1)]) (fun w => by simp [Tryd.sizeOf4]) (parts_2 (show _ = Value.bool true from rfl) (show _ = Value.bool true from rfl)) rfl) ?_
  refine mupd (key_int Tryd.runUnderlying3) (i := 0) (k := 1) (v := (⟨true, true, false, false, false⟩ : ctf_shape)) (ev := e_ctf_shape) (m := ([] : List (Int × ctf_shape))) (by first | exact .inl rfl | exact .inr rfl) rfl rfl rfl rfl rfl Tryd.runUnderlying172 HS1 rfl (MapOk.nil) ?_
  intro w2 es1 cl1 HS2 ho1
  refine run_same (v := Value.agg #[Value.bool false, Value.bool false, Value.bool true, Value.bool false, Value.bool false]) rfl rfl (r_build (cs := [Value.bool false, Value.bool false, Value.bool true, Value.bool false, Value.bool false]) (ps := [(2, Value.bool true)]) Tryd.zeroValue171 Tryd.runUnderlying171 (pl := #[(0, 1), (1, 1), (2, 1), (3, 1), (4, 1)]) (fun w => by simp [Tryd.sizeOf4]) (parts_1 (show _ = Value.bool true from rfl)) rfl) ?_
  refine run_frame (by simp only [List.set_cons_zero, List.set_cons_succ]; rfl) ?_
  refine mupd (key_int Tryd.runUnderlying3) (i := 0) (k := 2) (v := (⟨false, false, true, false, false⟩ : ctf_shape)) (ev := e_ctf_shape) (m := (mput ieq ([] : List (Int × ctf_shape)) 1 (⟨true, true, false, false, false⟩ : ctf_shape))) (by first | exact .inl rfl | exact .inr rfl) rfl rfl rfl rfl rfl Tryd.runUnderlying172 HS2 rfl ho1 ?_
  intro w3 es2 cl2 HS3 ho2
  refine run_same (v := Value.agg #[Value.bool false, Value.bool false, Value.bool true, Value.bool true, Value.bool false]) rfl rfl (r_build (cs := [Value.bool false, Value.bool false, Value.bool true, Value.bool true, Value.bool false]) (ps := [(2, Value.bool true), (3, Value.bool true)]) Tryd.zeroValue171 Tryd.runUnderlying171 (pl := #[(0, 1), (1, 1), (2, 1), (3, 1), (4, 1)]) (fun w => by simp [Tryd.sizeOf4]) (parts_2 (show _ = Value.bool true from rfl) (show _ = Value.bool true from rfl)) rfl) ?_
  refine mupd (key_int Tryd.runUnderlying3) (i := 0) (k := 3) (v := (⟨false, false, true, true, false⟩ : ctf_shape)) (ev := e_ctf_shape) (m := (mput ieq (mput ieq ([] : List (Int × ctf_shape)) 1 (⟨true, true, false, false, false⟩ : ctf_shape)) 2 (⟨false, false, true, false, false⟩ : ctf_shape))) (by first | exact .inl rfl | exact .inr rfl) rfl rfl rfl rfl rfl Tryd.runUnderlying172 HS3 rfl ho2 ?_
  intro w4 es3 cl3 HS4 ho3
  refine run_same (v := Value.agg #[Value.bool true, Value.bool false, Value.bool false, Value.bool true, Value.bool true]) rfl rfl (r_build (cs := [Value.bool true, Value.bool false, Value.bool false, Value.bool true, Value.bool true]) (ps := [(0, Value.bool true), (3, Value.bool true), (4, Value.bool true)]) Tryd.zeroValue171 Tryd.runUnderlying171 (pl := #[(0, 1), (1, 1), (2, 1), (3, 1), (4, 1)]) (fun w => by simp [Tryd.sizeOf4]) (parts_3 (show _ = Value.bool true from rfl) (show _ = Value.bool true from rfl) (show _ = Value.bool true from rfl)) rfl) ?_
  refine run_frame (by simp only [List.set_cons_zero, List.set_cons_succ]; rfl) ?_
  refine mupd (key_int Tryd.runUnderlying3) (i := 0) (k := 4) (v := (⟨true, false, false, true, true⟩ : ctf_shape)) (ev := e_ctf_shape) (m := (mput ieq (mput ieq (mput ieq ([] : List (Int × ctf_shape)) 1 (⟨true, true, false, false, false⟩ : ctf_shape)) 2 (⟨false, false, true, false, false⟩ : ctf_shape)) 3 (⟨false, false, true, true, false⟩ : ctf_shape))) (by first | exact .inl rfl | exact .inr rfl) rfl rfl rfl rfl rfl Tryd.runUnderlying172 HS4 rfl ho3 ?_
  intro w5 es4 cl4 HS5 ho4
  refine run_same (v := Value.agg #[Value.bool true, Value.bool false, Value.bool false, Value.bool false, Value.bool true]) rfl rfl (r_build (cs := [Value.bool true, Value.bool false, Value.bool false, Value.bool false, Value.bool true]) (ps := [(0, Value.bool true), (4, Value.bool true)]) Tryd.zeroValue171 Tryd.runUnderlying171 (pl := #[(0, 1), (1, 1), (2, 1), (3, 1), (4, 1)]) (fun w => by simp [Tryd.sizeOf4]) (parts_2 (show _ = Value.bool true from rfl) (show _ = Value.bool true from rfl)) rfl) ?_
  refine mupd (key_int Tryd.runUnderlying3) (i := 0) (k := 5) (v := (⟨true, false, false, false, true⟩ : ctf_shape)) (ev := e_ctf_shape) (m := (mput ieq (mput ieq (mput ieq (mput ieq ([] : List (Int × ctf_shape)) 1 (⟨true, true, false, false, false⟩ : ctf_shape)) 2 (⟨false, false, true, false, false⟩ : ctf_shape)) 3 (⟨false, false, true, true, false⟩ : ctf_shape)) 4 (⟨true, false, false, true, true⟩ : ctf_shape))) (by first | exact .inl rfl | exact .inr rfl) rfl rfl rfl rfl rfl Tryd.runUnderlying172 HS5 rfl ho4 ?_
  intro w6 es5 cl5 HS6 ho5
  refine run_same (v := Value.agg #[Value.bool true, Value.bool false, Value.bool true, Value.bool false, Value.bool false]) rfl rfl (r_build (cs := [Value.bool true, Value.bool false, Value.bool true, Value.bool false, Value.bool false]) (ps := [(0, Value.bool true), (2, Value.bool true)]) Tryd.zeroValue171 Tryd.runUnderlying171 (pl := #[(0, 1), (1, 1), (2, 1), (3, 1), (4, 1)]) (fun w => by simp [Tryd.sizeOf4]) (parts_2 (show _ = Value.bool true from rfl) (show _ = Value.bool true from rfl)) rfl) ?_
  refine run_frame (by simp only [List.set_cons_zero, List.set_cons_succ]; rfl) ?_
  refine mupd (key_int Tryd.runUnderlying3) (i := 0) (k := 6) (v := (⟨true, false, true, false, false⟩ : ctf_shape)) (ev := e_ctf_shape) (m := (mput ieq (mput ieq (mput ieq (mput ieq (mput ieq ([] : List (Int × ctf_shape)) 1 (⟨true, true, false, false, false⟩ : ctf_shape)) 2 (⟨false, false, true, false, false⟩ : ctf_shape)) 3 (⟨false, false, true, true, false⟩ : ctf_shape)) 4 (⟨true, false, false, true, true⟩ : ctf_shape)) 5 (⟨true, false, false, false, true⟩ : ctf_shape))) (by first | exact .inl rfl | exact .inr rfl) rfl rfl rfl rfl rfl Tryd.runUnderlying172 HS6 rfl ho5 ?_
  intro w7 es6 cl6 HS7 ho6
  refine run_same (v := Value.map (some b1)) rfl rfl (r_move rfl) ?_
  refine run_same (v := Value.map (some b1)) rfl rfl (r_assign rfl) ?_
  try simp only [List.set_cons_zero, List.set_cons_succ]
  refine run_nil ?_
  refine norm_then ?_
  refine wp_ret ?_
  obtain rfl := Option.some.inj H
  refine bodyPost_ret (results_1 rfl (one_tmp rfl)) rfl ?_
  exact ⟨b1, es6, cl6, rfl, HS7.fresh 0 rfl, ho6, HS7.toE⟩

end Go.Proofs.YtfjppgobidjndaaDoor
namespace Go.Proofs.YtfjppgobidjndaaDoor
open Go.RowKit Go.M
def ctf_isName.l0 (a0 : ByteArray) : Nat → Int → Option ((Bool) ⊕ (Unit))
  | 0, _ => none
  | m + 1, y1_0 => if (decide (y1_0 < ((bytesOf a0).length : Int))) = true then (if 0 ≤ y1_0 ∧ y1_0 < (bytesOf a0).length then (if ((!((((decide ((rd 0 (bytesOf a0) y1_0) ≥ 97)) && (decide ((rd 0 (bytesOf a0) y1_0) ≤ 122))) || ((decide ((rd 0 (bytesOf a0) y1_0) ≥ 65)) && (decide ((rd 0 (bytesOf a0) y1_0) ≤ 90)))) || ((rd 0 (bytesOf a0) y1_0) == 95))) && (((y1_0 == 0) || (decide ((rd 0 (bytesOf a0) y1_0) < 48))) || (decide ((rd 0 (bytesOf a0) y1_0) > 57)))) = true then (some (.inl false)) else (ctf_isName.l0 a0 m (IntKind.wrap .i64 (y1_0 + 1)))) else none) else (some (.inr ()))
def ctf_isName.f (k : Nat) (a0 : ByteArray) : Option (Bool) := if a0.size ≤ 9223372036854775807 then ((ctf_isName.l0 a0 k 0).bind fun xx1 => (match xx1 with | .inl r => some r | .inr s1 => some ((!(strEq a0 ByteArray.empty)) && (decide ((a0.size : Int) ≤ 31))))) else none
set_option maxRecDepth 20000 in
set_option maxHeartbeats 4000000 in
theorem ctf_isName.calls (k : Nat) (a0 : ByteArray)  {h0 : View} {w0 : World} (hv : Sees h0 w0) {r : Bool} (H : ctf_isName.f k a0 = some r) : Calls Tryd.prog 118 #[Value.string a0] w0 (fun e w1 => e = .returned (Value.bool r) ∧ Ext w0 w1) := by
  unfold ctf_isName.f at H
  have HS : St [] h0 w0 h0 [] w0 := St.init hv
  go_enter Tryd.func118, Tryd.ntmps118
  refine wp_seq ?_
  refine region ?_
  refine run_same (v := Value.bool false) rfl rfl (r_assign rfl) ?_
  try simp only [List.set_cons_zero, List.set_cons_succ]
  refine run_nil ?_
  refine norm_then ?_
  refine wp_seq ?_
  refine wp_seq ?_
  refine region ?_
  refine run_same (v := Value.string a0) rfl rfl (r_move rfl) ?_
  obtain ⟨hl1, H⟩ := of_ite H
  refine run_s2b (s := a0) rfl Tryd.runUnderlying9 Tryd.runUnderlying80 Tryd.runUnderlying5 hl1 HS ?_
  intro w1 h1 As1 cs1 HS1 sb1 hcs1 hrs1
  refine run_same (v := Value.int .i64 ((bytesOf a0).length : Int)) rfl rfl (r_len rfl Tryd.runUnderlying80) ?_
  refine run_same (v := Value.int .i64 0) rfl rfl (r_move rfl) ?_
  try simp only [List.set_cons_zero, List.set_cons_succ]
  refine run_nil ?_
  refine norm_then ?_
  obtain ⟨xx1, H, G1⟩ := of_bind H
  refine loop_patch [2, 3, 4, 5, 9, 10, 11, 12, 13, 14, 15, 16, 17, 18, 19, 20, 21, 22, 23, 24, 25, 26, 27, 28, 29, 30, 31, 32, 33, 34, 35, 36, 37, 38, 39, 40, 41, 42, 43, 44, 45, 46] (fun m us w' => ∃ (y1_0 : Int), ∃ (uy1_2 : Value), ∃ (uy1_3 : Value), ∃ (uy1_4 : Value), ∃ (uy1_5 : Value), ∃ (uy1_10 : Value), ∃ (uy1_11 : Value), ∃ (uy1_12 : Value), ∃ (uy1_13 : Value), ∃ (uy1_14 : Value), ∃ (uy1_15 : Value), ∃ (uy1_16 : Value), ∃ (uy1_17 : Value), ∃ (uy1_18 : Value), ∃ (uy1_19 : Value), ∃ (uy1_20 : Value), ∃ (uy1_21 : Value), ∃ (uy1_22 : Value), ∃ (uy1_23 : Value), ∃ (uy1_24 : Value), ∃ (uy1_25 : Value), ∃ (uy1_26 : Value), ∃ (uy1_27 : Value), ∃ (uy1_28 : Value), ∃ (uy1_29 : Value), ∃ (uy1_30 : Value), ∃ (uy1_31 : Value), ∃ (uy1_32 : Value), ∃ (uy1_33 : Value), ∃ (uy1_34 : Value), ∃ (uy1_35 : Value), ∃ (uy1_36 : Value), ∃ (uy1_37 : Value), ∃ (uy1_38 : Value), ∃ (uy1_39 : Value), ∃ (uy1_40 : Value), ∃ (uy1_41 : Value), ∃ (uy1_42 : Value), ∃ (uy1_43 : Value), ∃ (uy1_44 : Value), ∃ (uy1_45 : Value), ∃ (uy1_46 : Value), us = [uy1_2, uy1_3, uy1_4, uy1_5, Value.int .i64 y1_0, uy1_10, uy1_11, uy1_12, uy1_13, uy1_14, uy1_15, uy1_16, uy1_17, uy1_18, uy1_19, uy1_20, uy1_21, uy1_22, uy1_23, uy1_24, uy1_25, uy1_26, uy1_27, uy1_28, uy1_29, uy1_30, uy1_31, uy1_32, uy1_33, uy1_34, uy1_35, uy1_36, uy1_37, uy1_38, uy1_39, uy1_40, uy1_41, uy1_42, uy1_43, uy1_44, uy1_45, uy1_46] ∧ ctf_isName.l0 a0 m y1_0 = some xx1 ∧ St [] h0 w0 h1 [] w') (fun us w' => ∃ (s1 : Unit), xx1 = .inr s1 ∧ ∃ (uo1_2 : Value), ∃ (uo1_3 : Value), ∃ (uo1_4 : Value), ∃ (uo1_5 : Value), ∃ (uo1_9 : Value), ∃ (uo1_10 : Value), ∃ (uo1_11 : Value), ∃ (uo1_12 : Value), ∃ (uo1_13 : Value), ∃ (uo1_14 : Value), ∃ (uo1_15 : Value), ∃ (uo1_16 : Value), ∃ (uo1_17 : Value), ∃ (uo1_18 : Value), ∃ (uo1_19 : Value), ∃ (uo1_20 : Value), ∃ (uo1_21 : Value), ∃ (uo1_22 : Value), ∃ (uo1_23 : Value), ∃ (uo1_24 : Value), ∃ (uo1_25 : Value), ∃ (uo1_26 : Value), ∃ (uo1_27 : Value), ∃ (uo1_28 : Value), ∃ (uo1_29 : Value), ∃ (uo1_30 : Value), ∃ (uo1_31 : Value), ∃ (uo1_32 : Value), ∃ (uo1_33 : Value), ∃ (uo1_34 : Value), ∃ (uo1_35 : Value), ∃ (uo1_36 : Value), ∃ (uo1_37 : Value), ∃ (uo1_38 : Value), ∃ (uo1_39 : Value), ∃ (uo1_40 : Value), ∃ (uo1_41 : Value), ∃ (uo1_42 : Value), ∃ (uo1_43 : Value), ∃ (uo1_44 : Value), ∃ (uo1_45 : Value), ∃ (uo1_46 : Value), us = [uo1_2, uo1_3, uo1_4, uo1_5, uo1_9, uo1_10, uo1_11, uo1_12, uo1_13, uo1_14, uo1_15, uo1_16, uo1_17, uo1_18, uo1_19, uo1_20, uo1_21, uo1_22, uo1_23, uo1_24, uo1_25, uo1_26, uo1_27, uo1_28, uo1_29, uo1_30, uo1_31, uo1_32, uo1_33, uo1_34, uo1_35, uo1_36, uo1_37, uo1_38, uo1_39, uo1_40, uo1_41, uo1_42, uo1_43, uo1_44, uo1_45, uo1_46] ∧ St [] h0 w0 h1 [] w') k [Value.bool false, undef, undef, undef, Value.int .i64 0, undef, undef, undef, undef, undef, undef, undef, undef, undef, undef, undef, undef, undef, undef, undef, undef, undef, undef, undef, undef, undef, undef, undef, undef, undef, undef, undef, undef, undef, undef, undef, undef, undef, undef, undef, undef, undef] (by simp only [patch, List.set_cons_zero, List.set_cons_succ]) ⟨0, _, _, _, _, _, _, _, _, _, _, _, _, _, _, _, _, _, _, _, _, _, _, _, _, _, _, _, _, _, _, _, _, _, _, _, _, _, _, _, _, _, rfl, H, HS1⟩ ?_ ?_
  · rintro m us w2 ⟨y1_0, uy1_2, uy1_3, uy1_4, uy1_5, uy1_10, uy1_11, uy1_12, uy1_13, uy1_14, uy1_15, uy1_16, uy1_17, uy1_18, uy1_19, uy1_20, uy1_21, uy1_22, uy1_23, uy1_24, uy1_25, uy1_26, uy1_27, uy1_28, uy1_29, uy1_30, uy1_31, uy1_32, uy1_33, uy1_34, uy1_35, uy1_36, uy1_37, uy1_38, uy1_39, uy1_40, uy1_41, uy1_42, uy1_43, uy1_44, uy1_45, uy1_46, rfl, H, HS2⟩
    cases m with
    | zero => exact absurd H (by simp [ctf_isName.l0])
    | succ m =>
      rw [ctf_isName.l0] at H
      try simp only [patch, List.set_cons_zero, List.set_cons_succ]
      refine wp_seq ?_
      refine region ?_
      refine run_same (v := Value.bool (decide (y1_0 < ((bytesOf a0).length : Int)))) rfl rfl (r_bin rfl rfl rfl) ?_
      try simp only [List.set_cons_zero, List.set_cons_succ]
      refine run_nil ?_
      refine norm_then ?_
      refine wp_seq ?_
      refine wp_cond_split (t := (decide (y1_0 < ((bytesOf a0).length : Int)))) rfl (fun c1 => ?_) (fun c1 => ?_)
      · replace H := of_pos H c1
        refine wp_skip ?_
        refine norm_then ?_
        refine wp_seq ?_
        refine wp_block ?_
        refine wp_seq ?_
        refine region ?_
        refine run_same (v := Value.int .i64 y1_0) rfl rfl (r_move rfl) ?_
        obtain ⟨hi1, H⟩ := of_ite H
        obtain ⟨ad1, e1, hel1⟩ := ld_int hrs1 hi1.1 hi1.2
        refine run_same (v := Value.pointer (some (Addr.add ad1 (y1_0.toNat * 1)))) rfl rfl (r_indexA (sz := 1) rfl e1 rfl hi1.1 hi1.2 Tryd.runUnderlying80 Tryd.sizeOf5) ?_
        refine run_same (v := Value.int .u8 (rd 0 (bytesOf a0) y1_0)) rfl rfl (r_load rfl Tryd.isAgg5 (hel1.cell0 HS2.sees rfl)) ?_
        refine run_same (v := Value.int .i64 y1_0) rfl rfl (r_assign rfl) ?_
        refine run_frame (by simp only [List.set_cons_zero, List.set_cons_succ]; rfl) ?_
        refine run_same (v := Value.int .u8 (rd 0 (bytesOf a0) y1_0)) rfl rfl (r_assign rfl) ?_
        try simp only [List.set_cons_zero, List.set_cons_succ]
        refine run_nil ?_
        refine norm_then ?_
        refine wp_seq ?_
        refine region ?_
        refine run_same (v := Value.int .u8 (rd 0 (bytesOf a0) y1_0)) rfl rfl (r_move rfl) ?_
        refine run_same (v := Value.bool (decide ((rd 0 (bytesOf a0) y1_0) ≥ 97))) rfl rfl (r_bin rfl rfl rfl) ?_
        refine run_same (v := Value.bool (decide ((rd 0 (bytesOf a0) y1_0) ≥ 97))) rfl rfl (r_move rfl) ?_
        refine run_g_same (b := (decide ((rd 0 (bytesOf a0) y1_0) ≥ 97))) (c := true) (v := Value.int .u8 (rd 0 (bytesOf a0) y1_0)) rfl rfl rfl rfl (fun hg => (r_move rfl)) ?_
        refine run_frame (by simp only [List.set_cons_zero, List.set_cons_succ]; rfl) ?_
        refine run_g_same (b := (decide ((rd 0 (bytesOf a0) y1_0) ≥ 97))) (c := true) (v := Value.bool (decide ((rd 0 (bytesOf a0) y1_0) ≤ 122))) rfl rfl rfl rfl (fun hg => (r_bin ((show _ = gv (true && ((decide ((rd 0 (bytesOf a0) y1_0) ≥ 97)) == true)) (Value.int .u8 (rd 0 (bytesOf a0) y1_0)) from rfl).trans (gv_t hg)) rfl rfl)) ?_
        refine run_same (v := Value.bool ((decide ((rd 0 (bytesOf a0) y1_0) ≥ 97)) && (decide ((rd 0 (bytesOf a0) y1_0) ≤ 122)))) rfl rfl (r_pick_and rfl (fun hp => ((show _ = gv (true && ((decide ((rd 0 (bytesOf a0) y1_0) ≥ 97)) == true)) (Value.bool (decide ((rd 0 (bytesOf a0) y1_0) ≤ 122))) from rfl).trans (gv_t (and_i rfl hp)))) rfl) ?_
        refine run_same (v := Value.bool ((decide ((rd 0 (bytesOf a0) y1_0) ≥ 97)) && (decide ((rd 0 (bytesOf a0) y1_0) ≤ 122)))) rfl rfl (r_move rfl) ?_
        refine run_g_same (b := ((decide ((rd 0 (bytesOf a0) y1_0) ≥ 97)) && (decide ((rd 0 (bytesOf a0) y1_0) ≤ 122)))) (c := true) (v := Value.int .u8 (rd 0 (bytesOf a0) y1_0)) rfl rfl rfl rfl (fun hg => (r_move rfl)) ?_
        refine run_frame (by simp only [List.set_cons_zero, List.set_cons_succ]; rfl) ?_
        refine run_g_same (b := ((decide ((rd 0 (bytesOf a0) y1_0) ≥ 97)) && (decide ((rd 0 (bytesOf a0) y1_0) ≤ 122)))) (c := true) (v := Value.bool (decide ((rd 0 (bytesOf a0) y1_0) ≥ 65))) rfl rfl rfl rfl (fun hg => (r_bin ((show _ = gv (true && (((decide ((rd 0 (bytesOf a0) y1_0) ≥ 97)) && (decide ((rd 0 (bytesOf a0) y1_0) ≤ 122))) == false)) (Value.int .u8 (rd 0 (bytesOf a0) y1_0)) from rfl).trans (gv_t hg)) rfl rfl)) ?_
        refine run_g_same (b := ((decide ((rd 0 (bytesOf a0) y1_0) ≥ 97)) && (decide ((rd 0 (bytesOf a0) y1_0) ≤ 122)))) (c := true) (v := Value.bool (decide ((rd 0 (bytesOf a0) y1_0) ≥ 65))) rfl rfl rfl rfl (fun hg => (r_move ((show _ = gv (true && (((decide ((rd 0 (bytesOf a0) y1_0) ≥ 97)) && (decide ((rd 0 (bytesOf a0) y1_0) ≤ 122))) == false)) (Value.bool (decide ((rd 0 (bytesOf a0) y1_0) ≥ 65))) from rfl).trans (gv_t hg)))) ?_
        refine run_g_same (b := (decide ((rd 0 (bytesOf a0) y1_0) ≥ 65))) (c := (true && (((decide ((rd 0 (bytesOf a0) y1_0) ≥ 97)) && (decide ((rd 0 (bytesOf a0) y1_0) ≤ 122))) == false))) (v := Value.int .u8 (rd 0 (bytesOf a0) y1_0)) rfl rfl rfl rfl (fun hg => (r_move rfl)) ?_
        refine run_g_same (b := (decide ((rd 0 (bytesOf a0) y1_0) ≥ 65))) (c := (true && (((decide ((rd 0 (bytesOf a0) y1_0) ≥ 97)) && (decide ((rd 0 (bytesOf a0) y1_0) ≤ 122))) == false))) (v := Value.bool (decide ((rd 0 (bytesOf a0) y1_0) ≤ 90))) rfl rfl rfl rfl (fun hg => (r_bin ((show _ = gv ((true && (((decide ((rd 0 (bytesOf a0) y1_0) ≥ 97)) && (decide ((rd 0 (bytesOf a0) y1_0) ≤ 122))) == false)) && ((decide ((rd 0 (bytesOf a0) y1_0) ≥ 65)) == true)) (Value.int .u8 (rd 0 (bytesOf a0) y1_0)) from rfl).trans (gv_t hg)) rfl rfl)) ?_
        refine run_frame (by simp only [List.set_cons_zero, List.set_cons_succ]; rfl) ?_
        refine run_g_same (b := ((decide ((rd 0 (bytesOf a0) y1_0) ≥ 97)) && (decide ((rd 0 (bytesOf a0) y1_0) ≤ 122)))) (c := true) (v := Value.bool ((decide ((rd 0 (bytesOf a0) y1_0) ≥ 65)) && (decide ((rd 0 (bytesOf a0) y1_0) ≤ 90)))) rfl rfl rfl rfl (fun hg => (r_pick_and ((show _ = gv (true && (((decide ((rd 0 (bytesOf a0) y1_0) ≥ 97)) && (decide ((rd 0 (bytesOf a0) y1_0) ≤ 122))) == false)) (Value.bool (decide ((rd 0 (bytesOf a0) y1_0) ≥ 65))) from rfl).trans (gv_t hg)) (fun hp => ((show _ = gv ((true && (((decide ((rd 0 (bytesOf a0) y1_0) ≥ 97)) && (decide ((rd 0 (bytesOf a0) y1_0) ≤ 122))) == false)) && ((decide ((rd 0 (bytesOf a0) y1_0) ≥ 65)) == true)) (Value.bool (decide ((rd 0 (bytesOf a0) y1_0) ≤ 90))) from rfl).trans (gv_t (and_i hg hp)))) rfl)) ?_
        refine run_same (v := Value.bool (((decide ((rd 0 (bytesOf a0) y1_0) ≥ 97)) && (decide ((rd 0 (bytesOf a0) y1_0) ≤ 122))) || ((decide ((rd 0 (bytesOf a0) y1_0) ≥ 65)) && (decide ((rd 0 (bytesOf a0) y1_0) ≤ 90))))) rfl rfl (r_pick_or rfl rfl (fun hp => ((show _ = gv (true && (((decide ((rd 0 (bytesOf a0) y1_0) ≥ 97)) && (decide ((rd 0 (bytesOf a0) y1_0) ≤ 122))) == false)) (Value.bool ((decide ((rd 0 (bytesOf a0) y1_0) ≥ 65)) && (decide ((rd 0 (bytesOf a0) y1_0) ≤ 90)))) from rfl).trans (gv_t (and_i rfl hp))))) ?_
        refine run_same (v := Value.bool (((decide ((rd 0 (bytesOf a0) y1_0) ≥ 97)) && (decide ((rd 0 (bytesOf a0) y1_0) ≤ 122))) || ((decide ((rd 0 (bytesOf a0) y1_0) ≥ 65)) && (decide ((rd 0 (bytesOf a0) y1_0) ≤ 90))))) rfl rfl (r_move rfl) ?_
        refine run_g_same (b := (((decide ((rd 0 (bytesOf a0) y1_0) ≥ 97)) && (decide ((rd 0 (bytesOf a0) y1_0) ≤ 122))) || ((decide ((rd 0 (bytesOf a0) y1_0) ≥ 65)) && (decide ((rd 0 (bytesOf a0) y1_0) ≤ 90))))) (c := true) (v := Value.int .u8 (rd 0 (bytesOf a0) y1_0)) rfl rfl rfl rfl (fun hg => (r_move rfl)) ?_
        refine run_frame (by simp only [List.set_cons_zero, List.set_cons_succ]; rfl) ?_
        refine run_g_same (b := (((decide ((rd 0 (bytesOf a0) y1_0) ≥ 97)) && (decide ((rd 0 (bytesOf a0) y1_0) ≤ 122))) || ((decide ((rd 0 (bytesOf a0) y1_0) ≥ 65)) && (decide ((rd 0 (bytesOf a0) y1_0) ≤ 90))))) (c := true) (v := Value.bool ((rd 0 (bytesOf a0) y1_0) == 95)) rfl rfl rfl rfl (fun hg => (r_bin ((show _ = gv (true && ((((decide ((rd 0 (bytesOf a0) y1_0) ≥ 97)) && (decide ((rd 0 (bytesOf a0) y1_0) ≤ 122))) || ((decide ((rd 0 (bytesOf a0) y1_0) ≥ 65)) && (decide ((rd 0 (bytesOf a0) y1_0) ≤ 90)))) == false)) (Value.int .u8 (rd 0 (bytesOf a0) y1_0)) from rfl).trans (gv_t hg)) rfl rfl)) ?_
        refine run_same (v := Value.bool ((((decide ((rd 0 (bytesOf a0) y1_0) ≥ 97)) && (decide ((rd 0 (bytesOf a0) y1_0) ≤ 122))) || ((decide ((rd 0 (bytesOf a0) y1_0) ≥ 65)) && (decide ((rd 0 (bytesOf a0) y1_0) ≤ 90)))) || ((rd 0 (bytesOf a0) y1_0) == 95))) rfl rfl (r_pick_or rfl rfl (fun hp => ((show _ = gv (true && ((((decide ((rd 0 (bytesOf a0) y1_0) ≥ 97)) && (decide ((rd 0 (bytesOf a0) y1_0) ≤ 122))) || ((decide ((rd 0 (bytesOf a0) y1_0) ≥ 65)) && (decide ((rd 0 (bytesOf a0) y1_0) ≤ 90)))) == false)) (Value.bool ((rd 0 (bytesOf a0) y1_0) == 95)) from rfl).trans (gv_t (and_i rfl hp))))) ?_
        refine run_same (v := Value.bool ((((decide ((rd 0 (bytesOf a0) y1_0) ≥ 97)) && (decide ((rd 0 (bytesOf a0) y1_0) ≤ 122))) || ((decide ((rd 0 (bytesOf a0) y1_0) ≥ 65)) && (decide ((rd 0 (bytesOf a0) y1_0) ≤ 90)))) || ((rd 0 (bytesOf a0) y1_0) == 95))) rfl rfl (r_assign rfl) ?_
        try simp only [List.set_cons_zero, List.set_cons_succ]
        refine run_nil ?_
        refine norm_then ?_
        refine wp_seq ?_
        refine region ?_
        refine run_same (v := Value.bool ((((decide ((rd 0 (bytesOf a0) y1_0) ≥ 97)) && (decide ((rd 0 (bytesOf a0) y1_0) ≤ 122))) || ((decide ((rd 0 (bytesOf a0) y1_0) ≥ 65)) && (decide ((rd 0 (bytesOf a0) y1_0) ≤ 90)))) || ((rd 0 (bytesOf a0) y1_0) == 95))) rfl rfl (r_move rfl) ?_
        refine run_same (v := Value.bool (!((((decide ((rd 0 (bytesOf a0) y1_0) ≥ 97)) && (decide ((rd 0 (bytesOf a0) y1_0) ≤ 122))) || ((decide ((rd 0 (bytesOf a0) y1_0) ≥ 65)) && (decide ((rd 0 (bytesOf a0) y1_0) ≤ 90)))) || ((rd 0 (bytesOf a0) y1_0) == 95)))) rfl rfl (r_not rfl) ?_
        refine run_same (v := Value.bool (!((((decide ((rd 0 (bytesOf a0) y1_0) ≥ 97)) && (decide ((rd 0 (bytesOf a0) y1_0) ≤ 122))) || ((decide ((rd 0 (bytesOf a0) y1_0) ≥ 65)) && (decide ((rd 0 (bytesOf a0) y1_0) ≤ 90)))) || ((rd 0 (bytesOf a0) y1_0) == 95)))) rfl rfl (r_move rfl) ?_
        refine run_g_same (b := (!((((decide ((rd 0 (bytesOf a0) y1_0) ≥ 97)) && (decide ((rd 0 (bytesOf a0) y1_0) ≤ 122))) || ((decide ((rd 0 (bytesOf a0) y1_0) ≥ 65)) && (decide ((rd 0 (bytesOf a0) y1_0) ≤ 90)))) || ((rd 0 (bytesOf a0) y1_0) == 95)))) (c := true) (v := Value.int .i64 y1_0) rfl rfl rfl rfl (fun hg => (r_move rfl)) ?_
        refine run_frame (by simp only [List.set_cons_zero, List.set_cons_succ]; rfl) ?_
        refine run_g_same (b := (!((((decide ((rd 0 (bytesOf a0) y1_0) ≥ 97)) && (decide ((rd 0 (bytesOf a0) y1_0) ≤ 122))) || ((decide ((rd 0 (bytesOf a0) y1_0) ≥ 65)) && (decide ((rd 0 (bytesOf a0) y1_0) ≤ 90)))) || ((rd 0 (bytesOf a0) y1_0) == 95)))) (c := true) (v := Value.bool (y1_0 == 0)) rfl rfl rfl rfl (fun hg => (r_bin ((show _ = gv (true && ((!((((decide ((rd 0 (bytesOf a0) y1_0) ≥ 97)) && (decide ((rd 0 (bytesOf a0) y1_0) ≤ 122))) || ((decide ((rd 0 (bytesOf a0) y1_0) ≥ 65)) && (decide ((rd 0 (bytesOf a0) y1_0) ≤ 90)))) || ((rd 0 (bytesOf a0) y1_0) == 95))) == true)) (Value.int .i64 y1_0) from rfl).trans (gv_t hg)) rfl rfl)) ?_
        refine run_g_same (b := (!((((decide ((rd 0 (bytesOf a0) y1_0) ≥ 97)) && (decide ((rd 0 (bytesOf a0) y1_0) ≤ 122))) || ((decide ((rd 0 (bytesOf a0) y1_0) ≥ 65)) && (decide ((rd 0 (bytesOf a0) y1_0) ≤ 90)))) || ((rd 0 (bytesOf a0) y1_0) == 95)))) (c := true) (v := Value.bool (y1_0 == 0)) rfl rfl rfl rfl (fun hg => (r_move ((show _ = gv (true && ((!((((decide ((rd 0 (bytesOf a0) y1_0) ≥ 97)) && (decide ((rd 0 (bytesOf a0) y1_0) ≤ 122))) || ((decide ((rd 0 (bytesOf a0) y1_0) ≥ 65)) && (decide ((rd 0 (bytesOf a0) y1_0) ≤ 90)))) || ((rd 0 (bytesOf a0) y1_0) == 95))) == true)) (Value.bool (y1_0 == 0)) from rfl).trans (gv_t hg)))) ?_
        refine run_g_same (b := (y1_0 == 0)) (c := (true && ((!((((decide ((rd 0 (bytesOf a0) y1_0) ≥ 97)) && (decide ((rd 0 (bytesOf a0) y1_0) ≤ 122))) || ((decide ((rd 0 (bytesOf a0) y1_0) ≥ 65)) && (decide ((rd 0 (bytesOf a0) y1_0) ≤ 90)))) || ((rd 0 (bytesOf a0) y1_0) == 95))) == true))) (v := Value.int .u8 (rd 0 (bytesOf a0) y1_0)) rfl rfl rfl rfl (fun hg => (r_move rfl)) ?_
        refine run_g_same (b := (y1_0 == 0)) (c := (true && ((!((((decide ((rd 0 (bytesOf a0) y1_0) ≥ 97)) && (decide ((rd 0 (bytesOf a0) y1_0) ≤ 122))) || ((decide ((rd 0 (bytesOf a0) y1_0) ≥ 65)) && (decide ((rd 0 (bytesOf a0) y1_0) ≤ 90)))) || ((rd 0 (bytesOf a0) y1_0) == 95))) == true))) (v := Value.bool (decide ((rd 0 (bytesOf a0) y1_0) < 48))) rfl rfl rfl rfl (fun hg => (r_bin ((show _ = gv ((true && ((!((((decide ((rd 0 (bytesOf a0) y1_0) ≥ 97)) && (decide ((rd 0 (bytesOf a0) y1_0) ≤ 122))) || ((decide ((rd 0 (bytesOf a0) y1_0) ≥ 65)) && (decide ((rd 0 (bytesOf a0) y1_0) ≤ 90)))) || ((rd 0 (bytesOf a0) y1_0) == 95))) == true)) && ((y1_0 == 0) == false)) (Value.int .u8 (rd 0 (bytesOf a0) y1_0)) from rfl).trans (gv_t hg)) rfl rfl)) ?_
        refine run_frame (by simp only [List.set_cons_zero, List.set_cons_succ]; rfl) ?_
        refine run_g_same (b := (!((((decide ((rd 0 (bytesOf a0) y1_0) ≥ 97)) && (decide ((rd 0 (bytesOf a0) y1_0) ≤ 122))) || ((decide ((rd 0 (bytesOf a0) y1_0) ≥ 65)) && (decide ((rd 0 (bytesOf a0) y1_0) ≤ 90)))) || ((rd 0 (bytesOf a0) y1_0) == 95)))) (c := true) (v := Value.bool ((y1_0 == 0) || (decide ((rd 0 (bytesOf a0) y1_0) < 48)))) rfl rfl rfl rfl (fun hg => (r_pick_or ((show _ = gv (true && ((!((((decide ((rd 0 (bytesOf a0) y1_0) ≥ 97)) && (decide ((rd 0 (bytesOf a0) y1_0) ≤ 122))) || ((decide ((rd 0 (bytesOf a0) y1_0) ≥ 65)) && (decide ((rd 0 (bytesOf a0) y1_0) ≤ 90)))) || ((rd 0 (bytesOf a0) y1_0) == 95))) == true)) (Value.bool (y1_0 == 0)) from rfl).trans (gv_t hg)) rfl (fun hp => ((show _ = gv ((true && ((!((((decide ((rd 0 (bytesOf a0) y1_0) ≥ 97)) && (decide ((rd 0 (bytesOf a0) y1_0) ≤ 122))) || ((decide ((rd 0 (bytesOf a0) y1_0) ≥ 65)) && (decide ((rd 0 (bytesOf a0) y1_0) ≤ 90)))) || ((rd 0 (bytesOf a0) y1_0) == 95))) == true)) && ((y1_0 == 0) == false)) (Value.bool (decide ((rd 0 (bytesOf a0) y1_0) < 48))) from rfl).trans (gv_t (and_i hg hp)))))) ?_
        refine run_g_same (b := (!((((decide ((rd 0 (bytesOf a0) y1_0) ≥ 97)) && (decide ((rd 0 (bytesOf a0) y1_0) ≤ 122))) || ((decide ((rd 0 (bytesOf a0) y1_0) ≥ 65)) && (decide ((rd 0 (bytesOf a0) y1_0) ≤ 90)))) || ((rd 0 (bytesOf a0) y1_0) == 95)))) (c := true) (v := Value.bool ((y1_0 == 0) || (decide ((rd 0 (bytesOf a0) y1_0) < 48)))) rfl rfl rfl rfl (fun hg => (r_move ((show _ = gv (true && ((!((((decide ((rd 0 (bytesOf a0) y1_0) ≥ 97)) && (decide ((rd 0 (bytesOf a0) y1_0) ≤ 122))) || ((decide ((rd 0 (bytesOf a0) y1_0) ≥ 65)) && (decide ((rd 0 (bytesOf a0) y1_0) ≤ 90)))) || ((rd 0 (bytesOf a0) y1_0) == 95))) == true)) (Value.bool ((y1_0 == 0) || (decide ((rd 0 (bytesOf a0) y1_0) < 48)))) from rfl).trans (gv_t hg)))) ?_
        refine run_g_same (b := ((y1_0 == 0) || (decide ((rd 0 (bytesOf a0) y1_0) < 48)))) (c := (true && ((!((((decide ((rd 0 (bytesOf a0) y1_0) ≥ 97)) && (decide ((rd 0 (bytesOf a0) y1_0) ≤ 122))) || ((decide ((rd 0 (bytesOf a0) y1_0) ≥ 65)) && (decide ((rd 0 (bytesOf a0) y1_0) ≤ 90)))) || ((rd 0 (bytesOf a0) y1_0) == 95))) == true))) (v := Value.int .u8 (rd 0 (bytesOf a0) y1_0)) rfl rfl rfl rfl (fun hg => (r_move rfl)) ?_
        refine run_g_same (b := ((y1_0 == 0) || (decide ((rd 0 (bytesOf a0) y1_0) < 48)))) (c := (true && ((!((((decide ((rd 0 (bytesOf a0) y1_0) ≥ 97)) && (decide ((rd 0 (bytesOf a0) y1_0) ≤ 122))) || ((decide ((rd 0 (bytesOf a0) y1_0) ≥ 65)) && (decide ((rd 0 (bytesOf a0) y1_0) ≤ 90)))) || ((rd 0 (bytesOf a0) y1_0) == 95))) == true))) (v := Value.bool (decide ((rd 0 (bytesOf a0) y1_0) > 57))) rfl rfl rfl rfl (fun hg => (r_bin ((show _ = gv ((true && ((!((((decide ((rd 0 (bytesOf a0) y1_0) ≥ 97)) && (decide ((rd 0 (bytesOf a0) y1_0) ≤ 122))) || ((decide ((rd 0 (bytesOf a0) y1_0) ≥ 65)) && (decide ((rd 0 (bytesOf a0) y1_0) ≤ 90)))) || ((rd 0 (bytesOf a0) y1_0) == 95))) == true)) && (((y1_0 == 0) || (decide ((rd 0 (bytesOf a0) y1_0) < 48))) == false)) (Value.int .u8 (rd 0 (bytesOf a0) y1_0)) from rfl).trans (gv_t hg)) rfl rfl)) ?_
        refine run_frame (by simp only [List.set_cons_zero, List.set_cons_succ]; rfl) ?_
        refine run_g_same (b := (!((((decide ((rd 0 (bytesOf a0) y1_0) ≥ 97)) && (decide ((rd 0 (bytesOf a0) y1_0) ≤ 122))) || ((decide ((rd 0 (bytesOf a0) y1_0) ≥ 65)) && (decide ((rd 0 (bytesOf a0) y1_0) ≤ 90)))) || ((rd 0 (bytesOf a0) y1_0) == 95)))) (c := true) (v := Value.bool (((y1_0 == 0) || (decide ((rd 0 (bytesOf a0) y1_0) < 48))) || (decide ((rd 0 (bytesOf a0) y1_0) > 57)))) rfl rfl rfl rfl (fun hg => (r_pick_or ((show _ = gv (true && ((!((((decide ((rd 0 (bytesOf a0) y1_0) ≥ 97)) && (decide ((rd 0 (bytesOf a0) y1_0) ≤ 122))) || ((decide ((rd 0 (bytesOf a0) y1_0) ≥ 65)) && (decide ((rd 0 (bytesOf a0) y1_0) ≤ 90)))) || ((rd 0 (bytesOf a0) y1_0) == 95))) == true)) (Value.bool ((y1_0 == 0) || (decide ((rd 0 (bytesOf a0) y1_0) < 48)))) from rfl).trans (gv_t hg)) rfl (fun hp => ((show _ = gv ((true && ((!((((decide ((rd 0 (bytesOf a0) y1_0) ≥ 97)) && (decide ((rd 0 (bytesOf a0) y1_0) ≤ 122))) || ((decide ((rd 0 (bytesOf a0) y1_0) ≥ 65)) && (decide ((rd 0 (bytesOf a0) y1_0) ≤ 90)))) || ((rd 0 (bytesOf a0) y1_0) == 95))) == true)) && (((y1_0 == 0) || (decide ((rd 0 (bytesOf a0) y1_0) < 48))) == false)) (Value.bool (decide ((rd 0 (bytesOf a0) y1_0) > 57))) from rfl).trans (gv_t (and_i hg hp)))))) ?_
        refine run_same (v := Value.bool ((!((((decide ((rd 0 (bytesOf a0) y1_0) ≥ 97)) && (decide ((rd 0 (bytesOf a0) y1_0) ≤ 122))) || ((decide ((rd 0 (bytesOf a0) y1_0) ≥ 65)) && (decide ((rd 0 (bytesOf a0) y1_0) ≤ 90)))) || ((rd 0 (bytesOf a0) y1_0) == 95))) && (((y1_0 == 0) || (decide ((rd 0 (bytesOf a0) y1_0) < 48))) || (decide ((rd 0 (bytesOf a0) y1_0) > 57))))) rfl rfl (r_pick_and rfl (fun hp => ((show _ = gv (true && ((!((((decide ((rd 0 (bytesOf a0) y1_0) ≥ 97)) && (decide ((rd 0 (bytesOf a0) y1_0) ≤ 122))) || ((decide ((rd 0 (bytesOf a0) y1_0) ≥ 65)) && (decide ((rd 0 (bytesOf a0) y1_0) ≤ 90)))) || ((rd 0 (bytesOf a0) y1_0) == 95))) == true)) (Value.bool (((y1_0 == 0) || (decide ((rd 0 (bytesOf a0) y1_0) < 48))) || (decide ((rd 0 (bytesOf a0) y1_0) > 57)))) from rfl).trans (gv_t (and_i rfl hp)))) rfl) ?_
        try simp only [List.set_cons_zero, List.set_cons_succ]
        refine run_nil ?_
        refine norm_then ?_
        refine wp_cond_split (t := ((!((((decide ((rd 0 (bytesOf a0) y1_0) ≥ 97)) && (decide ((rd 0 (bytesOf a0) y1_0) ≤ 122))) || ((decide ((rd 0 (bytesOf a0) y1_0) ≥ 65)) && (decide ((rd 0 (bytesOf a0) y1_0) ≤ 90)))) || ((rd 0 (bytesOf a0) y1_0) == 95))) && (((y1_0 == 0) || (decide ((rd 0 (bytesOf a0) y1_0) < 48))) || (decide ((rd 0 (bytesOf a0) y1_0) > 57))))) rfl (fun c2 => ?_) (fun c2 => ?_)
        · replace H := of_pos H c2
          refine wp_seq ?_
          refine region ?_
          refine run_same (v := Value.bool false) rfl rfl (r_assign rfl) ?_
          try simp only [List.set_cons_zero, List.set_cons_succ]
          refine run_nil ?_
          refine norm_then ?_
          refine wp_ret ?_
          refine ret_block ?_
          refine ret_then ?_
          refine ret_loop ?_
          refine ret_then ?_
          obtain rfl := Option.some.inj H
          obtain rfl := Option.some.inj G1
          refine bodyPost_ret (results_1 rfl (one_tmp rfl)) rfl ?_
          exact ⟨rfl, HS2.toE⟩
        · replace H := of_neg H (nt c2)
          refine wp_skip ?_
          refine norm_block ?_
          refine norm_then ?_
          refine region ?_
          refine run_same (v := Value.int .i64 (IntKind.wrap .i64 (y1_0 + 1))) rfl rfl (r_bin rfl rfl rfl) ?_
          refine run_same (v := Value.int .i64 (IntKind.wrap .i64 (y1_0 + 1))) rfl rfl (r_move rfl) ?_
          try simp only [List.set_cons_zero, List.set_cons_succ]
          refine run_nil ?_
          refine again m [uy1_2, Value.int .i64 y1_0, Value.int .u8 (rd 0 (bytesOf a0) y1_0), Value.bool ((((decide ((rd 0 (bytesOf a0) y1_0) ≥ 97)) && (decide ((rd 0 (bytesOf a0) y1_0) ≤ 122))) || ((decide ((rd 0 (bytesOf a0) y1_0) ≥ 65)) && (decide ((rd 0 (bytesOf a0) y1_0) ≤ 90)))) || ((rd 0 (bytesOf a0) y1_0) == 95)), Value.int .i64 (IntKind.wrap .i64 (y1_0 + 1)), Value.bool (decide (y1_0 < ((bytesOf a0).length : Int))), Value.int .i64 y1_0, Value.pointer (some (Addr.add ad1 (y1_0.toNat * 1))), Value.int .u8 (rd 0 (bytesOf a0) y1_0), Value.int .u8 (rd 0 (bytesOf a0) y1_0), Value.bool (decide ((rd 0 (bytesOf a0) y1_0) ≥ 97)), Value.bool (decide ((rd 0 (bytesOf a0) y1_0) ≥ 97)), gv (true && ((decide ((rd 0 (bytesOf a0) y1_0) ≥ 97)) == true)) (Value.int .u8 (rd 0 (bytesOf a0) y1_0)), gv (true && ((decide ((rd 0 (bytesOf a0) y1_0) ≥ 97)) == true)) (Value.bool (decide ((rd 0 (bytesOf a0) y1_0) ≤ 122))), Value.bool ((decide ((rd 0 (bytesOf a0) y1_0) ≥ 97)) && (decide ((rd 0 (bytesOf a0) y1_0) ≤ 122))), Value.bool ((decide ((rd 0 (bytesOf a0) y1_0) ≥ 97)) && (decide ((rd 0 (bytesOf a0) y1_0) ≤ 122))), gv (true && (((decide ((rd 0 (bytesOf a0) y1_0) ≥ 97)) && (decide ((rd 0 (bytesOf a0) y1_0) ≤ 122))) == false)) (Value.int .u8 (rd 0 (bytesOf a0) y1_0)), gv (true && (((decide ((rd 0 (bytesOf a0) y1_0) ≥ 97)) && (decide ((rd 0 (bytesOf a0) y1_0) ≤ 122))) == false)) (Value.bool (decide ((rd 0 (bytesOf a0) y1_0) ≥ 65))), gv (true && (((decide ((rd 0 (bytesOf a0) y1_0) ≥ 97)) && (decide ((rd 0 (bytesOf a0) y1_0) ≤ 122))) == false)) (Value.bool (decide ((rd 0 (bytesOf a0) y1_0) ≥ 65))), gv ((true && (((decide ((rd 0 (bytesOf a0) y1_0) ≥ 97)) && (decide ((rd 0 (bytesOf a0) y1_0) ≤ 122))) == false)) && ((decide ((rd 0 (bytesOf a0) y1_0) ≥ 65)) == true)) (Value.int .u8 (rd 0 (bytesOf a0) y1_0)), gv ((true && (((decide ((rd 0 (bytesOf a0) y1_0) ≥ 97)) && (decide ((rd 0 (bytesOf a0) y1_0) ≤ 122))) == false)) && ((decide ((rd 0 (bytesOf a0) y1_0) ≥ 65)) == true)) (Value.bool (decide ((rd 0 (bytesOf a0) y1_0) ≤ 90))), gv (true && (((decide ((rd 0 (bytesOf a0) y1_0) ≥ 97)) && (decide ((rd 0 (bytesOf a0) y1_0) ≤ 122))) == false)) (Value.bool ((decide ((rd 0 (bytesOf a0) y1_0) ≥ 65)) && (decide ((rd 0 (bytesOf a0) y1_0) ≤ 90)))), Value.bool (((decide ((rd 0 (bytesOf a0) y1_0) ≥ 97)) && (decide ((rd 0 (bytesOf a0) y1_0) ≤ 122))) || ((decide ((rd 0 (bytesOf a0) y1_0) ≥ 65)) && (decide ((rd 0 (bytesOf a0) y1_0) ≤ 90)))), Value.bool (((decide ((rd 0 (bytesOf a0) y1_0) ≥ 97)) && (decide ((rd 0 (bytesOf a0) y1_0) ≤ 122))) || ((decide ((rd 0 (bytesOf a0) y1_0) ≥ 65)) && (decide ((rd 0 (bytesOf a0) y1_0) ≤ 90)))), gv (true && ((((decide ((rd 0 (bytesOf a0) y1_0) ≥ 97)) && (decide ((rd 0 (bytesOf a0) y1_0) ≤ 122))) || ((decide ((rd 0 (bytesOf a0) y1_0) ≥ 65)) && (decide ((rd 0 (bytesOf a0) y1_0) ≤ 90)))) == false)) (Value.int .u8 (rd 0 (bytesOf a0) y1_0)), gv (true && ((((decide ((rd 0 (bytesOf a0) y1_0) ≥ 97)) && (decide ((rd 0 (bytesOf a0) y1_0) ≤ 122))) || ((decide ((rd 0 (bytesOf a0) y1_0) ≥ 65)) && (decide ((rd 0 (bytesOf a0) y1_0) ≤ 90)))) == false)) (Value.bool ((rd 0 (bytesOf a0) y1_0) == 95)), Value.bool ((((decide ((rd 0 (bytesOf a0) y1_0) ≥ 97)) && (decide ((rd 0 (bytesOf a0) y1_0) ≤ 122))) || ((decide ((rd 0 (bytesOf a0) y1_0) ≥ 65)) && (decide ((rd 0 (bytesOf a0) y1_0) ≤ 90)))) || ((rd 0 (bytesOf a0) y1_0) == 95)), Value.bool ((((decide ((rd 0 (bytesOf a0) y1_0) ≥ 97)) && (decide ((rd 0 (bytesOf a0) y1_0) ≤ 122))) || ((decide ((rd 0 (bytesOf a0) y1_0) ≥ 65)) && (decide ((rd 0 (bytesOf a0) y1_0) ≤ 90)))) || ((rd 0 (bytesOf a0) y1_0) == 95)), Value.bool (!((((decide ((rd 0 (bytesOf a0) y1_0) ≥ 97)) && (decide ((rd 0 (bytesOf a0) y1_0) ≤ 122))) || ((decide ((rd 0 (bytesOf a0) y1_0) ≥ 65)) && (decide ((rd 0 (bytesOf a0) y1_0) ≤ 90)))) || ((rd 0 (bytesOf a0) y1_0) == 95))), Value.bool (!((((decide ((rd 0 (bytesOf a0) y1_0) ≥ 97)) && (decide ((rd 0 (bytesOf a0) y1_0) ≤ 122))) || ((decide ((rd 0 (bytesOf a0) y1_0) ≥ 65)) && (decide ((rd 0 (bytesOf a0) y1_0) ≤ 90)))) || ((rd 0 (bytesOf a0) y1_0) == 95))), gv (true && ((!((((decide ((rd 0 (bytesOf a0) y1_0) ≥ 97)) && (decide ((rd 0 (bytesOf a0) y1_0) ≤ 122))) || ((decide ((rd 0 (bytesOf a0) y1_0) ≥ 65)) && (decide ((rd 0 (bytesOf a0) y1_0) ≤ 90)))) || ((rd 0 (bytesOf a0) y1_0) == 95))) == true)) (Value.int .i64 y1_0), gv (true && ((!((((decide ((rd 0 (bytesOf a0) y1_0) ≥ 97)) && (decide ((rd 0 (bytesOf a0) y1_0) ≤ 122))) || ((decide ((rd 0 (bytesOf a0) y1_0) ≥ 65)) && (decide ((rd 0 (bytesOf a0) y1_0) ≤ 90)))) || ((rd 0 (bytesOf a0) y1_0) == 95))) == true)) (Value.bool (y1_0 == 0)), gv (true && ((!((((decide ((rd 0 (bytesOf a0) y1_0) ≥ 97)) && (decide ((rd 0 (bytesOf a0) y1_0) ≤ 122))) || ((decide ((rd 0 (bytesOf a0) y1_0) ≥ 65)) && (decide ((rd 0 (bytesOf a0) y1_0) ≤ 90)))) || ((rd 0 (bytesOf a0) y1_0) == 95))) == true)) (Value.bool (y1_0 == 0)), gv ((true && ((!((((decide ((rd 0 (bytesOf a0) y1_0) ≥ 97)) && (decide ((rd 0 (bytesOf a0) y1_0) ≤ 122))) || ((decide ((rd 0 (bytesOf a0) y1_0) ≥ 65)) && (decide ((rd 0 (bytesOf a0) y1_0) ≤ 90)))) || ((rd 0 (bytesOf a0) y1_0) == 95))) == true)) && ((y1_0 == 0) == false)) (Value.int .u8 (rd 0 (bytesOf a0) y1_0)), gv ((true && ((!((((decide ((rd 0 (bytesOf a0) y1_0) ≥ 97)) && (decide ((rd 0 (bytesOf a0) y1_0) ≤ 122))) || ((decide ((rd 0 (bytesOf a0) y1_0) ≥ 65)) && (decide ((rd 0 (bytesOf a0) y1_0) ≤ 90)))) || ((rd 0 (bytesOf a0) y1_0) == 95))) == true)) && ((y1_0 == 0) == false)) (Value.bool (decide ((rd 0 (bytesOf a0) y1_0) < 48))), gv (true && ((!((((decide ((rd 0 (bytesOf a0) y1_0) ≥ 97)) && (decide ((rd 0 (bytesOf a0) y1_0) ≤ 122))) || ((decide ((rd 0 (bytesOf a0) y1_0) ≥ 65)) && (decide ((rd 0 (bytesOf a0) y1_0) ≤ 90)))) || ((rd 0 (bytesOf a0) y1_0) == 95))) == true)) (Value.bool ((y1_0 == 0) || (decide ((rd 0 (bytesOf a0) y1_0) < 48)))), gv (true && ((!((((decide ((rd 0 (bytesOf a0) y1_0) ≥ 97)) && (decide ((rd 0 (bytesOf a0) y1_0) ≤ 122))) || ((decide ((rd 0 (bytesOf a0) y1_0) ≥ 65)) && (decide ((rd 0 (bytesOf a0) y1_0) ≤ 90)))) || ((rd 0 (bytesOf a0) y1_0) == 95))) == true)) (Value.bool ((y1_0 == 0) || (decide ((rd 0 (bytesOf a0) y1_0) < 48)))), gv ((true && ((!((((decide ((rd 0 (bytesOf a0) y1_0) ≥ 97)) && (decide ((rd 0 (bytesOf a0) y1_0) ≤ 122))) || ((decide ((rd 0 (bytesOf a0) y1_0) ≥ 65)) && (decide ((rd 0 (bytesOf a0) y1_0) ≤ 90)))) || ((rd 0 (bytesOf a0) y1_0) == 95))) == true)) && (((y1_0 == 0) || (decide ((rd 0 (bytesOf a0) y1_0) < 48))) == false)) (Value.int .u8 (rd 0 (bytesOf a0) y1_0)), gv ((true && ((!((((decide ((rd 0 (bytesOf a0) y1_0) ≥ 97)) && (decide ((rd 0 (bytesOf a0) y1_0) ≤ 122))) || ((decide ((rd 0 (bytesOf a0) y1_0) ≥ 65)) && (decide ((rd 0 (bytesOf a0) y1_0) ≤ 90)))) || ((rd 0 (bytesOf a0) y1_0) == 95))) == true)) && (((y1_0 == 0) || (decide ((rd 0 (bytesOf a0) y1_0) < 48))) == false)) (Value.bool (decide ((rd 0 (bytesOf a0) y1_0) > 57))), gv (true && ((!((((decide ((rd 0 (bytesOf a0) y1_0) ≥ 97)) && (decide ((rd 0 (bytesOf a0) y1_0) ≤ 122))) || ((decide ((rd 0 (bytesOf a0) y1_0) ≥ 65)) && (decide ((rd 0 (bytesOf a0) y1_0) ≤ 90)))) || ((rd 0 (bytesOf a0) y1_0) == 95))) == true)) (Value.bool (((y1_0 == 0) || (decide ((rd 0 (bytesOf a0) y1_0) < 48))) || (decide ((rd 0 (bytesOf a0) y1_0) > 57)))), Value.bool ((!((((decide ((rd 0 (bytesOf a0) y1_0) ≥ 97)) && (decide ((rd 0 (bytesOf a0) y1_0) ≤ 122))) || ((decide ((rd 0 (bytesOf a0) y1_0) ≥ 65)) && (decide ((rd 0 (bytesOf a0) y1_0) ≤ 90)))) || ((rd 0 (bytesOf a0) y1_0) == 95))) && (((y1_0 == 0) || (decide ((rd 0 (bytesOf a0) y1_0) < 48))) || (decide ((rd 0 (bytesOf a0) y1_0) > 57)))), Value.int .i64 (IntKind.wrap .i64 (y1_0 + 1))] (Nat.lt_succ_self m) (by simp only [patch, List.set_cons_zero, List.set_cons_succ]) ⟨(IntKind.wrap .i64 (y1_0 + 1)), _, _, _, _, _, _, _, _, _, _, _, _, _, _, _, _, _, _, _, _, _, _, _, _, _, _, _, _, _, _, _, _, _, _, _, _, _, _, _, _, _, rfl, H, HS2⟩
      · replace H := of_neg H (nt c1)
        refine wp_exit ?_
        refine exit_then ?_
        obtain rfl := Option.some.inj H
        refine leave [uy1_2, uy1_3, uy1_4, uy1_5, Value.int .i64 y1_0, Value.bool (decide (y1_0 < ((bytesOf a0).length : Int))), uy1_11, uy1_12, uy1_13, uy1_14, uy1_15, uy1_16, uy1_17, uy1_18, uy1_19, uy1_20, uy1_21, uy1_22, uy1_23, uy1_24, uy1_25, uy1_26, uy1_27, uy1_28, uy1_29, uy1_30, uy1_31, uy1_32, uy1_33, uy1_34, uy1_35, uy1_36, uy1_37, uy1_38, uy1_39, uy1_40, uy1_41, uy1_42, uy1_43, uy1_44, uy1_45, uy1_46] (by simp only [patch, List.set_cons_zero, List.set_cons_succ]) ⟨_, rfl, _, _, _, _, _, _, _, _, _, _, _, _, _, _, _, _, _, _, _, _, _, _, _, _, _, _, _, _, _, _, _, _, _, _, _, _, _, _, _, _, _, _, rfl, HS2⟩
  · rintro us w3 ⟨s1, rfl, uo1_2, uo1_3, uo1_4, uo1_5, uo1_9, uo1_10, uo1_11, uo1_12, uo1_13, uo1_14, uo1_15, uo1_16, uo1_17, uo1_18, uo1_19, uo1_20, uo1_21, uo1_22, uo1_23, uo1_24, uo1_25, uo1_26, uo1_27, uo1_28, uo1_29, uo1_30, uo1_31, uo1_32, uo1_33, uo1_34, uo1_35, uo1_36, uo1_37, uo1_38, uo1_39, uo1_40, uo1_41, uo1_42, uo1_43, uo1_44, uo1_45, uo1_46, rfl, HS3⟩
    replace H := G1
    clear G1
    try simp only [patch, List.set_cons_zero, List.set_cons_succ]
    refine norm_then ?_
    refine wp_seq ?_
    refine region ?_
    refine run_same (v := Value.string a0) rfl rfl (r_move rfl) ?_
    refine run_same (v := Value.bool (!(strEq a0 ByteArray.empty))) rfl rfl (r_strneq rfl rfl) ?_
    refine run_same (v := Value.bool (!(strEq a0 ByteArray.empty))) rfl rfl (r_move rfl) ?_
    refine run_g_same (b := (!(strEq a0 ByteArray.empty))) (c := true) (v := Value.string a0) rfl rfl rfl rfl (fun hg => (r_move rfl)) ?_
    refine run_frame (by simp only [List.set_cons_zero, List.set_cons_succ]; rfl) ?_
    refine run_g_same (b := (!(strEq a0 ByteArray.empty))) (c := true) (v := Value.int .i64 (a0.size : Int)) rfl rfl rfl rfl (fun hg => (r_lenStr ((show _ = gv (true && ((!(strEq a0 ByteArray.empty)) == true)) (Value.string a0) from rfl).trans (gv_t hg)) Tryd.runUnderlying9)) ?_
    refine run_g_same (b := (!(strEq a0 ByteArray.empty))) (c := true) (v := Value.bool (decide ((a0.size : Int) ≤ 31))) rfl rfl rfl rfl (fun hg => (r_bin ((show _ = gv (true && ((!(strEq a0 ByteArray.empty)) == true)) (Value.int .i64 (a0.size : Int)) from rfl).trans (gv_t hg)) rfl rfl)) ?_
    refine run_same (v := Value.bool ((!(strEq a0 ByteArray.empty)) && (decide ((a0.size : Int) ≤ 31)))) rfl rfl (r_pick_and rfl (fun hp => ((show _ = gv (true && ((!(strEq a0 ByteArray.empty)) == true)) (Value.bool (decide ((a0.size : Int) ≤ 31))) from rfl).trans (gv_t (and_i rfl hp)))) rfl) ?_
    refine run_same (v := Value.bool ((!(strEq a0 ByteArray.empty)) && (decide ((a0.size : Int) ≤ 31)))) rfl rfl (r_assign rfl) ?_
    try simp only [List.set_cons_zero, List.set_cons_succ]
    refine run_nil ?_
    refine norm_then ?_
    refine wp_ret ?_
    obtain rfl := Option.some.inj H
    refine bodyPost_ret (results_1 rfl (one_tmp rfl)) rfl ?_
    exact ⟨rfl, HS3.toE⟩

end Go.Proofs.YtfjppgobidjndaaDoor
/- bits.Check holds of the types of 1, 2, 4 and 8 bytes: the map of conversions, its entries put in in any order. -/
namespace Go.Proofs.YtfjppgobidjndaaDoor
open Go.RowKit Go.M
section
variable {P : Program} {Q : Exit → Act → World → Prop}
theorem stepv {ops : Array Oper} {i : Nat} {o : Oper} {K : Act → World → Prop} {a : Act} {w w' : World} {v : Value} (hi : ops[i]? = some o) (hg : o.guard = none) (hex : (execOp a.eval o).run P w = .ok (.value v) w') (hK : K (a.put o.dst v) w') : wpOp P ops Q i K a w := by
  unfold wpOp
  rw [hi]
  simp only [Region.wanted, hg, if_true]
  refine .inl ?_
  unfold Oper.wp
  rw [hex]
  exact hK
theorem steps {ops : Array Oper} {i : Nat} {o : Oper} {K : Act → World → Prop} {a : Act} {w w' : World} (hi : ops[i]? = some o) (hg : o.guard = none) (hd : o.dst = none) (hex : (execOp a.eval o).run P w = .ok .skip w') (hK : K a w') : wpOp P ops Q i K a w := by
  unfold wpOp
  rw [hi]
  simp only [Region.wanted, hg, if_true]
  refine .inl ?_
  unfold Oper.wp
  rw [hex]
  simp only [Oper.upon, hd]
  exact hK
end
def eqI (a b : api_Int) : Bool := (a.vSize == b.vSize) && ((a.vSigned == b.vSigned) && true)
theorem eqI_iff {a b : api_Int} : eqI a b = true ↔ a = b := by
  obtain ⟨a1, a2⟩ := a
  obtain ⟨b1, b2⟩ := b
  simp [eqI]
theorem keyI : KeyS Tryd.prog 31 #[{ name := "Size", type := 3, offset := 0, embedded := false, tag := "", pkgPath := "", byteOffset := 0 }, { name := "Signed", type := 4, offset := 1, embedded := false, tag := "", pkgPath := "", byteOffset := 8 }] e_api_Int eqI where
  hu := Tryd.runUnderlying31
  same := fun a b w => (eqr_agg Tryd.stoodInHeld31 Tryd.underlying31 (eqf_cons (by decide) (part_one Tryd.isAgg3 rfl) (part_one Tryd.isAgg3 rfl) (eqr_int Tryd.underlying3) (eqf_cons (by decide) (part_one Tryd.isAgg4 rfl) (part_one Tryd.isAgg4 rfl) (eqr_bool Tryd.underlying4) eqf_nil)) : EqR Tryd.prog 10000 31 (e_api_Int a) (e_api_Int b) (eqI a b)) w
  check := fun e k w => by
    have hp1 : (part 3 #[.int .i64 k.vSize, .bool k.vSigned] 0).run Tryd.prog w = .ok (.int .i64 k.vSize) w := part_one Tryd.isAgg3 rfl w
    have hp2 : (part 4 #[.int .i64 k.vSize, .bool k.vSigned] 1).run Tryd.prog w = .ok (.bool k.vSigned) w := part_one Tryd.isAgg4 rfl w
    have h1 : ∀ n v, (Instr.checkKey e (n + 1) 3 v).run Tryd.prog w = .ok () w := fun n v => by
      rw [Instr.checkKey]
      simp only [Sem.run_bind, Tryd.runUnderlying3, Result.andThen_ok]
      cases v <;> rfl
    have h2 : ∀ n v, (Instr.checkKey e (n + 1) 4 v).run Tryd.prog w = .ok () w := fun n v => by
      rw [Instr.checkKey]
      simp only [Sem.run_bind, Tryd.runUnderlying4, Result.andThen_ok]
      cases v <;> rfl
    show (Instr.checkKey e (9998 + 1 + 1) 31 (.agg #[.int .i64 k.vSize, .bool k.vSigned])).run Tryd.prog w = _
    rw [Instr.checkKey]
    simp only [Sem.run_bind, Tryd.runUnderlying31, Result.andThen_ok]
    simp [hp1, hp2, h1, h2]
def keyAt (j : Nat) : api_Int := ⟨([1, 1, 2, 2, 4, 4, 8, 8] : List Int).getD j 0, j % 2 == 0⟩
structure MapIn (wz w : World) (b : Nat) (es : Array MapEntry) (cl : Nat) (ks : List api_Int) : Prop where
  ge : wz.heap.size ≤ b
  at_ : w.heap[b]? = some (.map es cl)
  keys : KeysOk e_api_Int ks es
  ext : Ext wz w
structure CInv (wz : World) (df : List Deferred) (L : Nat → Bool) (a : Act) (w : World) : Prop where
  defers : a.defers = df
  size : a.tmps.size = 11
  built : ∀ j : Nat, j < 8 → L (2 * j + 1) = true → a.tmps.getD (Nat.add j 2) undef = e_api_Int (keyAt j)
  none_ : L 0 = false → Ext wz w ∧ (∀ j, j < 8 → L (2 * j + 2) = false) ∧ L 17 = false ∧ L 18 = false
  some_ : L 0 = true → ∃ b es cl ks, a.tmps.getD 1 undef = .map (some b) ∧ MapIn wz w b es cl ks ∧ (∀ j, j < 8 → (L (2 * j + 2) = true ↔ keyAt j ∈ ks)) ∧ (∀ k ∈ ks, ∃ j, j < 8 ∧ k = keyAt j) ∧
    (L 17 = true → a.tmps.getD 10 undef = .map (some b)) ∧ (L 18 = true → a.tmps.getD 0 undef = .map (some b))
theorem upd_ne {L : Nat → Bool} {i j : Nat} (h : j ≠ i) : upd L i j = L j := if_neg h
theorem upd_at {L : Nat → Bool} {i : Nat} : upd L i i = true := if_pos rfl
theorem getD_put_ne {a : Act} {d t : Tmp} {v : Value} (h : d ≠ t) : (a.put (some d) v).tmps.getD t undef = a.tmps.getD t undef := by
  simp [Act.put, Array.getD_eq_getD_getElem?, Array.getElem?_setIfInBounds_ne h]
theorem getD_put_at {a : Act} {d : Tmp} {v : Value} (h : d < a.tmps.size) : (a.put (some d) v).tmps.getD d undef = v := by
  simp [Act.put, Array.getD_eq_getD_getElem?, h]
theorem sl_lt {j : Nat} (h : j < 8) : Nat.add j 2 < 11 := by show j + 2 < 11; omega
theorem sl_ne {j q : Nat} (h : ¬ q = j) : Nat.add j 2 ≠ Nat.add q 2 := by show j + 2 ≠ q + 2; omega
theorem sl_1 {j : Nat} : Nat.add j 2 ≠ 1 := by show j + 2 ≠ 1; omega
theorem sl_1' {j : Nat} : 1 ≠ Nat.add j 2 := by show 1 ≠ j + 2; omega
theorem sl_0 {j : Nat} : Nat.add j 2 ≠ 0 := by show j + 2 ≠ 0; omega
theorem sl_10 {j : Nat} (h : j < 8) : Nat.add j 2 ≠ 10 := by show j + 2 ≠ 10; omega
theorem sl_10' {j : Nat} (h : j < 8) : 10 ≠ Nat.add j 2 := by show 10 ≠ j + 2; omega
theorem sl_0' {j : Nat} : 0 ≠ Nat.add j 2 := by show 0 ≠ j + 2; omega
/-- a slot that is built -/
theorem CInv.build {wz w : World} {df : List Deferred} {L : Nat → Bool} {a : Act} (C : CInv wz df L a w) {j : Nat} (hj : j < 8) : CInv wz df (upd L (2 * j + 1)) (a.put (some (Nat.add j 2)) (e_api_Int (keyAt j))) w := by
  refine ⟨by simp [Act.put, C.defers], by simp [Act.put, C.size], fun q hq hL => ?_, fun h => ?_, fun h => ?_⟩
  · by_cases hqj : q = j
    · subst hqj; exact getD_put_at (by rw [C.size]; exact sl_lt hq)
    · rw [getD_put_ne (sl_ne hqj)]
      rw [upd_ne (by omega)] at hL
      exact C.built q hq hL
  · rw [upd_ne (by omega)] at h
    obtain ⟨h1, h2, h3, h4⟩ := C.none_ h
    exact ⟨h1, fun q hq => by rw [upd_ne (by omega)]; exact h2 q hq, by rw [upd_ne (by omega)]; exact h3, by rw [upd_ne (by omega)]; exact h4⟩
  · rw [upd_ne (by omega)] at h
    obtain ⟨b, es, cl, ks, h1, h2, h3, h4, h5, h6⟩ := C.some_ h
    refine ⟨b, es, cl, ks, by rw [getD_put_ne sl_1]; exact h1, h2, fun q hq => by rw [upd_ne (by omega)]; exact h3 q hq, h4, fun h => ?_, fun h => ?_⟩
    · rw [upd_ne (by omega)] at h
      rw [getD_put_ne (sl_10 hj)]; exact h5 h
    · rw [upd_ne (by omega)] at h
      rw [getD_put_ne sl_0]; exact h6 h
theorem keyAt_inj {i j : Nat} (hi : i < 8) (hj : j < 8) (h : keyAt i = keyAt j) : i = j := by
  have : ∀ i j : Fin 8, (([1, 1, 2, 2, 4, 4, 8, 8] : List Int).getD i 0 = ([1, 1, 2, 2, 4, 4, 8, 8] : List Int).getD j 0 ∧ (i.val % 2 == 0) = (j.val % 2 == 0)) → i = j := by decide
  have h2 := this ⟨i, hi⟩ ⟨j, hj⟩ (by simpa [keyAt] using h)
  exact congrArg Fin.val h2
/-- an entry that is put in -/
theorem CInv.insert {wz w : World} {df : List Deferred} {L : Nat → Bool} {a : Act} (C : CInv wz df L a w) {j : Nat} (hj : j < 8) (hL : L (2 * j + 2) = false) (h0 : L 0 = true) (hb : L (2 * j + 1) = true) {o : Oper} {y : Operand}
    (ho : o.op = .insert 181 (.tmp 1) (.tmp (Nat.add j 2)) y) : ∃ w', (execOp a.eval o).run Tryd.prog w = .ok .skip w' ∧ CInv wz df (upd L (2 * j + 2)) a w' := by
  obtain ⟨b, es, cl, ks, h1, h2, h3, h4, h5, h6⟩ := C.some_ h0
  have hnot : ks.any (eqI (keyAt j)) = false := by
    rw [List.any_eq_false]
    intro k hk he
    have := eqI_iff.1 he
    rw [← this] at hk
    have := (h3 j hj).2 hk
    rw [hL] at this
    cases this
  obtain ⟨es', cl', hr, hk⟩ := put_s (P := Tryd.prog) keyI (keyAt j) (v := a.eval y) h2.keys Tryd.runUnderlying181 h2.at_ hnot
  have e1 : a.eval (.tmp 1) = .map (some b) := h1
  have e2 : a.eval (.tmp (Nat.add j 2)) = e_api_Int (keyAt j) := C.built j hj hb
  have hlt := (Array.getElem?_eq_some_iff.1 h2.at_).1
  refine ⟨setb w b (.map es' cl'), by simp [execOp, ho, e1, e2, hr], C.defers, C.size, fun q hq hLq => ?_, fun h => ?_, fun h => ?_⟩
  · rw [upd_ne (by omega)] at hLq
    exact C.built q hq hLq
  · rw [upd_ne (by omega), h0] at h; cases h
  · refine ⟨b, es', cl', ks ++ [keyAt j], h1, ⟨h2.ge, setb_at hlt, hk, ?_⟩, fun q hq => ?_, fun k hk => ?_, fun h => ?_, fun h => ?_⟩
    · refine ⟨h2.ext.os, h2.ext.tape, h2.ext.output, by simpa [setb] using h2.ext.size, fun i hi => ?_⟩
      rw [setb_ne (by have := h2.ge; omega)]
      exact h2.ext.block i hi
    · by_cases hqj : q = j
      · subst hqj; simp [upd_at]
      · rw [upd_ne (by omega), h3 q hq, List.mem_append, List.mem_singleton]
        exact ⟨.inl, fun h => h.elim id (fun e => absurd (keyAt_inj hq hj e) hqj)⟩
    · rcases List.mem_append.1 hk with hk | hk
      · exact h4 k hk
      · exact ⟨j, hj, List.mem_singleton.1 hk⟩
    · rw [upd_ne (by omega)] at h; exact h5 h
    · rw [upd_ne (by omega)] at h; exact h6 h
/-- the sizes of valid integer types -/
def okI (k : api_Int) : Bool := k.vSize == 1 || k.vSize == 2 || k.vSize == 4 || k.vSize == 8
theorem all_keys {ks : List api_Int} (h3 : ∀ j, j < 8 → keyAt j ∈ ks) (h4 : ∀ k ∈ ks, ∃ j, j < 8 ∧ k = keyAt j) (k : api_Int) : ks.any (eqI k) = okI k := by
  have key : ks.any (eqI k) = true ↔ okI k = true := by
    rw [List.any_eq_true]
    constructor
    · rintro ⟨q, hq, he⟩
      obtain ⟨j, hj, rfl⟩ := h4 q hq
      obtain rfl := eqI_iff.1 he
      have : ∀ j : Fin 8, okI (keyAt j) = true := by decide
      exact this ⟨j, hj⟩
    · intro h
      obtain ⟨s, g⟩ := k
      have h1 : ∃ j, j < 8 ∧ keyAt j = ⟨s, g⟩ := by
        simp only [okI, Bool.or_eq_true, beq_iff_eq] at h
        rcases h with ((h | h) | h) | h <;> subst h <;> cases g
        · exact ⟨1, by decide, rfl⟩
        · exact ⟨0, by decide, rfl⟩
        · exact ⟨3, by decide, rfl⟩
        · exact ⟨2, by decide, rfl⟩
        · exact ⟨5, by decide, rfl⟩
        · exact ⟨4, by decide, rfl⟩
        · exact ⟨7, by decide, rfl⟩
        · exact ⟨6, by decide, rfl⟩
      obtain ⟨j, hj, e⟩ := h1
      exact ⟨keyAt j, h3 j hj, eqI_iff.2 e.symm⟩
  cases h1 : ks.any (eqI k) with
  | true => exact (key.1 h1).symm
  | false =>
    cases h2 : okI k with
    | false => rfl
    | true => rw [key.2 h2] at h1; cases h1
set_option maxRecDepth 20000 in
set_option maxHeartbeats 4000000 in
theorem bits_conversions.calls {w0 : World} : Calls Tryd.prog 124 #[] w0 (fun e w1 => ∃ b es cl ks, e = .returned (.map (some b)) ∧ w0.heap.size ≤ b ∧ w1.heap[b]? = some (.map es cl) ∧ KeysOk e_api_Int ks es ∧ (∀ k, ks.any (eqI k) = okI k) ∧ Ext w0 w1) := by
  go_enter Tryd.func124, Tryd.ntmps124
  refine wp_seq ?_
  refine region ?_
  refine run_same (v := Value.map none) rfl rfl (r_assign rfl) ?_
  try simp only [List.set_cons_zero, List.set_cons_succ]
  refine run_nil ?_
  refine norm_then ?_
  refine wp_seq ?_
  refine drawn_inv (CInv w0 []) hmix (by kernel_rfl) ?_ ?_ ?_
  · intro w' hE
    exact CInv.mk rfl rfl (fun j hj h => by cases h) (fun _ => ⟨hE, fun _ _ => rfl, rfl, rfl⟩) (fun h => by cases h)
  · intro L a w i o C ho hLi hall
    have hil : i < 19 := (List.getElem?_eq_some_iff.1 ho).1
    have hops := ho
    rw [← List.getElem?_toArray] at hops
    rcases (by omega : i = 0 ∨ i = 1 ∨ i = 2 ∨ i = 3 ∨ i = 4 ∨ i = 5 ∨ i = 6 ∨ i = 7 ∨ i = 8 ∨ i = 9 ∨ i = 10 ∨ i = 11 ∨ i = 12 ∨ i = 13 ∨ i = 14 ∨ i = 15 ∨ i = 16 ∨ i = 17 ∨ i = 18) with rfl | rfl | rfl | rfl | rfl | rfl | rfl | rfl | rfl | rfl | rfl | rfl | rfl | rfl | rfl | rfl | rfl | rfl | rfl
    · -- the map
      obtain rfl := Option.some.inj ho
      obtain ⟨h1, h2, h3, h4⟩ := C.none_ hLi
      refine stepv hops rfl (v := .map (some w.heap.size)) (w' := w.alloc (.map #[] 0)) ?_ ?_
      · have hn : Sem.run Tryd.prog (Sem.new (Obj.map #[] 0) Sem.pure) w = .ok w.heap.size (w.alloc (.map #[] 0)) := rfl
        simp [execOp, Instr.makeMap, newObj, hn]
      · refine CInv.mk (by simp [Act.put, C.defers]) (by simp [Act.put, C.size]) (fun q hq hL => ?_) (fun h => by rw [upd_at] at h; cases h) (fun _ => ?_)
        · rw [upd_ne (by omega)] at hL
          show (a.put (some 1) _).tmps.getD _ undef = _
          rw [getD_put_ne sl_1']; exact C.built q hq hL
        · refine ⟨w.heap.size, #[], 0, [], getD_put_at (by rw [C.size]; decide), ⟨h1.size, heap_alloc_new w _, rfl, h1.then (Ext.new w _)⟩, fun q hq => ?_, by simp, fun h => ?_, fun h => ?_⟩
          · rw [upd_ne (by omega), h2 q hq]; simp
          · rw [upd_ne (by omega), h3] at h; cases h
          · rw [upd_ne (by omega), h4] at h; cases h
    · obtain rfl := Option.some.inj ho
      exact stepv hops rfl (r_build (cs := [.int .i64 1, .bool true]) (ps := [(0, .int .i64 1), (1, .bool true)]) Tryd.zeroValue31 Tryd.runUnderlying31 (pl := #[(0, 1), (1, 1)]) (fun w => by simp [Tryd.sizeOf3, Tryd.sizeOf4]) (parts_2 rfl rfl) rfl) (C.build (j := 0) (by decide))
    · obtain rfl := Option.some.inj ho
      simp [Region.binds] at hall
      obtain ⟨w', hex, hC⟩ := C.insert (o := ⟨none, .insert 181 (.tmp 1) (.tmp 2) (.func 126), 0, "bits.go:22", #[{ on := 0, ground := Ground.data }, { on := 1, ground := Ground.data }], none⟩) (j := 0) (by decide) hLi hall.1 hall.2 rfl
      exact steps hops rfl rfl hex hC
    · obtain rfl := Option.some.inj ho
      exact stepv hops rfl (r_build (cs := [.int .i64 1, .bool false]) (ps := [(0, .int .i64 1)]) Tryd.zeroValue31 Tryd.runUnderlying31 (pl := #[(0, 1), (1, 1)]) (fun w => by simp [Tryd.sizeOf3, Tryd.sizeOf4]) (parts_1 rfl) rfl) (C.build (j := 1) (by decide))
    · obtain rfl := Option.some.inj ho
      simp [Region.binds] at hall
      obtain ⟨w', hex, hC⟩ := C.insert (o := ⟨none, .insert 181 (.tmp 1) (.tmp 3) (.func 127), 0, "bits.go:22", #[{ on := 0, ground := Ground.data }, { on := 3, ground := Ground.data }], none⟩) (j := 1) (by decide) hLi hall.1 hall.2 rfl
      exact steps hops rfl rfl hex hC
    · obtain rfl := Option.some.inj ho
      exact stepv hops rfl (r_build (cs := [.int .i64 2, .bool true]) (ps := [(0, .int .i64 2), (1, .bool true)]) Tryd.zeroValue31 Tryd.runUnderlying31 (pl := #[(0, 1), (1, 1)]) (fun w => by simp [Tryd.sizeOf3, Tryd.sizeOf4]) (parts_2 rfl rfl) rfl) (C.build (j := 2) (by decide))
    · obtain rfl := Option.some.inj ho
      simp [Region.binds] at hall
      obtain ⟨w', hex, hC⟩ := C.insert (o := ⟨none, .insert 181 (.tmp 1) (.tmp 4) (.func 128), 0, "bits.go:22", #[{ on := 0, ground := Ground.data }, { on := 5, ground := Ground.data }], none⟩) (j := 2) (by decide) hLi hall.1 hall.2 rfl
      exact steps hops rfl rfl hex hC
    · obtain rfl := Option.some.inj ho
      exact stepv hops rfl (r_build (cs := [.int .i64 2, .bool false]) (ps := [(0, .int .i64 2)]) Tryd.zeroValue31 Tryd.runUnderlying31 (pl := #[(0, 1), (1, 1)]) (fun w => by simp [Tryd.sizeOf3, Tryd.sizeOf4]) (parts_1 rfl) rfl) (C.build (j := 3) (by decide))
    · obtain rfl := Option.some.inj ho
      simp [Region.binds] at hall
      obtain ⟨w', hex, hC⟩ := C.insert (o := ⟨none, .insert 181 (.tmp 1) (.tmp 5) (.func 129), 0, "bits.go:22", #[{ on := 0, ground := Ground.data }, { on := 7, ground := Ground.data }], none⟩) (j := 3) (by decide) hLi hall.1 hall.2 rfl
      exact steps hops rfl rfl hex hC
    · obtain rfl := Option.some.inj ho
      exact stepv hops rfl (r_build (cs := [.int .i64 4, .bool true]) (ps := [(0, .int .i64 4), (1, .bool true)]) Tryd.zeroValue31 Tryd.runUnderlying31 (pl := #[(0, 1), (1, 1)]) (fun w => by simp [Tryd.sizeOf3, Tryd.sizeOf4]) (parts_2 rfl rfl) rfl) (C.build (j := 4) (by decide))
    · obtain rfl := Option.some.inj ho
      simp [Region.binds] at hall
      obtain ⟨w', hex, hC⟩ := C.insert (o := ⟨none, .insert 181 (.tmp 1) (.tmp 6) (.func 130), 0, "bits.go:22", #[{ on := 0, ground := Ground.data }, { on := 9, ground := Ground.data }], none⟩) (j := 4) (by decide) hLi hall.1 hall.2 rfl
      exact steps hops rfl rfl hex hC
    · obtain rfl := Option.some.inj ho
      exact stepv hops rfl (r_build (cs := [.int .i64 4, .bool false]) (ps := [(0, .int .i64 4)]) Tryd.zeroValue31 Tryd.runUnderlying31 (pl := #[(0, 1), (1, 1)]) (fun w => by simp [Tryd.sizeOf3, Tryd.sizeOf4]) (parts_1 rfl) rfl) (C.build (j := 5) (by decide))
    · obtain rfl := Option.some.inj ho
      simp [Region.binds] at hall
      obtain ⟨w', hex, hC⟩ := C.insert (o := ⟨none, .insert 181 (.tmp 1) (.tmp 7) (.func 131), 0, "bits.go:22", #[{ on := 0, ground := Ground.data }, { on := 11, ground := Ground.data }], none⟩) (j := 5) (by decide) hLi hall.1 hall.2 rfl
      exact steps hops rfl rfl hex hC
    · obtain rfl := Option.some.inj ho
      exact stepv hops rfl (r_build (cs := [.int .i64 8, .bool true]) (ps := [(0, .int .i64 8), (1, .bool true)]) Tryd.zeroValue31 Tryd.runUnderlying31 (pl := #[(0, 1), (1, 1)]) (fun w => by simp [Tryd.sizeOf3, Tryd.sizeOf4]) (parts_2 rfl rfl) rfl) (C.build (j := 6) (by decide))
    · obtain rfl := Option.some.inj ho
      simp [Region.binds] at hall
      obtain ⟨w', hex, hC⟩ := C.insert (o := ⟨none, .insert 181 (.tmp 1) (.tmp 8) (.func 132), 0, "bits.go:22", #[{ on := 0, ground := Ground.data }, { on := 13, ground := Ground.data }], none⟩) (j := 6) (by decide) hLi hall.1 hall.2 rfl
      exact steps hops rfl rfl hex hC
    · obtain rfl := Option.some.inj ho
      exact stepv hops rfl (r_build (cs := [.int .i64 8, .bool false]) (ps := [(0, .int .i64 8)]) Tryd.zeroValue31 Tryd.runUnderlying31 (pl := #[(0, 1), (1, 1)]) (fun w => by simp [Tryd.sizeOf3, Tryd.sizeOf4]) (parts_1 rfl) rfl) (C.build (j := 7) (by decide))
    · obtain rfl := Option.some.inj ho
      simp [Region.binds] at hall
      obtain ⟨w', hex, hC⟩ := C.insert (o := ⟨none, .insert 181 (.tmp 1) (.tmp 9) (.func 133), 0, "bits.go:22", #[{ on := 0, ground := Ground.data }, { on := 15, ground := Ground.data }], none⟩) (j := 7) (by decide) hLi hall.1 hall.2 rfl
      exact steps hops rfl rfl hex hC
    · obtain rfl := Option.some.inj ho
      simp [Region.binds] at hall
      obtain ⟨b, es, cl, ks, h1, h2, h3, h4, h5, h6⟩ := C.some_ hall.1
      refine stepv hops rfl (v := .map (some b)) (w' := w) (r_move h1) ?_
      refine CInv.mk (by simp [Act.put, C.defers]) (by simp [Act.put, C.size]) (fun q hq hL => ?_) (fun h => by rw [upd_ne (by omega), hall.1] at h; cases h) (fun _ => ⟨b, es, cl, ks, ?_, h2, fun q hq => by rw [upd_ne (by omega)]; exact h3 q hq, h4, fun _ => ?_, fun h => ?_⟩)
      · rw [upd_ne (by omega)] at hL
        show (a.put (some 10) _).tmps.getD _ undef = _
        rw [getD_put_ne (sl_10' hq)]; exact C.built q hq hL
      · exact (getD_put_ne (by decide)).trans h1
      · exact getD_put_at (by rw [C.size]; decide)
      · rw [upd_ne (by omega)] at h
        exact (getD_put_ne (by decide)).trans (h6 h)
    · obtain rfl := Option.some.inj ho
      simp [Region.binds] at hall
      obtain ⟨b, es, cl, ks, h1, h2, h3, h4, h5, h6⟩ := C.some_ hall.2.1
      refine stepv hops rfl (v := .map (some b)) (w' := w) (r_assign (h5 hall.1)) ?_
      refine CInv.mk (by simp [Act.put, C.defers]) (by simp [Act.put, C.size]) (fun q hq hL => ?_) (fun h => by rw [upd_ne (by omega), hall.2.1] at h; cases h) (fun _ => ⟨b, es, cl, ks, ?_, h2, fun q hq => by rw [upd_ne (by omega)]; exact h3 q hq, h4, fun h => ?_, fun _ => ?_⟩)
      · rw [upd_ne (by omega)] at hL
        show (a.put (some 0) _).tmps.getD _ undef = _
        rw [getD_put_ne sl_0']; exact C.built q hq hL
      · exact (getD_put_ne (by decide)).trans h1
      · rw [upd_ne (by omega)] at h
        exact (getD_put_ne (by decide)).trans (h5 h)
      · exact getD_put_at (by rw [C.size]; decide)
  · intro L a w C hall
    obtain ⟨b, es, cl, ks, h1, h2, h3, h4, h5, h6⟩ := C.some_ (hall 0 (by decide))
    refine norm_then ?_
    refine wp_ret ?_
    refine bodyPost_ret (results_1 rfl (one_tmp (h6 (hall 18 (by decide))))) C.defers ?_
    exact ⟨b, es, cl, ks, rfl, h2.ge, h2.at_, h2.keys, all_keys (fun j hj => (h3 j hj).1 (hall (2 * j + 2) (by show 2 * j + 2 < 19; omega))) h4, h2.ext⟩
end Go.Proofs.YtfjppgobidjndaaDoor
/- bits.Check: which integer types are valid. -/
namespace Go.Proofs.YtfjppgobidjndaaDoor
open Go.RowKit Go.M
def bits_Check.f (a0 : api_Int) : Option Int := some (if okI a0 = true then 0 else 10)
theorem r_lookups {P : Program} {ρ : Operand → Value} {w : World} {dst : Option Tmp} {ty : TypeId} {pos : String} {after : Array Edge} {guard : Option (Nat × Bool)} {xt : TypeId} {x y : Operand} {b : Nat} {k v : Value} (hx : ρ x = .map (some b)) (hy : ρ y = k)
    (h : (Instr.lookup xt (.map (some b)) k true).run P w = .ok v w) : (execOp ρ ⟨dst, .lookup xt x y true, ty, pos, after, guard⟩).run P w = .ok (.value v) w := by
  simp [execOp, hx, hy, h]
set_option maxRecDepth 20000 in
set_option maxHeartbeats 4000000 in
theorem bits_Check.calls (a0 : api_Int) {h0 : View} {w0 : World} (hv : Sees h0 w0) {r : Int} (H : bits_Check.f a0 = some r) : Calls Tryd.prog 119 #[Value.agg #[Value.int .i64 a0.vSize, Value.bool a0.vSigned]] w0 (fun e w1 => e = .returned (Value.int .i64 r) ∧ Ext w0 w1) := by
  unfold bits_Check.f at H
  obtain rfl := Option.some.inj H
  have HS : St [] h0 w0 h0 [] w0 := St.init hv
  go_enter Tryd.func119, Tryd.ntmps119
  refine wp_seq ?_
  refine region ?_
  refine run_ex rfl rfl (does_box (cs := #[Value.int .i64 a0.vSize, Value.bool a0.vSigned]) rfl rfl) ?_
  rintro w1 _ hE1 ⟨b1, rfl, ge1, hb1⟩
  have HS1 := HS.new hE1 ge1 hb1
  refine run_same (v := Value.int .i64 0) rfl rfl (r_assign rfl) ?_
  try simp only [List.set_cons_zero, List.set_cons_succ]
  refine run_nil ?_
  refine norm_then ?_
  refine wp_seq ?_
  refine wp_seq ?_
  refine drawn_chain [([7], [1]), ([8, 5, 9, 10, 3, 4], [1, 2, 3, 4, 5, 6, 7])] [0] [[], [], [0, 1], [0, 1, 2], [0, 1, 2, 3], [0, 1, 2, 3], [0, 1, 2, 3, 4], [0, 1, 2, 3, 4, 5, 6]] hmix (by kernel_rfl) ?_
  intro w2 hE2
  have HS2 := HS1.step hE2
  refine chain_eff [e_api_Int a0] ?_ rfl rfl ?_
  · simp only [patch, List.set_cons_zero, List.set_cons_succ]
    exact allg_cons (good_same (v := e_api_Int a0) rfl rfl rfl rfl (r_loadBoxAgg (n := 2) (vs := [Value.int .i64 a0.vSize, Value.bool a0.vSigned]) rfl Tryd.isAgg31 (HS2.look 0 rfl) Tryd.sizeOf31 rfl rfl)) allg_nil
  simp only [patch, List.set_cons_zero, List.set_cons_succ]
  refine run_call (vs := []) (caps := []) Tryd.call124 rfl rfl bits_conversions.calls ?_
  rintro _ w3 ⟨b2, es, cl, ks, rfl, hge, hb, hk, hok, hE3⟩
  refine ⟨_, rfl, ?_⟩
  refine qn_nil ?_
  try simp only [List.set_cons_zero, List.set_cons_succ]
  have HS3 := HS2.step hE3
  obtain ⟨v, hlk⟩ := lookup_s keyI a0 hk Tryd.runUnderlying181 Tryd.zeroValue179 hb
  rw [hok a0] at hlk
  refine chain_last [.tuple #[v, .bool (okI a0)], .tuple #[v, .bool (okI a0)], v, .bool (okI a0), v, .bool (okI a0)] ?_ ?_
  · simp only [patch, List.set_cons_zero, List.set_cons_succ]
    exact allg_cons (good_same (v := e_api_Int a0) rfl rfl rfl rfl (r_loadBoxAgg (n := 2) (vs := [Value.int .i64 a0.vSize, Value.bool a0.vSigned]) rfl Tryd.isAgg31 (HS3.look 0 rfl) Tryd.sizeOf31 rfl rfl)) (allg_cons (good_same (v := .tuple #[v, .bool (okI a0)]) rfl rfl rfl rfl (r_lookups rfl rfl hlk))
      (allg_cons (good_same rfl rfl rfl rfl (r_move rfl)) (allg_cons (good_same rfl rfl rfl rfl (r_extract rfl rfl)) (allg_cons (good_same rfl rfl rfl rfl (r_extract rfl rfl)) (allg_cons (good_same rfl rfl rfl rfl (r_assign rfl)) (allg_cons (good_same rfl rfl rfl rfl (r_assign rfl)) allg_nil))))))
  simp only [patch, List.set_cons_zero, List.set_cons_succ]
  refine norm_then ?_
  refine wp_seq ?_
  refine region ?_
  refine run_same (v := Value.bool (okI a0)) rfl rfl (r_move rfl) ?_
  refine run_same (v := Value.bool (!(okI a0))) rfl rfl (r_not rfl) ?_
  try simp only [List.set_cons_zero, List.set_cons_succ]
  refine run_nil ?_
  refine norm_then ?_
  refine wp_cond_split (t := !(okI a0)) rfl (fun c1 => ?_) (fun c1 => ?_)
  · refine wp_seq ?_
    refine region ?_
    refine run_same (v := Value.int .i64 10) rfl rfl (r_assign rfl) ?_
    try simp only [List.set_cons_zero, List.set_cons_succ]
    refine run_nil ?_
    refine norm_then ?_
    refine wp_ret ?_
    refine ret_then ?_
    refine bodyPost_ret (results_1 rfl (one_tmp rfl)) rfl ?_
    have : okI a0 = false := by simpa using c1
    rw [this]
    exact ⟨rfl, HS3.toE⟩
  · refine wp_skip ?_
    refine norm_then ?_
    refine wp_seq ?_
    refine region ?_
    refine run_same (v := Value.int .i64 0) rfl rfl (r_assign rfl) ?_
    try simp only [List.set_cons_zero, List.set_cons_succ]
    refine run_nil ?_
    refine norm_then ?_
    refine wp_ret ?_
    refine bodyPost_ret (results_1 rfl (one_tmp rfl)) rfl ?_
    have : okI a0 = true := by simpa using c1
    rw [this]
    exact ⟨rfl, HS3.toE⟩
end Go.Proofs.YtfjppgobidjndaaDoor
