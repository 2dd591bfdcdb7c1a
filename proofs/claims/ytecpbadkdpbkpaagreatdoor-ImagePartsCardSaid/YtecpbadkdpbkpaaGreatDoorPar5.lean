/- Parts of a proof, merged by program: R6 F130 F129 F85 F156 F157 F115 F116 F121 F118 F158 F117 F120 F119 F74 F53 F89 F54 F19 F55 F20 F34 F72 F36 F78 F123 F124 F125 F126 F77 F127 F79 F80 F81 F38 F82 F83 F40 F42 F44 GA P1 P2 P3 P4 C2 C3 C4. The walks (each function once) and the plain laws; no condition of their own. -/
import Derived.Test.YtecpbadkdpbkpaaGreatDoorPar4
set_option linter.unusedVariables false
set_option linter.unusedSimpArgs false
/- The law of loads' parts: a load is made of its bytes; reading goes by parts. -/
namespace Go.Proofs.YtecpbadkdpbkpaaGreatDoor
open Go.RowKit Go.M
theorem okI_n {t : api_Int} (h : okI t = true) : ∃ n : Nat, t.vSize = (n : Int) ∧ (n = 1 ∨ n = 2 ∨ n = 4 ∨ n = 8) := by
  unfold okI at h
  simp only [Bool.or_eq_true, beq_iff_eq] at h
  exact ⟨t.vSize.toNat, by omega, by omega⟩
def loadV (m : api_Image) (a : Int) (t : api_Int) : Int × Bool × Int :=
  if chkV m ≠ 0 then (0, false, chkV m) else if okI t = true then loadS t (runB m.vSegs a t.vSize.toNat 0 []) else (0, false, 10)
theorem pLoadV {m : api_Image} (hB : BytesOk m.vSegs) {a : Int} (ha : In64 a) (t : api_Int) {k : Nat} (hk : 300 ≤ k) : image_Load.f k m a t = some (loadV m a t) := by
  unfold image_Load.f loadV bits_Check.f
  rw [pCheck]
  simp only [Option.bind_some]
  by_cases hc : chkV m = 0
  · obtain ⟨hl, hO⟩ := okI_of hc
    rw [if_neg (c := chkV m ≠ 0) (fun h => h hc), if_neg (c := (chkV m != 0) = true) (by simp [hc])]
    by_cases ht : okI t = true
    · obtain ⟨n, hn, hn4⟩ := okI_n ht
      rw [if_pos ht, if_neg (by decide), pLoad hl hO hB ha hn hn4 hk, if_pos ht, hn]
      rfl
    · rw [if_neg ht, if_pos (by decide), if_neg ht]
  · rw [if_pos (by simp [hc]), if_pos hc]
theorem pReadN {m : api_Image} (hc : chkV m = 0) {a : Int} {n : Nat} (ha : In64 a) (hn : n ≤ 2048) {k : Nat} (hk : 300 ≤ k) : image_Read.f k m a (n : Int) =
    some ((outL (runB m.vSegs a n 0 [])).1, (outL (runB m.vSegs a n 0 [])).2, 0) := by
  unfold image_Read.f
  obtain ⟨hl, hO⟩ := okI_of hc
  rw [pCheck]
  simp only [Option.bind_some]
  rw [if_neg (c := (chkV m != 0) = true) (by simp [hc]), if_neg (by simp; omega), pRead hl hO ha (by omega) hk]
  rfl
theorem runB_snoc {l : List api_Segment} {a : Int} : ∀ (d i : Nat) (acc : List Int), runB l a (d + 1) i acc = (runB l a d i acc).bind fun xs => (byteAt l (a + ((i + d : Nat) : Int))).map fun b => xs ++ [b]
  | 0, i, acc => by
    rw [runB, runB]
    simp only [Nat.add_zero, Option.bind_some]
    cases byteAt l (a + (i : Int)) <;> rfl
  | d + 1, i, acc => by
    rw [runB]
    conv => rhs; rw [runB]
    cases byteAt l (a + (i : Int)) with
    | none => rfl
    | some b =>
      show runB l a (d + 1) (i + 1) (acc ++ [b]) = _
      rw [runB_snoc d (i + 1) (acc ++ [b]), show i + 1 + d = i + (d + 1) by omega]
theorem runB_acc {l : List api_Segment} {a : Int} : ∀ (d i : Nat) (acc : List Int), runB l a d i acc = (runB l (a + (i : Int)) d 0 []).map fun xs => acc ++ xs
  | 0, i, acc => by simp [runB]
  | d + 1, i, acc => by
    rw [runB_snoc, runB_snoc, runB_acc d i acc]
    cases runB l (a + (i : Int)) d 0 [] with
    | none => rfl
    | some xs =>
      simp only [Option.map_some, Option.bind_some, Nat.zero_add]
      rw [show a + ((i + d : Nat) : Int) = a + (i : Int) + (d : Int) by omega]
      cases byteAt l (a + (i : Int) + (d : Int)) <;> simp
theorem runB_add {l : List api_Segment} {a : Int} : ∀ (q p i : Nat) (acc : List Int), runB l a (p + q) i acc = (runB l a p i acc).bind fun xs => runB l a q (i + p) xs
  | 0, p, i, acc => by
    rw [Nat.add_zero]
    cases runB l a p i acc <;> rfl
  | q + 1, p, i, acc => by
    rw [← Nat.add_assoc, runB_snoc, runB_add q p i acc]
    cases runB l a p i acc with
    | none => rfl
    | some xs =>
      simp only [Option.bind_some]
      rw [runB_snoc, Nat.add_assoc]
theorem wrp1 {b : Int} (h : 0 ≤ b ∧ b ≤ 255) : wrp ⟨1, false⟩ (IntKind.wrap .i64 (valI [b])) = b := by
  unfold wrp valI valI
  simp only [Int.mul_zero, Int.add_zero, beq_self_eq_true, if_true, Bool.false_eq_true, if_false]
  rw [wrap_id (x := b) (by omega) (by omega), wrap8, Int.emod_eq_of_lt (by omega) (by omega), wrap_id (by omega) (by omega)]
theorem load1 {m : api_Image} (hc : chkV m = 0) (hB : BytesOk m.vSegs) (x : Int) : loadV m x ⟨1, false⟩ = match byteAt m.vSegs x with | none => (0, false, 0) | some b => (b, true, 0) := by
  unfold loadV
  rw [if_neg (fun h => h hc), if_pos (by decide)]
  show loadS ⟨1, false⟩ (runB m.vSegs x 1 0 []) = _
  rw [runB]
  simp only [Int.natCast_zero, Int.add_zero, List.nil_append]
  cases hb : byteAt m.vSegs x with
  | none => rfl
  | some b =>
    show (wrp ⟨1, false⟩ (IntKind.wrap .i64 (valI [b])), true, 0) = _
    rw [wrp1 (byteAt_ok hB hb)]
theorem parts_loop {m : api_Image} {x : taplinelaw09_Asked} (hc : chkV m = 0) (hB : BytesOk m.vSegs) {n : Nat} (hn : x.vT.vSize = (n : Int)) (h8 : n ≤ 8) (hx : -1125899906842624 ≤ x.vAt ∧ x.vAt ≤ 1125899906842624) {k : Nat} (hk : 300 ≤ k) : ∀ (d i q : Nat) (y0 : Bool) (y1 : Int), i + d = n → d < q →
    ((∃ xs, runB m.vSegs x.vAt i 0 [] = some xs ∧ y0 = true ∧ y1 = valI xs) ∨ (runB m.vSegs x.vAt i 0 [] = none ∧ y0 = false)) →
    ∃ s, taplinelaw09_ImageParts.l0 k m x q y0 y1 (i : Int) = some (.inr s) ∧ ((∃ xs, runB m.vSegs x.vAt n 0 [] = some xs ∧ s.1 = true ∧ s.2 = valI xs) ∨ (runB m.vSegs x.vAt n 0 [] = none ∧ s.1 = false)) := by
  intro d
  induction d with
  | zero =>
    intro i q y0 y1 hi hq hI
    obtain ⟨q, rfl⟩ : ∃ p, q = p + 1 := ⟨q - 1, by omega⟩
    refine ⟨(y0, y1), by rw [taplinelaw09_ImageParts.l0, if_neg (by simp; omega)], ?_⟩
    rw [show n = i by omega]
    exact hI
  | succ d ih =>
    intro i q y0 y1 hi hq hI
    obtain ⟨q, rfl⟩ : ∃ p, q = p + 1 := ⟨q - 1, by omega⟩
    rw [taplinelaw09_ImageParts.l0, if_pos (by simp; omega), wrap_id (x := x.vAt + (i : Int)) (by omega) (by omega), pLoadV hB (by unfold In64; omega) _ hk, load1 hc hB]
    have h8i : 0 ≤ IntKind.wrap .i64 (8 * (i : Int)) := by rw [wrap_id (by omega) (by omega)]; omega
    have hs := runB_snoc (l := m.vSegs) (a := x.vAt) i 0 []
    rw [Nat.zero_add] at hs
    cases hb : byteAt m.vSegs (x.vAt + (i : Int)) with
    | none =>
      simp only [Option.bind_some]
      rw [if_neg (by simp), if_pos h8i, wrap_nat (n := 300) (by omega) (by omega)]
      refine ih (i + 1) q _ _ (by omega) (by omega) (.inr ⟨?_, by simp⟩)
      rw [hs, hb]
      cases runB m.vSegs x.vAt i 0 [] <;> rfl
    | some b =>
      simp only [Option.bind_some]
      rw [if_neg (by simp), if_pos h8i, wrap_nat (n := 300) (by omega) (by omega)]
      refine ih (i + 1) q _ _ (by omega) (by omega) ?_
      rcases hI with ⟨xs, h1, rfl, rfl⟩ | ⟨h1, rfl⟩
      · obtain ⟨hy, hlen⟩ := runB_ok hB i 0 [] xs (fun b hb => by cases hb) h1
        have hlen' : xs.length = i := by simpa using hlen
        refine .inl ⟨xs ++ [b], by rw [hs, hb, h1]; rfl, rfl, ?_⟩
        have := or_byte hy (byteAt_ok hB hb) (by omega)
        rw [hlen'] at this
        exact this
      · exact .inr ⟨by rw [hs, h1]; rfl, rfl⟩
theorem strOf_app (xs ys : List Int) : strOf xs ++ strOf ys = strOf (xs ++ ys) := by
  apply data_inj
  rw [ByteArray.data_append]
  simp [strOf]
theorem rem51 {v : Int} (h : 0 ≤ v ∧ v ≤ 255) : ∃ q : Nat, iRem (IntKind.wrap .i64 v) 51 = (q : Int) ∧ q ≤ 50 := by
  unfold iRem
  rw [wrap_id (by omega) (by omega), Int.tmod_eq_emod_of_nonneg h.1]
  exact ⟨(v % 51).toNat, by omega, by omega⟩
/-- the law -/
theorem parts_ok {m : api_Image} (hB : BytesOk m.vSegs) {x : taplinelaw09_Asked} (ha : In64 x.vAt) {y : arr2_Int} (hy : (0 ≤ y.ve0 ∧ y.ve0 ≤ 255) ∧ 0 ≤ y.ve1 ∧ y.ve1 ≤ 255) : ∃ K, ∀ k, K ≤ k → taplinelaw09_ImageParts.f k m x y = some true := by
  refine ⟨4097, fun k hk => ?_⟩
  unfold taplinelaw09_ImageParts.f
  simp only [taplinelaw09_sane.f, Option.bind_some]
  rw [pLoadV hB ha x.vT (by omega)]
  simp only [Option.bind_some]
  by_cases hno : (loadV m x.vAt x.vT).2.2 ≠ 0 ∨ x.vAt > 1125899906842624 ∨ x.vAt < -1125899906842624
  · rw [if_pos (by simp only [Bool.or_eq_true, bne_iff_ne, decide_eq_true_eq]; omega)]
  · rw [if_neg (by simp only [Bool.or_eq_true, bne_iff_ne, decide_eq_true_eq]; omega)]
    have h0 : (loadV m x.vAt x.vT).2.2 = 0 := by omega
    have hx : -1125899906842624 ≤ x.vAt ∧ x.vAt ≤ 1125899906842624 := by omega
    have hc : chkV m = 0 := by
      unfold loadV at h0
      by_cases hc : chkV m = 0
      · exact hc
      · rw [if_pos hc] at h0; exact absurd h0 hc
    have hok : okI x.vT = true := by
      unfold loadV at h0
      rw [if_neg (fun h => h hc)] at h0
      by_cases ht : okI x.vT = true
      · exact ht
      · rw [if_neg ht] at h0; cases h0
    obtain ⟨n, hn, hn4⟩ := okI_n hok
    obtain ⟨s, hs, hI⟩ := parts_loop hc hB hn (by omega) hx (k := k) (by omega) n 0 k true 0 (by omega) (by omega) (.inl ⟨[], rfl, rfl, rfl⟩)
    rw [show ((0 : Nat) : Int) = 0 from rfl] at hs
    rw [hs]
    simp only [Option.bind_some]
    have hw : bits_Wrap.f x.vT (IntKind.wrap .i64 s.2) = some (wrp x.vT (IntKind.wrap .i64 s.2), 0) := by
      unfold bits_Wrap.f bits_Check.f bits_wrap.f
      rw [if_pos hok, if_pos hok]
      rfl
    rw [hw]
    simp only [Option.bind_some]
    have hv : loadV m x.vAt x.vT = loadS x.vT (runB m.vSegs x.vAt n 0 []) := by
      unfold loadV
      rw [if_neg (fun h => h hc), if_pos hok, hn]
      rfl
    rw [hv]
    have hcond : ¬ ((((loadS x.vT (runB m.vSegs x.vAt n 0 [])).2.1 != s.1) || ((0 : Int) != 0)) || ((loadS x.vT (runB m.vSegs x.vAt n 0 [])).2.1 && ((loadS x.vT (runB m.vSegs x.vAt n 0 [])).1 != wrp x.vT (IntKind.wrap .i64 s.2)))) = true := by
      rcases hI with ⟨xs, h1, h2, h3⟩ | ⟨h1, h2⟩
      · rw [h1, h2, h3]; simp [loadS]
      · rw [h1, h2]; simp [loadS]
    rw [if_neg hcond]
    obtain ⟨p, hp, hp50⟩ := rem51 hy.1
    obtain ⟨q, hq, hq50⟩ := rem51 hy.2
    rw [hp, hq, show IntKind.wrap .i64 ((p : Int) + (q : Int)) = ((p + q : Nat) : Int) by rw [wrap_id (by omega) (by omega)]; omega, wrap_id (x := x.vAt + (p : Int)) (by omega) (by omega),
      pReadN hc ha (by omega) (by omega)]
    simp only [Option.bind_some]
    rw [pReadN hc ha (by omega) (by omega)]
    simp only [Option.bind_some]
    rw [pReadN hc (show In64 (x.vAt + (p : Int)) by unfold In64; omega) (by omega) (by omega)]
    simp only [Option.bind_some]
    have hadd := runB_add (l := m.vSegs) (a := x.vAt) q p 0 []
    rw [Nat.zero_add] at hadd
    cases h1 : runB m.vSegs x.vAt p 0 [] with
    | none =>
      rw [h1] at hadd
      rw [hadd]
      simp [outL]
    | some c =>
      rw [h1] at hadd
      simp only [Option.bind_some] at hadd
      rw [runB_acc q p c] at hadd
      obtain ⟨_, hcl⟩ := runB_ok hB p 0 [] c (fun b hb => by cases hb) h1
      cases h2 : runB m.vSegs (x.vAt + (p : Int)) q 0 [] with
      | none =>
        rw [h2] at hadd
        rw [hadd]
        simp [outL]
      | some d =>
        obtain ⟨_, hdl⟩ := runB_ok hB q 0 [] d (fun b hb => by cases hb) h2
        rw [h2] at hadd
        rw [hadd]
        have hz : ∀ l : List Int, (strOf l).size = l.length := fun l => by simp [strOf, ByteArray.size]
        rw [show outL (Option.map (fun xs => c ++ xs) (some d)) = (c ++ d, true) from rfl, show outL (some c) = (c, true) from rfl, show outL (some d) = (d, true) from rfl]
        show (if (((((0 : Int) != 0) || ((0 : Int) != 0)) || ((0 : Int) != 0)) || (true != (true && true))) = true then some false else (if ((true && (true == true)) && ((!true) == false)) = true → (strOf c).size + (strOf d).size ≤ 9223372036854775807 then some (true && ((!true) || (strEq (strOf (c ++ d)) ((strOf c) ++ (strOf d))))) else none)) = some true
        rw [if_neg (by decide), if_pos (fun _ => by rw [hz, hz, hcl, hdl]; simp; omega), strOf_app]
        simp [strEq]
end Go.Proofs.YtecpbadkdpbkpaaGreatDoor
namespace Go.Proofs.YtecpbadkdpbkpaaGreatDoor
open Go.RowKit Go.M
def ctf_contained.l0 (a0 : api_Def) : Nat → Int → (List Int) → Option ((List Int))
  | 0, _, _ => none
  | m + 1, y1_0, y1_1 => if (decide (y1_0 < (a0.vFields.length : Int))) = true then (if 0 ≤ y1_0 ∧ y1_0 < a0.vFields.length then (if y1_1.length + 1 ≤ 4294967296 then (ctf_contained.l0 a0 m (IntKind.wrap .i64 (y1_0 + 1)) (y1_1 ++ ([(rd z_api_Field a0.vFields y1_0).vType] : List Int))) else none) else none) else (some y1_1)
def ctf_contained.f (k : Nat) (a0 : api_Def) : Option ((List Int)) := ((if (a0.vKind == 3) = true then (some (a0.vKind == 3)) else (some (a0.vKind == 6))) : Option (Bool)).bind fun xx1 => (if xx1 = true then (some ([a0.vRef] : List Int)) else (if (a0.vKind == 4) = true then ((ctf_contained.l0 a0 k 0 ([] : List Int)).bind fun xx2 => (some xx2)) else (some ([] : List Int))))

end Go.Proofs.YtecpbadkdpbkpaaGreatDoor
namespace Go.Proofs.YtecpbadkdpbkpaaGreatDoor
open Go.RowKit Go.M
def ctf_sizes_1.l0 (rec : Int → (List Int) → Bool → (List Bool) → (List api_Def) → Option (Int × (List Int) × Bool × (List Bool))) (x3 : List api_Def) (v1 : (List Int)) : Nat → Int → Int → Bool → (List Int) → (List Bool) → Option (Int × Bool × (List Int) × (List Bool))
  | 0, _, _, _, _, _ => none
  | m + 1, y1_0, y1_1, y1_2, y1_3, y1_4 => if (decide (y1_1 < (v1.length : Int))) = true then (if 0 ≤ y1_1 ∧ y1_1 < v1.length then ((rec (rd 0 v1 y1_1) y1_3 y1_2 y1_4 x3).bind fun v2 => (ctf_sizes_1.l0 rec x3 v1 m v2.1 (IntKind.wrap .i64 (y1_1 + 1)) v2.2.2.1 v2.2.1 v2.2.2.2)) else none) else (some (y1_0, y1_2, y1_3, y1_4))
def ctf_sizes_1.f : Nat → Int → (List Int) → Bool → (List Bool) → (List api_Def) → Option (Int × (List Int) × Bool × (List Bool))
  | 0, _, _, _, _, _ => none
  | k + 1, a0, x0, x1, x2, x3 => if 0 ≤ a0 ∧ a0 < ((x0.length : Nat) : Int) then (if ((decide ((rd 0 x0 a0) > 0)) || (!x1)) = true then (if 0 ≤ a0 ∧ a0 < ((x0.length : Nat) : Int) then (some ((rd 0 x0 a0), x0, x1, x2)) else none) else (if 0 ≤ a0 ∧ a0 < ((x2.length : Nat) : Int) then (if (rd false x2 a0) = true then (some (0, x0, false, x2)) else (if 0 ≤ a0 ∧ a0 < ((x2.length : Nat) : Int) then (if 0 ≤ a0 ∧ a0 < x3.length then ((ctf_contained.f k (rd z_api_Def x3 a0)).bind fun v1 => ((ctf_sizes_1.l0 (ctf_sizes_1.f k) x3 v1 k 0 0 x1 x0 (List.set x2 a0.toNat true)).bind fun xx1 => (if 0 ≤ a0 ∧ a0 < ((xx1.2.2.1.length : Nat) : Int) then (some (((mfind ieq (mput ieq (mput ieq (mput ieq (mput ieq (mput ieq (mput ieq ([] : List (Int × Int)) 1 ((rd z_api_Def x3 a0).vInt.vSize)) 2 8) 3 (IntKind.wrap .i64 ((rd z_api_Def x3 a0).vN * xx1.1))) 4 ((rd z_api_Def x3 a0).vN)) 5 4) 6 xx1.1) ((rd z_api_Def x3 a0).vKind)).getD 0), (List.set xx1.2.2.1 a0.toNat ((mfind ieq (mput ieq (mput ieq (mput ieq (mput ieq (mput ieq (mput ieq ([] : List (Int × Int)) 1 ((rd z_api_Def x3 a0).vInt.vSize)) 2 8) 3 (IntKind.wrap .i64 ((rd z_api_Def x3 a0).vN * xx1.1))) 4 ((rd z_api_Def x3 a0).vN)) 5 4) 6 xx1.1) ((rd z_api_Def x3 a0).vKind)).getD 0)), (xx1.2.1 && (decide (((mfind ieq (mput ieq (mput ieq (mput ieq (mput ieq (mput ieq (mput ieq ([] : List (Int × Int)) 1 ((rd z_api_Def x3 a0).vInt.vSize)) 2 8) 3 (IntKind.wrap .i64 ((rd z_api_Def x3 a0).vN * xx1.1))) 4 ((rd z_api_Def x3 a0).vN)) 5 4) 6 xx1.1) ((rd z_api_Def x3 a0).vKind)).getD 0) ≤ 512))), xx1.2.2.2)) else none))) else none) else none)) else none)) else none

end Go.Proofs.YtecpbadkdpbkpaaGreatDoor
namespace Go.Proofs.YtecpbadkdpbkpaaGreatDoor
open Go.RowKit Go.M
def ctf_sizes.l0 (k : Nat) (a0 : api_Types) : Nat → Int → Bool → (List Bool) → (List Int) → Option (Bool × (List Bool) × (List Int))
  | 0, _, _, _, _ => none
  | m + 1, y1_0, y1_1, y1_2, y1_3 => if (decide (y1_0 < (a0.vDefs.length : Int))) = true then ((ctf_sizes_1.f k y1_0 y1_3 y1_1 y1_2 a0.vDefs).bind fun v1 => (ctf_sizes.l0 k a0 m (IntKind.wrap .i64 (y1_0 + 1)) v1.2.2.1 v1.2.2.2 v1.2.1)) else (some (y1_1, y1_2, y1_3))
def ctf_sizes.f (k : Nat) (a0 : api_Types) : Option ((List Int) × Bool) := if 0 ≤ (a0.vDefs.length : Int) ∧ (a0.vDefs.length : Int) ≤ 4294967296 then (if 0 ≤ (a0.vDefs.length : Int) ∧ (a0.vDefs.length : Int) ≤ 4294967296 then ((ctf_sizes.l0 k a0 k 0 true (List.replicate (a0.vDefs.length : Int).toNat (false : Bool)) (List.replicate (a0.vDefs.length : Int).toNat (0 : Int))).bind fun xx1 => (some (xx1.2.2, xx1.1))) else none) else none

end Go.Proofs.YtecpbadkdpbkpaaGreatDoor
namespace Go.Proofs.YtecpbadkdpbkpaaGreatDoor
open Go.RowKit Go.M

end Go.Proofs.YtecpbadkdpbkpaaGreatDoor
namespace Go.Proofs.YtecpbadkdpbkpaaGreatDoor
open Go.RowKit Go.M

end Go.Proofs.YtecpbadkdpbkpaaGreatDoor
namespace Go.Proofs.YtecpbadkdpbkpaaGreatDoor
open Go.RowKit Go.M

end Go.Proofs.YtecpbadkdpbkpaaGreatDoor
namespace Go.Proofs.YtecpbadkdpbkpaaGreatDoor
open Go.RowKit Go.M

end Go.Proofs.YtecpbadkdpbkpaaGreatDoor
namespace Go.Proofs.YtecpbadkdpbkpaaGreatDoor
open Go.RowKit Go.M

end Go.Proofs.YtecpbadkdpbkpaaGreatDoor
namespace Go.Proofs.YtecpbadkdpbkpaaGreatDoor
open Go.RowKit Go.M

end Go.Proofs.YtecpbadkdpbkpaaGreatDoor
namespace Go.Proofs.YtecpbadkdpbkpaaGreatDoor
open Go.RowKit Go.M

end Go.Proofs.YtecpbadkdpbkpaaGreatDoor
namespace Go.Proofs.YtecpbadkdpbkpaaGreatDoor
open Go.RowKit Go.M

end Go.Proofs.YtecpbadkdpbkpaaGreatDoor
namespace Go.Proofs.YtecpbadkdpbkpaaGreatDoor
open Go.RowKit Go.M

end Go.Proofs.YtecpbadkdpbkpaaGreatDoor
namespace Go.Proofs.YtecpbadkdpbkpaaGreatDoor
open Go.RowKit Go.M

end Go.Proofs.YtecpbadkdpbkpaaGreatDoor
namespace Go.Proofs.YtecpbadkdpbkpaaGreatDoor
open Go.RowKit Go.M

end Go.Proofs.YtecpbadkdpbkpaaGreatDoor
namespace Go.Proofs.YtecpbadkdpbkpaaGreatDoor
open Go.RowKit Go.M

end Go.Proofs.YtecpbadkdpbkpaaGreatDoor
namespace Go.Proofs.YtecpbadkdpbkpaaGreatDoor
open Go.RowKit Go.M

end Go.Proofs.YtecpbadkdpbkpaaGreatDoor
namespace Go.Proofs.YtecpbadkdpbkpaaGreatDoor
open Go.RowKit Go.M

end Go.Proofs.YtecpbadkdpbkpaaGreatDoor
namespace Go.Proofs.YtecpbadkdpbkpaaGreatDoor
open Go.RowKit Go.M

end Go.Proofs.YtecpbadkdpbkpaaGreatDoor
namespace Go.Proofs.YtecpbadkdpbkpaaGreatDoor
open Go.RowKit Go.M

end Go.Proofs.YtecpbadkdpbkpaaGreatDoor
namespace Go.Proofs.YtecpbadkdpbkpaaGreatDoor
open Go.RowKit Go.M

end Go.Proofs.YtecpbadkdpbkpaaGreatDoor
namespace Go.Proofs.YtecpbadkdpbkpaaGreatDoor
open Go.RowKit Go.M

end Go.Proofs.YtecpbadkdpbkpaaGreatDoor
namespace Go.Proofs.YtecpbadkdpbkpaaGreatDoor
open Go.RowKit Go.M

end Go.Proofs.YtecpbadkdpbkpaaGreatDoor
namespace Go.Proofs.YtecpbadkdpbkpaaGreatDoor
open Go.RowKit Go.M

end Go.Proofs.YtecpbadkdpbkpaaGreatDoor
namespace Go.Proofs.YtecpbadkdpbkpaaGreatDoor
open Go.RowKit Go.M

end Go.Proofs.YtecpbadkdpbkpaaGreatDoor
namespace Go.Proofs.YtecpbadkdpbkpaaGreatDoor
open Go.RowKit Go.M

end Go.Proofs.YtecpbadkdpbkpaaGreatDoor
namespace Go.Proofs.YtecpbadkdpbkpaaGreatDoor
open Go.RowKit Go.M

end Go.Proofs.YtecpbadkdpbkpaaGreatDoor
namespace Go.Proofs.YtecpbadkdpbkpaaGreatDoor
open Go.RowKit Go.M

end Go.Proofs.YtecpbadkdpbkpaaGreatDoor
namespace Go.Proofs.YtecpbadkdpbkpaaGreatDoor
open Go.RowKit Go.M

end Go.Proofs.YtecpbadkdpbkpaaGreatDoor
namespace Go.Proofs.YtecpbadkdpbkpaaGreatDoor
open Go.RowKit Go.M

end Go.Proofs.YtecpbadkdpbkpaaGreatDoor
namespace Go.Proofs.YtecpbadkdpbkpaaGreatDoor
open Go.RowKit Go.M

end Go.Proofs.YtecpbadkdpbkpaaGreatDoor
namespace Go.Proofs.YtecpbadkdpbkpaaGreatDoor
open Go.RowKit Go.M

end Go.Proofs.YtecpbadkdpbkpaaGreatDoor
namespace Go.Proofs.YtecpbadkdpbkpaaGreatDoor
open Go.RowKit Go.M

end Go.Proofs.YtecpbadkdpbkpaaGreatDoor
namespace Go.Proofs.YtecpbadkdpbkpaaGreatDoor
open Go.RowKit Go.M

end Go.Proofs.YtecpbadkdpbkpaaGreatDoor
namespace Go.Proofs.YtecpbadkdpbkpaaGreatDoor
open Go.RowKit Go.M

end Go.Proofs.YtecpbadkdpbkpaaGreatDoor
namespace Go.Proofs.YtecpbadkdpbkpaaGreatDoor
open Go.RowKit Go.M

end Go.Proofs.YtecpbadkdpbkpaaGreatDoor
namespace Go.Proofs.YtecpbadkdpbkpaaGreatDoor
open Go.RowKit Go.M

end Go.Proofs.YtecpbadkdpbkpaaGreatDoor
namespace Go.Proofs.YtecpbadkdpbkpaaGreatDoor
open Go.RowKit Go.M

end Go.Proofs.YtecpbadkdpbkpaaGreatDoor
namespace Go.Proofs.YtecpbadkdpbkpaaGreatDoor
open Go.RowKit Go.M

end Go.Proofs.YtecpbadkdpbkpaaGreatDoor
namespace Go.Proofs.YtecpbadkdpbkpaaGreatDoor
open Go.RowKit Go.M

end Go.Proofs.YtecpbadkdpbkpaaGreatDoor
/- the functions that the plain laws speak of -/
/- Plain laws: what holds from some number of rounds on; wrapped numbers; lists that are read by an index. -/
namespace Go.Proofs.YtecpbadkdpbkpaaGreatDoor
open Go.RowKit Go.M
end Go.Proofs.YtecpbadkdpbkpaaGreatDoor
/- Plain laws: names, what a definition contains, shaped definitions. -/
namespace Go.Proofs.YtecpbadkdpbkpaaGreatDoor
open Go.RowKit Go.M
/-- is this byte one of a name, at this place? -/
def okByte (i : Nat) (c : Int) : Bool := ((decide (c ≥ 97) && decide (c ≤ 122)) || (decide (c ≥ 65) && decide (c ≤ 90)) || (c == 95)) || (!(i == 0) && decide (c ≥ 48) && decide (c ≤ 57))
def okFrom : Nat → List Int → Bool
  | _, [] => true
  | i, c :: r => okByte i c && okFrom (i + 1) r
def nameS (s : ByteArray) : Bool := okFrom 0 (bytesOf s) && !(strEq s ByteArray.empty) && decide ((s.size : Int) ≤ 31)

/-! ### what a definition contains -/
def cont (d : api_Def) : List Int := if d.vKind == 3 || d.vKind == 6 then [d.vRef] else if d.vKind == 4 then d.vFields.map (·.vType) else []

/-! ### shapes -/
def shp (k : Int) : Option ctf_shape :=
  if k = 1 then some ⟨true, true, false, false, false⟩ else if k = 2 then some ⟨false, false, true, false, false⟩ else if k = 3 then some ⟨false, false, true, true, false⟩
  else if k = 4 then some ⟨true, false, false, true, true⟩ else if k = 5 then some ⟨true, false, false, false, true⟩ else if k = 6 then some ⟨true, false, true, false, false⟩ else none
/-! ### a list of names that were seen -/
def SeenOk (m : List (ByteArray × Bool)) (ns : List ByteArray) : Prop := ∀ s, (mfind strEq m s).getD false = ns.any (strEq s)
theorem SeenOk.nil : SeenOk [] [] := fun s => rfl
theorem strEq_comm (a b : ByteArray) : strEq a b = strEq b a := by
  cases h : strEq a b with
  | true => rw [strEq_iff] at h; subst h; exact (strEq_iff.2 rfl).symm
  | false =>
    cases h2 : strEq b a with
    | false => rfl
    | true => rw [strEq_iff] at h2; subst h2; rw [strEq_iff.2 rfl] at h; cases h
theorem mfind_mput (m : List (ByteArray × Bool)) (k s : ByteArray) (v : Bool) : mfind strEq (mput strEq m k v) s = if strEq s k = true then some v else mfind strEq m s := by
  induction m with
  | nil => simp [mput, mfind]
  | cons p m ih =>
    simp only [mput]
    by_cases hk : strEq k p.1 = true
    · rw [if_pos hk]
      have := strEq_iff.1 hk
      simp only [mfind]
      by_cases hs : strEq s k = true
      · rw [if_pos hs, if_pos hs]
      · rw [if_neg hs, if_neg hs, if_neg (by rw [← this]; exact hs)]
    · rw [if_neg hk]
      simp only [mfind]
      by_cases hs : strEq s p.1 = true
      · rw [if_pos hs]
        have h1 := strEq_iff.1 hs
        subst h1
        rw [if_neg (by rw [strEq_comm]; exact hk), if_pos (strEq_iff.2 rfl)]
      · rw [if_neg hs, ih]
        by_cases hsk : strEq s k = true
        · rw [if_pos hsk, if_pos hsk]
        · rw [if_neg hsk, if_neg hsk, if_neg hs]
theorem SeenOk.put {m : List (ByteArray × Bool)} {ns : List ByteArray} (h : SeenOk m ns) (k : ByteArray) : SeenOk (mput strEq m k true) (k :: ns) := fun s => by
  rw [mfind_mput, List.any_cons]
  by_cases hs : strEq s k = true
  · rw [if_pos hs, hs]; rfl
  · rw [if_neg hs, h s]
    have : strEq s k = false := by simpa using hs
    rw [this]; rfl
/-- the fields of a definition, the names ahead given -/
def fieldOk (d : api_Def) (n : Int) (f : api_Field) : Bool :=
  !(((d.vKind == 5) && (((f.vType != 0) || decide (f.vAt < (-2147483648))) || decide (f.vAt > 2147483647))) || ((d.vKind == 4) && (decide (f.vType < 0) || decide (f.vType ≥ n))))
def fieldsS (d : api_Def) (n : Int) : List ByteArray → List api_Field → Bool
  | _, [] => true
  | ns, f :: r => nameS f.vName && !(ns.any (strEq f.vName)) && fieldOk d n f && fieldsS d n (f.vName :: ns) r
/-- a shaped definition, of n -/
def shapedS (d : api_Def) (n : Int) : Bool :=
  match shp d.vKind with
  | none => false
  | some s => (if s.vname = true then nameS d.vName else strEq d.vName ByteArray.empty) && (if s.vint = true then okI d.vInt else ((d.vInt.vSize == 0) && (d.vInt.vSigned == false))) &&
      (if s.vref = true then (decide (0 ≤ d.vRef) && decide (d.vRef < n)) else (d.vRef == 0)) && (if s.vn = true then (decide (1 ≤ d.vN) && decide (d.vN ≤ 512)) else (d.vN == 0)) &&
      (s.vfields == decide (0 < d.vFields.length)) && decide (d.vFields.length ≤ 32) && fieldsS d n [] d.vFields
end Go.Proofs.YtecpbadkdpbkpaaGreatDoor
/- Plain laws: sizes. -/
namespace Go.Proofs.YtecpbadkdpbkpaaGreatDoor
open Go.RowKit Go.M
/-- the size of a definition, the size of what it contains given -/
def nval (d : api_Def) (inner : Int) : Int :=
  if d.vKind = 1 then d.vInt.vSize else if d.vKind = 2 then 8 else if d.vKind = 3 then IntKind.wrap .i64 (d.vN * inner) else if d.vKind = 4 then d.vN else if d.vKind = 5 then 4 else if d.vKind = 6 then inner else 0
/-- what sizes need of a definition -/
structure ShD (d : api_Def) (n : Nat) : Prop where
  kind : 1 ≤ d.vKind ∧ d.vKind ≤ 6
  ref : d.vKind = 2 ∨ d.vKind = 3 ∨ d.vKind = 6 → 0 ≤ d.vRef ∧ d.vRef < n
  num : d.vKind = 3 ∨ d.vKind = 4 → 1 ≤ d.vN ∧ d.vN ≤ 512
  int : d.vKind = 1 → d.vInt.vSize = 1 ∨ d.vInt.vSize = 2 ∨ d.vInt.vSize = 4 ∨ d.vInt.vSize = 8
  few : d.vFields.length ≤ 32
  typ : d.vKind = 4 → ∀ f ∈ d.vFields, 0 ≤ f.vType ∧ f.vType < n
  names : (d.vFields.map (·.vName)).Nodup

/-! ### how many are not begun -/
def cnt (l : List Bool) : Nat := (l.filter fun b => !b).length

section
variable (defs : List api_Def)
def inner (out : List Int) (d : api_Def) : Int := (cont d).foldl (fun _ c => out.getD c.toNat 0) 0
/-- what is known of the sizes that are there: in some order each is made of those ahead -/
def Jn (out : List Int) : Prop := ∃ (rk : Nat → Nat) (B : Nat), ∀ j, j < defs.length → 0 < out.getD j 0 →
  rk j < B ∧ out.getD j 0 ≤ 512 ∧ (∀ c ∈ cont (defs.getD j z_api_Def), 0 < out.getD c.toNat 0 ∧ rk c.toNat < rk j) ∧ out.getD j 0 = nval (defs.getD j z_api_Def) (inner out (defs.getD j z_api_Def))
structure Post (out : List Int) (ok : Bool) (bg : List Bool) (out' : List Int) (ok' : Bool) (bg' : List Bool) : Prop where
  lo : out'.length = defs.length
  lb : bg'.length = defs.length
  bgm : ∀ j, bg.getD j false = true → bg'.getD j false = true
  okm : ok' = true → ok = true
  keep : ok' = true → ∀ j, 0 < out.getD j 0 → out'.getD j 0 = out.getD j 0
  stack : ok' = true → ∀ j, bg.getD j false = true → out.getD j 0 ≤ 0 → out'.getD j 0 ≤ 0
  jn : ok' = true → Jn defs out → Jn defs out'
variable {defs}
theorem Post.rfl' {out : List Int} {ok : Bool} {bg : List Bool} (h1 : out.length = defs.length) (h2 : bg.length = defs.length) : Post defs out ok bg out ok bg :=
  ⟨h1, h2, fun _ h => h, fun h => h, fun _ _ _ => rfl, fun _ _ _ h => h, fun _ h => h⟩
theorem Post.trans {o1 o2 o3 : List Int} {k1 k2 k3 : Bool} {b1 b2 b3 : List Bool} (h : Post defs o1 k1 b1 o2 k2 b2) (g : Post defs o2 k2 b2 o3 k3 b3) : Post defs o1 k1 b1 o3 k3 b3 := by
  refine ⟨g.lo, g.lb, fun j hj => g.bgm j (h.bgm j hj), fun hk => h.okm (g.okm hk), fun hk j hj => ?_, fun hk j hb ho => ?_, fun hk hJ => g.jn hk (h.jn (g.okm hk) hJ)⟩
  · have := h.keep (g.okm hk) j hj
    rw [g.keep hk j (by rw [this]; exact hj), this]
  · exact g.stack hk j (h.bgm j hb) (h.stack (g.okm hk) j hb ho)
/-- a call comes to something -/
def CallT (i : Nat) (out : List Int) (ok : Bool) (bg : List Bool) : Prop := ∃ r out' ok' bg', Ev (fun k => ctf_sizes_1.f k (i : Int) out ok bg defs) (r, out', ok', bg') ∧ Post defs out ok bg out' ok' bg' ∧ (ok' = true → Jn defs out → 0 < r ∧ r = out'.getD i 0)
end
theorem Jn.zero {defs : List api_Def} {n : Nat} : Jn defs (List.replicate n 0) := ⟨fun _ => 0, 0, fun j hj h => by
  exfalso
  rw [List.getD_eq_getElem?_getD, List.getElem?_replicate] at h
  split at h <;> simp at h⟩
end Go.Proofs.YtecpbadkdpbkpaaGreatDoor
/- Plain laws: well-formed type data. -/
namespace Go.Proofs.YtecpbadkdpbkpaaGreatDoor
open Go.RowKit Go.M
/-- where the members end, if they stand in order -/
def placedAt (l : List Int) : Int → List api_Field → Option Int
  | at_, [] => some at_
  | at_, f :: r => if ((decide (f.vAt < at_)) || (decide (f.vAt > 512))) = true then none else placedAt l (IntKind.wrap .i64 (f.vAt + rd 0 l f.vType)) r
def placedS (d : api_Def) (l : List Int) : Bool := match placedAt l 0 d.vFields with | none => false | some e => decide (e ≤ d.vN)
def namedS (d : api_Def) : Bool := (d.vKind != 2) && (d.vKind != 3)
/-- following anonymous definitions so often does not lead to a named one -/
def lostS (defs : List api_Def) : Nat → api_Def → Bool
  | 0, d => !namedS d
  | m + 1, d => if namedS d = true then false else lostS defs m (rd z_api_Def defs d.vRef)
def defsS (n : Nat) : List ByteArray → List api_Def → Bool
  | _, [] => true
  | ns, d :: r => shapedS d (n : Int) && !(namedS d && ns.any (strEq d.vName)) && defsS n (d.vName :: ns) r
/-- the lengths that memory has -/
structure FitD (d : api_Def) : Prop where
  name : d.vName.size ≤ 9223372036854775807
  len : d.vFields.length ≤ 9223372036854775807
  names : ∀ f ∈ d.vFields, f.vName.size ≤ 9223372036854775807
/-- what is known of well-formed type data -/
structure GoodT (t : api_Types) (l : List Int) : Prop where
  few : t.vDefs.length ≤ 200
  sh : ∀ d ∈ t.vDefs, ShD d t.vDefs.length
  sizes : Ev (fun k => ctf_sizes.f k t) (l, true)
  len : l.length = t.vDefs.length
  jn : Jn t.vDefs l
  pos : ∀ q, q < t.vDefs.length → 0 < l.getD q 0
  ends : ∀ d ∈ t.vDefs, lostS t.vDefs t.vDefs.length d = false
  placed : ∀ d ∈ t.vDefs, d.vKind = 4 → placedS d l = true
  defs : defsS t.vDefs.length [] t.vDefs = true
end Go.Proofs.YtecpbadkdpbkpaaGreatDoor
/- The laws' arguments as they lie in memory: type data, values that are laid out, images. -/
namespace Go.Proofs.YtecpbadkdpbkpaaGreatDoor
open Go.ChangeShapes Go.WideShapes Go.ChangeAt Go.RowKit Go.M
set_option maxRecDepth 100000
section
variable {H : Type} {enc : TypeId × Value → H} {W : World}
theorem op29 : Opn enc Tryz.prog W 29 k_api_Int (fun _ => True) :=
  (op_iso (fun p => (⟨p.1, p.2⟩ : api_Int)) (fun _ => rfl) (op_struct Tryz.underlying29 (by kernel_rfl) (opf_cons op3 rfl (opf_one op4 rfl)))).weak fun _ _ => trivial
theorem op30 : Opn enc Tryz.prog W 30 (Kd.slice Kd.str) (fun xs => xs.length ≤ maxLen ∧ ∀ s ∈ xs, s.size ≤ maxLen) := op_slice op9 Tryz.underlying30 (by kernel_rfl)
end
end Go.Proofs.YtecpbadkdpbkpaaGreatDoor
/- The laws' arguments as they lie in memory: images, and what is asked of them. -/
namespace Go.Proofs.YtecpbadkdpbkpaaGreatDoor
open Go.ChangeShapes Go.WideShapes Go.ChangeAt Go.RowKit Go.M
set_option maxRecDepth 100000
section
variable {H : Type} {enc : TypeId × Value → H} {W : World}
theorem wf8 {n : Int} (h : (Lit.int .u8 n).wf = true) : 0 ≤ n ∧ n ≤ 255 := by
  simp [Lit.wf, IntKind.min, IntKind.max, IntKind.bits, IntKind.signed] at h
  omega
theorem op5 : Opn enc Tryz.prog W 5 (Kd.int .u8) (fun n => (Lit.int .u8 n).wf = true) := op_int Tryz.underlying5 (by kernel_rfl)
theorem op58 : Opn enc Tryz.prog W 58 k_api_Segment (fun s => s.vBytes.length ≤ 9223372036854775807 ∧ Byt s.vBytes) :=
  (op_iso (fun p => (⟨p.1, p.2⟩ : api_Segment)) (fun _ => rfl) (op_struct Tryz.underlying58 (by kernel_rfl) (opf_cons op2 rfl (opf_one (op_slice op5 Tryz.underlying42 (by kernel_rfl)) rfl)))).weak fun _ h => ⟨max63 h.2.1, fun b hb => wf8 (h.2.2 b hb)⟩
theorem op27 : Opn enc Tryz.prog W 27 k_api_Image (fun m => BytesOk m.vSegs ∧ m.vSegs.length ≤ 9223372036854775807 ∧ ∀ s ∈ m.vSegs, s.vBytes.length ≤ 9223372036854775807) :=
  (op_iso (fun p => (⟨p⟩ : api_Image)) (fun _ => rfl) (op_struct Tryz.underlying27 (by kernel_rfl) (opf_one (op_slice op58 Tryz.underlying25 (by kernel_rfl)) rfl))).weak fun _ h => ⟨fun s hs => (h.2 s hs).2, max63 h.1, fun s hs => (h.2 s hs).1⟩
theorem op32 : Opn enc Tryz.prog W 32 k_taplinelaw09_Asked (fun x => (-9223372036854775808 ≤ x.vAt ∧ x.vAt ≤ 9223372036854775807) ∧ -9223372036854775808 ≤ x.vN ∧ x.vN ≤ 9223372036854775807) :=
  (op_iso (fun p => (⟨p.1, p.2.1, p.2.2.1, p.2.2.2.1, p.2.2.2.2⟩ : taplinelaw09_Asked)) (fun _ => rfl) (op_struct Tryz.underlying32 (by kernel_rfl)
    (opf_cons op2 rfl (opf_cons op3 rfl (opf_cons op29 rfl (opf_cons op9 rfl (opf_one op30 rfl))))))).weak fun _ h => ⟨wf64 h.1, wf64 h.2.1⟩
/-- an image, handed in -/
theorem arg27 {b : Nat} {v : Value} {d : DataW H} {p : List MemPlace} (hval : Value.okWide Tryz.prog W .any b 27 v) (h : DataW.Trod enc Tryz.prog W 0 (fun _ => true) true 27 v d p) :
    ∃ (m : api_Image) (A : Option Addr) (c : Nat), v = .agg #[.slice A m.vSegs.length c] ∧ Rd k_api_Segment (vw W) A m.vSegs ∧ m.vSegs.length ≤ c ∧ BytesOk m.vSegs ∧ m.vSegs.length ≤ 9223372036854775807 ∧ ∀ s ∈ m.vSegs, s.vBytes.length ≤ 9223372036854775807 := by
  obtain ⟨cs, rfl, _⟩ := okWide_struct Tryz.underlying27 hval
  obtain ⟨fuel, hf⟩ := h
  obtain ⟨m, ⟨A, c, hcs, hc, hr⟩, hF⟩ := op27.open_ _ _ _ hf
  refine ⟨m, A, c, ?_, hr, hc, hF⟩
  have : cs.toList = [.slice A m.vSegs.length c] := hcs
  rw [← Array.toArray_toList (xs := cs), this]
/-- what is asked, handed in -/
theorem arg32 {b : Nat} {v : Value} {d : DataW H} {p : List MemPlace} (hval : Value.okWide Tryz.prog W .any b 32 v) (h : DataW.Trod enc Tryz.prog W 0 (fun _ => true) true 32 v d p) :
    ∃ (x : taplinelaw09_Asked) (A : Option Addr) (c : Nat), v = .agg #[.int .i64 x.vAt, .int .i64 x.vN, .int .i64 x.vT.vSize, .bool x.vT.vSigned, .string x.vName, .slice A x.vPath.length c] ∧ Rd Kd.str (vw W) A x.vPath ∧ x.vPath.length ≤ c ∧
      (-9223372036854775808 ≤ x.vAt ∧ x.vAt ≤ 9223372036854775807) ∧ -9223372036854775808 ≤ x.vN ∧ x.vN ≤ 9223372036854775807 := by
  obtain ⟨cs, rfl, _⟩ := okWide_struct Tryz.underlying32 hval
  obtain ⟨fuel, hf⟩ := h
  obtain ⟨x, hK, hF⟩ := op32.open_ _ _ _ hf
  obtain ⟨_, _, e1, rfl, ⟨_, _, rfl, rfl, ⟨_, _, rfl, ⟨_, _, rfl, rfl, rfl⟩, ⟨_, _, rfl, rfl, ⟨A, c, rfl, hc, hr⟩⟩⟩⟩⟩ := hK
  refine ⟨x, A, c, ?_, hr, hc, hF⟩
  have : cs.toList = [.int .i64 x.vAt, .int .i64 x.vN, .int .i64 x.vT.vSize, .bool x.vT.vSigned, .string x.vName, .slice A x.vPath.length c] := e1
  rw [← Array.toArray_toList (xs := cs), this]
end
end Go.Proofs.YtecpbadkdpbkpaaGreatDoor
/- The laws' arguments as they lie in memory: two bytes. -/
namespace Go.Proofs.YtecpbadkdpbkpaaGreatDoor
open Go.ChangeShapes Go.WideShapes Go.ChangeAt Go.RowKit Go.M
set_option maxRecDepth 100000
section
variable {H : Type} {enc : TypeId × Value → H} {W : World}
theorem trod_array2 {P : Program} {w : World} {base : Nat} {spare : Nat → Bool} {held : Bool} {t e : TypeId} {fuel : Nat} {c0 c1 : Value} {x : DataW H × List MemPlace} (ht : P.underlying t = some (.array 2 e)) (hce : P.cellsOf e = 1)
    (h : DataW.trod enc P w base spare held fuel t [c0, c1] = some x) :
    ∃ y0 y1 n, x = (.agg [y0.1, y1.1], y0.2 ++ y1.2) ∧ DataW.trod enc P w base spare held n e [c0] = some y0 ∧ DataW.trod enc P w base spare held n e [c1] = some y1 := by
  cases fuel with
  | zero => simp [DataW.trod] at h
  | succ n =>
    unfold DataW.trod at h
    rw [ht] at h
    have r2 : List.range 2 = [0, 1] := rfl
    simp [r2, hce] at h
    obtain ⟨_, h⟩ := h
    cases h0 : DataW.trod enc P w base spare held n e [c0] with
    | none => simp [h0] at h
    | some y0 =>
      cases h1 : DataW.trod enc P w base spare held n e [c1] with
      | none => simp [h0, h1] at h
      | some y1 =>
        simp [h0, h1] at h
        exact ⟨y0, y1, n, h.symm, h0, h1⟩
theorem arg69 {b : Nat} {v : Value} {d : DataW H} {p : List MemPlace} (hval : Value.okWide Tryz.prog W .any b 69 v) (h : DataW.Trod enc Tryz.prog W 0 (fun _ => true) true 69 v d p) :
    ∃ y : arr2_Int, v = .agg #[.int .u8 y.ve0, .int .u8 y.ve1] ∧ (0 ≤ y.ve0 ∧ y.ve0 ≤ 255) ∧ 0 ≤ y.ve1 ∧ y.ve1 ≤ 255 := by
  have hsh : ∃ cs : Array Value, v = .agg cs ∧ cs.size = 2 := by
    simp only [Value.okWide, Tryz.underlying69] at hval
    obtain ⟨cs, h1, h2, _⟩ := hval
    exact ⟨cs, h1, h2.trans (by kernel_rfl)⟩
  obtain ⟨cs, rfl, hcs⟩ := hsh
  obtain ⟨fuel, hf⟩ := h
  have hl : cs.toList.length = 2 := by simpa using hcs
  obtain ⟨c0, c1, e⟩ : ∃ c0 c1, cs.toList = [c0, c1] := by
    match hm : cs.toList, hl with
    | [c0, c1], _ => exact ⟨c0, c1, rfl⟩
  have hf : DataW.trod enc Tryz.prog W 0 (fun _ => true) true fuel 69 cs.toList = some (d, p) := hf
  rw [e] at hf
  obtain ⟨y0, y1, n, _, g0, g1⟩ := trod_array2 Tryz.underlying69 (by kernel_rfl) hf
  obtain ⟨n0, q0, _, w0⟩ := DataW.trod_int Tryz.underlying5 g0
  obtain ⟨n1, q1, _, w1⟩ := DataW.trod_int Tryz.underlying5 g1
  refine ⟨⟨n0, n1⟩, ?_, wf8 w0, wf8 w1⟩
  rw [← Array.toArray_toList (xs := cs), e]
  simp only [List.cons.injEq, and_true] at q0 q1
  rw [q0, q1]
end
end Go.Proofs.YtecpbadkdpbkpaaGreatDoor
