/- Parts of a proof, merged by program: Q1. The walks (each function once) and the plain laws; no condition of their own. -/
import Derived.Test.YtecpbadkdpbkpaaGreatDoorSym4
set_option linter.unusedVariables false
set_option linter.unusedSimpArgs false
/- The law of symbols: ImageSymbols answers true. -/
namespace Go.Proofs.YtecpbadkdpbkpaaGreatDoor
open Go.RowKit Go.M
/-! ### it has an answer -/
theorem name_l0 (s : ByteArray) (hs : s.size ≤ 31) : ∀ (d j m : Nat), j + d = s.size → d < m → ∃ x, taplineref02_IsName.l0 s m (j : Int) = some x := by
  intro d
  induction d with
  | zero =>
    intro j m hj hm
    obtain ⟨m, rfl⟩ : ∃ q, m = q + 1 := ⟨m - 1, by omega⟩
    rw [taplineref02_IsName.l0, if_neg (by simp; omega)]
    exact ⟨_, rfl⟩
  | succ d ih =>
    intro j m hj hm
    obtain ⟨m, rfl⟩ : ∃ q, m = q + 1 := ⟨m - 1, by omega⟩
    have hb : 0 ≤ (j : Int) ∧ (j : Int) < (s.size : Int) := by omega
    rw [taplineref02_IsName.l0, if_pos (by simp; omega), if_pos hb]
    simp only [taplineref02_isLetter.f, Option.bind_some]
    rw [if_pos (fun _ => hb), if_pos (fun _ => hb)]
    split
    · exact ⟨_, rfl⟩
    · rw [wrap_nat (n := s.size) (by omega) (by omega)]
      exact ih (j + 1) m (by omega) (by omega)
theorem name_some (k : Nat) (hk : 32 ≤ k) (s : ByteArray) : ∃ b, taplineref02_IsName.f k s = some b := by
  unfold taplineref02_IsName.f
  split
  · exact ⟨_, rfl⟩
  · next h =>
    simp only [Bool.or_eq_true, decide_eq_true_eq, not_or] at h
    obtain ⟨x, hx⟩ := name_l0 s (by omega) s.size 0 k (by omega) (by omega)
    rw [show (0 : Int) = ((0 : Nat) : Int) from rfl, hx]
    cases x <;> exact ⟨_, rfl⟩
variable {l : List api_Sym}
theorem dup_some (hl : l.length ≤ 32) {i : Nat} (hi : i < l.length) : ∀ (d j m : Nat), j + d = i → d < m → ∃ x, taplineref06_Symbols.l1 l (i : Int) m (j : Int) = some x := by
  intro d
  induction d with
  | zero =>
    intro j m hj hm
    obtain ⟨m, rfl⟩ : ∃ q, m = q + 1 := ⟨m - 1, by omega⟩
    rw [taplineref06_Symbols.l1, if_neg (by simp; omega)]
    exact ⟨_, rfl⟩
  | succ d ih =>
    intro j m hj hm
    obtain ⟨m, rfl⟩ : ∃ q, m = q + 1 := ⟨m - 1, by omega⟩
    rw [taplineref06_Symbols.l1, if_pos (by simp; omega), if_pos (by omega), if_pos (by omega)]
    split
    · exact ⟨_, rfl⟩
    · rw [wrap_nat (n := l.length) (by omega) (by omega)]
      exact ih (j + 1) m (by omega) (by omega)
theorem dup_false {i : Int} : ∀ {m : Nat} {j : Int} {r : Bool}, taplineref06_Symbols.l1 l i m j = some (.inl r) → r = false := by
  intro m
  induction m with
  | zero => intro j r h; simp [taplineref06_Symbols.l1] at h
  | succ m ih =>
    intro j r h
    rw [taplineref06_Symbols.l1] at h
    split at h
    · split at h
      · split at h
        · split at h
          · simpa using h.symm
          · exact ih h
        · cases h
      · cases h
    · simp at h
/-- the symbol, and where the next one begins -/
def sy (l : List api_Sym) (i : Nat) : api_Sym := l.getD i z_api_Sym
def nxt (l : List api_Sym) (i : Nat) : Int := if i + 1 < l.length then iMin 1099511627776 (sy l (i + 1)).vAt else 1099511627776
def SyOk (l : List api_Sym) (i : Nat) : Prop := 0 ≤ (sy l i).vAt ∧ (sy l i).vAt ≤ 1099511627776 ∧ 1 ≤ (sy l i).vSize ∧ (sy l i).vSize ≤ IntKind.wrap .i64 (nxt l i - (sy l i).vAt)
theorem syms_l0 (k : Nat) (hk : 33 ≤ k) (hl : l.length ≤ 32) : ∀ (d j m : Nat), j + d = l.length → d < m →
    ∃ x, taplineref06_Symbols.l0 k l 1099511627776 m (j : Int) = some x ∧ (x = .inl false ∨ x = .inr () ∧ ∀ i, j ≤ i → i < l.length → SyOk l i) := by
  intro d
  induction d with
  | zero =>
    intro j m hj hm
    obtain ⟨m, rfl⟩ : ∃ q, m = q + 1 := ⟨m - 1, by omega⟩
    rw [taplineref06_Symbols.l0, if_neg (by simp; omega)]
    exact ⟨_, rfl, .inr ⟨rfl, fun i _ _ => by omega⟩⟩
  | succ d ih =>
    intro j m hj hm
    obtain ⟨m, rfl⟩ : ∃ q, m = q + 1 := ⟨m - 1, by omega⟩
    have hb : 0 ≤ (j : Int) ∧ (j : Int) < (l.length : Int) := by omega
    have hw : IntKind.wrap .i64 ((j : Int) + 1) = ((j + 1 : Nat) : Int) := wrap_nat (n := l.length) (by omega) (by omega)
    obtain ⟨nb, hn⟩ := name_some k (by omega) (sy l j).vName
    have hx2 : (if (decide (((j + 1 : Nat) : Int) < (l.length : Int))) = true then (if 0 ≤ ((j + 1 : Nat) : Int) ∧ ((j + 1 : Nat) : Int) < l.length then (some (iMin 1099511627776 ((rd z_api_Sym l ((j + 1 : Nat) : Int))).vAt)) else none) else (some 1099511627776) : Option Int) = some (nxt l j) := by
      unfold nxt
      by_cases h : j + 1 < l.length
      · rw [if_pos (by simp; omega), if_pos (by omega), if_pos h, rd_nat]; rfl
      · rw [if_neg (by simp; omega), if_neg h]
    have hr : rd z_api_Sym l (j : Int) = sy l j := rd_nat j
    rw [taplineref06_Symbols.l0, if_pos (by simp; omega), hw, hx2]
    simp only [Option.bind_some]
    rw [if_pos hb, hr, hn]
    simp only [Option.bind_some]
    rw [if_pos (fun _ => hb), if_pos (fun _ => hb), if_pos (fun _ => hb), if_pos (fun _ => hb), if_pos (fun _ => hb)]
    split
    · exact ⟨_, rfl, .inl rfl⟩
    · next h =>
      simp only [Bool.or_eq_true, decide_eq_true_eq, not_or] at h
      obtain ⟨x, hx⟩ := dup_some hl (i := j) (by omega) j 0 k (by omega) (by omega)
      rw [show (0 : Int) = ((0 : Nat) : Int) from rfl, hx]
      simp only [Option.bind_some]
      cases x with
      | inl r =>
        refine ⟨_, rfl, .inl ?_⟩
        exact congrArg _ (dup_false hx)
      | inr u =>
        obtain ⟨y, hy, hor⟩ := ih (j + 1) m (by omega) (by omega)
        refine ⟨y, hy, ?_⟩
        rcases hor with h1 | ⟨h1, h2⟩
        · exact .inl h1
        · refine .inr ⟨h1, fun i hi hi2 => ?_⟩
          by_cases e : i = j
          · subst e
            exact ⟨by omega, by omega, by omega, by omega⟩
          · exact h2 i (by omega) hi2
theorem syms_some (k : Nat) (hk : 33 ≤ k) : ∃ b, taplineref06_Symbols.f k l 1099511627776 = some b ∧ (b = true → l.length ≤ 32 ∧ ∀ i, i < l.length → SyOk l i) := by
  unfold taplineref06_Symbols.f
  split
  · exact ⟨false, rfl, fun h => by cases h⟩
  · next h =>
    simp only [decide_eq_true_eq] at h
    obtain ⟨x, hx, hor⟩ := syms_l0 (l := l) k hk (by omega) l.length 0 k (by omega) (by omega)
    rw [show (0 : Int) = ((0 : Nat) : Int) from rfl, hx]
    rcases hor with rfl | ⟨rfl, h2⟩
    · exact ⟨false, rfl, fun h => by cases h⟩
    · exact ⟨true, rfl, fun _ => ⟨by omega, fun i hi => h2 i (by omega) hi⟩⟩
/-! ### what covers an address -/
def Cv (l : List api_Sym) (i : Nat) (at_ : Int) : Prop := (sy l i).vAt ≤ at_ ∧ at_ < (sy l i).vAt + (sy l i).vSize
instance (l : List api_Sym) (i : Nat) (at_ : Int) : Decidable (Cv l i at_) := by unfold Cv; infer_instance
theorem SyOk.next (h : ∀ i, i < l.length → SyOk l i) {i : Nat} (hi : i < l.length) : (sy l i).vAt + (sy l i).vSize ≤ nxt l i := by
  obtain ⟨h1, h2, h3, h4⟩ := h i hi
  have h5 : 0 ≤ nxt l i ∧ nxt l i ≤ 1099511627776 := by
    unfold nxt iMin
    split
    · next hlt =>
      obtain ⟨g1, g2, _⟩ := h (i + 1) hlt
      split <;> omega
    · omega
  rw [wrap_id (by omega) (by omega)] at h4
  omega
theorem SyOk.below (h : ∀ i, i < l.length → SyOk l i) : ∀ (d : Nat) {i k : Nat}, k = i + 1 + d → k < l.length → (sy l i).vAt + (sy l i).vSize ≤ (sy l k).vAt
  | 0, i, k, e, hk => by
    have := SyOk.next h (i := i) (by omega)
    subst e
    unfold nxt iMin at this
    rw [if_pos (by omega)] at this
    simp only [Nat.add_zero]
    split at this <;> omega
  | d + 1, i, k, e, hk => by
    have h1 := SyOk.below h d (i := i) (k := i + 1 + d) rfl (by omega)
    have h2 := SyOk.below h 0 (i := i + 1 + d) (k := k) (by omega) hk
    have := (h (i + 1 + d) (by omega)).2.2.1
    omega
theorem Cv.uniq (h : ∀ i, i < l.length → SyOk l i) {i k : Nat} {at_ : Int} (hi : i < l.length) (hk : k < l.length) (h1 : Cv l i at_) (h2 : Cv l k at_) : i = k := by
  unfold Cv at h1 h2
  rcases Nat.lt_trichotomy i k with hlt | heq | hgt
  · have := SyOk.below h (k - i - 1) (i := i) (k := k) (by omega) hk
    omega
  · exact heq
  · have := SyOk.below h (i - k - 1) (i := k) (k := i) (by omega) hi
    omega
theorem wrapu {x : Int} (h0 : 0 ≤ x) (h1 : x < 18446744073709551616) : IntKind.wrap .u64 x = x := by
  simp [IntKind.wrap, IntKind.bits, IntKind.signed]
  omega
theorem cov_eq (h : ∀ i, i < l.length → SyOk l i) {i : Nat} (hi : i < l.length) {at_ : Int} (ha : at_ ≤ 9223372036854775807) :
    image_Find_1.f (sy l i) at_ = some (decide (Cv l i at_)) := by
  obtain ⟨h1, h2, h3, h4⟩ := h i hi
  have h6 := SyOk.next h hi
  have h7 : nxt l i ≤ 1099511627776 := by unfold nxt iMin; split <;> (try split) <;> omega
  unfold image_Find_1.f
  by_cases hle : (sy l i).vAt ≤ at_
  · rw [wrapu (x := at_) (by omega) (by omega), wrapu (x := (sy l i).vAt) (by omega) (by omega), wrapu (x := at_ - (sy l i).vAt) (by omega) (by omega),
      show iMax (sy l i).vSize 0 = (sy l i).vSize by unfold iMax; rw [if_neg (by omega)], wrapu (x := (sy l i).vSize) (by omega) (by omega)]
    refine congrArg some ?_
    rw [Bool.eq_iff_iff]
    simp only [Bool.and_eq_true, decide_eq_true_eq]
    unfold Cv
    constructor <;> intro hh <;> constructor <;> omega
  · have : ¬ Cv l i at_ := fun hc => hle hc.1
    simp [hle, this]
/-- the place of the first element that is so -/
theorem index_loop {p : api_Sym → Option Bool} {q : api_Sym → Bool} (hp : ∀ z ∈ l, p z = some (q z)) (hl : l.length ≤ 9223372036854775807) :
    ∀ (d j m : Nat), j + d = l.length → d < m → slices_IndexFunc_api_Sym_api_Sym.l0 l p m (j : Int) = some (if ((l.drop j).any q) = true then .inl (((j + (l.drop j).findIdx q : Nat)) : Int) else .inr ()) := by
  intro d
  induction d with
  | zero =>
    intro j m hj hm
    obtain ⟨m, rfl⟩ : ∃ q, m = q + 1 := ⟨m - 1, by omega⟩
    rw [slices_IndexFunc_api_Sym_api_Sym.l0, if_neg (by simp; omega)]
    have : l.drop j = [] := List.drop_eq_nil_of_le (by omega)
    rw [this]
    rfl
  | succ d ih =>
    intro j m hj hm
    obtain ⟨m, rfl⟩ : ∃ q, m = q + 1 := ⟨m - 1, by omega⟩
    have hlt : j < l.length := by omega
    rw [slices_IndexFunc_api_Sym_api_Sym.l0, if_pos (by simp; omega), if_pos (by omega), rd_nat, hp _ (getD_mem hlt)]
    have hd : l.drop j = l.getD j z_api_Sym :: l.drop (j + 1) := by
      rw [List.drop_eq_getElem_cons hlt, List.getD_eq_getElem?_getD, List.getElem?_eq_getElem hlt]; rfl
    simp only [Option.bind_some]
    cases hb : q (l.getD j z_api_Sym) with
    | true =>
      rw [if_pos rfl, hd]
      simp only [List.any_cons, hb, Bool.true_or, if_true, List.findIdx_cons, cond_true, Nat.add_zero]
    | false =>
      rw [if_neg (by simp), wrap_nat hlt hl, ih (j + 1) m (by omega) (by omega), hd]
      simp only [List.any_cons, hb, Bool.false_or, List.findIdx_cons, cond_false]
      split
      · congr 2; omega
      · rfl
theorem sy_eq {i : Nat} (hi : i < l.length) : l[i] = sy l i := by
  unfold sy
  rw [List.getD_eq_getElem?_getD, List.getElem?_eq_getElem hi]; rfl
theorem find_spec (h : ∀ i, i < l.length → SyOk l i) (hl : l.length ≤ 32) {k : Nat} (hk : 33 ≤ k) {at_ : Int} (ha : at_ ≤ 9223372036854775807) :
    ∃ v, image_Find.f k l at_ = some v ∧ ((∃ i, i < l.length ∧ Cv l i at_ ∧ v = ((i : Int), at_ - (sy l i).vAt, true)) ∨ (∀ i, i < l.length → ¬ Cv l i at_) ∧ v = (0, 0, false)) := by
  have hp : ∀ z ∈ l, image_Find_1.f z at_ = some ((image_Find_1.f z at_).getD false) := by
    intro z hz
    obtain ⟨i, hi, e⟩ := List.getElem_of_mem hz
    rw [← e, sy_eq hi, cov_eq h hi ha]
    rfl
  have hq : ∀ i (hi : i < l.length), (image_Find_1.f l[i] at_).getD false = decide (Cv l i at_) := by
    intro i hi
    rw [sy_eq hi, cov_eq h hi ha]
    rfl
  have h0 := index_loop (l := l) (p := fun z0 => image_Find_1.f z0 at_) (q := fun z => (image_Find_1.f z at_).getD false) hp (by omega) l.length 0 k (by omega) (by omega)
  rw [List.drop_zero] at h0
  unfold image_Find.f slices_IndexFunc_api_Sym_api_Sym.f
  rw [show (0 : Int) = ((0 : Nat) : Int) from rfl, h0]
  by_cases hany : (l.any fun z => (image_Find_1.f z at_).getD false) = true
  · rw [if_pos hany]
    simp only [Option.bind_some, Nat.zero_add]
    have hlt := List.findIdx_lt_length_of_exists (p := fun z => (image_Find_1.f z at_).getD false) (xs := l) (by simpa using hany)
    have hc := List.findIdx_getElem (p := fun z => (image_Find_1.f z at_).getD false) (xs := l) (w := hlt)
    generalize List.findIdx (fun z => (image_Find_1.f z at_).getD false) l = i at hlt hc ⊢
    rw [hq i hlt] at hc
    have hc : Cv l i at_ := by simpa using hc
    rw [if_neg (by simp), if_pos (by omega), rd_nat]
    obtain ⟨h1, h2, h3, h4⟩ := h i hlt
    refine ⟨_, rfl, .inl ⟨i, hlt, hc, ?_⟩⟩
    unfold Cv at hc
    rw [show l.getD i z_api_Sym = sy l i from rfl, wrap_id (by omega) (by omega)]
  · rw [if_neg hany]
    refine ⟨_, rfl, .inr ⟨fun i hi hc => hany ?_, rfl⟩⟩
    refine List.any_eq_true.2 ⟨l[i], List.getElem_mem hi, ?_⟩
    rw [hq i hi]
    simpa using hc
theorem name_spec (h : ∀ i, i < l.length → SyOk l i) (hl : l.length ≤ 32) {k : Nat} (hk : 33 ≤ k) {i : Nat} (hi : i < l.length) : image_Name.f k l (sy l i).vAt = some (sy l i).vName := by
  obtain ⟨h1, h2, h3, h4⟩ := h i hi
  obtain ⟨v, hv, hor⟩ := find_spec h hl hk (at_ := (sy l i).vAt) (by omega)
  unfold image_Name.f
  rw [hv]
  have hc : Cv l i (sy l i).vAt := ⟨by omega, by omega⟩
  rcases hor with ⟨j, hj, hcj, rfl⟩ | ⟨hno, _⟩
  · obtain rfl := Cv.uniq h hj hi hcj hc
    simp only [Option.bind_some, Int.sub_self, Bool.not_true, Bool.false_eq_true, if_false, beq_self_eq_true, if_true]
    rw [if_pos (by omega), rd_nat]
    rfl
  · exact absurd hc (hno i hi)
theorem law_l0 (h : ∀ i, i < l.length → SyOk l i) (hl : l.length ≤ 32) {k : Nat} (hk : 33 ≤ k) {at_ : Int} {v : Int × Int × Bool}
    (hv : (∃ i, i < l.length ∧ Cv l i at_ ∧ v = ((i : Int), at_ - (sy l i).vAt, true)) ∨ (∀ i, i < l.length → ¬ Cv l i at_) ∧ v = (0, 0, false)) (ha : at_ ≤ 9223372036854775807) :
    ∀ (d j m : Nat), j + d = l.length → d < m → taplinelaw09_ImageSymbols.l0 k l at_ v m (j : Int) = some (.inr ()) := by
  intro d
  induction d with
  | zero =>
    intro j m hj hm
    obtain ⟨m, rfl⟩ : ∃ q, m = q + 1 := ⟨m - 1, by omega⟩
    rw [taplinelaw09_ImageSymbols.l0, if_neg (by simp; omega)]
  | succ d ih =>
    intro j m hj hm
    obtain ⟨m, rfl⟩ : ∃ q, m = q + 1 := ⟨m - 1, by omega⟩
    have hlt : j < l.length := by omega
    have hb : 0 ≤ (j : Int) ∧ (j : Int) < (l.length : Int) := by omega
    have hr : rd z_api_Sym l (j : Int) = sy l j := rd_nat j
    obtain ⟨h1, h2, h3, h4⟩ := h j hlt
    have hin : ((decide (at_ ≥ (sy l j).vAt)) && (decide ((IntKind.wrap .i64 (at_ - ((sy l j).vAt))) < (sy l j).vSize))) = decide (Cv l j at_) := by
      by_cases hle : (sy l j).vAt ≤ at_
      · rw [wrap_id (by omega) (by omega)]
        rw [Bool.eq_iff_iff]
        simp only [Bool.and_eq_true, decide_eq_true_eq]
        unfold Cv
        constructor <;> intro hh <;> constructor <;> omega
      · have : ¬ Cv l j at_ := fun hc => hle hc.1
        simp [hle, this]
    have hsame : decide (Cv l j at_) = (v.2.2 && (v.1 == (j : Int))) := by
      rcases hv with ⟨i, hi, hc, rfl⟩ | ⟨hno, rfl⟩
      · by_cases e : i = j
        · subst e; simp [hc]
        · have : ¬ Cv l j at_ := fun hc2 => e (Cv.uniq h hi hlt hc hc2)
          simp [this]
          omega
      · simp [hno j hlt]
    have hn : (decide (Cv l j at_) && (v.2.1 != (IntKind.wrap .i64 (at_ - ((sy l j).vAt))))) = false := by
      rcases hv with ⟨i, hi, hc, rfl⟩ | ⟨hno, rfl⟩
      · by_cases e : i = j
        · subst e
          have hc2 := hc
          unfold Cv at hc2
          rw [wrap_id (by omega) (by omega)]
          simp
        · have : ¬ Cv l j at_ := fun hc2 => e (Cv.uniq h hi hlt hc hc2)
          simp [this]
      · simp [hno j hlt]
    rw [taplinelaw09_ImageSymbols.l0, if_pos (by simp; omega), if_pos hb, hr, hin, ← hsame]
    rw [if_pos (fun _ => hb), if_pos (fun _ => hb), if_pos (fun _ => hb), if_pos (fun _ => hb)]
    simp only [bne_self_eq_false, hn, Bool.or_self, beq_self_eq_true, Bool.and_self, if_true, name_spec h hl hk hlt, Option.bind_some]
    rw [if_pos (fun _ => hb)]
    rw [if_neg (by simp [strEq])]
    rw [wrap_nat (n := l.length) (by omega) (by omega)]
    exact ih (j + 1) m (by omega) (by omega)
/-- the law -/
theorem symbols_ok (l : List api_Sym) (at_ : Int) (ha : at_ ≤ 9223372036854775807) : ∃ K, ∀ k, K ≤ k → taplinelaw09_ImageSymbols.f k l at_ = some true := by
  refine ⟨33, fun k hk => ?_⟩
  obtain ⟨b, hb, hsy⟩ := syms_some (l := l) k hk
  unfold taplinelaw09_ImageSymbols.f
  simp only [taplinelaw09_sane.f, Option.bind_some, hb]
  cases b with
  | false => rfl
  | true =>
    obtain ⟨hl, h⟩ := hsy rfl
    obtain ⟨v, hv, hor⟩ := find_spec h hl hk ha
    rw [hv]
    simp only [Option.bind_some]
    rw [show (0 : Int) = ((0 : Nat) : Int) from rfl, law_l0 h hl hk hor ha l.length 0 k (by omega) (by omega)]
    rfl
end Go.Proofs.YtecpbadkdpbkpaaGreatDoor
