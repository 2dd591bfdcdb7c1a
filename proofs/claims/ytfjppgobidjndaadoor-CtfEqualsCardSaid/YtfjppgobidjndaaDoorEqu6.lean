/- CtfEquals: for any three type data, types of them and a path the statement's function returns true, and leaves its arguments as they were. Conditions: none but the row's own (its three listed variables hold what the program's text lays). -/
import Derived.Test.YtfjppgobidjndaaDoorEqu5
import Derived.Laws.IdiomArrays
set_option linter.unusedVariables false
set_option linter.unusedSimpArgs false
namespace Go.Proofs.YtfjppgobidjndaaDoor.ctfEquals
open Go.ChangeShapes Go.WideShapes Go.ChangeAt Go.RowKit Go.M
set_option maxRecDepth 100000
section
variable {H : Type} {enc : TypeId × Value → H} {W : World}
theorem op70 : Opn enc Tryd.prog W 70 k_taplinelaw08_Three (fun x => FitT x.vT ∧ FitT x.vU ∧ FitT x.vV) :=
  (op_iso (fun p => (⟨p.1, p.2.1, p.2.2⟩ : taplinelaw08_Three)) (fun _ => rfl) (op_struct Tryd.underlying70 (by kernel_rfl) (opf_cons op24 rfl (opf_cons op24 rfl (opf_one op24 rfl))))).weak fun _ h => h
/-- three type data, handed in -/
theorem arg70 {b : Nat} {v : Value} {d : DataW H} {p : List MemPlace} (hval : Value.okWide Tryd.prog W .any b 70 v) (h : DataW.Trod enc Tryd.prog W 0 (fun _ => true) true 70 v d p) :
    ∃ (x : taplinelaw08_Three) (A : Option Addr) (c : Nat) (B : Option Addr) (e : Nat) (C : Option Addr) (g : Nat), v = .agg #[.slice A x.vT.vDefs.length c, .slice B x.vU.vDefs.length e, .slice C x.vV.vDefs.length g] ∧ Rd k_api_Def (vw W) A x.vT.vDefs ∧ x.vT.vDefs.length ≤ c ∧ Rd k_api_Def (vw W) B x.vU.vDefs ∧ x.vU.vDefs.length ≤ e ∧ Rd k_api_Def (vw W) C x.vV.vDefs ∧ x.vV.vDefs.length ≤ g ∧
      (∀ d ∈ x.vT.vDefs, FitD d) ∧ (∀ d ∈ x.vU.vDefs, FitD d) ∧ (∀ d ∈ x.vV.vDefs, FitD d) := by
  obtain ⟨cs, rfl, _⟩ := okWide_struct Tryd.underlying70 hval
  obtain ⟨fuel, hf⟩ := h
  obtain ⟨x, hK, hF⟩ := op70.open_ _ _ _ hf
  obtain ⟨l1, l2, e1, ⟨A, c, ea, hcA, hrA⟩, l3, l4, e2, ⟨B, e, eb, hcB, hrB⟩, ⟨C, g, ec, hcC, hrC⟩⟩ := hK
  refine ⟨x, A, c, B, e, C, g, ?_, hrA, hcA, hrB, hcB, hrC, hcC, hF.1.2, hF.2.1.2, hF.2.2.2⟩
  have : cs.toList = [.slice A x.vT.vDefs.length c, .slice B x.vU.vDefs.length e, .slice C x.vV.vDefs.length g] := e1.trans (by rw [ea, e2, eb, ec]; rfl)
  rw [← Array.toArray_toList (xs := cs), this]
theorem arg71 {b : Nat} {v : Value} {d : DataW H} {p : List MemPlace} (hval : Value.okWide Tryd.prog W .any b 71 v) (h : DataW.Trod enc Tryd.prog W 0 (fun _ => true) true 71 v d p) :
    ∃ y : arr3_Int, v = .agg #[.int .i64 y.ve0, .int .i64 y.ve1, .int .i64 y.ve2] := by
  have hsh : ∃ cs : Array Value, v = .agg cs ∧ cs.size = 3 := by
    simp only [Value.okWide, Tryd.underlying71] at hval
    obtain ⟨cs, h1, h2, _⟩ := hval
    exact ⟨cs, h1, h2.trans (by kernel_rfl)⟩
  obtain ⟨cs, rfl, hcs⟩ := hsh
  obtain ⟨fuel, hf⟩ := h
  have hl : cs.toList.length = 3 := by simpa using hcs
  obtain ⟨c0, c1, c2, e⟩ : ∃ c0 c1 c2, cs.toList = [c0, c1, c2] := by
    match hm : cs.toList, hl with
    | [c0, c1, c2], _ => exact ⟨c0, c1, c2, rfl⟩
  have hf : DataW.trod enc Tryd.prog W 0 (fun _ => true) true fuel 71 cs.toList = some (d, p) := hf
  rw [e] at hf
  obtain ⟨y0, y1, y2, n, _, g0, g1, g2⟩ := trod_array3 Tryd.underlying71 (by kernel_rfl) hf
  obtain ⟨n0, q0, _⟩ := DataW.trod_int Tryd.underlying3 g0
  obtain ⟨n1, q1, _⟩ := DataW.trod_int Tryd.underlying3 g1
  obtain ⟨n2, q2, _⟩ := DataW.trod_int Tryd.underlying3 g2
  refine ⟨⟨n0, n1, n2⟩, ?_⟩
  rw [← Array.toArray_toList (xs := cs), e]
  simp only [List.cons.injEq, and_true] at q0 q1 q2
  rw [q0, q1, q2]
end
theorem contract (H : Type) (enc : TypeId × Value → H) (W : World) (base : Nat) (args : Array Value) (ds gs : List (DataW H)) (before : List MemPlace)
    (hval : ∀ (j : Nat) t v, Tryd.f6.params[j]? = some t → args[j]? = some v → Value.okWide Tryd.prog W .any base t v)
    (hW : DataW.Whole enc Tryd.prog Tryd.f6.params.toList Rows.ctfEqualsSpec.vars false W args.toList ds gs before) (hL : laidMetH Tryd.prog laid3 W) :
    Calls Tryd.prog 6 args W fun e W' => ∃ v, e = .returned v ∧ Rows.ctfEqualsSpec.post enc Tryd.prog Tryd.f6 false true false false W args v W' := by
  have hW' := hW
  obtain ⟨p, q, hA0, hV, rfl, hfz, hnd⟩ := hW
  have hA : DataW.TrodAll enc Tryd.prog W 0 (fun _ => true) true Tryd.f6.params.toList args.toList ds p := hA0
  rw [Tryd.params6] at hA hval
  obtain ⟨v0, vs0, d0, ds0, p0, q0, hargs, rfl, rfl, h0, r0⟩ := trodAll_cons hA
  obtain ⟨v1, vs1, d1, ds1, p1, q1, rfl, rfl, rfl, h1, r1⟩ := trodAll_cons r0
  obtain ⟨v2, vs2, d2, ds2, p2, q2, rfl, rfl, rfl, h2, r2⟩ := trodAll_cons r1
  obtain ⟨rfl, rfl, rfl⟩ := trodAll_nil r2
  obtain rfl : args = #[v0, v1, v2] := by cases args; simp_all
  obtain ⟨rfl, rfl⟩ := trodVars_none hV
  obtain ⟨x, A, c, B, e, C, g, rfl, hrA, hcA, hrB, hcB, hrC, hcC, hFT, hFU, hFV⟩ := arg70 (hval 0 70 v0 rfl rfl) h0
  obtain ⟨y, rfl⟩ := arg71 (hval 1 71 v1 rfl rfl) h1
  obtain ⟨xs, A2, c2, rfl, hr2, hc2, hl2, _⟩ := arg25 (hval 2 25 v2 rfl rfl) h2
  have ht := tab_of hL
  obtain ⟨K, hK⟩ := equals_ev hFT hFU hFV y xs
  refine (taplinelaw08_CtfEquals.calls K x y xs A c B e C g A2 c2 (vw_sees W) ht hrA hcA hrB hcB hrC hcC hr2 hc2 (hK K (Nat.le_refl _))).mono fun e W' ⟨he, hE⟩ => ⟨_, he, ?_⟩
  exact law_post (by rw [Tryd.params6]; decide +kernel) rfl rfl rfl hW' hE
theorem reads (os : Os) {H : Type} (enc : TypeId × Value → H) : ∃ d places, DataW.whole enc Tryd.prog ((laidWorld os).forCall (fun _ _ => 0) ⟨#[], #[.agg #[.slice none 0 0, .slice none 0 0, .slice none 0 0], .agg #[.int .i64 0, .int .i64 0, .int .i64 0], .slice none 0 0], []⟩).memory Tryd.f6.params.toList Rows.ctfEqualsSpec.vars false #[Value.agg #[.slice none 0 0, .slice none 0 0, .slice none 0 0], .agg #[.int .i64 0, .int .i64 0, .int .i64 0], .slice none 0 0].toList 8 = some (d, [], places) :=
  ⟨[.agg [.agg [.nil], .agg [.nil], .agg [.nil]], .agg [.lit (.int .i64 0), .lit (.int .i64 0), .lit (.int .i64 0)], .nil], [], by kernel_rfl⟩
theorem lifted (os : Os) (started : os.Started) (H : Type) (enc : TypeId × Value → H) (F : Stop.Interp) :
    ReturnsInHanded {} Tryd.checked os 6 .any ((OpenSpec.ofChange Rows.ctfEqualsSpec).preRow enc Tryd.prog Tryd.f6 Rows.ctfEqualsRow.domain false Rows.ctfEqualsRow.laid) (((OpenSpec.ofChange Rows.ctfEqualsSpec).at F).post enc Tryd.prog Tryd.f6 false true false false) := by
  obtain ⟨d, places, hx⟩ := reads os enc
  refine returnsInHanded_of_row (C := Tryd.checked) (s := OpenSpec.ofChange Rows.ctfEqualsSpec) own started (by kernel_rfl) Tryd.func6
    (witness_row_at (enc := enc) (C := Tryd.checked) false (laidWorld os) #[.agg #[.slice none 0 0, .slice none 0 0, .slice none 0 0], .agg #[.int .i64 0, .int .i64 0, .int .i64 0], .slice none 0 0] rfl (by kernel_rfl) (by kernel_rfl) (by kernel_rfl)
      (OpenSpec.preRow_of_cond 8 hx (by kernel_rfl) (fun k hk => by cases hk) (by kernel_rfl) (laid_met os _))) ?_
  intro W base args ds gs before hval hW _ _ _ hL _ _
  exact contract H enc W base args ds gs before hval hW hL
theorem said : Rows.CtfEqualsSaid :=
  OpenClaim.holds_of_cond 6 Tryd.f6 rfl rfl rfl rfl rfl rfl rfl ⟨rfl, rfl, rfl, rfl, rfl⟩ rfl rfl rfl rfl rfl (by kernel_rfl) Tryd.func6 (by kernel_rfl)
    (of_decide_eq_true (by kernel_rfl)) (by unfold Func.isWrapper; first | (rw [if_pos (by decide +kernel)]; kernel_rfl) | (rw [if_neg (by decide +kernel)]; exact ⟨rfl, rfl⟩))
    (fun os started H enc _ F => by rw [OpenClaim.pre_eq_preRow]; exact lifted os started H enc F)
/-- No parameter wants a stand-in; the program has its own looks. -/
theorem plain (f : FuncId) (fn : Func) (hf : Tryd.pinned.checked.prog.funcNamed "tapline/taplinelaw08.CtfEquals" = some f) (hfn : Tryd.pinned.checked.prog.funcs[f]? = some fn) :
    true = Tryd.pinned.checked.prog.looks [] ∧ ∀ (j : Nat) t, fn.params[j]? = some t → Tryd.pinned.checked.prog.wantsStandIn t = false := by
  obtain rfl : f = 6 := Option.some.inj ((show Tryd.prog.funcNamed "tapline/taplinelaw08.CtfEquals" = some 6 by kernel_rfl).symm.trans hf) |>.symm
  obtain rfl : fn = Tryd.f6 := (Option.some.inj (Tryd.func6.symm.trans hfn)).symm
  refine ⟨by kernel_rfl, fun j t ht => ?_⟩
  rw [Tryd.params6] at ht
  have hm := Array.mem_of_getElem? ht
  have h2 : t = 70 ∨ t = 71 ∨ t = 25 := by simpa using hm
  rcases h2 with rfl | rfl | rfl
  · exact (show Tryd.prog.wantsStandIn 70 = false by kernel_rfl)
  · exact (show Tryd.prog.wantsStandIn 71 = false by kernel_rfl)
  · exact (show Tryd.prog.wantsStandIn 25 = false by kernel_rfl)
/-- the card -/
theorem card : Rows.CtfEqualsCardSaid :=
  Claim7.holds_tied_plain_at .later [] _ _ _ _ said (fun _ h => by cases h) (by kernel_rfl) (fun _ h => by cases h) ctfEquals_row_tie rfl ⟨rfl, rfl⟩ (by kernel_rfl) rfl plain (by kernel_rfl)
#print axioms card
end Go.Proofs.YtfjppgobidjndaaDoor.ctfEquals
