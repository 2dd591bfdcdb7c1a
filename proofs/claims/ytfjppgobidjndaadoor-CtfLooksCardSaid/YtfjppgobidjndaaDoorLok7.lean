/- CtfLooks: for all type data, a type, a name and a path the statement's function returns true, and leaves its arguments as they were. Conditions: none but the row's own (its three listed variables hold what the program's text lays). -/
import Derived.Test.YtfjppgobidjndaaDoorLok6
set_option linter.unusedVariables false
set_option linter.unusedSimpArgs false
namespace Go.Proofs.YtfjppgobidjndaaDoor.ctfLooks
open Go.ChangeShapes Go.WideShapes Go.ChangeAt Go.RowKit Go.M
set_option maxRecDepth 100000
section
variable {H : Type} {enc : TypeId × Value → H} {W : World}
theorem op43 : Opn enc Tryd.prog W 43 k_taplinelaw08_Named (fun _ => True) :=
  (op_iso (fun p => (⟨p.1, p.2.1, p.2.2⟩ : taplinelaw08_Named)) (fun _ => rfl) (op_struct Tryd.underlying43 (by kernel_rfl) (opf_cons op3 rfl (opf_cons op9 rfl (opf_one op25 rfl))))).weak fun _ _ => trivial
/-- a type, a name and a path, handed in -/
theorem arg43 {b : Nat} {v : Value} {d : DataW H} {p : List MemPlace} (hval : Value.okWide Tryd.prog W .any b 43 v) (h : DataW.Trod enc Tryd.prog W 0 (fun _ => true) true 43 v d p) :
    ∃ (x : taplinelaw08_Named) (A : Option Addr) (c : Nat), v = .agg #[.int .i64 x.vI, .string x.vName, .slice A x.vPath.length c] ∧ Rd Kd.str (vw W) A x.vPath ∧ x.vPath.length ≤ c := by
  obtain ⟨cs, rfl, _⟩ := okWide_struct Tryd.underlying43 hval
  obtain ⟨fuel, hf⟩ := h
  obtain ⟨x, hK, _⟩ := op43.open_ _ _ _ hf
  obtain ⟨l1, l2, e1, rfl, l3, l4, e2, rfl, A, c, e3, hc, hr⟩ := hK
  refine ⟨x, A, c, ?_, hr, hc⟩
  have : cs.toList = [.int .i64 x.vI, .string x.vName, .slice A x.vPath.length c] := e1.trans (by rw [e2, e3]; rfl)
  rw [← Array.toArray_toList (xs := cs), this]
end
theorem contract (H : Type) (enc : TypeId × Value → H) (W : World) (base : Nat) (args : Array Value) (ds gs : List (DataW H)) (before : List MemPlace)
    (hval : ∀ (j : Nat) t v, Tryd.f4.params[j]? = some t → args[j]? = some v → Value.okWide Tryd.prog W .any base t v)
    (hW : DataW.Whole enc Tryd.prog Tryd.f4.params.toList Rows.ctfLooksSpec.vars false W args.toList ds gs before) (hL : laidMetH Tryd.prog laid3 W) :
    Calls Tryd.prog 4 args W fun e W' => ∃ v, e = .returned v ∧ Rows.ctfLooksSpec.post enc Tryd.prog Tryd.f4 false true false false W args v W' := by
  have hW' := hW
  obtain ⟨p, q, hA0, hV, rfl, hfz, hnd⟩ := hW
  have hA : DataW.TrodAll enc Tryd.prog W 0 (fun _ => true) true Tryd.f4.params.toList args.toList ds p := hA0
  rw [Tryd.params4] at hA hval
  obtain ⟨v0, vs0, d0, ds0, p0, q0, hargs, rfl, rfl, h0, r0⟩ := trodAll_cons hA
  obtain ⟨v1, vs1, d1, ds1, p1, q1, rfl, rfl, rfl, h1, r1⟩ := trodAll_cons r0
  obtain ⟨rfl, rfl, rfl⟩ := trodAll_nil r1
  obtain rfl : args = #[v0, v1] := by cases args; simp_all
  obtain ⟨rfl, rfl⟩ := trodVars_none hV
  obtain ⟨t, A, c, rfl, hr, hc, hF⟩ := arg24 (hval 0 24 v0 rfl rfl) h0
  obtain ⟨x, A2, c2, rfl, hr2, hc2⟩ := arg43 (hval 1 43 v1 rfl rfl) h1
  have ht := tab_of hL
  obtain ⟨K, hK⟩ := looks_ev hF.2 x
  refine (taplinelaw08_CtfLooks.calls K t x A c A2 c2 (vw_sees W) ht hr hc hr2 hc2 (hK K (Nat.le_refl _))).mono fun e W' ⟨he, hE⟩ => ⟨_, he, ?_⟩
  exact law_post (by rw [Tryd.params4]; decide +kernel) rfl rfl rfl hW' hE
theorem reads (os : Os) {H : Type} (enc : TypeId × Value → H) : ∃ d places, DataW.whole enc Tryd.prog ((laidWorld os).forCall (fun _ _ => 0) ⟨#[], #[.agg #[.slice none 0 0], .agg #[.int .i64 0, .string ByteArray.empty, .slice none 0 0]], []⟩).memory Tryd.f4.params.toList Rows.ctfLooksSpec.vars false #[Value.agg #[.slice none 0 0], .agg #[.int .i64 0, .string ByteArray.empty, .slice none 0 0]].toList 8 = some (d, [], places) :=
  ⟨[.agg [.nil], .agg [.lit (.int .i64 0), .lit (.string []), .nil]], [], by kernel_rfl⟩
theorem lifted (os : Os) (started : os.Started) (H : Type) (enc : TypeId × Value → H) (F : Stop.Interp) :
    ReturnsInHanded {} Tryd.checked os 4 .any ((OpenSpec.ofChange Rows.ctfLooksSpec).preRow enc Tryd.prog Tryd.f4 Rows.ctfLooksRow.domain false Rows.ctfLooksRow.laid) (((OpenSpec.ofChange Rows.ctfLooksSpec).at F).post enc Tryd.prog Tryd.f4 false true false false) := by
  obtain ⟨d, places, hx⟩ := reads os enc
  refine returnsInHanded_of_row (C := Tryd.checked) (s := OpenSpec.ofChange Rows.ctfLooksSpec) own started (by kernel_rfl) Tryd.func4
    (witness_row_at (enc := enc) (C := Tryd.checked) false (laidWorld os) #[.agg #[.slice none 0 0], .agg #[.int .i64 0, .string ByteArray.empty, .slice none 0 0]] rfl (by kernel_rfl) (by kernel_rfl) (by kernel_rfl)
      (OpenSpec.preRow_of_cond 8 hx (by kernel_rfl) (fun k hk => by cases hk) (by kernel_rfl) (laid_met os _))) ?_
  intro W base args ds gs before hval hW _ _ _ hL _ _
  exact contract H enc W base args ds gs before hval hW hL
theorem said : Rows.CtfLooksSaid :=
  OpenClaim.holds_of_cond 4 Tryd.f4 rfl rfl rfl rfl rfl rfl rfl ⟨rfl, rfl, rfl, rfl, rfl⟩ rfl rfl rfl rfl rfl (by kernel_rfl) Tryd.func4 (by kernel_rfl)
    (of_decide_eq_true (by kernel_rfl)) (by unfold Func.isWrapper; first | (rw [if_pos (by decide +kernel)]; kernel_rfl) | (rw [if_neg (by decide +kernel)]; exact ⟨rfl, rfl⟩))
    (fun os started H enc _ F => by rw [OpenClaim.pre_eq_preRow]; exact lifted os started H enc F)
/-- No parameter wants a stand-in; the program has its own looks. -/
theorem plain (f : FuncId) (fn : Func) (hf : Tryd.pinned.checked.prog.funcNamed "tapline/taplinelaw08.CtfLooks" = some f) (hfn : Tryd.pinned.checked.prog.funcs[f]? = some fn) :
    true = Tryd.pinned.checked.prog.looks [] ∧ ∀ (j : Nat) t, fn.params[j]? = some t → Tryd.pinned.checked.prog.wantsStandIn t = false := by
  obtain rfl : f = 4 := Option.some.inj ((show Tryd.prog.funcNamed "tapline/taplinelaw08.CtfLooks" = some 4 by kernel_rfl).symm.trans hf) |>.symm
  obtain rfl : fn = Tryd.f4 := (Option.some.inj (Tryd.func4.symm.trans hfn)).symm
  refine ⟨by kernel_rfl, fun j t ht => ?_⟩
  rw [Tryd.params4] at ht
  have hm := Array.mem_of_getElem? ht
  have h2 : t = 24 ∨ t = 43 := by simpa using hm
  rcases h2 with rfl | rfl
  · exact (show Tryd.prog.wantsStandIn 24 = false by kernel_rfl)
  · exact (show Tryd.prog.wantsStandIn 43 = false by kernel_rfl)
/-- the card -/
theorem card : Rows.CtfLooksCardSaid :=
  Claim7.holds_tied_plain_at .later [] _ _ _ _ said (fun _ h => by cases h) (by kernel_rfl) (fun _ h => by cases h) ctfLooks_row_tie rfl ⟨rfl, rfl⟩ (by kernel_rfl) rfl plain (by kernel_rfl)
#print axioms card
end Go.Proofs.YtfjppgobidjndaaDoor.ctfLooks
