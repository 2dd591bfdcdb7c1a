/- Parts of a proof, merged by program: F89 F100 F91 F120 F90 F93 F92 F47 F43 F45 F46 F17 F14 F15 F16 Q1. The walks (each function once) and the plain laws; no condition of their own. -/
import Derived.Test.YtfjppgobidjndaaDoorMem2
set_option linter.unusedVariables false
set_option linter.unusedSimpArgs false
namespace Go.Proofs.YtfjppgobidjndaaDoor
open Go.RowKit Go.M
def ctf_shaped.l0 (k : Nat) (a0 : api_Def) (a1 : Int) : Nat → Int → (List (ByteArray × Bool)) → Option ((Bool) ⊕ ((List (ByteArray × Bool))))
  | 0, _, _ => none
  | m + 1, y1_0, y1_1 => if (decide (y1_0 < (a0.vFields.length : Int))) = true then (if 0 ≤ y1_0 ∧ y1_0 < a0.vFields.length then ((ctf_isName.f k ((rd z_api_Field a0.vFields y1_0).vName)).bind fun v4 => (if ((!v4) || ((mfind strEq y1_1 ((rd z_api_Field a0.vFields y1_0).vName)).getD false)) = true then (some (.inl false)) else (if (((a0.vKind == 5) && ((((rd z_api_Field a0.vFields y1_0).vType != 0) || (decide ((rd z_api_Field a0.vFields y1_0).vAt < (-2147483648)))) || (decide ((rd z_api_Field a0.vFields y1_0).vAt > 2147483647)))) || ((a0.vKind == 4) && ((decide ((rd z_api_Field a0.vFields y1_0).vType < 0)) || (decide ((rd z_api_Field a0.vFields y1_0).vType ≥ a1))))) = true then (some (.inl false)) else (ctf_shaped.l0 k a0 a1 m (IntKind.wrap .i64 (y1_0 + 1)) (mput strEq y1_1 ((rd z_api_Field a0.vFields y1_0).vName) true))))) else none) else (some (.inr y1_1))
def ctf_shaped.f (k : Nat) (a0 : api_Def) (a1 : Int) : Option (Bool) := (ctf_shapes.f).bind fun v1 => (((if (!((mfind ieq v1 a0.vKind).isSome)) = true then (some (!((mfind ieq v1 a0.vKind).isSome))) else ((if (true && (((mfind ieq v1 a0.vKind).getD z_ctf_shape).vname == true)) = true then ctf_isName.f k a0.vName else some false).bind fun v2 => (if (((mfind ieq v1 a0.vKind).getD z_ctf_shape).vname && (!v2)) = true then (some (((mfind ieq v1 a0.vKind).getD z_ctf_shape).vname && (!v2))) else (some ((!(((mfind ieq v1 a0.vKind).getD z_ctf_shape).vname)) && (!(strEq a0.vName ByteArray.empty))))))) : Option (Bool)).bind fun xx1 => (if xx1 = true then (some false) else ((if (true && (((mfind ieq v1 a0.vKind).getD z_ctf_shape).vint == true)) = true then bits_Check.f a0.vInt else some 0).bind fun v3 => (((if (((mfind ieq v1 a0.vKind).getD z_ctf_shape).vint && (v3 != 0)) = true then (some (((mfind ieq v1 a0.vKind).getD z_ctf_shape).vint && (v3 != 0))) else (some ((!(((mfind ieq v1 a0.vKind).getD z_ctf_shape).vint)) && (!((a0.vInt.vSize == 0) && ((a0.vInt.vSigned == false) && true)))))) : Option (Bool)).bind fun xx2 => (if xx2 = true then (some false) else (((if (((mfind ieq v1 a0.vKind).getD z_ctf_shape).vref && ((decide (a0.vRef < 0)) || (decide (a0.vRef ≥ a1)))) = true then (some (((mfind ieq v1 a0.vKind).getD z_ctf_shape).vref && ((decide (a0.vRef < 0)) || (decide (a0.vRef ≥ a1))))) else (some ((!(((mfind ieq v1 a0.vKind).getD z_ctf_shape).vref)) && (a0.vRef != 0)))) : Option (Bool)).bind fun xx3 => (if xx3 = true then (some false) else (((if (((mfind ieq v1 a0.vKind).getD z_ctf_shape).vn && ((decide (a0.vN < 1)) || (decide (a0.vN > 512)))) = true then (some (((mfind ieq v1 a0.vKind).getD z_ctf_shape).vn && ((decide (a0.vN < 1)) || (decide (a0.vN > 512))))) else (some ((!(((mfind ieq v1 a0.vKind).getD z_ctf_shape).vn)) && (a0.vN != 0)))) : Option (Bool)).bind fun xx4 => (if xx4 = true then (some false) else (((if (((mfind ieq v1 a0.vKind).getD z_ctf_shape).vfields != (decide ((a0.vFields.length : Int) > 0))) = true then (some (((mfind ieq v1 a0.vKind).getD z_ctf_shape).vfields != (decide ((a0.vFields.length : Int) > 0)))) else (some (decide ((a0.vFields.length : Int) > 32)))) : Option (Bool)).bind fun xx5 => (if xx5 = true then (some false) else ((ctf_shaped.l0 k a0 a1 k 0 ([] : List (ByteArray × Bool))).bind fun xx6 => (match xx6 with | .inl r => some r | .inr s1 => some true)))))))))))))
set_option maxRecDepth 20000 in
set_option maxHeartbeats 4000000 in
theorem ctf_shaped.calls (k : Nat) (a0 : api_Def) (a1 : Int) (A0_6 : Option Addr) (c0_6 : Nat) {h0 : View} {w0 : World} (hv : Sees h0 w0) (hr0_6 : Rd k_api_Field h0 A0_6 a0.vFields) (hc0_6 : a0.vFields.length ≤ c0_6) {r : Bool} (H : ctf_shaped.f k a0 a1 = some r) : Calls Tryd.prog 89 #[Value.agg #[Value.int .i64 a0.vKind, Value.string a0.vName, Value.int .i64 a0.vInt.vSize, Value.bool a0.vInt.vSigned, Value.int .i64 a0.vRef, Value.int .i64 a0.vN, Value.slice A0_6 a0.vFields.length c0_6], Value.int .i64 a1] w0 (fun e w1 => e = .returned (Value.bool r) ∧ Ext w0 w1) := by
  unfold ctf_shaped.f at H
  have HS : St [] h0 w0 h0 [] w0 := St.init hv
  go_enter Tryd.func89, Tryd.ntmps89
  refine wp_seq ?_
  refine region ?_
  refine run_ex rfl rfl (does_box (cs := #[Value.int .i64 a0.vKind, Value.string a0.vName, Value.int .i64 a0.vInt.vSize, Value.bool a0.vInt.vSigned, Value.int .i64 a0.vRef, Value.int .i64 a0.vN, Value.slice A0_6 a0.vFields.length c0_6]) rfl rfl) ?_
  rintro w1 _ hE1 ⟨b1, rfl, ge1, hb1⟩
  have HS1 := HS.new hE1 ge1 hb1
  refine run_same (v := Value.bool false) rfl rfl (r_assign rfl) ?_
  try simp only [List.set_cons_zero, List.set_cons_succ]
  refine run_nil ?_
  refine norm_then ?_
  refine wp_seq ?_
  obtain ⟨v1, H1, H⟩ := of_bind H
  refine drawn_lazy [.ex (NewMap w1 (Value.int .i64) e_ctf_shape v1), .eq (Value.pointer (some ⟨b1, 0, none⟩)), .eq (Value.int .i64 a0.vKind), .eq (Value.tuple #[Value.agg #[Value.bool (((mfind ieq v1 a0.vKind).getD z_ctf_shape).vname), Value.bool (((mfind ieq v1 a0.vKind).getD z_ctf_shape).vint), Value.bool (((mfind ieq v1 a0.vKind).getD z_ctf_shape).vref), Value.bool (((mfind ieq v1 a0.vKind).getD z_ctf_shape).vn), Value.bool (((mfind ieq v1 a0.vKind).getD z_ctf_shape).vfields)], Value.bool ((mfind ieq v1 a0.vKind).isSome)]), .eq (Value.tuple #[Value.agg #[Value.bool (((mfind ieq v1 a0.vKind).getD z_ctf_shape).vname), Value.bool (((mfind ieq v1 a0.vKind).getD z_ctf_shape).vint), Value.bool (((mfind ieq v1 a0.vKind).getD z_ctf_shape).vref), Value.bool (((mfind ieq v1 a0.vKind).getD z_ctf_shape).vn), Value.bool (((mfind ieq v1 a0.vKind).getD z_ctf_shape).vfields)], Value.bool ((mfind ieq v1 a0.vKind).isSome)]), .eq (Value.agg #[Value.bool (((mfind ieq v1 a0.vKind).getD z_ctf_shape).vname), Value.bool (((mfind ieq v1 a0.vKind).getD z_ctf_shape).vint), Value.bool (((mfind ieq v1 a0.vKind).getD z_ctf_shape).vref), Value.bool (((mfind ieq v1 a0.vKind).getD z_ctf_shape).vn), Value.bool (((mfind ieq v1 a0.vKind).getD z_ctf_shape).vfields)]), .eq (Value.bool ((mfind ieq v1 a0.vKind).isSome)), .ex (NewBox w1 #[Value.bool false, Value.bool false, Value.bool false, Value.bool false, Value.bool false] 171)] [11, 12, 13, 14, 10, 15, 16, 5] 6 16 (Value.bool ((mfind ieq v1 a0.vKind).isSome)) _ _ hmix (by kernel_rfl) rfl rfl rfl rfl rfl (stable_ex NewMap.stable (stable_eq (stable_eq (stable_eq (stable_eq (stable_eq (stable_eq (stable_ex NewBox.stable stable_nil)))))))) ⟨ob_plain rfl (fun a' w' hE hk => by have HSd := HS1.step hE; exact does_call Tryd.call116 rfl (map_in hE (ctf_shapes.calls HSd.sees H1)) rfl), ob_plain rfl (fun a' w' hE hk => by have HSd := HS1.step hE; exact does_eq (r_fieldBox (n := 1) (o' := 0) (show _ = Value.pointer (some ⟨b1, 0, none⟩) from hk 2 rfl) Tryd.runUnderlying34 rfl Tryd.sizeOf3 (by decide) rfl)), ob_plain rfl (fun a' w' hE hk => by have HSd := HS1.step hE; exact does_eq (r_loadBox (show _ = Value.pointer (some ⟨b1, 0, none⟩) from hk 12 rfl) Tryd.isAgg3 (HSd.look 0 rfl) rfl)), ob_plain rfl (fun a' w' hE hk => by obtain ⟨_, _, _, e11, _, hb11, ho11⟩ := hk 11 rfl; have HSd := HS1.step hE; exact does_eq (r_mget2 (key_int Tryd.runUnderlying3) (k := a0.vKind) (m := v1) (ev := e_ctf_shape) z_ctf_shape e11 (show _ = Value.int .i64 a0.vKind from hk 13 rfl) Tryd.runUnderlying172 Tryd.zeroValue171 hb11 ho11)), ob_plain rfl (fun a' w' hE hk => by have HSd := HS1.step hE; exact does_eq (r_move (show _ = Value.tuple #[Value.agg #[Value.bool (((mfind ieq v1 a0.vKind).getD z_ctf_shape).vname), Value.bool (((mfind ieq v1 a0.vKind).getD z_ctf_shape).vint), Value.bool (((mfind ieq v1 a0.vKind).getD z_ctf_shape).vref), Value.bool (((mfind ieq v1 a0.vKind).getD z_ctf_shape).vn), Value.bool (((mfind ieq v1 a0.vKind).getD z_ctf_shape).vfields)], Value.bool ((mfind ieq v1 a0.vKind).isSome)] from hk 14 rfl))), ob_plain rfl (fun a' w' hE hk => by have HSd := HS1.step hE; exact does_eq (r_extract (show _ = Value.tuple #[Value.agg #[Value.bool (((mfind ieq v1 a0.vKind).getD z_ctf_shape).vname), Value.bool (((mfind ieq v1 a0.vKind).getD z_ctf_shape).vint), Value.bool (((mfind ieq v1 a0.vKind).getD z_ctf_shape).vref), Value.bool (((mfind ieq v1 a0.vKind).getD z_ctf_shape).vn), Value.bool (((mfind ieq v1 a0.vKind).getD z_ctf_shape).vfields)], Value.bool ((mfind ieq v1 a0.vKind).isSome)] from hk 10 rfl) rfl)), ob_plain rfl (fun a' w' hE hk => by have HSd := HS1.step hE; exact does_eq (r_extract (show _ = Value.tuple #[Value.agg #[Value.bool (((mfind ieq v1 a0.vKind).getD z_ctf_shape).vname), Value.bool (((mfind ieq v1 a0.vKind).getD z_ctf_shape).vint), Value.bool (((mfind ieq v1 a0.vKind).getD z_ctf_shape).vref), Value.bool (((mfind ieq v1 a0.vKind).getD z_ctf_shape).vn), Value.bool (((mfind ieq v1 a0.vKind).getD z_ctf_shape).vfields)], Value.bool ((mfind ieq v1 a0.vKind).isSome)] from hk 10 rfl) rfl)), ob_plain rfl (fun a' w' hE hk => (alloc_in hE (cs := #[Value.bool false, Value.bool false, Value.bool false, Value.bool false, Value.bool false]) Tryd.zeroValue171 rfl)), trivial⟩ ?_
  intro w2 hE2
  simp only [List.zip_cons_cons, List.zip_nil_left, List.zip_nil_right, finL, List.set_cons_zero, List.set_cons_succ, List.length_cons, List.length_nil, List.drop_succ_cons, List.drop_zero, Nat.zero_add, Nat.reduceAdd]
  rintro _ ⟨b3, es1, cl1, rfl, ge3, hb3, ho1⟩
  rintro _ ⟨b2, rfl, ge2, hb2⟩
  have HS2 := HS1.two hE2 ge3 hb3 ge2 hb2 (fun e => by subst e; rw [hb3] at hb2; cases hb2)
  refine lazy_st (i := 0) (cs := [Value.bool false, Value.bool false, Value.bool false, Value.bool false, Value.bool false]) (cs' := [Value.bool (((mfind ieq v1 a0.vKind).getD z_ctf_shape).vname), Value.bool (((mfind ieq v1 a0.vKind).getD z_ctf_shape).vint), Value.bool (((mfind ieq v1 a0.vKind).getD z_ctf_shape).vref), Value.bool (((mfind ieq v1 a0.vKind).getD z_ctf_shape).vn), Value.bool (((mfind ieq v1 a0.vKind).getD z_ctf_shape).vfields)]) (vs := [Value.bool (((mfind ieq v1 a0.vKind).getD z_ctf_shape).vname), Value.bool (((mfind ieq v1 a0.vKind).getD z_ctf_shape).vint), Value.bool (((mfind ieq v1 a0.vKind).getD z_ctf_shape).vref), Value.bool (((mfind ieq v1 a0.vKind).getD z_ctf_shape).vn), Value.bool (((mfind ieq v1 a0.vKind).getD z_ctf_shape).vfields)]) (bs' := [(some b2, .cells #[Value.bool (((mfind ieq v1 a0.vKind).getD z_ctf_shape).vname), Value.bool (((mfind ieq v1 a0.vKind).getD z_ctf_shape).vint), Value.bool (((mfind ieq v1 a0.vKind).getD z_ctf_shape).vref), Value.bool (((mfind ieq v1 a0.vKind).getD z_ctf_shape).vn), Value.bool (((mfind ieq v1 a0.vKind).getD z_ctf_shape).vfields)] 171 (0, 0)), (some b3, .map es1 cl1), (some b1, .cells #[Value.int .i64 a0.vKind, Value.string a0.vName, Value.int .i64 a0.vInt.vSize, Value.bool a0.vInt.vSigned, Value.int .i64 a0.vRef, Value.int .i64 a0.vN, Value.slice A0_6 a0.vFields.length c0_6] 34 (0, 0))]) (fun _ => rfl) (fun _ => rfl) Tryd.sizeOf171 rfl rfl (by decide) rfl HS2 rfl (Nat.le_of_ble_eq_true rfl) rfl rfl rfl (Nat.le_of_ble_eq_true rfl) (fun w2 HSl u => (r_extract rfl rfl)) rfl ?_
  intro w3 HS3
  refine run_same (v := Value.bool ((mfind ieq v1 a0.vKind).isSome)) rfl rfl (r_assign rfl) ?_
  try simp only [List.set_cons_zero, List.set_cons_succ]
  refine run_nil ?_
  refine norm_then ?_
  refine wp_seq ?_
  refine wp_block ?_
  refine wp_seq ?_
  refine wp_seq ?_
  refine region ?_
  refine run_same (v := Value.bool ((mfind ieq v1 a0.vKind).isSome)) rfl rfl (r_move rfl) ?_
  refine run_same (v := Value.bool (!((mfind ieq v1 a0.vKind).isSome))) rfl rfl (r_not rfl) ?_
  refine run_same (v := Value.bool (!((mfind ieq v1 a0.vKind).isSome))) rfl rfl (r_assign rfl) ?_
  try simp only [List.set_cons_zero, List.set_cons_succ]
  refine run_nil ?_
  refine norm_then ?_
  obtain ⟨xx1, H, G1⟩ := of_bind H
  refine cut_patch [17, 20, 21, 22, 23, 24, 25, 26, 27, 28, 29, 30, 31, 32, 33, 34, 35] (fun us w' => ∃ (uj1_20 : Value), ∃ (uj1_21 : Value), ∃ (uj1_22 : Value), ∃ (uj1_23 : Value), ∃ (uj1_24 : Value), ∃ (uj1_25 : Value), ∃ (uj1_26 : Value), ∃ (uj1_27 : Value), ∃ (uj1_28 : Value), ∃ (uj1_29 : Value), ∃ (uj1_30 : Value), ∃ (uj1_31 : Value), ∃ (uj1_32 : Value), ∃ (uj1_33 : Value), ∃ (uj1_34 : Value), ∃ (uj1_35 : Value), us = [Value.bool xx1, uj1_20, uj1_21, uj1_22, uj1_23, uj1_24, uj1_25, uj1_26, uj1_27, uj1_28, uj1_29, uj1_30, uj1_31, uj1_32, uj1_33, uj1_34, uj1_35] ∧ St [] h0 w0 h0 [(some b2, .cells #[Value.bool (((mfind ieq v1 a0.vKind).getD z_ctf_shape).vname), Value.bool (((mfind ieq v1 a0.vKind).getD z_ctf_shape).vint), Value.bool (((mfind ieq v1 a0.vKind).getD z_ctf_shape).vref), Value.bool (((mfind ieq v1 a0.vKind).getD z_ctf_shape).vn), Value.bool (((mfind ieq v1 a0.vKind).getD z_ctf_shape).vfields)] 171 (0, 0)), (some b3, .map es1 cl1), (some b1, .cells #[Value.int .i64 a0.vKind, Value.string a0.vName, Value.int .i64 a0.vInt.vSize, Value.bool a0.vInt.vSigned, Value.int .i64 a0.vRef, Value.int .i64 a0.vN, Value.slice A0_6 a0.vFields.length c0_6] 34 (0, 0))] w') ?_ ?_
  · refine wp_cond_split (t := (!((mfind ieq v1 a0.vKind).isSome))) rfl (fun c1 => ?_) (fun c1 => ?_)
    · replace H := of_pos H c1
      refine wp_skip ?_
      obtain rfl := Option.some.inj H
      refine met [Value.bool (!((mfind ieq v1 a0.vKind).isSome)), undef, undef, undef, undef, undef, undef, undef, undef, undef, undef, undef, undef, undef, undef, undef, undef] (by simp only [patch, List.set_cons_zero, List.set_cons_succ]) ⟨_, _, _, _, _, _, _, _, _, _, _, _, _, _, _, _, rfl, HS3⟩
    · replace H := of_neg H (nt c1)
      refine wp_seq ?_
      refine region ?_
      refine run_same (v := Value.pointer (some ⟨b2, 0, none⟩)) rfl rfl (r_fieldBox (n := 1) (o' := 0) rfl Tryd.runUnderlying171 rfl Tryd.sizeOf4 (by decide) rfl) ?_
      refine run_same (v := Value.bool (((mfind ieq v1 a0.vKind).getD z_ctf_shape).vname)) rfl rfl (r_loadBox rfl Tryd.isAgg4 (HS3.look 0 rfl) rfl) ?_
      refine run_same (v := Value.bool (((mfind ieq v1 a0.vKind).getD z_ctf_shape).vname)) rfl rfl (r_move rfl) ?_
      refine run_g_same (b := ((mfind ieq v1 a0.vKind).getD z_ctf_shape).vname) (c := true) (v := Value.pointer (some ⟨b1, 1, none⟩)) rfl rfl rfl rfl (fun hg => (r_fieldBox (n := 1) (o' := 1) rfl Tryd.runUnderlying34 rfl Tryd.sizeOf9 (by decide) rfl)) ?_
      refine run_frame (by simp only [List.set_cons_zero, List.set_cons_succ]; rfl) ?_
      refine run_g_same (b := ((mfind ieq v1 a0.vKind).getD z_ctf_shape).vname) (c := true) (v := Value.string a0.vName) rfl rfl rfl rfl (fun hg => (r_loadBox ((show _ = gv (true && (((mfind ieq v1 a0.vKind).getD z_ctf_shape).vname == true)) (Value.pointer (some ⟨b1, 1, none⟩)) from rfl).trans (gv_t hg)) Tryd.isAgg9 (HS3.look 2 rfl) rfl)) ?_
      obtain ⟨v2, H2, H⟩ := of_bind H
      refine run_g (b := ((mfind ieq v1 a0.vKind).getD z_ctf_shape).vname) (c := true) (v := Value.bool v2) rfl rfl rfl rfl (fun hg => (does_call_eq Tryd.call118 rfl (map1 ((show _ = gv (true && (((mfind ieq v1 a0.vKind).getD z_ctf_shape).vname == true)) (Value.string a0.vName) from rfl).trans (gv_t hg))) (ctf_isName.calls k a0.vName HS3.sees (of_pos H2 hg)))) ?_
      intro w4 hE3
      have HS4 := HS3.step hE3
      refine run_g_same (b := ((mfind ieq v1 a0.vKind).getD z_ctf_shape).vname) (c := true) (v := Value.bool (!v2)) rfl rfl rfl rfl (fun hg => (r_not ((show _ = gv (true && (((mfind ieq v1 a0.vKind).getD z_ctf_shape).vname == true)) (Value.bool v2) from rfl).trans (gv_t hg)))) ?_
      refine run_same (v := Value.bool (((mfind ieq v1 a0.vKind).getD z_ctf_shape).vname && (!v2))) rfl rfl (r_pick_and rfl (fun hp => ((show _ = gv (true && (((mfind ieq v1 a0.vKind).getD z_ctf_shape).vname == true)) (Value.bool (!v2)) from rfl).trans (gv_t (and_i rfl hp)))) rfl) ?_
      refine run_frame (by simp only [List.set_cons_zero, List.set_cons_succ]; rfl) ?_
      refine run_same (v := Value.bool (((mfind ieq v1 a0.vKind).getD z_ctf_shape).vname && (!v2))) rfl rfl (r_assign rfl) ?_
      try simp only [List.set_cons_zero, List.set_cons_succ]
      refine run_nil ?_
      refine norm_then ?_
      refine wp_cond_split (t := (((mfind ieq v1 a0.vKind).getD z_ctf_shape).vname && (!v2))) rfl (fun c2 => ?_) (fun c2 => ?_)
      · replace H := of_pos H c2
        refine wp_skip ?_
        obtain rfl := Option.some.inj H
        refine met [Value.bool (((mfind ieq v1 a0.vKind).getD z_ctf_shape).vname && (!v2)), Value.pointer (some ⟨b2, 0, none⟩), Value.bool (((mfind ieq v1 a0.vKind).getD z_ctf_shape).vname), Value.bool (((mfind ieq v1 a0.vKind).getD z_ctf_shape).vname), gv (true && (((mfind ieq v1 a0.vKind).getD z_ctf_shape).vname == true)) (Value.pointer (some ⟨b1, 1, none⟩)), gv (true && (((mfind ieq v1 a0.vKind).getD z_ctf_shape).vname == true)) (Value.string a0.vName), gv (true && (((mfind ieq v1 a0.vKind).getD z_ctf_shape).vname == true)) (Value.bool v2), gv (true && (((mfind ieq v1 a0.vKind).getD z_ctf_shape).vname == true)) (Value.bool (!v2)), Value.bool (((mfind ieq v1 a0.vKind).getD z_ctf_shape).vname && (!v2)), undef, undef, undef, undef, undef, undef, undef, undef] (by simp only [patch, List.set_cons_zero, List.set_cons_succ]) ⟨_, _, _, _, _, _, _, _, _, _, _, _, _, _, _, _, rfl, HS4⟩
      · replace H := of_neg H (nt c2)
        refine region ?_
        refine run_same (v := Value.pointer (some ⟨b2, 0, none⟩)) rfl rfl (r_fieldBox (n := 1) (o' := 0) rfl Tryd.runUnderlying171 rfl Tryd.sizeOf4 (by decide) rfl) ?_
        refine run_same (v := Value.bool (((mfind ieq v1 a0.vKind).getD z_ctf_shape).vname)) rfl rfl (r_loadBox rfl Tryd.isAgg4 (HS4.look 0 rfl) rfl) ?_
        refine run_same (v := Value.bool (!(((mfind ieq v1 a0.vKind).getD z_ctf_shape).vname))) rfl rfl (r_not rfl) ?_
        refine run_same (v := Value.bool (!(((mfind ieq v1 a0.vKind).getD z_ctf_shape).vname))) rfl rfl (r_move rfl) ?_
        refine run_frame (by simp only [List.set_cons_zero, List.set_cons_succ]; rfl) ?_
        refine run_g_same (b := (!(((mfind ieq v1 a0.vKind).getD z_ctf_shape).vname))) (c := true) (v := Value.pointer (some ⟨b1, 1, none⟩)) rfl rfl rfl rfl (fun hg => (r_fieldBox (n := 1) (o' := 1) rfl Tryd.runUnderlying34 rfl Tryd.sizeOf9 (by decide) rfl)) ?_
        refine run_g_same (b := (!(((mfind ieq v1 a0.vKind).getD z_ctf_shape).vname))) (c := true) (v := Value.string a0.vName) rfl rfl rfl rfl (fun hg => (r_loadBox ((show _ = gv (true && ((!(((mfind ieq v1 a0.vKind).getD z_ctf_shape).vname)) == true)) (Value.pointer (some ⟨b1, 1, none⟩)) from rfl).trans (gv_t hg)) Tryd.isAgg9 (HS4.look 2 rfl) rfl)) ?_
        refine run_g_same (b := (!(((mfind ieq v1 a0.vKind).getD z_ctf_shape).vname))) (c := true) (v := Value.bool (!(strEq a0.vName ByteArray.empty))) rfl rfl rfl rfl (fun hg => (r_strneq ((show _ = gv (true && ((!(((mfind ieq v1 a0.vKind).getD z_ctf_shape).vname)) == true)) (Value.string a0.vName) from rfl).trans (gv_t hg)) rfl)) ?_
        refine run_same (v := Value.bool ((!(((mfind ieq v1 a0.vKind).getD z_ctf_shape).vname)) && (!(strEq a0.vName ByteArray.empty)))) rfl rfl (r_pick_and rfl (fun hp => ((show _ = gv (true && ((!(((mfind ieq v1 a0.vKind).getD z_ctf_shape).vname)) == true)) (Value.bool (!(strEq a0.vName ByteArray.empty))) from rfl).trans (gv_t (and_i rfl hp)))) rfl) ?_
        refine run_frame (by simp only [List.set_cons_zero, List.set_cons_succ]; rfl) ?_
        refine run_same (v := Value.bool ((!(((mfind ieq v1 a0.vKind).getD z_ctf_shape).vname)) && (!(strEq a0.vName ByteArray.empty)))) rfl rfl (r_assign rfl) ?_
        try simp only [List.set_cons_zero, List.set_cons_succ]
        refine run_nil ?_
        obtain rfl := Option.some.inj H
        refine met [Value.bool ((!(((mfind ieq v1 a0.vKind).getD z_ctf_shape).vname)) && (!(strEq a0.vName ByteArray.empty))), Value.pointer (some ⟨b2, 0, none⟩), Value.bool (((mfind ieq v1 a0.vKind).getD z_ctf_shape).vname), Value.bool (((mfind ieq v1 a0.vKind).getD z_ctf_shape).vname), gv (true && (((mfind ieq v1 a0.vKind).getD z_ctf_shape).vname == true)) (Value.pointer (some ⟨b1, 1, none⟩)), gv (true && (((mfind ieq v1 a0.vKind).getD z_ctf_shape).vname == true)) (Value.string a0.vName), gv (true && (((mfind ieq v1 a0.vKind).getD z_ctf_shape).vname == true)) (Value.bool v2), gv (true && (((mfind ieq v1 a0.vKind).getD z_ctf_shape).vname == true)) (Value.bool (!v2)), Value.bool (((mfind ieq v1 a0.vKind).getD z_ctf_shape).vname && (!v2)), Value.pointer (some ⟨b2, 0, none⟩), Value.bool (((mfind ieq v1 a0.vKind).getD z_ctf_shape).vname), Value.bool (!(((mfind ieq v1 a0.vKind).getD z_ctf_shape).vname)), Value.bool (!(((mfind ieq v1 a0.vKind).getD z_ctf_shape).vname)), gv (true && ((!(((mfind ieq v1 a0.vKind).getD z_ctf_shape).vname)) == true)) (Value.pointer (some ⟨b1, 1, none⟩)), gv (true && ((!(((mfind ieq v1 a0.vKind).getD z_ctf_shape).vname)) == true)) (Value.string a0.vName), gv (true && ((!(((mfind ieq v1 a0.vKind).getD z_ctf_shape).vname)) == true)) (Value.bool (!(strEq a0.vName ByteArray.empty))), Value.bool ((!(((mfind ieq v1 a0.vKind).getD z_ctf_shape).vname)) && (!(strEq a0.vName ByteArray.empty)))] (by simp only [patch, List.set_cons_zero, List.set_cons_succ]) ⟨_, _, _, _, _, _, _, _, _, _, _, _, _, _, _, _, rfl, HS4⟩
  · rintro _ w5 ⟨uj1_20, uj1_21, uj1_22, uj1_23, uj1_24, uj1_25, uj1_26, uj1_27, uj1_28, uj1_29, uj1_30, uj1_31, uj1_32, uj1_33, uj1_34, uj1_35, rfl, HS5⟩
    replace H := G1
    clear G1
    try simp only [patch, List.set_cons_zero, List.set_cons_succ]
    refine wp_cond_split (t := xx1) rfl (fun c3 => ?_) (fun c3 => ?_)
    · replace H := of_pos H c3
      refine wp_seq ?_
      refine region ?_
      refine run_same (v := Value.bool false) rfl rfl (r_assign rfl) ?_
      try simp only [List.set_cons_zero, List.set_cons_succ]
      refine run_nil ?_
      refine norm_then ?_
      refine wp_ret ?_
      refine ret_block ?_
      refine ret_then ?_
      obtain rfl := Option.some.inj H
      refine bodyPost_ret (results_1 rfl (one_tmp rfl)) rfl ?_
      exact ⟨rfl, HS5.toE⟩
    · replace H := of_neg H (nt c3)
      refine wp_seq ?_
      refine wp_seq ?_
      refine region ?_
      refine run_same (v := Value.pointer (some ⟨b2, 1, none⟩)) rfl rfl (r_fieldBox (n := 1) (o' := 1) rfl Tryd.runUnderlying171 rfl Tryd.sizeOf4 (by decide) rfl) ?_
      refine run_same (v := Value.bool (((mfind ieq v1 a0.vKind).getD z_ctf_shape).vint)) rfl rfl (r_loadBox rfl Tryd.isAgg4 (HS5.look 0 rfl) rfl) ?_
      refine run_same (v := Value.bool (((mfind ieq v1 a0.vKind).getD z_ctf_shape).vint)) rfl rfl (r_move rfl) ?_
      refine run_g_same (b := ((mfind ieq v1 a0.vKind).getD z_ctf_shape).vint) (c := true) (v := Value.pointer (some ⟨b1, 2, none⟩)) rfl rfl rfl rfl (fun hg => (r_fieldBox (n := 2) (o' := 2) rfl Tryd.runUnderlying34 rfl Tryd.sizeOf31 (by decide) rfl)) ?_
      refine run_frame (by simp only [List.set_cons_zero, List.set_cons_succ]; rfl) ?_
      refine run_g_same (b := ((mfind ieq v1 a0.vKind).getD z_ctf_shape).vint) (c := true) (v := Value.agg #[Value.int .i64 a0.vInt.vSize, Value.bool a0.vInt.vSigned]) rfl rfl rfl rfl (fun hg => (r_loadBoxAgg (n := 2) (vs := [Value.int .i64 a0.vInt.vSize, Value.bool a0.vInt.vSigned]) ((show _ = gv (true && (((mfind ieq v1 a0.vKind).getD z_ctf_shape).vint == true)) (Value.pointer (some ⟨b1, 2, none⟩)) from rfl).trans (gv_t hg)) Tryd.isAgg31 (HS5.look 2 rfl) Tryd.sizeOf31 rfl rfl)) ?_
      obtain ⟨v3, H3, H⟩ := of_bind H
      refine run_g (b := ((mfind ieq v1 a0.vKind).getD z_ctf_shape).vint) (c := true) (v := Value.int .i64 v3) rfl rfl rfl rfl (fun hg => (does_call_eq Tryd.call119 rfl (map1 ((show _ = gv (true && (((mfind ieq v1 a0.vKind).getD z_ctf_shape).vint == true)) (Value.agg #[Value.int .i64 a0.vInt.vSize, Value.bool a0.vInt.vSigned]) from rfl).trans (gv_t hg))) (bits_Check.calls a0.vInt HS5.sees (of_pos H3 hg)))) ?_
      intro w6 hE4
      have HS6 := HS5.step hE4
      refine run_g_same (b := ((mfind ieq v1 a0.vKind).getD z_ctf_shape).vint) (c := true) (v := Value.bool (v3 != 0)) rfl rfl rfl rfl (fun hg => (r_bin ((show _ = gv (true && (((mfind ieq v1 a0.vKind).getD z_ctf_shape).vint == true)) (Value.int .i64 v3) from rfl).trans (gv_t hg)) rfl rfl)) ?_
      refine run_same (v := Value.bool (((mfind ieq v1 a0.vKind).getD z_ctf_shape).vint && (v3 != 0))) rfl rfl (r_pick_and rfl (fun hp => ((show _ = gv (true && (((mfind ieq v1 a0.vKind).getD z_ctf_shape).vint == true)) (Value.bool (v3 != 0)) from rfl).trans (gv_t (and_i rfl hp)))) rfl) ?_
      refine run_frame (by simp only [List.set_cons_zero, List.set_cons_succ]; rfl) ?_
      refine run_same (v := Value.bool (((mfind ieq v1 a0.vKind).getD z_ctf_shape).vint && (v3 != 0))) rfl rfl (r_assign rfl) ?_
      try simp only [List.set_cons_zero, List.set_cons_succ]
      refine run_nil ?_
      refine norm_then ?_
      obtain ⟨xx2, H, G2⟩ := of_bind H
      refine cut_patch [36, 45, 46, 47, 48, 49, 50, 51, 52, 53] (fun us w' => ∃ (uj2_45 : Value), ∃ (uj2_46 : Value), ∃ (uj2_47 : Value), ∃ (uj2_48 : Value), ∃ (uj2_49 : Value), ∃ (uj2_50 : Value), ∃ (uj2_51 : Value), ∃ (uj2_52 : Value), ∃ (uj2_53 : Value), us = [Value.bool xx2, uj2_45, uj2_46, uj2_47, uj2_48, uj2_49, uj2_50, uj2_51, uj2_52, uj2_53] ∧ St [] h0 w0 h0 [(some b2, .cells #[Value.bool (((mfind ieq v1 a0.vKind).getD z_ctf_shape).vname), Value.bool (((mfind ieq v1 a0.vKind).getD z_ctf_shape).vint), Value.bool (((mfind ieq v1 a0.vKind).getD z_ctf_shape).vref), Value.bool (((mfind ieq v1 a0.vKind).getD z_ctf_shape).vn), Value.bool (((mfind ieq v1 a0.vKind).getD z_ctf_shape).vfields)] 171 (0, 0)), (some b3, .map es1 cl1), (some b1, .cells #[Value.int .i64 a0.vKind, Value.string a0.vName, Value.int .i64 a0.vInt.vSize, Value.bool a0.vInt.vSigned, Value.int .i64 a0.vRef, Value.int .i64 a0.vN, Value.slice A0_6 a0.vFields.length c0_6] 34 (0, 0))] w') ?_ ?_
      · refine wp_cond_split (t := (((mfind ieq v1 a0.vKind).getD z_ctf_shape).vint && (v3 != 0))) rfl (fun c4 => ?_) (fun c4 => ?_)
        · replace H := of_pos H c4
          refine wp_skip ?_
          obtain rfl := Option.some.inj H
          refine met [Value.bool (((mfind ieq v1 a0.vKind).getD z_ctf_shape).vint && (v3 != 0)), undef, undef, undef, undef, undef, undef, undef, undef, undef] (by simp only [patch, List.set_cons_zero, List.set_cons_succ]) ⟨_, _, _, _, _, _, _, _, _, rfl, HS6⟩
        · replace H := of_neg H (nt c4)
          refine region ?_
          refine run_same (v := Value.pointer (some ⟨b2, 1, none⟩)) rfl rfl (r_fieldBox (n := 1) (o' := 1) rfl Tryd.runUnderlying171 rfl Tryd.sizeOf4 (by decide) rfl) ?_
          refine run_same (v := Value.bool (((mfind ieq v1 a0.vKind).getD z_ctf_shape).vint)) rfl rfl (r_loadBox rfl Tryd.isAgg4 (HS6.look 0 rfl) rfl) ?_
          refine run_same (v := Value.bool (!(((mfind ieq v1 a0.vKind).getD z_ctf_shape).vint))) rfl rfl (r_not rfl) ?_
          refine run_same (v := Value.bool (!(((mfind ieq v1 a0.vKind).getD z_ctf_shape).vint))) rfl rfl (r_move rfl) ?_
          refine run_frame (by simp only [List.set_cons_zero, List.set_cons_succ]; rfl) ?_
          refine run_g_same (b := (!(((mfind ieq v1 a0.vKind).getD z_ctf_shape).vint))) (c := true) (v := Value.pointer (some ⟨b1, 2, none⟩)) rfl rfl rfl rfl (fun hg => (r_fieldBox (n := 2) (o' := 2) rfl Tryd.runUnderlying34 rfl Tryd.sizeOf31 (by decide) rfl)) ?_
          refine run_g_same (b := (!(((mfind ieq v1 a0.vKind).getD z_ctf_shape).vint))) (c := true) (v := Value.agg #[Value.int .i64 a0.vInt.vSize, Value.bool a0.vInt.vSigned]) rfl rfl rfl rfl (fun hg => (r_loadBoxAgg (n := 2) (vs := [Value.int .i64 a0.vInt.vSize, Value.bool a0.vInt.vSigned]) ((show _ = gv (true && ((!(((mfind ieq v1 a0.vKind).getD z_ctf_shape).vint)) == true)) (Value.pointer (some ⟨b1, 2, none⟩)) from rfl).trans (gv_t hg)) Tryd.isAgg31 (HS6.look 2 rfl) Tryd.sizeOf31 rfl rfl)) ?_
          refine run_g_same (b := (!(((mfind ieq v1 a0.vKind).getD z_ctf_shape).vint))) (c := true) (v := Value.agg #[Value.int .i64 0, Value.bool false]) rfl rfl rfl rfl (fun hg => (r_build0 (cs := [Value.int .i64 0, Value.bool false]) Tryd.zeroValue31 Tryd.runUnderlying31 (pl := #[(0, 1), (1, 1)]) (fun w => by simp [Tryd.sizeOf3, Tryd.sizeOf4]) rfl)) ?_
          refine run_g_same (b := (!(((mfind ieq v1 a0.vKind).getD z_ctf_shape).vint))) (c := true) (v := Value.bool (!((a0.vInt.vSize == 0) && ((a0.vInt.vSigned == false) && true)))) rfl rfl rfl rfl (fun hg => (r_aggneq ((show _ = gv (true && ((!(((mfind ieq v1 a0.vKind).getD z_ctf_shape).vint)) == true)) (Value.agg #[Value.int .i64 a0.vInt.vSize, Value.bool a0.vInt.vSigned]) from rfl).trans (gv_t hg)) ((show _ = gv (true && ((!(((mfind ieq v1 a0.vKind).getD z_ctf_shape).vint)) == true)) (Value.agg #[Value.int .i64 0, Value.bool false]) from rfl).trans (gv_t hg)) Tryd.eqGuardType31 (eqr_agg Tryd.stoodInHeld31 Tryd.underlying31 (eqf_cons (by decide) (part_one Tryd.isAgg3 rfl) (part_one Tryd.isAgg3 rfl) (eqr_int Tryd.underlying3) (eqf_cons (by decide) (part_one Tryd.isAgg4 rfl) (part_one Tryd.isAgg4 rfl) (eqr_bool Tryd.underlying4) eqf_nil))))) ?_
          refine run_frame (by simp only [List.set_cons_zero, List.set_cons_succ]; rfl) ?_
          refine run_same (v := Value.bool ((!(((mfind ieq v1 a0.vKind).getD z_ctf_shape).vint)) && (!((a0.vInt.vSize == 0) && ((a0.vInt.vSigned == false) && true))))) rfl rfl (r_pick_and rfl (fun hp => ((show _ = gv (true && ((!(((mfind ieq v1 a0.vKind).getD z_ctf_shape).vint)) == true)) (Value.bool (!((a0.vInt.vSize == 0) && ((a0.vInt.vSigned == false) && true)))) from rfl).trans (gv_t (and_i rfl hp)))) rfl) ?_
          refine run_same (v := Value.bool ((!(((mfind ieq v1 a0.vKind).getD z_ctf_shape).vint)) && (!((a0.vInt.vSize == 0) && ((a0.vInt.vSigned == false) && true))))) rfl rfl (r_assign rfl) ?_
          try simp only [List.set_cons_zero, List.set_cons_succ]
          refine run_nil ?_
          obtain rfl := Option.some.inj H
          refine met [Value.bool ((!(((mfind ieq v1 a0.vKind).getD z_ctf_shape).vint)) && (!((a0.vInt.vSize == 0) && ((a0.vInt.vSigned == false) && true)))), Value.pointer (some ⟨b2, 1, none⟩), Value.bool (((mfind ieq v1 a0.vKind).getD z_ctf_shape).vint), Value.bool (!(((mfind ieq v1 a0.vKind).getD z_ctf_shape).vint)), Value.bool (!(((mfind ieq v1 a0.vKind).getD z_ctf_shape).vint)), gv (true && ((!(((mfind ieq v1 a0.vKind).getD z_ctf_shape).vint)) == true)) (Value.pointer (some ⟨b1, 2, none⟩)), gv (true && ((!(((mfind ieq v1 a0.vKind).getD z_ctf_shape).vint)) == true)) (Value.agg #[Value.int .i64 a0.vInt.vSize, Value.bool a0.vInt.vSigned]), gv (true && ((!(((mfind ieq v1 a0.vKind).getD z_ctf_shape).vint)) == true)) (Value.agg #[Value.int .i64 0, Value.bool false]), gv (true && ((!(((mfind ieq v1 a0.vKind).getD z_ctf_shape).vint)) == true)) (Value.bool (!((a0.vInt.vSize == 0) && ((a0.vInt.vSigned == false) && true)))), Value.bool ((!(((mfind ieq v1 a0.vKind).getD z_ctf_shape).vint)) && (!((a0.vInt.vSize == 0) && ((a0.vInt.vSigned == false) && true))))] (by simp only [patch, List.set_cons_zero, List.set_cons_succ]) ⟨_, _, _, _, _, _, _, _, _, rfl, HS6⟩
      · rintro _ w7 ⟨uj2_45, uj2_46, uj2_47, uj2_48, uj2_49, uj2_50, uj2_51, uj2_52, uj2_53, rfl, HS7⟩
        replace H := G2
        clear G2
        try simp only [patch, List.set_cons_zero, List.set_cons_succ]
        refine wp_cond_split (t := xx2) rfl (fun c5 => ?_) (fun c5 => ?_)
        · replace H := of_pos H c5
          refine wp_seq ?_
          refine region ?_
          refine run_same (v := Value.bool false) rfl rfl (r_assign rfl) ?_
          try simp only [List.set_cons_zero, List.set_cons_succ]
          refine run_nil ?_
          refine norm_then ?_
          refine wp_ret ?_
          refine ret_block ?_
          refine ret_then ?_
          obtain rfl := Option.some.inj H
          refine bodyPost_ret (results_1 rfl (one_tmp rfl)) rfl ?_
          exact ⟨rfl, HS7.toE⟩
        · replace H := of_neg H (nt c5)
          refine wp_seq ?_
          refine wp_seq ?_
          refine region ?_
          refine run_same (v := Value.pointer (some ⟨b2, 2, none⟩)) rfl rfl (r_fieldBox (n := 1) (o' := 2) rfl Tryd.runUnderlying171 rfl Tryd.sizeOf4 (by decide) rfl) ?_
          refine run_same (v := Value.bool (((mfind ieq v1 a0.vKind).getD z_ctf_shape).vref)) rfl rfl (r_loadBox rfl Tryd.isAgg4 (HS7.look 0 rfl) rfl) ?_
          refine run_same (v := Value.bool (((mfind ieq v1 a0.vKind).getD z_ctf_shape).vref)) rfl rfl (r_move rfl) ?_
          refine run_g_same (b := ((mfind ieq v1 a0.vKind).getD z_ctf_shape).vref) (c := true) (v := Value.pointer (some ⟨b1, 4, none⟩)) rfl rfl rfl rfl (fun hg => (r_fieldBox (n := 1) (o' := 4) rfl Tryd.runUnderlying34 rfl Tryd.sizeOf3 (by decide) rfl)) ?_
          refine run_frame (by simp only [List.set_cons_zero, List.set_cons_succ]; rfl) ?_
          refine run_g_same (b := ((mfind ieq v1 a0.vKind).getD z_ctf_shape).vref) (c := true) (v := Value.int .i64 a0.vRef) rfl rfl rfl rfl (fun hg => (r_loadBox ((show _ = gv (true && (((mfind ieq v1 a0.vKind).getD z_ctf_shape).vref == true)) (Value.pointer (some ⟨b1, 4, none⟩)) from rfl).trans (gv_t hg)) Tryd.isAgg3 (HS7.look 2 rfl) rfl)) ?_
          refine run_g_same (b := ((mfind ieq v1 a0.vKind).getD z_ctf_shape).vref) (c := true) (v := Value.bool (decide (a0.vRef < 0))) rfl rfl rfl rfl (fun hg => (r_bin ((show _ = gv (true && (((mfind ieq v1 a0.vKind).getD z_ctf_shape).vref == true)) (Value.int .i64 a0.vRef) from rfl).trans (gv_t hg)) rfl rfl)) ?_
          refine run_g_same (b := ((mfind ieq v1 a0.vKind).getD z_ctf_shape).vref) (c := true) (v := Value.bool (decide (a0.vRef < 0))) rfl rfl rfl rfl (fun hg => (r_move ((show _ = gv (true && (((mfind ieq v1 a0.vKind).getD z_ctf_shape).vref == true)) (Value.bool (decide (a0.vRef < 0))) from rfl).trans (gv_t hg)))) ?_
          refine run_g_same (b := (decide (a0.vRef < 0))) (c := (true && (((mfind ieq v1 a0.vKind).getD z_ctf_shape).vref == true))) (v := Value.pointer (some ⟨b1, 4, none⟩)) rfl rfl rfl rfl (fun hg => (r_fieldBox (n := 1) (o' := 4) rfl Tryd.runUnderlying34 rfl Tryd.sizeOf3 (by decide) rfl)) ?_
          refine run_frame (by simp only [List.set_cons_zero, List.set_cons_succ]; rfl) ?_
          refine run_g_same (b := (decide (a0.vRef < 0))) (c := (true && (((mfind ieq v1 a0.vKind).getD z_ctf_shape).vref == true))) (v := Value.int .i64 a0.vRef) rfl rfl rfl rfl (fun hg => (r_loadBox ((show _ = gv ((true && (((mfind ieq v1 a0.vKind).getD z_ctf_shape).vref == true)) && ((decide (a0.vRef < 0)) == false)) (Value.pointer (some ⟨b1, 4, none⟩)) from rfl).trans (gv_t hg)) Tryd.isAgg3 (HS7.look 2 rfl) rfl)) ?_
          refine run_g_same (b := (decide (a0.vRef < 0))) (c := (true && (((mfind ieq v1 a0.vKind).getD z_ctf_shape).vref == true))) (v := Value.int .i64 a1) rfl rfl rfl rfl (fun hg => (r_move rfl)) ?_
          refine run_g_same (b := (decide (a0.vRef < 0))) (c := (true && (((mfind ieq v1 a0.vKind).getD z_ctf_shape).vref == true))) (v := Value.bool (decide (a0.vRef ≥ a1))) rfl rfl rfl rfl (fun hg => (r_bin ((show _ = gv ((true && (((mfind ieq v1 a0.vKind).getD z_ctf_shape).vref == true)) && ((decide (a0.vRef < 0)) == false)) (Value.int .i64 a0.vRef) from rfl).trans (gv_t hg)) ((show _ = gv ((true && (((mfind ieq v1 a0.vKind).getD z_ctf_shape).vref == true)) && ((decide (a0.vRef < 0)) == false)) (Value.int .i64 a1) from rfl).trans (gv_t hg)) rfl)) ?_
          refine run_g_same (b := ((mfind ieq v1 a0.vKind).getD z_ctf_shape).vref) (c := true) (v := Value.bool ((decide (a0.vRef < 0)) || (decide (a0.vRef ≥ a1)))) rfl rfl rfl rfl (fun hg => (r_pick_or ((show _ = gv (true && (((mfind ieq v1 a0.vKind).getD z_ctf_shape).vref == true)) (Value.bool (decide (a0.vRef < 0))) from rfl).trans (gv_t hg)) rfl (fun hp => ((show _ = gv ((true && (((mfind ieq v1 a0.vKind).getD z_ctf_shape).vref == true)) && ((decide (a0.vRef < 0)) == false)) (Value.bool (decide (a0.vRef ≥ a1))) from rfl).trans (gv_t (and_i hg hp)))))) ?_
          refine run_frame (by simp only [List.set_cons_zero, List.set_cons_succ]; rfl) ?_
          refine run_same (v := Value.bool (((mfind ieq v1 a0.vKind).getD z_ctf_shape).vref && ((decide (a0.vRef < 0)) || (decide (a0.vRef ≥ a1))))) rfl rfl (r_pick_and rfl (fun hp => ((show _ = gv (true && (((mfind ieq v1 a0.vKind).getD z_ctf_shape).vref == true)) (Value.bool ((decide (a0.vRef < 0)) || (decide (a0.vRef ≥ a1)))) from rfl).trans (gv_t (and_i rfl hp)))) rfl) ?_
          refine run_same (v := Value.bool (((mfind ieq v1 a0.vKind).getD z_ctf_shape).vref && ((decide (a0.vRef < 0)) || (decide (a0.vRef ≥ a1))))) rfl rfl (r_assign rfl) ?_
          try simp only [List.set_cons_zero, List.set_cons_succ]
          refine run_nil ?_
          refine norm_then ?_
          obtain ⟨xx3, H, G3⟩ := of_bind H
          refine cut_patch [54, 68, 69, 70, 71, 72, 73, 74, 75] (fun us w' => ∃ (uj3_68 : Value), ∃ (uj3_69 : Value), ∃ (uj3_70 : Value), ∃ (uj3_71 : Value), ∃ (uj3_72 : Value), ∃ (uj3_73 : Value), ∃ (uj3_74 : Value), ∃ (uj3_75 : Value), us = [Value.bool xx3, uj3_68, uj3_69, uj3_70, uj3_71, uj3_72, uj3_73, uj3_74, uj3_75] ∧ St [] h0 w0 h0 [(some b2, .cells #[Value.bool (((mfind ieq v1 a0.vKind).getD z_ctf_shape).vname), Value.bool (((mfind ieq v1 a0.vKind).getD z_ctf_shape).vint), Value.bool (((mfind ieq v1 a0.vKind).getD z_ctf_shape).vref), Value.bool (((mfind ieq v1 a0.vKind).getD z_ctf_shape).vn), Value.bool (((mfind ieq v1 a0.vKind).getD z_ctf_shape).vfields)] 171 (0, 0)), (some b3, .map es1 cl1), (some b1, .cells #[Value.int .i64 a0.vKind, Value.string a0.vName, Value.int .i64 a0.vInt.vSize, Value.bool a0.vInt.vSigned, Value.int .i64 a0.vRef, Value.int .i64 a0.vN, Value.slice A0_6 a0.vFields.length c0_6] 34 (0, 0))] w') ?_ ?_
          · refine wp_cond_split (t := (((mfind ieq v1 a0.vKind).getD z_ctf_shape).vref && ((decide (a0.vRef < 0)) || (decide (a0.vRef ≥ a1))))) rfl (fun c6 => ?_) (fun c6 => ?_)
            · replace H := of_pos H c6
              refine wp_skip ?_
              obtain rfl := Option.some.inj H
              refine met [Value.bool (((mfind ieq v1 a0.vKind).getD z_ctf_shape).vref && ((decide (a0.vRef < 0)) || (decide (a0.vRef ≥ a1)))), undef, undef, undef, undef, undef, undef, undef, undef] (by simp only [patch, List.set_cons_zero, List.set_cons_succ]) ⟨_, _, _, _, _, _, _, _, rfl, HS7⟩
            · replace H := of_neg H (nt c6)
              refine region ?_
              refine run_same (v := Value.pointer (some ⟨b2, 2, none⟩)) rfl rfl (r_fieldBox (n := 1) (o' := 2) rfl Tryd.runUnderlying171 rfl Tryd.sizeOf4 (by decide) rfl) ?_
              refine run_same (v := Value.bool (((mfind ieq v1 a0.vKind).getD z_ctf_shape).vref)) rfl rfl (r_loadBox rfl Tryd.isAgg4 (HS7.look 0 rfl) rfl) ?_
              refine run_same (v := Value.bool (!(((mfind ieq v1 a0.vKind).getD z_ctf_shape).vref))) rfl rfl (r_not rfl) ?_
              refine run_same (v := Value.bool (!(((mfind ieq v1 a0.vKind).getD z_ctf_shape).vref))) rfl rfl (r_move rfl) ?_
              refine run_frame (by simp only [List.set_cons_zero, List.set_cons_succ]; rfl) ?_
              refine run_g_same (b := (!(((mfind ieq v1 a0.vKind).getD z_ctf_shape).vref))) (c := true) (v := Value.pointer (some ⟨b1, 4, none⟩)) rfl rfl rfl rfl (fun hg => (r_fieldBox (n := 1) (o' := 4) rfl Tryd.runUnderlying34 rfl Tryd.sizeOf3 (by decide) rfl)) ?_
              refine run_g_same (b := (!(((mfind ieq v1 a0.vKind).getD z_ctf_shape).vref))) (c := true) (v := Value.int .i64 a0.vRef) rfl rfl rfl rfl (fun hg => (r_loadBox ((show _ = gv (true && ((!(((mfind ieq v1 a0.vKind).getD z_ctf_shape).vref)) == true)) (Value.pointer (some ⟨b1, 4, none⟩)) from rfl).trans (gv_t hg)) Tryd.isAgg3 (HS7.look 2 rfl) rfl)) ?_
              refine run_g_same (b := (!(((mfind ieq v1 a0.vKind).getD z_ctf_shape).vref))) (c := true) (v := Value.bool (a0.vRef != 0)) rfl rfl rfl rfl (fun hg => (r_bin ((show _ = gv (true && ((!(((mfind ieq v1 a0.vKind).getD z_ctf_shape).vref)) == true)) (Value.int .i64 a0.vRef) from rfl).trans (gv_t hg)) rfl rfl)) ?_
              refine run_same (v := Value.bool ((!(((mfind ieq v1 a0.vKind).getD z_ctf_shape).vref)) && (a0.vRef != 0))) rfl rfl (r_pick_and rfl (fun hp => ((show _ = gv (true && ((!(((mfind ieq v1 a0.vKind).getD z_ctf_shape).vref)) == true)) (Value.bool (a0.vRef != 0)) from rfl).trans (gv_t (and_i rfl hp)))) rfl) ?_
              refine run_frame (by simp only [List.set_cons_zero, List.set_cons_succ]; rfl) ?_
              refine run_same (v := Value.bool ((!(((mfind ieq v1 a0.vKind).getD z_ctf_shape).vref)) && (a0.vRef != 0))) rfl rfl (r_assign rfl) ?_
              try simp only [List.set_cons_zero, List.set_cons_succ]
              refine run_nil ?_
              obtain rfl := Option.some.inj H
              refine met [Value.bool ((!(((mfind ieq v1 a0.vKind).getD z_ctf_shape).vref)) && (a0.vRef != 0)), Value.pointer (some ⟨b2, 2, none⟩), Value.bool (((mfind ieq v1 a0.vKind).getD z_ctf_shape).vref), Value.bool (!(((mfind ieq v1 a0.vKind).getD z_ctf_shape).vref)), Value.bool (!(((mfind ieq v1 a0.vKind).getD z_ctf_shape).vref)), gv (true && ((!(((mfind ieq v1 a0.vKind).getD z_ctf_shape).vref)) == true)) (Value.pointer (some ⟨b1, 4, none⟩)), gv (true && ((!(((mfind ieq v1 a0.vKind).getD z_ctf_shape).vref)) == true)) (Value.int .i64 a0.vRef), gv (true && ((!(((mfind ieq v1 a0.vKind).getD z_ctf_shape).vref)) == true)) (Value.bool (a0.vRef != 0)), Value.bool ((!(((mfind ieq v1 a0.vKind).getD z_ctf_shape).vref)) && (a0.vRef != 0))] (by simp only [patch, List.set_cons_zero, List.set_cons_succ]) ⟨_, _, _, _, _, _, _, _, rfl, HS7⟩
          · rintro _ w8 ⟨uj3_68, uj3_69, uj3_70, uj3_71, uj3_72, uj3_73, uj3_74, uj3_75, rfl, HS8⟩
            replace H := G3
            clear G3
            try simp only [patch, List.set_cons_zero, List.set_cons_succ]
            refine wp_cond_split (t := xx3) rfl (fun c7 => ?_) (fun c7 => ?_)
            · replace H := of_pos H c7
              refine wp_seq ?_
              refine region ?_
              refine run_same (v := Value.bool false) rfl rfl (r_assign rfl) ?_
              try simp only [List.set_cons_zero, List.set_cons_succ]
              refine run_nil ?_
              refine norm_then ?_
              refine wp_ret ?_
              refine ret_block ?_
              refine ret_then ?_
              obtain rfl := Option.some.inj H
              refine bodyPost_ret (results_1 rfl (one_tmp rfl)) rfl ?_
              exact ⟨rfl, HS8.toE⟩
            · replace H := of_neg H (nt c7)
              refine wp_seq ?_
              refine wp_seq ?_
              refine region ?_
              refine run_same (v := Value.pointer (some ⟨b2, 3, none⟩)) rfl rfl (r_fieldBox (n := 1) (o' := 3) rfl Tryd.runUnderlying171 rfl Tryd.sizeOf4 (by decide) rfl) ?_
              refine run_same (v := Value.bool (((mfind ieq v1 a0.vKind).getD z_ctf_shape).vn)) rfl rfl (r_loadBox rfl Tryd.isAgg4 (HS8.look 0 rfl) rfl) ?_
              refine run_same (v := Value.bool (((mfind ieq v1 a0.vKind).getD z_ctf_shape).vn)) rfl rfl (r_move rfl) ?_
              refine run_g_same (b := ((mfind ieq v1 a0.vKind).getD z_ctf_shape).vn) (c := true) (v := Value.pointer (some ⟨b1, 5, none⟩)) rfl rfl rfl rfl (fun hg => (r_fieldBox (n := 1) (o' := 5) rfl Tryd.runUnderlying34 rfl Tryd.sizeOf3 (by decide) rfl)) ?_
              refine run_frame (by simp only [List.set_cons_zero, List.set_cons_succ]; rfl) ?_
              refine run_g_same (b := ((mfind ieq v1 a0.vKind).getD z_ctf_shape).vn) (c := true) (v := Value.int .i64 a0.vN) rfl rfl rfl rfl (fun hg => (r_loadBox ((show _ = gv (true && (((mfind ieq v1 a0.vKind).getD z_ctf_shape).vn == true)) (Value.pointer (some ⟨b1, 5, none⟩)) from rfl).trans (gv_t hg)) Tryd.isAgg3 (HS8.look 2 rfl) rfl)) ?_
              refine run_g_same (b := ((mfind ieq v1 a0.vKind).getD z_ctf_shape).vn) (c := true) (v := Value.bool (decide (a0.vN < 1))) rfl rfl rfl rfl (fun hg => (r_bin ((show _ = gv (true && (((mfind ieq v1 a0.vKind).getD z_ctf_shape).vn == true)) (Value.int .i64 a0.vN) from rfl).trans (gv_t hg)) rfl rfl)) ?_
              refine run_g_same (b := ((mfind ieq v1 a0.vKind).getD z_ctf_shape).vn) (c := true) (v := Value.bool (decide (a0.vN < 1))) rfl rfl rfl rfl (fun hg => (r_move ((show _ = gv (true && (((mfind ieq v1 a0.vKind).getD z_ctf_shape).vn == true)) (Value.bool (decide (a0.vN < 1))) from rfl).trans (gv_t hg)))) ?_
              refine run_g_same (b := (decide (a0.vN < 1))) (c := (true && (((mfind ieq v1 a0.vKind).getD z_ctf_shape).vn == true))) (v := Value.pointer (some ⟨b1, 5, none⟩)) rfl rfl rfl rfl (fun hg => (r_fieldBox (n := 1) (o' := 5) rfl Tryd.runUnderlying34 rfl Tryd.sizeOf3 (by decide) rfl)) ?_
              refine run_frame (by simp only [List.set_cons_zero, List.set_cons_succ]; rfl) ?_
              refine run_g_same (b := (decide (a0.vN < 1))) (c := (true && (((mfind ieq v1 a0.vKind).getD z_ctf_shape).vn == true))) (v := Value.int .i64 a0.vN) rfl rfl rfl rfl (fun hg => (r_loadBox ((show _ = gv ((true && (((mfind ieq v1 a0.vKind).getD z_ctf_shape).vn == true)) && ((decide (a0.vN < 1)) == false)) (Value.pointer (some ⟨b1, 5, none⟩)) from rfl).trans (gv_t hg)) Tryd.isAgg3 (HS8.look 2 rfl) rfl)) ?_
              refine run_g_same (b := (decide (a0.vN < 1))) (c := (true && (((mfind ieq v1 a0.vKind).getD z_ctf_shape).vn == true))) (v := Value.bool (decide (a0.vN > 512))) rfl rfl rfl rfl (fun hg => (r_bin ((show _ = gv ((true && (((mfind ieq v1 a0.vKind).getD z_ctf_shape).vn == true)) && ((decide (a0.vN < 1)) == false)) (Value.int .i64 a0.vN) from rfl).trans (gv_t hg)) rfl rfl)) ?_
              refine run_g_same (b := ((mfind ieq v1 a0.vKind).getD z_ctf_shape).vn) (c := true) (v := Value.bool ((decide (a0.vN < 1)) || (decide (a0.vN > 512)))) rfl rfl rfl rfl (fun hg => (r_pick_or ((show _ = gv (true && (((mfind ieq v1 a0.vKind).getD z_ctf_shape).vn == true)) (Value.bool (decide (a0.vN < 1))) from rfl).trans (gv_t hg)) rfl (fun hp => ((show _ = gv ((true && (((mfind ieq v1 a0.vKind).getD z_ctf_shape).vn == true)) && ((decide (a0.vN < 1)) == false)) (Value.bool (decide (a0.vN > 512))) from rfl).trans (gv_t (and_i hg hp)))))) ?_
              refine run_same (v := Value.bool (((mfind ieq v1 a0.vKind).getD z_ctf_shape).vn && ((decide (a0.vN < 1)) || (decide (a0.vN > 512))))) rfl rfl (r_pick_and rfl (fun hp => ((show _ = gv (true && (((mfind ieq v1 a0.vKind).getD z_ctf_shape).vn == true)) (Value.bool ((decide (a0.vN < 1)) || (decide (a0.vN > 512)))) from rfl).trans (gv_t (and_i rfl hp)))) rfl) ?_
              refine run_frame (by simp only [List.set_cons_zero, List.set_cons_succ]; rfl) ?_
              refine run_same (v := Value.bool (((mfind ieq v1 a0.vKind).getD z_ctf_shape).vn && ((decide (a0.vN < 1)) || (decide (a0.vN > 512))))) rfl rfl (r_assign rfl) ?_
              try simp only [List.set_cons_zero, List.set_cons_succ]
              refine run_nil ?_
              refine norm_then ?_
              obtain ⟨xx4, H, G4⟩ := of_bind H
              refine cut_patch [76, 89, 90, 91, 92, 93, 94, 95, 96] (fun us w' => ∃ (uj4_89 : Value), ∃ (uj4_90 : Value), ∃ (uj4_91 : Value), ∃ (uj4_92 : Value), ∃ (uj4_93 : Value), ∃ (uj4_94 : Value), ∃ (uj4_95 : Value), ∃ (uj4_96 : Value), us = [Value.bool xx4, uj4_89, uj4_90, uj4_91, uj4_92, uj4_93, uj4_94, uj4_95, uj4_96] ∧ St [] h0 w0 h0 [(some b2, .cells #[Value.bool (((mfind ieq v1 a0.vKind).getD z_ctf_shape).vname), Value.bool (((mfind ieq v1 a0.vKind).getD z_ctf_shape).vint), Value.bool (((mfind ieq v1 a0.vKind).getD z_ctf_shape).vref), Value.bool (((mfind ieq v1 a0.vKind).getD z_ctf_shape).vn), Value.bool (((mfind ieq v1 a0.vKind).getD z_ctf_shape).vfields)] 171 (0, 0)), (some b3, .map es1 cl1), (some b1, .cells #[Value.int .i64 a0.vKind, Value.string a0.vName, Value.int .i64 a0.vInt.vSize, Value.bool a0.vInt.vSigned, Value.int .i64 a0.vRef, Value.int .i64 a0.vN, Value.slice A0_6 a0.vFields.length c0_6] 34 (0, 0))] w') ?_ ?_
              · refine wp_cond_split (t := (((mfind ieq v1 a0.vKind).getD z_ctf_shape).vn && ((decide (a0.vN < 1)) || (decide (a0.vN > 512))))) rfl (fun c8 => ?_) (fun c8 => ?_)
                · replace H := of_pos H c8
                  refine wp_skip ?_
                  obtain rfl := Option.some.inj H
                  refine met [Value.bool (((mfind ieq v1 a0.vKind).getD z_ctf_shape).vn && ((decide (a0.vN < 1)) || (decide (a0.vN > 512)))), undef, undef, undef, undef, undef, undef, undef, undef] (by simp only [patch, List.set_cons_zero, List.set_cons_succ]) ⟨_, _, _, _, _, _, _, _, rfl, HS8⟩
                · replace H := of_neg H (nt c8)
                  refine region ?_
                  refine run_same (v := Value.pointer (some ⟨b2, 3, none⟩)) rfl rfl (r_fieldBox (n := 1) (o' := 3) rfl Tryd.runUnderlying171 rfl Tryd.sizeOf4 (by decide) rfl) ?_
                  refine run_same (v := Value.bool (((mfind ieq v1 a0.vKind).getD z_ctf_shape).vn)) rfl rfl (r_loadBox rfl Tryd.isAgg4 (HS8.look 0 rfl) rfl) ?_
                  refine run_same (v := Value.bool (!(((mfind ieq v1 a0.vKind).getD z_ctf_shape).vn))) rfl rfl (r_not rfl) ?_
                  refine run_same (v := Value.bool (!(((mfind ieq v1 a0.vKind).getD z_ctf_shape).vn))) rfl rfl (r_move rfl) ?_
                  refine run_frame (by simp only [List.set_cons_zero, List.set_cons_succ]; rfl) ?_
                  refine run_g_same (b := (!(((mfind ieq v1 a0.vKind).getD z_ctf_shape).vn))) (c := true) (v := Value.pointer (some ⟨b1, 5, none⟩)) rfl rfl rfl rfl (fun hg => (r_fieldBox (n := 1) (o' := 5) rfl Tryd.runUnderlying34 rfl Tryd.sizeOf3 (by decide) rfl)) ?_
                  refine run_g_same (b := (!(((mfind ieq v1 a0.vKind).getD z_ctf_shape).vn))) (c := true) (v := Value.int .i64 a0.vN) rfl rfl rfl rfl (fun hg => (r_loadBox ((show _ = gv (true && ((!(((mfind ieq v1 a0.vKind).getD z_ctf_shape).vn)) == true)) (Value.pointer (some ⟨b1, 5, none⟩)) from rfl).trans (gv_t hg)) Tryd.isAgg3 (HS8.look 2 rfl) rfl)) ?_
                  refine run_g_same (b := (!(((mfind ieq v1 a0.vKind).getD z_ctf_shape).vn))) (c := true) (v := Value.bool (a0.vN != 0)) rfl rfl rfl rfl (fun hg => (r_bin ((show _ = gv (true && ((!(((mfind ieq v1 a0.vKind).getD z_ctf_shape).vn)) == true)) (Value.int .i64 a0.vN) from rfl).trans (gv_t hg)) rfl rfl)) ?_
                  refine run_same (v := Value.bool ((!(((mfind ieq v1 a0.vKind).getD z_ctf_shape).vn)) && (a0.vN != 0))) rfl rfl (r_pick_and rfl (fun hp => ((show _ = gv (true && ((!(((mfind ieq v1 a0.vKind).getD z_ctf_shape).vn)) == true)) (Value.bool (a0.vN != 0)) from rfl).trans (gv_t (and_i rfl hp)))) rfl) ?_
                  refine run_frame (by simp only [List.set_cons_zero, List.set_cons_succ]; rfl) ?_
                  refine run_same (v := Value.bool ((!(((mfind ieq v1 a0.vKind).getD z_ctf_shape).vn)) && (a0.vN != 0))) rfl rfl (r_assign rfl) ?_
                  try simp only [List.set_cons_zero, List.set_cons_succ]
                  refine run_nil ?_
                  obtain rfl := Option.some.inj H
                  refine met [Value.bool ((!(((mfind ieq v1 a0.vKind).getD z_ctf_shape).vn)) && (a0.vN != 0)), Value.pointer (some ⟨b2, 3, none⟩), Value.bool (((mfind ieq v1 a0.vKind).getD z_ctf_shape).vn), Value.bool (!(((mfind ieq v1 a0.vKind).getD z_ctf_shape).vn)), Value.bool (!(((mfind ieq v1 a0.vKind).getD z_ctf_shape).vn)), gv (true && ((!(((mfind ieq v1 a0.vKind).getD z_ctf_shape).vn)) == true)) (Value.pointer (some ⟨b1, 5, none⟩)), gv (true && ((!(((mfind ieq v1 a0.vKind).getD z_ctf_shape).vn)) == true)) (Value.int .i64 a0.vN), gv (true && ((!(((mfind ieq v1 a0.vKind).getD z_ctf_shape).vn)) == true)) (Value.bool (a0.vN != 0)), Value.bool ((!(((mfind ieq v1 a0.vKind).getD z_ctf_shape).vn)) && (a0.vN != 0))] (by simp only [patch, List.set_cons_zero, List.set_cons_succ]) ⟨_, _, _, _, _, _, _, _, rfl, HS8⟩
              · rintro _ w9 ⟨uj4_89, uj4_90, uj4_91, uj4_92, uj4_93, uj4_94, uj4_95, uj4_96, rfl, HS9⟩
                replace H := G4
                clear G4
                try simp only [patch, List.set_cons_zero, List.set_cons_succ]
                refine wp_cond_split (t := xx4) rfl (fun c9 => ?_) (fun c9 => ?_)
                · replace H := of_pos H c9
                  refine wp_seq ?_
                  refine region ?_
                  refine run_same (v := Value.bool false) rfl rfl (r_assign rfl) ?_
                  try simp only [List.set_cons_zero, List.set_cons_succ]
                  refine run_nil ?_
                  refine norm_then ?_
                  refine wp_ret ?_
                  refine ret_block ?_
                  refine ret_then ?_
                  obtain rfl := Option.some.inj H
                  refine bodyPost_ret (results_1 rfl (one_tmp rfl)) rfl ?_
                  exact ⟨rfl, HS9.toE⟩
                · replace H := of_neg H (nt c9)
                  refine wp_seq ?_
                  refine wp_seq ?_
                  refine region ?_
                  refine run_same (v := Value.pointer (some ⟨b2, 4, none⟩)) rfl rfl (r_fieldBox (n := 1) (o' := 4) rfl Tryd.runUnderlying171 rfl Tryd.sizeOf4 (by decide) rfl) ?_
                  refine run_same (v := Value.bool (((mfind ieq v1 a0.vKind).getD z_ctf_shape).vfields)) rfl rfl (r_loadBox rfl Tryd.isAgg4 (HS9.look 0 rfl) rfl) ?_
                  refine run_same (v := Value.pointer (some ⟨b1, 6, none⟩)) rfl rfl (r_fieldBox (n := 1) (o' := 6) rfl Tryd.runUnderlying34 rfl Tryd.sizeOf32 (by decide) rfl) ?_
                  refine run_same (v := Value.slice A0_6 a0.vFields.length c0_6) rfl rfl (r_loadBox rfl Tryd.isAgg32 (HS9.look 2 rfl) rfl) ?_
                  refine run_frame (by simp only [List.set_cons_zero, List.set_cons_succ]; rfl) ?_
                  refine run_same (v := Value.int .i64 (a0.vFields.length : Int)) rfl rfl (r_len rfl Tryd.runUnderlying32) ?_
                  refine run_same (v := Value.bool (decide ((a0.vFields.length : Int) > 0))) rfl rfl (r_bin rfl rfl rfl) ?_
                  refine run_same (v := Value.bool (((mfind ieq v1 a0.vKind).getD z_ctf_shape).vfields != (decide ((a0.vFields.length : Int) > 0)))) rfl rfl (r_boolneq rfl rfl Tryd.runUnderlying4) ?_
                  refine run_same (v := Value.bool (((mfind ieq v1 a0.vKind).getD z_ctf_shape).vfields != (decide ((a0.vFields.length : Int) > 0)))) rfl rfl (r_assign rfl) ?_
                  try simp only [List.set_cons_zero, List.set_cons_succ]
                  refine run_nil ?_
                  refine norm_then ?_
                  obtain ⟨xx5, H, G5⟩ := of_bind H
                  refine cut_patch [97, 105, 106, 107, 108] (fun us w' => ∃ (uj5_105 : Value), ∃ (uj5_106 : Value), ∃ (uj5_107 : Value), ∃ (uj5_108 : Value), us = [Value.bool xx5, uj5_105, uj5_106, uj5_107, uj5_108] ∧ St [] h0 w0 h0 [(some b2, .cells #[Value.bool (((mfind ieq v1 a0.vKind).getD z_ctf_shape).vname), Value.bool (((mfind ieq v1 a0.vKind).getD z_ctf_shape).vint), Value.bool (((mfind ieq v1 a0.vKind).getD z_ctf_shape).vref), Value.bool (((mfind ieq v1 a0.vKind).getD z_ctf_shape).vn), Value.bool (((mfind ieq v1 a0.vKind).getD z_ctf_shape).vfields)] 171 (0, 0)), (some b3, .map es1 cl1), (some b1, .cells #[Value.int .i64 a0.vKind, Value.string a0.vName, Value.int .i64 a0.vInt.vSize, Value.bool a0.vInt.vSigned, Value.int .i64 a0.vRef, Value.int .i64 a0.vN, Value.slice A0_6 a0.vFields.length c0_6] 34 (0, 0))] w') ?_ ?_
                  · refine wp_cond_split (t := (((mfind ieq v1 a0.vKind).getD z_ctf_shape).vfields != (decide ((a0.vFields.length : Int) > 0)))) rfl (fun c10 => ?_) (fun c10 => ?_)
                    · replace H := of_pos H c10
                      refine wp_skip ?_
                      obtain rfl := Option.some.inj H
                      refine met [Value.bool (((mfind ieq v1 a0.vKind).getD z_ctf_shape).vfields != (decide ((a0.vFields.length : Int) > 0))), undef, undef, undef, undef] (by simp only [patch, List.set_cons_zero, List.set_cons_succ]) ⟨_, _, _, _, rfl, HS9⟩
                    · replace H := of_neg H (nt c10)
                      refine region ?_
                      refine run_same (v := Value.pointer (some ⟨b1, 6, none⟩)) rfl rfl (r_fieldBox (n := 1) (o' := 6) rfl Tryd.runUnderlying34 rfl Tryd.sizeOf32 (by decide) rfl) ?_
                      refine run_same (v := Value.slice A0_6 a0.vFields.length c0_6) rfl rfl (r_loadBox rfl Tryd.isAgg32 (HS9.look 2 rfl) rfl) ?_
                      refine run_same (v := Value.int .i64 (a0.vFields.length : Int)) rfl rfl (r_len rfl Tryd.runUnderlying32) ?_
                      refine run_same (v := Value.bool (decide ((a0.vFields.length : Int) > 32))) rfl rfl (r_bin rfl rfl rfl) ?_
                      refine run_frame (by simp only [List.set_cons_zero, List.set_cons_succ]; rfl) ?_
                      refine run_same (v := Value.bool (decide ((a0.vFields.length : Int) > 32))) rfl rfl (r_assign rfl) ?_
                      try simp only [List.set_cons_zero, List.set_cons_succ]
                      refine run_nil ?_
                      obtain rfl := Option.some.inj H
                      refine met [Value.bool (decide ((a0.vFields.length : Int) > 32)), Value.pointer (some ⟨b1, 6, none⟩), Value.slice A0_6 a0.vFields.length c0_6, Value.int .i64 (a0.vFields.length : Int), Value.bool (decide ((a0.vFields.length : Int) > 32))] (by simp only [patch, List.set_cons_zero, List.set_cons_succ]) ⟨_, _, _, _, rfl, HS9⟩
                  · rintro _ w10 ⟨uj5_105, uj5_106, uj5_107, uj5_108, rfl, HS10⟩
                    replace H := G5
                    clear G5
                    try simp only [patch, List.set_cons_zero, List.set_cons_succ]
                    refine wp_cond_split (t := xx5) rfl (fun c11 => ?_) (fun c11 => ?_)
                    · replace H := of_pos H c11
                      refine wp_seq ?_
                      refine region ?_
                      refine run_same (v := Value.bool false) rfl rfl (r_assign rfl) ?_
                      try simp only [List.set_cons_zero, List.set_cons_succ]
                      refine run_nil ?_
                      refine norm_then ?_
                      refine wp_ret ?_
                      refine ret_block ?_
                      refine ret_then ?_
                      obtain rfl := Option.some.inj H
                      refine bodyPost_ret (results_1 rfl (one_tmp rfl)) rfl ?_
                      exact ⟨rfl, HS10.toE⟩
                    · replace H := of_neg H (nt c11)
                      refine wp_skip ?_
                      refine norm_block ?_
                      refine norm_then ?_
                      refine wp_seq ?_
                      refine region ?_
                      refine run_mkmap HS10 ?_
                      intro w11 b4 HS11
                      refine run_same (v := Value.map (some b4)) rfl rfl (r_assign rfl) ?_
                      try simp only [List.set_cons_zero, List.set_cons_succ]
                      refine run_nil ?_
                      refine norm_then ?_
                      refine wp_seq ?_
                      refine wp_seq ?_
                      refine region ?_
                      refine run_same (v := Value.pointer (some ⟨b1, 6, none⟩)) rfl rfl (r_fieldBox (n := 1) (o' := 6) rfl Tryd.runUnderlying34 rfl Tryd.sizeOf32 (by decide) rfl) ?_
                      refine run_same (v := Value.slice A0_6 a0.vFields.length c0_6) rfl rfl (r_loadBox rfl Tryd.isAgg32 (HS11.look 3 rfl) rfl) ?_
                      refine run_same (v := Value.int .i64 (a0.vFields.length : Int)) rfl rfl (r_len rfl Tryd.runUnderlying32) ?_
                      refine run_same (v := Value.int .i64 0) rfl rfl (r_move rfl) ?_
                      try simp only [List.set_cons_zero, List.set_cons_succ]
                      refine run_nil ?_
                      refine norm_then ?_
                      obtain ⟨xx6, H, G6⟩ := of_bind H
                      refine loop_patch [4, 9, 113, 114, 115, 116, 117, 118, 119, 120, 121, 122, 123, 124, 125, 126, 127, 128, 129, 130, 131, 132, 133, 134, 135, 136, 137, 138, 139, 140, 141, 142, 143, 144, 145, 146, 147, 148, 149, 150, 151, 152, 153, 154, 155, 156, 157, 158, 159, 160, 161, 162, 163, 164] (fun m us w' => ∃ (y1_0 : Int), ∃ (y1_1 : List (ByteArray × Bool)), ∃ (esy1_1 : Array MapEntry) (cly1_1 : Nat), ∃ (uy1_4 : Value), ∃ (uy1_9 : Value), ∃ (uy1_114 : Value), ∃ (uy1_115 : Value), ∃ (uy1_116 : Value), ∃ (uy1_117 : Value), ∃ (uy1_118 : Value), ∃ (uy1_119 : Value), ∃ (uy1_120 : Value), ∃ (uy1_121 : Value), ∃ (uy1_122 : Value), ∃ (uy1_123 : Value), ∃ (uy1_124 : Value), ∃ (uy1_125 : Value), ∃ (uy1_126 : Value), ∃ (uy1_127 : Value), ∃ (uy1_128 : Value), ∃ (uy1_129 : Value), ∃ (uy1_130 : Value), ∃ (uy1_131 : Value), ∃ (uy1_132 : Value), ∃ (uy1_133 : Value), ∃ (uy1_134 : Value), ∃ (uy1_135 : Value), ∃ (uy1_136 : Value), ∃ (uy1_137 : Value), ∃ (uy1_138 : Value), ∃ (uy1_139 : Value), ∃ (uy1_140 : Value), ∃ (uy1_141 : Value), ∃ (uy1_142 : Value), ∃ (uy1_143 : Value), ∃ (uy1_144 : Value), ∃ (uy1_145 : Value), ∃ (uy1_146 : Value), ∃ (uy1_147 : Value), ∃ (uy1_148 : Value), ∃ (uy1_149 : Value), ∃ (uy1_150 : Value), ∃ (uy1_151 : Value), ∃ (uy1_152 : Value), ∃ (uy1_153 : Value), ∃ (uy1_154 : Value), ∃ (uy1_155 : Value), ∃ (uy1_156 : Value), ∃ (uy1_157 : Value), ∃ (uy1_158 : Value), ∃ (uy1_159 : Value), ∃ (uy1_160 : Value), ∃ (uy1_161 : Value), ∃ (uy1_162 : Value), ∃ (uy1_163 : Value), ∃ (uy1_164 : Value), us = [uy1_4, uy1_9, Value.int .i64 y1_0, uy1_114, uy1_115, uy1_116, uy1_117, uy1_118, uy1_119, uy1_120, uy1_121, uy1_122, uy1_123, uy1_124, uy1_125, uy1_126, uy1_127, uy1_128, uy1_129, uy1_130, uy1_131, uy1_132, uy1_133, uy1_134, uy1_135, uy1_136, uy1_137, uy1_138, uy1_139, uy1_140, uy1_141, uy1_142, uy1_143, uy1_144, uy1_145, uy1_146, uy1_147, uy1_148, uy1_149, uy1_150, uy1_151, uy1_152, uy1_153, uy1_154, uy1_155, uy1_156, uy1_157, uy1_158, uy1_159, uy1_160, uy1_161, uy1_162, uy1_163, uy1_164] ∧ ctf_shaped.l0 k a0 a1 m y1_0 y1_1 = some xx6 ∧ MapOk Value.string Value.bool y1_1 esy1_1 cly1_1 ∧ St [] h0 w0 h0 [(some b4, .map esy1_1 cly1_1), (some b2, .cells #[Value.bool (((mfind ieq v1 a0.vKind).getD z_ctf_shape).vname), Value.bool (((mfind ieq v1 a0.vKind).getD z_ctf_shape).vint), Value.bool (((mfind ieq v1 a0.vKind).getD z_ctf_shape).vref), Value.bool (((mfind ieq v1 a0.vKind).getD z_ctf_shape).vn), Value.bool (((mfind ieq v1 a0.vKind).getD z_ctf_shape).vfields)] 171 (0, 0)), (some b3, .map es1 cl1), (some b1, .cells #[Value.int .i64 a0.vKind, Value.string a0.vName, Value.int .i64 a0.vInt.vSize, Value.bool a0.vInt.vSigned, Value.int .i64 a0.vRef, Value.int .i64 a0.vN, Value.slice A0_6 a0.vFields.length c0_6] 34 (0, 0))] w') (fun us w' => ∃ (s1 : (List (ByteArray × Bool))), xx6 = .inr s1 ∧ ∃ (eso1_0 : Array MapEntry) (clo1_0 : Nat), ∃ (uo1_4 : Value), ∃ (uo1_9 : Value), ∃ (uo1_113 : Value), ∃ (uo1_114 : Value), ∃ (uo1_115 : Value), ∃ (uo1_116 : Value), ∃ (uo1_117 : Value), ∃ (uo1_118 : Value), ∃ (uo1_119 : Value), ∃ (uo1_120 : Value), ∃ (uo1_121 : Value), ∃ (uo1_122 : Value), ∃ (uo1_123 : Value), ∃ (uo1_124 : Value), ∃ (uo1_125 : Value), ∃ (uo1_126 : Value), ∃ (uo1_127 : Value), ∃ (uo1_128 : Value), ∃ (uo1_129 : Value), ∃ (uo1_130 : Value), ∃ (uo1_131 : Value), ∃ (uo1_132 : Value), ∃ (uo1_133 : Value), ∃ (uo1_134 : Value), ∃ (uo1_135 : Value), ∃ (uo1_136 : Value), ∃ (uo1_137 : Value), ∃ (uo1_138 : Value), ∃ (uo1_139 : Value), ∃ (uo1_140 : Value), ∃ (uo1_141 : Value), ∃ (uo1_142 : Value), ∃ (uo1_143 : Value), ∃ (uo1_144 : Value), ∃ (uo1_145 : Value), ∃ (uo1_146 : Value), ∃ (uo1_147 : Value), ∃ (uo1_148 : Value), ∃ (uo1_149 : Value), ∃ (uo1_150 : Value), ∃ (uo1_151 : Value), ∃ (uo1_152 : Value), ∃ (uo1_153 : Value), ∃ (uo1_154 : Value), ∃ (uo1_155 : Value), ∃ (uo1_156 : Value), ∃ (uo1_157 : Value), ∃ (uo1_158 : Value), ∃ (uo1_159 : Value), ∃ (uo1_160 : Value), ∃ (uo1_161 : Value), ∃ (uo1_162 : Value), ∃ (uo1_163 : Value), ∃ (uo1_164 : Value), us = [uo1_4, uo1_9, uo1_113, uo1_114, uo1_115, uo1_116, uo1_117, uo1_118, uo1_119, uo1_120, uo1_121, uo1_122, uo1_123, uo1_124, uo1_125, uo1_126, uo1_127, uo1_128, uo1_129, uo1_130, uo1_131, uo1_132, uo1_133, uo1_134, uo1_135, uo1_136, uo1_137, uo1_138, uo1_139, uo1_140, uo1_141, uo1_142, uo1_143, uo1_144, uo1_145, uo1_146, uo1_147, uo1_148, uo1_149, uo1_150, uo1_151, uo1_152, uo1_153, uo1_154, uo1_155, uo1_156, uo1_157, uo1_158, uo1_159, uo1_160, uo1_161, uo1_162, uo1_163, uo1_164] ∧ MapOk Value.string Value.bool s1 eso1_0 clo1_0 ∧ St [] h0 w0 h0 [(some b4, .map eso1_0 clo1_0), (some b2, .cells #[Value.bool (((mfind ieq v1 a0.vKind).getD z_ctf_shape).vname), Value.bool (((mfind ieq v1 a0.vKind).getD z_ctf_shape).vint), Value.bool (((mfind ieq v1 a0.vKind).getD z_ctf_shape).vref), Value.bool (((mfind ieq v1 a0.vKind).getD z_ctf_shape).vn), Value.bool (((mfind ieq v1 a0.vKind).getD z_ctf_shape).vfields)] 171 (0, 0)), (some b3, .map es1 cl1), (some b1, .cells #[Value.int .i64 a0.vKind, Value.string a0.vName, Value.int .i64 a0.vInt.vSize, Value.bool a0.vInt.vSigned, Value.int .i64 a0.vRef, Value.int .i64 a0.vN, Value.slice A0_6 a0.vFields.length c0_6] 34 (0, 0))] w') k [Value.bool false, undef, Value.int .i64 0, undef, undef, undef, undef, undef, undef, undef, undef, undef, undef, undef, undef, undef, undef, undef, undef, undef, undef, undef, undef, undef, undef, undef, undef, undef, undef, undef, undef, undef, undef, undef, undef, undef, undef, undef, undef, undef, undef, undef, undef, undef, undef, undef, undef, undef, undef, undef, undef, undef, undef, undef] (by simp only [patch, List.set_cons_zero, List.set_cons_succ]) ⟨0, ([] : List (ByteArray × Bool)), #[], 0, _, _, _, _, _, _, _, _, _, _, _, _, _, _, _, _, _, _, _, _, _, _, _, _, _, _, _, _, _, _, _, _, _, _, _, _, _, _, _, _, _, _, _, _, _, _, _, _, _, _, _, _, _, rfl, H, (MapOk.nil), HS11⟩ ?_ ?_
                      · rintro m us w12 ⟨y1_0, y1_1, esy1_1, cly1_1, uy1_4, uy1_9, uy1_114, uy1_115, uy1_116, uy1_117, uy1_118, uy1_119, uy1_120, uy1_121, uy1_122, uy1_123, uy1_124, uy1_125, uy1_126, uy1_127, uy1_128, uy1_129, uy1_130, uy1_131, uy1_132, uy1_133, uy1_134, uy1_135, uy1_136, uy1_137, uy1_138, uy1_139, uy1_140, uy1_141, uy1_142, uy1_143, uy1_144, uy1_145, uy1_146, uy1_147, uy1_148, uy1_149, uy1_150, uy1_151, uy1_152, uy1_153, uy1_154, uy1_155, uy1_156, uy1_157, uy1_158, uy1_159, uy1_160, uy1_161, uy1_162, uy1_163, uy1_164, rfl, H, hoy1_1, HS12⟩
                        cases m with
                        | zero => exact absurd H (by simp [ctf_shaped.l0])
                        | succ m =>
                          rw [ctf_shaped.l0] at H
                          try simp only [patch, List.set_cons_zero, List.set_cons_succ]
                          refine wp_seq ?_
                          refine region ?_
                          refine run_same (v := Value.bool (decide (y1_0 < (a0.vFields.length : Int)))) rfl rfl (r_bin rfl rfl rfl) ?_
                          try simp only [List.set_cons_zero, List.set_cons_succ]
                          refine run_nil ?_
                          refine norm_then ?_
                          refine wp_seq ?_
                          refine wp_cond_split (t := (decide (y1_0 < (a0.vFields.length : Int)))) rfl (fun c12 => ?_) (fun c12 => ?_)
                          · replace H := of_pos H c12
                            refine wp_skip ?_
                            refine norm_then ?_
                            refine wp_seq ?_
                            refine wp_block ?_
                            refine wp_seq ?_
                            refine region ?_
                            obtain ⟨hi1, H⟩ := of_ite H
                            obtain ⟨ad1, e1, hel1⟩ := ld_api_Field hr0_6 hi1.1 hi1.2
                            refine run_same (v := Value.pointer (some (Addr.add ad1 (y1_0.toNat * 3)))) rfl rfl (r_indexA (sz := 3) rfl e1 rfl hi1.1 hi1.2 Tryd.runUnderlying32 Tryd.sizeOf36) ?_
                            refine run_same (v := Value.agg #[Value.string ((rd z_api_Field a0.vFields y1_0).vName), Value.int .i64 ((rd z_api_Field a0.vFields y1_0).vType), Value.int .i64 ((rd z_api_Field a0.vFields y1_0).vAt)]) rfl rfl (r_loadAgg rfl Tryd.isAgg36 (hel1.sees HS12.sees) Tryd.sizeOf36) ?_
                            refine run_ex rfl rfl (does_alloc (cs := #[Value.string ByteArray.empty, Value.int .i64 0, Value.int .i64 0]) Tryd.zeroValue36 rfl) ?_
                            rintro w13 _ hE5 ⟨b5, rfl, ge4, hb4⟩
                            have HS13 := HS12.new hE5 ge4 hb4
                            refine run_st (i := 0) (cs := [Value.string ByteArray.empty, Value.int .i64 0, Value.int .i64 0]) (cs' := [Value.string ((rd z_api_Field a0.vFields y1_0).vName), Value.int .i64 ((rd z_api_Field a0.vFields y1_0).vType), Value.int .i64 ((rd z_api_Field a0.vFields y1_0).vAt)]) (vs := [Value.string ((rd z_api_Field a0.vFields y1_0).vName), Value.int .i64 ((rd z_api_Field a0.vFields y1_0).vType), Value.int .i64 ((rd z_api_Field a0.vFields y1_0).vAt)]) (bs' := [(some b5, .cells #[Value.string ((rd z_api_Field a0.vFields y1_0).vName), Value.int .i64 ((rd z_api_Field a0.vFields y1_0).vType), Value.int .i64 ((rd z_api_Field a0.vFields y1_0).vAt)] 36 (0, 0)), (some b4, .map esy1_1 cly1_1), (some b2, .cells #[Value.bool (((mfind ieq v1 a0.vKind).getD z_ctf_shape).vname), Value.bool (((mfind ieq v1 a0.vKind).getD z_ctf_shape).vint), Value.bool (((mfind ieq v1 a0.vKind).getD z_ctf_shape).vref), Value.bool (((mfind ieq v1 a0.vKind).getD z_ctf_shape).vn), Value.bool (((mfind ieq v1 a0.vKind).getD z_ctf_shape).vfields)] 171 (0, 0)), (some b3, .map es1 cl1), (some b1, .cells #[Value.int .i64 a0.vKind, Value.string a0.vName, Value.int .i64 a0.vInt.vSize, Value.bool a0.vInt.vSigned, Value.int .i64 a0.vRef, Value.int .i64 a0.vN, Value.slice A0_6 a0.vFields.length c0_6] 34 (0, 0))]) rfl rfl Tryd.sizeOf36 rfl rfl (by decide) rfl HS13 rfl (Nat.le_of_ble_eq_true rfl) rfl rfl ?_
                            intro w14 HS14
                            try simp only [List.set_cons_zero, List.set_cons_succ]
                            refine run_nil ?_
                            refine norm_then ?_
                            refine wp_seq ?_
                            refine wp_seq ?_
                            refine region ?_
                            refine run_same (v := Value.pointer (some ⟨b5, 0, none⟩)) rfl rfl (r_fieldBox (n := 1) (o' := 0) rfl Tryd.runUnderlying36 rfl Tryd.sizeOf9 (by decide) rfl) ?_
                            refine run_same (v := Value.string ((rd z_api_Field a0.vFields y1_0).vName)) rfl rfl (r_loadBox rfl Tryd.isAgg9 (HS14.look 0 rfl) rfl) ?_
                            obtain ⟨v4, H4, H⟩ := of_bind H
                            refine run_eq (v := Value.bool v4) rfl rfl (does_call_eq Tryd.call118 rfl rfl (ctf_isName.calls k ((rd z_api_Field a0.vFields y1_0).vName) HS14.sees H4)) ?_
                            intro w15 hE6
                            have HS15 := HS14.step hE6
                            refine run_same (v := Value.bool (!v4)) rfl rfl (r_not rfl) ?_
                            refine run_frame (by simp only [List.set_cons_zero, List.set_cons_succ]; rfl) ?_
                            refine run_same (v := Value.bool (!v4)) rfl rfl (r_move rfl) ?_
                            refine run_g_same (b := (!v4)) (c := true) (v := Value.map (some b4)) rfl rfl rfl rfl (fun hg => (r_move rfl)) ?_
                            refine run_g_same (b := (!v4)) (c := true) (v := Value.pointer (some ⟨b5, 0, none⟩)) rfl rfl rfl rfl (fun hg => (r_fieldBox (n := 1) (o' := 0) rfl Tryd.runUnderlying36 rfl Tryd.sizeOf9 (by decide) rfl)) ?_
                            refine run_g_same (b := (!v4)) (c := true) (v := Value.string ((rd z_api_Field a0.vFields y1_0).vName)) rfl rfl rfl rfl (fun hg => (r_loadBox ((show _ = gv (true && ((!v4) == false)) (Value.pointer (some ⟨b5, 0, none⟩)) from rfl).trans (gv_t hg)) Tryd.isAgg9 (HS15.look 0 rfl) rfl)) ?_
                            refine run_frame (by simp only [List.set_cons_zero, List.set_cons_succ]; rfl) ?_
                            refine run_g_same (b := (!v4)) (c := true) (v := Value.bool ((mfind strEq y1_1 ((rd z_api_Field a0.vFields y1_0).vName)).getD false)) rfl rfl rfl rfl (fun hg => (r_mget (key_str Tryd.runUnderlying9) (k := ((rd z_api_Field a0.vFields y1_0).vName)) (m := y1_1) (ev := Value.bool) false ((show _ = gv (true && ((!v4) == false)) (Value.map (some b4)) from rfl).trans (gv_t hg)) ((show _ = gv (true && ((!v4) == false)) (Value.string ((rd z_api_Field a0.vFields y1_0).vName)) from rfl).trans (gv_t hg)) Tryd.runUnderlying150 Tryd.zeroValue4 (HS15.look 1 rfl) hoy1_1)) ?_
                            refine run_same (v := Value.bool ((!v4) || ((mfind strEq y1_1 ((rd z_api_Field a0.vFields y1_0).vName)).getD false))) rfl rfl (r_pick_or rfl rfl (fun hp => ((show _ = gv (true && ((!v4) == false)) (Value.bool ((mfind strEq y1_1 ((rd z_api_Field a0.vFields y1_0).vName)).getD false)) from rfl).trans (gv_t (and_i rfl hp))))) ?_
                            try simp only [List.set_cons_zero, List.set_cons_succ]
                            refine run_nil ?_
                            refine norm_then ?_
                            refine wp_cond_split (t := ((!v4) || ((mfind strEq y1_1 ((rd z_api_Field a0.vFields y1_0).vName)).getD false))) rfl (fun c13 => ?_) (fun c13 => ?_)
                            · replace H := of_pos H c13
                              refine wp_seq ?_
                              refine region ?_
                              refine run_same (v := Value.bool false) rfl rfl (r_assign rfl) ?_
                              try simp only [List.set_cons_zero, List.set_cons_succ]
                              refine run_nil ?_
                              refine norm_then ?_
                              refine wp_ret ?_
                              refine ret_then ?_
                              refine ret_block ?_
                              refine ret_then ?_
                              refine ret_loop ?_
                              refine ret_then ?_
                              obtain rfl := Option.some.inj H
                              obtain rfl := Option.some.inj G6
                              refine bodyPost_ret (results_1 rfl (one_tmp rfl)) rfl ?_
                              exact ⟨rfl, HS15.toE⟩
                            · replace H := of_neg H (nt c13)
                              refine wp_skip ?_
                              refine norm_then ?_
                              refine wp_seq ?_
                              refine region ?_
                              refine run_same (v := Value.map (some b4)) rfl rfl (r_move rfl) ?_
                              refine run_same (v := Value.pointer (some ⟨b5, 0, none⟩)) rfl rfl (r_fieldBox (n := 1) (o' := 0) rfl Tryd.runUnderlying36 rfl Tryd.sizeOf9 (by decide) rfl) ?_
                              refine run_same (v := Value.string ((rd z_api_Field a0.vFields y1_0).vName)) rfl rfl (r_loadBox rfl Tryd.isAgg9 (HS15.look 0 rfl) rfl) ?_
                              refine mupd (key_str Tryd.runUnderlying9) (i := 1) (k := ((rd z_api_Field a0.vFields y1_0).vName)) (v := true) (ev := Value.bool) (m := y1_1) (by first | exact .inl rfl | exact .inr rfl) rfl rfl rfl rfl rfl Tryd.runUnderlying150 HS15 rfl hoy1_1 ?_
                              intro w16 es2 cl2 HS16 ho2
                              try simp only [List.set_cons_zero, List.set_cons_succ]
                              refine run_nil ?_
                              refine norm_then ?_
                              refine wp_seq ?_
                              refine region ?_
                              refine run_same (v := Value.pointer (some ⟨b1, 0, none⟩)) rfl rfl (r_fieldBox (n := 1) (o' := 0) rfl Tryd.runUnderlying34 rfl Tryd.sizeOf3 (by decide) rfl) ?_
                              refine run_same (v := Value.int .i64 a0.vKind) rfl rfl (r_loadBox rfl Tryd.isAgg3 (HS16.look 4 rfl) rfl) ?_
                              refine run_same (v := Value.bool (a0.vKind == 5)) rfl rfl (r_bin rfl rfl rfl) ?_
                              refine run_same (v := Value.bool (a0.vKind == 5)) rfl rfl (r_move rfl) ?_
                              refine run_frame (by simp only [List.set_cons_zero, List.set_cons_succ]; rfl) ?_
                              refine run_g_same (b := (a0.vKind == 5)) (c := true) (v := Value.pointer (some ⟨b5, 1, none⟩)) rfl rfl rfl rfl (fun hg => (r_fieldBox (n := 1) (o' := 1) rfl Tryd.runUnderlying36 rfl Tryd.sizeOf3 (by decide) rfl)) ?_
                              refine run_g_same (b := (a0.vKind == 5)) (c := true) (v := Value.int .i64 ((rd z_api_Field a0.vFields y1_0).vType)) rfl rfl rfl rfl (fun hg => (r_loadBox ((show _ = gv (true && ((a0.vKind == 5) == true)) (Value.pointer (some ⟨b5, 1, none⟩)) from rfl).trans (gv_t hg)) Tryd.isAgg3 (HS16.look 0 rfl) rfl)) ?_
                              refine run_g_same (b := (a0.vKind == 5)) (c := true) (v := Value.bool ((rd z_api_Field a0.vFields y1_0).vType != 0)) rfl rfl rfl rfl (fun hg => (r_bin ((show _ = gv (true && ((a0.vKind == 5) == true)) (Value.int .i64 ((rd z_api_Field a0.vFields y1_0).vType)) from rfl).trans (gv_t hg)) rfl rfl)) ?_
                              refine run_g_same (b := (a0.vKind == 5)) (c := true) (v := Value.bool ((rd z_api_Field a0.vFields y1_0).vType != 0)) rfl rfl rfl rfl (fun hg => (r_move ((show _ = gv (true && ((a0.vKind == 5) == true)) (Value.bool ((rd z_api_Field a0.vFields y1_0).vType != 0)) from rfl).trans (gv_t hg)))) ?_
                              refine run_frame (by simp only [List.set_cons_zero, List.set_cons_succ]; rfl) ?_
                              refine run_g_same (b := ((rd z_api_Field a0.vFields y1_0).vType != 0)) (c := (true && ((a0.vKind == 5) == true))) (v := Value.pointer (some ⟨b5, 2, none⟩)) rfl rfl rfl rfl (fun hg => (r_fieldBox (n := 1) (o' := 2) rfl Tryd.runUnderlying36 rfl Tryd.sizeOf3 (by decide) rfl)) ?_
                              refine run_g_same (b := ((rd z_api_Field a0.vFields y1_0).vType != 0)) (c := (true && ((a0.vKind == 5) == true))) (v := Value.int .i64 ((rd z_api_Field a0.vFields y1_0).vAt)) rfl rfl rfl rfl (fun hg => (r_loadBox ((show _ = gv ((true && ((a0.vKind == 5) == true)) && (((rd z_api_Field a0.vFields y1_0).vType != 0) == false)) (Value.pointer (some ⟨b5, 2, none⟩)) from rfl).trans (gv_t hg)) Tryd.isAgg3 (HS16.look 0 rfl) rfl)) ?_
                              refine run_g_same (b := ((rd z_api_Field a0.vFields y1_0).vType != 0)) (c := (true && ((a0.vKind == 5) == true))) (v := Value.bool (decide ((rd z_api_Field a0.vFields y1_0).vAt < (-2147483648)))) rfl rfl rfl rfl (fun hg => (r_bin ((show _ = gv ((true && ((a0.vKind == 5) == true)) && (((rd z_api_Field a0.vFields y1_0).vType != 0) == false)) (Value.int .i64 ((rd z_api_Field a0.vFields y1_0).vAt)) from rfl).trans (gv_t hg)) rfl rfl)) ?_
                              refine run_g_same (b := (a0.vKind == 5)) (c := true) (v := Value.bool (((rd z_api_Field a0.vFields y1_0).vType != 0) || (decide ((rd z_api_Field a0.vFields y1_0).vAt < (-2147483648))))) rfl rfl rfl rfl (fun hg => (r_pick_or ((show _ = gv (true && ((a0.vKind == 5) == true)) (Value.bool ((rd z_api_Field a0.vFields y1_0).vType != 0)) from rfl).trans (gv_t hg)) rfl (fun hp => ((show _ = gv ((true && ((a0.vKind == 5) == true)) && (((rd z_api_Field a0.vFields y1_0).vType != 0) == false)) (Value.bool (decide ((rd z_api_Field a0.vFields y1_0).vAt < (-2147483648)))) from rfl).trans (gv_t (and_i hg hp)))))) ?_
                              refine run_frame (by simp only [List.set_cons_zero, List.set_cons_succ]; rfl) ?_
                              refine run_g_same (b := (a0.vKind == 5)) (c := true) (v := Value.bool (((rd z_api_Field a0.vFields y1_0).vType != 0) || (decide ((rd z_api_Field a0.vFields y1_0).vAt < (-2147483648))))) rfl rfl rfl rfl (fun hg => (r_move ((show _ = gv (true && ((a0.vKind == 5) == true)) (Value.bool (((rd z_api_Field a0.vFields y1_0).vType != 0) || (decide ((rd z_api_Field a0.vFields y1_0).vAt < (-2147483648))))) from rfl).trans (gv_t hg)))) ?_
                              refine run_g_same (b := (((rd z_api_Field a0.vFields y1_0).vType != 0) || (decide ((rd z_api_Field a0.vFields y1_0).vAt < (-2147483648))))) (c := (true && ((a0.vKind == 5) == true))) (v := Value.pointer (some ⟨b5, 2, none⟩)) rfl rfl rfl rfl (fun hg => (r_fieldBox (n := 1) (o' := 2) rfl Tryd.runUnderlying36 rfl Tryd.sizeOf3 (by decide) rfl)) ?_
                              refine run_g_same (b := (((rd z_api_Field a0.vFields y1_0).vType != 0) || (decide ((rd z_api_Field a0.vFields y1_0).vAt < (-2147483648))))) (c := (true && ((a0.vKind == 5) == true))) (v := Value.int .i64 ((rd z_api_Field a0.vFields y1_0).vAt)) rfl rfl rfl rfl (fun hg => (r_loadBox ((show _ = gv ((true && ((a0.vKind == 5) == true)) && ((((rd z_api_Field a0.vFields y1_0).vType != 0) || (decide ((rd z_api_Field a0.vFields y1_0).vAt < (-2147483648)))) == false)) (Value.pointer (some ⟨b5, 2, none⟩)) from rfl).trans (gv_t hg)) Tryd.isAgg3 (HS16.look 0 rfl) rfl)) ?_
                              refine run_g_same (b := (((rd z_api_Field a0.vFields y1_0).vType != 0) || (decide ((rd z_api_Field a0.vFields y1_0).vAt < (-2147483648))))) (c := (true && ((a0.vKind == 5) == true))) (v := Value.bool (decide ((rd z_api_Field a0.vFields y1_0).vAt > 2147483647))) rfl rfl rfl rfl (fun hg => (r_bin ((show _ = gv ((true && ((a0.vKind == 5) == true)) && ((((rd z_api_Field a0.vFields y1_0).vType != 0) || (decide ((rd z_api_Field a0.vFields y1_0).vAt < (-2147483648)))) == false)) (Value.int .i64 ((rd z_api_Field a0.vFields y1_0).vAt)) from rfl).trans (gv_t hg)) rfl rfl)) ?_
                              refine run_frame (by simp only [List.set_cons_zero, List.set_cons_succ]; rfl) ?_
                              refine run_g_same (b := (a0.vKind == 5)) (c := true) (v := Value.bool ((((rd z_api_Field a0.vFields y1_0).vType != 0) || (decide ((rd z_api_Field a0.vFields y1_0).vAt < (-2147483648)))) || (decide ((rd z_api_Field a0.vFields y1_0).vAt > 2147483647)))) rfl rfl rfl rfl (fun hg => (r_pick_or ((show _ = gv (true && ((a0.vKind == 5) == true)) (Value.bool (((rd z_api_Field a0.vFields y1_0).vType != 0) || (decide ((rd z_api_Field a0.vFields y1_0).vAt < (-2147483648))))) from rfl).trans (gv_t hg)) rfl (fun hp => ((show _ = gv ((true && ((a0.vKind == 5) == true)) && ((((rd z_api_Field a0.vFields y1_0).vType != 0) || (decide ((rd z_api_Field a0.vFields y1_0).vAt < (-2147483648)))) == false)) (Value.bool (decide ((rd z_api_Field a0.vFields y1_0).vAt > 2147483647))) from rfl).trans (gv_t (and_i hg hp)))))) ?_
                              refine run_same (v := Value.bool ((a0.vKind == 5) && ((((rd z_api_Field a0.vFields y1_0).vType != 0) || (decide ((rd z_api_Field a0.vFields y1_0).vAt < (-2147483648)))) || (decide ((rd z_api_Field a0.vFields y1_0).vAt > 2147483647))))) rfl rfl (r_pick_and rfl (fun hp => ((show _ = gv (true && ((a0.vKind == 5) == true)) (Value.bool ((((rd z_api_Field a0.vFields y1_0).vType != 0) || (decide ((rd z_api_Field a0.vFields y1_0).vAt < (-2147483648)))) || (decide ((rd z_api_Field a0.vFields y1_0).vAt > 2147483647)))) from rfl).trans (gv_t (and_i rfl hp)))) rfl) ?_
                              refine run_same (v := Value.bool ((a0.vKind == 5) && ((((rd z_api_Field a0.vFields y1_0).vType != 0) || (decide ((rd z_api_Field a0.vFields y1_0).vAt < (-2147483648)))) || (decide ((rd z_api_Field a0.vFields y1_0).vAt > 2147483647))))) rfl rfl (r_move rfl) ?_
                              refine run_g_same (b := ((a0.vKind == 5) && ((((rd z_api_Field a0.vFields y1_0).vType != 0) || (decide ((rd z_api_Field a0.vFields y1_0).vAt < (-2147483648)))) || (decide ((rd z_api_Field a0.vFields y1_0).vAt > 2147483647))))) (c := true) (v := Value.pointer (some ⟨b1, 0, none⟩)) rfl rfl rfl rfl (fun hg => (r_fieldBox (n := 1) (o' := 0) rfl Tryd.runUnderlying34 rfl Tryd.sizeOf3 (by decide) rfl)) ?_
                              refine run_frame (by simp only [List.set_cons_zero, List.set_cons_succ]; rfl) ?_
                              refine run_g_same (b := ((a0.vKind == 5) && ((((rd z_api_Field a0.vFields y1_0).vType != 0) || (decide ((rd z_api_Field a0.vFields y1_0).vAt < (-2147483648)))) || (decide ((rd z_api_Field a0.vFields y1_0).vAt > 2147483647))))) (c := true) (v := Value.int .i64 a0.vKind) rfl rfl rfl rfl (fun hg => (r_loadBox ((show _ = gv (true && (((a0.vKind == 5) && ((((rd z_api_Field a0.vFields y1_0).vType != 0) || (decide ((rd z_api_Field a0.vFields y1_0).vAt < (-2147483648)))) || (decide ((rd z_api_Field a0.vFields y1_0).vAt > 2147483647)))) == false)) (Value.pointer (some ⟨b1, 0, none⟩)) from rfl).trans (gv_t hg)) Tryd.isAgg3 (HS16.look 4 rfl) rfl)) ?_
                              refine run_g_same (b := ((a0.vKind == 5) && ((((rd z_api_Field a0.vFields y1_0).vType != 0) || (decide ((rd z_api_Field a0.vFields y1_0).vAt < (-2147483648)))) || (decide ((rd z_api_Field a0.vFields y1_0).vAt > 2147483647))))) (c := true) (v := Value.bool (a0.vKind == 4)) rfl rfl rfl rfl (fun hg => (r_bin ((show _ = gv (true && (((a0.vKind == 5) && ((((rd z_api_Field a0.vFields y1_0).vType != 0) || (decide ((rd z_api_Field a0.vFields y1_0).vAt < (-2147483648)))) || (decide ((rd z_api_Field a0.vFields y1_0).vAt > 2147483647)))) == false)) (Value.int .i64 a0.vKind) from rfl).trans (gv_t hg)) rfl rfl)) ?_
                              refine run_g_same (b := ((a0.vKind == 5) && ((((rd z_api_Field a0.vFields y1_0).vType != 0) || (decide ((rd z_api_Field a0.vFields y1_0).vAt < (-2147483648)))) || (decide ((rd z_api_Field a0.vFields y1_0).vAt > 2147483647))))) (c := true) (v := Value.bool (a0.vKind == 4)) rfl rfl rfl rfl (fun hg => (r_move ((show _ = gv (true && (((a0.vKind == 5) && ((((rd z_api_Field a0.vFields y1_0).vType != 0) || (decide ((rd z_api_Field a0.vFields y1_0).vAt < (-2147483648)))) || (decide ((rd z_api_Field a0.vFields y1_0).vAt > 2147483647)))) == false)) (Value.bool (a0.vKind == 4)) from rfl).trans (gv_t hg)))) ?_
                              refine run_g_same (b := (a0.vKind == 4)) (c := (true && (((a0.vKind == 5) && ((((rd z_api_Field a0.vFields y1_0).vType != 0) || (decide ((rd z_api_Field a0.vFields y1_0).vAt < (-2147483648)))) || (decide ((rd z_api_Field a0.vFields y1_0).vAt > 2147483647)))) == false))) (v := Value.pointer (some ⟨b5, 1, none⟩)) rfl rfl rfl rfl (fun hg => (r_fieldBox (n := 1) (o' := 1) rfl Tryd.runUnderlying36 rfl Tryd.sizeOf3 (by decide) rfl)) ?_
                              refine run_frame (by simp only [List.set_cons_zero, List.set_cons_succ]; rfl) ?_
                              refine run_g_same (b := (a0.vKind == 4)) (c := (true && (((a0.vKind == 5) && ((((rd z_api_Field a0.vFields y1_0).vType != 0) || (decide ((rd z_api_Field a0.vFields y1_0).vAt < (-2147483648)))) || (decide ((rd z_api_Field a0.vFields y1_0).vAt > 2147483647)))) == false))) (v := Value.int .i64 ((rd z_api_Field a0.vFields y1_0).vType)) rfl rfl rfl rfl (fun hg => (r_loadBox ((show _ = gv ((true && (((a0.vKind == 5) && ((((rd z_api_Field a0.vFields y1_0).vType != 0) || (decide ((rd z_api_Field a0.vFields y1_0).vAt < (-2147483648)))) || (decide ((rd z_api_Field a0.vFields y1_0).vAt > 2147483647)))) == false)) && ((a0.vKind == 4) == true)) (Value.pointer (some ⟨b5, 1, none⟩)) from rfl).trans (gv_t hg)) Tryd.isAgg3 (HS16.look 0 rfl) rfl)) ?_
                              refine run_g_same (b := (a0.vKind == 4)) (c := (true && (((a0.vKind == 5) && ((((rd z_api_Field a0.vFields y1_0).vType != 0) || (decide ((rd z_api_Field a0.vFields y1_0).vAt < (-2147483648)))) || (decide ((rd z_api_Field a0.vFields y1_0).vAt > 2147483647)))) == false))) (v := Value.bool (decide ((rd z_api_Field a0.vFields y1_0).vType < 0))) rfl rfl rfl rfl (fun hg => (r_bin ((show _ = gv ((true && (((a0.vKind == 5) && ((((rd z_api_Field a0.vFields y1_0).vType != 0) || (decide ((rd z_api_Field a0.vFields y1_0).vAt < (-2147483648)))) || (decide ((rd z_api_Field a0.vFields y1_0).vAt > 2147483647)))) == false)) && ((a0.vKind == 4) == true)) (Value.int .i64 ((rd z_api_Field a0.vFields y1_0).vType)) from rfl).trans (gv_t hg)) rfl rfl)) ?_
                              refine run_g_same (b := (a0.vKind == 4)) (c := (true && (((a0.vKind == 5) && ((((rd z_api_Field a0.vFields y1_0).vType != 0) || (decide ((rd z_api_Field a0.vFields y1_0).vAt < (-2147483648)))) || (decide ((rd z_api_Field a0.vFields y1_0).vAt > 2147483647)))) == false))) (v := Value.bool (decide ((rd z_api_Field a0.vFields y1_0).vType < 0))) rfl rfl rfl rfl (fun hg => (r_move ((show _ = gv ((true && (((a0.vKind == 5) && ((((rd z_api_Field a0.vFields y1_0).vType != 0) || (decide ((rd z_api_Field a0.vFields y1_0).vAt < (-2147483648)))) || (decide ((rd z_api_Field a0.vFields y1_0).vAt > 2147483647)))) == false)) && ((a0.vKind == 4) == true)) (Value.bool (decide ((rd z_api_Field a0.vFields y1_0).vType < 0))) from rfl).trans (gv_t hg)))) ?_
                              refine run_g_same (b := (decide ((rd z_api_Field a0.vFields y1_0).vType < 0))) (c := ((true && (((a0.vKind == 5) && ((((rd z_api_Field a0.vFields y1_0).vType != 0) || (decide ((rd z_api_Field a0.vFields y1_0).vAt < (-2147483648)))) || (decide ((rd z_api_Field a0.vFields y1_0).vAt > 2147483647)))) == false)) && ((a0.vKind == 4) == true))) (v := Value.pointer (some ⟨b5, 1, none⟩)) rfl rfl rfl rfl (fun hg => (r_fieldBox (n := 1) (o' := 1) rfl Tryd.runUnderlying36 rfl Tryd.sizeOf3 (by decide) rfl)) ?_
                              refine run_frame (by simp only [List.set_cons_zero, List.set_cons_succ]; rfl) ?_
                              refine run_g_same (b := (decide ((rd z_api_Field a0.vFields y1_0).vType < 0))) (c := ((true && (((a0.vKind == 5) && ((((rd z_api_Field a0.vFields y1_0).vType != 0) || (decide ((rd z_api_Field a0.vFields y1_0).vAt < (-2147483648)))) || (decide ((rd z_api_Field a0.vFields y1_0).vAt > 2147483647)))) == false)) && ((a0.vKind == 4) == true))) (v := Value.int .i64 ((rd z_api_Field a0.vFields y1_0).vType)) rfl rfl rfl rfl (fun hg => (r_loadBox ((show _ = gv (((true && (((a0.vKind == 5) && ((((rd z_api_Field a0.vFields y1_0).vType != 0) || (decide ((rd z_api_Field a0.vFields y1_0).vAt < (-2147483648)))) || (decide ((rd z_api_Field a0.vFields y1_0).vAt > 2147483647)))) == false)) && ((a0.vKind == 4) == true)) && ((decide ((rd z_api_Field a0.vFields y1_0).vType < 0)) == false)) (Value.pointer (some ⟨b5, 1, none⟩)) from rfl).trans (gv_t hg)) Tryd.isAgg3 (HS16.look 0 rfl) rfl)) ?_
                              refine run_g_same (b := (decide ((rd z_api_Field a0.vFields y1_0).vType < 0))) (c := ((true && (((a0.vKind == 5) && ((((rd z_api_Field a0.vFields y1_0).vType != 0) || (decide ((rd z_api_Field a0.vFields y1_0).vAt < (-2147483648)))) || (decide ((rd z_api_Field a0.vFields y1_0).vAt > 2147483647)))) == false)) && ((a0.vKind == 4) == true))) (v := Value.int .i64 a1) rfl rfl rfl rfl (fun hg => (r_move rfl)) ?_
                              refine run_g_same (b := (decide ((rd z_api_Field a0.vFields y1_0).vType < 0))) (c := ((true && (((a0.vKind == 5) && ((((rd z_api_Field a0.vFields y1_0).vType != 0) || (decide ((rd z_api_Field a0.vFields y1_0).vAt < (-2147483648)))) || (decide ((rd z_api_Field a0.vFields y1_0).vAt > 2147483647)))) == false)) && ((a0.vKind == 4) == true))) (v := Value.bool (decide ((rd z_api_Field a0.vFields y1_0).vType ≥ a1))) rfl rfl rfl rfl (fun hg => (r_bin ((show _ = gv (((true && (((a0.vKind == 5) && ((((rd z_api_Field a0.vFields y1_0).vType != 0) || (decide ((rd z_api_Field a0.vFields y1_0).vAt < (-2147483648)))) || (decide ((rd z_api_Field a0.vFields y1_0).vAt > 2147483647)))) == false)) && ((a0.vKind == 4) == true)) && ((decide ((rd z_api_Field a0.vFields y1_0).vType < 0)) == false)) (Value.int .i64 ((rd z_api_Field a0.vFields y1_0).vType)) from rfl).trans (gv_t hg)) ((show _ = gv (((true && (((a0.vKind == 5) && ((((rd z_api_Field a0.vFields y1_0).vType != 0) || (decide ((rd z_api_Field a0.vFields y1_0).vAt < (-2147483648)))) || (decide ((rd z_api_Field a0.vFields y1_0).vAt > 2147483647)))) == false)) && ((a0.vKind == 4) == true)) && ((decide ((rd z_api_Field a0.vFields y1_0).vType < 0)) == false)) (Value.int .i64 a1) from rfl).trans (gv_t hg)) rfl)) ?_
                              refine run_g_same (b := (a0.vKind == 4)) (c := (true && (((a0.vKind == 5) && ((((rd z_api_Field a0.vFields y1_0).vType != 0) || (decide ((rd z_api_Field a0.vFields y1_0).vAt < (-2147483648)))) || (decide ((rd z_api_Field a0.vFields y1_0).vAt > 2147483647)))) == false))) (v := Value.bool ((decide ((rd z_api_Field a0.vFields y1_0).vType < 0)) || (decide ((rd z_api_Field a0.vFields y1_0).vType ≥ a1)))) rfl rfl rfl rfl (fun hg => (r_pick_or ((show _ = gv ((true && (((a0.vKind == 5) && ((((rd z_api_Field a0.vFields y1_0).vType != 0) || (decide ((rd z_api_Field a0.vFields y1_0).vAt < (-2147483648)))) || (decide ((rd z_api_Field a0.vFields y1_0).vAt > 2147483647)))) == false)) && ((a0.vKind == 4) == true)) (Value.bool (decide ((rd z_api_Field a0.vFields y1_0).vType < 0))) from rfl).trans (gv_t hg)) rfl (fun hp => ((show _ = gv (((true && (((a0.vKind == 5) && ((((rd z_api_Field a0.vFields y1_0).vType != 0) || (decide ((rd z_api_Field a0.vFields y1_0).vAt < (-2147483648)))) || (decide ((rd z_api_Field a0.vFields y1_0).vAt > 2147483647)))) == false)) && ((a0.vKind == 4) == true)) && ((decide ((rd z_api_Field a0.vFields y1_0).vType < 0)) == false)) (Value.bool (decide ((rd z_api_Field a0.vFields y1_0).vType ≥ a1))) from rfl).trans (gv_t (and_i hg hp)))))) ?_
                              refine run_frame (by simp only [List.set_cons_zero, List.set_cons_succ]; rfl) ?_
                              refine run_g_same (b := ((a0.vKind == 5) && ((((rd z_api_Field a0.vFields y1_0).vType != 0) || (decide ((rd z_api_Field a0.vFields y1_0).vAt < (-2147483648)))) || (decide ((rd z_api_Field a0.vFields y1_0).vAt > 2147483647))))) (c := true) (v := Value.bool ((a0.vKind == 4) && ((decide ((rd z_api_Field a0.vFields y1_0).vType < 0)) || (decide ((rd z_api_Field a0.vFields y1_0).vType ≥ a1))))) rfl rfl rfl rfl (fun hg => (r_pick_and ((show _ = gv (true && (((a0.vKind == 5) && ((((rd z_api_Field a0.vFields y1_0).vType != 0) || (decide ((rd z_api_Field a0.vFields y1_0).vAt < (-2147483648)))) || (decide ((rd z_api_Field a0.vFields y1_0).vAt > 2147483647)))) == false)) (Value.bool (a0.vKind == 4)) from rfl).trans (gv_t hg)) (fun hp => ((show _ = gv ((true && (((a0.vKind == 5) && ((((rd z_api_Field a0.vFields y1_0).vType != 0) || (decide ((rd z_api_Field a0.vFields y1_0).vAt < (-2147483648)))) || (decide ((rd z_api_Field a0.vFields y1_0).vAt > 2147483647)))) == false)) && ((a0.vKind == 4) == true)) (Value.bool ((decide ((rd z_api_Field a0.vFields y1_0).vType < 0)) || (decide ((rd z_api_Field a0.vFields y1_0).vType ≥ a1)))) from rfl).trans (gv_t (and_i hg hp)))) rfl)) ?_
                              refine run_same (v := Value.bool (((a0.vKind == 5) && ((((rd z_api_Field a0.vFields y1_0).vType != 0) || (decide ((rd z_api_Field a0.vFields y1_0).vAt < (-2147483648)))) || (decide ((rd z_api_Field a0.vFields y1_0).vAt > 2147483647)))) || ((a0.vKind == 4) && ((decide ((rd z_api_Field a0.vFields y1_0).vType < 0)) || (decide ((rd z_api_Field a0.vFields y1_0).vType ≥ a1)))))) rfl rfl (r_pick_or rfl rfl (fun hp => ((show _ = gv (true && (((a0.vKind == 5) && ((((rd z_api_Field a0.vFields y1_0).vType != 0) || (decide ((rd z_api_Field a0.vFields y1_0).vAt < (-2147483648)))) || (decide ((rd z_api_Field a0.vFields y1_0).vAt > 2147483647)))) == false)) (Value.bool ((a0.vKind == 4) && ((decide ((rd z_api_Field a0.vFields y1_0).vType < 0)) || (decide ((rd z_api_Field a0.vFields y1_0).vType ≥ a1))))) from rfl).trans (gv_t (and_i rfl hp))))) ?_
                              try simp only [List.set_cons_zero, List.set_cons_succ]
                              refine run_nil ?_
                              refine norm_then ?_
                              refine wp_cond_split (t := (((a0.vKind == 5) && ((((rd z_api_Field a0.vFields y1_0).vType != 0) || (decide ((rd z_api_Field a0.vFields y1_0).vAt < (-2147483648)))) || (decide ((rd z_api_Field a0.vFields y1_0).vAt > 2147483647)))) || ((a0.vKind == 4) && ((decide ((rd z_api_Field a0.vFields y1_0).vType < 0)) || (decide ((rd z_api_Field a0.vFields y1_0).vType ≥ a1)))))) rfl (fun c14 => ?_) (fun c14 => ?_)
                              · replace H := of_pos H c14
                                refine wp_seq ?_
                                refine region ?_
                                refine run_same (v := Value.bool false) rfl rfl (r_assign rfl) ?_
                                try simp only [List.set_cons_zero, List.set_cons_succ]
                                refine run_nil ?_
                                refine norm_then ?_
                                refine wp_ret ?_
                                refine ret_block ?_
                                refine ret_then ?_
                                refine ret_loop ?_
                                refine ret_then ?_
                                obtain rfl := Option.some.inj H
                                obtain rfl := Option.some.inj G6
                                refine bodyPost_ret (results_1 rfl (one_tmp rfl)) rfl ?_
                                exact ⟨rfl, HS16.toE⟩
                              · replace H := of_neg H (nt c14)
                                refine wp_skip ?_
                                refine norm_block ?_
                                refine norm_then ?_
                                refine region ?_
                                refine run_same (v := Value.int .i64 (IntKind.wrap .i64 (y1_0 + 1))) rfl rfl (r_bin rfl rfl rfl) ?_
                                refine run_same (v := Value.int .i64 (IntKind.wrap .i64 (y1_0 + 1))) rfl rfl (r_move rfl) ?_
                                try simp only [List.set_cons_zero, List.set_cons_succ]
                                refine run_nil ?_
                                refine again m [uy1_4, Value.pointer (some ⟨b5, 0, none⟩), Value.int .i64 (IntKind.wrap .i64 (y1_0 + 1)), Value.bool (decide (y1_0 < (a0.vFields.length : Int))), Value.pointer (some (Addr.add ad1 (y1_0.toNat * 3))), Value.agg #[Value.string ((rd z_api_Field a0.vFields y1_0).vName), Value.int .i64 ((rd z_api_Field a0.vFields y1_0).vType), Value.int .i64 ((rd z_api_Field a0.vFields y1_0).vAt)], Value.pointer (some ⟨b5, 0, none⟩), Value.string ((rd z_api_Field a0.vFields y1_0).vName), Value.bool v4, Value.bool (!v4), Value.bool (!v4), gv (true && ((!v4) == false)) (Value.map (some b4)), gv (true && ((!v4) == false)) (Value.pointer (some ⟨b5, 0, none⟩)), gv (true && ((!v4) == false)) (Value.string ((rd z_api_Field a0.vFields y1_0).vName)), gv (true && ((!v4) == false)) (Value.bool ((mfind strEq y1_1 ((rd z_api_Field a0.vFields y1_0).vName)).getD false)), Value.bool ((!v4) || ((mfind strEq y1_1 ((rd z_api_Field a0.vFields y1_0).vName)).getD false)), Value.map (some b4), Value.pointer (some ⟨b5, 0, none⟩), Value.string ((rd z_api_Field a0.vFields y1_0).vName), Value.pointer (some ⟨b1, 0, none⟩), Value.int .i64 a0.vKind, Value.bool (a0.vKind == 5), Value.bool (a0.vKind == 5), gv (true && ((a0.vKind == 5) == true)) (Value.pointer (some ⟨b5, 1, none⟩)), gv (true && ((a0.vKind == 5) == true)) (Value.int .i64 ((rd z_api_Field a0.vFields y1_0).vType)), gv (true && ((a0.vKind == 5) == true)) (Value.bool ((rd z_api_Field a0.vFields y1_0).vType != 0)), gv (true && ((a0.vKind == 5) == true)) (Value.bool ((rd z_api_Field a0.vFields y1_0).vType != 0)), gv ((true && ((a0.vKind == 5) == true)) && (((rd z_api_Field a0.vFields y1_0).vType != 0) == false)) (Value.pointer (some ⟨b5, 2, none⟩)), gv ((true && ((a0.vKind == 5) == true)) && (((rd z_api_Field a0.vFields y1_0).vType != 0) == false)) (Value.int .i64 ((rd z_api_Field a0.vFields y1_0).vAt)), gv ((true && ((a0.vKind == 5) == true)) && (((rd z_api_Field a0.vFields y1_0).vType != 0) == false)) (Value.bool (decide ((rd z_api_Field a0.vFields y1_0).vAt < (-2147483648)))), gv (true && ((a0.vKind == 5) == true)) (Value.bool (((rd z_api_Field a0.vFields y1_0).vType != 0) || (decide ((rd z_api_Field a0.vFields y1_0).vAt < (-2147483648))))), gv (true && ((a0.vKind == 5) == true)) (Value.bool (((rd z_api_Field a0.vFields y1_0).vType != 0) || (decide ((rd z_api_Field a0.vFields y1_0).vAt < (-2147483648))))), gv ((true && ((a0.vKind == 5) == true)) && ((((rd z_api_Field a0.vFields y1_0).vType != 0) || (decide ((rd z_api_Field a0.vFields y1_0).vAt < (-2147483648)))) == false)) (Value.pointer (some ⟨b5, 2, none⟩)), gv ((true && ((a0.vKind == 5) == true)) && ((((rd z_api_Field a0.vFields y1_0).vType != 0) || (decide ((rd z_api_Field a0.vFields y1_0).vAt < (-2147483648)))) == false)) (Value.int .i64 ((rd z_api_Field a0.vFields y1_0).vAt)), gv ((true && ((a0.vKind == 5) == true)) && ((((rd z_api_Field a0.vFields y1_0).vType != 0) || (decide ((rd z_api_Field a0.vFields y1_0).vAt < (-2147483648)))) == false)) (Value.bool (decide ((rd z_api_Field a0.vFields y1_0).vAt > 2147483647))), gv (true && ((a0.vKind == 5) == true)) (Value.bool ((((rd z_api_Field a0.vFields y1_0).vType != 0) || (decide ((rd z_api_Field a0.vFields y1_0).vAt < (-2147483648)))) || (decide ((rd z_api_Field a0.vFields y1_0).vAt > 2147483647)))), Value.bool ((a0.vKind == 5) && ((((rd z_api_Field a0.vFields y1_0).vType != 0) || (decide ((rd z_api_Field a0.vFields y1_0).vAt < (-2147483648)))) || (decide ((rd z_api_Field a0.vFields y1_0).vAt > 2147483647)))), Value.bool ((a0.vKind == 5) && ((((rd z_api_Field a0.vFields y1_0).vType != 0) || (decide ((rd z_api_Field a0.vFields y1_0).vAt < (-2147483648)))) || (decide ((rd z_api_Field a0.vFields y1_0).vAt > 2147483647)))), gv (true && (((a0.vKind == 5) && ((((rd z_api_Field a0.vFields y1_0).vType != 0) || (decide ((rd z_api_Field a0.vFields y1_0).vAt < (-2147483648)))) || (decide ((rd z_api_Field a0.vFields y1_0).vAt > 2147483647)))) == false)) (Value.pointer (some ⟨b1, 0, none⟩)), gv (true && (((a0.vKind == 5) && ((((rd z_api_Field a0.vFields y1_0).vType != 0) || (decide ((rd z_api_Field a0.vFields y1_0).vAt < (-2147483648)))) || (decide ((rd z_api_Field a0.vFields y1_0).vAt > 2147483647)))) == false)) (Value.int .i64 a0.vKind), gv (true && (((a0.vKind == 5) && ((((rd z_api_Field a0.vFields y1_0).vType != 0) || (decide ((rd z_api_Field a0.vFields y1_0).vAt < (-2147483648)))) || (decide ((rd z_api_Field a0.vFields y1_0).vAt > 2147483647)))) == false)) (Value.bool (a0.vKind == 4)), gv (true && (((a0.vKind == 5) && ((((rd z_api_Field a0.vFields y1_0).vType != 0) || (decide ((rd z_api_Field a0.vFields y1_0).vAt < (-2147483648)))) || (decide ((rd z_api_Field a0.vFields y1_0).vAt > 2147483647)))) == false)) (Value.bool (a0.vKind == 4)), gv ((true && (((a0.vKind == 5) && ((((rd z_api_Field a0.vFields y1_0).vType != 0) || (decide ((rd z_api_Field a0.vFields y1_0).vAt < (-2147483648)))) || (decide ((rd z_api_Field a0.vFields y1_0).vAt > 2147483647)))) == false)) && ((a0.vKind == 4) == true)) (Value.pointer (some ⟨b5, 1, none⟩)), gv ((true && (((a0.vKind == 5) && ((((rd z_api_Field a0.vFields y1_0).vType != 0) || (decide ((rd z_api_Field a0.vFields y1_0).vAt < (-2147483648)))) || (decide ((rd z_api_Field a0.vFields y1_0).vAt > 2147483647)))) == false)) && ((a0.vKind == 4) == true)) (Value.int .i64 ((rd z_api_Field a0.vFields y1_0).vType)), gv ((true && (((a0.vKind == 5) && ((((rd z_api_Field a0.vFields y1_0).vType != 0) || (decide ((rd z_api_Field a0.vFields y1_0).vAt < (-2147483648)))) || (decide ((rd z_api_Field a0.vFields y1_0).vAt > 2147483647)))) == false)) && ((a0.vKind == 4) == true)) (Value.bool (decide ((rd z_api_Field a0.vFields y1_0).vType < 0))), gv ((true && (((a0.vKind == 5) && ((((rd z_api_Field a0.vFields y1_0).vType != 0) || (decide ((rd z_api_Field a0.vFields y1_0).vAt < (-2147483648)))) || (decide ((rd z_api_Field a0.vFields y1_0).vAt > 2147483647)))) == false)) && ((a0.vKind == 4) == true)) (Value.bool (decide ((rd z_api_Field a0.vFields y1_0).vType < 0))), gv (((true && (((a0.vKind == 5) && ((((rd z_api_Field a0.vFields y1_0).vType != 0) || (decide ((rd z_api_Field a0.vFields y1_0).vAt < (-2147483648)))) || (decide ((rd z_api_Field a0.vFields y1_0).vAt > 2147483647)))) == false)) && ((a0.vKind == 4) == true)) && ((decide ((rd z_api_Field a0.vFields y1_0).vType < 0)) == false)) (Value.pointer (some ⟨b5, 1, none⟩)), gv (((true && (((a0.vKind == 5) && ((((rd z_api_Field a0.vFields y1_0).vType != 0) || (decide ((rd z_api_Field a0.vFields y1_0).vAt < (-2147483648)))) || (decide ((rd z_api_Field a0.vFields y1_0).vAt > 2147483647)))) == false)) && ((a0.vKind == 4) == true)) && ((decide ((rd z_api_Field a0.vFields y1_0).vType < 0)) == false)) (Value.int .i64 ((rd z_api_Field a0.vFields y1_0).vType)), gv (((true && (((a0.vKind == 5) && ((((rd z_api_Field a0.vFields y1_0).vType != 0) || (decide ((rd z_api_Field a0.vFields y1_0).vAt < (-2147483648)))) || (decide ((rd z_api_Field a0.vFields y1_0).vAt > 2147483647)))) == false)) && ((a0.vKind == 4) == true)) && ((decide ((rd z_api_Field a0.vFields y1_0).vType < 0)) == false)) (Value.int .i64 a1), gv (((true && (((a0.vKind == 5) && ((((rd z_api_Field a0.vFields y1_0).vType != 0) || (decide ((rd z_api_Field a0.vFields y1_0).vAt < (-2147483648)))) || (decide ((rd z_api_Field a0.vFields y1_0).vAt > 2147483647)))) == false)) && ((a0.vKind == 4) == true)) && ((decide ((rd z_api_Field a0.vFields y1_0).vType < 0)) == false)) (Value.bool (decide ((rd z_api_Field a0.vFields y1_0).vType ≥ a1))), gv ((true && (((a0.vKind == 5) && ((((rd z_api_Field a0.vFields y1_0).vType != 0) || (decide ((rd z_api_Field a0.vFields y1_0).vAt < (-2147483648)))) || (decide ((rd z_api_Field a0.vFields y1_0).vAt > 2147483647)))) == false)) && ((a0.vKind == 4) == true)) (Value.bool ((decide ((rd z_api_Field a0.vFields y1_0).vType < 0)) || (decide ((rd z_api_Field a0.vFields y1_0).vType ≥ a1)))), gv (true && (((a0.vKind == 5) && ((((rd z_api_Field a0.vFields y1_0).vType != 0) || (decide ((rd z_api_Field a0.vFields y1_0).vAt < (-2147483648)))) || (decide ((rd z_api_Field a0.vFields y1_0).vAt > 2147483647)))) == false)) (Value.bool ((a0.vKind == 4) && ((decide ((rd z_api_Field a0.vFields y1_0).vType < 0)) || (decide ((rd z_api_Field a0.vFields y1_0).vType ≥ a1))))), Value.bool (((a0.vKind == 5) && ((((rd z_api_Field a0.vFields y1_0).vType != 0) || (decide ((rd z_api_Field a0.vFields y1_0).vAt < (-2147483648)))) || (decide ((rd z_api_Field a0.vFields y1_0).vAt > 2147483647)))) || ((a0.vKind == 4) && ((decide ((rd z_api_Field a0.vFields y1_0).vType < 0)) || (decide ((rd z_api_Field a0.vFields y1_0).vType ≥ a1))))), Value.int .i64 (IntKind.wrap .i64 (y1_0 + 1))] (Nat.lt_succ_self m) (by simp only [patch, List.set_cons_zero, List.set_cons_succ]) ⟨(IntKind.wrap .i64 (y1_0 + 1)), (mput strEq y1_1 ((rd z_api_Field a0.vFields y1_0).vName) true), es2, cl2, _, _, _, _, _, _, _, _, _, _, _, _, _, _, _, _, _, _, _, _, _, _, _, _, _, _, _, _, _, _, _, _, _, _, _, _, _, _, _, _, _, _, _, _, _, _, _, _, _, _, _, _, _, rfl, H, ho2, HS16.tail⟩
                          · replace H := of_neg H (nt c12)
                            refine wp_exit ?_
                            refine exit_then ?_
                            obtain rfl := Option.some.inj H
                            refine leave [uy1_4, uy1_9, Value.int .i64 y1_0, Value.bool (decide (y1_0 < (a0.vFields.length : Int))), uy1_115, uy1_116, uy1_117, uy1_118, uy1_119, uy1_120, uy1_121, uy1_122, uy1_123, uy1_124, uy1_125, uy1_126, uy1_127, uy1_128, uy1_129, uy1_130, uy1_131, uy1_132, uy1_133, uy1_134, uy1_135, uy1_136, uy1_137, uy1_138, uy1_139, uy1_140, uy1_141, uy1_142, uy1_143, uy1_144, uy1_145, uy1_146, uy1_147, uy1_148, uy1_149, uy1_150, uy1_151, uy1_152, uy1_153, uy1_154, uy1_155, uy1_156, uy1_157, uy1_158, uy1_159, uy1_160, uy1_161, uy1_162, uy1_163, uy1_164] (by simp only [patch, List.set_cons_zero, List.set_cons_succ]) ⟨_, rfl, esy1_1, cly1_1, _, _, _, _, _, _, _, _, _, _, _, _, _, _, _, _, _, _, _, _, _, _, _, _, _, _, _, _, _, _, _, _, _, _, _, _, _, _, _, _, _, _, _, _, _, _, _, _, _, _, _, _, _, _, rfl, hoy1_1, HS12⟩
                      · rintro us w17 ⟨s1, rfl, eso1_0, clo1_0, uo1_4, uo1_9, uo1_113, uo1_114, uo1_115, uo1_116, uo1_117, uo1_118, uo1_119, uo1_120, uo1_121, uo1_122, uo1_123, uo1_124, uo1_125, uo1_126, uo1_127, uo1_128, uo1_129, uo1_130, uo1_131, uo1_132, uo1_133, uo1_134, uo1_135, uo1_136, uo1_137, uo1_138, uo1_139, uo1_140, uo1_141, uo1_142, uo1_143, uo1_144, uo1_145, uo1_146, uo1_147, uo1_148, uo1_149, uo1_150, uo1_151, uo1_152, uo1_153, uo1_154, uo1_155, uo1_156, uo1_157, uo1_158, uo1_159, uo1_160, uo1_161, uo1_162, uo1_163, uo1_164, rfl, hoo1_0, HS17⟩
                        replace H := G6
                        clear G6
                        try simp only [patch, List.set_cons_zero, List.set_cons_succ]
                        refine norm_then ?_
                        refine wp_seq ?_
                        refine region ?_
                        refine run_same (v := Value.bool true) rfl rfl (r_assign rfl) ?_
                        try simp only [List.set_cons_zero, List.set_cons_succ]
                        refine run_nil ?_
                        refine norm_then ?_
                        refine wp_ret ?_
                        obtain rfl := Option.some.inj H
                        refine bodyPost_ret (results_1 rfl (one_tmp rfl)) rfl ?_
                        exact ⟨rfl, HS17.toE⟩

end Go.Proofs.YtfjppgobidjndaaDoor
namespace Go.Proofs.YtfjppgobidjndaaDoor
open Go.RowKit Go.M
def slices_IndexFunc_api_Def_api_Def.l0 (a0 : List api_Def) (a1 : (api_Def → Option Bool)) : Nat → Int → Option ((Int) ⊕ (Unit))
  | 0, _ => none
  | m + 1, y1_0 => if (decide (y1_0 < (a0.length : Int))) = true then (if 0 ≤ y1_0 ∧ y1_0 < a0.length then ((a1 (rd z_api_Def a0 y1_0)).bind fun v1 => (if v1 = true then (some (.inl y1_0)) else (slices_IndexFunc_api_Def_api_Def.l0 a0 a1 m (IntKind.wrap .i64 (y1_0 + 1))))) else none) else (some (.inr ()))
def slices_IndexFunc_api_Def_api_Def.f (k : Nat) (a0 : List api_Def) (a1 : api_Def → Option Bool) : Option (Int) := (slices_IndexFunc_api_Def_api_Def.l0 a0 a1 k 0).bind fun xx1 => (match xx1 with | .inl r => some r | .inr s1 => some (-1))
set_option maxRecDepth 20000 in
set_option maxHeartbeats 4000000 in
theorem slices_IndexFunc_api_Def_api_Def.calls (k : Nat) (a0 : List api_Def) (a1 : api_Def → Option Bool) (A0_0 : Option Addr) (c0_0 : Nat) (fid1 : Nat) (cap1 : List Value) {h0 : View} {w0 : World} (hv : Sees h0 w0) (hr0_0 : Rd k_api_Def h0 A0_0 a0) (hc0_0 : a0.length ≤ c0_0) (hent1 : ∀ args w, (callFunc fid1 args).run Tryd.prog w = .ok (.enter fid1 args) w) (hfp1 : ∀ (z0 : api_Def) (Az0_6 : Option Addr) (cz0_6 : Nat) (h : View) (w : World), Ext w0 w → Sub h0 h → Sees h w → Rd k_api_Field h Az0_6 z0.vFields → z0.vFields.length ≤ cz0_6 → ∀ (r : Bool), a1 z0 = some r → Calls Tryd.prog fid1 ([Value.agg #[Value.int .i64 z0.vKind, Value.string z0.vName, Value.int .i64 z0.vInt.vSize, Value.bool z0.vInt.vSigned, Value.int .i64 z0.vRef, Value.int .i64 z0.vN, Value.slice Az0_6 z0.vFields.length cz0_6]] ++ cap1).toArray w (fun e w1 => e = .returned (Value.bool r) ∧ Ext w w1)) {r : Int} (H : slices_IndexFunc_api_Def_api_Def.f k a0 a1 = some r) : Calls Tryd.prog 100 #[Value.slice A0_0 a0.length c0_0, Value.func (.func fid1) #[] cap1.toArray] w0 (fun e w1 => e = .returned (Value.int .i64 r) ∧ Ext w0 w1) := by
  unfold slices_IndexFunc_api_Def_api_Def.f at H
  have HS : St [] h0 w0 h0 [] w0 := St.init hv
  go_enter Tryd.func100, Tryd.ntmps100
  refine wp_seq ?_
  refine region ?_
  refine run_same (v := Value.int .i64 0) rfl rfl (r_assign rfl) ?_
  try simp only [List.set_cons_zero, List.set_cons_succ]
  refine run_nil ?_
  refine norm_then ?_
  refine wp_seq ?_
  refine wp_seq ?_
  refine region ?_
  refine run_same (v := Value.slice A0_0 a0.length c0_0) rfl rfl (r_move rfl) ?_
  refine run_same (v := Value.int .i64 (a0.length : Int)) rfl rfl (r_len rfl Tryd.runUnderlying22) ?_
  refine run_same (v := Value.int .i64 0) rfl rfl (r_move rfl) ?_
  try simp only [List.set_cons_zero, List.set_cons_succ]
  refine run_nil ?_
  refine norm_then ?_
  obtain ⟨xx1, H, G1⟩ := of_bind H
  refine loop_patch [4, 5, 8, 9, 10, 11, 12, 13, 14, 15, 16, 17, 18] (fun m us w' => ∃ (y1_0 : Int), ∃ (uy1_4 : Value), ∃ (uy1_5 : Value), ∃ (uy1_9 : Value), ∃ (uy1_10 : Value), ∃ (uy1_11 : Value), ∃ (uy1_12 : Value), ∃ (uy1_13 : Value), ∃ (uy1_14 : Value), ∃ (uy1_15 : Value), ∃ (uy1_16 : Value), ∃ (uy1_17 : Value), ∃ (uy1_18 : Value), us = [uy1_4, uy1_5, Value.int .i64 y1_0, uy1_9, uy1_10, uy1_11, uy1_12, uy1_13, uy1_14, uy1_15, uy1_16, uy1_17, uy1_18] ∧ slices_IndexFunc_api_Def_api_Def.l0 a0 a1 m y1_0 = some xx1 ∧ St [] h0 w0 h0 [] w') (fun us w' => ∃ (s1 : Unit), xx1 = .inr s1 ∧ ∃ (uo1_4 : Value), ∃ (uo1_5 : Value), ∃ (uo1_8 : Value), ∃ (uo1_9 : Value), ∃ (uo1_10 : Value), ∃ (uo1_11 : Value), ∃ (uo1_12 : Value), ∃ (uo1_13 : Value), ∃ (uo1_14 : Value), ∃ (uo1_15 : Value), ∃ (uo1_16 : Value), ∃ (uo1_17 : Value), ∃ (uo1_18 : Value), us = [uo1_4, uo1_5, uo1_8, uo1_9, uo1_10, uo1_11, uo1_12, uo1_13, uo1_14, uo1_15, uo1_16, uo1_17, uo1_18] ∧ St [] h0 w0 h0 [] w') k [Value.int .i64 0, undef, Value.int .i64 0, undef, undef, undef, undef, undef, undef, undef, undef, undef, undef] (by simp only [patch, List.set_cons_zero, List.set_cons_succ]) ⟨0, _, _, _, _, _, _, _, _, _, _, _, _, rfl, H, HS⟩ ?_ ?_
  · rintro m us w1 ⟨y1_0, uy1_4, uy1_5, uy1_9, uy1_10, uy1_11, uy1_12, uy1_13, uy1_14, uy1_15, uy1_16, uy1_17, uy1_18, rfl, H, HS1⟩
    cases m with
    | zero => exact absurd H (by simp [slices_IndexFunc_api_Def_api_Def.l0])
    | succ m =>
      rw [slices_IndexFunc_api_Def_api_Def.l0] at H
      try simp only [patch, List.set_cons_zero, List.set_cons_succ]
      refine wp_seq ?_
      refine region ?_
      refine run_same (v := Value.bool (decide (y1_0 < (a0.length : Int)))) rfl rfl (r_bin rfl rfl rfl) ?_
      try simp only [List.set_cons_zero, List.set_cons_succ]
      refine run_nil ?_
      refine norm_then ?_
      refine wp_seq ?_
      refine wp_cond_split (t := (decide (y1_0 < (a0.length : Int)))) rfl (fun c1 => ?_) (fun c1 => ?_)
      · replace H := of_pos H c1
        refine wp_skip ?_
        refine norm_then ?_
        refine wp_seq ?_
        refine wp_block ?_
        refine wp_seq ?_
        refine region ?_
        refine run_same (v := Value.int .i64 y1_0) rfl rfl (r_move rfl) ?_
        refine run_same (v := Value.int .i64 y1_0) rfl rfl (r_assign rfl) ?_
        try simp only [List.set_cons_zero, List.set_cons_succ]
        refine run_nil ?_
        refine norm_then ?_
        refine wp_seq ?_
        refine region ?_
        refine run_same (v := Value.func (.func fid1) #[] cap1.toArray) rfl rfl (r_move rfl) ?_
        refine run_same (v := Value.slice A0_0 a0.length c0_0) rfl rfl (r_move rfl) ?_
        refine run_same (v := Value.int .i64 y1_0) rfl rfl (r_move rfl) ?_
        obtain ⟨hi1, H⟩ := of_ite H
        obtain ⟨ad1, Aad1_6, cad1_6, e1, hel1, hcad1_6, hrad1_6⟩ := ld_api_Def hr0_0 hi1.1 hi1.2
        refine run_same (v := Value.pointer (some (Addr.add ad1 (y1_0.toNat * 7)))) rfl rfl (r_indexA (sz := 7) rfl e1 rfl hi1.1 hi1.2 Tryd.runUnderlying22 Tryd.sizeOf34) ?_
        refine run_frame (by simp only [List.set_cons_zero, List.set_cons_succ]; rfl) ?_
        refine run_same (v := Value.agg #[Value.int .i64 ((rd z_api_Def a0 y1_0).vKind), Value.string ((rd z_api_Def a0 y1_0).vName), Value.int .i64 ((rd z_api_Def a0 y1_0).vInt.vSize), Value.bool ((rd z_api_Def a0 y1_0).vInt.vSigned), Value.int .i64 ((rd z_api_Def a0 y1_0).vRef), Value.int .i64 ((rd z_api_Def a0 y1_0).vN), Value.slice Aad1_6 ((rd z_api_Def a0 y1_0).vFields).length cad1_6]) rfl rfl (r_loadAgg rfl Tryd.isAgg34 (hel1.sees HS1.sees) Tryd.sizeOf34) ?_
        obtain ⟨v1, H1, H⟩ := of_bind H
        refine run_eq (v := Value.bool v1) rfl rfl (does_callv (vs := [Value.agg #[Value.int .i64 ((rd z_api_Def a0 y1_0).vKind), Value.string ((rd z_api_Def a0 y1_0).vName), Value.int .i64 ((rd z_api_Def a0 y1_0).vInt.vSize), Value.bool ((rd z_api_Def a0 y1_0).vInt.vSigned), Value.int .i64 ((rd z_api_Def a0 y1_0).vRef), Value.int .i64 ((rd z_api_Def a0 y1_0).vN), Value.slice Aad1_6 ((rd z_api_Def a0 y1_0).vFields).length cad1_6]]) (caps := cap1) hent1 rfl rfl (hfp1 (rd z_api_Def a0 y1_0) Aad1_6 cad1_6 _ _ HS1.toE HS1.sub HS1.sees hrad1_6 hcad1_6 _ H1)) ?_
        intro w2 hE1
        have HS2 := HS1.step hE1
        try simp only [List.set_cons_zero, List.set_cons_succ]
        refine run_nil ?_
        refine norm_then ?_
        refine wp_cond_split (t := v1) rfl (fun c2 => ?_) (fun c2 => ?_)
        · replace H := of_pos H c2
          refine wp_seq ?_
          refine region ?_
          refine run_same (v := Value.int .i64 y1_0) rfl rfl (r_move rfl) ?_
          refine run_same (v := Value.int .i64 y1_0) rfl rfl (r_assign rfl) ?_
          try simp only [List.set_cons_zero, List.set_cons_succ]
          refine run_nil ?_
          refine norm_then ?_
          refine wp_ret ?_
          refine ret_block ?_
          refine ret_then ?_
          refine ret_loop ?_
          refine ret_then ?_
          obtain rfl := Option.some.inj H
          obtain rfl := Option.some.inj G1
          refine bodyPost_ret (results_1 rfl (one_tmp rfl)) rfl ?_
          exact ⟨rfl, HS2.toE⟩
        · replace H := of_neg H (nt c2)
          refine wp_skip ?_
          refine norm_block ?_
          refine norm_then ?_
          refine region ?_
          refine run_same (v := Value.int .i64 (IntKind.wrap .i64 (y1_0 + 1))) rfl rfl (r_bin rfl rfl rfl) ?_
          refine run_same (v := Value.int .i64 (IntKind.wrap .i64 (y1_0 + 1))) rfl rfl (r_move rfl) ?_
          try simp only [List.set_cons_zero, List.set_cons_succ]
          refine run_nil ?_
          refine again m [uy1_4, Value.int .i64 y1_0, Value.int .i64 (IntKind.wrap .i64 (y1_0 + 1)), Value.bool (decide (y1_0 < (a0.length : Int))), Value.int .i64 y1_0, Value.func (.func fid1) #[] cap1.toArray, Value.slice A0_0 a0.length c0_0, Value.int .i64 y1_0, Value.pointer (some (Addr.add ad1 (y1_0.toNat * 7))), Value.agg #[Value.int .i64 ((rd z_api_Def a0 y1_0).vKind), Value.string ((rd z_api_Def a0 y1_0).vName), Value.int .i64 ((rd z_api_Def a0 y1_0).vInt.vSize), Value.bool ((rd z_api_Def a0 y1_0).vInt.vSigned), Value.int .i64 ((rd z_api_Def a0 y1_0).vRef), Value.int .i64 ((rd z_api_Def a0 y1_0).vN), Value.slice Aad1_6 ((rd z_api_Def a0 y1_0).vFields).length cad1_6], Value.bool v1, uy1_17, Value.int .i64 (IntKind.wrap .i64 (y1_0 + 1))] (Nat.lt_succ_self m) (by simp only [patch, List.set_cons_zero, List.set_cons_succ]) ⟨(IntKind.wrap .i64 (y1_0 + 1)), _, _, _, _, _, _, _, _, _, _, _, _, rfl, H, HS2⟩
      · replace H := of_neg H (nt c1)
        refine wp_exit ?_
        refine exit_then ?_
        obtain rfl := Option.some.inj H
        refine leave [uy1_4, uy1_5, Value.int .i64 y1_0, Value.bool (decide (y1_0 < (a0.length : Int))), uy1_10, uy1_11, uy1_12, uy1_13, uy1_14, uy1_15, uy1_16, uy1_17, uy1_18] (by simp only [patch, List.set_cons_zero, List.set_cons_succ]) ⟨_, rfl, _, _, _, _, _, _, _, _, _, _, _, _, _, rfl, HS1⟩
  · rintro us w3 ⟨s1, rfl, uo1_4, uo1_5, uo1_8, uo1_9, uo1_10, uo1_11, uo1_12, uo1_13, uo1_14, uo1_15, uo1_16, uo1_17, uo1_18, rfl, HS3⟩
    replace H := G1
    clear G1
    try simp only [patch, List.set_cons_zero, List.set_cons_succ]
    refine norm_then ?_
    refine wp_seq ?_
    refine region ?_
    refine run_same (v := Value.int .i64 (-1)) rfl rfl (r_assign rfl) ?_
    try simp only [List.set_cons_zero, List.set_cons_succ]
    refine run_nil ?_
    refine norm_then ?_
    refine wp_ret ?_
    obtain rfl := Option.some.inj H
    refine bodyPost_ret (results_1 rfl (one_tmp rfl)) rfl ?_
    exact ⟨rfl, HS3.toE⟩

end Go.Proofs.YtfjppgobidjndaaDoor
namespace Go.Proofs.YtfjppgobidjndaaDoor
open Go.RowKit Go.M
def slices_ContainsFunc_api_Def_api_Def.f (k : Nat) (a0 : List api_Def) (a1 : api_Def → Option Bool) : Option (Bool) := (slices_IndexFunc_api_Def_api_Def.f k a0 a1).bind fun v1 => (some (decide (v1 ≥ 0)))
set_option maxRecDepth 20000 in
set_option maxHeartbeats 4000000 in
theorem slices_ContainsFunc_api_Def_api_Def.calls (k : Nat) (a0 : List api_Def) (a1 : api_Def → Option Bool) (A0_0 : Option Addr) (c0_0 : Nat) (fid1 : Nat) (cap1 : List Value) {h0 : View} {w0 : World} (hv : Sees h0 w0) (hr0_0 : Rd k_api_Def h0 A0_0 a0) (hc0_0 : a0.length ≤ c0_0) (hent1 : ∀ args w, (callFunc fid1 args).run Tryd.prog w = .ok (.enter fid1 args) w) (hfp1 : ∀ (z0 : api_Def) (Az0_6 : Option Addr) (cz0_6 : Nat) (h : View) (w : World), Ext w0 w → Sub h0 h → Sees h w → Rd k_api_Field h Az0_6 z0.vFields → z0.vFields.length ≤ cz0_6 → ∀ (r : Bool), a1 z0 = some r → Calls Tryd.prog fid1 ([Value.agg #[Value.int .i64 z0.vKind, Value.string z0.vName, Value.int .i64 z0.vInt.vSize, Value.bool z0.vInt.vSigned, Value.int .i64 z0.vRef, Value.int .i64 z0.vN, Value.slice Az0_6 z0.vFields.length cz0_6]] ++ cap1).toArray w (fun e w1 => e = .returned (Value.bool r) ∧ Ext w w1)) {r : Bool} (H : slices_ContainsFunc_api_Def_api_Def.f k a0 a1 = some r) : Calls Tryd.prog 91 #[Value.slice A0_0 a0.length c0_0, Value.func (.func fid1) #[] cap1.toArray] w0 (fun e w1 => e = .returned (Value.bool r) ∧ Ext w0 w1) := by
  unfold slices_ContainsFunc_api_Def_api_Def.f at H
  have HS : St [] h0 w0 h0 [] w0 := St.init hv
  go_enter Tryd.func91, Tryd.ntmps91
  refine wp_seq ?_
  refine region ?_
  refine run_same (v := Value.bool false) rfl rfl (r_assign rfl) ?_
  try simp only [List.set_cons_zero, List.set_cons_succ]
  refine run_nil ?_
  refine norm_then ?_
  refine wp_seq ?_
  refine region ?_
  refine run_same (v := Value.slice A0_0 a0.length c0_0) rfl rfl (r_move rfl) ?_
  refine run_same (v := Value.func (.func fid1) #[] cap1.toArray) rfl rfl (r_move rfl) ?_
  obtain ⟨v1, H1, H⟩ := of_bind H
  refine run_eq (v := Value.int .i64 v1) rfl rfl (does_call_eq Tryd.call100 rfl rfl (slices_IndexFunc_api_Def_api_Def.calls k a0 a1 A0_0 c0_0 fid1 cap1 HS.sees hr0_0 hc0_0 hent1 (fun z0 Az0_6 cz0_6 h w hE hs hv hz0_6 hzc0_6 r H => hfp1 z0 Az0_6 cz0_6 h w (HS.toE.then hE) (HS.sub.then hs) hv hz0_6 hzc0_6 r H) H1)) ?_
  intro w1 hE1
  have HS1 := HS.step hE1
  refine run_same (v := Value.bool (decide (v1 ≥ 0))) rfl rfl (r_bin rfl rfl rfl) ?_
  refine run_frame (by simp only [List.set_cons_zero, List.set_cons_succ]; rfl) ?_
  refine run_same (v := Value.bool (decide (v1 ≥ 0))) rfl rfl (r_assign rfl) ?_
  try simp only [List.set_cons_zero, List.set_cons_succ]
  refine run_nil ?_
  refine norm_then ?_
  refine wp_ret ?_
  obtain rfl := Option.some.inj H
  refine bodyPost_ret (results_1 rfl (one_tmp rfl)) rfl ?_
  exact ⟨rfl, HS1.toE⟩

end Go.Proofs.YtfjppgobidjndaaDoor
namespace Go.Proofs.YtfjppgobidjndaaDoor
open Go.RowKit Go.M
def ctf_ends_1.l0 (x0 : api_Types) : Nat → Int → Int → ByteArray → Int → Bool → Int → Int → (List api_Field) → Option ((Bool) ⊕ (Int × ByteArray × Int × Bool × Int × Int × (List api_Field)))
  | 0, _, _, _, _, _, _, _, _ => none
  | m + 1, y1_0, y1_1, y1_2, y1_3, y1_4, y1_5, y1_6, y1_7 => if (decide (y1_0 < (x0.vDefs.length : Int))) = true then ((ctf_named.f (⟨y1_1, y1_2, (⟨y1_3, y1_4⟩ : api_Int), y1_5, y1_6, y1_7⟩ : api_Def)).bind fun v1 => (if v1 = true then (some (.inl false)) else (if 0 ≤ y1_5 ∧ y1_5 < x0.vDefs.length then (ctf_ends_1.l0 x0 m (IntKind.wrap .i64 (y1_0 + 1)) ((rd z_api_Def x0.vDefs y1_5).vKind) ((rd z_api_Def x0.vDefs y1_5).vName) ((rd z_api_Def x0.vDefs y1_5).vInt.vSize) ((rd z_api_Def x0.vDefs y1_5).vInt.vSigned) ((rd z_api_Def x0.vDefs y1_5).vRef) ((rd z_api_Def x0.vDefs y1_5).vN) ((rd z_api_Def x0.vDefs y1_5).vFields)) else none))) else (some (.inr (y1_1, y1_2, y1_3, y1_4, y1_5, y1_6, y1_7)))
def ctf_ends_1.f (k : Nat) (a0 : api_Def) (x0 : api_Types) : Option (Bool) := (ctf_ends_1.l0 x0 k 0 a0.vKind a0.vName a0.vInt.vSize a0.vInt.vSigned a0.vRef a0.vN a0.vFields).bind fun xx1 => (match xx1 with | .inl r => some r | .inr s1 => (ctf_named.f (⟨s1.1, s1.2.1, (⟨s1.2.2.1, s1.2.2.2.1⟩ : api_Int), s1.2.2.2.2.1, s1.2.2.2.2.2.1, s1.2.2.2.2.2.2⟩ : api_Def)).bind fun v2 => (some (!v2)))
set_option maxRecDepth 20000 in
set_option maxHeartbeats 4000000 in
theorem ctf_ends_1.calls (k : Nat) (a0 : api_Def) (x0 : api_Types) (A0_6 : Option Addr) (c0_6 : Nat) (bx0 : Nat) (Ax0_0 : Option Addr) (cx0_0 : Nat) {h0 : View} {w0 : World} (hv : Sees h0 w0) (hr0_6 : Rd k_api_Field h0 A0_6 a0.vFields) (hc0_6 : a0.vFields.length ≤ c0_6) (hrx0_0 : Rd k_api_Def h0 Ax0_0 x0.vDefs) (hcx0_0 : x0.vDefs.length ≤ cx0_0) (hx0 : w0.heap[bx0]? = some (.cells #[Value.slice Ax0_0 x0.vDefs.length cx0_0] 24 (0, 0))) {r : Bool} (H : ctf_ends_1.f k a0 x0 = some r) : Calls Tryd.prog 120 #[Value.agg #[Value.int .i64 a0.vKind, Value.string a0.vName, Value.int .i64 a0.vInt.vSize, Value.bool a0.vInt.vSigned, Value.int .i64 a0.vRef, Value.int .i64 a0.vN, Value.slice A0_6 a0.vFields.length c0_6], Value.pointer (some ⟨bx0, 0, none⟩)] w0 (fun e w1 => e = .returned (Value.bool r) ∧ Ext w0 w1) := by
  unfold ctf_ends_1.f at H
  have HS : St [] h0 w0 h0 [] w0 := St.init hv
  go_enter Tryd.func120, Tryd.ntmps120
  refine wp_seq ?_
  refine region ?_
  refine run_ex rfl rfl (does_box (cs := #[Value.int .i64 a0.vKind, Value.string a0.vName, Value.int .i64 a0.vInt.vSize, Value.bool a0.vInt.vSigned, Value.int .i64 a0.vRef, Value.int .i64 a0.vN, Value.slice A0_6 a0.vFields.length c0_6]) rfl rfl) ?_
  rintro w1 _ hE1 ⟨b1, rfl, ge1, hb1⟩
  have HS1 := HS.new hE1 ge1 hb1
  refine run_same (v := Value.bool false) rfl rfl (r_assign rfl) ?_
  try simp only [List.set_cons_zero, List.set_cons_succ]
  refine run_nil ?_
  refine norm_then ?_
  refine wp_seq ?_
  refine wp_seq ?_
  refine region ?_
  refine run_same (v := Value.pointer (some ⟨bx0, 0, none⟩)) rfl rfl (r_fieldBox (n := 1) (o' := 0) rfl Tryd.runUnderlying24 rfl Tryd.sizeOf22 (by decide) rfl) ?_
  refine run_same (v := Value.slice Ax0_0 x0.vDefs.length cx0_0) rfl rfl (r_loadBox rfl Tryd.isAgg22 (heap_ext hx0 HS1.toE) rfl) ?_
  refine run_same (v := Value.int .i64 (x0.vDefs.length : Int)) rfl rfl (r_len rfl Tryd.runUnderlying22) ?_
  refine run_same (v := Value.int .i64 0) rfl rfl (r_move rfl) ?_
  try simp only [List.set_cons_zero, List.set_cons_succ]
  refine run_nil ?_
  refine norm_then ?_
  obtain ⟨xx1, H, G1⟩ := of_bind H
  refine loop_patch [3, 7, 8, 9, 10, 11, 12, 13, 14, 15, 16, 17] (fun m us w' => ∃ (y1_0 : Int), ∃ (y1_1 : Int), ∃ (y1_2 : ByteArray), ∃ (y1_3 : Int), ∃ (y1_4 : Bool), ∃ (y1_5 : Int), ∃ (y1_6 : Int), ∃ (y1_7 : List api_Field), ∃ (Ay1_7 : Option Addr) (cy1_7 : Nat), ∃ (uy1_3 : Value), ∃ (uy1_8 : Value), ∃ (uy1_9 : Value), ∃ (uy1_10 : Value), ∃ (uy1_11 : Value), ∃ (uy1_12 : Value), ∃ (uy1_13 : Value), ∃ (uy1_14 : Value), ∃ (uy1_15 : Value), ∃ (uy1_16 : Value), ∃ (uy1_17 : Value), us = [uy1_3, Value.int .i64 y1_0, uy1_8, uy1_9, uy1_10, uy1_11, uy1_12, uy1_13, uy1_14, uy1_15, uy1_16, uy1_17] ∧ ctf_ends_1.l0 x0 m y1_0 y1_1 y1_2 y1_3 y1_4 y1_5 y1_6 y1_7 = some xx1 ∧ y1_7.length ≤ cy1_7 ∧ Rd k_api_Field h0 Ay1_7 y1_7 ∧ St [] h0 w0 h0 [(some b1, .cells #[Value.int .i64 y1_1, Value.string y1_2, Value.int .i64 y1_3, Value.bool y1_4, Value.int .i64 y1_5, Value.int .i64 y1_6, Value.slice Ay1_7 y1_7.length cy1_7] 34 (0, 0))] w') (fun us w' => ∃ (s1 : Int × ByteArray × Int × Bool × Int × Int × (List api_Field)), xx1 = .inr s1 ∧ ∃ (Ao1_6 : Option Addr) (co1_6 : Nat), ∃ (uo1_3 : Value), ∃ (uo1_7 : Value), ∃ (uo1_8 : Value), ∃ (uo1_9 : Value), ∃ (uo1_10 : Value), ∃ (uo1_11 : Value), ∃ (uo1_12 : Value), ∃ (uo1_13 : Value), ∃ (uo1_14 : Value), ∃ (uo1_15 : Value), ∃ (uo1_16 : Value), ∃ (uo1_17 : Value), us = [uo1_3, uo1_7, uo1_8, uo1_9, uo1_10, uo1_11, uo1_12, uo1_13, uo1_14, uo1_15, uo1_16, uo1_17] ∧ s1.2.2.2.2.2.2.length ≤ co1_6 ∧ Rd k_api_Field h0 Ao1_6 s1.2.2.2.2.2.2 ∧ St [] h0 w0 h0 [(some b1, .cells #[Value.int .i64 s1.1, Value.string s1.2.1, Value.int .i64 s1.2.2.1, Value.bool s1.2.2.2.1, Value.int .i64 s1.2.2.2.2.1, Value.int .i64 s1.2.2.2.2.2.1, Value.slice Ao1_6 s1.2.2.2.2.2.2.length co1_6] 34 (0, 0))] w') k [Value.bool false, Value.int .i64 0, undef, undef, undef, undef, undef, undef, undef, undef, undef, undef] (by simp only [patch, List.set_cons_zero, List.set_cons_succ]) ⟨0, a0.vKind, a0.vName, a0.vInt.vSize, a0.vInt.vSigned, a0.vRef, a0.vN, a0.vFields, A0_6, c0_6, _, _, _, _, _, _, _, _, _, _, _, rfl, H, hc0_6, hr0_6, HS1⟩ ?_ ?_
  · rintro m us w2 ⟨y1_0, y1_1, y1_2, y1_3, y1_4, y1_5, y1_6, y1_7, Ay1_7, cy1_7, uy1_3, uy1_8, uy1_9, uy1_10, uy1_11, uy1_12, uy1_13, uy1_14, uy1_15, uy1_16, uy1_17, rfl, H, hcy1_7, hry1_7, HS2⟩
    cases m with
    | zero => exact absurd H (by simp [ctf_ends_1.l0])
    | succ m =>
      rw [ctf_ends_1.l0] at H
      try simp only [patch, List.set_cons_zero, List.set_cons_succ]
      refine wp_seq ?_
      refine region ?_
      refine run_same (v := Value.bool (decide (y1_0 < (x0.vDefs.length : Int)))) rfl rfl (r_bin rfl rfl rfl) ?_
      try simp only [List.set_cons_zero, List.set_cons_succ]
      refine run_nil ?_
      refine norm_then ?_
      refine wp_seq ?_
      refine wp_cond_split (t := (decide (y1_0 < (x0.vDefs.length : Int)))) rfl (fun c1 => ?_) (fun c1 => ?_)
      · replace H := of_pos H c1
        refine wp_skip ?_
        refine norm_then ?_
        refine wp_seq ?_
        refine wp_block ?_
        refine wp_seq ?_
        refine wp_seq ?_
        refine region ?_
        refine run_same (v := Value.agg #[Value.int .i64 y1_1, Value.string y1_2, Value.int .i64 y1_3, Value.bool y1_4, Value.int .i64 y1_5, Value.int .i64 y1_6, Value.slice Ay1_7 y1_7.length cy1_7]) rfl rfl (r_loadBoxAgg (n := 7) (vs := [Value.int .i64 y1_1, Value.string y1_2, Value.int .i64 y1_3, Value.bool y1_4, Value.int .i64 y1_5, Value.int .i64 y1_6, Value.slice Ay1_7 y1_7.length cy1_7]) rfl Tryd.isAgg34 (HS2.look 0 rfl) Tryd.sizeOf34 rfl rfl) ?_
        obtain ⟨v1, H1, H⟩ := of_bind H
        refine run_eq (v := Value.bool v1) rfl rfl (does_call_eq Tryd.call68 rfl rfl (ctf_named.calls (⟨y1_1, y1_2, (⟨y1_3, y1_4⟩ : api_Int), y1_5, y1_6, y1_7⟩ : api_Def) Ay1_7 cy1_7 HS2.sees hry1_7 hcy1_7 H1)) ?_
        intro w3 hE2
        have HS3 := HS2.step hE2
        try simp only [List.set_cons_zero, List.set_cons_succ]
        refine run_nil ?_
        refine norm_then ?_
        refine wp_cond_split (t := v1) rfl (fun c2 => ?_) (fun c2 => ?_)
        · replace H := of_pos H c2
          refine wp_seq ?_
          refine region ?_
          refine run_same (v := Value.bool false) rfl rfl (r_assign rfl) ?_
          try simp only [List.set_cons_zero, List.set_cons_succ]
          refine run_nil ?_
          refine norm_then ?_
          refine wp_ret ?_
          refine ret_then ?_
          refine ret_block ?_
          refine ret_then ?_
          refine ret_loop ?_
          refine ret_then ?_
          obtain rfl := Option.some.inj H
          obtain rfl := Option.some.inj G1
          refine bodyPost_ret (results_1 rfl (one_tmp rfl)) rfl ?_
          exact ⟨rfl, HS3.toE⟩
        · replace H := of_neg H (nt c2)
          refine wp_skip ?_
          refine norm_then ?_
          refine region ?_
          refine run_same (v := Value.pointer (some ⟨bx0, 0, none⟩)) rfl rfl (r_fieldBox (n := 1) (o' := 0) rfl Tryd.runUnderlying24 rfl Tryd.sizeOf22 (by decide) rfl) ?_
          refine run_same (v := Value.slice Ax0_0 x0.vDefs.length cx0_0) rfl rfl (r_loadBox rfl Tryd.isAgg22 (heap_ext hx0 HS3.toE) rfl) ?_
          refine run_same (v := Value.pointer (some ⟨b1, 4, none⟩)) rfl rfl (r_fieldBox (n := 1) (o' := 4) rfl Tryd.runUnderlying34 rfl Tryd.sizeOf3 (by decide) rfl) ?_
          refine run_same (v := Value.int .i64 y1_5) rfl rfl (r_loadBox rfl Tryd.isAgg3 (HS3.look 0 rfl) rfl) ?_
          refine run_frame (by simp only [List.set_cons_zero, List.set_cons_succ]; rfl) ?_
          obtain ⟨hi1, H⟩ := of_ite H
          obtain ⟨ad1, Aad1_6, cad1_6, e1, hel1, hcad1_6, hrad1_6⟩ := ld_api_Def hrx0_0 hi1.1 hi1.2
          refine run_same (v := Value.pointer (some (Addr.add ad1 (y1_5.toNat * 7)))) rfl rfl (r_indexA (sz := 7) rfl e1 rfl hi1.1 hi1.2 Tryd.runUnderlying22 Tryd.sizeOf34) ?_
          refine run_same (v := Value.agg #[Value.int .i64 ((rd z_api_Def x0.vDefs y1_5).vKind), Value.string ((rd z_api_Def x0.vDefs y1_5).vName), Value.int .i64 ((rd z_api_Def x0.vDefs y1_5).vInt.vSize), Value.bool ((rd z_api_Def x0.vDefs y1_5).vInt.vSigned), Value.int .i64 ((rd z_api_Def x0.vDefs y1_5).vRef), Value.int .i64 ((rd z_api_Def x0.vDefs y1_5).vN), Value.slice Aad1_6 ((rd z_api_Def x0.vDefs y1_5).vFields).length cad1_6]) rfl rfl (r_loadAgg rfl Tryd.isAgg34 (hel1.sees HS3.sees) Tryd.sizeOf34) ?_
          refine run_st (i := 0) (cs := [Value.int .i64 y1_1, Value.string y1_2, Value.int .i64 y1_3, Value.bool y1_4, Value.int .i64 y1_5, Value.int .i64 y1_6, Value.slice Ay1_7 y1_7.length cy1_7]) (cs' := [Value.int .i64 ((rd z_api_Def x0.vDefs y1_5).vKind), Value.string ((rd z_api_Def x0.vDefs y1_5).vName), Value.int .i64 ((rd z_api_Def x0.vDefs y1_5).vInt.vSize), Value.bool ((rd z_api_Def x0.vDefs y1_5).vInt.vSigned), Value.int .i64 ((rd z_api_Def x0.vDefs y1_5).vRef), Value.int .i64 ((rd z_api_Def x0.vDefs y1_5).vN), Value.slice Aad1_6 ((rd z_api_Def x0.vDefs y1_5).vFields).length cad1_6]) (vs := [Value.int .i64 ((rd z_api_Def x0.vDefs y1_5).vKind), Value.string ((rd z_api_Def x0.vDefs y1_5).vName), Value.int .i64 ((rd z_api_Def x0.vDefs y1_5).vInt.vSize), Value.bool ((rd z_api_Def x0.vDefs y1_5).vInt.vSigned), Value.int .i64 ((rd z_api_Def x0.vDefs y1_5).vRef), Value.int .i64 ((rd z_api_Def x0.vDefs y1_5).vN), Value.slice Aad1_6 ((rd z_api_Def x0.vDefs y1_5).vFields).length cad1_6]) (bs' := [(some b1, .cells #[Value.int .i64 ((rd z_api_Def x0.vDefs y1_5).vKind), Value.string ((rd z_api_Def x0.vDefs y1_5).vName), Value.int .i64 ((rd z_api_Def x0.vDefs y1_5).vInt.vSize), Value.bool ((rd z_api_Def x0.vDefs y1_5).vInt.vSigned), Value.int .i64 ((rd z_api_Def x0.vDefs y1_5).vRef), Value.int .i64 ((rd z_api_Def x0.vDefs y1_5).vN), Value.slice Aad1_6 ((rd z_api_Def x0.vDefs y1_5).vFields).length cad1_6] 34 (0, 0))]) rfl rfl Tryd.sizeOf34 rfl rfl (by decide) rfl HS3 rfl (Nat.le_of_ble_eq_true rfl) rfl rfl ?_
          intro w4 HS4
          try simp only [List.set_cons_zero, List.set_cons_succ]
          refine run_nil ?_
          refine norm_block ?_
          refine norm_then ?_
          refine region ?_
          refine run_same (v := Value.int .i64 (IntKind.wrap .i64 (y1_0 + 1))) rfl rfl (r_bin rfl rfl rfl) ?_
          refine run_same (v := Value.int .i64 (IntKind.wrap .i64 (y1_0 + 1))) rfl rfl (r_move rfl) ?_
          try simp only [List.set_cons_zero, List.set_cons_succ]
          refine run_nil ?_
          refine again m [uy1_3, Value.int .i64 (IntKind.wrap .i64 (y1_0 + 1)), Value.bool (decide (y1_0 < (x0.vDefs.length : Int))), Value.agg #[Value.int .i64 y1_1, Value.string y1_2, Value.int .i64 y1_3, Value.bool y1_4, Value.int .i64 y1_5, Value.int .i64 y1_6, Value.slice Ay1_7 y1_7.length cy1_7], Value.bool v1, Value.pointer (some ⟨bx0, 0, none⟩), Value.slice Ax0_0 x0.vDefs.length cx0_0, Value.pointer (some ⟨b1, 4, none⟩), Value.int .i64 y1_5, Value.pointer (some (Addr.add ad1 (y1_5.toNat * 7))), Value.agg #[Value.int .i64 ((rd z_api_Def x0.vDefs y1_5).vKind), Value.string ((rd z_api_Def x0.vDefs y1_5).vName), Value.int .i64 ((rd z_api_Def x0.vDefs y1_5).vInt.vSize), Value.bool ((rd z_api_Def x0.vDefs y1_5).vInt.vSigned), Value.int .i64 ((rd z_api_Def x0.vDefs y1_5).vRef), Value.int .i64 ((rd z_api_Def x0.vDefs y1_5).vN), Value.slice Aad1_6 ((rd z_api_Def x0.vDefs y1_5).vFields).length cad1_6], Value.int .i64 (IntKind.wrap .i64 (y1_0 + 1))] (Nat.lt_succ_self m) (by simp only [patch, List.set_cons_zero, List.set_cons_succ]) ⟨(IntKind.wrap .i64 (y1_0 + 1)), (rd z_api_Def x0.vDefs y1_5).vKind, (rd z_api_Def x0.vDefs y1_5).vName, (rd z_api_Def x0.vDefs y1_5).vInt.vSize, (rd z_api_Def x0.vDefs y1_5).vInt.vSigned, (rd z_api_Def x0.vDefs y1_5).vRef, (rd z_api_Def x0.vDefs y1_5).vN, (rd z_api_Def x0.vDefs y1_5).vFields, Aad1_6, cad1_6, _, _, _, _, _, _, _, _, _, _, _, rfl, H, hcad1_6, hrad1_6, HS4⟩
      · replace H := of_neg H (nt c1)
        refine wp_exit ?_
        refine exit_then ?_
        obtain rfl := Option.some.inj H
        refine leave [uy1_3, Value.int .i64 y1_0, Value.bool (decide (y1_0 < (x0.vDefs.length : Int))), uy1_9, uy1_10, uy1_11, uy1_12, uy1_13, uy1_14, uy1_15, uy1_16, uy1_17] (by simp only [patch, List.set_cons_zero, List.set_cons_succ]) ⟨_, rfl, Ay1_7, cy1_7, _, _, _, _, _, _, _, _, _, _, _, _, rfl, hcy1_7, hry1_7, HS2⟩
  · rintro us w5 ⟨s1, rfl, Ao1_6, co1_6, uo1_3, uo1_7, uo1_8, uo1_9, uo1_10, uo1_11, uo1_12, uo1_13, uo1_14, uo1_15, uo1_16, uo1_17, rfl, hco1_6, hro1_6, HS5⟩
    replace H := G1
    clear G1
    try simp only [patch, List.set_cons_zero, List.set_cons_succ]
    refine norm_then ?_
    refine wp_seq ?_
    refine region ?_
    refine run_same (v := Value.agg #[Value.int .i64 s1.1, Value.string s1.2.1, Value.int .i64 s1.2.2.1, Value.bool s1.2.2.2.1, Value.int .i64 s1.2.2.2.2.1, Value.int .i64 s1.2.2.2.2.2.1, Value.slice Ao1_6 s1.2.2.2.2.2.2.length co1_6]) rfl rfl (r_loadBoxAgg (n := 7) (vs := [Value.int .i64 s1.1, Value.string s1.2.1, Value.int .i64 s1.2.2.1, Value.bool s1.2.2.2.1, Value.int .i64 s1.2.2.2.2.1, Value.int .i64 s1.2.2.2.2.2.1, Value.slice Ao1_6 s1.2.2.2.2.2.2.length co1_6]) rfl Tryd.isAgg34 (HS5.look 0 rfl) Tryd.sizeOf34 rfl rfl) ?_
    obtain ⟨v2, H2, H⟩ := of_bind H
    refine run_eq (v := Value.bool v2) rfl rfl (does_call_eq Tryd.call68 rfl rfl (ctf_named.calls (⟨s1.1, s1.2.1, (⟨s1.2.2.1, s1.2.2.2.1⟩ : api_Int), s1.2.2.2.2.1, s1.2.2.2.2.2.1, s1.2.2.2.2.2.2⟩ : api_Def) Ao1_6 co1_6 HS5.sees hro1_6 hco1_6 H2)) ?_
    intro w6 hE3
    have HS6 := HS5.step hE3
    refine run_same (v := Value.bool (!v2)) rfl rfl (r_not rfl) ?_
    refine run_same (v := Value.bool (!v2)) rfl rfl (r_assign rfl) ?_
    try simp only [List.set_cons_zero, List.set_cons_succ]
    refine run_nil ?_
    refine norm_then ?_
    refine wp_ret ?_
    obtain rfl := Option.some.inj H
    refine bodyPost_ret (results_1 rfl (one_tmp rfl)) rfl ?_
    exact ⟨rfl, HS6.toE⟩

end Go.Proofs.YtfjppgobidjndaaDoor
namespace Go.Proofs.YtfjppgobidjndaaDoor
open Go.RowKit Go.M
def ctf_ends.f (k : Nat) (a0 : api_Types) : Option (Bool) := (slices_ContainsFunc_api_Def_api_Def.f k a0.vDefs (fun z0 => ctf_ends_1.f k z0 a0)).bind fun v1 => (some (!v1))
set_option maxRecDepth 20000 in
set_option maxHeartbeats 4000000 in
theorem ctf_ends.calls (k : Nat) (a0 : api_Types) (A0_0 : Option Addr) (c0_0 : Nat) {h0 : View} {w0 : World} (hv : Sees h0 w0) (hr0_0 : Rd k_api_Def h0 A0_0 a0.vDefs) (hc0_0 : a0.vDefs.length ≤ c0_0) {r : Bool} (H : ctf_ends.f k a0 = some r) : Calls Tryd.prog 90 #[Value.agg #[Value.slice A0_0 a0.vDefs.length c0_0]] w0 (fun e w1 => e = .returned (Value.bool r) ∧ Ext w0 w1) := by
  unfold ctf_ends.f at H
  have HS : St [] h0 w0 h0 [] w0 := St.init hv
  go_enter Tryd.func90, Tryd.ntmps90
  refine wp_seq ?_
  refine region ?_
  refine run_ex rfl rfl (does_box (cs := #[Value.slice A0_0 a0.vDefs.length c0_0]) rfl rfl) ?_
  rintro w1 _ hE1 ⟨b1, rfl, ge1, hb1⟩
  have HS1 := HS.new hE1 ge1 hb1
  refine run_same (v := Value.bool false) rfl rfl (r_assign rfl) ?_
  try simp only [List.set_cons_zero, List.set_cons_succ]
  refine run_nil ?_
  refine norm_then ?_
  refine wp_seq ?_
  refine region ?_
  refine run_same (v := Value.pointer (some ⟨b1, 0, none⟩)) rfl rfl (r_fieldBox (n := 1) (o' := 0) rfl Tryd.runUnderlying24 rfl Tryd.sizeOf22 (by decide) rfl) ?_
  refine run_same (v := Value.slice A0_0 a0.vDefs.length c0_0) rfl rfl (r_loadBox rfl Tryd.isAgg22 (HS1.look 0 rfl) rfl) ?_
  refine run_same (v := Value.func (.func 120) #[] #[Value.pointer (some ⟨b1, 0, none⟩)]) rfl rfl (r_makeFunc (vs := [Value.pointer (some ⟨b1, 0, none⟩)]) rfl) ?_
  obtain ⟨v1, H1, H⟩ := of_bind H
  refine run_eq (v := Value.bool v1) rfl rfl (does_call_eq Tryd.call91 rfl rfl (slices_ContainsFunc_api_Def_api_Def.calls k a0.vDefs (fun z0 => ctf_ends_1.f k z0 a0) A0_0 c0_0 120 [Value.pointer (some ⟨b1, 0, none⟩)] HS1.sees hr0_0 hc0_0 Tryd.call120 (fun z0 Az0_6 cz0_6 h w hE hs hv hz0_6 hzc0_6 r H => ctf_ends_1.calls k z0 a0 Az0_6 cz0_6 b1 A0_0 c0_0 hv hz0_6 hzc0_6 (hr0_0.ext hs) hc0_0 (heap_ext (HS1.look 0 rfl) hE) H) H1)) ?_
  intro w2 hE2
  have HS2 := HS1.step hE2
  refine run_frame (by simp only [List.set_cons_zero, List.set_cons_succ]; rfl) ?_
  refine run_same (v := Value.bool (!v1)) rfl rfl (r_not rfl) ?_
  refine run_same (v := Value.bool (!v1)) rfl rfl (r_assign rfl) ?_
  try simp only [List.set_cons_zero, List.set_cons_succ]
  refine run_nil ?_
  refine norm_then ?_
  refine wp_ret ?_
  obtain rfl := Option.some.inj H
  refine bodyPost_ret (results_1 rfl (one_tmp rfl)) rfl ?_
  exact ⟨rfl, HS2.toE⟩

end Go.Proofs.YtfjppgobidjndaaDoor
namespace Go.Proofs.YtfjppgobidjndaaDoor
open Go.RowKit Go.M
def ctf_placed.l0 (a0 : api_Def) (a1 : List Int) : Nat → Int → Int → Option ((Bool) ⊕ (Int))
  | 0, _, _ => none
  | m + 1, y1_0, y1_1 => if (decide (y1_1 < (a0.vFields.length : Int))) = true then (if 0 ≤ y1_1 ∧ y1_1 < a0.vFields.length then (if ((decide ((rd z_api_Field a0.vFields y1_1).vAt < y1_0)) || (decide ((rd z_api_Field a0.vFields y1_1).vAt > 512))) = true then (some (.inl false)) else (if 0 ≤ (rd z_api_Field a0.vFields y1_1).vType ∧ (rd z_api_Field a0.vFields y1_1).vType < a1.length then (ctf_placed.l0 a0 a1 m (IntKind.wrap .i64 ((rd z_api_Field a0.vFields y1_1).vAt + (rd 0 a1 ((rd z_api_Field a0.vFields y1_1).vType)))) (IntKind.wrap .i64 (y1_1 + 1))) else none)) else none) else (some (.inr y1_0))
def ctf_placed.f (k : Nat) (a0 : api_Def) (a1 : List Int) : Option (Bool) := (ctf_placed.l0 a0 a1 k 0 0).bind fun xx1 => (match xx1 with | .inl r => some r | .inr s1 => some (decide (s1 ≤ a0.vN)))
set_option maxRecDepth 20000 in
set_option maxHeartbeats 4000000 in
theorem ctf_placed.calls (k : Nat) (a0 : api_Def) (a1 : List Int) (A0_6 : Option Addr) (c0_6 : Nat) (A1_0 : Option Addr) (c1_0 : Nat) {h0 : View} {w0 : World} (hv : Sees h0 w0) (hr0_6 : Rd k_api_Field h0 A0_6 a0.vFields) (hc0_6 : a0.vFields.length ≤ c0_6) (hr1_0 : Rd (Kd.int .i64) h0 A1_0 a1) (hc1_0 : a1.length ≤ c1_0) {r : Bool} (H : ctf_placed.f k a0 a1 = some r) : Calls Tryd.prog 93 #[Value.agg #[Value.int .i64 a0.vKind, Value.string a0.vName, Value.int .i64 a0.vInt.vSize, Value.bool a0.vInt.vSigned, Value.int .i64 a0.vRef, Value.int .i64 a0.vN, Value.slice A0_6 a0.vFields.length c0_6], Value.slice A1_0 a1.length c1_0] w0 (fun e w1 => e = .returned (Value.bool r) ∧ Ext w0 w1) := by
  unfold ctf_placed.f at H
  have HS : St [] h0 w0 h0 [] w0 := St.init hv
  go_enter Tryd.func93, Tryd.ntmps93
  refine wp_seq ?_
  refine region ?_
  refine run_ex rfl rfl (does_box (cs := #[Value.int .i64 a0.vKind, Value.string a0.vName, Value.int .i64 a0.vInt.vSize, Value.bool a0.vInt.vSigned, Value.int .i64 a0.vRef, Value.int .i64 a0.vN, Value.slice A0_6 a0.vFields.length c0_6]) rfl rfl) ?_
  rintro w1 _ hE1 ⟨b1, rfl, ge1, hb1⟩
  have HS1 := HS.new hE1 ge1 hb1
  refine run_same (v := Value.bool false) rfl rfl (r_assign rfl) ?_
  try simp only [List.set_cons_zero, List.set_cons_succ]
  refine run_nil ?_
  refine norm_then ?_
  refine wp_seq ?_
  refine region ?_
  refine run_same (v := Value.int .i64 0) rfl rfl (r_assign rfl) ?_
  try simp only [List.set_cons_zero, List.set_cons_succ]
  refine run_nil ?_
  refine norm_then ?_
  refine wp_seq ?_
  refine wp_seq ?_
  refine region ?_
  refine run_same (v := Value.pointer (some ⟨b1, 6, none⟩)) rfl rfl (r_fieldBox (n := 1) (o' := 6) rfl Tryd.runUnderlying34 rfl Tryd.sizeOf32 (by decide) rfl) ?_
  refine run_same (v := Value.slice A0_6 a0.vFields.length c0_6) rfl rfl (r_loadBox rfl Tryd.isAgg32 (HS1.look 0 rfl) rfl) ?_
  refine run_same (v := Value.int .i64 (a0.vFields.length : Int)) rfl rfl (r_len rfl Tryd.runUnderlying32) ?_
  refine run_same (v := Value.int .i64 0) rfl rfl (r_move rfl) ?_
  try simp only [List.set_cons_zero, List.set_cons_succ]
  refine run_nil ?_
  refine norm_then ?_
  obtain ⟨xx1, H, G1⟩ := of_bind H
  refine loop_patch [4, 5, 7, 11, 12, 13, 14, 15, 16, 17, 18, 19, 20, 21, 22, 23, 24, 25, 26, 27, 28, 29, 30, 31, 32] (fun m us w' => ∃ (y1_0 : Int), ∃ (y1_1 : Int), ∃ (uy1_4 : Value), ∃ (uy1_7 : Value), ∃ (uy1_12 : Value), ∃ (uy1_13 : Value), ∃ (uy1_14 : Value), ∃ (uy1_15 : Value), ∃ (uy1_16 : Value), ∃ (uy1_17 : Value), ∃ (uy1_18 : Value), ∃ (uy1_19 : Value), ∃ (uy1_20 : Value), ∃ (uy1_21 : Value), ∃ (uy1_22 : Value), ∃ (uy1_23 : Value), ∃ (uy1_24 : Value), ∃ (uy1_25 : Value), ∃ (uy1_26 : Value), ∃ (uy1_27 : Value), ∃ (uy1_28 : Value), ∃ (uy1_29 : Value), ∃ (uy1_30 : Value), ∃ (uy1_31 : Value), ∃ (uy1_32 : Value), us = [uy1_4, Value.int .i64 y1_0, uy1_7, Value.int .i64 y1_1, uy1_12, uy1_13, uy1_14, uy1_15, uy1_16, uy1_17, uy1_18, uy1_19, uy1_20, uy1_21, uy1_22, uy1_23, uy1_24, uy1_25, uy1_26, uy1_27, uy1_28, uy1_29, uy1_30, uy1_31, uy1_32] ∧ ctf_placed.l0 a0 a1 m y1_0 y1_1 = some xx1 ∧ St [] h0 w0 h0 [(some b1, .cells #[Value.int .i64 a0.vKind, Value.string a0.vName, Value.int .i64 a0.vInt.vSize, Value.bool a0.vInt.vSigned, Value.int .i64 a0.vRef, Value.int .i64 a0.vN, Value.slice A0_6 a0.vFields.length c0_6] 34 (0, 0))] w') (fun us w' => ∃ (s1 : Int), xx1 = .inr s1 ∧ ∃ (uo1_4 : Value), ∃ (uo1_7 : Value), ∃ (uo1_11 : Value), ∃ (uo1_12 : Value), ∃ (uo1_13 : Value), ∃ (uo1_14 : Value), ∃ (uo1_15 : Value), ∃ (uo1_16 : Value), ∃ (uo1_17 : Value), ∃ (uo1_18 : Value), ∃ (uo1_19 : Value), ∃ (uo1_20 : Value), ∃ (uo1_21 : Value), ∃ (uo1_22 : Value), ∃ (uo1_23 : Value), ∃ (uo1_24 : Value), ∃ (uo1_25 : Value), ∃ (uo1_26 : Value), ∃ (uo1_27 : Value), ∃ (uo1_28 : Value), ∃ (uo1_29 : Value), ∃ (uo1_30 : Value), ∃ (uo1_31 : Value), ∃ (uo1_32 : Value), us = [uo1_4, Value.int .i64 s1, uo1_7, uo1_11, uo1_12, uo1_13, uo1_14, uo1_15, uo1_16, uo1_17, uo1_18, uo1_19, uo1_20, uo1_21, uo1_22, uo1_23, uo1_24, uo1_25, uo1_26, uo1_27, uo1_28, uo1_29, uo1_30, uo1_31, uo1_32] ∧ St [] h0 w0 h0 [(some b1, .cells #[Value.int .i64 a0.vKind, Value.string a0.vName, Value.int .i64 a0.vInt.vSize, Value.bool a0.vInt.vSigned, Value.int .i64 a0.vRef, Value.int .i64 a0.vN, Value.slice A0_6 a0.vFields.length c0_6] 34 (0, 0))] w') k [Value.bool false, Value.int .i64 0, undef, Value.int .i64 0, undef, undef, undef, undef, undef, undef, undef, undef, undef, undef, undef, undef, undef, undef, undef, undef, undef, undef, undef, undef, undef] (by simp only [patch, List.set_cons_zero, List.set_cons_succ]) ⟨0, 0, _, _, _, _, _, _, _, _, _, _, _, _, _, _, _, _, _, _, _, _, _, _, _, rfl, H, HS1⟩ ?_ ?_
  · rintro m us w2 ⟨y1_0, y1_1, uy1_4, uy1_7, uy1_12, uy1_13, uy1_14, uy1_15, uy1_16, uy1_17, uy1_18, uy1_19, uy1_20, uy1_21, uy1_22, uy1_23, uy1_24, uy1_25, uy1_26, uy1_27, uy1_28, uy1_29, uy1_30, uy1_31, uy1_32, rfl, H, HS2⟩
    cases m with
    | zero => exact absurd H (by simp [ctf_placed.l0])
    | succ m =>
      rw [ctf_placed.l0] at H
      try simp only [patch, List.set_cons_zero, List.set_cons_succ]
      refine wp_seq ?_
      refine region ?_
      refine run_same (v := Value.bool (decide (y1_1 < (a0.vFields.length : Int)))) rfl rfl (r_bin rfl rfl rfl) ?_
      try simp only [List.set_cons_zero, List.set_cons_succ]
      refine run_nil ?_
      refine norm_then ?_
      refine wp_seq ?_
      refine wp_cond_split (t := (decide (y1_1 < (a0.vFields.length : Int)))) rfl (fun c1 => ?_) (fun c1 => ?_)
      · replace H := of_pos H c1
        refine wp_skip ?_
        refine norm_then ?_
        refine wp_seq ?_
        refine wp_block ?_
        refine wp_seq ?_
        refine region ?_
        obtain ⟨hi1, H⟩ := of_ite H
        obtain ⟨ad1, e1, hel1⟩ := ld_api_Field hr0_6 hi1.1 hi1.2
        refine run_same (v := Value.pointer (some (Addr.add ad1 (y1_1.toNat * 3)))) rfl rfl (r_indexA (sz := 3) rfl e1 rfl hi1.1 hi1.2 Tryd.runUnderlying32 Tryd.sizeOf36) ?_
        refine run_same (v := Value.agg #[Value.string ((rd z_api_Field a0.vFields y1_1).vName), Value.int .i64 ((rd z_api_Field a0.vFields y1_1).vType), Value.int .i64 ((rd z_api_Field a0.vFields y1_1).vAt)]) rfl rfl (r_loadAgg rfl Tryd.isAgg36 (hel1.sees HS2.sees) Tryd.sizeOf36) ?_
        refine run_ex rfl rfl (does_alloc (cs := #[Value.string ByteArray.empty, Value.int .i64 0, Value.int .i64 0]) Tryd.zeroValue36 rfl) ?_
        rintro w3 _ hE2 ⟨b2, rfl, ge2, hb2⟩
        have HS3 := HS2.new hE2 ge2 hb2
        refine run_st (i := 0) (cs := [Value.string ByteArray.empty, Value.int .i64 0, Value.int .i64 0]) (cs' := [Value.string ((rd z_api_Field a0.vFields y1_1).vName), Value.int .i64 ((rd z_api_Field a0.vFields y1_1).vType), Value.int .i64 ((rd z_api_Field a0.vFields y1_1).vAt)]) (vs := [Value.string ((rd z_api_Field a0.vFields y1_1).vName), Value.int .i64 ((rd z_api_Field a0.vFields y1_1).vType), Value.int .i64 ((rd z_api_Field a0.vFields y1_1).vAt)]) (bs' := [(some b2, .cells #[Value.string ((rd z_api_Field a0.vFields y1_1).vName), Value.int .i64 ((rd z_api_Field a0.vFields y1_1).vType), Value.int .i64 ((rd z_api_Field a0.vFields y1_1).vAt)] 36 (0, 0)), (some b1, .cells #[Value.int .i64 a0.vKind, Value.string a0.vName, Value.int .i64 a0.vInt.vSize, Value.bool a0.vInt.vSigned, Value.int .i64 a0.vRef, Value.int .i64 a0.vN, Value.slice A0_6 a0.vFields.length c0_6] 34 (0, 0))]) rfl rfl Tryd.sizeOf36 rfl rfl (by decide) rfl HS3 rfl (Nat.le_of_ble_eq_true rfl) rfl rfl ?_
        intro w4 HS4
        try simp only [List.set_cons_zero, List.set_cons_succ]
        refine run_nil ?_
        refine norm_then ?_
        refine wp_seq ?_
        refine wp_seq ?_
        refine region ?_
        refine run_same (v := Value.pointer (some ⟨b2, 2, none⟩)) rfl rfl (r_fieldBox (n := 1) (o' := 2) rfl Tryd.runUnderlying36 rfl Tryd.sizeOf3 (by decide) rfl) ?_
        refine run_same (v := Value.int .i64 ((rd z_api_Field a0.vFields y1_1).vAt)) rfl rfl (r_loadBox rfl Tryd.isAgg3 (HS4.look 0 rfl) rfl) ?_
        refine run_same (v := Value.int .i64 y1_0) rfl rfl (r_move rfl) ?_
        refine run_same (v := Value.bool (decide ((rd z_api_Field a0.vFields y1_1).vAt < y1_0))) rfl rfl (r_bin rfl rfl rfl) ?_
        refine run_frame (by simp only [List.set_cons_zero, List.set_cons_succ]; rfl) ?_
        refine run_same (v := Value.bool (decide ((rd z_api_Field a0.vFields y1_1).vAt < y1_0))) rfl rfl (r_move rfl) ?_
        refine run_g_same (b := (decide ((rd z_api_Field a0.vFields y1_1).vAt < y1_0))) (c := true) (v := Value.pointer (some ⟨b2, 2, none⟩)) rfl rfl rfl rfl (fun hg => (r_fieldBox (n := 1) (o' := 2) rfl Tryd.runUnderlying36 rfl Tryd.sizeOf3 (by decide) rfl)) ?_
        refine run_g_same (b := (decide ((rd z_api_Field a0.vFields y1_1).vAt < y1_0))) (c := true) (v := Value.int .i64 ((rd z_api_Field a0.vFields y1_1).vAt)) rfl rfl rfl rfl (fun hg => (r_loadBox ((show _ = gv (true && ((decide ((rd z_api_Field a0.vFields y1_1).vAt < y1_0)) == false)) (Value.pointer (some ⟨b2, 2, none⟩)) from rfl).trans (gv_t hg)) Tryd.isAgg3 (HS4.look 0 rfl) rfl)) ?_
        refine run_g_same (b := (decide ((rd z_api_Field a0.vFields y1_1).vAt < y1_0))) (c := true) (v := Value.bool (decide ((rd z_api_Field a0.vFields y1_1).vAt > 512))) rfl rfl rfl rfl (fun hg => (r_bin ((show _ = gv (true && ((decide ((rd z_api_Field a0.vFields y1_1).vAt < y1_0)) == false)) (Value.int .i64 ((rd z_api_Field a0.vFields y1_1).vAt)) from rfl).trans (gv_t hg)) rfl rfl)) ?_
        refine run_frame (by simp only [List.set_cons_zero, List.set_cons_succ]; rfl) ?_
        refine run_same (v := Value.bool ((decide ((rd z_api_Field a0.vFields y1_1).vAt < y1_0)) || (decide ((rd z_api_Field a0.vFields y1_1).vAt > 512)))) rfl rfl (r_pick_or rfl rfl (fun hp => ((show _ = gv (true && ((decide ((rd z_api_Field a0.vFields y1_1).vAt < y1_0)) == false)) (Value.bool (decide ((rd z_api_Field a0.vFields y1_1).vAt > 512))) from rfl).trans (gv_t (and_i rfl hp))))) ?_
        try simp only [List.set_cons_zero, List.set_cons_succ]
        refine run_nil ?_
        refine norm_then ?_
        refine wp_cond_split (t := ((decide ((rd z_api_Field a0.vFields y1_1).vAt < y1_0)) || (decide ((rd z_api_Field a0.vFields y1_1).vAt > 512)))) rfl (fun c2 => ?_) (fun c2 => ?_)
        · replace H := of_pos H c2
          refine wp_seq ?_
          refine region ?_
          refine run_same (v := Value.bool false) rfl rfl (r_assign rfl) ?_
          try simp only [List.set_cons_zero, List.set_cons_succ]
          refine run_nil ?_
          refine norm_then ?_
          refine wp_ret ?_
          refine ret_then ?_
          refine ret_block ?_
          refine ret_then ?_
          refine ret_loop ?_
          refine ret_then ?_
          obtain rfl := Option.some.inj H
          obtain rfl := Option.some.inj G1
          refine bodyPost_ret (results_1 rfl (one_tmp rfl)) rfl ?_
          exact ⟨rfl, HS4.toE⟩
        · replace H := of_neg H (nt c2)
          refine wp_skip ?_
          refine norm_then ?_
          obtain ⟨hi2, H⟩ := of_ite H
          obtain ⟨ad2, e2, hel2⟩ := ld_int hr1_0 hi2.1 hi2.2
          refine drawn [.eq (Value.pointer (some ⟨b2, 2, none⟩)), .eq (Value.int .i64 ((rd z_api_Field a0.vFields y1_1).vAt)), .eq (Value.slice A1_0 a1.length c1_0), .eq (Value.pointer (some ⟨b2, 1, none⟩)), .eq (Value.int .i64 ((rd z_api_Field a0.vFields y1_1).vType)), .eq (Value.pointer (some (Addr.add ad2 (((rd z_api_Field a0.vFields y1_1).vType).toNat * 1)))), .eq (Value.int .i64 (rd 0 a1 ((rd z_api_Field a0.vFields y1_1).vType))), .eq (Value.int .i64 (IntKind.wrap .i64 ((rd z_api_Field a0.vFields y1_1).vAt + (rd 0 a1 ((rd z_api_Field a0.vFields y1_1).vType)))))] [24, 25, 26, 27, 28, 29, 30, 31] hmix (by kernel_rfl) rfl (stable_eq (stable_eq (stable_eq (stable_eq (stable_eq (stable_eq (stable_eq (stable_eq stable_nil)))))))) ⟨ob_plain rfl (fun a' w' hE hk => by have HSd := HS4.step hE; exact does_eq (r_fieldBox (n := 1) (o' := 2) (show _ = Value.pointer (some ⟨b2, 0, none⟩) from hk 7 rfl) Tryd.runUnderlying36 rfl Tryd.sizeOf3 (by decide) rfl)), ob_plain rfl (fun a' w' hE hk => by have HSd := HS4.step hE; exact does_eq (r_loadBox (show _ = Value.pointer (some ⟨b2, 2, none⟩) from hk 24 rfl) Tryd.isAgg3 (HSd.look 0 rfl) rfl)), ob_plain rfl (fun a' w' hE hk => by have HSd := HS4.step hE; exact does_eq (r_move (show _ = Value.slice A1_0 a1.length c1_0 from hk 1 rfl))), ob_plain rfl (fun a' w' hE hk => by have HSd := HS4.step hE; exact does_eq (r_fieldBox (n := 1) (o' := 1) (show _ = Value.pointer (some ⟨b2, 0, none⟩) from hk 7 rfl) Tryd.runUnderlying36 rfl Tryd.sizeOf3 (by decide) rfl)), ob_plain rfl (fun a' w' hE hk => by have HSd := HS4.step hE; exact does_eq (r_loadBox (show _ = Value.pointer (some ⟨b2, 1, none⟩) from hk 27 rfl) Tryd.isAgg3 (HSd.look 0 rfl) rfl)), ob_plain rfl (fun a' w' hE hk => by have HSd := HS4.step hE; exact does_eq (r_indexA (sz := 1) (show _ = Value.slice A1_0 a1.length c1_0 from hk 26 rfl) e2 (show _ = Value.int .i64 ((rd z_api_Field a0.vFields y1_1).vType) from hk 28 rfl) hi2.1 hi2.2 Tryd.runUnderlying62 Tryd.sizeOf3)), ob_plain rfl (fun a' w' hE hk => by have HSd := HS4.step hE; exact does_eq (r_load (show _ = Value.pointer (some (Addr.add ad2 (((rd z_api_Field a0.vFields y1_1).vType).toNat * 1))) from hk 29 rfl) Tryd.isAgg3 (hel2.cell0 HSd.sees rfl))), ob_plain rfl (fun a' w' hE hk => by have HSd := HS4.step hE; exact does_eq (r_bin (show _ = Value.int .i64 ((rd z_api_Field a0.vFields y1_1).vAt) from hk 25 rfl) (show _ = Value.int .i64 (rd 0 a1 ((rd z_api_Field a0.vFields y1_1).vType)) from hk 30 rfl) rfl)), trivial⟩ ?_
          intro w5 hE3
          simp only [List.zip_cons_cons, List.zip_nil_left, List.zip_nil_right, finL, List.set_cons_zero, List.set_cons_succ, List.length_cons, List.length_nil, List.drop_succ_cons, List.drop_zero, Nat.zero_add, Nat.reduceAdd]
          have HS5 := HS4.step hE3
          refine run_same (v := Value.int .i64 (IntKind.wrap .i64 ((rd z_api_Field a0.vFields y1_1).vAt + (rd 0 a1 ((rd z_api_Field a0.vFields y1_1).vType))))) rfl rfl (r_assign rfl) ?_
          try simp only [List.set_cons_zero, List.set_cons_succ]
          refine run_nil ?_
          refine norm_block ?_
          refine norm_then ?_
          refine region ?_
          refine run_same (v := Value.int .i64 (IntKind.wrap .i64 (y1_1 + 1))) rfl rfl (r_bin rfl rfl rfl) ?_
          refine run_same (v := Value.int .i64 (IntKind.wrap .i64 (y1_1 + 1))) rfl rfl (r_move rfl) ?_
          try simp only [List.set_cons_zero, List.set_cons_succ]
          refine run_nil ?_
          refine again m [uy1_4, Value.int .i64 (IntKind.wrap .i64 ((rd z_api_Field a0.vFields y1_1).vAt + (rd 0 a1 ((rd z_api_Field a0.vFields y1_1).vType)))), Value.pointer (some ⟨b2, 0, none⟩), Value.int .i64 (IntKind.wrap .i64 (y1_1 + 1)), Value.bool (decide (y1_1 < (a0.vFields.length : Int))), Value.pointer (some (Addr.add ad1 (y1_1.toNat * 3))), Value.agg #[Value.string ((rd z_api_Field a0.vFields y1_1).vName), Value.int .i64 ((rd z_api_Field a0.vFields y1_1).vType), Value.int .i64 ((rd z_api_Field a0.vFields y1_1).vAt)], Value.pointer (some ⟨b2, 2, none⟩), Value.int .i64 ((rd z_api_Field a0.vFields y1_1).vAt), Value.int .i64 y1_0, Value.bool (decide ((rd z_api_Field a0.vFields y1_1).vAt < y1_0)), Value.bool (decide ((rd z_api_Field a0.vFields y1_1).vAt < y1_0)), gv (true && ((decide ((rd z_api_Field a0.vFields y1_1).vAt < y1_0)) == false)) (Value.pointer (some ⟨b2, 2, none⟩)), gv (true && ((decide ((rd z_api_Field a0.vFields y1_1).vAt < y1_0)) == false)) (Value.int .i64 ((rd z_api_Field a0.vFields y1_1).vAt)), gv (true && ((decide ((rd z_api_Field a0.vFields y1_1).vAt < y1_0)) == false)) (Value.bool (decide ((rd z_api_Field a0.vFields y1_1).vAt > 512))), Value.bool ((decide ((rd z_api_Field a0.vFields y1_1).vAt < y1_0)) || (decide ((rd z_api_Field a0.vFields y1_1).vAt > 512))), Value.pointer (some ⟨b2, 2, none⟩), Value.int .i64 ((rd z_api_Field a0.vFields y1_1).vAt), Value.slice A1_0 a1.length c1_0, Value.pointer (some ⟨b2, 1, none⟩), Value.int .i64 ((rd z_api_Field a0.vFields y1_1).vType), Value.pointer (some (Addr.add ad2 (((rd z_api_Field a0.vFields y1_1).vType).toNat * 1))), Value.int .i64 (rd 0 a1 ((rd z_api_Field a0.vFields y1_1).vType)), Value.int .i64 (IntKind.wrap .i64 ((rd z_api_Field a0.vFields y1_1).vAt + (rd 0 a1 ((rd z_api_Field a0.vFields y1_1).vType)))), Value.int .i64 (IntKind.wrap .i64 (y1_1 + 1))] (Nat.lt_succ_self m) (by simp only [patch, List.set_cons_zero, List.set_cons_succ]) ⟨(IntKind.wrap .i64 ((rd z_api_Field a0.vFields y1_1).vAt + (rd 0 a1 ((rd z_api_Field a0.vFields y1_1).vType)))), (IntKind.wrap .i64 (y1_1 + 1)), _, _, _, _, _, _, _, _, _, _, _, _, _, _, _, _, _, _, _, _, _, _, _, rfl, H, HS5.tail⟩
      · replace H := of_neg H (nt c1)
        refine wp_exit ?_
        refine exit_then ?_
        obtain rfl := Option.some.inj H
        refine leave [uy1_4, Value.int .i64 y1_0, uy1_7, Value.int .i64 y1_1, Value.bool (decide (y1_1 < (a0.vFields.length : Int))), uy1_13, uy1_14, uy1_15, uy1_16, uy1_17, uy1_18, uy1_19, uy1_20, uy1_21, uy1_22, uy1_23, uy1_24, uy1_25, uy1_26, uy1_27, uy1_28, uy1_29, uy1_30, uy1_31, uy1_32] (by simp only [patch, List.set_cons_zero, List.set_cons_succ]) ⟨_, rfl, _, _, _, _, _, _, _, _, _, _, _, _, _, _, _, _, _, _, _, _, _, _, _, _, rfl, HS2⟩
  · rintro us w6 ⟨s1, rfl, uo1_4, uo1_7, uo1_11, uo1_12, uo1_13, uo1_14, uo1_15, uo1_16, uo1_17, uo1_18, uo1_19, uo1_20, uo1_21, uo1_22, uo1_23, uo1_24, uo1_25, uo1_26, uo1_27, uo1_28, uo1_29, uo1_30, uo1_31, uo1_32, rfl, HS6⟩
    replace H := G1
    clear G1
    try simp only [patch, List.set_cons_zero, List.set_cons_succ]
    refine norm_then ?_
    refine wp_seq ?_
    refine region ?_
    refine run_same (v := Value.int .i64 s1) rfl rfl (r_move rfl) ?_
    refine run_same (v := Value.pointer (some ⟨b1, 5, none⟩)) rfl rfl (r_fieldBox (n := 1) (o' := 5) rfl Tryd.runUnderlying34 rfl Tryd.sizeOf3 (by decide) rfl) ?_
    refine run_same (v := Value.int .i64 a0.vN) rfl rfl (r_loadBox rfl Tryd.isAgg3 (HS6.look 0 rfl) rfl) ?_
    refine run_same (v := Value.bool (decide (s1 ≤ a0.vN))) rfl rfl (r_bin rfl rfl rfl) ?_
    refine run_frame (by simp only [List.set_cons_zero, List.set_cons_succ]; rfl) ?_
    refine run_same (v := Value.bool (decide (s1 ≤ a0.vN))) rfl rfl (r_assign rfl) ?_
    try simp only [List.set_cons_zero, List.set_cons_succ]
    refine run_nil ?_
    refine norm_then ?_
    refine wp_ret ?_
    obtain rfl := Option.some.inj H
    refine bodyPost_ret (results_1 rfl (one_tmp rfl)) rfl ?_
    exact ⟨rfl, HS6.toE⟩

end Go.Proofs.YtfjppgobidjndaaDoor
namespace Go.Proofs.YtfjppgobidjndaaDoor
open Go.RowKit Go.M
def ctf_valid_1.f (k : Nat) (a0 : api_Def) (x0 : List Int) : Option (Bool) := (if (true && ((a0.vKind == 4) == true)) = true then ctf_placed.f k a0 x0 else some false).bind fun v1 => (some ((a0.vKind == 4) && (!v1)))
set_option maxRecDepth 20000 in
set_option maxHeartbeats 4000000 in
theorem ctf_valid_1.calls (k : Nat) (a0 : api_Def) (x0 : List Int) (A0_6 : Option Addr) (c0_6 : Nat) (bx0 : Nat) (Ax0_0 : Option Addr) (cx0_0 : Nat) {h0 : View} {w0 : World} (hv : Sees h0 w0) (hr0_6 : Rd k_api_Field h0 A0_6 a0.vFields) (hc0_6 : a0.vFields.length ≤ c0_6) (hrx0_0 : Rd (Kd.int .i64) h0 Ax0_0 x0) (hcx0_0 : x0.length ≤ cx0_0) (hx0 : w0.heap[bx0]? = some (.cells #[Value.slice Ax0_0 x0.length cx0_0] 62 (0, 0))) {r : Bool} (H : ctf_valid_1.f k a0 x0 = some r) : Calls Tryd.prog 92 #[Value.agg #[Value.int .i64 a0.vKind, Value.string a0.vName, Value.int .i64 a0.vInt.vSize, Value.bool a0.vInt.vSigned, Value.int .i64 a0.vRef, Value.int .i64 a0.vN, Value.slice A0_6 a0.vFields.length c0_6], Value.pointer (some ⟨bx0, 0, none⟩)] w0 (fun e w1 => e = .returned (Value.bool r) ∧ Ext w0 w1) := by
  unfold ctf_valid_1.f at H
  have HS : St [] h0 w0 h0 [] w0 := St.init hv
  go_enter Tryd.func92, Tryd.ntmps92
  refine wp_seq ?_
  refine region ?_
  refine run_ex rfl rfl (does_box (cs := #[Value.int .i64 a0.vKind, Value.string a0.vName, Value.int .i64 a0.vInt.vSize, Value.bool a0.vInt.vSigned, Value.int .i64 a0.vRef, Value.int .i64 a0.vN, Value.slice A0_6 a0.vFields.length c0_6]) rfl rfl) ?_
  rintro w1 _ hE1 ⟨b1, rfl, ge1, hb1⟩
  have HS1 := HS.new hE1 ge1 hb1
  refine run_same (v := Value.bool false) rfl rfl (r_assign rfl) ?_
  try simp only [List.set_cons_zero, List.set_cons_succ]
  refine run_nil ?_
  refine norm_then ?_
  refine wp_seq ?_
  refine region ?_
  refine run_same (v := Value.pointer (some ⟨b1, 0, none⟩)) rfl rfl (r_fieldBox (n := 1) (o' := 0) rfl Tryd.runUnderlying34 rfl Tryd.sizeOf3 (by decide) rfl) ?_
  refine run_same (v := Value.int .i64 a0.vKind) rfl rfl (r_loadBox rfl Tryd.isAgg3 (HS1.look 0 rfl) rfl) ?_
  refine run_same (v := Value.bool (a0.vKind == 4)) rfl rfl (r_bin rfl rfl rfl) ?_
  refine run_same (v := Value.bool (a0.vKind == 4)) rfl rfl (r_move rfl) ?_
  refine run_frame (by simp only [List.set_cons_zero, List.set_cons_succ]; rfl) ?_
  refine run_g_same (b := (a0.vKind == 4)) (c := true) (v := Value.agg #[Value.int .i64 a0.vKind, Value.string a0.vName, Value.int .i64 a0.vInt.vSize, Value.bool a0.vInt.vSigned, Value.int .i64 a0.vRef, Value.int .i64 a0.vN, Value.slice A0_6 a0.vFields.length c0_6]) rfl rfl rfl rfl (fun hg => (r_loadBoxAgg (n := 7) (vs := [Value.int .i64 a0.vKind, Value.string a0.vName, Value.int .i64 a0.vInt.vSize, Value.bool a0.vInt.vSigned, Value.int .i64 a0.vRef, Value.int .i64 a0.vN, Value.slice A0_6 a0.vFields.length c0_6]) rfl Tryd.isAgg34 (HS1.look 0 rfl) Tryd.sizeOf34 rfl rfl)) ?_
  refine run_g_same (b := (a0.vKind == 4)) (c := true) (v := Value.slice Ax0_0 x0.length cx0_0) rfl rfl rfl rfl (fun hg => (r_loadBox rfl Tryd.isAgg62 (heap_ext hx0 HS1.toE) rfl)) ?_
  obtain ⟨v1, H1, H⟩ := of_bind H
  refine run_g (b := (a0.vKind == 4)) (c := true) (v := Value.bool v1) rfl rfl rfl rfl (fun hg => (does_call_eq Tryd.call93 rfl (map2 ((show _ = gv (true && ((a0.vKind == 4) == true)) (Value.agg #[Value.int .i64 a0.vKind, Value.string a0.vName, Value.int .i64 a0.vInt.vSize, Value.bool a0.vInt.vSigned, Value.int .i64 a0.vRef, Value.int .i64 a0.vN, Value.slice A0_6 a0.vFields.length c0_6]) from rfl).trans (gv_t hg)) ((show _ = gv (true && ((a0.vKind == 4) == true)) (Value.slice Ax0_0 x0.length cx0_0) from rfl).trans (gv_t hg))) (ctf_placed.calls k a0 x0 A0_6 c0_6 Ax0_0 cx0_0 HS1.sees hr0_6 hc0_6 hrx0_0 hcx0_0 (of_pos H1 hg)))) ?_
  intro w2 hE2
  have HS2 := HS1.step hE2
  refine run_g_same (b := (a0.vKind == 4)) (c := true) (v := Value.bool (!v1)) rfl rfl rfl rfl (fun hg => (r_not ((show _ = gv (true && ((a0.vKind == 4) == true)) (Value.bool v1) from rfl).trans (gv_t hg)))) ?_
  refine run_frame (by simp only [List.set_cons_zero, List.set_cons_succ]; rfl) ?_
  refine run_same (v := Value.bool ((a0.vKind == 4) && (!v1))) rfl rfl (r_pick_and rfl (fun hp => ((show _ = gv (true && ((a0.vKind == 4) == true)) (Value.bool (!v1)) from rfl).trans (gv_t (and_i rfl hp)))) rfl) ?_
  refine run_same (v := Value.bool ((a0.vKind == 4) && (!v1))) rfl rfl (r_assign rfl) ?_
  try simp only [List.set_cons_zero, List.set_cons_succ]
  refine run_nil ?_
  refine norm_then ?_
  refine wp_ret ?_
  obtain rfl := Option.some.inj H
  refine bodyPost_ret (results_1 rfl (one_tmp rfl)) rfl ?_
  exact ⟨rfl, HS2.toE⟩

end Go.Proofs.YtfjppgobidjndaaDoor
namespace Go.Proofs.YtfjppgobidjndaaDoor
open Go.RowKit Go.M
def ctf_valid.l0 (k : Nat) (a0 : api_Types) : Nat → Int → (List (ByteArray × Bool)) → Option ((Bool) ⊕ ((List (ByteArray × Bool))))
  | 0, _, _ => none
  | m + 1, y1_0, y1_1 => if (decide (y1_0 < (a0.vDefs.length : Int))) = true then (if 0 ≤ y1_0 ∧ y1_0 < a0.vDefs.length then ((ctf_shaped.f k (rd z_api_Def a0.vDefs y1_0) (a0.vDefs.length : Int)).bind fun v1 => ((if (true && ((!v1) == false)) = true then ctf_named.f (rd z_api_Def a0.vDefs y1_0) else some false).bind fun v2 => (if ((!v1) || (v2 && ((mfind strEq y1_1 ((rd z_api_Def a0.vDefs y1_0).vName)).getD false))) = true then (some (.inl false)) else (ctf_valid.l0 k a0 m (IntKind.wrap .i64 (y1_0 + 1)) (mput strEq y1_1 ((rd z_api_Def a0.vDefs y1_0).vName) true))))) else none) else (some (.inr y1_1))
def ctf_valid.f (k : Nat) (a0 : api_Types) : Option (Bool) := if (decide ((a0.vDefs.length : Int) > 200)) = true then (some false) else ((ctf_valid.l0 k a0 k 0 ([] : List (ByteArray × Bool))).bind fun xx1 => (match xx1 with | .inl r => some r | .inr s1 => (ctf_sizes.f k a0).bind fun v3 => ((if (true && ((!v3.2) == false)) = true then ctf_ends.f k a0 else some false).bind fun v4 => (if ((!v3.2) || (!v4)) = true then (some false) else ((slices_ContainsFunc_api_Def_api_Def.f k a0.vDefs (fun z0 => ctf_valid_1.f k z0 v3.1)).bind fun v5 => (some (!v5)))))))
set_option maxRecDepth 20000 in
set_option maxHeartbeats 4000000 in
theorem ctf_valid.calls (k : Nat) (a0 : api_Types) (A0_0 : Option Addr) (c0_0 : Nat) {h0 : View} {w0 : World} (hv : Sees h0 w0) (hr0_0 : Rd k_api_Def h0 A0_0 a0.vDefs) (hc0_0 : a0.vDefs.length ≤ c0_0) {r : Bool} (H : ctf_valid.f k a0 = some r) : Calls Tryd.prog 47 #[Value.agg #[Value.slice A0_0 a0.vDefs.length c0_0]] w0 (fun e w1 => e = .returned (Value.bool r) ∧ Ext w0 w1) := by
  unfold ctf_valid.f at H
  have HS : St [] h0 w0 h0 [] w0 := St.init hv
  go_enter Tryd.func47, Tryd.ntmps47
  refine wp_seq ?_
  refine region ?_
  refine run_ex rfl rfl (does_box (cs := #[Value.slice A0_0 a0.vDefs.length c0_0]) rfl rfl) ?_
  rintro w1 _ hE1 ⟨b1, rfl, ge1, hb1⟩
  have HS1 := HS.new hE1 ge1 hb1
  refine run_same (v := Value.bool false) rfl rfl (r_assign rfl) ?_
  try simp only [List.set_cons_zero, List.set_cons_succ]
  refine run_nil ?_
  refine norm_then ?_
  refine wp_seq ?_
  refine wp_seq ?_
  refine region ?_
  refine run_same (v := Value.pointer (some ⟨b1, 0, none⟩)) rfl rfl (r_fieldBox (n := 1) (o' := 0) rfl Tryd.runUnderlying24 rfl Tryd.sizeOf22 (by decide) rfl) ?_
  refine run_same (v := Value.slice A0_0 a0.vDefs.length c0_0) rfl rfl (r_loadBox rfl Tryd.isAgg22 (HS1.look 0 rfl) rfl) ?_
  refine run_same (v := Value.int .i64 (a0.vDefs.length : Int)) rfl rfl (r_len rfl Tryd.runUnderlying22) ?_
  refine run_same (v := Value.bool (decide ((a0.vDefs.length : Int) > 200))) rfl rfl (r_bin rfl rfl rfl) ?_
  try simp only [List.set_cons_zero, List.set_cons_succ]
  refine run_nil ?_
  refine norm_then ?_
  refine wp_cond_split (t := (decide ((a0.vDefs.length : Int) > 200))) rfl (fun c1 => ?_) (fun c1 => ?_)
  · replace H := of_pos H c1
    refine wp_seq ?_
    refine region ?_
    refine run_same (v := Value.bool false) rfl rfl (r_assign rfl) ?_
    try simp only [List.set_cons_zero, List.set_cons_succ]
    refine run_nil ?_
    refine norm_then ?_
    refine wp_ret ?_
    refine ret_then ?_
    obtain rfl := Option.some.inj H
    refine bodyPost_ret (results_1 rfl (one_tmp rfl)) rfl ?_
    exact ⟨rfl, HS1.toE⟩
  · replace H := of_neg H (nt c1)
    refine wp_skip ?_
    refine norm_then ?_
    refine wp_seq ?_
    refine region ?_
    refine run_mkmap HS1 ?_
    intro w2 b2 HS2
    refine run_same (v := Value.map (some b2)) rfl rfl (r_assign rfl) ?_
    try simp only [List.set_cons_zero, List.set_cons_succ]
    refine run_nil ?_
    refine norm_then ?_
    refine wp_seq ?_
    refine wp_seq ?_
    refine region ?_
    refine run_same (v := Value.pointer (some ⟨b1, 0, none⟩)) rfl rfl (r_fieldBox (n := 1) (o' := 0) rfl Tryd.runUnderlying24 rfl Tryd.sizeOf22 (by decide) rfl) ?_
    refine run_same (v := Value.slice A0_0 a0.vDefs.length c0_0) rfl rfl (r_loadBox rfl Tryd.isAgg22 (HS2.look 1 rfl) rfl) ?_
    refine run_same (v := Value.int .i64 (a0.vDefs.length : Int)) rfl rfl (r_len rfl Tryd.runUnderlying22) ?_
    refine run_same (v := Value.int .i64 0) rfl rfl (r_move rfl) ?_
    try simp only [List.set_cons_zero, List.set_cons_succ]
    refine run_nil ?_
    refine norm_then ?_
    obtain ⟨xx1, H, G1⟩ := of_bind H
    refine loop_patch [2, 5, 16, 17, 18, 19, 20, 21, 22, 23, 24, 25, 26, 27, 28, 29, 30, 31, 32, 33, 34, 35, 36, 37, 38, 39] (fun m us w' => ∃ (y1_0 : Int), ∃ (y1_1 : List (ByteArray × Bool)), ∃ (esy1_1 : Array MapEntry) (cly1_1 : Nat), ∃ (uy1_2 : Value), ∃ (uy1_5 : Value), ∃ (uy1_17 : Value), ∃ (uy1_18 : Value), ∃ (uy1_19 : Value), ∃ (uy1_20 : Value), ∃ (uy1_21 : Value), ∃ (uy1_22 : Value), ∃ (uy1_23 : Value), ∃ (uy1_24 : Value), ∃ (uy1_25 : Value), ∃ (uy1_26 : Value), ∃ (uy1_27 : Value), ∃ (uy1_28 : Value), ∃ (uy1_29 : Value), ∃ (uy1_30 : Value), ∃ (uy1_31 : Value), ∃ (uy1_32 : Value), ∃ (uy1_33 : Value), ∃ (uy1_34 : Value), ∃ (uy1_35 : Value), ∃ (uy1_36 : Value), ∃ (uy1_37 : Value), ∃ (uy1_38 : Value), ∃ (uy1_39 : Value), us = [uy1_2, uy1_5, Value.int .i64 y1_0, uy1_17, uy1_18, uy1_19, uy1_20, uy1_21, uy1_22, uy1_23, uy1_24, uy1_25, uy1_26, uy1_27, uy1_28, uy1_29, uy1_30, uy1_31, uy1_32, uy1_33, uy1_34, uy1_35, uy1_36, uy1_37, uy1_38, uy1_39] ∧ ctf_valid.l0 k a0 m y1_0 y1_1 = some xx1 ∧ MapOk Value.string Value.bool y1_1 esy1_1 cly1_1 ∧ St [] h0 w0 h0 [(some b2, .map esy1_1 cly1_1), (some b1, .cells #[Value.slice A0_0 a0.vDefs.length c0_0] 24 (0, 0))] w') (fun us w' => ∃ (s1 : (List (ByteArray × Bool))), xx1 = .inr s1 ∧ ∃ (eso1_0 : Array MapEntry) (clo1_0 : Nat), ∃ (uo1_2 : Value), ∃ (uo1_5 : Value), ∃ (uo1_16 : Value), ∃ (uo1_17 : Value), ∃ (uo1_18 : Value), ∃ (uo1_19 : Value), ∃ (uo1_20 : Value), ∃ (uo1_21 : Value), ∃ (uo1_22 : Value), ∃ (uo1_23 : Value), ∃ (uo1_24 : Value), ∃ (uo1_25 : Value), ∃ (uo1_26 : Value), ∃ (uo1_27 : Value), ∃ (uo1_28 : Value), ∃ (uo1_29 : Value), ∃ (uo1_30 : Value), ∃ (uo1_31 : Value), ∃ (uo1_32 : Value), ∃ (uo1_33 : Value), ∃ (uo1_34 : Value), ∃ (uo1_35 : Value), ∃ (uo1_36 : Value), ∃ (uo1_37 : Value), ∃ (uo1_38 : Value), ∃ (uo1_39 : Value), us = [uo1_2, uo1_5, uo1_16, uo1_17, uo1_18, uo1_19, uo1_20, uo1_21, uo1_22, uo1_23, uo1_24, uo1_25, uo1_26, uo1_27, uo1_28, uo1_29, uo1_30, uo1_31, uo1_32, uo1_33, uo1_34, uo1_35, uo1_36, uo1_37, uo1_38, uo1_39] ∧ MapOk Value.string Value.bool s1 eso1_0 clo1_0 ∧ St [] h0 w0 h0 [(some b2, .map eso1_0 clo1_0), (some b1, .cells #[Value.slice A0_0 a0.vDefs.length c0_0] 24 (0, 0))] w') k [Value.bool false, undef, Value.int .i64 0, undef, undef, undef, undef, undef, undef, undef, undef, undef, undef, undef, undef, undef, undef, undef, undef, undef, undef, undef, undef, undef, undef, undef] (by simp only [patch, List.set_cons_zero, List.set_cons_succ]) ⟨0, ([] : List (ByteArray × Bool)), #[], 0, _, _, _, _, _, _, _, _, _, _, _, _, _, _, _, _, _, _, _, _, _, _, _, _, _, rfl, H, (MapOk.nil), HS2⟩ ?_ ?_
    · rintro m us w3 ⟨y1_0, y1_1, esy1_1, cly1_1, uy1_2, uy1_5, uy1_17, uy1_18, uy1_19, uy1_20, uy1_21, uy1_22, uy1_23, uy1_24, uy1_25, uy1_26, uy1_27, uy1_28, uy1_29, uy1_30, uy1_31, uy1_32, uy1_33, uy1_34, uy1_35, uy1_36, uy1_37, uy1_38, uy1_39, rfl, H, hoy1_1, HS3⟩
      cases m with
      | zero => exact absurd H (by simp [ctf_valid.l0])
      | succ m =>
        rw [ctf_valid.l0] at H
        try simp only [patch, List.set_cons_zero, List.set_cons_succ]
        refine wp_seq ?_
        refine region ?_
        refine run_same (v := Value.bool (decide (y1_0 < (a0.vDefs.length : Int)))) rfl rfl (r_bin rfl rfl rfl) ?_
        try simp only [List.set_cons_zero, List.set_cons_succ]
        refine run_nil ?_
        refine norm_then ?_
        refine wp_seq ?_
        refine wp_cond_split (t := (decide (y1_0 < (a0.vDefs.length : Int)))) rfl (fun c2 => ?_) (fun c2 => ?_)
        · replace H := of_pos H c2
          refine wp_skip ?_
          refine norm_then ?_
          refine wp_seq ?_
          refine wp_block ?_
          refine wp_seq ?_
          refine region ?_
          obtain ⟨hi1, H⟩ := of_ite H
          obtain ⟨ad1, Aad1_6, cad1_6, e1, hel1, hcad1_6, hrad1_6⟩ := ld_api_Def hr0_0 hi1.1 hi1.2
          refine run_same (v := Value.pointer (some (Addr.add ad1 (y1_0.toNat * 7)))) rfl rfl (r_indexA (sz := 7) rfl e1 rfl hi1.1 hi1.2 Tryd.runUnderlying22 Tryd.sizeOf34) ?_
          refine run_same (v := Value.agg #[Value.int .i64 ((rd z_api_Def a0.vDefs y1_0).vKind), Value.string ((rd z_api_Def a0.vDefs y1_0).vName), Value.int .i64 ((rd z_api_Def a0.vDefs y1_0).vInt.vSize), Value.bool ((rd z_api_Def a0.vDefs y1_0).vInt.vSigned), Value.int .i64 ((rd z_api_Def a0.vDefs y1_0).vRef), Value.int .i64 ((rd z_api_Def a0.vDefs y1_0).vN), Value.slice Aad1_6 ((rd z_api_Def a0.vDefs y1_0).vFields).length cad1_6]) rfl rfl (r_loadAgg rfl Tryd.isAgg34 (hel1.sees HS3.sees) Tryd.sizeOf34) ?_
          refine run_ex rfl rfl (does_alloc (cs := #[Value.int .i64 0, Value.string ByteArray.empty, Value.int .i64 0, Value.bool false, Value.int .i64 0, Value.int .i64 0, Value.slice none 0 0]) Tryd.zeroValue34 rfl) ?_
          rintro w4 _ hE2 ⟨b3, rfl, ge2, hb2⟩
          have HS4 := HS3.new hE2 ge2 hb2
          refine run_st (i := 0) (cs := [Value.int .i64 0, Value.string ByteArray.empty, Value.int .i64 0, Value.bool false, Value.int .i64 0, Value.int .i64 0, Value.slice none 0 0]) (cs' := [Value.int .i64 ((rd z_api_Def a0.vDefs y1_0).vKind), Value.string ((rd z_api_Def a0.vDefs y1_0).vName), Value.int .i64 ((rd z_api_Def a0.vDefs y1_0).vInt.vSize), Value.bool ((rd z_api_Def a0.vDefs y1_0).vInt.vSigned), Value.int .i64 ((rd z_api_Def a0.vDefs y1_0).vRef), Value.int .i64 ((rd z_api_Def a0.vDefs y1_0).vN), Value.slice Aad1_6 ((rd z_api_Def a0.vDefs y1_0).vFields).length cad1_6]) (vs := [Value.int .i64 ((rd z_api_Def a0.vDefs y1_0).vKind), Value.string ((rd z_api_Def a0.vDefs y1_0).vName), Value.int .i64 ((rd z_api_Def a0.vDefs y1_0).vInt.vSize), Value.bool ((rd z_api_Def a0.vDefs y1_0).vInt.vSigned), Value.int .i64 ((rd z_api_Def a0.vDefs y1_0).vRef), Value.int .i64 ((rd z_api_Def a0.vDefs y1_0).vN), Value.slice Aad1_6 ((rd z_api_Def a0.vDefs y1_0).vFields).length cad1_6]) (bs' := [(some b3, .cells #[Value.int .i64 ((rd z_api_Def a0.vDefs y1_0).vKind), Value.string ((rd z_api_Def a0.vDefs y1_0).vName), Value.int .i64 ((rd z_api_Def a0.vDefs y1_0).vInt.vSize), Value.bool ((rd z_api_Def a0.vDefs y1_0).vInt.vSigned), Value.int .i64 ((rd z_api_Def a0.vDefs y1_0).vRef), Value.int .i64 ((rd z_api_Def a0.vDefs y1_0).vN), Value.slice Aad1_6 ((rd z_api_Def a0.vDefs y1_0).vFields).length cad1_6] 34 (0, 0)), (some b2, .map esy1_1 cly1_1), (some b1, .cells #[Value.slice A0_0 a0.vDefs.length c0_0] 24 (0, 0))]) rfl rfl Tryd.sizeOf34 rfl rfl (by decide) rfl HS4 rfl (Nat.le_of_ble_eq_true rfl) rfl rfl ?_
          intro w5 HS5
          try simp only [List.set_cons_zero, List.set_cons_succ]
          refine run_nil ?_
          refine norm_then ?_
          refine wp_seq ?_
          refine wp_seq ?_
          refine region ?_
          refine run_same (v := Value.agg #[Value.int .i64 ((rd z_api_Def a0.vDefs y1_0).vKind), Value.string ((rd z_api_Def a0.vDefs y1_0).vName), Value.int .i64 ((rd z_api_Def a0.vDefs y1_0).vInt.vSize), Value.bool ((rd z_api_Def a0.vDefs y1_0).vInt.vSigned), Value.int .i64 ((rd z_api_Def a0.vDefs y1_0).vRef), Value.int .i64 ((rd z_api_Def a0.vDefs y1_0).vN), Value.slice Aad1_6 ((rd z_api_Def a0.vDefs y1_0).vFields).length cad1_6]) rfl rfl (r_loadBoxAgg (n := 7) (vs := [Value.int .i64 ((rd z_api_Def a0.vDefs y1_0).vKind), Value.string ((rd z_api_Def a0.vDefs y1_0).vName), Value.int .i64 ((rd z_api_Def a0.vDefs y1_0).vInt.vSize), Value.bool ((rd z_api_Def a0.vDefs y1_0).vInt.vSigned), Value.int .i64 ((rd z_api_Def a0.vDefs y1_0).vRef), Value.int .i64 ((rd z_api_Def a0.vDefs y1_0).vN), Value.slice Aad1_6 ((rd z_api_Def a0.vDefs y1_0).vFields).length cad1_6]) rfl Tryd.isAgg34 (HS5.look 0 rfl) Tryd.sizeOf34 rfl rfl) ?_
          refine run_same (v := Value.pointer (some ⟨b1, 0, none⟩)) rfl rfl (r_fieldBox (n := 1) (o' := 0) rfl Tryd.runUnderlying24 rfl Tryd.sizeOf22 (by decide) rfl) ?_
          refine run_same (v := Value.slice A0_0 a0.vDefs.length c0_0) rfl rfl (r_loadBox rfl Tryd.isAgg22 (HS5.look 2 rfl) rfl) ?_
          refine run_same (v := Value.int .i64 (a0.vDefs.length : Int)) rfl rfl (r_len rfl Tryd.runUnderlying22) ?_
          refine run_frame (by simp only [List.set_cons_zero, List.set_cons_succ]; rfl) ?_
          obtain ⟨v1, H1, H⟩ := of_bind H
          refine run_eq (v := Value.bool v1) rfl rfl (does_call_eq Tryd.call89 rfl rfl (ctf_shaped.calls k (rd z_api_Def a0.vDefs y1_0) (a0.vDefs.length : Int) Aad1_6 cad1_6 HS5.sees hrad1_6 hcad1_6 H1)) ?_
          intro w6 hE3
          have HS6 := HS5.step hE3
          refine run_same (v := Value.bool (!v1)) rfl rfl (r_not rfl) ?_
          refine run_same (v := Value.bool (!v1)) rfl rfl (r_move rfl) ?_
          refine run_g_same (b := (!v1)) (c := true) (v := Value.agg #[Value.int .i64 ((rd z_api_Def a0.vDefs y1_0).vKind), Value.string ((rd z_api_Def a0.vDefs y1_0).vName), Value.int .i64 ((rd z_api_Def a0.vDefs y1_0).vInt.vSize), Value.bool ((rd z_api_Def a0.vDefs y1_0).vInt.vSigned), Value.int .i64 ((rd z_api_Def a0.vDefs y1_0).vRef), Value.int .i64 ((rd z_api_Def a0.vDefs y1_0).vN), Value.slice Aad1_6 ((rd z_api_Def a0.vDefs y1_0).vFields).length cad1_6]) rfl rfl rfl rfl (fun hg => (r_loadBoxAgg (n := 7) (vs := [Value.int .i64 ((rd z_api_Def a0.vDefs y1_0).vKind), Value.string ((rd z_api_Def a0.vDefs y1_0).vName), Value.int .i64 ((rd z_api_Def a0.vDefs y1_0).vInt.vSize), Value.bool ((rd z_api_Def a0.vDefs y1_0).vInt.vSigned), Value.int .i64 ((rd z_api_Def a0.vDefs y1_0).vRef), Value.int .i64 ((rd z_api_Def a0.vDefs y1_0).vN), Value.slice Aad1_6 ((rd z_api_Def a0.vDefs y1_0).vFields).length cad1_6]) rfl Tryd.isAgg34 (HS6.look 0 rfl) Tryd.sizeOf34 rfl rfl)) ?_
          refine run_frame (by simp only [List.set_cons_zero, List.set_cons_succ]; rfl) ?_
          obtain ⟨v2, H2, H⟩ := of_bind H
          refine run_g (b := (!v1)) (c := true) (v := Value.bool v2) rfl rfl rfl rfl (fun hg => (does_call_eq Tryd.call68 rfl (map1 ((show _ = gv (true && ((!v1) == false)) (Value.agg #[Value.int .i64 ((rd z_api_Def a0.vDefs y1_0).vKind), Value.string ((rd z_api_Def a0.vDefs y1_0).vName), Value.int .i64 ((rd z_api_Def a0.vDefs y1_0).vInt.vSize), Value.bool ((rd z_api_Def a0.vDefs y1_0).vInt.vSigned), Value.int .i64 ((rd z_api_Def a0.vDefs y1_0).vRef), Value.int .i64 ((rd z_api_Def a0.vDefs y1_0).vN), Value.slice Aad1_6 ((rd z_api_Def a0.vDefs y1_0).vFields).length cad1_6]) from rfl).trans (gv_t hg))) (ctf_named.calls (rd z_api_Def a0.vDefs y1_0) Aad1_6 cad1_6 HS6.sees hrad1_6 hcad1_6 (of_pos H2 hg)))) ?_
          intro w7 hE4
          have HS7 := HS6.step hE4
          refine run_g_same (b := (!v1)) (c := true) (v := Value.bool v2) rfl rfl rfl rfl (fun hg => (r_move ((show _ = gv (true && ((!v1) == false)) (Value.bool v2) from rfl).trans (gv_t hg)))) ?_
          refine run_g_same (b := v2) (c := (true && ((!v1) == false))) (v := Value.map (some b2)) rfl rfl rfl rfl (fun hg => (r_move rfl)) ?_
          refine run_g_same (b := v2) (c := (true && ((!v1) == false))) (v := Value.pointer (some ⟨b3, 1, none⟩)) rfl rfl rfl rfl (fun hg => (r_fieldBox (n := 1) (o' := 1) rfl Tryd.runUnderlying34 rfl Tryd.sizeOf9 (by decide) rfl)) ?_
          refine run_frame (by simp only [List.set_cons_zero, List.set_cons_succ]; rfl) ?_
          refine run_g_same (b := v2) (c := (true && ((!v1) == false))) (v := Value.string ((rd z_api_Def a0.vDefs y1_0).vName)) rfl rfl rfl rfl (fun hg => (r_loadBox ((show _ = gv ((true && ((!v1) == false)) && (v2 == true)) (Value.pointer (some ⟨b3, 1, none⟩)) from rfl).trans (gv_t hg)) Tryd.isAgg9 (HS7.look 0 rfl) rfl)) ?_
          refine run_g_same (b := v2) (c := (true && ((!v1) == false))) (v := Value.bool ((mfind strEq y1_1 ((rd z_api_Def a0.vDefs y1_0).vName)).getD false)) rfl rfl rfl rfl (fun hg => (r_mget (key_str Tryd.runUnderlying9) (k := ((rd z_api_Def a0.vDefs y1_0).vName)) (m := y1_1) (ev := Value.bool) false ((show _ = gv ((true && ((!v1) == false)) && (v2 == true)) (Value.map (some b2)) from rfl).trans (gv_t hg)) ((show _ = gv ((true && ((!v1) == false)) && (v2 == true)) (Value.string ((rd z_api_Def a0.vDefs y1_0).vName)) from rfl).trans (gv_t hg)) Tryd.runUnderlying150 Tryd.zeroValue4 (HS7.look 1 rfl) hoy1_1)) ?_
          refine run_g_same (b := (!v1)) (c := true) (v := Value.bool (v2 && ((mfind strEq y1_1 ((rd z_api_Def a0.vDefs y1_0).vName)).getD false))) rfl rfl rfl rfl (fun hg => (r_pick_and ((show _ = gv (true && ((!v1) == false)) (Value.bool v2) from rfl).trans (gv_t hg)) (fun hp => ((show _ = gv ((true && ((!v1) == false)) && (v2 == true)) (Value.bool ((mfind strEq y1_1 ((rd z_api_Def a0.vDefs y1_0).vName)).getD false)) from rfl).trans (gv_t (and_i hg hp)))) rfl)) ?_
          refine run_same (v := Value.bool ((!v1) || (v2 && ((mfind strEq y1_1 ((rd z_api_Def a0.vDefs y1_0).vName)).getD false)))) rfl rfl (r_pick_or rfl rfl (fun hp => ((show _ = gv (true && ((!v1) == false)) (Value.bool (v2 && ((mfind strEq y1_1 ((rd z_api_Def a0.vDefs y1_0).vName)).getD false))) from rfl).trans (gv_t (and_i rfl hp))))) ?_
          try simp only [List.set_cons_zero, List.set_cons_succ]
          refine run_nil ?_
          refine norm_then ?_
          refine wp_cond_split (t := ((!v1) || (v2 && ((mfind strEq y1_1 ((rd z_api_Def a0.vDefs y1_0).vName)).getD false)))) rfl (fun c3 => ?_) (fun c3 => ?_)
          · replace H := of_pos H c3
            refine wp_seq ?_
            refine region ?_
            refine run_same (v := Value.bool false) rfl rfl (r_assign rfl) ?_
            try simp only [List.set_cons_zero, List.set_cons_succ]
            refine run_nil ?_
            refine norm_then ?_
            refine wp_ret ?_
            refine ret_then ?_
            refine ret_block ?_
            refine ret_then ?_
            refine ret_loop ?_
            refine ret_then ?_
            obtain rfl := Option.some.inj H
            obtain rfl := Option.some.inj G1
            refine bodyPost_ret (results_1 rfl (one_tmp rfl)) rfl ?_
            exact ⟨rfl, HS7.toE⟩
          · replace H := of_neg H (nt c3)
            refine wp_skip ?_
            refine norm_then ?_
            refine region ?_
            refine run_same (v := Value.map (some b2)) rfl rfl (r_move rfl) ?_
            refine run_same (v := Value.pointer (some ⟨b3, 1, none⟩)) rfl rfl (r_fieldBox (n := 1) (o' := 1) rfl Tryd.runUnderlying34 rfl Tryd.sizeOf9 (by decide) rfl) ?_
            refine run_same (v := Value.string ((rd z_api_Def a0.vDefs y1_0).vName)) rfl rfl (r_loadBox rfl Tryd.isAgg9 (HS7.look 0 rfl) rfl) ?_
            refine mupd (key_str Tryd.runUnderlying9) (i := 1) (k := ((rd z_api_Def a0.vDefs y1_0).vName)) (v := true) (ev := Value.bool) (m := y1_1) (by first | exact .inl rfl | exact .inr rfl) rfl rfl rfl rfl rfl Tryd.runUnderlying150 HS7 rfl hoy1_1 ?_
            intro w8 es1 cl1 HS8 ho1
            try simp only [List.set_cons_zero, List.set_cons_succ]
            refine run_nil ?_
            refine norm_block ?_
            refine norm_then ?_
            refine region ?_
            refine run_same (v := Value.int .i64 (IntKind.wrap .i64 (y1_0 + 1))) rfl rfl (r_bin rfl rfl rfl) ?_
            refine run_same (v := Value.int .i64 (IntKind.wrap .i64 (y1_0 + 1))) rfl rfl (r_move rfl) ?_
            try simp only [List.set_cons_zero, List.set_cons_succ]
            refine run_nil ?_
            refine again m [uy1_2, Value.pointer (some ⟨b3, 0, none⟩), Value.int .i64 (IntKind.wrap .i64 (y1_0 + 1)), Value.bool (decide (y1_0 < (a0.vDefs.length : Int))), Value.pointer (some (Addr.add ad1 (y1_0.toNat * 7))), Value.agg #[Value.int .i64 ((rd z_api_Def a0.vDefs y1_0).vKind), Value.string ((rd z_api_Def a0.vDefs y1_0).vName), Value.int .i64 ((rd z_api_Def a0.vDefs y1_0).vInt.vSize), Value.bool ((rd z_api_Def a0.vDefs y1_0).vInt.vSigned), Value.int .i64 ((rd z_api_Def a0.vDefs y1_0).vRef), Value.int .i64 ((rd z_api_Def a0.vDefs y1_0).vN), Value.slice Aad1_6 ((rd z_api_Def a0.vDefs y1_0).vFields).length cad1_6], Value.agg #[Value.int .i64 ((rd z_api_Def a0.vDefs y1_0).vKind), Value.string ((rd z_api_Def a0.vDefs y1_0).vName), Value.int .i64 ((rd z_api_Def a0.vDefs y1_0).vInt.vSize), Value.bool ((rd z_api_Def a0.vDefs y1_0).vInt.vSigned), Value.int .i64 ((rd z_api_Def a0.vDefs y1_0).vRef), Value.int .i64 ((rd z_api_Def a0.vDefs y1_0).vN), Value.slice Aad1_6 ((rd z_api_Def a0.vDefs y1_0).vFields).length cad1_6], Value.pointer (some ⟨b1, 0, none⟩), Value.slice A0_0 a0.vDefs.length c0_0, Value.int .i64 (a0.vDefs.length : Int), Value.bool v1, Value.bool (!v1), Value.bool (!v1), gv (true && ((!v1) == false)) (Value.agg #[Value.int .i64 ((rd z_api_Def a0.vDefs y1_0).vKind), Value.string ((rd z_api_Def a0.vDefs y1_0).vName), Value.int .i64 ((rd z_api_Def a0.vDefs y1_0).vInt.vSize), Value.bool ((rd z_api_Def a0.vDefs y1_0).vInt.vSigned), Value.int .i64 ((rd z_api_Def a0.vDefs y1_0).vRef), Value.int .i64 ((rd z_api_Def a0.vDefs y1_0).vN), Value.slice Aad1_6 ((rd z_api_Def a0.vDefs y1_0).vFields).length cad1_6]), gv (true && ((!v1) == false)) (Value.bool v2), gv (true && ((!v1) == false)) (Value.bool v2), gv ((true && ((!v1) == false)) && (v2 == true)) (Value.map (some b2)), gv ((true && ((!v1) == false)) && (v2 == true)) (Value.pointer (some ⟨b3, 1, none⟩)), gv ((true && ((!v1) == false)) && (v2 == true)) (Value.string ((rd z_api_Def a0.vDefs y1_0).vName)), gv ((true && ((!v1) == false)) && (v2 == true)) (Value.bool ((mfind strEq y1_1 ((rd z_api_Def a0.vDefs y1_0).vName)).getD false)), gv (true && ((!v1) == false)) (Value.bool (v2 && ((mfind strEq y1_1 ((rd z_api_Def a0.vDefs y1_0).vName)).getD false))), Value.bool ((!v1) || (v2 && ((mfind strEq y1_1 ((rd z_api_Def a0.vDefs y1_0).vName)).getD false))), Value.map (some b2), Value.pointer (some ⟨b3, 1, none⟩), Value.string ((rd z_api_Def a0.vDefs y1_0).vName), Value.int .i64 (IntKind.wrap .i64 (y1_0 + 1))] (Nat.lt_succ_self m) (by simp only [patch, List.set_cons_zero, List.set_cons_succ]) ⟨(IntKind.wrap .i64 (y1_0 + 1)), (mput strEq y1_1 ((rd z_api_Def a0.vDefs y1_0).vName) true), es1, cl1, _, _, _, _, _, _, _, _, _, _, _, _, _, _, _, _, _, _, _, _, _, _, _, _, _, rfl, H, ho1, HS8.tail⟩
        · replace H := of_neg H (nt c2)
          refine wp_exit ?_
          refine exit_then ?_
          obtain rfl := Option.some.inj H
          refine leave [uy1_2, uy1_5, Value.int .i64 y1_0, Value.bool (decide (y1_0 < (a0.vDefs.length : Int))), uy1_18, uy1_19, uy1_20, uy1_21, uy1_22, uy1_23, uy1_24, uy1_25, uy1_26, uy1_27, uy1_28, uy1_29, uy1_30, uy1_31, uy1_32, uy1_33, uy1_34, uy1_35, uy1_36, uy1_37, uy1_38, uy1_39] (by simp only [patch, List.set_cons_zero, List.set_cons_succ]) ⟨_, rfl, esy1_1, cly1_1, _, _, _, _, _, _, _, _, _, _, _, _, _, _, _, _, _, _, _, _, _, _, _, _, _, _, rfl, hoy1_1, HS3⟩
    · rintro us w9 ⟨s1, rfl, eso1_0, clo1_0, uo1_2, uo1_5, uo1_16, uo1_17, uo1_18, uo1_19, uo1_20, uo1_21, uo1_22, uo1_23, uo1_24, uo1_25, uo1_26, uo1_27, uo1_28, uo1_29, uo1_30, uo1_31, uo1_32, uo1_33, uo1_34, uo1_35, uo1_36, uo1_37, uo1_38, uo1_39, rfl, hoo1_0, HS9⟩
      replace H := G1
      clear G1
      try simp only [patch, List.set_cons_zero, List.set_cons_succ]
      refine norm_then ?_
      refine wp_seq ?_
      refine region ?_
      refine run_same (v := Value.agg #[Value.slice A0_0 a0.vDefs.length c0_0]) rfl rfl (r_loadBoxAgg (n := 1) (vs := [Value.slice A0_0 a0.vDefs.length c0_0]) rfl Tryd.isAgg24 (HS9.look 1 rfl) Tryd.sizeOf24 rfl rfl) ?_
      obtain ⟨v3, H3, H⟩ := of_bind H
      refine run_ex rfl rfl (does_call Tryd.call44 rfl (gives_in (h := h0) (R := (fun hx u => ∃ (Av3_0_0 : Option Addr) (cv3_0_0 : Nat), u = Value.tuple #[Value.slice Av3_0_0 v3.1.length cv3_0_0, Value.bool v3.2] ∧ v3.1.length ≤ cv3_0_0 ∧ Rd (Kd.int .i64) hx Av3_0_0 v3.1)) (Ext.rfl' w9) ((ctf_sizes.calls k a0 A0_0 c0_0 HS9.sees hr0_0 hc0_0 H3).mono ?_)) rfl) ?_
      · rintro _ _ ⟨h1, Av3_0_0, cv3_0_0, rfl, hcv3_0_0, hrv3_0_0, g, ss, x⟩
        exact ⟨h1, _, rfl, ⟨Av3_0_0, cv3_0_0, rfl, hcv3_0_0, hrv3_0_0⟩, g, ss, x⟩
      rintro w10 _ hE5 ⟨h1, ⟨Av3_0_0, cv3_0_0, rfl, hcv3_0_0, hrv3_0_0⟩, gr1, se1⟩
      have HS10 := HS9.view hE5 gr1 se1
      refine run_same (v := Value.tuple #[Value.slice Av3_0_0 v3.1.length cv3_0_0, Value.bool v3.2]) rfl rfl (r_move rfl) ?_
      refine run_same (v := Value.slice Av3_0_0 v3.1.length cv3_0_0) rfl rfl (r_extract rfl rfl) ?_
      refine run_frame (by simp only [List.set_cons_zero, List.set_cons_succ]; rfl) ?_
      refine run_same (v := Value.bool v3.2) rfl rfl (r_extract rfl rfl) ?_
      refine run_ex rfl rfl (does_alloc (cs := #[Value.slice none 0 0]) Tryd.zeroValue62 rfl) ?_
      rintro w11 _ hE6 ⟨b4, rfl, ge3, hb3⟩
      have HS11 := HS10.new hE6 ge3 hb3
      refine run_st (i := 0) (cs := [Value.slice none 0 0]) (cs' := [Value.slice Av3_0_0 v3.1.length cv3_0_0]) (vs := [Value.slice Av3_0_0 v3.1.length cv3_0_0]) (bs' := [(some b4, .cells #[Value.slice Av3_0_0 v3.1.length cv3_0_0] 62 (0, 0)), (some b2, .map eso1_0 clo1_0), (some b1, .cells #[Value.slice A0_0 a0.vDefs.length c0_0] 24 (0, 0))]) rfl rfl Tryd.sizeOf62 rfl rfl (by decide) rfl HS11 rfl (Nat.le_of_ble_eq_true rfl) rfl rfl ?_
      intro w12 HS12
      refine run_same (v := Value.bool v3.2) rfl rfl (r_assign rfl) ?_
      try simp only [List.set_cons_zero, List.set_cons_succ]
      refine run_nil ?_
      refine norm_then ?_
      refine wp_seq ?_
      refine wp_seq ?_
      refine region ?_
      refine run_same (v := Value.bool v3.2) rfl rfl (r_move rfl) ?_
      refine run_same (v := Value.bool (!v3.2)) rfl rfl (r_not rfl) ?_
      refine run_same (v := Value.bool (!v3.2)) rfl rfl (r_move rfl) ?_
      refine run_g_same (b := (!v3.2)) (c := true) (v := Value.agg #[Value.slice A0_0 a0.vDefs.length c0_0]) rfl rfl rfl rfl (fun hg => (r_loadBoxAgg (n := 1) (vs := [Value.slice A0_0 a0.vDefs.length c0_0]) rfl Tryd.isAgg24 (HS12.look 2 rfl) Tryd.sizeOf24 rfl rfl)) ?_
      refine run_frame (by simp only [List.set_cons_zero, List.set_cons_succ]; rfl) ?_
      obtain ⟨v4, H4, H⟩ := of_bind H
      refine run_g (b := (!v3.2)) (c := true) (v := Value.bool v4) rfl rfl rfl rfl (fun hg => (does_call_eq Tryd.call90 rfl (map1 ((show _ = gv (true && ((!v3.2) == false)) (Value.agg #[Value.slice A0_0 a0.vDefs.length c0_0]) from rfl).trans (gv_t hg))) (ctf_ends.calls k a0 A0_0 c0_0 HS12.sees (hr0_0.ext HS12.sub) hc0_0 (of_pos H4 hg)))) ?_
      intro w13 hE7
      have HS13 := HS12.step hE7
      refine run_g_same (b := (!v3.2)) (c := true) (v := Value.bool (!v4)) rfl rfl rfl rfl (fun hg => (r_not ((show _ = gv (true && ((!v3.2) == false)) (Value.bool v4) from rfl).trans (gv_t hg)))) ?_
      refine run_same (v := Value.bool ((!v3.2) || (!v4))) rfl rfl (r_pick_or rfl rfl (fun hp => ((show _ = gv (true && ((!v3.2) == false)) (Value.bool (!v4)) from rfl).trans (gv_t (and_i rfl hp))))) ?_
      try simp only [List.set_cons_zero, List.set_cons_succ]
      refine run_nil ?_
      refine norm_then ?_
      refine wp_cond_split (t := ((!v3.2) || (!v4))) rfl (fun c4 => ?_) (fun c4 => ?_)
      · replace H := of_pos H c4
        refine wp_seq ?_
        refine region ?_
        refine run_same (v := Value.bool false) rfl rfl (r_assign rfl) ?_
        try simp only [List.set_cons_zero, List.set_cons_succ]
        refine run_nil ?_
        refine norm_then ?_
        refine wp_ret ?_
        refine ret_then ?_
        obtain rfl := Option.some.inj H
        refine bodyPost_ret (results_1 rfl (one_tmp rfl)) rfl ?_
        exact ⟨rfl, HS13.toE⟩
      · replace H := of_neg H (nt c4)
        refine wp_skip ?_
        refine norm_then ?_
        refine wp_seq ?_
        refine region ?_
        refine run_same (v := Value.pointer (some ⟨b1, 0, none⟩)) rfl rfl (r_fieldBox (n := 1) (o' := 0) rfl Tryd.runUnderlying24 rfl Tryd.sizeOf22 (by decide) rfl) ?_
        refine run_same (v := Value.slice A0_0 a0.vDefs.length c0_0) rfl rfl (r_loadBox rfl Tryd.isAgg22 (HS13.look 2 rfl) rfl) ?_
        refine run_same (v := Value.func (.func 92) #[] #[Value.pointer (some ⟨b4, 0, none⟩)]) rfl rfl (r_makeFunc (vs := [Value.pointer (some ⟨b4, 0, none⟩)]) rfl) ?_
        obtain ⟨v5, H5, H⟩ := of_bind H
        refine run_eq (v := Value.bool v5) rfl rfl (does_call_eq Tryd.call91 rfl rfl (slices_ContainsFunc_api_Def_api_Def.calls k a0.vDefs (fun z0 => ctf_valid_1.f k z0 v3.1) A0_0 c0_0 92 [Value.pointer (some ⟨b4, 0, none⟩)] HS13.sees (hr0_0.ext HS13.sub) hc0_0 Tryd.call92 (fun z0 Az0_6 cz0_6 h w hE hs hv hz0_6 hzc0_6 r H => ctf_valid_1.calls k z0 v3.1 Az0_6 cz0_6 b4 Av3_0_0 cv3_0_0 hv hz0_6 hzc0_6 (hrv3_0_0.ext hs) hcv3_0_0 (heap_ext (HS13.look 0 rfl) hE) H) H5)) ?_
        intro w14 hE8
        have HS14 := HS13.step hE8
        refine run_frame (by simp only [List.set_cons_zero, List.set_cons_succ]; rfl) ?_
        refine run_same (v := Value.bool (!v5)) rfl rfl (r_not rfl) ?_
        refine run_same (v := Value.bool (!v5)) rfl rfl (r_assign rfl) ?_
        try simp only [List.set_cons_zero, List.set_cons_succ]
        refine run_nil ?_
        refine norm_then ?_
        refine wp_ret ?_
        obtain rfl := Option.some.inj H
        refine bodyPost_ret (results_1 rfl (one_tmp rfl)) rfl ?_
        exact ⟨rfl, HS14.toE⟩

end Go.Proofs.YtfjppgobidjndaaDoor
namespace Go.Proofs.YtfjppgobidjndaaDoor
open Go.RowKit Go.M
def ctf_given.f (k : Nat) (a0 : api_Types) (a1 : Int) : Option (Int) := (ctf_valid.f k a0).bind fun v1 => (if (!v1) = true then (some 80) else (if ((decide (a1 < 0)) || (decide (a1 ≥ (a0.vDefs.length : Int)))) = true then (some 3) else (some 0)))
set_option maxRecDepth 20000 in
set_option maxHeartbeats 4000000 in
theorem ctf_given.calls (k : Nat) (a0 : api_Types) (a1 : Int) (A0_0 : Option Addr) (c0_0 : Nat) {h0 : View} {w0 : World} (hv : Sees h0 w0) (hr0_0 : Rd k_api_Def h0 A0_0 a0.vDefs) (hc0_0 : a0.vDefs.length ≤ c0_0) {r : Int} (H : ctf_given.f k a0 a1 = some r) : Calls Tryd.prog 43 #[Value.agg #[Value.slice A0_0 a0.vDefs.length c0_0], Value.int .i64 a1] w0 (fun e w1 => e = .returned (Value.int .i64 r) ∧ Ext w0 w1) := by
  unfold ctf_given.f at H
  have HS : St [] h0 w0 h0 [] w0 := St.init hv
  go_enter Tryd.func43, Tryd.ntmps43
  refine wp_seq ?_
  refine region ?_
  refine run_ex rfl rfl (does_box (cs := #[Value.slice A0_0 a0.vDefs.length c0_0]) rfl rfl) ?_
  rintro w1 _ hE1 ⟨b1, rfl, ge1, hb1⟩
  have HS1 := HS.new hE1 ge1 hb1
  refine run_same (v := Value.int .i64 0) rfl rfl (r_assign rfl) ?_
  try simp only [List.set_cons_zero, List.set_cons_succ]
  refine run_nil ?_
  refine norm_then ?_
  refine wp_seq ?_
  refine wp_block ?_
  refine wp_seq ?_
  refine region ?_
  refine run_same (v := Value.agg #[Value.slice A0_0 a0.vDefs.length c0_0]) rfl rfl (r_loadBoxAgg (n := 1) (vs := [Value.slice A0_0 a0.vDefs.length c0_0]) rfl Tryd.isAgg24 (HS1.look 0 rfl) Tryd.sizeOf24 rfl rfl) ?_
  obtain ⟨v1, H1, H⟩ := of_bind H
  refine run_eq (v := Value.bool v1) rfl rfl (does_call_eq Tryd.call47 rfl rfl (ctf_valid.calls k a0 A0_0 c0_0 HS1.sees hr0_0 hc0_0 H1)) ?_
  intro w2 hE2
  have HS2 := HS1.step hE2
  refine run_same (v := Value.bool (!v1)) rfl rfl (r_not rfl) ?_
  refine run_same (v := Value.bool (!v1)) rfl rfl (r_assign rfl) ?_
  try simp only [List.set_cons_zero, List.set_cons_succ]
  refine run_nil ?_
  refine norm_then ?_
  refine wp_cond_split (t := (!v1)) rfl (fun c1 => ?_) (fun c1 => ?_)
  · replace H := of_pos H c1
    refine wp_seq ?_
    refine region ?_
    refine run_same (v := Value.int .i64 80) rfl rfl (r_assign rfl) ?_
    try simp only [List.set_cons_zero, List.set_cons_succ]
    refine run_nil ?_
    refine norm_then ?_
    refine wp_ret ?_
    refine ret_block ?_
    refine ret_then ?_
    obtain rfl := Option.some.inj H
    refine bodyPost_ret (results_1 rfl (one_tmp rfl)) rfl ?_
    exact ⟨rfl, HS2.toE⟩
  · replace H := of_neg H (nt c1)
    refine wp_seq ?_
    refine region ?_
    refine run_same (v := Value.int .i64 a1) rfl rfl (r_move rfl) ?_
    refine run_same (v := Value.bool (decide (a1 < 0))) rfl rfl (r_bin rfl rfl rfl) ?_
    refine run_same (v := Value.bool (decide (a1 < 0))) rfl rfl (r_move rfl) ?_
    refine run_g_same (b := (decide (a1 < 0))) (c := true) (v := Value.int .i64 a1) rfl rfl rfl rfl (fun hg => (r_move rfl)) ?_
    refine run_frame (by simp only [List.set_cons_zero, List.set_cons_succ]; rfl) ?_
    refine run_g_same (b := (decide (a1 < 0))) (c := true) (v := Value.pointer (some ⟨b1, 0, none⟩)) rfl rfl rfl rfl (fun hg => (r_fieldBox (n := 1) (o' := 0) rfl Tryd.runUnderlying24 rfl Tryd.sizeOf22 (by decide) rfl)) ?_
    refine run_g_same (b := (decide (a1 < 0))) (c := true) (v := Value.slice A0_0 a0.vDefs.length c0_0) rfl rfl rfl rfl (fun hg => (r_loadBox ((show _ = gv (true && ((decide (a1 < 0)) == false)) (Value.pointer (some ⟨b1, 0, none⟩)) from rfl).trans (gv_t hg)) Tryd.isAgg22 (HS2.look 0 rfl) rfl)) ?_
    refine run_g_same (b := (decide (a1 < 0))) (c := true) (v := Value.int .i64 (a0.vDefs.length : Int)) rfl rfl rfl rfl (fun hg => (r_len ((show _ = gv (true && ((decide (a1 < 0)) == false)) (Value.slice A0_0 a0.vDefs.length c0_0) from rfl).trans (gv_t hg)) Tryd.runUnderlying22)) ?_
    refine run_g_same (b := (decide (a1 < 0))) (c := true) (v := Value.bool (decide (a1 ≥ (a0.vDefs.length : Int)))) rfl rfl rfl rfl (fun hg => (r_bin ((show _ = gv (true && ((decide (a1 < 0)) == false)) (Value.int .i64 a1) from rfl).trans (gv_t hg)) ((show _ = gv (true && ((decide (a1 < 0)) == false)) (Value.int .i64 (a0.vDefs.length : Int)) from rfl).trans (gv_t hg)) rfl)) ?_
    refine run_frame (by simp only [List.set_cons_zero, List.set_cons_succ]; rfl) ?_
    refine run_same (v := Value.bool ((decide (a1 < 0)) || (decide (a1 ≥ (a0.vDefs.length : Int))))) rfl rfl (r_pick_or rfl rfl (fun hp => ((show _ = gv (true && ((decide (a1 < 0)) == false)) (Value.bool (decide (a1 ≥ (a0.vDefs.length : Int)))) from rfl).trans (gv_t (and_i rfl hp))))) ?_
    refine run_same (v := Value.bool ((decide (a1 < 0)) || (decide (a1 ≥ (a0.vDefs.length : Int))))) rfl rfl (r_assign rfl) ?_
    try simp only [List.set_cons_zero, List.set_cons_succ]
    refine run_nil ?_
    refine norm_then ?_
    refine wp_cond_split (t := ((decide (a1 < 0)) || (decide (a1 ≥ (a0.vDefs.length : Int))))) rfl (fun c2 => ?_) (fun c2 => ?_)
    · replace H := of_pos H c2
      refine wp_seq ?_
      refine region ?_
      refine run_same (v := Value.int .i64 3) rfl rfl (r_assign rfl) ?_
      try simp only [List.set_cons_zero, List.set_cons_succ]
      refine run_nil ?_
      refine norm_then ?_
      refine wp_ret ?_
      refine ret_block ?_
      refine ret_then ?_
      obtain rfl := Option.some.inj H
      refine bodyPost_ret (results_1 rfl (one_tmp rfl)) rfl ?_
      exact ⟨rfl, HS2.toE⟩
    · replace H := of_neg H (nt c2)
      refine wp_skip ?_
      refine norm_block ?_
      refine norm_then ?_
      refine wp_seq ?_
      refine region ?_
      refine run_same (v := Value.int .i64 0) rfl rfl (r_assign rfl) ?_
      try simp only [List.set_cons_zero, List.set_cons_succ]
      refine run_nil ?_
      refine norm_then ?_
      refine wp_ret ?_
      obtain rfl := Option.some.inj H
      refine bodyPost_ret (results_1 rfl (one_tmp rfl)) rfl ?_
      exact ⟨rfl, HS2.toE⟩

end Go.Proofs.YtfjppgobidjndaaDoor
namespace Go.Proofs.YtfjppgobidjndaaDoor
open Go.RowKit Go.M
def ctf_resolved.l0 (a0 : api_Types) : Nat → Int → Option (Int)
  | 0, _ => none
  | m + 1, y1_0 => if 0 ≤ y1_0 ∧ y1_0 < a0.vDefs.length then (if ((rd z_api_Def a0.vDefs y1_0).vKind == 6) = true then (if 0 ≤ y1_0 ∧ y1_0 < a0.vDefs.length then (ctf_resolved.l0 a0 m ((rd z_api_Def a0.vDefs y1_0).vRef)) else none) else (some y1_0)) else none
def ctf_resolved.f (k : Nat) (a0 : api_Types) (a1 : Int) : Option (Int) := (ctf_resolved.l0 a0 k a1).bind fun xx1 => (some xx1)
set_option maxRecDepth 20000 in
set_option maxHeartbeats 4000000 in
theorem ctf_resolved.calls (k : Nat) (a0 : api_Types) (a1 : Int) (A0_0 : Option Addr) (c0_0 : Nat) {h0 : View} {w0 : World} (hv : Sees h0 w0) (hr0_0 : Rd k_api_Def h0 A0_0 a0.vDefs) (hc0_0 : a0.vDefs.length ≤ c0_0) {r : Int} (H : ctf_resolved.f k a0 a1 = some r) : Calls Tryd.prog 45 #[Value.agg #[Value.slice A0_0 a0.vDefs.length c0_0], Value.int .i64 a1] w0 (fun e w1 => e = .returned (Value.int .i64 r) ∧ Ext w0 w1) := by
  unfold ctf_resolved.f at H
  have HS : St [] h0 w0 h0 [] w0 := St.init hv
  go_enter Tryd.func45, Tryd.ntmps45
  refine wp_seq ?_
  refine region ?_
  refine run_ex rfl rfl (does_box (cs := #[Value.slice A0_0 a0.vDefs.length c0_0]) rfl rfl) ?_
  rintro w1 _ hE1 ⟨b1, rfl, ge1, hb1⟩
  have HS1 := HS.new hE1 ge1 hb1
  refine run_same (v := Value.int .i64 0) rfl rfl (r_assign rfl) ?_
  try simp only [List.set_cons_zero, List.set_cons_succ]
  refine run_nil ?_
  refine norm_then ?_
  refine wp_seq ?_
  obtain ⟨xx1, H, G1⟩ := of_bind H
  refine loop_patch [1, 5, 6, 7, 8, 9, 10, 11, 12, 13, 14, 15, 16, 17] (fun m us w' => ∃ (y1_0 : Int), ∃ (uy1_5 : Value), ∃ (uy1_6 : Value), ∃ (uy1_7 : Value), ∃ (uy1_8 : Value), ∃ (uy1_9 : Value), ∃ (uy1_10 : Value), ∃ (uy1_11 : Value), ∃ (uy1_12 : Value), ∃ (uy1_13 : Value), ∃ (uy1_14 : Value), ∃ (uy1_15 : Value), ∃ (uy1_16 : Value), ∃ (uy1_17 : Value), us = [Value.int .i64 y1_0, uy1_5, uy1_6, uy1_7, uy1_8, uy1_9, uy1_10, uy1_11, uy1_12, uy1_13, uy1_14, uy1_15, uy1_16, uy1_17] ∧ ctf_resolved.l0 a0 m y1_0 = some xx1 ∧ St [] h0 w0 h0 [(some b1, .cells #[Value.slice A0_0 a0.vDefs.length c0_0] 24 (0, 0))] w') (fun us w' => ∃ (uo1_5 : Value), ∃ (uo1_6 : Value), ∃ (uo1_7 : Value), ∃ (uo1_8 : Value), ∃ (uo1_9 : Value), ∃ (uo1_10 : Value), ∃ (uo1_11 : Value), ∃ (uo1_12 : Value), ∃ (uo1_13 : Value), ∃ (uo1_14 : Value), ∃ (uo1_15 : Value), ∃ (uo1_16 : Value), ∃ (uo1_17 : Value), us = [Value.int .i64 xx1, uo1_5, uo1_6, uo1_7, uo1_8, uo1_9, uo1_10, uo1_11, uo1_12, uo1_13, uo1_14, uo1_15, uo1_16, uo1_17] ∧ St [] h0 w0 h0 [(some b1, .cells #[Value.slice A0_0 a0.vDefs.length c0_0] 24 (0, 0))] w') k [Value.int .i64 a1, undef, undef, undef, undef, undef, undef, undef, undef, undef, undef, undef, undef, undef] (by simp only [patch, List.set_cons_zero, List.set_cons_succ]) ⟨a1, _, _, _, _, _, _, _, _, _, _, _, _, _, rfl, H, HS1⟩ ?_ ?_
  · rintro m us w2 ⟨y1_0, uy1_5, uy1_6, uy1_7, uy1_8, uy1_9, uy1_10, uy1_11, uy1_12, uy1_13, uy1_14, uy1_15, uy1_16, uy1_17, rfl, H, HS2⟩
    cases m with
    | zero => exact absurd H (by simp [ctf_resolved.l0])
    | succ m =>
      rw [ctf_resolved.l0] at H
      try simp only [patch, List.set_cons_zero, List.set_cons_succ]
      refine wp_seq ?_
      refine wp_seq ?_
      refine region ?_
      refine run_same (v := Value.pointer (some ⟨b1, 0, none⟩)) rfl rfl (r_fieldBox (n := 1) (o' := 0) rfl Tryd.runUnderlying24 rfl Tryd.sizeOf22 (by decide) rfl) ?_
      refine run_same (v := Value.slice A0_0 a0.vDefs.length c0_0) rfl rfl (r_loadBox rfl Tryd.isAgg22 (HS2.look 0 rfl) rfl) ?_
      refine run_same (v := Value.int .i64 y1_0) rfl rfl (r_move rfl) ?_
      obtain ⟨hi1, H⟩ := of_ite H
      obtain ⟨ad1, Aad1_6, cad1_6, e1, hel1, hcad1_6, hrad1_6⟩ := ld_api_Def hr0_0 hi1.1 hi1.2
      refine run_same (v := Value.pointer (some (Addr.add ad1 (y1_0.toNat * 7)))) rfl rfl (r_indexA (sz := 7) rfl e1 rfl hi1.1 hi1.2 Tryd.runUnderlying22 Tryd.sizeOf34) ?_
      refine run_frame (by simp only [List.set_cons_zero, List.set_cons_succ]; rfl) ?_
      refine run_same (v := Value.pointer (some (Addr.add (Addr.add ad1 (y1_0.toNat * 7)) 0))) rfl rfl (r_fieldEl (n := 1) (o' := 0) rfl Tryd.runUnderlying34 rfl Tryd.sizeOf3 (by decide) rfl) ?_
      refine run_same (v := Value.int .i64 ((rd z_api_Def a0.vDefs y1_0).vKind)) rfl rfl (r_load rfl Tryd.isAgg3 (hel1.cell HS2.sees 0 rfl)) ?_
      refine run_same (v := Value.bool ((rd z_api_Def a0.vDefs y1_0).vKind == 6)) rfl rfl (r_bin rfl rfl rfl) ?_
      try simp only [List.set_cons_zero, List.set_cons_succ]
      refine run_nil ?_
      refine norm_then ?_
      refine wp_cond_split (t := ((rd z_api_Def a0.vDefs y1_0).vKind == 6)) rfl (fun c1 => ?_) (fun c1 => ?_)
      · replace H := of_pos H c1
        refine wp_skip ?_
        refine norm_then ?_
        refine wp_block ?_
        refine region ?_
        refine run_same (v := Value.pointer (some ⟨b1, 0, none⟩)) rfl rfl (r_fieldBox (n := 1) (o' := 0) rfl Tryd.runUnderlying24 rfl Tryd.sizeOf22 (by decide) rfl) ?_
        refine run_same (v := Value.slice A0_0 a0.vDefs.length c0_0) rfl rfl (r_loadBox rfl Tryd.isAgg22 (HS2.look 0 rfl) rfl) ?_
        refine run_same (v := Value.int .i64 y1_0) rfl rfl (r_move rfl) ?_
        obtain ⟨hi2, H⟩ := of_ite H
        obtain ⟨ad2, Aad2_6, cad2_6, e2, hel2, hcad2_6, hrad2_6⟩ := ld_api_Def hr0_0 hi2.1 hi2.2
        refine run_same (v := Value.pointer (some (Addr.add ad2 (y1_0.toNat * 7)))) rfl rfl (r_indexA (sz := 7) rfl e2 rfl hi2.1 hi2.2 Tryd.runUnderlying22 Tryd.sizeOf34) ?_
        refine run_frame (by simp only [List.set_cons_zero, List.set_cons_succ]; rfl) ?_
        refine run_same (v := Value.pointer (some (Addr.add (Addr.add ad2 (y1_0.toNat * 7)) 4))) rfl rfl (r_fieldEl (n := 1) (o' := 4) rfl Tryd.runUnderlying34 rfl Tryd.sizeOf3 (by decide) rfl) ?_
        refine run_same (v := Value.int .i64 ((rd z_api_Def a0.vDefs y1_0).vRef)) rfl rfl (r_load rfl Tryd.isAgg3 (hel2.cell HS2.sees 4 rfl)) ?_
        refine run_same (v := Value.int .i64 ((rd z_api_Def a0.vDefs y1_0).vRef)) rfl rfl (r_assign rfl) ?_
        try simp only [List.set_cons_zero, List.set_cons_succ]
        refine run_nil ?_
        refine norm_block ?_
        refine again m [Value.int .i64 ((rd z_api_Def a0.vDefs y1_0).vRef), Value.pointer (some ⟨b1, 0, none⟩), Value.slice A0_0 a0.vDefs.length c0_0, Value.int .i64 y1_0, Value.pointer (some (Addr.add ad1 (y1_0.toNat * 7))), Value.pointer (some (Addr.add (Addr.add ad1 (y1_0.toNat * 7)) 0)), Value.int .i64 ((rd z_api_Def a0.vDefs y1_0).vKind), Value.bool ((rd z_api_Def a0.vDefs y1_0).vKind == 6), Value.pointer (some ⟨b1, 0, none⟩), Value.slice A0_0 a0.vDefs.length c0_0, Value.int .i64 y1_0, Value.pointer (some (Addr.add ad2 (y1_0.toNat * 7))), Value.pointer (some (Addr.add (Addr.add ad2 (y1_0.toNat * 7)) 4)), Value.int .i64 ((rd z_api_Def a0.vDefs y1_0).vRef)] (Nat.lt_succ_self m) (by simp only [patch, List.set_cons_zero, List.set_cons_succ]) ⟨(rd z_api_Def a0.vDefs y1_0).vRef, _, _, _, _, _, _, _, _, _, _, _, _, _, rfl, H, HS2⟩
      · replace H := of_neg H (nt c1)
        refine wp_exit ?_
        refine exit_then ?_
        obtain rfl := Option.some.inj H
        refine leave [Value.int .i64 y1_0, Value.pointer (some ⟨b1, 0, none⟩), Value.slice A0_0 a0.vDefs.length c0_0, Value.int .i64 y1_0, Value.pointer (some (Addr.add ad1 (y1_0.toNat * 7))), Value.pointer (some (Addr.add (Addr.add ad1 (y1_0.toNat * 7)) 0)), Value.int .i64 ((rd z_api_Def a0.vDefs y1_0).vKind), Value.bool ((rd z_api_Def a0.vDefs y1_0).vKind == 6), uy1_12, uy1_13, uy1_14, uy1_15, uy1_16, uy1_17] (by simp only [patch, List.set_cons_zero, List.set_cons_succ]) ⟨_, _, _, _, _, _, _, _, _, _, _, _, _, rfl, HS2⟩
  · rintro us w3 ⟨uo1_5, uo1_6, uo1_7, uo1_8, uo1_9, uo1_10, uo1_11, uo1_12, uo1_13, uo1_14, uo1_15, uo1_16, uo1_17, rfl, HS3⟩
    replace H := G1
    clear G1
    try simp only [patch, List.set_cons_zero, List.set_cons_succ]
    refine norm_then ?_
    refine wp_seq ?_
    refine region ?_
    refine run_same (v := Value.int .i64 xx1) rfl rfl (r_move rfl) ?_
    refine run_same (v := Value.int .i64 xx1) rfl rfl (r_assign rfl) ?_
    try simp only [List.set_cons_zero, List.set_cons_succ]
    refine run_nil ?_
    refine norm_then ?_
    refine wp_ret ?_
    obtain rfl := Option.some.inj H
    refine bodyPost_ret (results_1 rfl (one_tmp rfl)) rfl ?_
    exact ⟨rfl, HS3.toE⟩

end Go.Proofs.YtfjppgobidjndaaDoor
namespace Go.Proofs.YtfjppgobidjndaaDoor
open Go.RowKit Go.M
def ctf_member.l0 (a0 : api_Types) (a2 : ByteArray) (v1 : Int) : Nat → Int → Option ((api_Field × Int) ⊕ (Unit))
  | 0, _ => none
  | m + 1, y1_0 => if (decide (y1_0 < (((rd z_api_Def a0.vDefs v1).vFields).length : Int))) = true then (if 0 ≤ y1_0 ∧ y1_0 < ((rd z_api_Def a0.vDefs v1).vFields).length then (if (strEq ((rd z_api_Field ((rd z_api_Def a0.vDefs v1).vFields) y1_0).vName) a2) = true then (some (.inl ((rd z_api_Field ((rd z_api_Def a0.vDefs v1).vFields) y1_0), 0))) else (ctf_member.l0 a0 a2 v1 m (IntKind.wrap .i64 (y1_0 + 1)))) else none) else (some (.inr ()))
def ctf_member.f (k : Nat) (a0 : api_Types) (a1 : Int) (a2 : ByteArray) : Option (api_Field × Int) := (ctf_resolved.f k a0 a1).bind fun v1 => (if 0 ≤ v1 ∧ v1 < a0.vDefs.length then (if ((rd z_api_Def a0.vDefs v1).vKind != 4) = true then (some ((⟨ByteArray.empty, 0, 0⟩ : api_Field), 5)) else ((ctf_member.l0 a0 a2 v1 k 0).bind fun xx1 => (match xx1 with | .inl r => some r | .inr s1 => some ((⟨ByteArray.empty, 0, 0⟩ : api_Field), 3)))) else none)
set_option maxRecDepth 20000 in
set_option maxHeartbeats 4000000 in
theorem ctf_member.calls (k : Nat) (a0 : api_Types) (a1 : Int) (a2 : ByteArray) (A0_0 : Option Addr) (c0_0 : Nat) {h0 : View} {w0 : World} (hv : Sees h0 w0) (hr0_0 : Rd k_api_Def h0 A0_0 a0.vDefs) (hc0_0 : a0.vDefs.length ≤ c0_0) {r : api_Field × Int} (H : ctf_member.f k a0 a1 a2 = some r) : Calls Tryd.prog 46 #[Value.agg #[Value.slice A0_0 a0.vDefs.length c0_0], Value.int .i64 a1, Value.string a2] w0 (fun e w1 => e = .returned (Value.tuple #[Value.agg #[Value.string r.1.vName, Value.int .i64 r.1.vType, Value.int .i64 r.1.vAt], Value.int .i64 r.2]) ∧ Ext w0 w1) := by
  unfold ctf_member.f at H
  have HS : St [] h0 w0 h0 [] w0 := St.init hv
  go_enter Tryd.func46, Tryd.ntmps46
  refine wp_seq ?_
  refine region ?_
  refine run_ex rfl rfl (does_box (cs := #[Value.slice A0_0 a0.vDefs.length c0_0]) rfl rfl) ?_
  rintro w1 _ hE1 ⟨b1, rfl, ge1, hb1⟩
  have HS1 := HS.new hE1 ge1 hb1
  refine run_ex rfl rfl (does_alloc (cs := #[Value.string ByteArray.empty, Value.int .i64 0, Value.int .i64 0]) Tryd.zeroValue36 rfl) ?_
  rintro w2 _ hE2 ⟨b2, rfl, ge2, hb2⟩
  have HS2 := HS1.new hE2 ge2 hb2
  refine run_same (v := Value.int .i64 0) rfl rfl (r_assign rfl) ?_
  try simp only [List.set_cons_zero, List.set_cons_succ]
  refine run_nil ?_
  refine norm_then ?_
  refine wp_seq ?_
  obtain ⟨v1, H1, H⟩ := of_bind H
  obtain ⟨hi1, H⟩ := of_ite H
  obtain ⟨ad1, Aad1_6, cad1_6, e1, hel1, hcad1_6, hrad1_6⟩ := ld_api_Def hr0_0 hi1.1 hi1.2
  refine drawn [.eq (Value.pointer (some ⟨b1, 0, none⟩)), .eq (Value.slice A0_0 a0.vDefs.length c0_0), .eq (Value.agg #[Value.slice A0_0 a0.vDefs.length c0_0]), .eq (Value.int .i64 a1), .eq (Value.int .i64 v1), .eq (Value.pointer (some (Addr.add ad1 (v1.toNat * 7)))), .eq (Value.agg #[Value.int .i64 ((rd z_api_Def a0.vDefs v1).vKind), Value.string ((rd z_api_Def a0.vDefs v1).vName), Value.int .i64 ((rd z_api_Def a0.vDefs v1).vInt.vSize), Value.bool ((rd z_api_Def a0.vDefs v1).vInt.vSigned), Value.int .i64 ((rd z_api_Def a0.vDefs v1).vRef), Value.int .i64 ((rd z_api_Def a0.vDefs v1).vN), Value.slice Aad1_6 ((rd z_api_Def a0.vDefs v1).vFields).length cad1_6]), .ex (NewBox w2 #[Value.int .i64 0, Value.string ByteArray.empty, Value.int .i64 0, Value.bool false, Value.int .i64 0, Value.int .i64 0, Value.slice none 0 0] 34)] [11, 12, 13, 14, 15, 16, 17, 8] hmix (by kernel_rfl) rfl (stable_eq (stable_eq (stable_eq (stable_eq (stable_eq (stable_eq (stable_eq (stable_ex NewBox.stable stable_nil)))))))) ⟨ob_plain rfl (fun a' w' hE hk => by have HSd := HS2.step hE; exact does_eq (r_fieldBox (n := 1) (o' := 0) (show _ = Value.pointer (some ⟨b1, 0, none⟩) from hk 3 rfl) Tryd.runUnderlying24 rfl Tryd.sizeOf22 (by decide) rfl)), ob_plain rfl (fun a' w' hE hk => by have HSd := HS2.step hE; exact does_eq (r_loadBox (show _ = Value.pointer (some ⟨b1, 0, none⟩) from hk 11 rfl) Tryd.isAgg22 (HSd.look 1 rfl) rfl)), ob_plain rfl (fun a' w' hE hk => by have HSd := HS2.step hE; exact does_eq (r_loadBoxAgg (n := 1) (vs := [Value.slice A0_0 a0.vDefs.length c0_0]) (show _ = Value.pointer (some ⟨b1, 0, none⟩) from hk 3 rfl) Tryd.isAgg24 (HSd.look 1 rfl) Tryd.sizeOf24 rfl rfl)), ob_plain rfl (fun a' w' hE hk => by have HSd := HS2.step hE; exact does_eq (r_move (show _ = Value.int .i64 a1 from hk 1 rfl))), ob_plain rfl (fun a' w' hE hk => by have HSd := HS2.step hE; exact (does_call_eq Tryd.call45 rfl (map2 (show _ = Value.agg #[Value.slice A0_0 a0.vDefs.length c0_0] from hk 13 rfl) (show _ = Value.int .i64 a1 from hk 14 rfl)) (ctf_resolved.calls k a0 a1 A0_0 c0_0 HSd.sees hr0_0 hc0_0 H1))), ob_plain rfl (fun a' w' hE hk => by have HSd := HS2.step hE; exact does_eq (r_indexA (sz := 7) (show _ = Value.slice A0_0 a0.vDefs.length c0_0 from hk 12 rfl) e1 (show _ = Value.int .i64 v1 from hk 15 rfl) hi1.1 hi1.2 Tryd.runUnderlying22 Tryd.sizeOf34)), ob_plain rfl (fun a' w' hE hk => by have HSd := HS2.step hE; exact does_eq (r_loadAgg (show _ = Value.pointer (some (Addr.add ad1 (v1.toNat * 7))) from hk 16 rfl) Tryd.isAgg34 (hel1.sees HSd.sees) Tryd.sizeOf34)), ob_plain rfl (fun a' w' hE hk => (alloc_in hE (cs := #[Value.int .i64 0, Value.string ByteArray.empty, Value.int .i64 0, Value.bool false, Value.int .i64 0, Value.int .i64 0, Value.slice none 0 0]) Tryd.zeroValue34 rfl)), trivial⟩ ?_
  intro w3 hE3
  simp only [List.zip_cons_cons, List.zip_nil_left, List.zip_nil_right, finL, List.set_cons_zero, List.set_cons_succ, List.length_cons, List.length_nil, List.drop_succ_cons, List.drop_zero, Nat.zero_add, Nat.reduceAdd]
  rintro _ ⟨b3, rfl, ge3, hb3⟩
  have HS3 := HS2.new hE3 ge3 hb3
  refine run_st (i := 0) (cs := [Value.int .i64 0, Value.string ByteArray.empty, Value.int .i64 0, Value.bool false, Value.int .i64 0, Value.int .i64 0, Value.slice none 0 0]) (cs' := [Value.int .i64 ((rd z_api_Def a0.vDefs v1).vKind), Value.string ((rd z_api_Def a0.vDefs v1).vName), Value.int .i64 ((rd z_api_Def a0.vDefs v1).vInt.vSize), Value.bool ((rd z_api_Def a0.vDefs v1).vInt.vSigned), Value.int .i64 ((rd z_api_Def a0.vDefs v1).vRef), Value.int .i64 ((rd z_api_Def a0.vDefs v1).vN), Value.slice Aad1_6 ((rd z_api_Def a0.vDefs v1).vFields).length cad1_6]) (vs := [Value.int .i64 ((rd z_api_Def a0.vDefs v1).vKind), Value.string ((rd z_api_Def a0.vDefs v1).vName), Value.int .i64 ((rd z_api_Def a0.vDefs v1).vInt.vSize), Value.bool ((rd z_api_Def a0.vDefs v1).vInt.vSigned), Value.int .i64 ((rd z_api_Def a0.vDefs v1).vRef), Value.int .i64 ((rd z_api_Def a0.vDefs v1).vN), Value.slice Aad1_6 ((rd z_api_Def a0.vDefs v1).vFields).length cad1_6]) (bs' := [(some b3, .cells #[Value.int .i64 ((rd z_api_Def a0.vDefs v1).vKind), Value.string ((rd z_api_Def a0.vDefs v1).vName), Value.int .i64 ((rd z_api_Def a0.vDefs v1).vInt.vSize), Value.bool ((rd z_api_Def a0.vDefs v1).vInt.vSigned), Value.int .i64 ((rd z_api_Def a0.vDefs v1).vRef), Value.int .i64 ((rd z_api_Def a0.vDefs v1).vN), Value.slice Aad1_6 ((rd z_api_Def a0.vDefs v1).vFields).length cad1_6] 34 (0, 0)), (some b2, .cells #[Value.string ByteArray.empty, Value.int .i64 0, Value.int .i64 0] 36 (0, 0)), (some b1, .cells #[Value.slice A0_0 a0.vDefs.length c0_0] 24 (0, 0))]) rfl rfl Tryd.sizeOf34 rfl rfl (by decide) rfl HS3 rfl (Nat.le_of_ble_eq_true rfl) rfl rfl ?_
  intro w4 HS4
  try simp only [List.set_cons_zero, List.set_cons_succ]
  refine run_nil ?_
  refine norm_then ?_
  refine wp_seq ?_
  refine wp_seq ?_
  refine region ?_
  refine run_same (v := Value.pointer (some ⟨b3, 0, none⟩)) rfl rfl (r_fieldBox (n := 1) (o' := 0) rfl Tryd.runUnderlying34 rfl Tryd.sizeOf3 (by decide) rfl) ?_
  refine run_same (v := Value.int .i64 ((rd z_api_Def a0.vDefs v1).vKind)) rfl rfl (r_loadBox rfl Tryd.isAgg3 (HS4.look 0 rfl) rfl) ?_
  refine run_same (v := Value.bool ((rd z_api_Def a0.vDefs v1).vKind != 4)) rfl rfl (r_bin rfl rfl rfl) ?_
  try simp only [List.set_cons_zero, List.set_cons_succ]
  refine run_nil ?_
  refine norm_then ?_
  refine wp_cond_split (t := ((rd z_api_Def a0.vDefs v1).vKind != 4)) rfl (fun c1 => ?_) (fun c1 => ?_)
  · replace H := of_pos H c1
    refine wp_seq ?_
    refine region ?_
    refine run_same (v := Value.agg #[Value.string ByteArray.empty, Value.int .i64 0, Value.int .i64 0]) rfl rfl (r_build0 (cs := [Value.string ByteArray.empty, Value.int .i64 0, Value.int .i64 0]) Tryd.zeroValue36 Tryd.runUnderlying36 (pl := #[(0, 1), (1, 1), (2, 1)]) (fun w => by simp [Tryd.sizeOf3, Tryd.sizeOf9]) rfl) ?_
    refine run_st (i := 1) (cs := [Value.string ByteArray.empty, Value.int .i64 0, Value.int .i64 0]) (cs' := [Value.string ByteArray.empty, Value.int .i64 0, Value.int .i64 0]) (vs := [Value.string ByteArray.empty, Value.int .i64 0, Value.int .i64 0]) (bs' := [(some b3, .cells #[Value.int .i64 ((rd z_api_Def a0.vDefs v1).vKind), Value.string ((rd z_api_Def a0.vDefs v1).vName), Value.int .i64 ((rd z_api_Def a0.vDefs v1).vInt.vSize), Value.bool ((rd z_api_Def a0.vDefs v1).vInt.vSigned), Value.int .i64 ((rd z_api_Def a0.vDefs v1).vRef), Value.int .i64 ((rd z_api_Def a0.vDefs v1).vN), Value.slice Aad1_6 ((rd z_api_Def a0.vDefs v1).vFields).length cad1_6] 34 (0, 0)), (some b2, .cells #[Value.string ByteArray.empty, Value.int .i64 0, Value.int .i64 0] 36 (0, 0)), (some b1, .cells #[Value.slice A0_0 a0.vDefs.length c0_0] 24 (0, 0))]) rfl rfl Tryd.sizeOf36 rfl rfl (by decide) rfl HS4 rfl (Nat.le_of_ble_eq_true rfl) rfl rfl ?_
    intro w5 HS5
    refine run_same (v := Value.int .i64 5) rfl rfl (r_assign rfl) ?_
    try simp only [List.set_cons_zero, List.set_cons_succ]
    refine run_nil ?_
    refine norm_then ?_
    refine wp_ret ?_
    refine ret_then ?_
    obtain rfl := Option.some.inj H
    refine bodyPost_ret (results_2 rfl (one_agg rfl Tryd.isAgg36 (HS5.look 1 rfl) Tryd.sizeOf36 rfl) (one_tmp rfl)) rfl ?_
    exact ⟨rfl, HS5.toE⟩
  · replace H := of_neg H (nt c1)
    refine wp_skip ?_
    refine norm_then ?_
    refine wp_seq ?_
    refine wp_seq ?_
    refine region ?_
    refine run_same (v := Value.pointer (some ⟨b3, 6, none⟩)) rfl rfl (r_fieldBox (n := 1) (o' := 6) rfl Tryd.runUnderlying34 rfl Tryd.sizeOf32 (by decide) rfl) ?_
    refine run_same (v := Value.slice Aad1_6 ((rd z_api_Def a0.vDefs v1).vFields).length cad1_6) rfl rfl (r_loadBox rfl Tryd.isAgg32 (HS4.look 0 rfl) rfl) ?_
    refine run_same (v := Value.int .i64 (((rd z_api_Def a0.vDefs v1).vFields).length : Int)) rfl rfl (r_len rfl Tryd.runUnderlying32) ?_
    refine run_same (v := Value.int .i64 0) rfl rfl (r_move rfl) ?_
    try simp only [List.set_cons_zero, List.set_cons_succ]
    refine run_nil ?_
    refine norm_then ?_
    obtain ⟨xx1, H, G1⟩ := of_bind H
    refine loop_patch [7, 10, 25, 26, 27, 28, 29, 30, 31, 32, 33, 34] (fun m us w' => ∃ (y1_0 : Int), ∃ (uy1_7 : Value), ∃ (uy1_10 : Value), ∃ (uy1_26 : Value), ∃ (uy1_27 : Value), ∃ (uy1_28 : Value), ∃ (uy1_29 : Value), ∃ (uy1_30 : Value), ∃ (uy1_31 : Value), ∃ (uy1_32 : Value), ∃ (uy1_33 : Value), ∃ (uy1_34 : Value), us = [uy1_7, uy1_10, Value.int .i64 y1_0, uy1_26, uy1_27, uy1_28, uy1_29, uy1_30, uy1_31, uy1_32, uy1_33, uy1_34] ∧ ctf_member.l0 a0 a2 v1 m y1_0 = some xx1 ∧ St [] h0 w0 h0 [(some b3, .cells #[Value.int .i64 ((rd z_api_Def a0.vDefs v1).vKind), Value.string ((rd z_api_Def a0.vDefs v1).vName), Value.int .i64 ((rd z_api_Def a0.vDefs v1).vInt.vSize), Value.bool ((rd z_api_Def a0.vDefs v1).vInt.vSigned), Value.int .i64 ((rd z_api_Def a0.vDefs v1).vRef), Value.int .i64 ((rd z_api_Def a0.vDefs v1).vN), Value.slice Aad1_6 ((rd z_api_Def a0.vDefs v1).vFields).length cad1_6] 34 (0, 0)), (some b2, .cells #[Value.string ByteArray.empty, Value.int .i64 0, Value.int .i64 0] 36 (0, 0)), (some b1, .cells #[Value.slice A0_0 a0.vDefs.length c0_0] 24 (0, 0))] w') (fun us w' => ∃ (s1 : Unit), xx1 = .inr s1 ∧ ∃ (uo1_7 : Value), ∃ (uo1_10 : Value), ∃ (uo1_25 : Value), ∃ (uo1_26 : Value), ∃ (uo1_27 : Value), ∃ (uo1_28 : Value), ∃ (uo1_29 : Value), ∃ (uo1_30 : Value), ∃ (uo1_31 : Value), ∃ (uo1_32 : Value), ∃ (uo1_33 : Value), ∃ (uo1_34 : Value), us = [uo1_7, uo1_10, uo1_25, uo1_26, uo1_27, uo1_28, uo1_29, uo1_30, uo1_31, uo1_32, uo1_33, uo1_34] ∧ St [] h0 w0 h0 [(some b3, .cells #[Value.int .i64 ((rd z_api_Def a0.vDefs v1).vKind), Value.string ((rd z_api_Def a0.vDefs v1).vName), Value.int .i64 ((rd z_api_Def a0.vDefs v1).vInt.vSize), Value.bool ((rd z_api_Def a0.vDefs v1).vInt.vSigned), Value.int .i64 ((rd z_api_Def a0.vDefs v1).vRef), Value.int .i64 ((rd z_api_Def a0.vDefs v1).vN), Value.slice Aad1_6 ((rd z_api_Def a0.vDefs v1).vFields).length cad1_6] 34 (0, 0)), (some b2, .cells #[Value.string ByteArray.empty, Value.int .i64 0, Value.int .i64 0] 36 (0, 0)), (some b1, .cells #[Value.slice A0_0 a0.vDefs.length c0_0] 24 (0, 0))] w') k [Value.int .i64 0, undef, Value.int .i64 0, undef, undef, undef, undef, undef, undef, undef, undef, undef] (by simp only [patch, List.set_cons_zero, List.set_cons_succ]) ⟨0, _, _, _, _, _, _, _, _, _, _, _, rfl, H, HS4⟩ ?_ ?_
    · rintro m us w6 ⟨y1_0, uy1_7, uy1_10, uy1_26, uy1_27, uy1_28, uy1_29, uy1_30, uy1_31, uy1_32, uy1_33, uy1_34, rfl, H, HS6⟩
      cases m with
      | zero => exact absurd H (by simp [ctf_member.l0])
      | succ m =>
        rw [ctf_member.l0] at H
        try simp only [patch, List.set_cons_zero, List.set_cons_succ]
        refine wp_seq ?_
        refine region ?_
        refine run_same (v := Value.bool (decide (y1_0 < (((rd z_api_Def a0.vDefs v1).vFields).length : Int)))) rfl rfl (r_bin rfl rfl rfl) ?_
        try simp only [List.set_cons_zero, List.set_cons_succ]
        refine run_nil ?_
        refine norm_then ?_
        refine wp_seq ?_
        refine wp_cond_split (t := (decide (y1_0 < (((rd z_api_Def a0.vDefs v1).vFields).length : Int)))) rfl (fun c2 => ?_) (fun c2 => ?_)
        · replace H := of_pos H c2
          refine wp_skip ?_
          refine norm_then ?_
          refine wp_seq ?_
          refine wp_block ?_
          refine wp_seq ?_
          refine region ?_
          obtain ⟨hi2, H⟩ := of_ite H
          obtain ⟨ad2, e2, hel2⟩ := ld_api_Field hrad1_6 hi2.1 hi2.2
          refine run_same (v := Value.pointer (some (Addr.add ad2 (y1_0.toNat * 3)))) rfl rfl (r_indexA (sz := 3) rfl e2 rfl hi2.1 hi2.2 Tryd.runUnderlying32 Tryd.sizeOf36) ?_
          refine run_same (v := Value.agg #[Value.string ((rd z_api_Field ((rd z_api_Def a0.vDefs v1).vFields) y1_0).vName), Value.int .i64 ((rd z_api_Field ((rd z_api_Def a0.vDefs v1).vFields) y1_0).vType), Value.int .i64 ((rd z_api_Field ((rd z_api_Def a0.vDefs v1).vFields) y1_0).vAt)]) rfl rfl (r_loadAgg rfl Tryd.isAgg36 (hel2.sees HS6.sees) Tryd.sizeOf36) ?_
          refine run_ex rfl rfl (does_alloc (cs := #[Value.string ByteArray.empty, Value.int .i64 0, Value.int .i64 0]) Tryd.zeroValue36 rfl) ?_
          rintro w7 _ hE4 ⟨b4, rfl, ge4, hb4⟩
          have HS7 := HS6.new hE4 ge4 hb4
          refine run_st (i := 0) (cs := [Value.string ByteArray.empty, Value.int .i64 0, Value.int .i64 0]) (cs' := [Value.string ((rd z_api_Field ((rd z_api_Def a0.vDefs v1).vFields) y1_0).vName), Value.int .i64 ((rd z_api_Field ((rd z_api_Def a0.vDefs v1).vFields) y1_0).vType), Value.int .i64 ((rd z_api_Field ((rd z_api_Def a0.vDefs v1).vFields) y1_0).vAt)]) (vs := [Value.string ((rd z_api_Field ((rd z_api_Def a0.vDefs v1).vFields) y1_0).vName), Value.int .i64 ((rd z_api_Field ((rd z_api_Def a0.vDefs v1).vFields) y1_0).vType), Value.int .i64 ((rd z_api_Field ((rd z_api_Def a0.vDefs v1).vFields) y1_0).vAt)]) (bs' := [(some b4, .cells #[Value.string ((rd z_api_Field ((rd z_api_Def a0.vDefs v1).vFields) y1_0).vName), Value.int .i64 ((rd z_api_Field ((rd z_api_Def a0.vDefs v1).vFields) y1_0).vType), Value.int .i64 ((rd z_api_Field ((rd z_api_Def a0.vDefs v1).vFields) y1_0).vAt)] 36 (0, 0)), (some b3, .cells #[Value.int .i64 ((rd z_api_Def a0.vDefs v1).vKind), Value.string ((rd z_api_Def a0.vDefs v1).vName), Value.int .i64 ((rd z_api_Def a0.vDefs v1).vInt.vSize), Value.bool ((rd z_api_Def a0.vDefs v1).vInt.vSigned), Value.int .i64 ((rd z_api_Def a0.vDefs v1).vRef), Value.int .i64 ((rd z_api_Def a0.vDefs v1).vN), Value.slice Aad1_6 ((rd z_api_Def a0.vDefs v1).vFields).length cad1_6] 34 (0, 0)), (some b2, .cells #[Value.string ByteArray.empty, Value.int .i64 0, Value.int .i64 0] 36 (0, 0)), (some b1, .cells #[Value.slice A0_0 a0.vDefs.length c0_0] 24 (0, 0))]) rfl rfl Tryd.sizeOf36 rfl rfl (by decide) rfl HS7 rfl (Nat.le_of_ble_eq_true rfl) rfl rfl ?_
          intro w8 HS8
          try simp only [List.set_cons_zero, List.set_cons_succ]
          refine run_nil ?_
          refine norm_then ?_
          refine wp_seq ?_
          refine region ?_
          refine run_same (v := Value.pointer (some ⟨b4, 0, none⟩)) rfl rfl (r_fieldBox (n := 1) (o' := 0) rfl Tryd.runUnderlying36 rfl Tryd.sizeOf9 (by decide) rfl) ?_
          refine run_same (v := Value.string ((rd z_api_Field ((rd z_api_Def a0.vDefs v1).vFields) y1_0).vName)) rfl rfl (r_loadBox rfl Tryd.isAgg9 (HS8.look 0 rfl) rfl) ?_
          refine run_same (v := Value.string a2) rfl rfl (r_move rfl) ?_
          refine run_same (v := Value.bool (strEq ((rd z_api_Field ((rd z_api_Def a0.vDefs v1).vFields) y1_0).vName) a2)) rfl rfl (r_streql rfl rfl) ?_
          try simp only [List.set_cons_zero, List.set_cons_succ]
          refine run_nil ?_
          refine norm_then ?_
          refine wp_cond_split (t := (strEq ((rd z_api_Field ((rd z_api_Def a0.vDefs v1).vFields) y1_0).vName) a2)) rfl (fun c3 => ?_) (fun c3 => ?_)
          · replace H := of_pos H c3
            refine wp_seq ?_
            refine region ?_
            refine run_same (v := Value.agg #[Value.string ((rd z_api_Field ((rd z_api_Def a0.vDefs v1).vFields) y1_0).vName), Value.int .i64 ((rd z_api_Field ((rd z_api_Def a0.vDefs v1).vFields) y1_0).vType), Value.int .i64 ((rd z_api_Field ((rd z_api_Def a0.vDefs v1).vFields) y1_0).vAt)]) rfl rfl (r_loadBoxAgg (n := 3) (vs := [Value.string ((rd z_api_Field ((rd z_api_Def a0.vDefs v1).vFields) y1_0).vName), Value.int .i64 ((rd z_api_Field ((rd z_api_Def a0.vDefs v1).vFields) y1_0).vType), Value.int .i64 ((rd z_api_Field ((rd z_api_Def a0.vDefs v1).vFields) y1_0).vAt)]) rfl Tryd.isAgg36 (HS8.look 0 rfl) Tryd.sizeOf36 rfl rfl) ?_
            refine run_st (i := 2) (cs := [Value.string ByteArray.empty, Value.int .i64 0, Value.int .i64 0]) (cs' := [Value.string ((rd z_api_Field ((rd z_api_Def a0.vDefs v1).vFields) y1_0).vName), Value.int .i64 ((rd z_api_Field ((rd z_api_Def a0.vDefs v1).vFields) y1_0).vType), Value.int .i64 ((rd z_api_Field ((rd z_api_Def a0.vDefs v1).vFields) y1_0).vAt)]) (vs := [Value.string ((rd z_api_Field ((rd z_api_Def a0.vDefs v1).vFields) y1_0).vName), Value.int .i64 ((rd z_api_Field ((rd z_api_Def a0.vDefs v1).vFields) y1_0).vType), Value.int .i64 ((rd z_api_Field ((rd z_api_Def a0.vDefs v1).vFields) y1_0).vAt)]) (bs' := [(some b4, .cells #[Value.string ((rd z_api_Field ((rd z_api_Def a0.vDefs v1).vFields) y1_0).vName), Value.int .i64 ((rd z_api_Field ((rd z_api_Def a0.vDefs v1).vFields) y1_0).vType), Value.int .i64 ((rd z_api_Field ((rd z_api_Def a0.vDefs v1).vFields) y1_0).vAt)] 36 (0, 0)), (some b3, .cells #[Value.int .i64 ((rd z_api_Def a0.vDefs v1).vKind), Value.string ((rd z_api_Def a0.vDefs v1).vName), Value.int .i64 ((rd z_api_Def a0.vDefs v1).vInt.vSize), Value.bool ((rd z_api_Def a0.vDefs v1).vInt.vSigned), Value.int .i64 ((rd z_api_Def a0.vDefs v1).vRef), Value.int .i64 ((rd z_api_Def a0.vDefs v1).vN), Value.slice Aad1_6 ((rd z_api_Def a0.vDefs v1).vFields).length cad1_6] 34 (0, 0)), (some b2, .cells #[Value.string ((rd z_api_Field ((rd z_api_Def a0.vDefs v1).vFields) y1_0).vName), Value.int .i64 ((rd z_api_Field ((rd z_api_Def a0.vDefs v1).vFields) y1_0).vType), Value.int .i64 ((rd z_api_Field ((rd z_api_Def a0.vDefs v1).vFields) y1_0).vAt)] 36 (0, 0)), (some b1, .cells #[Value.slice A0_0 a0.vDefs.length c0_0] 24 (0, 0))]) rfl rfl Tryd.sizeOf36 rfl rfl (by decide) rfl HS8 rfl (Nat.le_of_ble_eq_true rfl) rfl rfl ?_
            intro w9 HS9
            refine run_same (v := Value.int .i64 0) rfl rfl (r_assign rfl) ?_
            try simp only [List.set_cons_zero, List.set_cons_succ]
            refine run_nil ?_
            refine norm_then ?_
            refine wp_ret ?_
            refine ret_block ?_
            refine ret_then ?_
            refine ret_loop ?_
            refine ret_then ?_
            obtain rfl := Option.some.inj H
            obtain rfl := Option.some.inj G1
            refine bodyPost_ret (results_2 rfl (one_agg rfl Tryd.isAgg36 (HS9.look 2 rfl) Tryd.sizeOf36 rfl) (one_tmp rfl)) rfl ?_
            exact ⟨rfl, HS9.toE⟩
          · replace H := of_neg H (nt c3)
            refine wp_skip ?_
            refine norm_block ?_
            refine norm_then ?_
            refine region ?_
            refine run_same (v := Value.int .i64 (IntKind.wrap .i64 (y1_0 + 1))) rfl rfl (r_bin rfl rfl rfl) ?_
            refine run_same (v := Value.int .i64 (IntKind.wrap .i64 (y1_0 + 1))) rfl rfl (r_move rfl) ?_
            try simp only [List.set_cons_zero, List.set_cons_succ]
            refine run_nil ?_
            refine again m [uy1_7, Value.pointer (some ⟨b4, 0, none⟩), Value.int .i64 (IntKind.wrap .i64 (y1_0 + 1)), Value.bool (decide (y1_0 < (((rd z_api_Def a0.vDefs v1).vFields).length : Int))), Value.pointer (some (Addr.add ad2 (y1_0.toNat * 3))), Value.agg #[Value.string ((rd z_api_Field ((rd z_api_Def a0.vDefs v1).vFields) y1_0).vName), Value.int .i64 ((rd z_api_Field ((rd z_api_Def a0.vDefs v1).vFields) y1_0).vType), Value.int .i64 ((rd z_api_Field ((rd z_api_Def a0.vDefs v1).vFields) y1_0).vAt)], Value.pointer (some ⟨b4, 0, none⟩), Value.string ((rd z_api_Field ((rd z_api_Def a0.vDefs v1).vFields) y1_0).vName), Value.string a2, Value.bool (strEq ((rd z_api_Field ((rd z_api_Def a0.vDefs v1).vFields) y1_0).vName) a2), uy1_33, Value.int .i64 (IntKind.wrap .i64 (y1_0 + 1))] (Nat.lt_succ_self m) (by simp only [patch, List.set_cons_zero, List.set_cons_succ]) ⟨(IntKind.wrap .i64 (y1_0 + 1)), _, _, _, _, _, _, _, _, _, _, _, rfl, H, HS8.tail⟩
        · replace H := of_neg H (nt c2)
          refine wp_exit ?_
          refine exit_then ?_
          obtain rfl := Option.some.inj H
          refine leave [uy1_7, uy1_10, Value.int .i64 y1_0, Value.bool (decide (y1_0 < (((rd z_api_Def a0.vDefs v1).vFields).length : Int))), uy1_27, uy1_28, uy1_29, uy1_30, uy1_31, uy1_32, uy1_33, uy1_34] (by simp only [patch, List.set_cons_zero, List.set_cons_succ]) ⟨_, rfl, _, _, _, _, _, _, _, _, _, _, _, _, rfl, HS6⟩
    · rintro us w10 ⟨s1, rfl, uo1_7, uo1_10, uo1_25, uo1_26, uo1_27, uo1_28, uo1_29, uo1_30, uo1_31, uo1_32, uo1_33, uo1_34, rfl, HS10⟩
      replace H := G1
      clear G1
      try simp only [patch, List.set_cons_zero, List.set_cons_succ]
      refine norm_then ?_
      refine wp_seq ?_
      refine region ?_
      refine run_same (v := Value.agg #[Value.string ByteArray.empty, Value.int .i64 0, Value.int .i64 0]) rfl rfl (r_build0 (cs := [Value.string ByteArray.empty, Value.int .i64 0, Value.int .i64 0]) Tryd.zeroValue36 Tryd.runUnderlying36 (pl := #[(0, 1), (1, 1), (2, 1)]) (fun w => by simp [Tryd.sizeOf3, Tryd.sizeOf9]) rfl) ?_
      refine run_st (i := 1) (cs := [Value.string ByteArray.empty, Value.int .i64 0, Value.int .i64 0]) (cs' := [Value.string ByteArray.empty, Value.int .i64 0, Value.int .i64 0]) (vs := [Value.string ByteArray.empty, Value.int .i64 0, Value.int .i64 0]) (bs' := [(some b3, .cells #[Value.int .i64 ((rd z_api_Def a0.vDefs v1).vKind), Value.string ((rd z_api_Def a0.vDefs v1).vName), Value.int .i64 ((rd z_api_Def a0.vDefs v1).vInt.vSize), Value.bool ((rd z_api_Def a0.vDefs v1).vInt.vSigned), Value.int .i64 ((rd z_api_Def a0.vDefs v1).vRef), Value.int .i64 ((rd z_api_Def a0.vDefs v1).vN), Value.slice Aad1_6 ((rd z_api_Def a0.vDefs v1).vFields).length cad1_6] 34 (0, 0)), (some b2, .cells #[Value.string ByteArray.empty, Value.int .i64 0, Value.int .i64 0] 36 (0, 0)), (some b1, .cells #[Value.slice A0_0 a0.vDefs.length c0_0] 24 (0, 0))]) rfl rfl Tryd.sizeOf36 rfl rfl (by decide) rfl HS10 rfl (Nat.le_of_ble_eq_true rfl) rfl rfl ?_
      intro w11 HS11
      refine run_same (v := Value.int .i64 3) rfl rfl (r_assign rfl) ?_
      try simp only [List.set_cons_zero, List.set_cons_succ]
      refine run_nil ?_
      refine norm_then ?_
      refine wp_ret ?_
      obtain rfl := Option.some.inj H
      refine bodyPost_ret (results_2 rfl (one_agg rfl Tryd.isAgg36 (HS11.look 1 rfl) Tryd.sizeOf36 rfl) (one_tmp rfl)) rfl ?_
      exact ⟨rfl, HS11.toE⟩

end Go.Proofs.YtfjppgobidjndaaDoor
namespace Go.Proofs.YtfjppgobidjndaaDoor
open Go.RowKit Go.M
def ctf_Path.l0 (k : Nat) (a0 : api_Types) (a2 : List ByteArray) : Nat → Int → Int → Int → Option ((Int × Int × Int) ⊕ (Int × Int))
  | 0, _, _, _ => none
  | m + 1, y1_0, y1_1, y1_2 => if (decide (y1_2 < (a2.length : Int))) = true then (if 0 ≤ y1_2 ∧ y1_2 < a2.length then ((ctf_member.f k a0 y1_0 (rd ByteArray.empty a2 y1_2)).bind fun v2 => (if (v2.2 != 0) = true then (some (.inl (0, 0, v2.2))) else (ctf_Path.l0 k a0 a2 m v2.1.vType (IntKind.wrap .i64 (y1_1 + v2.1.vAt)) (IntKind.wrap .i64 (y1_2 + 1))))) else none) else (some (.inr (y1_0, y1_1)))
def ctf_Path.f (k : Nat) (a0 : api_Types) (a1 : Int) (a2 : List ByteArray) : Option (Int × Int × Int) := (ctf_given.f k a0 a1).bind fun v1 => (if (v1 != 0) = true then (some (0, 0, v1)) else (if (decide ((a2.length : Int) > 16)) = true then (some (0, 0, 2)) else ((ctf_Path.l0 k a0 a2 k a1 0 0).bind fun xx1 => (match xx1 with | .inl r => some r | .inr s1 => some (s1.1, s1.2, 0)))))
set_option maxRecDepth 20000 in
set_option maxHeartbeats 4000000 in
theorem ctf_Path.calls (k : Nat) (a0 : api_Types) (a1 : Int) (a2 : List ByteArray) (A0_0 : Option Addr) (c0_0 : Nat) (A2_0 : Option Addr) (c2_0 : Nat) {h0 : View} {w0 : World} (hv : Sees h0 w0) (hr0_0 : Rd k_api_Def h0 A0_0 a0.vDefs) (hc0_0 : a0.vDefs.length ≤ c0_0) (hr2_0 : Rd Kd.str h0 A2_0 a2) (hc2_0 : a2.length ≤ c2_0) {r : Int × Int × Int} (H : ctf_Path.f k a0 a1 a2 = some r) : Calls Tryd.prog 17 #[Value.agg #[Value.slice A0_0 a0.vDefs.length c0_0], Value.int .i64 a1, Value.slice A2_0 a2.length c2_0] w0 (fun e w1 => e = .returned (Value.tuple #[Value.int .i64 r.1, Value.int .i64 r.2.1, Value.int .i64 r.2.2]) ∧ Ext w0 w1) := by
  unfold ctf_Path.f at H
  have HS : St [] h0 w0 h0 [] w0 := St.init hv
  go_enter Tryd.func17, Tryd.ntmps17
  refine wp_seq ?_
  refine region ?_
  refine run_ex rfl rfl (does_box (cs := #[Value.slice A0_0 a0.vDefs.length c0_0]) rfl rfl) ?_
  rintro w1 _ hE1 ⟨b1, rfl, ge1, hb1⟩
  have HS1 := HS.new hE1 ge1 hb1
  refine run_same (v := Value.int .i64 0) rfl rfl (r_assign rfl) ?_
  refine run_same (v := Value.int .i64 0) rfl rfl (r_assign rfl) ?_
  refine run_same (v := Value.int .i64 0) rfl rfl (r_assign rfl) ?_
  try simp only [List.set_cons_zero, List.set_cons_succ]
  refine run_nil ?_
  refine norm_then ?_
  refine wp_seq ?_
  refine wp_seq ?_
  refine region ?_
  refine run_same (v := Value.agg #[Value.slice A0_0 a0.vDefs.length c0_0]) rfl rfl (r_loadBoxAgg (n := 1) (vs := [Value.slice A0_0 a0.vDefs.length c0_0]) rfl Tryd.isAgg24 (HS1.look 0 rfl) Tryd.sizeOf24 rfl rfl) ?_
  refine run_same (v := Value.int .i64 a1) rfl rfl (r_move rfl) ?_
  obtain ⟨v1, H1, H⟩ := of_bind H
  refine run_eq (v := Value.int .i64 v1) rfl rfl (does_call_eq Tryd.call43 rfl rfl (ctf_given.calls k a0 a1 A0_0 c0_0 HS1.sees hr0_0 hc0_0 H1)) ?_
  intro w2 hE2
  have HS2 := HS1.step hE2
  refine run_same (v := Value.int .i64 v1) rfl rfl (r_assign rfl) ?_
  try simp only [List.set_cons_zero, List.set_cons_succ]
  refine run_nil ?_
  refine norm_then ?_
  refine wp_seq ?_
  refine region ?_
  refine run_same (v := Value.int .i64 v1) rfl rfl (r_move rfl) ?_
  refine run_same (v := Value.bool (v1 != 0)) rfl rfl (r_bin rfl rfl rfl) ?_
  try simp only [List.set_cons_zero, List.set_cons_succ]
  refine run_nil ?_
  refine norm_then ?_
  refine wp_cond_split (t := (v1 != 0)) rfl (fun c1 => ?_) (fun c1 => ?_)
  · replace H := of_pos H c1
    refine wp_seq ?_
    refine region ?_
    refine run_same (v := Value.int .i64 v1) rfl rfl (r_move rfl) ?_
    refine run_same (v := Value.int .i64 0) rfl rfl (r_assign rfl) ?_
    refine run_same (v := Value.int .i64 0) rfl rfl (r_assign rfl) ?_
    refine run_same (v := Value.int .i64 v1) rfl rfl (r_assign rfl) ?_
    try simp only [List.set_cons_zero, List.set_cons_succ]
    refine run_nil ?_
    refine norm_then ?_
    refine wp_ret ?_
    refine ret_then ?_
    obtain rfl := Option.some.inj H
    refine bodyPost_ret (results_3 rfl (one_tmp rfl) (one_tmp rfl) (one_tmp rfl)) rfl ?_
    exact ⟨rfl, HS2.toE⟩
  · replace H := of_neg H (nt c1)
    refine wp_skip ?_
    refine norm_then ?_
    refine wp_seq ?_
    refine wp_seq ?_
    refine region ?_
    refine run_same (v := Value.slice A2_0 a2.length c2_0) rfl rfl (r_move rfl) ?_
    refine run_same (v := Value.int .i64 (a2.length : Int)) rfl rfl (r_len rfl Tryd.runUnderlying25) ?_
    refine run_same (v := Value.bool (decide ((a2.length : Int) > 16))) rfl rfl (r_bin rfl rfl rfl) ?_
    try simp only [List.set_cons_zero, List.set_cons_succ]
    refine run_nil ?_
    refine norm_then ?_
    refine wp_cond_split (t := (decide ((a2.length : Int) > 16))) rfl (fun c2 => ?_) (fun c2 => ?_)
    · replace H := of_pos H c2
      refine wp_seq ?_
      refine region ?_
      refine run_same (v := Value.int .i64 0) rfl rfl (r_assign rfl) ?_
      refine run_same (v := Value.int .i64 0) rfl rfl (r_assign rfl) ?_
      refine run_same (v := Value.int .i64 2) rfl rfl (r_assign rfl) ?_
      try simp only [List.set_cons_zero, List.set_cons_succ]
      refine run_nil ?_
      refine norm_then ?_
      refine wp_ret ?_
      refine ret_then ?_
      obtain rfl := Option.some.inj H
      refine bodyPost_ret (results_3 rfl (one_tmp rfl) (one_tmp rfl) (one_tmp rfl)) rfl ?_
      exact ⟨rfl, HS2.toE⟩
    · replace H := of_neg H (nt c2)
      refine wp_skip ?_
      refine norm_then ?_
      refine wp_seq ?_
      refine region ?_
      refine run_same (v := Value.int .i64 0) rfl rfl (r_assign rfl) ?_
      try simp only [List.set_cons_zero, List.set_cons_succ]
      refine run_nil ?_
      refine norm_then ?_
      refine wp_seq ?_
      refine wp_seq ?_
      refine region ?_
      refine run_same (v := Value.slice A2_0 a2.length c2_0) rfl rfl (r_move rfl) ?_
      refine run_same (v := Value.int .i64 (a2.length : Int)) rfl rfl (r_len rfl Tryd.runUnderlying25) ?_
      refine run_same (v := Value.int .i64 0) rfl rfl (r_move rfl) ?_
      try simp only [List.set_cons_zero, List.set_cons_succ]
      refine run_nil ?_
      refine norm_then ?_
      obtain ⟨xx1, H, G1⟩ := of_bind H
      refine loop_patch [1, 6, 7, 8, 10, 12, 13, 14, 26, 27, 28, 29, 30, 31, 32, 33, 34, 35, 36, 37, 38, 39, 40, 41, 42, 43, 44, 45, 46] (fun m us w' => ∃ (y1_0 : Int), ∃ (y1_1 : Int), ∃ (y1_2 : Int), ∃ (uy1_6 : Value), ∃ (uy1_7 : Value), ∃ (uy1_8 : Value), ∃ (uy1_12 : Value), ∃ (uy1_13 : Value), ∃ (uy1_14 : Value), ∃ (uy1_27 : Value), ∃ (uy1_28 : Value), ∃ (uy1_29 : Value), ∃ (uy1_30 : Value), ∃ (uy1_31 : Value), ∃ (uy1_32 : Value), ∃ (uy1_33 : Value), ∃ (uy1_34 : Value), ∃ (uy1_35 : Value), ∃ (uy1_36 : Value), ∃ (uy1_37 : Value), ∃ (uy1_38 : Value), ∃ (uy1_39 : Value), ∃ (uy1_40 : Value), ∃ (uy1_41 : Value), ∃ (uy1_42 : Value), ∃ (uy1_43 : Value), ∃ (uy1_44 : Value), ∃ (uy1_45 : Value), ∃ (uy1_46 : Value), us = [Value.int .i64 y1_0, uy1_6, uy1_7, uy1_8, Value.int .i64 y1_1, uy1_12, uy1_13, uy1_14, Value.int .i64 y1_2, uy1_27, uy1_28, uy1_29, uy1_30, uy1_31, uy1_32, uy1_33, uy1_34, uy1_35, uy1_36, uy1_37, uy1_38, uy1_39, uy1_40, uy1_41, uy1_42, uy1_43, uy1_44, uy1_45, uy1_46] ∧ ctf_Path.l0 k a0 a2 m y1_0 y1_1 y1_2 = some xx1 ∧ St [] h0 w0 h0 [(some b1, .cells #[Value.slice A0_0 a0.vDefs.length c0_0] 24 (0, 0))] w') (fun us w' => ∃ (s1 : Int × Int), xx1 = .inr s1 ∧ ∃ (uo1_6 : Value), ∃ (uo1_7 : Value), ∃ (uo1_8 : Value), ∃ (uo1_12 : Value), ∃ (uo1_13 : Value), ∃ (uo1_14 : Value), ∃ (uo1_26 : Value), ∃ (uo1_27 : Value), ∃ (uo1_28 : Value), ∃ (uo1_29 : Value), ∃ (uo1_30 : Value), ∃ (uo1_31 : Value), ∃ (uo1_32 : Value), ∃ (uo1_33 : Value), ∃ (uo1_34 : Value), ∃ (uo1_35 : Value), ∃ (uo1_36 : Value), ∃ (uo1_37 : Value), ∃ (uo1_38 : Value), ∃ (uo1_39 : Value), ∃ (uo1_40 : Value), ∃ (uo1_41 : Value), ∃ (uo1_42 : Value), ∃ (uo1_43 : Value), ∃ (uo1_44 : Value), ∃ (uo1_45 : Value), ∃ (uo1_46 : Value), us = [Value.int .i64 s1.1, uo1_6, uo1_7, uo1_8, Value.int .i64 s1.2, uo1_12, uo1_13, uo1_14, uo1_26, uo1_27, uo1_28, uo1_29, uo1_30, uo1_31, uo1_32, uo1_33, uo1_34, uo1_35, uo1_36, uo1_37, uo1_38, uo1_39, uo1_40, uo1_41, uo1_42, uo1_43, uo1_44, uo1_45, uo1_46] ∧ St [] h0 w0 h0 [(some b1, .cells #[Value.slice A0_0 a0.vDefs.length c0_0] 24 (0, 0))] w') k [Value.int .i64 a1, Value.int .i64 0, Value.int .i64 0, Value.int .i64 0, Value.int .i64 0, undef, undef, undef, Value.int .i64 0, undef, undef, undef, undef, undef, undef, undef, undef, undef, undef, undef, undef, undef, undef, undef, undef, undef, undef, undef, undef] (by simp only [patch, List.set_cons_zero, List.set_cons_succ]) ⟨a1, 0, 0, _, _, _, _, _, _, _, _, _, _, _, _, _, _, _, _, _, _, _, _, _, _, _, _, _, _, rfl, H, HS2⟩ ?_ ?_
      · rintro m us w3 ⟨y1_0, y1_1, y1_2, uy1_6, uy1_7, uy1_8, uy1_12, uy1_13, uy1_14, uy1_27, uy1_28, uy1_29, uy1_30, uy1_31, uy1_32, uy1_33, uy1_34, uy1_35, uy1_36, uy1_37, uy1_38, uy1_39, uy1_40, uy1_41, uy1_42, uy1_43, uy1_44, uy1_45, uy1_46, rfl, H, HS3⟩
        cases m with
        | zero => exact absurd H (by simp [ctf_Path.l0])
        | succ m =>
          rw [ctf_Path.l0] at H
          try simp only [patch, List.set_cons_zero, List.set_cons_succ]
          refine wp_seq ?_
          refine region ?_
          refine run_same (v := Value.bool (decide (y1_2 < (a2.length : Int)))) rfl rfl (r_bin rfl rfl rfl) ?_
          try simp only [List.set_cons_zero, List.set_cons_succ]
          refine run_nil ?_
          refine norm_then ?_
          refine wp_seq ?_
          refine wp_cond_split (t := (decide (y1_2 < (a2.length : Int)))) rfl (fun c3 => ?_) (fun c3 => ?_)
          · replace H := of_pos H c3
            refine wp_skip ?_
            refine norm_then ?_
            refine wp_seq ?_
            refine wp_block ?_
            refine wp_seq ?_
            refine region ?_
            obtain ⟨hi1, H⟩ := of_ite H
            obtain ⟨ad1, e1, hel1⟩ := ld_str hr2_0 hi1.1 hi1.2
            refine run_same (v := Value.pointer (some (Addr.add ad1 (y1_2.toNat * 1)))) rfl rfl (r_indexA (sz := 1) rfl e1 rfl hi1.1 hi1.2 Tryd.runUnderlying25 Tryd.sizeOf9) ?_
            refine run_same (v := Value.string (rd ByteArray.empty a2 y1_2)) rfl rfl (r_load rfl Tryd.isAgg9 (hel1.cell0 HS3.sees rfl)) ?_
            refine run_same (v := Value.string (rd ByteArray.empty a2 y1_2)) rfl rfl (r_assign rfl) ?_
            try simp only [List.set_cons_zero, List.set_cons_succ]
            refine run_nil ?_
            refine norm_then ?_
            refine wp_seq ?_
            refine region ?_
            refine run_same (v := Value.agg #[Value.slice A0_0 a0.vDefs.length c0_0]) rfl rfl (r_loadBoxAgg (n := 1) (vs := [Value.slice A0_0 a0.vDefs.length c0_0]) rfl Tryd.isAgg24 (HS3.look 0 rfl) Tryd.sizeOf24 rfl rfl) ?_
            refine run_same (v := Value.int .i64 y1_0) rfl rfl (r_move rfl) ?_
            refine run_same (v := Value.string (rd ByteArray.empty a2 y1_2)) rfl rfl (r_move rfl) ?_
            obtain ⟨v2, H2, H⟩ := of_bind H
            refine run_eq (v := Value.tuple #[Value.agg #[Value.string v2.1.vName, Value.int .i64 v2.1.vType, Value.int .i64 v2.1.vAt], Value.int .i64 v2.2]) rfl rfl (does_call_eq Tryd.call46 rfl rfl (ctf_member.calls k a0 y1_0 (rd ByteArray.empty a2 y1_2) A0_0 c0_0 HS3.sees hr0_0 hc0_0 H2)) ?_
            intro w4 hE3
            have HS4 := HS3.step hE3
            refine run_frame (by simp only [List.set_cons_zero, List.set_cons_succ]; rfl) ?_
            refine run_same (v := Value.tuple #[Value.agg #[Value.string v2.1.vName, Value.int .i64 v2.1.vType, Value.int .i64 v2.1.vAt], Value.int .i64 v2.2]) rfl rfl (r_move rfl) ?_
            refine run_same (v := Value.agg #[Value.string v2.1.vName, Value.int .i64 v2.1.vType, Value.int .i64 v2.1.vAt]) rfl rfl (r_extract rfl rfl) ?_
            refine run_same (v := Value.int .i64 v2.2) rfl rfl (r_extract rfl rfl) ?_
            refine run_ex rfl rfl (does_alloc (cs := #[Value.string ByteArray.empty, Value.int .i64 0, Value.int .i64 0]) Tryd.zeroValue36 rfl) ?_
            rintro w5 _ hE4 ⟨b2, rfl, ge2, hb2⟩
            have HS5 := HS4.new hE4 ge2 hb2
            refine run_frame (by simp only [List.set_cons_zero, List.set_cons_succ]; rfl) ?_
            refine run_st (i := 0) (cs := [Value.string ByteArray.empty, Value.int .i64 0, Value.int .i64 0]) (cs' := [Value.string v2.1.vName, Value.int .i64 v2.1.vType, Value.int .i64 v2.1.vAt]) (vs := [Value.string v2.1.vName, Value.int .i64 v2.1.vType, Value.int .i64 v2.1.vAt]) (bs' := [(some b2, .cells #[Value.string v2.1.vName, Value.int .i64 v2.1.vType, Value.int .i64 v2.1.vAt] 36 (0, 0)), (some b1, .cells #[Value.slice A0_0 a0.vDefs.length c0_0] 24 (0, 0))]) rfl rfl Tryd.sizeOf36 rfl rfl (by decide) rfl HS5 rfl (Nat.le_of_ble_eq_true rfl) rfl rfl ?_
            intro w6 HS6
            refine run_same (v := Value.int .i64 v2.2) rfl rfl (r_assign rfl) ?_
            try simp only [List.set_cons_zero, List.set_cons_succ]
            refine run_nil ?_
            refine norm_then ?_
            refine wp_seq ?_
            refine wp_seq ?_
            refine region ?_
            refine run_same (v := Value.int .i64 v2.2) rfl rfl (r_move rfl) ?_
            refine run_same (v := Value.bool (v2.2 != 0)) rfl rfl (r_bin rfl rfl rfl) ?_
            try simp only [List.set_cons_zero, List.set_cons_succ]
            refine run_nil ?_
            refine norm_then ?_
            refine wp_cond_split (t := (v2.2 != 0)) rfl (fun c4 => ?_) (fun c4 => ?_)
            · replace H := of_pos H c4
              refine wp_seq ?_
              refine region ?_
              refine run_same (v := Value.int .i64 v2.2) rfl rfl (r_move rfl) ?_
              refine run_same (v := Value.int .i64 0) rfl rfl (r_assign rfl) ?_
              refine run_same (v := Value.int .i64 0) rfl rfl (r_assign rfl) ?_
              refine run_same (v := Value.int .i64 v2.2) rfl rfl (r_assign rfl) ?_
              try simp only [List.set_cons_zero, List.set_cons_succ]
              refine run_nil ?_
              refine norm_then ?_
              refine wp_ret ?_
              refine ret_then ?_
              refine ret_block ?_
              refine ret_then ?_
              refine ret_loop ?_
              refine ret_then ?_
              obtain rfl := Option.some.inj H
              obtain rfl := Option.some.inj G1
              refine bodyPost_ret (results_3 rfl (one_tmp rfl) (one_tmp rfl) (one_tmp rfl)) rfl ?_
              exact ⟨rfl, HS6.toE⟩
            · replace H := of_neg H (nt c4)
              refine wp_skip ?_
              refine norm_then ?_
              refine drawn [.eq (Value.pointer (some ⟨b2, 1, none⟩)), .eq (Value.int .i64 v2.1.vType), .eq (Value.int .i64 y1_1), .eq (Value.pointer (some ⟨b2, 2, none⟩)), .eq (Value.int .i64 v2.1.vAt), .eq (Value.int .i64 (IntKind.wrap .i64 (y1_1 + v2.1.vAt))), .eq (Value.int .i64 v2.1.vType)] [40, 41, 42, 43, 44, 45, 1] hmix (by kernel_rfl) rfl (stable_eq (stable_eq (stable_eq (stable_eq (stable_eq (stable_eq (stable_eq stable_nil))))))) ⟨ob_plain rfl (fun a' w' hE hk => by have HSd := HS6.step hE; exact does_eq (r_fieldBox (n := 1) (o' := 1) (show _ = Value.pointer (some ⟨b2, 0, none⟩) from hk 13 rfl) Tryd.runUnderlying36 rfl Tryd.sizeOf3 (by decide) rfl)), ob_plain rfl (fun a' w' hE hk => by have HSd := HS6.step hE; exact does_eq (r_loadBox (show _ = Value.pointer (some ⟨b2, 1, none⟩) from hk 40 rfl) Tryd.isAgg3 (HSd.look 0 rfl) rfl)), ob_plain rfl (fun a' w' hE hk => by have HSd := HS6.step hE; exact does_eq (r_move (show _ = Value.int .i64 y1_1 from hk 10 rfl))), ob_plain rfl (fun a' w' hE hk => by have HSd := HS6.step hE; exact does_eq (r_fieldBox (n := 1) (o' := 2) (show _ = Value.pointer (some ⟨b2, 0, none⟩) from hk 13 rfl) Tryd.runUnderlying36 rfl Tryd.sizeOf3 (by decide) rfl)), ob_plain rfl (fun a' w' hE hk => by have HSd := HS6.step hE; exact does_eq (r_loadBox (show _ = Value.pointer (some ⟨b2, 2, none⟩) from hk 43 rfl) Tryd.isAgg3 (HSd.look 0 rfl) rfl)), ob_plain rfl (fun a' w' hE hk => by have HSd := HS6.step hE; exact does_eq (r_bin (show _ = Value.int .i64 y1_1 from hk 42 rfl) (show _ = Value.int .i64 v2.1.vAt from hk 44 rfl) rfl)), ob_plain rfl (fun a' w' hE hk => by have HSd := HS6.step hE; exact does_eq (r_assign (show _ = Value.int .i64 v2.1.vType from hk 41 rfl))), trivial⟩ ?_
              intro w7 hE5
              simp only [List.zip_cons_cons, List.zip_nil_left, List.zip_nil_right, finL, List.set_cons_zero, List.set_cons_succ, List.length_cons, List.length_nil, List.drop_succ_cons, List.drop_zero, Nat.zero_add, Nat.reduceAdd]
              have HS7 := HS6.step hE5
              refine run_same (v := Value.int .i64 (IntKind.wrap .i64 (y1_1 + v2.1.vAt))) rfl rfl (r_assign rfl) ?_
              try simp only [List.set_cons_zero, List.set_cons_succ]
              refine run_nil ?_
              refine norm_block ?_
              refine norm_then ?_
              refine region ?_
              refine run_same (v := Value.int .i64 (IntKind.wrap .i64 (y1_2 + 1))) rfl rfl (r_bin rfl rfl rfl) ?_
              refine run_same (v := Value.int .i64 (IntKind.wrap .i64 (y1_2 + 1))) rfl rfl (r_move rfl) ?_
              try simp only [List.set_cons_zero, List.set_cons_succ]
              refine run_nil ?_
              refine again m [Value.int .i64 v2.1.vType, uy1_6, uy1_7, uy1_8, Value.int .i64 (IntKind.wrap .i64 (y1_1 + v2.1.vAt)), Value.string (rd ByteArray.empty a2 y1_2), Value.pointer (some ⟨b2, 0, none⟩), Value.int .i64 v2.2, Value.int .i64 (IntKind.wrap .i64 (y1_2 + 1)), Value.bool (decide (y1_2 < (a2.length : Int))), Value.pointer (some (Addr.add ad1 (y1_2.toNat * 1))), Value.string (rd ByteArray.empty a2 y1_2), Value.tuple #[Value.agg #[Value.string v2.1.vName, Value.int .i64 v2.1.vType, Value.int .i64 v2.1.vAt], Value.int .i64 v2.2], Value.agg #[Value.slice A0_0 a0.vDefs.length c0_0], Value.int .i64 y1_0, Value.string (rd ByteArray.empty a2 y1_2), Value.tuple #[Value.agg #[Value.string v2.1.vName, Value.int .i64 v2.1.vType, Value.int .i64 v2.1.vAt], Value.int .i64 v2.2], Value.agg #[Value.string v2.1.vName, Value.int .i64 v2.1.vType, Value.int .i64 v2.1.vAt], Value.int .i64 v2.2, Value.int .i64 v2.2, Value.bool (v2.2 != 0), uy1_39, Value.pointer (some ⟨b2, 1, none⟩), Value.int .i64 v2.1.vType, Value.int .i64 y1_1, Value.pointer (some ⟨b2, 2, none⟩), Value.int .i64 v2.1.vAt, Value.int .i64 (IntKind.wrap .i64 (y1_1 + v2.1.vAt)), Value.int .i64 (IntKind.wrap .i64 (y1_2 + 1))] (Nat.lt_succ_self m) (by simp only [patch, List.set_cons_zero, List.set_cons_succ]) ⟨v2.1.vType, (IntKind.wrap .i64 (y1_1 + v2.1.vAt)), (IntKind.wrap .i64 (y1_2 + 1)), _, _, _, _, _, _, _, _, _, _, _, _, _, _, _, _, _, _, _, _, _, _, _, _, _, _, rfl, H, HS7.tail⟩
          · replace H := of_neg H (nt c3)
            refine wp_exit ?_
            refine exit_then ?_
            obtain rfl := Option.some.inj H
            refine leave [Value.int .i64 y1_0, uy1_6, uy1_7, uy1_8, Value.int .i64 y1_1, uy1_12, uy1_13, uy1_14, Value.int .i64 y1_2, Value.bool (decide (y1_2 < (a2.length : Int))), uy1_28, uy1_29, uy1_30, uy1_31, uy1_32, uy1_33, uy1_34, uy1_35, uy1_36, uy1_37, uy1_38, uy1_39, uy1_40, uy1_41, uy1_42, uy1_43, uy1_44, uy1_45, uy1_46] (by simp only [patch, List.set_cons_zero, List.set_cons_succ]) ⟨_, rfl, _, _, _, _, _, _, _, _, _, _, _, _, _, _, _, _, _, _, _, _, _, _, _, _, _, _, _, rfl, HS3⟩
      · rintro us w8 ⟨s1, rfl, uo1_6, uo1_7, uo1_8, uo1_12, uo1_13, uo1_14, uo1_26, uo1_27, uo1_28, uo1_29, uo1_30, uo1_31, uo1_32, uo1_33, uo1_34, uo1_35, uo1_36, uo1_37, uo1_38, uo1_39, uo1_40, uo1_41, uo1_42, uo1_43, uo1_44, uo1_45, uo1_46, rfl, HS8⟩
        replace H := G1
        clear G1
        try simp only [patch, List.set_cons_zero, List.set_cons_succ]
        refine norm_then ?_
        refine wp_seq ?_
        refine region ?_
        refine run_same (v := Value.int .i64 s1.1) rfl rfl (r_move rfl) ?_
        refine run_same (v := Value.int .i64 s1.2) rfl rfl (r_move rfl) ?_
        refine run_same (v := Value.int .i64 s1.1) rfl rfl (r_assign rfl) ?_
        refine run_same (v := Value.int .i64 s1.2) rfl rfl (r_assign rfl) ?_
        refine run_frame (by simp only [List.set_cons_zero, List.set_cons_succ]; rfl) ?_
        refine run_same (v := Value.int .i64 0) rfl rfl (r_assign rfl) ?_
        try simp only [List.set_cons_zero, List.set_cons_succ]
        refine run_nil ?_
        refine norm_then ?_
        refine wp_ret ?_
        obtain rfl := Option.some.inj H
        refine bodyPost_ret (results_3 rfl (one_tmp rfl) (one_tmp rfl) (one_tmp rfl)) rfl ?_
        exact ⟨rfl, HS8.toE⟩

end Go.Proofs.YtfjppgobidjndaaDoor
namespace Go.Proofs.YtfjppgobidjndaaDoor
open Go.RowKit Go.M
def ctf_Size.f (k : Nat) (a0 : api_Types) (a1 : Int) : Option (Int × Int) := (ctf_given.f k a0 a1).bind fun v1 => (if (v1 != 0) = true then (some (0, v1)) else ((ctf_sizes.f k a0).bind fun v2 => (if 0 ≤ a1 ∧ a1 < v2.1.length then (some ((rd 0 v2.1 a1), 0)) else none)))
set_option maxRecDepth 20000 in
set_option maxHeartbeats 4000000 in
theorem ctf_Size.calls (k : Nat) (a0 : api_Types) (a1 : Int) (A0_0 : Option Addr) (c0_0 : Nat) {h0 : View} {w0 : World} (hv : Sees h0 w0) (hr0_0 : Rd k_api_Def h0 A0_0 a0.vDefs) (hc0_0 : a0.vDefs.length ≤ c0_0) {r : Int × Int} (H : ctf_Size.f k a0 a1 = some r) : Calls Tryd.prog 14 #[Value.agg #[Value.slice A0_0 a0.vDefs.length c0_0], Value.int .i64 a1] w0 (fun e w1 => e = .returned (Value.tuple #[Value.int .i64 r.1, Value.int .i64 r.2]) ∧ Ext w0 w1) := by
  unfold ctf_Size.f at H
  have HS : St [] h0 w0 h0 [] w0 := St.init hv
  go_enter Tryd.func14, Tryd.ntmps14
  refine wp_seq ?_
  refine region ?_
  refine run_ex rfl rfl (does_box (cs := #[Value.slice A0_0 a0.vDefs.length c0_0]) rfl rfl) ?_
  rintro w1 _ hE1 ⟨b1, rfl, ge1, hb1⟩
  have HS1 := HS.new hE1 ge1 hb1
  refine run_same (v := Value.int .i64 0) rfl rfl (r_assign rfl) ?_
  refine run_same (v := Value.int .i64 0) rfl rfl (r_assign rfl) ?_
  try simp only [List.set_cons_zero, List.set_cons_succ]
  refine run_nil ?_
  refine norm_then ?_
  refine wp_seq ?_
  refine wp_seq ?_
  refine region ?_
  refine run_same (v := Value.agg #[Value.slice A0_0 a0.vDefs.length c0_0]) rfl rfl (r_loadBoxAgg (n := 1) (vs := [Value.slice A0_0 a0.vDefs.length c0_0]) rfl Tryd.isAgg24 (HS1.look 0 rfl) Tryd.sizeOf24 rfl rfl) ?_
  refine run_same (v := Value.int .i64 a1) rfl rfl (r_move rfl) ?_
  obtain ⟨v1, H1, H⟩ := of_bind H
  refine run_eq (v := Value.int .i64 v1) rfl rfl (does_call_eq Tryd.call43 rfl rfl (ctf_given.calls k a0 a1 A0_0 c0_0 HS1.sees hr0_0 hc0_0 H1)) ?_
  intro w2 hE2
  have HS2 := HS1.step hE2
  refine run_same (v := Value.int .i64 v1) rfl rfl (r_assign rfl) ?_
  try simp only [List.set_cons_zero, List.set_cons_succ]
  refine run_nil ?_
  refine norm_then ?_
  refine wp_seq ?_
  refine region ?_
  refine run_same (v := Value.int .i64 v1) rfl rfl (r_move rfl) ?_
  refine run_same (v := Value.bool (v1 != 0)) rfl rfl (r_bin rfl rfl rfl) ?_
  try simp only [List.set_cons_zero, List.set_cons_succ]
  refine run_nil ?_
  refine norm_then ?_
  refine wp_cond_split (t := (v1 != 0)) rfl (fun c1 => ?_) (fun c1 => ?_)
  · replace H := of_pos H c1
    refine wp_seq ?_
    refine region ?_
    refine run_same (v := Value.int .i64 v1) rfl rfl (r_move rfl) ?_
    refine run_same (v := Value.int .i64 0) rfl rfl (r_assign rfl) ?_
    refine run_same (v := Value.int .i64 v1) rfl rfl (r_assign rfl) ?_
    try simp only [List.set_cons_zero, List.set_cons_succ]
    refine run_nil ?_
    refine norm_then ?_
    refine wp_ret ?_
    refine ret_then ?_
    obtain rfl := Option.some.inj H
    refine bodyPost_ret (results_2 rfl (one_tmp rfl) (one_tmp rfl)) rfl ?_
    exact ⟨rfl, HS2.toE⟩
  · replace H := of_neg H (nt c1)
    refine wp_skip ?_
    refine norm_then ?_
    refine wp_seq ?_
    refine region ?_
    refine run_same (v := Value.agg #[Value.slice A0_0 a0.vDefs.length c0_0]) rfl rfl (r_loadBoxAgg (n := 1) (vs := [Value.slice A0_0 a0.vDefs.length c0_0]) rfl Tryd.isAgg24 (HS2.look 0 rfl) Tryd.sizeOf24 rfl rfl) ?_
    obtain ⟨v2, H2, H⟩ := of_bind H
    refine run_ex rfl rfl (does_call Tryd.call44 rfl (gives_in (h := h0) (R := (fun hx u => ∃ (Av2_0_0 : Option Addr) (cv2_0_0 : Nat), u = Value.tuple #[Value.slice Av2_0_0 v2.1.length cv2_0_0, Value.bool v2.2] ∧ v2.1.length ≤ cv2_0_0 ∧ Rd (Kd.int .i64) hx Av2_0_0 v2.1)) (Ext.rfl' w2) ((ctf_sizes.calls k a0 A0_0 c0_0 HS2.sees hr0_0 hc0_0 H2).mono ?_)) rfl) ?_
    · rintro _ _ ⟨h1, Av2_0_0, cv2_0_0, rfl, hcv2_0_0, hrv2_0_0, g, ss, x⟩
      exact ⟨h1, _, rfl, ⟨Av2_0_0, cv2_0_0, rfl, hcv2_0_0, hrv2_0_0⟩, g, ss, x⟩
    rintro w3 _ hE3 ⟨h1, ⟨Av2_0_0, cv2_0_0, rfl, hcv2_0_0, hrv2_0_0⟩, gr1, se1⟩
    have HS3 := HS2.view hE3 gr1 se1
    refine run_same (v := Value.tuple #[Value.slice Av2_0_0 v2.1.length cv2_0_0, Value.bool v2.2]) rfl rfl (r_move rfl) ?_
    refine run_same (v := Value.slice Av2_0_0 v2.1.length cv2_0_0) rfl rfl (r_extract rfl rfl) ?_
    refine run_frame (by simp only [List.set_cons_zero, List.set_cons_succ]; rfl) ?_
    refine run_same (v := Value.bool v2.2) rfl rfl (r_extract rfl rfl) ?_
    refine run_same (v := Value.slice Av2_0_0 v2.1.length cv2_0_0) rfl rfl (r_assign rfl) ?_
    refine run_same (v := Value.bool v2.2) rfl rfl (r_assign rfl) ?_
    try simp only [List.set_cons_zero, List.set_cons_succ]
    refine run_nil ?_
    refine norm_then ?_
    refine wp_seq ?_
    refine region ?_
    refine run_same (v := Value.slice Av2_0_0 v2.1.length cv2_0_0) rfl rfl (r_move rfl) ?_
    refine run_same (v := Value.int .i64 a1) rfl rfl (r_move rfl) ?_
    obtain ⟨hi1, H⟩ := of_ite H
    obtain ⟨ad1, e1, hel1⟩ := ld_int hrv2_0_0 hi1.1 hi1.2
    refine run_same (v := Value.pointer (some (Addr.add ad1 (a1.toNat * 1)))) rfl rfl (r_indexA (sz := 1) rfl e1 rfl hi1.1 hi1.2 Tryd.runUnderlying62 Tryd.sizeOf3) ?_
    refine run_same (v := Value.int .i64 (rd 0 v2.1 a1)) rfl rfl (r_load rfl Tryd.isAgg3 (hel1.cell0 HS3.sees rfl)) ?_
    refine run_frame (by simp only [List.set_cons_zero, List.set_cons_succ]; rfl) ?_
    refine run_same (v := Value.int .i64 (rd 0 v2.1 a1)) rfl rfl (r_assign rfl) ?_
    refine run_same (v := Value.int .i64 0) rfl rfl (r_assign rfl) ?_
    try simp only [List.set_cons_zero, List.set_cons_succ]
    refine run_nil ?_
    refine norm_then ?_
    refine wp_ret ?_
    obtain rfl := Option.some.inj H
    refine bodyPost_ret (results_2 rfl (one_tmp rfl) (one_tmp rfl)) rfl ?_
    exact ⟨rfl, HS3.toE⟩

end Go.Proofs.YtfjppgobidjndaaDoor
namespace Go.Proofs.YtfjppgobidjndaaDoor
open Go.RowKit Go.M
def ctf_Resolve.f (k : Nat) (a0 : api_Types) (a1 : Int) : Option (Int × Int) := (ctf_given.f k a0 a1).bind fun v1 => (if (v1 != 0) = true then (some (0, v1)) else ((ctf_resolved.f k a0 a1).bind fun v2 => (some (v2, 0))))
set_option maxRecDepth 20000 in
set_option maxHeartbeats 4000000 in
theorem ctf_Resolve.calls (k : Nat) (a0 : api_Types) (a1 : Int) (A0_0 : Option Addr) (c0_0 : Nat) {h0 : View} {w0 : World} (hv : Sees h0 w0) (hr0_0 : Rd k_api_Def h0 A0_0 a0.vDefs) (hc0_0 : a0.vDefs.length ≤ c0_0) {r : Int × Int} (H : ctf_Resolve.f k a0 a1 = some r) : Calls Tryd.prog 15 #[Value.agg #[Value.slice A0_0 a0.vDefs.length c0_0], Value.int .i64 a1] w0 (fun e w1 => e = .returned (Value.tuple #[Value.int .i64 r.1, Value.int .i64 r.2]) ∧ Ext w0 w1) := by
  unfold ctf_Resolve.f at H
  have HS : St [] h0 w0 h0 [] w0 := St.init hv
  go_enter Tryd.func15, Tryd.ntmps15
  refine wp_seq ?_
  refine region ?_
  refine run_ex rfl rfl (does_box (cs := #[Value.slice A0_0 a0.vDefs.length c0_0]) rfl rfl) ?_
  rintro w1 _ hE1 ⟨b1, rfl, ge1, hb1⟩
  have HS1 := HS.new hE1 ge1 hb1
  refine run_same (v := Value.int .i64 0) rfl rfl (r_assign rfl) ?_
  refine run_same (v := Value.int .i64 0) rfl rfl (r_assign rfl) ?_
  try simp only [List.set_cons_zero, List.set_cons_succ]
  refine run_nil ?_
  refine norm_then ?_
  refine wp_seq ?_
  refine wp_seq ?_
  refine region ?_
  refine run_same (v := Value.agg #[Value.slice A0_0 a0.vDefs.length c0_0]) rfl rfl (r_loadBoxAgg (n := 1) (vs := [Value.slice A0_0 a0.vDefs.length c0_0]) rfl Tryd.isAgg24 (HS1.look 0 rfl) Tryd.sizeOf24 rfl rfl) ?_
  refine run_same (v := Value.int .i64 a1) rfl rfl (r_move rfl) ?_
  obtain ⟨v1, H1, H⟩ := of_bind H
  refine run_eq (v := Value.int .i64 v1) rfl rfl (does_call_eq Tryd.call43 rfl rfl (ctf_given.calls k a0 a1 A0_0 c0_0 HS1.sees hr0_0 hc0_0 H1)) ?_
  intro w2 hE2
  have HS2 := HS1.step hE2
  refine run_same (v := Value.int .i64 v1) rfl rfl (r_assign rfl) ?_
  try simp only [List.set_cons_zero, List.set_cons_succ]
  refine run_nil ?_
  refine norm_then ?_
  refine wp_seq ?_
  refine region ?_
  refine run_same (v := Value.int .i64 v1) rfl rfl (r_move rfl) ?_
  refine run_same (v := Value.bool (v1 != 0)) rfl rfl (r_bin rfl rfl rfl) ?_
  try simp only [List.set_cons_zero, List.set_cons_succ]
  refine run_nil ?_
  refine norm_then ?_
  refine wp_cond_split (t := (v1 != 0)) rfl (fun c1 => ?_) (fun c1 => ?_)
  · replace H := of_pos H c1
    refine wp_seq ?_
    refine region ?_
    refine run_same (v := Value.int .i64 v1) rfl rfl (r_move rfl) ?_
    refine run_same (v := Value.int .i64 0) rfl rfl (r_assign rfl) ?_
    refine run_same (v := Value.int .i64 v1) rfl rfl (r_assign rfl) ?_
    try simp only [List.set_cons_zero, List.set_cons_succ]
    refine run_nil ?_
    refine norm_then ?_
    refine wp_ret ?_
    refine ret_then ?_
    obtain rfl := Option.some.inj H
    refine bodyPost_ret (results_2 rfl (one_tmp rfl) (one_tmp rfl)) rfl ?_
    exact ⟨rfl, HS2.toE⟩
  · replace H := of_neg H (nt c1)
    refine wp_skip ?_
    refine norm_then ?_
    refine wp_seq ?_
    refine region ?_
    refine run_same (v := Value.agg #[Value.slice A0_0 a0.vDefs.length c0_0]) rfl rfl (r_loadBoxAgg (n := 1) (vs := [Value.slice A0_0 a0.vDefs.length c0_0]) rfl Tryd.isAgg24 (HS2.look 0 rfl) Tryd.sizeOf24 rfl rfl) ?_
    refine run_same (v := Value.int .i64 a1) rfl rfl (r_move rfl) ?_
    obtain ⟨v2, H2, H⟩ := of_bind H
    refine run_eq (v := Value.int .i64 v2) rfl rfl (does_call_eq Tryd.call45 rfl rfl (ctf_resolved.calls k a0 a1 A0_0 c0_0 HS2.sees hr0_0 hc0_0 H2)) ?_
    intro w3 hE3
    have HS3 := HS2.step hE3
    refine run_same (v := Value.int .i64 v2) rfl rfl (r_assign rfl) ?_
    refine run_frame (by simp only [List.set_cons_zero, List.set_cons_succ]; rfl) ?_
    refine run_same (v := Value.int .i64 0) rfl rfl (r_assign rfl) ?_
    try simp only [List.set_cons_zero, List.set_cons_succ]
    refine run_nil ?_
    refine norm_then ?_
    refine wp_ret ?_
    obtain rfl := Option.some.inj H
    refine bodyPost_ret (results_2 rfl (one_tmp rfl) (one_tmp rfl)) rfl ?_
    exact ⟨rfl, HS3.toE⟩

end Go.Proofs.YtfjppgobidjndaaDoor
namespace Go.Proofs.YtfjppgobidjndaaDoor
open Go.RowKit Go.M
def ctf_Member.f (k : Nat) (a0 : api_Types) (a1 : Int) (a2 : ByteArray) : Option (api_Field × Int) := (ctf_given.f k a0 a1).bind fun v1 => (if (v1 != 0) = true then (some ((⟨ByteArray.empty, 0, 0⟩ : api_Field), v1)) else ((ctf_member.f k a0 a1 a2).bind fun v2 => (some (v2.1, v2.2))))
set_option maxRecDepth 20000 in
set_option maxHeartbeats 4000000 in
theorem ctf_Member.calls (k : Nat) (a0 : api_Types) (a1 : Int) (a2 : ByteArray) (A0_0 : Option Addr) (c0_0 : Nat) {h0 : View} {w0 : World} (hv : Sees h0 w0) (hr0_0 : Rd k_api_Def h0 A0_0 a0.vDefs) (hc0_0 : a0.vDefs.length ≤ c0_0) {r : api_Field × Int} (H : ctf_Member.f k a0 a1 a2 = some r) : Calls Tryd.prog 16 #[Value.agg #[Value.slice A0_0 a0.vDefs.length c0_0], Value.int .i64 a1, Value.string a2] w0 (fun e w1 => e = .returned (Value.tuple #[Value.agg #[Value.string r.1.vName, Value.int .i64 r.1.vType, Value.int .i64 r.1.vAt], Value.int .i64 r.2]) ∧ Ext w0 w1) := by
  unfold ctf_Member.f at H
  have HS : St [] h0 w0 h0 [] w0 := St.init hv
  go_enter Tryd.func16, Tryd.ntmps16
  refine wp_seq ?_
  refine region ?_
  refine run_ex rfl rfl (does_box (cs := #[Value.slice A0_0 a0.vDefs.length c0_0]) rfl rfl) ?_
  rintro w1 _ hE1 ⟨b1, rfl, ge1, hb1⟩
  have HS1 := HS.new hE1 ge1 hb1
  refine run_ex rfl rfl (does_alloc (cs := #[Value.string ByteArray.empty, Value.int .i64 0, Value.int .i64 0]) Tryd.zeroValue36 rfl) ?_
  rintro w2 _ hE2 ⟨b2, rfl, ge2, hb2⟩
  have HS2 := HS1.new hE2 ge2 hb2
  refine run_same (v := Value.int .i64 0) rfl rfl (r_assign rfl) ?_
  try simp only [List.set_cons_zero, List.set_cons_succ]
  refine run_nil ?_
  refine norm_then ?_
  refine wp_seq ?_
  refine wp_seq ?_
  refine region ?_
  refine run_same (v := Value.agg #[Value.slice A0_0 a0.vDefs.length c0_0]) rfl rfl (r_loadBoxAgg (n := 1) (vs := [Value.slice A0_0 a0.vDefs.length c0_0]) rfl Tryd.isAgg24 (HS2.look 1 rfl) Tryd.sizeOf24 rfl rfl) ?_
  refine run_same (v := Value.int .i64 a1) rfl rfl (r_move rfl) ?_
  obtain ⟨v1, H1, H⟩ := of_bind H
  refine run_eq (v := Value.int .i64 v1) rfl rfl (does_call_eq Tryd.call43 rfl rfl (ctf_given.calls k a0 a1 A0_0 c0_0 HS2.sees hr0_0 hc0_0 H1)) ?_
  intro w3 hE3
  have HS3 := HS2.step hE3
  refine run_same (v := Value.int .i64 v1) rfl rfl (r_assign rfl) ?_
  try simp only [List.set_cons_zero, List.set_cons_succ]
  refine run_nil ?_
  refine norm_then ?_
  refine wp_seq ?_
  refine region ?_
  refine run_same (v := Value.int .i64 v1) rfl rfl (r_move rfl) ?_
  refine run_same (v := Value.bool (v1 != 0)) rfl rfl (r_bin rfl rfl rfl) ?_
  try simp only [List.set_cons_zero, List.set_cons_succ]
  refine run_nil ?_
  refine norm_then ?_
  refine wp_cond_split (t := (v1 != 0)) rfl (fun c1 => ?_) (fun c1 => ?_)
  · replace H := of_pos H c1
    refine wp_seq ?_
    refine region ?_
    refine run_same (v := Value.agg #[Value.string ByteArray.empty, Value.int .i64 0, Value.int .i64 0]) rfl rfl (r_build0 (cs := [Value.string ByteArray.empty, Value.int .i64 0, Value.int .i64 0]) Tryd.zeroValue36 Tryd.runUnderlying36 (pl := #[(0, 1), (1, 1), (2, 1)]) (fun w => by simp [Tryd.sizeOf3, Tryd.sizeOf9]) rfl) ?_
    refine run_same (v := Value.int .i64 v1) rfl rfl (r_move rfl) ?_
    refine run_st (i := 0) (cs := [Value.string ByteArray.empty, Value.int .i64 0, Value.int .i64 0]) (cs' := [Value.string ByteArray.empty, Value.int .i64 0, Value.int .i64 0]) (vs := [Value.string ByteArray.empty, Value.int .i64 0, Value.int .i64 0]) (bs' := [(some b2, .cells #[Value.string ByteArray.empty, Value.int .i64 0, Value.int .i64 0] 36 (0, 0)), (some b1, .cells #[Value.slice A0_0 a0.vDefs.length c0_0] 24 (0, 0))]) rfl rfl Tryd.sizeOf36 rfl rfl (by decide) rfl HS3 rfl (Nat.le_of_ble_eq_true rfl) rfl rfl ?_
    intro w4 HS4
    refine run_same (v := Value.int .i64 v1) rfl rfl (r_assign rfl) ?_
    try simp only [List.set_cons_zero, List.set_cons_succ]
    refine run_nil ?_
    refine norm_then ?_
    refine wp_ret ?_
    refine ret_then ?_
    obtain rfl := Option.some.inj H
    refine bodyPost_ret (results_2 rfl (one_agg rfl Tryd.isAgg36 (HS4.look 0 rfl) Tryd.sizeOf36 rfl) (one_tmp rfl)) rfl ?_
    exact ⟨rfl, HS4.toE⟩
  · replace H := of_neg H (nt c1)
    refine wp_skip ?_
    refine norm_then ?_
    refine wp_seq ?_
    refine region ?_
    refine run_same (v := Value.agg #[Value.slice A0_0 a0.vDefs.length c0_0]) rfl rfl (r_loadBoxAgg (n := 1) (vs := [Value.slice A0_0 a0.vDefs.length c0_0]) rfl Tryd.isAgg24 (HS3.look 1 rfl) Tryd.sizeOf24 rfl rfl) ?_
    refine run_same (v := Value.int .i64 a1) rfl rfl (r_move rfl) ?_
    refine run_same (v := Value.string a2) rfl rfl (r_move rfl) ?_
    obtain ⟨v2, H2, H⟩ := of_bind H
    refine run_eq (v := Value.tuple #[Value.agg #[Value.string v2.1.vName, Value.int .i64 v2.1.vType, Value.int .i64 v2.1.vAt], Value.int .i64 v2.2]) rfl rfl (does_call_eq Tryd.call46 rfl rfl (ctf_member.calls k a0 a1 a2 A0_0 c0_0 HS3.sees hr0_0 hc0_0 H2)) ?_
    intro w5 hE4
    have HS5 := HS3.step hE4
    refine run_frame (by simp only [List.set_cons_zero, List.set_cons_succ]; rfl) ?_
    refine run_same (v := Value.agg #[Value.string v2.1.vName, Value.int .i64 v2.1.vType, Value.int .i64 v2.1.vAt]) rfl rfl (r_extract rfl rfl) ?_
    refine run_same (v := Value.int .i64 v2.2) rfl rfl (r_extract rfl rfl) ?_
    refine run_st (i := 0) (cs := [Value.string ByteArray.empty, Value.int .i64 0, Value.int .i64 0]) (cs' := [Value.string v2.1.vName, Value.int .i64 v2.1.vType, Value.int .i64 v2.1.vAt]) (vs := [Value.string v2.1.vName, Value.int .i64 v2.1.vType, Value.int .i64 v2.1.vAt]) (bs' := [(some b2, .cells #[Value.string v2.1.vName, Value.int .i64 v2.1.vType, Value.int .i64 v2.1.vAt] 36 (0, 0)), (some b1, .cells #[Value.slice A0_0 a0.vDefs.length c0_0] 24 (0, 0))]) rfl rfl Tryd.sizeOf36 rfl rfl (by decide) rfl HS5 rfl (Nat.le_of_ble_eq_true rfl) rfl rfl ?_
    intro w6 HS6
    refine run_same (v := Value.int .i64 v2.2) rfl rfl (r_assign rfl) ?_
    try simp only [List.set_cons_zero, List.set_cons_succ]
    refine run_nil ?_
    refine norm_then ?_
    refine wp_ret ?_
    obtain rfl := Option.some.inj H
    refine bodyPost_ret (results_2 rfl (one_agg rfl Tryd.isAgg36 (HS6.look 0 rfl) Tryd.sizeOf36 rfl) (one_tmp rfl)) rfl ?_
    exact ⟨rfl, HS6.toE⟩

end Go.Proofs.YtfjppgobidjndaaDoor
/- Plain laws: what holds from some number of rounds on; wrapped numbers; lists that are read by an index. -/
namespace Go.Proofs.YtfjppgobidjndaaDoor
open Go.RowKit Go.M
/-- from some number of rounds on, this is what comes -/
def Ev {α : Type} (f : Nat → Option α) (v : α) : Prop := ∃ K, ∀ k, K ≤ k → f k = some v
def Ev2 {α : Type} (f : Nat → Nat → Option α) (v : α) : Prop := ∃ K, ∀ k m, K ≤ k → K ≤ m → f k m = some v
section
variable {α β γ : Type}
theorem Ev.pure {f : Nat → Option α} {v : α} (h : ∀ k, f k = some v) : Ev f v := ⟨0, fun k _ => h k⟩
theorem Ev.bind {f : Nat → Option α} {g : Nat → α → Option β} {a : α} {b : β} (hf : Ev f a) (hg : Ev (fun k => g k a) b) : Ev (fun k => (f k).bind (g k)) b := by
  obtain ⟨K, hK⟩ := hf
  obtain ⟨L, hL⟩ := hg
  exact ⟨max K L, fun k hk => by
    show (f k).bind (g k) = some b
    rw [hK k (by omega)]
    exact hL k (by omega)⟩
theorem Ev.congr {f g : Nat → Option α} {v : α} (hf : Ev f v) (h : ∀ k, g k = f k) : Ev g v := by
  obtain ⟨K, hK⟩ := hf
  exact ⟨K, fun k hk => (h k).trans (hK k hk)⟩
theorem Ev.of_le {f g : Nat → Option α} {v : α} (hf : Ev f v) (K : Nat) (h : ∀ k, K ≤ k → g k = f k) : Ev g v := by
  obtain ⟨L, hL⟩ := hf
  exact ⟨max K L, fun k hk => (h k (by omega)).trans (hL k (by omega))⟩
theorem Ev.succ {f : Nat → Option α} {v : α} (hf : Ev (fun k => f (k + 1)) v) : Ev f v := by
  obtain ⟨K, hK⟩ := hf
  refine ⟨K + 1, fun k hk => ?_⟩
  obtain ⟨m, rfl⟩ : ∃ m, k = m + 1 := ⟨k - 1, by omega⟩
  exact hK m (by omega)
theorem Ev.uniq {f : Nat → Option α} {v u : α} (hf : Ev f v) (hg : Ev f u) : v = u := by
  obtain ⟨K, hK⟩ := hf
  obtain ⟨L, hL⟩ := hg
  have h1 := hK (max K L) (by omega)
  have h2 := hL (max K L) (by omega)
  rw [h1] at h2
  exact Option.some.inj h2
theorem Ev2.diag {f : Nat → Nat → Option α} {v : α} (h : Ev2 f v) : Ev (fun k => f k k) v := by
  obtain ⟨K, hK⟩ := h
  exact ⟨K, fun k hk => hK k k hk hk⟩
theorem Ev2.pure {f : Nat → Nat → Option α} {v : α} (h : ∀ k m, f k (m + 1) = some v) : Ev2 f v := ⟨1, fun k m _ hm => by
  obtain ⟨q, rfl⟩ : ∃ q, m = q + 1 := ⟨m - 1, by omega⟩
  exact h k q⟩
/-- a round: what its body comes to, then the rest -/
theorem Ev2.step {f : Nat → Nat → Option α} {g : Nat → Option β} {b : β} {r : Nat → Nat → β → Option α} {v : α} (hg : Ev g b) (hr : Ev2 (fun k m => r k m b) v) (h : ∀ k m, f k (m + 1) = (g k).bind (r k m)) : Ev2 f v := by
  obtain ⟨K, hK⟩ := hg
  obtain ⟨L, hL⟩ := hr
  refine ⟨max K L + 1, fun k m hk hm => ?_⟩
  obtain ⟨q, rfl⟩ : ∃ q, m = q + 1 := ⟨m - 1, by omega⟩
  rw [h, hK k (by omega)]
  exact hL k q (by omega) (by omega)
theorem Ev2.next {f r : Nat → Nat → Option α} {v : α} (hr : Ev2 r v) (h : ∀ k m, f k (m + 1) = r k m) : Ev2 f v := by
  obtain ⟨L, hL⟩ := hr
  refine ⟨L + 1, fun k m hk hm => ?_⟩
  obtain ⟨q, rfl⟩ : ∃ q, m = q + 1 := ⟨m - 1, by omega⟩
  rw [h]
  exact hL k q (by omega) (by omega)
theorem Ev.all {f : γ → Nat → Option α} {q : γ → α} : ∀ (l : List γ), (∀ z ∈ l, Ev (f z) (q z)) → ∃ K, ∀ k, K ≤ k → ∀ z ∈ l, f z k = some (q z)
  | [], _ => ⟨0, fun k _ z hz => by cases hz⟩
  | x :: l, h => by
    obtain ⟨K, hK⟩ := h x List.mem_cons_self
    obtain ⟨L, hL⟩ := Ev.all l (fun z hz => h z (List.mem_cons_of_mem _ hz))
    refine ⟨max K L, fun k hk z hz => ?_⟩
    rcases List.mem_cons.1 hz with rfl | hz
    · exact hK k (by omega)
    · exact hL k (by omega) z hz
end
theorem wrap_id {x : Int} (h0 : -9223372036854775808 ≤ x) (h1 : x ≤ 9223372036854775807) : IntKind.wrap .i64 x = x := by
  simp [IntKind.wrap, IntKind.bits, IntKind.signed]
  omega
theorem wrap_nat {j n : Nat} (hj : j < n) (hn : n ≤ 9223372036854775807) : IntKind.wrap .i64 ((j : Int) + 1) = ((j + 1 : Nat) : Int) := by
  rw [wrap_id (by omega) (by omega)]; rfl
section
variable {α : Type} {z : α} {xs : List α}
theorem rd_nat (j : Nat) : rd z xs (j : Int) = xs.getD j z := by simp [rd]
theorem rd_mem {i : Int} (h0 : 0 ≤ i) (h1 : i < xs.length) : rd z xs i ∈ xs := by
  unfold rd
  have : i.toNat < xs.length := by omega
  rw [List.getD_eq_getElem?_getD, List.getElem?_eq_getElem this]
  exact List.getElem_mem this
theorem getD_mem {j : Nat} (h1 : j < xs.length) : xs.getD j z ∈ xs := by
  rw [List.getD_eq_getElem?_getD, List.getElem?_eq_getElem h1]
  exact List.getElem_mem h1
end
/-- the place of the first element that is so -/
theorem index_loop {l : List api_Def} {p : api_Def → Option Bool} {q : api_Def → Bool} (hp : ∀ z ∈ l, p z = some (q z)) (hl : l.length ≤ 9223372036854775807) :
    ∀ (d j m : Nat), j + d = l.length → d < m → slices_IndexFunc_api_Def_api_Def.l0 l p m (j : Int) = some (if ((l.drop j).any q) = true then .inl (((j + (l.drop j).findIdx q : Nat)) : Int) else .inr ()) := by
  intro d
  induction d with
  | zero =>
    intro j m hj hm
    obtain ⟨m, rfl⟩ : ∃ q, m = q + 1 := ⟨m - 1, by omega⟩
    rw [slices_IndexFunc_api_Def_api_Def.l0, if_neg (by simp; omega)]
    have : l.drop j = [] := List.drop_eq_nil_of_le (by omega)
    rw [this]
    rfl
  | succ d ih =>
    intro j m hj hm
    obtain ⟨m, rfl⟩ : ∃ q, m = q + 1 := ⟨m - 1, by omega⟩
    have hlt : j < l.length := by omega
    rw [slices_IndexFunc_api_Def_api_Def.l0, if_pos (by simp; omega), if_pos (by omega), rd_nat, hp _ (getD_mem hlt)]
    have hd : l.drop j = l.getD j z_api_Def :: l.drop (j + 1) := by
      rw [List.drop_eq_getElem_cons hlt, List.getD_eq_getElem?_getD, List.getElem?_eq_getElem hlt]; rfl
    simp only [Option.bind_some]
    cases hb : q (l.getD j z_api_Def) with
    | true =>
      rw [if_pos rfl, hd]
      simp only [List.any_cons, hb, Bool.true_or, if_true, List.findIdx_cons, cond_true, Nat.add_zero]
    | false =>
      rw [if_neg (by simp), wrap_nat hlt hl, ih (j + 1) m (by omega) (by omega), hd]
      simp only [List.any_cons, hb, Bool.false_or, List.findIdx_cons, cond_false]
      split
      · congr 2; omega
      · rfl
theorem contains_ev {l : List api_Def} {p : Nat → api_Def → Option Bool} {q : api_Def → Bool} (hp : ∀ z ∈ l, Ev (fun k => p k z) (q z)) (hl : l.length ≤ 9223372036854775807) :
    Ev (fun k => slices_ContainsFunc_api_Def_api_Def.f k l (p k)) (l.any q) := by
  obtain ⟨K, hK⟩ := Ev.all (f := fun z k => p k z) l hp
  refine ⟨max K (l.length + 1), fun k hk => ?_⟩
  unfold slices_ContainsFunc_api_Def_api_Def.f slices_IndexFunc_api_Def_api_Def.f
  have := index_loop (l := l) (p := p k) (q := q) (fun z hz => hK k (by omega) z hz) hl l.length 0 k (by omega) (by omega)
  rw [show ((0 : Nat) : Int) = 0 from rfl] at this
  simp only []
  rw [this, List.drop_zero]
  cases h : l.any q with
  | true => simp
  | false => simp
end Go.Proofs.YtfjppgobidjndaaDoor
