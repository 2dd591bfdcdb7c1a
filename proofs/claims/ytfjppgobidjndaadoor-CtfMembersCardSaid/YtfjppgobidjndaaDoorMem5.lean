/- Parts of a proof, merged by program: F109 F108 F70 F69 F37 F42 F13 F3 Q5 Q6 Q7. The walks (each function once) and the plain laws; no condition of their own. -/
import Derived.Test.YtfjppgobidjndaaDoorMem4
set_option linter.unusedVariables false
set_option linter.unusedSimpArgs false
namespace Go.Proofs.YtfjppgobidjndaaDoor
open Go.RowKit Go.M
def ctf_putField.f (k : Nat) (a0 : List Int) (a1 : api_Field) : Option ((List Int)) := (ctf_putString.f k a0 a1.vName).bind fun v1 => ((ctf_put.f k v1 a1.vType).bind fun v2 => ((ctf_put.f k v2 a1.vAt).bind fun v3 => (some v3)))
set_option maxRecDepth 20000 in
set_option maxHeartbeats 4000000 in
theorem ctf_putField.calls (k : Nat) (a0 : List Int) (a1 : api_Field) (oba0 : Option Nat) (ca0 : Nat) (csa0 : List Value) (fra0 : Nat × Nat) {h0 : View} {w0 : World} {h : View} {w : World} {rest : List Res} (HS : St [] h0 w0 h ((oba0, .cells (csa0).toArray 5 fra0) :: rest) w) (hoa0 : RowOk (Kd.int .u8) h a0 oba0 a0.length ca0 csa0) (hfa0 : FrOk fra0 csa0.length) {r : (List Int)} (H : ctf_putField.f k a0 a1 = some r) : Calls Tryd.prog 109 #[Value.slice (rowA oba0) a0.length ca0, Value.agg #[Value.string a1.vName, Value.int .i64 a1.vType, Value.int .i64 a1.vAt]] w (fun e w1 => ∃ (obz_a0 : Option Nat) (cz_a0 : Nat) (csz_a0 : List Value), ∃ (frz_a0 : Nat × Nat), e = .returned (Value.slice (rowA obz_a0) r.length cz_a0) ∧ FrOk frz_a0 csz_a0.length ∧ RowOk (Kd.int .u8) h r obz_a0 r.length cz_a0 csz_a0 ∧ St [] h0 w0 h ((obz_a0, .cells (csz_a0).toArray 5 frz_a0) :: rest) w1) := by
  unfold ctf_putField.f at H
  have hsub : Sub h h := Sub.rfl' h
  go_enter Tryd.func109, Tryd.ntmps109
  refine wp_seq ?_
  refine region ?_
  refine run_ex rfl rfl (does_box (cs := #[Value.string a1.vName, Value.int .i64 a1.vType, Value.int .i64 a1.vAt]) rfl rfl) ?_
  rintro w1 _ hE1 ⟨b1, rfl, ge1, hb1⟩
  have HS1 := HS.new hE1 ge1 hb1
  refine run_same (v := Value.slice none 0 0) rfl rfl (r_assign rfl) ?_
  try simp only [List.set_cons_zero, List.set_cons_succ]
  refine run_nil ?_
  refine norm_then ?_
  refine wp_seq ?_
  refine drawn_chain [([5, 6, 7, 9, 10, 12, 13], [0, 1, 2, 4, 5, 7, 8]), ([], [4, 5, 7, 8]), ([], [7, 8]), ([4], [10])] [3, 6, 9] [[], [], [1], [0, 1, 2], [], [4], [0, 1, 2, 3, 4, 5], [], [7], [0, 1, 2, 3, 4, 5, 6, 7, 8], [0, 1, 2, 3, 4, 5, 6, 7, 8, 9]] hmix (by kernel_rfl) ?_
  intro w2 hE2
  have HS2 := HS1.step hE2
  refine chain_eff [Value.slice (rowA oba0) a0.length ca0, Value.pointer (some ⟨b1, 0, none⟩), Value.string a1.vName, Value.pointer (some ⟨b1, 1, none⟩), Value.int .i64 a1.vType, Value.pointer (some ⟨b1, 2, none⟩), Value.int .i64 a1.vAt] ?_ rfl rfl ?_
  · try simp only [patch, List.set_cons_zero, List.set_cons_succ]
    exact allg_cons (good_same (v := Value.slice (rowA oba0) a0.length ca0) rfl rfl rfl rfl (r_move rfl)) (allg_cons (good_same (v := Value.pointer (some ⟨b1, 0, none⟩)) rfl rfl rfl rfl (r_fieldBox (n := 1) (o' := 0) rfl Tryd.runUnderlying36 rfl Tryd.sizeOf9 (by decide) rfl)) (allg_cons (good_same (v := Value.string a1.vName) rfl rfl rfl rfl (r_loadBox rfl Tryd.isAgg9 (HS2.look 0 rfl) rfl)) (allg_cons (good_same (v := Value.pointer (some ⟨b1, 1, none⟩)) rfl rfl rfl rfl (r_fieldBox (n := 1) (o' := 1) rfl Tryd.runUnderlying36 rfl Tryd.sizeOf3 (by decide) rfl)) (allg_cons (good_same (v := Value.int .i64 a1.vType) rfl rfl rfl rfl (r_loadBox rfl Tryd.isAgg3 (HS2.look 0 rfl) rfl)) (allg_cons (good_same (v := Value.pointer (some ⟨b1, 2, none⟩)) rfl rfl rfl rfl (r_fieldBox (n := 1) (o' := 2) rfl Tryd.runUnderlying36 rfl Tryd.sizeOf3 (by decide) rfl)) (allg_cons (good_same (v := Value.int .i64 a1.vAt) rfl rfl rfl rfl (r_loadBox rfl Tryd.isAgg3 (HS2.look 0 rfl) rfl)) (allg_nil)))))))
  try simp only [patch, List.set_cons_zero, List.set_cons_succ]
  obtain ⟨v1, H1, H⟩ := of_bind H
  have HS3 : St [] h0 w0 h ((oba0, .cells (csa0).toArray 5 fra0) :: (some b1, .cells #[Value.string a1.vName, Value.int .i64 a1.vType, Value.int .i64 a1.vAt] 36 (0, 0)) :: rest) w2 := HS2.front (i := 1) rfl
  refine run_call (vs := [Value.slice (rowA oba0) a0.length ca0, Value.string a1.vName]) (caps := []) Tryd.call107 rfl rfl (ctf_putString.calls k a0 a1.vName oba0 ca0 csa0 fra0 HS3 hoa0 hfa0 H1) ?_
  rintro _ w3 ⟨obv1_a0, cv1_a0, csv1_a0, frv1_a0, rfl, hfv1_a0, hov1_a0, HS4⟩
  refine ⟨_, rfl, ?_⟩
  have HS5 : St [] h0 w0 h ((some b1, .cells #[Value.string a1.vName, Value.int .i64 a1.vType, Value.int .i64 a1.vAt] 36 (0, 0)) :: (obv1_a0, .cells (csv1_a0).toArray 5 frv1_a0) :: rest) w3 := HS4.front (i := 1) rfl
  refine qn_nil ?_
  try simp only [List.set_cons_zero, List.set_cons_succ]
  refine chain_eff [] ?_ rfl rfl ?_
  · try simp only [patch, List.set_cons_zero, List.set_cons_succ]
    exact allg_cons (good_same (v := Value.pointer (some ⟨b1, 1, none⟩)) rfl rfl rfl rfl (r_fieldBox (n := 1) (o' := 1) rfl Tryd.runUnderlying36 rfl Tryd.sizeOf3 (by decide) rfl)) (allg_cons (good_same (v := Value.int .i64 a1.vType) rfl rfl rfl rfl (r_loadBox rfl Tryd.isAgg3 (HS5.look 0 rfl) rfl)) (allg_cons (good_same (v := Value.pointer (some ⟨b1, 2, none⟩)) rfl rfl rfl rfl (r_fieldBox (n := 1) (o' := 2) rfl Tryd.runUnderlying36 rfl Tryd.sizeOf3 (by decide) rfl)) (allg_cons (good_same (v := Value.int .i64 a1.vAt) rfl rfl rfl rfl (r_loadBox rfl Tryd.isAgg3 (HS5.look 0 rfl) rfl)) (allg_nil))))
  try simp only [patch, List.set_cons_zero, List.set_cons_succ]
  obtain ⟨v2, H2, H⟩ := of_bind H
  have HS6 : St [] h0 w0 h ((obv1_a0, .cells (csv1_a0).toArray 5 frv1_a0) :: (some b1, .cells #[Value.string a1.vName, Value.int .i64 a1.vType, Value.int .i64 a1.vAt] 36 (0, 0)) :: rest) w3 := HS5.front (i := 1) rfl
  refine run_call (vs := [Value.slice (rowA obv1_a0) v1.length cv1_a0, Value.int .i64 a1.vType]) (caps := []) Tryd.call106 rfl rfl (ctf_put.calls k v1 a1.vType obv1_a0 cv1_a0 csv1_a0 frv1_a0 HS6 hov1_a0 hfv1_a0 H2) ?_
  rintro _ w4 ⟨obv2_a0, cv2_a0, csv2_a0, frv2_a0, rfl, hfv2_a0, hov2_a0, HS7⟩
  refine ⟨_, rfl, ?_⟩
  have HS8 : St [] h0 w0 h ((some b1, .cells #[Value.string a1.vName, Value.int .i64 a1.vType, Value.int .i64 a1.vAt] 36 (0, 0)) :: (obv2_a0, .cells (csv2_a0).toArray 5 frv2_a0) :: rest) w4 := HS7.front (i := 1) rfl
  refine qn_nil ?_
  try simp only [List.set_cons_zero, List.set_cons_succ]
  refine chain_eff [] ?_ rfl rfl ?_
  · try simp only [patch, List.set_cons_zero, List.set_cons_succ]
    exact allg_cons (good_same (v := Value.pointer (some ⟨b1, 2, none⟩)) rfl rfl rfl rfl (r_fieldBox (n := 1) (o' := 2) rfl Tryd.runUnderlying36 rfl Tryd.sizeOf3 (by decide) rfl)) (allg_cons (good_same (v := Value.int .i64 a1.vAt) rfl rfl rfl rfl (r_loadBox rfl Tryd.isAgg3 (HS8.look 0 rfl) rfl)) (allg_nil))
  try simp only [patch, List.set_cons_zero, List.set_cons_succ]
  obtain ⟨v3, H3, H⟩ := of_bind H
  have HS9 : St [] h0 w0 h ((obv2_a0, .cells (csv2_a0).toArray 5 frv2_a0) :: (some b1, .cells #[Value.string a1.vName, Value.int .i64 a1.vType, Value.int .i64 a1.vAt] 36 (0, 0)) :: rest) w4 := HS8.front (i := 1) rfl
  refine run_call (vs := [Value.slice (rowA obv2_a0) v2.length cv2_a0, Value.int .i64 a1.vAt]) (caps := []) Tryd.call106 rfl rfl (ctf_put.calls k v2 a1.vAt obv2_a0 cv2_a0 csv2_a0 frv2_a0 HS9 hov2_a0 hfv2_a0 H3) ?_
  rintro _ w5 ⟨obv3_a0, cv3_a0, csv3_a0, frv3_a0, rfl, hfv3_a0, hov3_a0, HS10⟩
  refine ⟨_, rfl, ?_⟩
  have HS11 : St [] h0 w0 h ((some b1, .cells #[Value.string a1.vName, Value.int .i64 a1.vType, Value.int .i64 a1.vAt] 36 (0, 0)) :: (obv3_a0, .cells (csv3_a0).toArray 5 frv3_a0) :: rest) w5 := HS10.front (i := 1) rfl
  refine qn_nil ?_
  try simp only [List.set_cons_zero, List.set_cons_succ]
  refine chain_last [Value.slice (rowA obv3_a0) v3.length cv3_a0] ?_ ?_
  · try simp only [patch, List.set_cons_zero, List.set_cons_succ]
    exact allg_cons (good_same (v := Value.slice (rowA obv3_a0) v3.length cv3_a0) rfl rfl rfl rfl (r_assign rfl)) (allg_nil)
  try simp only [patch, List.set_cons_zero, List.set_cons_succ]
  refine norm_then ?_
  refine wp_ret ?_
  obtain rfl := Option.some.inj H
  refine bodyPost_ret (results_1 rfl (one_tmp rfl)) rfl ?_
  have HS12 : St [] h0 w0 h ((obv3_a0, .cells (csv3_a0).toArray 5 frv3_a0) :: rest) w5 := HS11.drop 0
  exact ⟨obv3_a0, cv3_a0, csv3_a0, frv3_a0, rfl, hfv3_a0, hov3_a0, HS12⟩

end Go.Proofs.YtfjppgobidjndaaDoor
namespace Go.Proofs.YtfjppgobidjndaaDoor
open Go.RowKit Go.M
def ctf_putList_api_Field.l0 (k : Nat) (a1 : List api_Field) : Nat → Int → (List Int) → Option ((List Int))
  | 0, _, _ => none
  | m + 1, y1_0, y1_1 => if (decide (y1_0 < (a1.length : Int))) = true then (if 0 ≤ y1_0 ∧ y1_0 < a1.length then ((ctf_putField.f k y1_1 (rd z_api_Field a1 y1_0)).bind fun v2 => (ctf_putList_api_Field.l0 k a1 m (IntKind.wrap .i64 (y1_0 + 1)) v2)) else none) else (some y1_1)
def ctf_putList_api_Field.f (k : Nat) (a0 : List Int) (a1 : List api_Field) : Option ((List Int)) := (ctf_put.f k a0 (a1.length : Int)).bind fun v1 => ((ctf_putList_api_Field.l0 k a1 k 0 v1).bind fun xx1 => (some xx1))
set_option maxRecDepth 20000 in
set_option maxHeartbeats 4000000 in
theorem ctf_putList_api_Field.calls (k : Nat) (a0 : List Int) (a1 : List api_Field) (oba0 : Option Nat) (ca0 : Nat) (csa0 : List Value) (fra0 : Nat × Nat) (A1_0 : Option Addr) (c1_0 : Nat) {h0 : View} {w0 : World} {h : View} {w : World} {rest : List Res} (HS : St [] h0 w0 h ((oba0, .cells (csa0).toArray 5 fra0) :: rest) w) (hoa0 : RowOk (Kd.int .u8) h a0 oba0 a0.length ca0 csa0) (hfa0 : FrOk fra0 csa0.length) (hr1_0 : Rd k_api_Field h A1_0 a1) (hc1_0 : a1.length ≤ c1_0) {r : (List Int)} (H : ctf_putList_api_Field.f k a0 a1 = some r) : Calls Tryd.prog 108 #[Value.slice (rowA oba0) a0.length ca0, Value.slice A1_0 a1.length c1_0, Value.func (.func 109) #[] #[]] w (fun e w1 => ∃ (obz_a0 : Option Nat) (cz_a0 : Nat) (csz_a0 : List Value), ∃ (frz_a0 : Nat × Nat), e = .returned (Value.slice (rowA obz_a0) r.length cz_a0) ∧ FrOk frz_a0 csz_a0.length ∧ RowOk (Kd.int .u8) h r obz_a0 r.length cz_a0 csz_a0 ∧ St [] h0 w0 h ((obz_a0, .cells (csz_a0).toArray 5 frz_a0) :: rest) w1) := by
  unfold ctf_putList_api_Field.f at H
  have hsub : Sub h h := Sub.rfl' h
  go_enter Tryd.func108, Tryd.ntmps108
  refine wp_seq ?_
  refine region ?_
  refine run_same (v := Value.slice none 0 0) rfl rfl (r_assign rfl) ?_
  try simp only [List.set_cons_zero, List.set_cons_succ]
  refine run_nil ?_
  refine norm_then ?_
  refine wp_seq ?_
  refine region ?_
  refine run_same (v := Value.slice (rowA oba0) a0.length ca0) rfl rfl (r_move rfl) ?_
  refine run_same (v := Value.slice A1_0 a1.length c1_0) rfl rfl (r_move rfl) ?_
  refine run_same (v := Value.int .i64 (a1.length : Int)) rfl rfl (r_len rfl Tryd.runUnderlying32) ?_
  obtain ⟨v1, H1, H⟩ := of_bind H
  refine run_call (vs := [Value.slice (rowA oba0) a0.length ca0, Value.int .i64 (a1.length : Int)]) (caps := []) Tryd.call106 rfl rfl (ctf_put.calls k a0 (a1.length : Int) oba0 ca0 csa0 fra0 HS hoa0 hfa0 H1) ?_
  rintro _ w1 ⟨obv1_a0, cv1_a0, csv1_a0, frv1_a0, rfl, hfv1_a0, hov1_a0, HS1⟩
  refine ⟨_, rfl, ?_⟩
  refine run_frame (by simp only [List.set_cons_zero, List.set_cons_succ]; rfl) ?_
  refine run_same (v := Value.slice (rowA obv1_a0) v1.length cv1_a0) rfl rfl (r_assign rfl) ?_
  try simp only [List.set_cons_zero, List.set_cons_succ]
  refine run_nil ?_
  refine norm_then ?_
  refine wp_seq ?_
  refine wp_seq ?_
  refine region ?_
  refine run_same (v := Value.slice A1_0 a1.length c1_0) rfl rfl (r_move rfl) ?_
  refine run_same (v := Value.int .i64 (a1.length : Int)) rfl rfl (r_len rfl Tryd.runUnderlying32) ?_
  refine run_same (v := Value.int .i64 0) rfl rfl (r_move rfl) ?_
  try simp only [List.set_cons_zero, List.set_cons_succ]
  refine run_nil ?_
  refine norm_then ?_
  obtain ⟨xx1, H, G1⟩ := of_bind H
  refine loop_patch [0, 8, 15, 16, 17, 18, 19, 20, 21, 22, 23] (fun m us w' => ∃ (y1_0 : Int), ∃ (y1_1 : List Int), ∃ (oby1_1 : Option Nat) (cy1_1 : Nat), ∃ (csy1_1 : List Value), ∃ (fry1_1 : Nat × Nat), ∃ (uy1_8 : Value), ∃ (uy1_16 : Value), ∃ (uy1_17 : Value), ∃ (uy1_18 : Value), ∃ (uy1_19 : Value), ∃ (uy1_20 : Value), ∃ (uy1_21 : Value), ∃ (uy1_22 : Value), ∃ (uy1_23 : Value), us = [Value.slice (rowA oby1_1) y1_1.length cy1_1, uy1_8, Value.int .i64 y1_0, uy1_16, uy1_17, uy1_18, uy1_19, uy1_20, uy1_21, uy1_22, uy1_23] ∧ ctf_putList_api_Field.l0 k a1 m y1_0 y1_1 = some xx1 ∧ FrOk fry1_1 csy1_1.length ∧ RowOk (Kd.int .u8) h y1_1 oby1_1 y1_1.length cy1_1 csy1_1 ∧ St [] h0 w0 h ((oby1_1, .cells (csy1_1).toArray 5 fry1_1) :: rest) w') (fun us w' => ∃ (obo1_0 : Option Nat) (co1_0 : Nat), ∃ (cso1_0 : List Value), ∃ (fro1_0 : Nat × Nat), ∃ (uo1_8 : Value), ∃ (uo1_15 : Value), ∃ (uo1_16 : Value), ∃ (uo1_17 : Value), ∃ (uo1_18 : Value), ∃ (uo1_19 : Value), ∃ (uo1_20 : Value), ∃ (uo1_21 : Value), ∃ (uo1_22 : Value), ∃ (uo1_23 : Value), us = [Value.slice (rowA obo1_0) xx1.length co1_0, uo1_8, uo1_15, uo1_16, uo1_17, uo1_18, uo1_19, uo1_20, uo1_21, uo1_22, uo1_23] ∧ FrOk fro1_0 cso1_0.length ∧ RowOk (Kd.int .u8) h xx1 obo1_0 xx1.length co1_0 cso1_0 ∧ St [] h0 w0 h ((obo1_0, .cells (cso1_0).toArray 5 fro1_0) :: rest) w') k [Value.slice (rowA obv1_a0) v1.length cv1_a0, undef, Value.int .i64 0, undef, undef, undef, undef, undef, undef, undef, undef] (by simp only [patch, List.set_cons_zero, List.set_cons_succ]) ⟨0, v1, obv1_a0, cv1_a0, csv1_a0, frv1_a0, _, _, _, _, _, _, _, _, _, rfl, H, hfv1_a0, hov1_a0.norm, HS1⟩ ?_ ?_
  · rintro m us w2 ⟨y1_0, y1_1, oby1_1, cy1_1, csy1_1, fry1_1, uy1_8, uy1_16, uy1_17, uy1_18, uy1_19, uy1_20, uy1_21, uy1_22, uy1_23, rfl, H, hfy1_1, hoy1_1, HS2⟩
    cases m with
    | zero => exact absurd H (by simp [ctf_putList_api_Field.l0])
    | succ m =>
      rw [ctf_putList_api_Field.l0] at H
      try simp only [patch, List.set_cons_zero, List.set_cons_succ]
      refine wp_seq ?_
      refine region ?_
      refine run_same (v := Value.bool (decide (y1_0 < (a1.length : Int)))) rfl rfl (r_bin rfl rfl rfl) ?_
      try simp only [List.set_cons_zero, List.set_cons_succ]
      refine run_nil ?_
      refine norm_then ?_
      refine wp_seq ?_
      refine wp_cond_split (t := (decide (y1_0 < (a1.length : Int)))) rfl (fun c1 => ?_) (fun c1 => ?_)
      · replace H := of_pos H c1
        refine wp_skip ?_
        refine norm_then ?_
        refine wp_seq ?_
        refine wp_block ?_
        refine wp_seq ?_
        refine region ?_
        obtain ⟨hi1, H⟩ := of_ite H
        obtain ⟨ad1, e1, hel1⟩ := ld_api_Field hr1_0 hi1.1 hi1.2
        refine run_same (v := Value.pointer (some (Addr.add ad1 (y1_0.toNat * 3)))) rfl rfl (r_indexA (sz := 3) rfl e1 rfl hi1.1 hi1.2 Tryd.runUnderlying32 Tryd.sizeOf36) ?_
        refine run_same (v := Value.agg #[Value.string ((rd z_api_Field a1 y1_0).vName), Value.int .i64 ((rd z_api_Field a1 y1_0).vType), Value.int .i64 ((rd z_api_Field a1 y1_0).vAt)]) rfl rfl (r_loadAgg rfl Tryd.isAgg36 (hel1.sees HS2.sees) Tryd.sizeOf36) ?_
        refine run_ex rfl rfl (does_alloc (cs := #[Value.string ByteArray.empty, Value.int .i64 0, Value.int .i64 0]) Tryd.zeroValue36 rfl) ?_
        rintro w3 _ hE1 ⟨b1, rfl, ge1, hb1⟩
        have HS3 := HS2.new hE1 ge1 hb1
        refine run_st (i := 0) (cs := [Value.string ByteArray.empty, Value.int .i64 0, Value.int .i64 0]) (cs' := [Value.string ((rd z_api_Field a1 y1_0).vName), Value.int .i64 ((rd z_api_Field a1 y1_0).vType), Value.int .i64 ((rd z_api_Field a1 y1_0).vAt)]) (vs := [Value.string ((rd z_api_Field a1 y1_0).vName), Value.int .i64 ((rd z_api_Field a1 y1_0).vType), Value.int .i64 ((rd z_api_Field a1 y1_0).vAt)]) (bs' := ((some b1, .cells #[Value.string ((rd z_api_Field a1 y1_0).vName), Value.int .i64 ((rd z_api_Field a1 y1_0).vType), Value.int .i64 ((rd z_api_Field a1 y1_0).vAt)] 36 (0, 0)) :: (oby1_1, .cells (csy1_1).toArray 5 fry1_1) :: rest)) rfl rfl Tryd.sizeOf36 rfl rfl (by decide) rfl HS3 rfl (Nat.le_of_ble_eq_true rfl) rfl rfl ?_
        intro w4 HS4
        try simp only [List.set_cons_zero, List.set_cons_succ]
        refine run_nil ?_
        refine norm_then ?_
        refine region ?_
        refine run_same (v := Value.func (.func 109) #[] #[]) rfl rfl (r_move rfl) ?_
        refine run_same (v := Value.slice (rowA oby1_1) y1_1.length cy1_1) rfl rfl (r_move rfl) ?_
        refine run_same (v := Value.agg #[Value.string ((rd z_api_Field a1 y1_0).vName), Value.int .i64 ((rd z_api_Field a1 y1_0).vType), Value.int .i64 ((rd z_api_Field a1 y1_0).vAt)]) rfl rfl (r_loadBoxAgg (n := 3) (vs := [Value.string ((rd z_api_Field a1 y1_0).vName), Value.int .i64 ((rd z_api_Field a1 y1_0).vType), Value.int .i64 ((rd z_api_Field a1 y1_0).vAt)]) rfl Tryd.isAgg36 (HS4.look 0 rfl) Tryd.sizeOf36 rfl rfl) ?_
        obtain ⟨v2, H2, H⟩ := of_bind H
        have HS5 : St [] h0 w0 h ((oby1_1, .cells (csy1_1).toArray 5 fry1_1) :: (some b1, .cells #[Value.string ((rd z_api_Field a1 y1_0).vName), Value.int .i64 ((rd z_api_Field a1 y1_0).vType), Value.int .i64 ((rd z_api_Field a1 y1_0).vAt)] 36 (0, 0)) :: rest) w4 := HS4.front (i := 1) rfl
        refine run_call (vs := [Value.slice (rowA oby1_1) y1_1.length cy1_1, Value.agg #[Value.string ((rd z_api_Field a1 y1_0).vName), Value.int .i64 ((rd z_api_Field a1 y1_0).vType), Value.int .i64 ((rd z_api_Field a1 y1_0).vAt)]]) (caps := []) Tryd.call109 rfl rfl (ctf_putField.calls k y1_1 (rd z_api_Field a1 y1_0) oby1_1 cy1_1 csy1_1 fry1_1 HS5 hoy1_1 hfy1_1 H2) ?_
        rintro _ w5 ⟨obv2_a0, cv2_a0, csv2_a0, frv2_a0, rfl, hfv2_a0, hov2_a0, HS6⟩
        refine ⟨_, rfl, ?_⟩
        have HS7 : St [] h0 w0 h ((some b1, .cells #[Value.string ((rd z_api_Field a1 y1_0).vName), Value.int .i64 ((rd z_api_Field a1 y1_0).vType), Value.int .i64 ((rd z_api_Field a1 y1_0).vAt)] 36 (0, 0)) :: (obv2_a0, .cells (csv2_a0).toArray 5 frv2_a0) :: rest) w5 := HS6.front (i := 1) rfl
        refine run_frame (by simp only [List.set_cons_zero, List.set_cons_succ]; rfl) ?_
        refine run_same (v := Value.slice (rowA obv2_a0) v2.length cv2_a0) rfl rfl (r_assign rfl) ?_
        try simp only [List.set_cons_zero, List.set_cons_succ]
        refine run_nil ?_
        refine norm_block ?_
        refine norm_then ?_
        refine region ?_
        refine run_same (v := Value.int .i64 (IntKind.wrap .i64 (y1_0 + 1))) rfl rfl (r_bin rfl rfl rfl) ?_
        refine run_same (v := Value.int .i64 (IntKind.wrap .i64 (y1_0 + 1))) rfl rfl (r_move rfl) ?_
        try simp only [List.set_cons_zero, List.set_cons_succ]
        refine run_nil ?_
        refine again m [Value.slice (rowA obv2_a0) v2.length cv2_a0, Value.pointer (some ⟨b1, 0, none⟩), Value.int .i64 (IntKind.wrap .i64 (y1_0 + 1)), Value.bool (decide (y1_0 < (a1.length : Int))), Value.pointer (some (Addr.add ad1 (y1_0.toNat * 3))), Value.agg #[Value.string ((rd z_api_Field a1 y1_0).vName), Value.int .i64 ((rd z_api_Field a1 y1_0).vType), Value.int .i64 ((rd z_api_Field a1 y1_0).vAt)], Value.func (.func 109) #[] #[], Value.slice (rowA oby1_1) y1_1.length cy1_1, Value.agg #[Value.string ((rd z_api_Field a1 y1_0).vName), Value.int .i64 ((rd z_api_Field a1 y1_0).vType), Value.int .i64 ((rd z_api_Field a1 y1_0).vAt)], Value.slice (rowA obv2_a0) v2.length cv2_a0, Value.int .i64 (IntKind.wrap .i64 (y1_0 + 1))] (Nat.lt_succ_self m) (by simp only [patch, List.set_cons_zero, List.set_cons_succ]) ⟨(IntKind.wrap .i64 (y1_0 + 1)), v2, obv2_a0, cv2_a0, csv2_a0, frv2_a0, _, _, _, _, _, _, _, _, _, rfl, H, hfv2_a0, hov2_a0.norm, HS7.tail⟩
      · replace H := of_neg H (nt c1)
        refine wp_exit ?_
        refine exit_then ?_
        obtain rfl := Option.some.inj H
        refine leave [Value.slice (rowA oby1_1) y1_1.length cy1_1, uy1_8, Value.int .i64 y1_0, Value.bool (decide (y1_0 < (a1.length : Int))), uy1_17, uy1_18, uy1_19, uy1_20, uy1_21, uy1_22, uy1_23] (by simp only [patch, List.set_cons_zero, List.set_cons_succ]) ⟨oby1_1, cy1_1, csy1_1, fry1_1, _, _, _, _, _, _, _, _, _, _, rfl, hfy1_1, hoy1_1.norm, HS2⟩
  · rintro us w6 ⟨obo1_0, co1_0, cso1_0, fro1_0, uo1_8, uo1_15, uo1_16, uo1_17, uo1_18, uo1_19, uo1_20, uo1_21, uo1_22, uo1_23, rfl, hfo1_0, hoo1_0, HS8⟩
    replace H := G1
    clear G1
    try simp only [patch, List.set_cons_zero, List.set_cons_succ]
    refine norm_then ?_
    refine wp_seq ?_
    refine region ?_
    refine run_same (v := Value.slice (rowA obo1_0) xx1.length co1_0) rfl rfl (r_move rfl) ?_
    refine run_same (v := Value.slice (rowA obo1_0) xx1.length co1_0) rfl rfl (r_assign rfl) ?_
    try simp only [List.set_cons_zero, List.set_cons_succ]
    refine run_nil ?_
    refine norm_then ?_
    refine wp_ret ?_
    obtain rfl := Option.some.inj H
    refine bodyPost_ret (results_1 rfl (one_tmp rfl)) rfl ?_
    exact ⟨obo1_0, co1_0, cso1_0, fro1_0, rfl, hfo1_0, hoo1_0, HS8⟩

end Go.Proofs.YtfjppgobidjndaaDoor
namespace Go.Proofs.YtfjppgobidjndaaDoor
open Go.RowKit Go.M
def ctf_putDef.f (k : Nat) (a0 : List Int) (a1 : api_Def) : Option ((List Int)) := (ctf_put.f k a0 a1.vKind).bind fun v1 => ((ctf_putString.f k v1 a1.vName).bind fun v2 => ((ctf_put.f k v2 a1.vInt.vSize).bind fun v3 => (((if a1.vInt.vSigned = true then (if v3.length + 1 ≤ 4294967296 then (some (v3 ++ ([1] : List Int))) else none) else (if v3.length + 1 ≤ 4294967296 then (some (v3 ++ ([0] : List Int))) else none)) : Option ((List Int))).bind fun xx1 => ((ctf_put.f k xx1 a1.vRef).bind fun v4 => ((ctf_put.f k v4 a1.vN).bind fun v5 => ((ctf_putList_api_Field.f k v5 a1.vFields).bind fun v6 => (some v6)))))))
set_option maxRecDepth 20000 in
set_option maxHeartbeats 4000000 in
theorem ctf_putDef.calls (k : Nat) (a0 : List Int) (a1 : api_Def) (oba0 : Option Nat) (ca0 : Nat) (csa0 : List Value) (fra0 : Nat × Nat) (A1_6 : Option Addr) (c1_6 : Nat) {h0 : View} {w0 : World} {h : View} {w : World} {rest : List Res} (HS : St [] h0 w0 h ((oba0, .cells (csa0).toArray 5 fra0) :: rest) w) (hoa0 : RowOk (Kd.int .u8) h a0 oba0 a0.length ca0 csa0) (hfa0 : FrOk fra0 csa0.length) (hr1_6 : Rd k_api_Field h A1_6 a1.vFields) (hc1_6 : a1.vFields.length ≤ c1_6) {r : (List Int)} (H : ctf_putDef.f k a0 a1 = some r) : Calls Tryd.prog 70 #[Value.slice (rowA oba0) a0.length ca0, Value.agg #[Value.int .i64 a1.vKind, Value.string a1.vName, Value.int .i64 a1.vInt.vSize, Value.bool a1.vInt.vSigned, Value.int .i64 a1.vRef, Value.int .i64 a1.vN, Value.slice A1_6 a1.vFields.length c1_6]] w (fun e w1 => ∃ (obz_a0 : Option Nat) (cz_a0 : Nat) (csz_a0 : List Value), ∃ (frz_a0 : Nat × Nat), e = .returned (Value.slice (rowA obz_a0) r.length cz_a0) ∧ FrOk frz_a0 csz_a0.length ∧ RowOk (Kd.int .u8) h r obz_a0 r.length cz_a0 csz_a0 ∧ St [] h0 w0 h ((obz_a0, .cells (csz_a0).toArray 5 frz_a0) :: rest) w1) := by
  unfold ctf_putDef.f at H
  have hsub : Sub h h := Sub.rfl' h
  go_enter Tryd.func70, Tryd.ntmps70
  refine wp_seq ?_
  refine region ?_
  refine run_ex rfl rfl (does_box (cs := #[Value.int .i64 a1.vKind, Value.string a1.vName, Value.int .i64 a1.vInt.vSize, Value.bool a1.vInt.vSigned, Value.int .i64 a1.vRef, Value.int .i64 a1.vN, Value.slice A1_6 a1.vFields.length c1_6]) rfl rfl) ?_
  rintro w1 _ hE1 ⟨b1, rfl, ge1, hb1⟩
  have HS1 := HS.new hE1 ge1 hb1
  refine run_same (v := Value.slice none 0 0) rfl rfl (r_assign rfl) ?_
  try simp only [List.set_cons_zero, List.set_cons_succ]
  refine run_nil ?_
  refine norm_then ?_
  refine wp_seq ?_
  refine drawn_chain [([5, 6, 7, 9, 10, 12, 13, 14], [0, 1, 2, 4, 5, 7, 8, 9]), ([], [4, 5, 7, 8, 9]), ([], [7, 8, 9]), ([0], [11])] [3, 6, 10] [[], [], [1], [0, 1, 2], [], [4], [0, 1, 2, 3, 4, 5], [], [7], [7, 8], [0, 1, 2, 3, 4, 5, 6, 7, 8, 9], [0, 1, 2, 3, 4, 5, 6, 7, 8, 9, 10]] hmix (by kernel_rfl) ?_
  intro w2 hE2
  have HS2 := HS1.step hE2
  refine chain_eff [Value.slice (rowA oba0) a0.length ca0, Value.pointer (some ⟨b1, 0, none⟩), Value.int .i64 a1.vKind, Value.pointer (some ⟨b1, 1, none⟩), Value.string a1.vName, Value.pointer (some ⟨b1, 2, none⟩), Value.pointer (some ⟨b1, 2, none⟩), Value.int .i64 a1.vInt.vSize] ?_ rfl rfl ?_
  · try simp only [patch, List.set_cons_zero, List.set_cons_succ]
    exact allg_cons (good_same (v := Value.slice (rowA oba0) a0.length ca0) rfl rfl rfl rfl (r_move rfl)) (allg_cons (good_same (v := Value.pointer (some ⟨b1, 0, none⟩)) rfl rfl rfl rfl (r_fieldBox (n := 1) (o' := 0) rfl Tryd.runUnderlying34 rfl Tryd.sizeOf3 (by decide) rfl)) (allg_cons (good_same (v := Value.int .i64 a1.vKind) rfl rfl rfl rfl (r_loadBox rfl Tryd.isAgg3 (HS2.look 0 rfl) rfl)) (allg_cons (good_same (v := Value.pointer (some ⟨b1, 1, none⟩)) rfl rfl rfl rfl (r_fieldBox (n := 1) (o' := 1) rfl Tryd.runUnderlying34 rfl Tryd.sizeOf9 (by decide) rfl)) (allg_cons (good_same (v := Value.string a1.vName) rfl rfl rfl rfl (r_loadBox rfl Tryd.isAgg9 (HS2.look 0 rfl) rfl)) (allg_cons (good_same (v := Value.pointer (some ⟨b1, 2, none⟩)) rfl rfl rfl rfl (r_fieldBox (n := 2) (o' := 2) rfl Tryd.runUnderlying34 rfl Tryd.sizeOf31 (by decide) rfl)) (allg_cons (good_same (v := Value.pointer (some ⟨b1, 2, none⟩)) rfl rfl rfl rfl (r_fieldBox (n := 1) (o' := 2) rfl Tryd.runUnderlying31 rfl Tryd.sizeOf3 (by decide) rfl)) (allg_cons (good_same (v := Value.int .i64 a1.vInt.vSize) rfl rfl rfl rfl (r_loadBox rfl Tryd.isAgg3 (HS2.look 0 rfl) rfl)) (allg_nil))))))))
  try simp only [patch, List.set_cons_zero, List.set_cons_succ]
  obtain ⟨v1, H1, H⟩ := of_bind H
  have HS3 : St [] h0 w0 h ((oba0, .cells (csa0).toArray 5 fra0) :: (some b1, .cells #[Value.int .i64 a1.vKind, Value.string a1.vName, Value.int .i64 a1.vInt.vSize, Value.bool a1.vInt.vSigned, Value.int .i64 a1.vRef, Value.int .i64 a1.vN, Value.slice A1_6 a1.vFields.length c1_6] 34 (0, 0)) :: rest) w2 := HS2.front (i := 1) rfl
  refine run_call (vs := [Value.slice (rowA oba0) a0.length ca0, Value.int .i64 a1.vKind]) (caps := []) Tryd.call106 rfl rfl (ctf_put.calls k a0 a1.vKind oba0 ca0 csa0 fra0 HS3 hoa0 hfa0 H1) ?_
  rintro _ w3 ⟨obv1_a0, cv1_a0, csv1_a0, frv1_a0, rfl, hfv1_a0, hov1_a0, HS4⟩
  refine ⟨_, rfl, ?_⟩
  have HS5 : St [] h0 w0 h ((some b1, .cells #[Value.int .i64 a1.vKind, Value.string a1.vName, Value.int .i64 a1.vInt.vSize, Value.bool a1.vInt.vSigned, Value.int .i64 a1.vRef, Value.int .i64 a1.vN, Value.slice A1_6 a1.vFields.length c1_6] 34 (0, 0)) :: (obv1_a0, .cells (csv1_a0).toArray 5 frv1_a0) :: rest) w3 := HS4.front (i := 1) rfl
  refine qn_nil ?_
  try simp only [List.set_cons_zero, List.set_cons_succ]
  refine chain_eff [] ?_ rfl rfl ?_
  · try simp only [patch, List.set_cons_zero, List.set_cons_succ]
    exact allg_cons (good_same (v := Value.pointer (some ⟨b1, 1, none⟩)) rfl rfl rfl rfl (r_fieldBox (n := 1) (o' := 1) rfl Tryd.runUnderlying34 rfl Tryd.sizeOf9 (by decide) rfl)) (allg_cons (good_same (v := Value.string a1.vName) rfl rfl rfl rfl (r_loadBox rfl Tryd.isAgg9 (HS5.look 0 rfl) rfl)) (allg_cons (good_same (v := Value.pointer (some ⟨b1, 2, none⟩)) rfl rfl rfl rfl (r_fieldBox (n := 2) (o' := 2) rfl Tryd.runUnderlying34 rfl Tryd.sizeOf31 (by decide) rfl)) (allg_cons (good_same (v := Value.pointer (some ⟨b1, 2, none⟩)) rfl rfl rfl rfl (r_fieldBox (n := 1) (o' := 2) rfl Tryd.runUnderlying31 rfl Tryd.sizeOf3 (by decide) rfl)) (allg_cons (good_same (v := Value.int .i64 a1.vInt.vSize) rfl rfl rfl rfl (r_loadBox rfl Tryd.isAgg3 (HS5.look 0 rfl) rfl)) (allg_nil)))))
  try simp only [patch, List.set_cons_zero, List.set_cons_succ]
  obtain ⟨v2, H2, H⟩ := of_bind H
  have HS6 : St [] h0 w0 h ((obv1_a0, .cells (csv1_a0).toArray 5 frv1_a0) :: (some b1, .cells #[Value.int .i64 a1.vKind, Value.string a1.vName, Value.int .i64 a1.vInt.vSize, Value.bool a1.vInt.vSigned, Value.int .i64 a1.vRef, Value.int .i64 a1.vN, Value.slice A1_6 a1.vFields.length c1_6] 34 (0, 0)) :: rest) w3 := HS5.front (i := 1) rfl
  refine run_call (vs := [Value.slice (rowA obv1_a0) v1.length cv1_a0, Value.string a1.vName]) (caps := []) Tryd.call107 rfl rfl (ctf_putString.calls k v1 a1.vName obv1_a0 cv1_a0 csv1_a0 frv1_a0 HS6 hov1_a0 hfv1_a0 H2) ?_
  rintro _ w4 ⟨obv2_a0, cv2_a0, csv2_a0, frv2_a0, rfl, hfv2_a0, hov2_a0, HS7⟩
  refine ⟨_, rfl, ?_⟩
  have HS8 : St [] h0 w0 h ((some b1, .cells #[Value.int .i64 a1.vKind, Value.string a1.vName, Value.int .i64 a1.vInt.vSize, Value.bool a1.vInt.vSigned, Value.int .i64 a1.vRef, Value.int .i64 a1.vN, Value.slice A1_6 a1.vFields.length c1_6] 34 (0, 0)) :: (obv2_a0, .cells (csv2_a0).toArray 5 frv2_a0) :: rest) w4 := HS7.front (i := 1) rfl
  refine qn_nil ?_
  try simp only [List.set_cons_zero, List.set_cons_succ]
  refine chain_eff [] ?_ rfl rfl ?_
  · try simp only [patch, List.set_cons_zero, List.set_cons_succ]
    exact allg_cons (good_same (v := Value.pointer (some ⟨b1, 2, none⟩)) rfl rfl rfl rfl (r_fieldBox (n := 2) (o' := 2) rfl Tryd.runUnderlying34 rfl Tryd.sizeOf31 (by decide) rfl)) (allg_cons (good_same (v := Value.pointer (some ⟨b1, 2, none⟩)) rfl rfl rfl rfl (r_fieldBox (n := 1) (o' := 2) rfl Tryd.runUnderlying31 rfl Tryd.sizeOf3 (by decide) rfl)) (allg_cons (good_same (v := Value.int .i64 a1.vInt.vSize) rfl rfl rfl rfl (r_loadBox rfl Tryd.isAgg3 (HS8.look 0 rfl) rfl)) (allg_nil)))
  try simp only [patch, List.set_cons_zero, List.set_cons_succ]
  obtain ⟨v3, H3, H⟩ := of_bind H
  have HS9 : St [] h0 w0 h ((obv2_a0, .cells (csv2_a0).toArray 5 frv2_a0) :: (some b1, .cells #[Value.int .i64 a1.vKind, Value.string a1.vName, Value.int .i64 a1.vInt.vSize, Value.bool a1.vInt.vSigned, Value.int .i64 a1.vRef, Value.int .i64 a1.vN, Value.slice A1_6 a1.vFields.length c1_6] 34 (0, 0)) :: rest) w4 := HS8.front (i := 1) rfl
  refine run_call (vs := [Value.slice (rowA obv2_a0) v2.length cv2_a0, Value.int .i64 a1.vInt.vSize]) (caps := []) Tryd.call106 rfl rfl (ctf_put.calls k v2 a1.vInt.vSize obv2_a0 cv2_a0 csv2_a0 frv2_a0 HS9 hov2_a0 hfv2_a0 H3) ?_
  rintro _ w5 ⟨obv3_a0, cv3_a0, csv3_a0, frv3_a0, rfl, hfv3_a0, hov3_a0, HS10⟩
  refine ⟨_, rfl, ?_⟩
  have HS11 : St [] h0 w0 h ((some b1, .cells #[Value.int .i64 a1.vKind, Value.string a1.vName, Value.int .i64 a1.vInt.vSize, Value.bool a1.vInt.vSigned, Value.int .i64 a1.vRef, Value.int .i64 a1.vN, Value.slice A1_6 a1.vFields.length c1_6] 34 (0, 0)) :: (obv3_a0, .cells (csv3_a0).toArray 5 frv3_a0) :: rest) w5 := HS10.front (i := 1) rfl
  refine qn_nil ?_
  try simp only [List.set_cons_zero, List.set_cons_succ]
  refine chain_last [Value.slice (rowA obv3_a0) v3.length cv3_a0] ?_ ?_
  · try simp only [patch, List.set_cons_zero, List.set_cons_succ]
    exact allg_cons (good_same (v := Value.slice (rowA obv3_a0) v3.length cv3_a0) rfl rfl rfl rfl (r_assign rfl)) (allg_nil)
  try simp only [patch, List.set_cons_zero, List.set_cons_succ]
  refine norm_then ?_
  refine wp_seq ?_
  refine wp_seq ?_
  refine region ?_
  refine run_same (v := Value.pointer (some ⟨b1, 2, none⟩)) rfl rfl (r_fieldBox (n := 2) (o' := 2) rfl Tryd.runUnderlying34 rfl Tryd.sizeOf31 (by decide) rfl) ?_
  refine run_same (v := Value.pointer (some ⟨b1, 3, none⟩)) rfl rfl (r_fieldBox (n := 1) (o' := 3) rfl Tryd.runUnderlying31 rfl Tryd.sizeOf4 (by decide) rfl) ?_
  refine run_same (v := Value.bool a1.vInt.vSigned) rfl rfl (r_loadBox rfl Tryd.isAgg4 (HS11.look 0 rfl) rfl) ?_
  try simp only [List.set_cons_zero, List.set_cons_succ]
  refine run_nil ?_
  refine norm_then ?_
  obtain ⟨xx1, H, G1⟩ := of_bind H
  refine cut_patch [0, 19, 20, 21, 22, 23, 24] (fun us w' => ∃ (obj1_0 : Option Nat) (cj1_0 : Nat), ∃ (csj1_0 : List Value), ∃ (frj1_0 : Nat × Nat), ∃ (uj1_19 : Value), ∃ (uj1_20 : Value), ∃ (uj1_21 : Value), ∃ (uj1_22 : Value), ∃ (uj1_23 : Value), ∃ (uj1_24 : Value), us = [Value.slice (rowA obj1_0) xx1.length cj1_0, uj1_19, uj1_20, uj1_21, uj1_22, uj1_23, uj1_24] ∧ FrOk frj1_0 csj1_0.length ∧ RowOk (Kd.int .u8) h xx1 obj1_0 xx1.length cj1_0 csj1_0 ∧ St [] h0 w0 h ((some b1, .cells #[Value.int .i64 a1.vKind, Value.string a1.vName, Value.int .i64 a1.vInt.vSize, Value.bool a1.vInt.vSigned, Value.int .i64 a1.vRef, Value.int .i64 a1.vN, Value.slice A1_6 a1.vFields.length c1_6] 34 (0, 0)) :: (obj1_0, .cells (csj1_0).toArray 5 frj1_0) :: rest) w') ?_ ?_
  · refine wp_cond_split (t := a1.vInt.vSigned) rfl (fun c1 => ?_) (fun c1 => ?_)
    · replace H := of_pos H c1
      refine region ?_
      refine run_same (v := Value.slice (rowA obv3_a0) v3.length cv3_a0) rfl rfl (r_move rfl) ?_
      refine run_bs (Kd.int .u8) (xs := ([1] : List Int)) (n := 1) (cs := [Value.int .u8 1]) Tryd.runUnderlying80 Tryd.typeInfo5 Tryd.zeroValue5 rfl rfl (by decide) (by decide) (by decide) [Value.int .u8 1] (parts_any.trans rfl) rfl rfl rfl rfl (elems_cons (qs := [Value.int .u8 1]) rfl (elems_nil (cs := []))) HS11 ?_
      intro w6 b2 HS12 ho1
      obtain ⟨hl1, H⟩ := of_ite H
      refine run_appf (Kd.int .u8) (q := 2) (cs := csv3_a0) rfl rfl Tryd.runUnderlying80 Tryd.typeInfo5 Tryd.zeroValue5 rfl (by decide) rfl (src_row Tryd.runUnderlying80 HS12 (i := 0) rfl ho1 rfl) ho1.len (src_row_elems ho1) hl1 HS12 rfl hfv3_a0 hov3_a0 ?_
      rintro w7 ob1 c2 cs1 fr1 ⟨hf1, _⟩ HS13 ho2
      refine run_same (v := Value.slice (rowA ob1) (v3.length + 1) c2) rfl rfl (r_assign rfl) ?_
      try simp only [List.set_cons_zero, List.set_cons_succ]
      refine run_nil ?_
      obtain rfl := Option.some.inj H
      refine met [Value.slice (rowA ob1) (v3.length + 1) c2, Value.slice (rowA obv3_a0) v3.length cv3_a0, Value.slice (rowA (some b2)) 1 1, Value.slice (rowA ob1) (v3.length + 1) c2, undef, undef, undef] (by simp only [patch, List.set_cons_zero, List.set_cons_succ]) ⟨ob1, c2, cs1, fr1, _, _, _, _, _, _, (by first | rfl | (rw [ho2.len]; done) | (rw [ho2.len]; rfl)), hf1, ho2.norm, HS13.tail⟩
    · replace H := of_neg H (nt c1)
      refine region ?_
      refine run_same (v := Value.slice (rowA obv3_a0) v3.length cv3_a0) rfl rfl (r_move rfl) ?_
      refine run_bs (Kd.int .u8) (xs := ([0] : List Int)) (n := 1) (cs := [Value.int .u8 0]) Tryd.runUnderlying80 Tryd.typeInfo5 Tryd.zeroValue5 rfl rfl (by decide) (by decide) (by decide) [Value.int .u8 0] (parts_any.trans rfl) rfl rfl rfl rfl (elems_cons (qs := [Value.int .u8 0]) rfl (elems_nil (cs := []))) HS11 ?_
      intro w8 b3 HS14 ho3
      obtain ⟨hl2, H⟩ := of_ite H
      refine run_appf (Kd.int .u8) (q := 2) (cs := csv3_a0) rfl rfl Tryd.runUnderlying80 Tryd.typeInfo5 Tryd.zeroValue5 rfl (by decide) rfl (src_row Tryd.runUnderlying80 HS14 (i := 0) rfl ho3 rfl) ho3.len (src_row_elems ho3) hl2 HS14 rfl hfv3_a0 hov3_a0 ?_
      rintro w9 ob2 c3 cs2 fr2 ⟨hf2, _⟩ HS15 ho4
      refine run_same (v := Value.slice (rowA ob2) (v3.length + 1) c3) rfl rfl (r_assign rfl) ?_
      try simp only [List.set_cons_zero, List.set_cons_succ]
      refine run_nil ?_
      obtain rfl := Option.some.inj H
      refine met [Value.slice (rowA ob2) (v3.length + 1) c3, undef, undef, undef, Value.slice (rowA obv3_a0) v3.length cv3_a0, Value.slice (rowA (some b3)) 1 1, Value.slice (rowA ob2) (v3.length + 1) c3] (by simp only [patch, List.set_cons_zero, List.set_cons_succ]) ⟨ob2, c3, cs2, fr2, _, _, _, _, _, _, (by first | rfl | (rw [ho4.len]; done) | (rw [ho4.len]; rfl)), hf2, ho4.norm, HS15.tail⟩
  · rintro _ w10 ⟨obj1_0, cj1_0, csj1_0, frj1_0, uj1_19, uj1_20, uj1_21, uj1_22, uj1_23, uj1_24, rfl, hfj1_0, hoj1_0, HS16⟩
    replace H := G1
    clear G1
    try simp only [patch, List.set_cons_zero, List.set_cons_succ]
    refine wp_seq ?_
    refine drawn_chain [([25, 26, 27, 29, 30, 32, 33], [0, 1, 2, 4, 5, 7, 8]), ([], [4, 5, 7, 8]), ([], [7, 8]), ([4], [10])] [3, 6, 9] [[], [], [1], [0, 1, 2], [], [4], [0, 1, 2, 3, 4, 5], [], [7], [0, 1, 2, 3, 4, 5, 6, 7, 8], [0, 1, 2, 3, 4, 5, 6, 7, 8, 9]] hmix (by kernel_rfl) ?_
    intro w11 hE3
    have HS17 := HS16.step hE3
    refine chain_eff [Value.slice (rowA obj1_0) xx1.length cj1_0, Value.pointer (some ⟨b1, 4, none⟩), Value.int .i64 a1.vRef, Value.pointer (some ⟨b1, 5, none⟩), Value.int .i64 a1.vN, Value.pointer (some ⟨b1, 6, none⟩), Value.slice A1_6 a1.vFields.length c1_6] ?_ rfl rfl ?_
    · try simp only [patch, List.set_cons_zero, List.set_cons_succ]
      exact allg_cons (good_same (v := Value.slice (rowA obj1_0) xx1.length cj1_0) rfl rfl rfl rfl (r_move rfl)) (allg_cons (good_same (v := Value.pointer (some ⟨b1, 4, none⟩)) rfl rfl rfl rfl (r_fieldBox (n := 1) (o' := 4) rfl Tryd.runUnderlying34 rfl Tryd.sizeOf3 (by decide) rfl)) (allg_cons (good_same (v := Value.int .i64 a1.vRef) rfl rfl rfl rfl (r_loadBox rfl Tryd.isAgg3 (HS17.look 0 rfl) rfl)) (allg_cons (good_same (v := Value.pointer (some ⟨b1, 5, none⟩)) rfl rfl rfl rfl (r_fieldBox (n := 1) (o' := 5) rfl Tryd.runUnderlying34 rfl Tryd.sizeOf3 (by decide) rfl)) (allg_cons (good_same (v := Value.int .i64 a1.vN) rfl rfl rfl rfl (r_loadBox rfl Tryd.isAgg3 (HS17.look 0 rfl) rfl)) (allg_cons (good_same (v := Value.pointer (some ⟨b1, 6, none⟩)) rfl rfl rfl rfl (r_fieldBox (n := 1) (o' := 6) rfl Tryd.runUnderlying34 rfl Tryd.sizeOf32 (by decide) rfl)) (allg_cons (good_same (v := Value.slice A1_6 a1.vFields.length c1_6) rfl rfl rfl rfl (r_loadBox rfl Tryd.isAgg32 (HS17.look 0 rfl) rfl)) (allg_nil)))))))
    try simp only [patch, List.set_cons_zero, List.set_cons_succ]
    obtain ⟨v4, H4, H⟩ := of_bind H
    have HS18 : St [] h0 w0 h ((obj1_0, .cells (csj1_0).toArray 5 frj1_0) :: (some b1, .cells #[Value.int .i64 a1.vKind, Value.string a1.vName, Value.int .i64 a1.vInt.vSize, Value.bool a1.vInt.vSigned, Value.int .i64 a1.vRef, Value.int .i64 a1.vN, Value.slice A1_6 a1.vFields.length c1_6] 34 (0, 0)) :: rest) w11 := HS17.front (i := 1) rfl
    refine run_call (vs := [Value.slice (rowA obj1_0) xx1.length cj1_0, Value.int .i64 a1.vRef]) (caps := []) Tryd.call106 rfl rfl (ctf_put.calls k xx1 a1.vRef obj1_0 cj1_0 csj1_0 frj1_0 HS18 hoj1_0 hfj1_0 H4) ?_
    rintro _ w12 ⟨obv4_a0, cv4_a0, csv4_a0, frv4_a0, rfl, hfv4_a0, hov4_a0, HS19⟩
    refine ⟨_, rfl, ?_⟩
    have HS20 : St [] h0 w0 h ((some b1, .cells #[Value.int .i64 a1.vKind, Value.string a1.vName, Value.int .i64 a1.vInt.vSize, Value.bool a1.vInt.vSigned, Value.int .i64 a1.vRef, Value.int .i64 a1.vN, Value.slice A1_6 a1.vFields.length c1_6] 34 (0, 0)) :: (obv4_a0, .cells (csv4_a0).toArray 5 frv4_a0) :: rest) w12 := HS19.front (i := 1) rfl
    refine qn_nil ?_
    try simp only [List.set_cons_zero, List.set_cons_succ]
    refine chain_eff [] ?_ rfl rfl ?_
    · try simp only [patch, List.set_cons_zero, List.set_cons_succ]
      exact allg_cons (good_same (v := Value.pointer (some ⟨b1, 5, none⟩)) rfl rfl rfl rfl (r_fieldBox (n := 1) (o' := 5) rfl Tryd.runUnderlying34 rfl Tryd.sizeOf3 (by decide) rfl)) (allg_cons (good_same (v := Value.int .i64 a1.vN) rfl rfl rfl rfl (r_loadBox rfl Tryd.isAgg3 (HS20.look 0 rfl) rfl)) (allg_cons (good_same (v := Value.pointer (some ⟨b1, 6, none⟩)) rfl rfl rfl rfl (r_fieldBox (n := 1) (o' := 6) rfl Tryd.runUnderlying34 rfl Tryd.sizeOf32 (by decide) rfl)) (allg_cons (good_same (v := Value.slice A1_6 a1.vFields.length c1_6) rfl rfl rfl rfl (r_loadBox rfl Tryd.isAgg32 (HS20.look 0 rfl) rfl)) (allg_nil))))
    try simp only [patch, List.set_cons_zero, List.set_cons_succ]
    obtain ⟨v5, H5, H⟩ := of_bind H
    have HS21 : St [] h0 w0 h ((obv4_a0, .cells (csv4_a0).toArray 5 frv4_a0) :: (some b1, .cells #[Value.int .i64 a1.vKind, Value.string a1.vName, Value.int .i64 a1.vInt.vSize, Value.bool a1.vInt.vSigned, Value.int .i64 a1.vRef, Value.int .i64 a1.vN, Value.slice A1_6 a1.vFields.length c1_6] 34 (0, 0)) :: rest) w12 := HS20.front (i := 1) rfl
    refine run_call (vs := [Value.slice (rowA obv4_a0) v4.length cv4_a0, Value.int .i64 a1.vN]) (caps := []) Tryd.call106 rfl rfl (ctf_put.calls k v4 a1.vN obv4_a0 cv4_a0 csv4_a0 frv4_a0 HS21 hov4_a0 hfv4_a0 H5) ?_
    rintro _ w13 ⟨obv5_a0, cv5_a0, csv5_a0, frv5_a0, rfl, hfv5_a0, hov5_a0, HS22⟩
    refine ⟨_, rfl, ?_⟩
    have HS23 : St [] h0 w0 h ((some b1, .cells #[Value.int .i64 a1.vKind, Value.string a1.vName, Value.int .i64 a1.vInt.vSize, Value.bool a1.vInt.vSigned, Value.int .i64 a1.vRef, Value.int .i64 a1.vN, Value.slice A1_6 a1.vFields.length c1_6] 34 (0, 0)) :: (obv5_a0, .cells (csv5_a0).toArray 5 frv5_a0) :: rest) w13 := HS22.front (i := 1) rfl
    refine qn_nil ?_
    try simp only [List.set_cons_zero, List.set_cons_succ]
    refine chain_eff [] ?_ rfl rfl ?_
    · try simp only [patch, List.set_cons_zero, List.set_cons_succ]
      exact allg_cons (good_same (v := Value.pointer (some ⟨b1, 6, none⟩)) rfl rfl rfl rfl (r_fieldBox (n := 1) (o' := 6) rfl Tryd.runUnderlying34 rfl Tryd.sizeOf32 (by decide) rfl)) (allg_cons (good_same (v := Value.slice A1_6 a1.vFields.length c1_6) rfl rfl rfl rfl (r_loadBox rfl Tryd.isAgg32 (HS23.look 0 rfl) rfl)) (allg_nil))
    try simp only [patch, List.set_cons_zero, List.set_cons_succ]
    obtain ⟨v6, H6, H⟩ := of_bind H
    have HS24 : St [] h0 w0 h ((obv5_a0, .cells (csv5_a0).toArray 5 frv5_a0) :: (some b1, .cells #[Value.int .i64 a1.vKind, Value.string a1.vName, Value.int .i64 a1.vInt.vSize, Value.bool a1.vInt.vSigned, Value.int .i64 a1.vRef, Value.int .i64 a1.vN, Value.slice A1_6 a1.vFields.length c1_6] 34 (0, 0)) :: rest) w13 := HS23.front (i := 1) rfl
    refine run_call (vs := [Value.slice (rowA obv5_a0) v5.length cv5_a0, Value.slice A1_6 a1.vFields.length c1_6, Value.func (.func 109) #[] #[]]) (caps := []) Tryd.call108 rfl rfl (ctf_putList_api_Field.calls k v5 a1.vFields obv5_a0 cv5_a0 csv5_a0 frv5_a0 A1_6 c1_6 HS24 hov5_a0 hfv5_a0 hr1_6 hc1_6 H6) ?_
    rintro _ w14 ⟨obv6_a0, cv6_a0, csv6_a0, frv6_a0, rfl, hfv6_a0, hov6_a0, HS25⟩
    refine ⟨_, rfl, ?_⟩
    have HS26 : St [] h0 w0 h ((some b1, .cells #[Value.int .i64 a1.vKind, Value.string a1.vName, Value.int .i64 a1.vInt.vSize, Value.bool a1.vInt.vSigned, Value.int .i64 a1.vRef, Value.int .i64 a1.vN, Value.slice A1_6 a1.vFields.length c1_6] 34 (0, 0)) :: (obv6_a0, .cells (csv6_a0).toArray 5 frv6_a0) :: rest) w14 := HS25.front (i := 1) rfl
    refine qn_nil ?_
    try simp only [List.set_cons_zero, List.set_cons_succ]
    refine chain_last [Value.slice (rowA obv6_a0) v6.length cv6_a0] ?_ ?_
    · try simp only [patch, List.set_cons_zero, List.set_cons_succ]
      exact allg_cons (good_same (v := Value.slice (rowA obv6_a0) v6.length cv6_a0) rfl rfl rfl rfl (r_assign rfl)) (allg_nil)
    try simp only [patch, List.set_cons_zero, List.set_cons_succ]
    refine norm_then ?_
    refine wp_ret ?_
    obtain rfl := Option.some.inj H
    refine bodyPost_ret (results_1 rfl (one_tmp rfl)) rfl ?_
    have HS27 : St [] h0 w0 h ((obv6_a0, .cells (csv6_a0).toArray 5 frv6_a0) :: rest) w14 := HS26.drop 0
    exact ⟨obv6_a0, cv6_a0, csv6_a0, frv6_a0, rfl, hfv6_a0, hov6_a0, HS27⟩

end Go.Proofs.YtfjppgobidjndaaDoor
namespace Go.Proofs.YtfjppgobidjndaaDoor
open Go.RowKit Go.M
def ctf_putList_api_Def.l0 (k : Nat) (a1 : List api_Def) : Nat → Int → (List Int) → Option ((List Int))
  | 0, _, _ => none
  | m + 1, y1_0, y1_1 => if (decide (y1_0 < (a1.length : Int))) = true then (if 0 ≤ y1_0 ∧ y1_0 < a1.length then ((ctf_putDef.f k y1_1 (rd z_api_Def a1 y1_0)).bind fun v2 => (ctf_putList_api_Def.l0 k a1 m (IntKind.wrap .i64 (y1_0 + 1)) v2)) else none) else (some y1_1)
def ctf_putList_api_Def.f (k : Nat) (a0 : List Int) (a1 : List api_Def) : Option ((List Int)) := (ctf_put.f k a0 (a1.length : Int)).bind fun v1 => ((ctf_putList_api_Def.l0 k a1 k 0 v1).bind fun xx1 => (some xx1))
set_option maxRecDepth 20000 in
set_option maxHeartbeats 4000000 in
theorem ctf_putList_api_Def.calls (k : Nat) (a0 : List Int) (a1 : List api_Def) (oba0 : Option Nat) (ca0 : Nat) (csa0 : List Value) (fra0 : Nat × Nat) (A1_0 : Option Addr) (c1_0 : Nat) {h0 : View} {w0 : World} {h : View} {w : World} {rest : List Res} (HS : St [] h0 w0 h ((oba0, .cells (csa0).toArray 5 fra0) :: rest) w) (hoa0 : RowOk (Kd.int .u8) h a0 oba0 a0.length ca0 csa0) (hfa0 : FrOk fra0 csa0.length) (hr1_0 : Rd k_api_Def h A1_0 a1) (hc1_0 : a1.length ≤ c1_0) {r : (List Int)} (H : ctf_putList_api_Def.f k a0 a1 = some r) : Calls Tryd.prog 69 #[Value.slice (rowA oba0) a0.length ca0, Value.slice A1_0 a1.length c1_0, Value.func (.func 70) #[] #[]] w (fun e w1 => ∃ (obz_a0 : Option Nat) (cz_a0 : Nat) (csz_a0 : List Value), ∃ (frz_a0 : Nat × Nat), e = .returned (Value.slice (rowA obz_a0) r.length cz_a0) ∧ FrOk frz_a0 csz_a0.length ∧ RowOk (Kd.int .u8) h r obz_a0 r.length cz_a0 csz_a0 ∧ St [] h0 w0 h ((obz_a0, .cells (csz_a0).toArray 5 frz_a0) :: rest) w1) := by
  unfold ctf_putList_api_Def.f at H
  have hsub : Sub h h := Sub.rfl' h
  go_enter Tryd.func69, Tryd.ntmps69
  refine wp_seq ?_
  refine region ?_
  refine run_same (v := Value.slice none 0 0) rfl rfl (r_assign rfl) ?_
  try simp only [List.set_cons_zero, List.set_cons_succ]
  refine run_nil ?_
  refine norm_then ?_
  refine wp_seq ?_
  refine region ?_
  refine run_same (v := Value.slice (rowA oba0) a0.length ca0) rfl rfl (r_move rfl) ?_
  refine run_same (v := Value.slice A1_0 a1.length c1_0) rfl rfl (r_move rfl) ?_
  refine run_same (v := Value.int .i64 (a1.length : Int)) rfl rfl (r_len rfl Tryd.runUnderlying22) ?_
  obtain ⟨v1, H1, H⟩ := of_bind H
  refine run_call (vs := [Value.slice (rowA oba0) a0.length ca0, Value.int .i64 (a1.length : Int)]) (caps := []) Tryd.call106 rfl rfl (ctf_put.calls k a0 (a1.length : Int) oba0 ca0 csa0 fra0 HS hoa0 hfa0 H1) ?_
  rintro _ w1 ⟨obv1_a0, cv1_a0, csv1_a0, frv1_a0, rfl, hfv1_a0, hov1_a0, HS1⟩
  refine ⟨_, rfl, ?_⟩
  refine run_frame (by simp only [List.set_cons_zero, List.set_cons_succ]; rfl) ?_
  refine run_same (v := Value.slice (rowA obv1_a0) v1.length cv1_a0) rfl rfl (r_assign rfl) ?_
  try simp only [List.set_cons_zero, List.set_cons_succ]
  refine run_nil ?_
  refine norm_then ?_
  refine wp_seq ?_
  refine wp_seq ?_
  refine region ?_
  refine run_same (v := Value.slice A1_0 a1.length c1_0) rfl rfl (r_move rfl) ?_
  refine run_same (v := Value.int .i64 (a1.length : Int)) rfl rfl (r_len rfl Tryd.runUnderlying22) ?_
  refine run_same (v := Value.int .i64 0) rfl rfl (r_move rfl) ?_
  try simp only [List.set_cons_zero, List.set_cons_succ]
  refine run_nil ?_
  refine norm_then ?_
  obtain ⟨xx1, H, G1⟩ := of_bind H
  refine loop_patch [0, 8, 15, 16, 17, 18, 19, 20, 21, 22, 23] (fun m us w' => ∃ (y1_0 : Int), ∃ (y1_1 : List Int), ∃ (oby1_1 : Option Nat) (cy1_1 : Nat), ∃ (csy1_1 : List Value), ∃ (fry1_1 : Nat × Nat), ∃ (uy1_8 : Value), ∃ (uy1_16 : Value), ∃ (uy1_17 : Value), ∃ (uy1_18 : Value), ∃ (uy1_19 : Value), ∃ (uy1_20 : Value), ∃ (uy1_21 : Value), ∃ (uy1_22 : Value), ∃ (uy1_23 : Value), us = [Value.slice (rowA oby1_1) y1_1.length cy1_1, uy1_8, Value.int .i64 y1_0, uy1_16, uy1_17, uy1_18, uy1_19, uy1_20, uy1_21, uy1_22, uy1_23] ∧ ctf_putList_api_Def.l0 k a1 m y1_0 y1_1 = some xx1 ∧ FrOk fry1_1 csy1_1.length ∧ RowOk (Kd.int .u8) h y1_1 oby1_1 y1_1.length cy1_1 csy1_1 ∧ St [] h0 w0 h ((oby1_1, .cells (csy1_1).toArray 5 fry1_1) :: rest) w') (fun us w' => ∃ (obo1_0 : Option Nat) (co1_0 : Nat), ∃ (cso1_0 : List Value), ∃ (fro1_0 : Nat × Nat), ∃ (uo1_8 : Value), ∃ (uo1_15 : Value), ∃ (uo1_16 : Value), ∃ (uo1_17 : Value), ∃ (uo1_18 : Value), ∃ (uo1_19 : Value), ∃ (uo1_20 : Value), ∃ (uo1_21 : Value), ∃ (uo1_22 : Value), ∃ (uo1_23 : Value), us = [Value.slice (rowA obo1_0) xx1.length co1_0, uo1_8, uo1_15, uo1_16, uo1_17, uo1_18, uo1_19, uo1_20, uo1_21, uo1_22, uo1_23] ∧ FrOk fro1_0 cso1_0.length ∧ RowOk (Kd.int .u8) h xx1 obo1_0 xx1.length co1_0 cso1_0 ∧ St [] h0 w0 h ((obo1_0, .cells (cso1_0).toArray 5 fro1_0) :: rest) w') k [Value.slice (rowA obv1_a0) v1.length cv1_a0, undef, Value.int .i64 0, undef, undef, undef, undef, undef, undef, undef, undef] (by simp only [patch, List.set_cons_zero, List.set_cons_succ]) ⟨0, v1, obv1_a0, cv1_a0, csv1_a0, frv1_a0, _, _, _, _, _, _, _, _, _, rfl, H, hfv1_a0, hov1_a0.norm, HS1⟩ ?_ ?_
  · rintro m us w2 ⟨y1_0, y1_1, oby1_1, cy1_1, csy1_1, fry1_1, uy1_8, uy1_16, uy1_17, uy1_18, uy1_19, uy1_20, uy1_21, uy1_22, uy1_23, rfl, H, hfy1_1, hoy1_1, HS2⟩
    cases m with
    | zero => exact absurd H (by simp [ctf_putList_api_Def.l0])
    | succ m =>
      rw [ctf_putList_api_Def.l0] at H
      try simp only [patch, List.set_cons_zero, List.set_cons_succ]
      refine wp_seq ?_
      refine region ?_
      refine run_same (v := Value.bool (decide (y1_0 < (a1.length : Int)))) rfl rfl (r_bin rfl rfl rfl) ?_
      try simp only [List.set_cons_zero, List.set_cons_succ]
      refine run_nil ?_
      refine norm_then ?_
      refine wp_seq ?_
      refine wp_cond_split (t := (decide (y1_0 < (a1.length : Int)))) rfl (fun c1 => ?_) (fun c1 => ?_)
      · replace H := of_pos H c1
        refine wp_skip ?_
        refine norm_then ?_
        refine wp_seq ?_
        refine wp_block ?_
        refine wp_seq ?_
        refine region ?_
        obtain ⟨hi1, H⟩ := of_ite H
        obtain ⟨ad1, Aad1_6, cad1_6, e1, hel1, hcad1_6, hrad1_6⟩ := ld_api_Def hr1_0 hi1.1 hi1.2
        refine run_same (v := Value.pointer (some (Addr.add ad1 (y1_0.toNat * 7)))) rfl rfl (r_indexA (sz := 7) rfl e1 rfl hi1.1 hi1.2 Tryd.runUnderlying22 Tryd.sizeOf34) ?_
        refine run_same (v := Value.agg #[Value.int .i64 ((rd z_api_Def a1 y1_0).vKind), Value.string ((rd z_api_Def a1 y1_0).vName), Value.int .i64 ((rd z_api_Def a1 y1_0).vInt.vSize), Value.bool ((rd z_api_Def a1 y1_0).vInt.vSigned), Value.int .i64 ((rd z_api_Def a1 y1_0).vRef), Value.int .i64 ((rd z_api_Def a1 y1_0).vN), Value.slice Aad1_6 ((rd z_api_Def a1 y1_0).vFields).length cad1_6]) rfl rfl (r_loadAgg rfl Tryd.isAgg34 (hel1.sees HS2.sees) Tryd.sizeOf34) ?_
        refine run_ex rfl rfl (does_alloc (cs := #[Value.int .i64 0, Value.string ByteArray.empty, Value.int .i64 0, Value.bool false, Value.int .i64 0, Value.int .i64 0, Value.slice none 0 0]) Tryd.zeroValue34 rfl) ?_
        rintro w3 _ hE1 ⟨b1, rfl, ge1, hb1⟩
        have HS3 := HS2.new hE1 ge1 hb1
        refine run_st (i := 0) (cs := [Value.int .i64 0, Value.string ByteArray.empty, Value.int .i64 0, Value.bool false, Value.int .i64 0, Value.int .i64 0, Value.slice none 0 0]) (cs' := [Value.int .i64 ((rd z_api_Def a1 y1_0).vKind), Value.string ((rd z_api_Def a1 y1_0).vName), Value.int .i64 ((rd z_api_Def a1 y1_0).vInt.vSize), Value.bool ((rd z_api_Def a1 y1_0).vInt.vSigned), Value.int .i64 ((rd z_api_Def a1 y1_0).vRef), Value.int .i64 ((rd z_api_Def a1 y1_0).vN), Value.slice Aad1_6 ((rd z_api_Def a1 y1_0).vFields).length cad1_6]) (vs := [Value.int .i64 ((rd z_api_Def a1 y1_0).vKind), Value.string ((rd z_api_Def a1 y1_0).vName), Value.int .i64 ((rd z_api_Def a1 y1_0).vInt.vSize), Value.bool ((rd z_api_Def a1 y1_0).vInt.vSigned), Value.int .i64 ((rd z_api_Def a1 y1_0).vRef), Value.int .i64 ((rd z_api_Def a1 y1_0).vN), Value.slice Aad1_6 ((rd z_api_Def a1 y1_0).vFields).length cad1_6]) (bs' := ((some b1, .cells #[Value.int .i64 ((rd z_api_Def a1 y1_0).vKind), Value.string ((rd z_api_Def a1 y1_0).vName), Value.int .i64 ((rd z_api_Def a1 y1_0).vInt.vSize), Value.bool ((rd z_api_Def a1 y1_0).vInt.vSigned), Value.int .i64 ((rd z_api_Def a1 y1_0).vRef), Value.int .i64 ((rd z_api_Def a1 y1_0).vN), Value.slice Aad1_6 ((rd z_api_Def a1 y1_0).vFields).length cad1_6] 34 (0, 0)) :: (oby1_1, .cells (csy1_1).toArray 5 fry1_1) :: rest)) rfl rfl Tryd.sizeOf34 rfl rfl (by decide) rfl HS3 rfl (Nat.le_of_ble_eq_true rfl) rfl rfl ?_
        intro w4 HS4
        try simp only [List.set_cons_zero, List.set_cons_succ]
        refine run_nil ?_
        refine norm_then ?_
        refine region ?_
        refine run_same (v := Value.func (.func 70) #[] #[]) rfl rfl (r_move rfl) ?_
        refine run_same (v := Value.slice (rowA oby1_1) y1_1.length cy1_1) rfl rfl (r_move rfl) ?_
        refine run_same (v := Value.agg #[Value.int .i64 ((rd z_api_Def a1 y1_0).vKind), Value.string ((rd z_api_Def a1 y1_0).vName), Value.int .i64 ((rd z_api_Def a1 y1_0).vInt.vSize), Value.bool ((rd z_api_Def a1 y1_0).vInt.vSigned), Value.int .i64 ((rd z_api_Def a1 y1_0).vRef), Value.int .i64 ((rd z_api_Def a1 y1_0).vN), Value.slice Aad1_6 ((rd z_api_Def a1 y1_0).vFields).length cad1_6]) rfl rfl (r_loadBoxAgg (n := 7) (vs := [Value.int .i64 ((rd z_api_Def a1 y1_0).vKind), Value.string ((rd z_api_Def a1 y1_0).vName), Value.int .i64 ((rd z_api_Def a1 y1_0).vInt.vSize), Value.bool ((rd z_api_Def a1 y1_0).vInt.vSigned), Value.int .i64 ((rd z_api_Def a1 y1_0).vRef), Value.int .i64 ((rd z_api_Def a1 y1_0).vN), Value.slice Aad1_6 ((rd z_api_Def a1 y1_0).vFields).length cad1_6]) rfl Tryd.isAgg34 (HS4.look 0 rfl) Tryd.sizeOf34 rfl rfl) ?_
        obtain ⟨v2, H2, H⟩ := of_bind H
        have HS5 : St [] h0 w0 h ((oby1_1, .cells (csy1_1).toArray 5 fry1_1) :: (some b1, .cells #[Value.int .i64 ((rd z_api_Def a1 y1_0).vKind), Value.string ((rd z_api_Def a1 y1_0).vName), Value.int .i64 ((rd z_api_Def a1 y1_0).vInt.vSize), Value.bool ((rd z_api_Def a1 y1_0).vInt.vSigned), Value.int .i64 ((rd z_api_Def a1 y1_0).vRef), Value.int .i64 ((rd z_api_Def a1 y1_0).vN), Value.slice Aad1_6 ((rd z_api_Def a1 y1_0).vFields).length cad1_6] 34 (0, 0)) :: rest) w4 := HS4.front (i := 1) rfl
        refine run_call (vs := [Value.slice (rowA oby1_1) y1_1.length cy1_1, Value.agg #[Value.int .i64 ((rd z_api_Def a1 y1_0).vKind), Value.string ((rd z_api_Def a1 y1_0).vName), Value.int .i64 ((rd z_api_Def a1 y1_0).vInt.vSize), Value.bool ((rd z_api_Def a1 y1_0).vInt.vSigned), Value.int .i64 ((rd z_api_Def a1 y1_0).vRef), Value.int .i64 ((rd z_api_Def a1 y1_0).vN), Value.slice Aad1_6 ((rd z_api_Def a1 y1_0).vFields).length cad1_6]]) (caps := []) Tryd.call70 rfl rfl (ctf_putDef.calls k y1_1 (rd z_api_Def a1 y1_0) oby1_1 cy1_1 csy1_1 fry1_1 Aad1_6 cad1_6 HS5 hoy1_1 hfy1_1 hrad1_6 hcad1_6 H2) ?_
        rintro _ w5 ⟨obv2_a0, cv2_a0, csv2_a0, frv2_a0, rfl, hfv2_a0, hov2_a0, HS6⟩
        refine ⟨_, rfl, ?_⟩
        have HS7 : St [] h0 w0 h ((some b1, .cells #[Value.int .i64 ((rd z_api_Def a1 y1_0).vKind), Value.string ((rd z_api_Def a1 y1_0).vName), Value.int .i64 ((rd z_api_Def a1 y1_0).vInt.vSize), Value.bool ((rd z_api_Def a1 y1_0).vInt.vSigned), Value.int .i64 ((rd z_api_Def a1 y1_0).vRef), Value.int .i64 ((rd z_api_Def a1 y1_0).vN), Value.slice Aad1_6 ((rd z_api_Def a1 y1_0).vFields).length cad1_6] 34 (0, 0)) :: (obv2_a0, .cells (csv2_a0).toArray 5 frv2_a0) :: rest) w5 := HS6.front (i := 1) rfl
        refine run_frame (by simp only [List.set_cons_zero, List.set_cons_succ]; rfl) ?_
        refine run_same (v := Value.slice (rowA obv2_a0) v2.length cv2_a0) rfl rfl (r_assign rfl) ?_
        try simp only [List.set_cons_zero, List.set_cons_succ]
        refine run_nil ?_
        refine norm_block ?_
        refine norm_then ?_
        refine region ?_
        refine run_same (v := Value.int .i64 (IntKind.wrap .i64 (y1_0 + 1))) rfl rfl (r_bin rfl rfl rfl) ?_
        refine run_same (v := Value.int .i64 (IntKind.wrap .i64 (y1_0 + 1))) rfl rfl (r_move rfl) ?_
        try simp only [List.set_cons_zero, List.set_cons_succ]
        refine run_nil ?_
        refine again m [Value.slice (rowA obv2_a0) v2.length cv2_a0, Value.pointer (some ⟨b1, 0, none⟩), Value.int .i64 (IntKind.wrap .i64 (y1_0 + 1)), Value.bool (decide (y1_0 < (a1.length : Int))), Value.pointer (some (Addr.add ad1 (y1_0.toNat * 7))), Value.agg #[Value.int .i64 ((rd z_api_Def a1 y1_0).vKind), Value.string ((rd z_api_Def a1 y1_0).vName), Value.int .i64 ((rd z_api_Def a1 y1_0).vInt.vSize), Value.bool ((rd z_api_Def a1 y1_0).vInt.vSigned), Value.int .i64 ((rd z_api_Def a1 y1_0).vRef), Value.int .i64 ((rd z_api_Def a1 y1_0).vN), Value.slice Aad1_6 ((rd z_api_Def a1 y1_0).vFields).length cad1_6], Value.func (.func 70) #[] #[], Value.slice (rowA oby1_1) y1_1.length cy1_1, Value.agg #[Value.int .i64 ((rd z_api_Def a1 y1_0).vKind), Value.string ((rd z_api_Def a1 y1_0).vName), Value.int .i64 ((rd z_api_Def a1 y1_0).vInt.vSize), Value.bool ((rd z_api_Def a1 y1_0).vInt.vSigned), Value.int .i64 ((rd z_api_Def a1 y1_0).vRef), Value.int .i64 ((rd z_api_Def a1 y1_0).vN), Value.slice Aad1_6 ((rd z_api_Def a1 y1_0).vFields).length cad1_6], Value.slice (rowA obv2_a0) v2.length cv2_a0, Value.int .i64 (IntKind.wrap .i64 (y1_0 + 1))] (Nat.lt_succ_self m) (by simp only [patch, List.set_cons_zero, List.set_cons_succ]) ⟨(IntKind.wrap .i64 (y1_0 + 1)), v2, obv2_a0, cv2_a0, csv2_a0, frv2_a0, _, _, _, _, _, _, _, _, _, rfl, H, hfv2_a0, hov2_a0.norm, HS7.tail⟩
      · replace H := of_neg H (nt c1)
        refine wp_exit ?_
        refine exit_then ?_
        obtain rfl := Option.some.inj H
        refine leave [Value.slice (rowA oby1_1) y1_1.length cy1_1, uy1_8, Value.int .i64 y1_0, Value.bool (decide (y1_0 < (a1.length : Int))), uy1_17, uy1_18, uy1_19, uy1_20, uy1_21, uy1_22, uy1_23] (by simp only [patch, List.set_cons_zero, List.set_cons_succ]) ⟨oby1_1, cy1_1, csy1_1, fry1_1, _, _, _, _, _, _, _, _, _, _, rfl, hfy1_1, hoy1_1.norm, HS2⟩
  · rintro us w6 ⟨obo1_0, co1_0, cso1_0, fro1_0, uo1_8, uo1_15, uo1_16, uo1_17, uo1_18, uo1_19, uo1_20, uo1_21, uo1_22, uo1_23, rfl, hfo1_0, hoo1_0, HS8⟩
    replace H := G1
    clear G1
    try simp only [patch, List.set_cons_zero, List.set_cons_succ]
    refine norm_then ?_
    refine wp_seq ?_
    refine region ?_
    refine run_same (v := Value.slice (rowA obo1_0) xx1.length co1_0) rfl rfl (r_move rfl) ?_
    refine run_same (v := Value.slice (rowA obo1_0) xx1.length co1_0) rfl rfl (r_assign rfl) ?_
    try simp only [List.set_cons_zero, List.set_cons_succ]
    refine run_nil ?_
    refine norm_then ?_
    refine wp_ret ?_
    obtain rfl := Option.some.inj H
    refine bodyPost_ret (results_1 rfl (one_tmp rfl)) rfl ?_
    exact ⟨obo1_0, co1_0, cso1_0, fro1_0, rfl, hfo1_0, hoo1_0, HS8⟩

end Go.Proofs.YtfjppgobidjndaaDoor
namespace Go.Proofs.YtfjppgobidjndaaDoor
open Go.RowKit Go.M
def ctf_Encode.f (k : Nat) (a0 : api_Types) : Option ((List Int) × Int) := (ctf_valid.f k a0).bind fun v1 => (if (!v1) = true then (some (([] : List Int), 80)) else ((ctf_putList_api_Def.f k ([67, 84, 70, 1] : List Int) a0.vDefs).bind fun v2 => (some (v2, 0))))
set_option maxRecDepth 20000 in
set_option maxHeartbeats 4000000 in
theorem ctf_Encode.calls (k : Nat) (a0 : api_Types) (A0_0 : Option Addr) (c0_0 : Nat) {h0 : View} {w0 : World} (hv : Sees h0 w0) (hr0_0 : Rd k_api_Def h0 A0_0 a0.vDefs) (hc0_0 : a0.vDefs.length ≤ c0_0) {r : (List Int) × Int} (H : ctf_Encode.f k a0 = some r) : Calls Tryd.prog 37 #[Value.agg #[Value.slice A0_0 a0.vDefs.length c0_0]] w0 (fun e w1 => ∃ (h1 : View) (A0_0 : Option Addr) (c0_0 : Nat), e = .returned (Value.tuple #[Value.slice A0_0 r.1.length c0_0, Value.int .i64 r.2]) ∧ r.1.length ≤ c0_0 ∧ Rd (Kd.int .u8) h1 A0_0 r.1 ∧ Gr w0.heap.size h0 h1 ∧ Sees h1 w1 ∧ Ext w0 w1) := by
  unfold ctf_Encode.f at H
  have HS : St [] h0 w0 h0 [] w0 := St.init hv
  go_enter Tryd.func37, Tryd.ntmps37
  refine wp_seq ?_
  refine region ?_
  refine run_ex rfl rfl (does_box (cs := #[Value.slice A0_0 a0.vDefs.length c0_0]) rfl rfl) ?_
  rintro w1 _ hE1 ⟨b1, rfl, ge1, hb1⟩
  have HS1 := HS.new hE1 ge1 hb1
  refine run_same (v := Value.slice none 0 0) rfl rfl (r_assign rfl) ?_
  refine run_same (v := Value.int .i64 0) rfl rfl (r_assign rfl) ?_
  try simp only [List.set_cons_zero, List.set_cons_succ]
  refine run_nil ?_
  refine norm_then ?_
  refine wp_seq ?_
  refine wp_seq ?_
  refine region ?_
  refine run_same (v := Value.agg #[Value.slice A0_0 a0.vDefs.length c0_0]) rfl rfl (r_loadBoxAgg (n := 1) (vs := [Value.slice A0_0 a0.vDefs.length c0_0]) rfl Tryd.isAgg24 (HS1.look 0 rfl) Tryd.sizeOf24 rfl rfl) ?_
  obtain ⟨v1, H1, H⟩ := of_bind H
  refine run_eq (v := Value.bool v1) rfl rfl (does_call_eq Tryd.call47 rfl rfl (ctf_valid.calls k a0 A0_0 c0_0 HS1.sees hr0_0 hc0_0 H1)) ?_
  intro w2 hE2
  have HS2 := HS1.step hE2
  refine run_same (v := Value.bool (!v1)) rfl rfl (r_not rfl) ?_
  try simp only [List.set_cons_zero, List.set_cons_succ]
  refine run_nil ?_
  refine norm_then ?_
  refine wp_cond_split (t := (!v1)) rfl (fun c1 => ?_) (fun c1 => ?_)
  · replace H := of_pos H c1
    refine wp_seq ?_
    refine region ?_
    refine run_same (v := Value.slice none 0 0) rfl rfl (r_assign rfl) ?_
    refine run_same (v := Value.int .i64 80) rfl rfl (r_assign rfl) ?_
    try simp only [List.set_cons_zero, List.set_cons_succ]
    refine run_nil ?_
    refine norm_then ?_
    refine wp_ret ?_
    refine ret_then ?_
    obtain rfl := Option.some.inj H
    refine bodyPost_ret (results_2 rfl (one_tmp rfl) (one_tmp rfl)) rfl ?_
    exact ⟨h0, none, 0, rfl, (Nat.le_refl 0), (Rd.nil _ _ _), HS2.gr, HS2.sees, HS2.toE⟩
  · replace H := of_neg H (nt c1)
    refine wp_skip ?_
    refine norm_then ?_
    refine wp_seq ?_
    refine region ?_
    refine run_bs (Kd.int .u8) (xs := ([67, 84, 70, 1] : List Int)) (n := 4) (cs := [Value.int .u8 67, Value.int .u8 84, Value.int .u8 70, Value.int .u8 1]) Tryd.runUnderlying80 Tryd.typeInfo5 Tryd.zeroValue5 rfl rfl (by decide) (by decide) (by decide) [Value.int .u8 67, Value.int .u8 84, Value.int .u8 70, Value.int .u8 1] (parts_any.trans rfl) rfl rfl rfl rfl (elems_cons (qs := [Value.int .u8 67]) rfl (elems_cons (qs := [Value.int .u8 84]) rfl (elems_cons (qs := [Value.int .u8 70]) rfl (elems_cons (qs := [Value.int .u8 1]) rfl (elems_nil (cs := [])))))) HS2 ?_
    intro w3 b2 HS3 ho1
    refine Go.M.run_mark (b := b2) (q := 0) (cs := [Value.int .u8 67, Value.int .u8 84, Value.int .u8 70, Value.int .u8 1]) rfl rfl Tryd.runUnderlying80 Tryd.runUnderlying5 HS3 rfl ?_
    intro w4 HS4
    refine run_same (v := Value.pointer (some ⟨b1, 0, none⟩)) rfl rfl (r_fieldBox (n := 1) (o' := 0) rfl Tryd.runUnderlying24 rfl Tryd.sizeOf22 (by decide) rfl) ?_
    refine run_same (v := Value.slice A0_0 a0.vDefs.length c0_0) rfl rfl (r_loadBox rfl Tryd.isAgg22 (HS4.look 1 rfl) rfl) ?_
    refine run_frame (by simp only [List.set_cons_zero, List.set_cons_succ]; rfl) ?_
    obtain ⟨v2, H2, H⟩ := of_bind H
    have ho2 := ho1.norm
    refine run_call (vs := [Value.slice (rowA (some b2)) (([67, 84, 70, 1] : List Int).length) 4, Value.slice A0_0 a0.vDefs.length c0_0, Value.func (.func 70) #[] #[]]) (caps := []) Tryd.call69 rfl (map3 (show _ = Value.slice (rowA (some b2)) (([67, 84, 70, 1] : List Int).length) 4 from by first | rfl | (rw [ho1.len]; done) | (rw [ho1.len]; rfl)) rfl rfl) (ctf_putList_api_Def.calls k ([67, 84, 70, 1] : List Int) a0.vDefs (some b2) 4 [Value.int .u8 67, Value.int .u8 84, Value.int .u8 70, Value.int .u8 1] (List.length ([Value.int .u8 67, Value.int .u8 84, Value.int .u8 70, Value.int .u8 1]), List.length ([Value.int .u8 67, Value.int .u8 84, Value.int .u8 70, Value.int .u8 1]) + 1) A0_0 c0_0 HS4 ho2 frok_end hr0_0 hc0_0 H2) ?_
    rintro _ w5 ⟨obv2_a0, cv2_a0, csv2_a0, frv2_a0, rfl, hfv2_a0, hov2_a0, HS5⟩
    refine ⟨_, rfl, ?_⟩
    refine run_same (v := Value.slice (rowA obv2_a0) v2.length cv2_a0) rfl rfl (r_assign rfl) ?_
    refine run_same (v := Value.int .i64 0) rfl rfl (r_assign rfl) ?_
    try simp only [List.set_cons_zero, List.set_cons_succ]
    refine run_nil ?_
    refine norm_then ?_
    refine wp_ret ?_
    obtain rfl := Option.some.inj H
    refine bodyPost_ret (results_2 rfl (one_tmp rfl) (one_tmp rfl)) rfl ?_
    obtain ⟨h1, HS6, hs2, rdp1⟩ := row_pub HS5 (i := 0) rfl hov2_a0
    exact ⟨h1, (rowA obv2_a0), cv2_a0, rfl, hov2_a0.cap, rdp1, HS6.gr, HS6.sees, HS6.toE⟩

end Go.Proofs.YtfjppgobidjndaaDoor
namespace Go.Proofs.YtfjppgobidjndaaDoor
open Go.RowKit Go.M
def taplinelaw08_sample.f  : Option (api_Types) := some (⟨([(⟨1, (⟨#[105, 110, 116, 51, 50]⟩ : ByteArray), (⟨4, true⟩ : api_Int), 0, 0, []⟩ : api_Def), (⟨4, (⟨#[116, 104, 114, 101, 97, 100, 95, 116]⟩ : ByteArray), (⟨0, false⟩ : api_Int), 0, 24, ([(⟨(⟨#[116, 95, 116, 105, 100]⟩ : ByteArray), 0, 0⟩ : api_Field), (⟨(⟨#[116, 95, 110, 101, 120, 116]⟩ : ByteArray), 2, 8⟩ : api_Field), (⟨(⟨#[116, 95, 110, 97, 109, 101]⟩ : ByteArray), 3, 16⟩ : api_Field)] : List api_Field)⟩ : api_Def), (⟨2, ByteArray.empty, (⟨0, false⟩ : api_Int), 1, 0, []⟩ : api_Def), (⟨3, ByteArray.empty, (⟨0, false⟩ : api_Int), 4, 8, []⟩ : api_Def), (⟨1, (⟨#[99, 104, 97, 114]⟩ : ByteArray), (⟨1, true⟩ : api_Int), 0, 0, []⟩ : api_Def)] : List api_Def)⟩ : api_Types)
set_option maxRecDepth 20000 in
set_option maxHeartbeats 4000000 in
theorem taplinelaw08_sample.calls   {h0 : View} {w0 : World} (hv : Sees h0 w0) {r : api_Types} (H : taplinelaw08_sample.f = some r) : Calls Tryd.prog 42 #[] w0 (fun e w1 => ∃ (h1 : View) (A0_0 : Option Addr) (c0_0 : Nat), e = .returned (Value.agg #[Value.slice A0_0 r.vDefs.length c0_0]) ∧ r.vDefs.length ≤ c0_0 ∧ Rd k_api_Def h1 A0_0 r.vDefs ∧ Gr w0.heap.size h0 h1 ∧ Sees h1 w1 ∧ Ext w0 w1) := by
  unfold taplinelaw08_sample.f at H
  have HS : St [] h0 w0 h0 [] w0 := St.init hv
  go_enter Tryd.func42, Tryd.ntmps42
  refine wp_seq ?_
  refine region ?_
  refine run_ex rfl rfl (does_alloc (cs := #[Value.slice none 0 0]) Tryd.zeroValue24 rfl) ?_
  rintro w1 _ hE1 ⟨b1, rfl, ge1, hb1⟩
  have HS1 := HS.new hE1 ge1 hb1
  try simp only [List.set_cons_zero, List.set_cons_succ]
  refine run_nil ?_
  refine norm_then ?_
  refine wp_seq ?_
  refine region ?_
  refine run_same (v := Value.agg #[Value.string (⟨#[116, 95, 116, 105, 100]⟩ : ByteArray), Value.int .i64 0, Value.int .i64 0]) rfl rfl (r_build (cs := [Value.string (⟨#[116, 95, 116, 105, 100]⟩ : ByteArray), Value.int .i64 0, Value.int .i64 0]) (ps := [(0, Value.string (⟨#[116, 95, 116, 105, 100]⟩ : ByteArray)), (1, Value.int .i64 0), (2, Value.int .i64 0)]) Tryd.zeroValue36 Tryd.runUnderlying36 (pl := #[(0, 1), (1, 1), (2, 1)]) (fun w => by simp [Tryd.sizeOf3, Tryd.sizeOf9]) (parts_3 (show _ = Value.string (⟨#[116, 95, 116, 105, 100]⟩ : ByteArray) from rfl) (show _ = Value.int .i64 0 from rfl) (show _ = Value.int .i64 0 from rfl)) rfl) ?_
  refine run_same (v := Value.agg #[Value.string (⟨#[116, 95, 110, 101, 120, 116]⟩ : ByteArray), Value.int .i64 2, Value.int .i64 8]) rfl rfl (r_build (cs := [Value.string (⟨#[116, 95, 110, 101, 120, 116]⟩ : ByteArray), Value.int .i64 2, Value.int .i64 8]) (ps := [(0, Value.string (⟨#[116, 95, 110, 101, 120, 116]⟩ : ByteArray)), (1, Value.int .i64 2), (2, Value.int .i64 8)]) Tryd.zeroValue36 Tryd.runUnderlying36 (pl := #[(0, 1), (1, 1), (2, 1)]) (fun w => by simp [Tryd.sizeOf3, Tryd.sizeOf9]) (parts_3 (show _ = Value.string (⟨#[116, 95, 110, 101, 120, 116]⟩ : ByteArray) from rfl) (show _ = Value.int .i64 2 from rfl) (show _ = Value.int .i64 8 from rfl)) rfl) ?_
  refine run_same (v := Value.agg #[Value.string (⟨#[116, 95, 110, 97, 109, 101]⟩ : ByteArray), Value.int .i64 3, Value.int .i64 16]) rfl rfl (r_build (cs := [Value.string (⟨#[116, 95, 110, 97, 109, 101]⟩ : ByteArray), Value.int .i64 3, Value.int .i64 16]) (ps := [(0, Value.string (⟨#[116, 95, 110, 97, 109, 101]⟩ : ByteArray)), (1, Value.int .i64 3), (2, Value.int .i64 16)]) Tryd.zeroValue36 Tryd.runUnderlying36 (pl := #[(0, 1), (1, 1), (2, 1)]) (fun w => by simp [Tryd.sizeOf3, Tryd.sizeOf9]) (parts_3 (show _ = Value.string (⟨#[116, 95, 110, 97, 109, 101]⟩ : ByteArray) from rfl) (show _ = Value.int .i64 3 from rfl) (show _ = Value.int .i64 16 from rfl)) rfl) ?_
  refine run_bs k_api_Field (xs := ([(⟨(⟨#[116, 95, 116, 105, 100]⟩ : ByteArray), 0, 0⟩ : api_Field), (⟨(⟨#[116, 95, 110, 101, 120, 116]⟩ : ByteArray), 2, 8⟩ : api_Field), (⟨(⟨#[116, 95, 110, 97, 109, 101]⟩ : ByteArray), 3, 16⟩ : api_Field)] : List api_Field)) (n := 3) (cs := [Value.string (⟨#[116, 95, 116, 105, 100]⟩ : ByteArray), Value.int .i64 0, Value.int .i64 0, Value.string (⟨#[116, 95, 110, 101, 120, 116]⟩ : ByteArray), Value.int .i64 2, Value.int .i64 8, Value.string (⟨#[116, 95, 110, 97, 109, 101]⟩ : ByteArray), Value.int .i64 3, Value.int .i64 16]) Tryd.runUnderlying32 Tryd.typeInfo36 Tryd.zeroValue36 rfl rfl (by decide) (by decide) (by decide) [Value.agg #[Value.string (⟨#[116, 95, 116, 105, 100]⟩ : ByteArray), Value.int .i64 0, Value.int .i64 0], Value.agg #[Value.string (⟨#[116, 95, 110, 101, 120, 116]⟩ : ByteArray), Value.int .i64 2, Value.int .i64 8], Value.agg #[Value.string (⟨#[116, 95, 110, 97, 109, 101]⟩ : ByteArray), Value.int .i64 3, Value.int .i64 16]] (parts_any.trans rfl) rfl rfl rfl rfl (elems_cons (qs := [Value.string (⟨#[116, 95, 116, 105, 100]⟩ : ByteArray), Value.int .i64 0, Value.int .i64 0]) ⟨[Value.string (⟨#[116, 95, 116, 105, 100]⟩ : ByteArray)], [Value.int .i64 0, Value.int .i64 0], rfl, rfl, ⟨[Value.int .i64 0], [Value.int .i64 0], rfl, rfl, rfl⟩⟩ (elems_cons (qs := [Value.string (⟨#[116, 95, 110, 101, 120, 116]⟩ : ByteArray), Value.int .i64 2, Value.int .i64 8]) ⟨[Value.string (⟨#[116, 95, 110, 101, 120, 116]⟩ : ByteArray)], [Value.int .i64 2, Value.int .i64 8], rfl, rfl, ⟨[Value.int .i64 2], [Value.int .i64 8], rfl, rfl, rfl⟩⟩ (elems_cons (qs := [Value.string (⟨#[116, 95, 110, 97, 109, 101]⟩ : ByteArray), Value.int .i64 3, Value.int .i64 16]) ⟨[Value.string (⟨#[116, 95, 110, 97, 109, 101]⟩ : ByteArray)], [Value.int .i64 3, Value.int .i64 16], rfl, rfl, ⟨[Value.int .i64 3], [Value.int .i64 16], rfl, rfl, rfl⟩⟩ (elems_nil (cs := []))))) HS1 ?_
  intro w2 b2 HS2 ho1
  refine run_frame (by simp only [List.set_cons_zero, List.set_cons_succ]; rfl) ?_
  refine run_same (v := Value.agg #[Value.int .i64 4, Value.string (⟨#[116, 104, 114, 101, 97, 100, 95, 116]⟩ : ByteArray), Value.int .i64 0, Value.bool false, Value.int .i64 0, Value.int .i64 24, Value.slice (rowA (some b2)) 3 3]) rfl rfl (r_build (cs := [Value.int .i64 4, Value.string (⟨#[116, 104, 114, 101, 97, 100, 95, 116]⟩ : ByteArray), Value.int .i64 0, Value.bool false, Value.int .i64 0, Value.int .i64 24, Value.slice (rowA (some b2)) 3 3]) (ps := [(0, Value.int .i64 4), (1, Value.string (⟨#[116, 104, 114, 101, 97, 100, 95, 116]⟩ : ByteArray)), (4, Value.int .i64 24), (5, Value.slice (rowA (some b2)) 3 3)]) Tryd.zeroValue34 Tryd.runUnderlying34 (pl := #[(0, 1), (1, 1), (2, 2), (4, 1), (5, 1), (6, 1)]) (fun w => by simp [Tryd.sizeOf3, Tryd.sizeOf31, Tryd.sizeOf32, Tryd.sizeOf9]) (parts_4 (show _ = Value.int .i64 4 from rfl) (show _ = Value.string (⟨#[116, 104, 114, 101, 97, 100, 95, 116]⟩ : ByteArray) from rfl) (show _ = Value.int .i64 24 from rfl) (show _ = Value.slice (rowA (some b2)) 3 3 from rfl)) rfl) ?_
  refine run_ex rfl rfl (does_alloc (cs := #[Value.int .i64 0, Value.string ByteArray.empty, Value.int .i64 0, Value.bool false, Value.int .i64 0, Value.int .i64 0, Value.slice none 0 0]) Tryd.zeroValue34 rfl) ?_
  rintro w3 _ hE2 ⟨b3, rfl, ge2, hb2⟩
  have HS3 := HS2.new hE2 ge2 hb2
  refine run_st (i := 0) (cs := [Value.int .i64 0, Value.string ByteArray.empty, Value.int .i64 0, Value.bool false, Value.int .i64 0, Value.int .i64 0, Value.slice none 0 0]) (cs' := [Value.int .i64 4, Value.string (⟨#[116, 104, 114, 101, 97, 100, 95, 116]⟩ : ByteArray), Value.int .i64 0, Value.bool false, Value.int .i64 0, Value.int .i64 24, Value.slice (rowA (some b2)) 3 3]) (vs := [Value.int .i64 4, Value.string (⟨#[116, 104, 114, 101, 97, 100, 95, 116]⟩ : ByteArray), Value.int .i64 0, Value.bool false, Value.int .i64 0, Value.int .i64 24, Value.slice (rowA (some b2)) 3 3]) (bs' := [(some b3, .cells #[Value.int .i64 4, Value.string (⟨#[116, 104, 114, 101, 97, 100, 95, 116]⟩ : ByteArray), Value.int .i64 0, Value.bool false, Value.int .i64 0, Value.int .i64 24, Value.slice (rowA (some b2)) 3 3] 34 (0, 0)), ((some b2), .cells ([Value.string (⟨#[116, 95, 116, 105, 100]⟩ : ByteArray), Value.int .i64 0, Value.int .i64 0, Value.string (⟨#[116, 95, 110, 101, 120, 116]⟩ : ByteArray), Value.int .i64 2, Value.int .i64 8, Value.string (⟨#[116, 95, 110, 97, 109, 101]⟩ : ByteArray), Value.int .i64 3, Value.int .i64 16]).toArray 36 (0, 0)), (some b1, .cells #[Value.slice none 0 0] 24 (0, 0))]) rfl rfl Tryd.sizeOf34 rfl rfl (by decide) rfl HS3 rfl (Nat.le_of_ble_eq_true rfl) rfl rfl ?_
  intro w4 HS4
  try simp only [List.set_cons_zero, List.set_cons_succ]
  refine run_nil ?_
  refine norm_then ?_
  refine wp_seq ?_
  refine region ?_
  refine run_same (v := Value.agg #[Value.int .i64 4, Value.bool true]) rfl rfl (r_build (cs := [Value.int .i64 4, Value.bool true]) (ps := [(0, Value.int .i64 4), (1, Value.bool true)]) Tryd.zeroValue31 Tryd.runUnderlying31 (pl := #[(0, 1), (1, 1)]) (fun w => by simp [Tryd.sizeOf3, Tryd.sizeOf4]) (parts_2 (show _ = Value.int .i64 4 from rfl) (show _ = Value.bool true from rfl)) rfl) ?_
  refine run_same (v := Value.agg #[Value.int .i64 1, Value.string (⟨#[105, 110, 116, 51, 50]⟩ : ByteArray), Value.int .i64 4, Value.bool true, Value.int .i64 0, Value.int .i64 0, Value.slice none 0 0]) rfl rfl (r_build (cs := [Value.int .i64 1, Value.string (⟨#[105, 110, 116, 51, 50]⟩ : ByteArray), Value.int .i64 4, Value.bool true, Value.int .i64 0, Value.int .i64 0, Value.slice none 0 0]) (ps := [(0, Value.int .i64 1), (1, Value.string (⟨#[105, 110, 116, 51, 50]⟩ : ByteArray)), (2, Value.agg #[Value.int .i64 4, Value.bool true])]) Tryd.zeroValue34 Tryd.runUnderlying34 (pl := #[(0, 1), (1, 1), (2, 2), (4, 1), (5, 1), (6, 1)]) (fun w => by simp [Tryd.sizeOf3, Tryd.sizeOf31, Tryd.sizeOf32, Tryd.sizeOf9]) (parts_3 (show _ = Value.int .i64 1 from rfl) (show _ = Value.string (⟨#[105, 110, 116, 51, 50]⟩ : ByteArray) from rfl) (show _ = Value.agg #[Value.int .i64 4, Value.bool true] from rfl)) rfl) ?_
  refine run_same (v := Value.agg #[Value.int .i64 4, Value.string (⟨#[116, 104, 114, 101, 97, 100, 95, 116]⟩ : ByteArray), Value.int .i64 0, Value.bool false, Value.int .i64 0, Value.int .i64 24, Value.slice (rowA (some b2)) 3 3]) rfl rfl (r_loadBoxAgg (n := 7) (vs := [Value.int .i64 4, Value.string (⟨#[116, 104, 114, 101, 97, 100, 95, 116]⟩ : ByteArray), Value.int .i64 0, Value.bool false, Value.int .i64 0, Value.int .i64 24, Value.slice (rowA (some b2)) 3 3]) rfl Tryd.isAgg34 (HS4.look 0 rfl) Tryd.sizeOf34 rfl rfl) ?_
  refine run_same (v := Value.agg #[Value.int .i64 2, Value.string ByteArray.empty, Value.int .i64 0, Value.bool false, Value.int .i64 1, Value.int .i64 0, Value.slice none 0 0]) rfl rfl (r_build (cs := [Value.int .i64 2, Value.string ByteArray.empty, Value.int .i64 0, Value.bool false, Value.int .i64 1, Value.int .i64 0, Value.slice none 0 0]) (ps := [(0, Value.int .i64 2), (3, Value.int .i64 1)]) Tryd.zeroValue34 Tryd.runUnderlying34 (pl := #[(0, 1), (1, 1), (2, 2), (4, 1), (5, 1), (6, 1)]) (fun w => by simp [Tryd.sizeOf3, Tryd.sizeOf31, Tryd.sizeOf32, Tryd.sizeOf9]) (parts_2 (show _ = Value.int .i64 2 from rfl) (show _ = Value.int .i64 1 from rfl)) rfl) ?_
  refine run_frame (by simp only [List.set_cons_zero, List.set_cons_succ]; rfl) ?_
  refine run_same (v := Value.agg #[Value.int .i64 3, Value.string ByteArray.empty, Value.int .i64 0, Value.bool false, Value.int .i64 4, Value.int .i64 8, Value.slice none 0 0]) rfl rfl (r_build (cs := [Value.int .i64 3, Value.string ByteArray.empty, Value.int .i64 0, Value.bool false, Value.int .i64 4, Value.int .i64 8, Value.slice none 0 0]) (ps := [(0, Value.int .i64 3), (3, Value.int .i64 4), (4, Value.int .i64 8)]) Tryd.zeroValue34 Tryd.runUnderlying34 (pl := #[(0, 1), (1, 1), (2, 2), (4, 1), (5, 1), (6, 1)]) (fun w => by simp [Tryd.sizeOf3, Tryd.sizeOf31, Tryd.sizeOf32, Tryd.sizeOf9]) (parts_3 (show _ = Value.int .i64 3 from rfl) (show _ = Value.int .i64 4 from rfl) (show _ = Value.int .i64 8 from rfl)) rfl) ?_
  refine run_same (v := Value.agg #[Value.int .i64 1, Value.bool true]) rfl rfl (r_build (cs := [Value.int .i64 1, Value.bool true]) (ps := [(0, Value.int .i64 1), (1, Value.bool true)]) Tryd.zeroValue31 Tryd.runUnderlying31 (pl := #[(0, 1), (1, 1)]) (fun w => by simp [Tryd.sizeOf3, Tryd.sizeOf4]) (parts_2 (show _ = Value.int .i64 1 from rfl) (show _ = Value.bool true from rfl)) rfl) ?_
  refine run_same (v := Value.agg #[Value.int .i64 1, Value.string (⟨#[99, 104, 97, 114]⟩ : ByteArray), Value.int .i64 1, Value.bool true, Value.int .i64 0, Value.int .i64 0, Value.slice none 0 0]) rfl rfl (r_build (cs := [Value.int .i64 1, Value.string (⟨#[99, 104, 97, 114]⟩ : ByteArray), Value.int .i64 1, Value.bool true, Value.int .i64 0, Value.int .i64 0, Value.slice none 0 0]) (ps := [(0, Value.int .i64 1), (1, Value.string (⟨#[99, 104, 97, 114]⟩ : ByteArray)), (2, Value.agg #[Value.int .i64 1, Value.bool true])]) Tryd.zeroValue34 Tryd.runUnderlying34 (pl := #[(0, 1), (1, 1), (2, 2), (4, 1), (5, 1), (6, 1)]) (fun w => by simp [Tryd.sizeOf3, Tryd.sizeOf31, Tryd.sizeOf32, Tryd.sizeOf9]) (parts_3 (show _ = Value.int .i64 1 from rfl) (show _ = Value.string (⟨#[99, 104, 97, 114]⟩ : ByteArray) from rfl) (show _ = Value.agg #[Value.int .i64 1, Value.bool true] from rfl)) rfl) ?_
  have HS5 : St [] h0 w0 h0 [(some b3, .cells #[Value.int .i64 4, Value.string (⟨#[116, 104, 114, 101, 97, 100, 95, 116]⟩ : ByteArray), Value.int .i64 0, Value.bool false, Value.int .i64 0, Value.int .i64 24, Value.slice (rowA (some b2)) (([(⟨(⟨#[116, 95, 116, 105, 100]⟩ : ByteArray), 0, 0⟩ : api_Field), (⟨(⟨#[116, 95, 110, 101, 120, 116]⟩ : ByteArray), 2, 8⟩ : api_Field), (⟨(⟨#[116, 95, 110, 97, 109, 101]⟩ : ByteArray), 3, 16⟩ : api_Field)] : List api_Field).length) 3] 34 (0, 0)), ((some b2), .cells ([Value.string (⟨#[116, 95, 116, 105, 100]⟩ : ByteArray), Value.int .i64 0, Value.int .i64 0, Value.string (⟨#[116, 95, 110, 101, 120, 116]⟩ : ByteArray), Value.int .i64 2, Value.int .i64 8, Value.string (⟨#[116, 95, 110, 97, 109, 101]⟩ : ByteArray), Value.int .i64 3, Value.int .i64 16]).toArray 36 (0, 0)), (some b1, .cells #[Value.slice none 0 0] 24 (0, 0))] w4 := HS4.cast (by first | rfl | (rw [ho1.len]; done) | (rw [ho1.len]; rfl))
  have ho2 := ho1.norm
  obtain ⟨h1, HS6, hs1, rdp1⟩ := row_pub HS5 (i := 1) rfl ho2
  have HS7 : St [] h0 w0 h1 [(some b3, .cells #[Value.int .i64 4, Value.string (⟨#[116, 104, 114, 101, 97, 100, 95, 116]⟩ : ByteArray), Value.int .i64 0, Value.bool false, Value.int .i64 0, Value.int .i64 24, Value.slice (rowA (some b2)) ([(⟨(⟨#[116, 95, 116, 105, 100]⟩ : ByteArray), 0, 0⟩ : api_Field), (⟨(⟨#[116, 95, 110, 101, 120, 116]⟩ : ByteArray), 2, 8⟩ : api_Field), (⟨(⟨#[116, 95, 110, 97, 109, 101]⟩ : ByteArray), 3, 16⟩ : api_Field)] : List api_Field).length 3] 34 (0, 0)), (some b1, .cells #[Value.slice none 0 0] 24 (0, 0))] w4 := HS6
  refine run_bs k_api_Def (xs := ([(⟨1, (⟨#[105, 110, 116, 51, 50]⟩ : ByteArray), (⟨4, true⟩ : api_Int), 0, 0, []⟩ : api_Def), (⟨4, (⟨#[116, 104, 114, 101, 97, 100, 95, 116]⟩ : ByteArray), (⟨0, false⟩ : api_Int), 0, 24, ([(⟨(⟨#[116, 95, 116, 105, 100]⟩ : ByteArray), 0, 0⟩ : api_Field), (⟨(⟨#[116, 95, 110, 101, 120, 116]⟩ : ByteArray), 2, 8⟩ : api_Field), (⟨(⟨#[116, 95, 110, 97, 109, 101]⟩ : ByteArray), 3, 16⟩ : api_Field)] : List api_Field)⟩ : api_Def), (⟨2, ByteArray.empty, (⟨0, false⟩ : api_Int), 1, 0, []⟩ : api_Def), (⟨3, ByteArray.empty, (⟨0, false⟩ : api_Int), 4, 8, []⟩ : api_Def), (⟨1, (⟨#[99, 104, 97, 114]⟩ : ByteArray), (⟨1, true⟩ : api_Int), 0, 0, []⟩ : api_Def)] : List api_Def)) (n := 5) (cs := [Value.int .i64 1, Value.string (⟨#[105, 110, 116, 51, 50]⟩ : ByteArray), Value.int .i64 4, Value.bool true, Value.int .i64 0, Value.int .i64 0, Value.slice none 0 0, Value.int .i64 4, Value.string (⟨#[116, 104, 114, 101, 97, 100, 95, 116]⟩ : ByteArray), Value.int .i64 0, Value.bool false, Value.int .i64 0, Value.int .i64 24, Value.slice (rowA (some b2)) ([(⟨(⟨#[116, 95, 116, 105, 100]⟩ : ByteArray), 0, 0⟩ : api_Field), (⟨(⟨#[116, 95, 110, 101, 120, 116]⟩ : ByteArray), 2, 8⟩ : api_Field), (⟨(⟨#[116, 95, 110, 97, 109, 101]⟩ : ByteArray), 3, 16⟩ : api_Field)] : List api_Field).length 3, Value.int .i64 2, Value.string ByteArray.empty, Value.int .i64 0, Value.bool false, Value.int .i64 1, Value.int .i64 0, Value.slice none 0 0, Value.int .i64 3, Value.string ByteArray.empty, Value.int .i64 0, Value.bool false, Value.int .i64 4, Value.int .i64 8, Value.slice none 0 0, Value.int .i64 1, Value.string (⟨#[99, 104, 97, 114]⟩ : ByteArray), Value.int .i64 1, Value.bool true, Value.int .i64 0, Value.int .i64 0, Value.slice none 0 0]) Tryd.runUnderlying22 Tryd.typeInfo34 Tryd.zeroValue34 rfl rfl (by decide) (by decide) (by decide) [Value.agg #[Value.int .i64 1, Value.string (⟨#[105, 110, 116, 51, 50]⟩ : ByteArray), Value.int .i64 4, Value.bool true, Value.int .i64 0, Value.int .i64 0, Value.slice none 0 0], Value.agg #[Value.int .i64 4, Value.string (⟨#[116, 104, 114, 101, 97, 100, 95, 116]⟩ : ByteArray), Value.int .i64 0, Value.bool false, Value.int .i64 0, Value.int .i64 24, Value.slice (rowA (some b2)) ([(⟨(⟨#[116, 95, 116, 105, 100]⟩ : ByteArray), 0, 0⟩ : api_Field), (⟨(⟨#[116, 95, 110, 101, 120, 116]⟩ : ByteArray), 2, 8⟩ : api_Field), (⟨(⟨#[116, 95, 110, 97, 109, 101]⟩ : ByteArray), 3, 16⟩ : api_Field)] : List api_Field).length 3], Value.agg #[Value.int .i64 2, Value.string ByteArray.empty, Value.int .i64 0, Value.bool false, Value.int .i64 1, Value.int .i64 0, Value.slice none 0 0], Value.agg #[Value.int .i64 3, Value.string ByteArray.empty, Value.int .i64 0, Value.bool false, Value.int .i64 4, Value.int .i64 8, Value.slice none 0 0], Value.agg #[Value.int .i64 1, Value.string (⟨#[99, 104, 97, 114]⟩ : ByteArray), Value.int .i64 1, Value.bool true, Value.int .i64 0, Value.int .i64 0, Value.slice none 0 0]] (parts_any.trans rfl) rfl rfl rfl rfl (elems_cons (qs := [Value.int .i64 1, Value.string (⟨#[105, 110, 116, 51, 50]⟩ : ByteArray), Value.int .i64 4, Value.bool true, Value.int .i64 0, Value.int .i64 0, Value.slice none 0 0]) ⟨[Value.int .i64 1], [Value.string (⟨#[105, 110, 116, 51, 50]⟩ : ByteArray), Value.int .i64 4, Value.bool true, Value.int .i64 0, Value.int .i64 0, Value.slice none 0 0], rfl, rfl, ⟨[Value.string (⟨#[105, 110, 116, 51, 50]⟩ : ByteArray)], [Value.int .i64 4, Value.bool true, Value.int .i64 0, Value.int .i64 0, Value.slice none 0 0], rfl, rfl, ⟨[Value.int .i64 4, Value.bool true], [Value.int .i64 0, Value.int .i64 0, Value.slice none 0 0], rfl, ⟨[Value.int .i64 4], [Value.bool true], rfl, rfl, rfl⟩, ⟨[Value.int .i64 0], [Value.int .i64 0, Value.slice none 0 0], rfl, rfl, ⟨[Value.int .i64 0], [Value.slice none 0 0], rfl, rfl, ⟨none, 0, rfl, (Nat.le_refl 0), (Rd.nil _ _ _)⟩⟩⟩⟩⟩⟩ (elems_cons (qs := [Value.int .i64 4, Value.string (⟨#[116, 104, 114, 101, 97, 100, 95, 116]⟩ : ByteArray), Value.int .i64 0, Value.bool false, Value.int .i64 0, Value.int .i64 24, Value.slice (rowA (some b2)) ([(⟨(⟨#[116, 95, 116, 105, 100]⟩ : ByteArray), 0, 0⟩ : api_Field), (⟨(⟨#[116, 95, 110, 101, 120, 116]⟩ : ByteArray), 2, 8⟩ : api_Field), (⟨(⟨#[116, 95, 110, 97, 109, 101]⟩ : ByteArray), 3, 16⟩ : api_Field)] : List api_Field).length 3]) ⟨[Value.int .i64 4], [Value.string (⟨#[116, 104, 114, 101, 97, 100, 95, 116]⟩ : ByteArray), Value.int .i64 0, Value.bool false, Value.int .i64 0, Value.int .i64 24, Value.slice (rowA (some b2)) ([(⟨(⟨#[116, 95, 116, 105, 100]⟩ : ByteArray), 0, 0⟩ : api_Field), (⟨(⟨#[116, 95, 110, 101, 120, 116]⟩ : ByteArray), 2, 8⟩ : api_Field), (⟨(⟨#[116, 95, 110, 97, 109, 101]⟩ : ByteArray), 3, 16⟩ : api_Field)] : List api_Field).length 3], rfl, rfl, ⟨[Value.string (⟨#[116, 104, 114, 101, 97, 100, 95, 116]⟩ : ByteArray)], [Value.int .i64 0, Value.bool false, Value.int .i64 0, Value.int .i64 24, Value.slice (rowA (some b2)) ([(⟨(⟨#[116, 95, 116, 105, 100]⟩ : ByteArray), 0, 0⟩ : api_Field), (⟨(⟨#[116, 95, 110, 101, 120, 116]⟩ : ByteArray), 2, 8⟩ : api_Field), (⟨(⟨#[116, 95, 110, 97, 109, 101]⟩ : ByteArray), 3, 16⟩ : api_Field)] : List api_Field).length 3], rfl, rfl, ⟨[Value.int .i64 0, Value.bool false], [Value.int .i64 0, Value.int .i64 24, Value.slice (rowA (some b2)) ([(⟨(⟨#[116, 95, 116, 105, 100]⟩ : ByteArray), 0, 0⟩ : api_Field), (⟨(⟨#[116, 95, 110, 101, 120, 116]⟩ : ByteArray), 2, 8⟩ : api_Field), (⟨(⟨#[116, 95, 110, 97, 109, 101]⟩ : ByteArray), 3, 16⟩ : api_Field)] : List api_Field).length 3], rfl, ⟨[Value.int .i64 0], [Value.bool false], rfl, rfl, rfl⟩, ⟨[Value.int .i64 0], [Value.int .i64 24, Value.slice (rowA (some b2)) ([(⟨(⟨#[116, 95, 116, 105, 100]⟩ : ByteArray), 0, 0⟩ : api_Field), (⟨(⟨#[116, 95, 110, 101, 120, 116]⟩ : ByteArray), 2, 8⟩ : api_Field), (⟨(⟨#[116, 95, 110, 97, 109, 101]⟩ : ByteArray), 3, 16⟩ : api_Field)] : List api_Field).length 3], rfl, rfl, ⟨[Value.int .i64 24], [Value.slice (rowA (some b2)) ([(⟨(⟨#[116, 95, 116, 105, 100]⟩ : ByteArray), 0, 0⟩ : api_Field), (⟨(⟨#[116, 95, 110, 101, 120, 116]⟩ : ByteArray), 2, 8⟩ : api_Field), (⟨(⟨#[116, 95, 110, 97, 109, 101]⟩ : ByteArray), 3, 16⟩ : api_Field)] : List api_Field).length 3], rfl, rfl, ⟨(rowA (some b2)), 3, rfl, ho2.cap, rdp1⟩⟩⟩⟩⟩⟩ (elems_cons (qs := [Value.int .i64 2, Value.string ByteArray.empty, Value.int .i64 0, Value.bool false, Value.int .i64 1, Value.int .i64 0, Value.slice none 0 0]) ⟨[Value.int .i64 2], [Value.string ByteArray.empty, Value.int .i64 0, Value.bool false, Value.int .i64 1, Value.int .i64 0, Value.slice none 0 0], rfl, rfl, ⟨[Value.string ByteArray.empty], [Value.int .i64 0, Value.bool false, Value.int .i64 1, Value.int .i64 0, Value.slice none 0 0], rfl, rfl, ⟨[Value.int .i64 0, Value.bool false], [Value.int .i64 1, Value.int .i64 0, Value.slice none 0 0], rfl, ⟨[Value.int .i64 0], [Value.bool false], rfl, rfl, rfl⟩, ⟨[Value.int .i64 1], [Value.int .i64 0, Value.slice none 0 0], rfl, rfl, ⟨[Value.int .i64 0], [Value.slice none 0 0], rfl, rfl, ⟨none, 0, rfl, (Nat.le_refl 0), (Rd.nil _ _ _)⟩⟩⟩⟩⟩⟩ (elems_cons (qs := [Value.int .i64 3, Value.string ByteArray.empty, Value.int .i64 0, Value.bool false, Value.int .i64 4, Value.int .i64 8, Value.slice none 0 0]) ⟨[Value.int .i64 3], [Value.string ByteArray.empty, Value.int .i64 0, Value.bool false, Value.int .i64 4, Value.int .i64 8, Value.slice none 0 0], rfl, rfl, ⟨[Value.string ByteArray.empty], [Value.int .i64 0, Value.bool false, Value.int .i64 4, Value.int .i64 8, Value.slice none 0 0], rfl, rfl, ⟨[Value.int .i64 0, Value.bool false], [Value.int .i64 4, Value.int .i64 8, Value.slice none 0 0], rfl, ⟨[Value.int .i64 0], [Value.bool false], rfl, rfl, rfl⟩, ⟨[Value.int .i64 4], [Value.int .i64 8, Value.slice none 0 0], rfl, rfl, ⟨[Value.int .i64 8], [Value.slice none 0 0], rfl, rfl, ⟨none, 0, rfl, (Nat.le_refl 0), (Rd.nil _ _ _)⟩⟩⟩⟩⟩⟩ (elems_cons (qs := [Value.int .i64 1, Value.string (⟨#[99, 104, 97, 114]⟩ : ByteArray), Value.int .i64 1, Value.bool true, Value.int .i64 0, Value.int .i64 0, Value.slice none 0 0]) ⟨[Value.int .i64 1], [Value.string (⟨#[99, 104, 97, 114]⟩ : ByteArray), Value.int .i64 1, Value.bool true, Value.int .i64 0, Value.int .i64 0, Value.slice none 0 0], rfl, rfl, ⟨[Value.string (⟨#[99, 104, 97, 114]⟩ : ByteArray)], [Value.int .i64 1, Value.bool true, Value.int .i64 0, Value.int .i64 0, Value.slice none 0 0], rfl, rfl, ⟨[Value.int .i64 1, Value.bool true], [Value.int .i64 0, Value.int .i64 0, Value.slice none 0 0], rfl, ⟨[Value.int .i64 1], [Value.bool true], rfl, rfl, rfl⟩, ⟨[Value.int .i64 0], [Value.int .i64 0, Value.slice none 0 0], rfl, rfl, ⟨[Value.int .i64 0], [Value.slice none 0 0], rfl, rfl, ⟨none, 0, rfl, (Nat.le_refl 0), (Rd.nil _ _ _)⟩⟩⟩⟩⟩⟩ (elems_nil (cs := []))))))) HS7 ?_
  intro w5 b4 HS8 ho3
  refine run_frame (by simp only [List.set_cons_zero, List.set_cons_succ]; rfl) ?_
  refine run_same (v := Value.agg #[Value.slice (rowA (some b4)) 5 5]) rfl rfl (r_build (cs := [Value.slice (rowA (some b4)) 5 5]) (ps := [(0, Value.slice (rowA (some b4)) 5 5)]) Tryd.zeroValue24 Tryd.runUnderlying24 (pl := #[(0, 1)]) (fun w => by simp [Tryd.sizeOf22]) (parts_1 (show _ = Value.slice (rowA (some b4)) 5 5 from rfl)) rfl) ?_
  refine run_st (i := 2) (cs := [Value.slice none 0 0]) (cs' := [Value.slice (rowA (some b4)) 5 5]) (vs := [Value.slice (rowA (some b4)) 5 5]) (bs' := [((some b4), .cells ([Value.int .i64 1, Value.string (⟨#[105, 110, 116, 51, 50]⟩ : ByteArray), Value.int .i64 4, Value.bool true, Value.int .i64 0, Value.int .i64 0, Value.slice none 0 0, Value.int .i64 4, Value.string (⟨#[116, 104, 114, 101, 97, 100, 95, 116]⟩ : ByteArray), Value.int .i64 0, Value.bool false, Value.int .i64 0, Value.int .i64 24, Value.slice (rowA (some b2)) ([(⟨(⟨#[116, 95, 116, 105, 100]⟩ : ByteArray), 0, 0⟩ : api_Field), (⟨(⟨#[116, 95, 110, 101, 120, 116]⟩ : ByteArray), 2, 8⟩ : api_Field), (⟨(⟨#[116, 95, 110, 97, 109, 101]⟩ : ByteArray), 3, 16⟩ : api_Field)] : List api_Field).length 3, Value.int .i64 2, Value.string ByteArray.empty, Value.int .i64 0, Value.bool false, Value.int .i64 1, Value.int .i64 0, Value.slice none 0 0, Value.int .i64 3, Value.string ByteArray.empty, Value.int .i64 0, Value.bool false, Value.int .i64 4, Value.int .i64 8, Value.slice none 0 0, Value.int .i64 1, Value.string (⟨#[99, 104, 97, 114]⟩ : ByteArray), Value.int .i64 1, Value.bool true, Value.int .i64 0, Value.int .i64 0, Value.slice none 0 0]).toArray 34 (0, 0)), (some b3, .cells #[Value.int .i64 4, Value.string (⟨#[116, 104, 114, 101, 97, 100, 95, 116]⟩ : ByteArray), Value.int .i64 0, Value.bool false, Value.int .i64 0, Value.int .i64 24, Value.slice (rowA (some b2)) ([(⟨(⟨#[116, 95, 116, 105, 100]⟩ : ByteArray), 0, 0⟩ : api_Field), (⟨(⟨#[116, 95, 110, 101, 120, 116]⟩ : ByteArray), 2, 8⟩ : api_Field), (⟨(⟨#[116, 95, 110, 97, 109, 101]⟩ : ByteArray), 3, 16⟩ : api_Field)] : List api_Field).length 3] 34 (0, 0)), (some b1, .cells #[Value.slice (rowA (some b4)) 5 5] 24 (0, 0))]) rfl rfl Tryd.sizeOf24 rfl rfl (by decide) rfl HS8 rfl (Nat.le_of_ble_eq_true rfl) rfl rfl ?_
  intro w6 HS9
  try simp only [List.set_cons_zero, List.set_cons_succ]
  refine run_nil ?_
  refine norm_then ?_
  refine wp_ret ?_
  obtain rfl := Option.some.inj H
  refine bodyPost_ret (results_1 rfl (one_agg rfl Tryd.isAgg24 (HS9.look 2 rfl) Tryd.sizeOf24 rfl)) rfl ?_
  obtain ⟨h2, HS10, hs2, rdp2⟩ := row_pub HS9 (i := 0) rfl ho3
  replace rdp1 : Rd k_api_Field h2 (rowA (some b2)) ([(⟨(⟨#[116, 95, 116, 105, 100]⟩ : ByteArray), 0, 0⟩ : api_Field), (⟨(⟨#[116, 95, 110, 101, 120, 116]⟩ : ByteArray), 2, 8⟩ : api_Field), (⟨(⟨#[116, 95, 110, 97, 109, 101]⟩ : ByteArray), 3, 16⟩ : api_Field)] : List api_Field) := rdp1.ext hs2
  exact ⟨h2, (rowA (some b4)), 5, (by first | rfl | (rw [ho3.len]; done) | (rw [ho3.len]; rfl)), ho3.cap, rdp2, HS10.gr, HS10.sees, HS10.toE⟩

end Go.Proofs.YtfjppgobidjndaaDoor
namespace Go.Proofs.YtfjppgobidjndaaDoor
open Go.RowKit Go.M
def taplinelaw08_sane.f (k : Nat)  : Option (Bool) := (taplinelaw08_sample.f).bind fun v1 => ((ctf_Size.f k v1 1).bind fun v2 => ((ctf_Text.f k v1 3).bind fun v3 => ((ctf_Member.f k v1 1 (⟨#[116, 95, 110, 101, 120, 116]⟩ : ByteArray)).bind fun v4 => ((ctf_Path.f k v1 1 ([(⟨#[116, 95, 110, 97, 109, 101]⟩ : ByteArray)] : List ByteArray)).bind fun v5 => ((ctf_Check.f k v1).bind fun v6 => (if (((((((((((v6 != 0) || (v2.2 != 0)) || (v2.1 != 24)) || (v3.2 != 0)) || (!(strEq v3.1 (⟨#[99, 104, 97, 114, 32, 91, 56, 93]⟩ : ByteArray)))) || (v4.2 != 0)) || (v4.1.vType != 2)) || (v4.1.vAt != 8)) || (v5.2.2 != 0)) || (v5.1 != 3)) || (v5.2.1 != 16)) = true then (some false) else ((ctf_Member.f k v1 2 (⟨#[116, 95, 116, 105, 100]⟩ : ByteArray)).bind fun v7 => (if 0 + v1.vDefs.length ≤ 4294967296 then (if (0 + v1.vDefs.length) + 1 ≤ 4294967296 then ((ctf_Unique.f k (⟨((([] : List api_Def) ++ v1.vDefs) ++ ([(⟨2, ByteArray.empty, (⟨0, false⟩ : api_Int), 1, 0, []⟩ : api_Def)] : List api_Def))⟩ : api_Types)).bind fun v8 => ((ctf_Encode.f k (⟨[]⟩ : api_Types)).bind fun v9 => ((if (true && (((v7.2 == 5) && (v8.2.2 == 0)) == true)) = true then taplineref08_Same.f k v8.1 v1 else some false).bind fun v10 => ((if (true && ((((v7.2 == 5) && (v8.2.2 == 0)) && v10) == true)) = true then taplineref08_SameInts.f k v8.2.1 ([0, 1, 2, 3, 4, 2] : List Int) else some false).bind fun v11 => (some ((((((v7.2 == 5) && (v8.2.2 == 0)) && v10) && v11) && (v9.2 == 0)) && (strEq (strOf v9.1) (⟨#[67, 84, 70, 1, 0]⟩ : ByteArray)))))))) else none) else none))))))))
set_option maxRecDepth 20000 in
set_option maxHeartbeats 4000000 in
theorem taplinelaw08_sane.calls (k : Nat)   {h0 : View} {w0 : World} (hv : Sees h0 w0) (ht : Tab w0) {r : Bool} (H : taplinelaw08_sane.f k = some r) : Calls Tryd.prog 13 #[] w0 (fun e w1 => e = .returned (Value.bool r) ∧ Ext w0 w1) := by
  unfold taplinelaw08_sane.f at H
  have HS : St [] h0 w0 h0 [] w0 := St.init hv
  go_enter Tryd.func13, Tryd.ntmps13
  refine wp_seq ?_
  refine region ?_
  refine run_same (v := Value.bool false) rfl rfl (r_assign rfl) ?_
  try simp only [List.set_cons_zero, List.set_cons_succ]
  refine run_nil ?_
  refine norm_then ?_
  refine wp_seq ?_
  refine region ?_
  obtain ⟨v1, H1, H⟩ := of_bind H
  refine run_ex rfl rfl (does_call Tryd.call42 rfl (gives_in (h := h0) (R := (fun hx u => ∃ (Av1_0_0 : Option Addr) (cv1_0_0 : Nat), u = Value.agg #[Value.slice Av1_0_0 v1.vDefs.length cv1_0_0] ∧ v1.vDefs.length ≤ cv1_0_0 ∧ Rd k_api_Def hx Av1_0_0 v1.vDefs)) (Ext.rfl' w0) ((taplinelaw08_sample.calls HS.sees H1).mono ?_)) rfl) ?_
  · rintro _ _ ⟨h1, Av1_0_0, cv1_0_0, rfl, hcv1_0_0, hrv1_0_0, g, ss, x⟩
    exact ⟨h1, _, rfl, ⟨Av1_0_0, cv1_0_0, rfl, hcv1_0_0, hrv1_0_0⟩, g, ss, x⟩
  rintro w1 _ hE1 ⟨h1, ⟨Av1_0_0, cv1_0_0, rfl, hcv1_0_0, hrv1_0_0⟩, gr1, se1⟩
  have HS1 := HS.view hE1 gr1 se1
  refine run_ex rfl rfl (does_alloc (cs := #[Value.slice none 0 0]) Tryd.zeroValue24 rfl) ?_
  rintro w2 _ hE2 ⟨b1, rfl, ge1, hb1⟩
  have HS2 := HS1.new hE2 ge1 hb1
  refine run_st (i := 0) (cs := [Value.slice none 0 0]) (cs' := [Value.slice Av1_0_0 v1.vDefs.length cv1_0_0]) (vs := [Value.slice Av1_0_0 v1.vDefs.length cv1_0_0]) (bs' := [(some b1, .cells #[Value.slice Av1_0_0 v1.vDefs.length cv1_0_0] 24 (0, 0))]) rfl rfl Tryd.sizeOf24 rfl rfl (by decide) rfl HS2 rfl (Nat.le_of_ble_eq_true rfl) rfl rfl ?_
  intro w3 HS3
  try simp only [List.set_cons_zero, List.set_cons_succ]
  refine run_nil ?_
  refine norm_then ?_
  refine wp_seq ?_
  refine region ?_
  refine run_same (v := Value.agg #[Value.slice Av1_0_0 v1.vDefs.length cv1_0_0]) rfl rfl (r_loadBoxAgg (n := 1) (vs := [Value.slice Av1_0_0 v1.vDefs.length cv1_0_0]) rfl Tryd.isAgg24 (HS3.look 0 rfl) Tryd.sizeOf24 rfl rfl) ?_
  obtain ⟨v2, H2, H⟩ := of_bind H
  refine run_eq (v := Value.tuple #[Value.int .i64 v2.1, Value.int .i64 v2.2]) rfl rfl (does_call_eq Tryd.call14 rfl rfl (ctf_Size.calls k v1 1 Av1_0_0 cv1_0_0 HS3.sees hrv1_0_0 hcv1_0_0 H2)) ?_
  intro w4 hE3
  have HS4 := HS3.step hE3
  refine run_same (v := Value.tuple #[Value.int .i64 v2.1, Value.int .i64 v2.2]) rfl rfl (r_move rfl) ?_
  refine run_same (v := Value.int .i64 v2.1) rfl rfl (r_extract rfl rfl) ?_
  refine run_frame (by simp only [List.set_cons_zero, List.set_cons_succ]; rfl) ?_
  refine run_same (v := Value.int .i64 v2.2) rfl rfl (r_extract rfl rfl) ?_
  refine run_same (v := Value.int .i64 v2.1) rfl rfl (r_assign rfl) ?_
  refine run_same (v := Value.int .i64 v2.2) rfl rfl (r_assign rfl) ?_
  try simp only [List.set_cons_zero, List.set_cons_succ]
  refine run_nil ?_
  refine norm_then ?_
  refine wp_seq ?_
  refine region ?_
  refine run_same (v := Value.agg #[Value.slice Av1_0_0 v1.vDefs.length cv1_0_0]) rfl rfl (r_loadBoxAgg (n := 1) (vs := [Value.slice Av1_0_0 v1.vDefs.length cv1_0_0]) rfl Tryd.isAgg24 (HS4.look 0 rfl) Tryd.sizeOf24 rfl rfl) ?_
  obtain ⟨v3, H3, H⟩ := of_bind H
  refine run_eq (v := Value.tuple #[Value.string v3.1, Value.int .i64 v3.2]) rfl rfl (does_call_eq Tryd.call20 rfl rfl (ctf_Text.calls k v1 3 Av1_0_0 cv1_0_0 HS4.sees (ht.s HS4) hrv1_0_0 hcv1_0_0 H3)) ?_
  intro w5 hE4
  have HS5 := HS4.step hE4
  refine run_same (v := Value.tuple #[Value.string v3.1, Value.int .i64 v3.2]) rfl rfl (r_move rfl) ?_
  refine run_same (v := Value.string v3.1) rfl rfl (r_extract rfl rfl) ?_
  refine run_frame (by simp only [List.set_cons_zero, List.set_cons_succ]; rfl) ?_
  refine run_same (v := Value.int .i64 v3.2) rfl rfl (r_extract rfl rfl) ?_
  refine run_same (v := Value.string v3.1) rfl rfl (r_assign rfl) ?_
  refine run_same (v := Value.int .i64 v3.2) rfl rfl (r_assign rfl) ?_
  try simp only [List.set_cons_zero, List.set_cons_succ]
  refine run_nil ?_
  refine norm_then ?_
  refine wp_seq ?_
  refine region ?_
  refine run_same (v := Value.agg #[Value.slice Av1_0_0 v1.vDefs.length cv1_0_0]) rfl rfl (r_loadBoxAgg (n := 1) (vs := [Value.slice Av1_0_0 v1.vDefs.length cv1_0_0]) rfl Tryd.isAgg24 (HS5.look 0 rfl) Tryd.sizeOf24 rfl rfl) ?_
  obtain ⟨v4, H4, H⟩ := of_bind H
  refine run_eq (v := Value.tuple #[Value.agg #[Value.string v4.1.vName, Value.int .i64 v4.1.vType, Value.int .i64 v4.1.vAt], Value.int .i64 v4.2]) rfl rfl (does_call_eq Tryd.call16 rfl rfl (ctf_Member.calls k v1 1 (⟨#[116, 95, 110, 101, 120, 116]⟩ : ByteArray) Av1_0_0 cv1_0_0 HS5.sees hrv1_0_0 hcv1_0_0 H4)) ?_
  intro w6 hE5
  have HS6 := HS5.step hE5
  refine run_same (v := Value.tuple #[Value.agg #[Value.string v4.1.vName, Value.int .i64 v4.1.vType, Value.int .i64 v4.1.vAt], Value.int .i64 v4.2]) rfl rfl (r_move rfl) ?_
  refine run_same (v := Value.agg #[Value.string v4.1.vName, Value.int .i64 v4.1.vType, Value.int .i64 v4.1.vAt]) rfl rfl (r_extract rfl rfl) ?_
  refine run_frame (by simp only [List.set_cons_zero, List.set_cons_succ]; rfl) ?_
  refine run_same (v := Value.int .i64 v4.2) rfl rfl (r_extract rfl rfl) ?_
  refine run_ex rfl rfl (does_alloc (cs := #[Value.string ByteArray.empty, Value.int .i64 0, Value.int .i64 0]) Tryd.zeroValue36 rfl) ?_
  rintro w7 _ hE6 ⟨b2, rfl, ge2, hb2⟩
  have HS7 := HS6.new hE6 ge2 hb2
  refine run_st (i := 0) (cs := [Value.string ByteArray.empty, Value.int .i64 0, Value.int .i64 0]) (cs' := [Value.string v4.1.vName, Value.int .i64 v4.1.vType, Value.int .i64 v4.1.vAt]) (vs := [Value.string v4.1.vName, Value.int .i64 v4.1.vType, Value.int .i64 v4.1.vAt]) (bs' := [(some b2, .cells #[Value.string v4.1.vName, Value.int .i64 v4.1.vType, Value.int .i64 v4.1.vAt] 36 (0, 0)), (some b1, .cells #[Value.slice Av1_0_0 v1.vDefs.length cv1_0_0] 24 (0, 0))]) rfl rfl Tryd.sizeOf36 rfl rfl (by decide) rfl HS7 rfl (Nat.le_of_ble_eq_true rfl) rfl rfl ?_
  intro w8 HS8
  refine run_same (v := Value.int .i64 v4.2) rfl rfl (r_assign rfl) ?_
  try simp only [List.set_cons_zero, List.set_cons_succ]
  refine run_nil ?_
  refine norm_then ?_
  refine wp_seq ?_
  refine region ?_
  refine run_same (v := Value.agg #[Value.slice Av1_0_0 v1.vDefs.length cv1_0_0]) rfl rfl (r_loadBoxAgg (n := 1) (vs := [Value.slice Av1_0_0 v1.vDefs.length cv1_0_0]) rfl Tryd.isAgg24 (HS8.look 1 rfl) Tryd.sizeOf24 rfl rfl) ?_
  refine run_bs Kd.str (xs := ([(⟨#[116, 95, 110, 97, 109, 101]⟩ : ByteArray)] : List ByteArray)) (n := 1) (cs := [Value.string (⟨#[116, 95, 110, 97, 109, 101]⟩ : ByteArray)]) Tryd.runUnderlying25 Tryd.typeInfo9 Tryd.zeroValue9 rfl rfl (by decide) (by decide) (by decide) [Value.string (⟨#[116, 95, 110, 97, 109, 101]⟩ : ByteArray)] (parts_any.trans rfl) rfl rfl rfl rfl (elems_cons (qs := [Value.string (⟨#[116, 95, 110, 97, 109, 101]⟩ : ByteArray)]) rfl (elems_nil (cs := []))) HS8 ?_
  intro w9 b3 HS9 ho1
  obtain ⟨v5, H5, H⟩ := of_bind H
  obtain ⟨hl1, hs1, se2, rdl1⟩ := row_lend HS9 (i := 0) rfl ho1
  refine run_eq (v := Value.tuple #[Value.int .i64 v5.1, Value.int .i64 v5.2.1, Value.int .i64 v5.2.2]) rfl rfl (does_call_eq Tryd.call17 rfl (map3 rfl rfl (show _ = Value.slice (rowA (some b3)) ([(⟨#[116, 95, 110, 97, 109, 101]⟩ : ByteArray)] : List ByteArray).length 1 from by rw [ho1.len]; exact rfl)) (ctf_Path.calls k v1 1 ([(⟨#[116, 95, 110, 97, 109, 101]⟩ : ByteArray)] : List ByteArray) Av1_0_0 cv1_0_0 (rowA (some b3)) 1 se2 (hrv1_0_0.ext hs1) hcv1_0_0 rdl1 ho1.cap H5)) ?_
  intro w10 hE7
  have HS10 := HS9.step hE7
  refine run_same (v := Value.tuple #[Value.int .i64 v5.1, Value.int .i64 v5.2.1, Value.int .i64 v5.2.2]) rfl rfl (r_move rfl) ?_
  refine run_frame (by simp only [List.set_cons_zero, List.set_cons_succ]; rfl) ?_
  refine run_same (v := Value.int .i64 v5.1) rfl rfl (r_extract rfl rfl) ?_
  refine run_same (v := Value.int .i64 v5.2.1) rfl rfl (r_extract rfl rfl) ?_
  refine run_same (v := Value.int .i64 v5.2.2) rfl rfl (r_extract rfl rfl) ?_
  refine run_same (v := Value.int .i64 v5.1) rfl rfl (r_assign rfl) ?_
  refine run_frame (by simp only [List.set_cons_zero, List.set_cons_succ]; rfl) ?_
  refine run_same (v := Value.int .i64 v5.2.1) rfl rfl (r_assign rfl) ?_
  refine run_same (v := Value.int .i64 v5.2.2) rfl rfl (r_assign rfl) ?_
  try simp only [List.set_cons_zero, List.set_cons_succ]
  refine run_nil ?_
  refine norm_then ?_
  refine wp_seq ?_
  refine wp_seq ?_
  refine region ?_
  refine run_same (v := Value.agg #[Value.slice Av1_0_0 v1.vDefs.length cv1_0_0]) rfl rfl (r_loadBoxAgg (n := 1) (vs := [Value.slice Av1_0_0 v1.vDefs.length cv1_0_0]) rfl Tryd.isAgg24 (HS10.look 2 rfl) Tryd.sizeOf24 rfl rfl) ?_
  obtain ⟨v6, H6, H⟩ := of_bind H
  refine run_eq (v := Value.int .i64 v6) rfl rfl (does_call_eq Tryd.call18 rfl rfl (ctf_Check.calls k v1 Av1_0_0 cv1_0_0 HS10.sees hrv1_0_0 hcv1_0_0 H6)) ?_
  intro w11 hE8
  have HS11 := HS10.step hE8
  refine run_same (v := Value.bool (v6 != 0)) rfl rfl (r_bin rfl rfl rfl) ?_
  refine run_same (v := Value.bool (v6 != 0)) rfl rfl (r_move rfl) ?_
  refine run_frame (by simp only [List.set_cons_zero, List.set_cons_succ]; rfl) ?_
  refine run_g_same (b := (v6 != 0)) (c := true) (v := Value.int .i64 v2.2) rfl rfl rfl rfl (fun hg => (r_move rfl)) ?_
  refine run_g_same (b := (v6 != 0)) (c := true) (v := Value.bool (v2.2 != 0)) rfl rfl rfl rfl (fun hg => (r_bin ((show _ = gv (true && ((v6 != 0) == false)) (Value.int .i64 v2.2) from rfl).trans (gv_t hg)) rfl rfl)) ?_
  refine run_same (v := Value.bool ((v6 != 0) || (v2.2 != 0))) rfl rfl (r_pick_or rfl rfl (fun hp => ((show _ = gv (true && ((v6 != 0) == false)) (Value.bool (v2.2 != 0)) from rfl).trans (gv_t (and_i rfl hp))))) ?_
  refine run_same (v := Value.bool ((v6 != 0) || (v2.2 != 0))) rfl rfl (r_move rfl) ?_
  refine run_frame (by simp only [List.set_cons_zero, List.set_cons_succ]; rfl) ?_
  refine run_g_same (b := ((v6 != 0) || (v2.2 != 0))) (c := true) (v := Value.int .i64 v2.1) rfl rfl rfl rfl (fun hg => (r_move rfl)) ?_
  refine run_g_same (b := ((v6 != 0) || (v2.2 != 0))) (c := true) (v := Value.bool (v2.1 != 24)) rfl rfl rfl rfl (fun hg => (r_bin ((show _ = gv (true && (((v6 != 0) || (v2.2 != 0)) == false)) (Value.int .i64 v2.1) from rfl).trans (gv_t hg)) rfl rfl)) ?_
  refine run_same (v := Value.bool (((v6 != 0) || (v2.2 != 0)) || (v2.1 != 24))) rfl rfl (r_pick_or rfl rfl (fun hp => ((show _ = gv (true && (((v6 != 0) || (v2.2 != 0)) == false)) (Value.bool (v2.1 != 24)) from rfl).trans (gv_t (and_i rfl hp))))) ?_
  refine run_same (v := Value.bool (((v6 != 0) || (v2.2 != 0)) || (v2.1 != 24))) rfl rfl (r_move rfl) ?_
  refine run_frame (by simp only [List.set_cons_zero, List.set_cons_succ]; rfl) ?_
  refine run_g_same (b := (((v6 != 0) || (v2.2 != 0)) || (v2.1 != 24))) (c := true) (v := Value.int .i64 v3.2) rfl rfl rfl rfl (fun hg => (r_move rfl)) ?_
  refine run_g_same (b := (((v6 != 0) || (v2.2 != 0)) || (v2.1 != 24))) (c := true) (v := Value.bool (v3.2 != 0)) rfl rfl rfl rfl (fun hg => (r_bin ((show _ = gv (true && ((((v6 != 0) || (v2.2 != 0)) || (v2.1 != 24)) == false)) (Value.int .i64 v3.2) from rfl).trans (gv_t hg)) rfl rfl)) ?_
  refine run_same (v := Value.bool ((((v6 != 0) || (v2.2 != 0)) || (v2.1 != 24)) || (v3.2 != 0))) rfl rfl (r_pick_or rfl rfl (fun hp => ((show _ = gv (true && ((((v6 != 0) || (v2.2 != 0)) || (v2.1 != 24)) == false)) (Value.bool (v3.2 != 0)) from rfl).trans (gv_t (and_i rfl hp))))) ?_
  refine run_same (v := Value.bool ((((v6 != 0) || (v2.2 != 0)) || (v2.1 != 24)) || (v3.2 != 0))) rfl rfl (r_move rfl) ?_
  refine run_frame (by simp only [List.set_cons_zero, List.set_cons_succ]; rfl) ?_
  refine run_g_same (b := ((((v6 != 0) || (v2.2 != 0)) || (v2.1 != 24)) || (v3.2 != 0))) (c := true) (v := Value.string v3.1) rfl rfl rfl rfl (fun hg => (r_move rfl)) ?_
  refine run_g_same (b := ((((v6 != 0) || (v2.2 != 0)) || (v2.1 != 24)) || (v3.2 != 0))) (c := true) (v := Value.bool (!(strEq v3.1 (⟨#[99, 104, 97, 114, 32, 91, 56, 93]⟩ : ByteArray)))) rfl rfl rfl rfl (fun hg => (r_strneq ((show _ = gv (true && (((((v6 != 0) || (v2.2 != 0)) || (v2.1 != 24)) || (v3.2 != 0)) == false)) (Value.string v3.1) from rfl).trans (gv_t hg)) rfl)) ?_
  refine run_same (v := Value.bool (((((v6 != 0) || (v2.2 != 0)) || (v2.1 != 24)) || (v3.2 != 0)) || (!(strEq v3.1 (⟨#[99, 104, 97, 114, 32, 91, 56, 93]⟩ : ByteArray))))) rfl rfl (r_pick_or rfl rfl (fun hp => ((show _ = gv (true && (((((v6 != 0) || (v2.2 != 0)) || (v2.1 != 24)) || (v3.2 != 0)) == false)) (Value.bool (!(strEq v3.1 (⟨#[99, 104, 97, 114, 32, 91, 56, 93]⟩ : ByteArray)))) from rfl).trans (gv_t (and_i rfl hp))))) ?_
  refine run_same (v := Value.bool (((((v6 != 0) || (v2.2 != 0)) || (v2.1 != 24)) || (v3.2 != 0)) || (!(strEq v3.1 (⟨#[99, 104, 97, 114, 32, 91, 56, 93]⟩ : ByteArray))))) rfl rfl (r_move rfl) ?_
  refine run_frame (by simp only [List.set_cons_zero, List.set_cons_succ]; rfl) ?_
  refine run_g_same (b := (((((v6 != 0) || (v2.2 != 0)) || (v2.1 != 24)) || (v3.2 != 0)) || (!(strEq v3.1 (⟨#[99, 104, 97, 114, 32, 91, 56, 93]⟩ : ByteArray))))) (c := true) (v := Value.int .i64 v4.2) rfl rfl rfl rfl (fun hg => (r_move rfl)) ?_
  refine run_g_same (b := (((((v6 != 0) || (v2.2 != 0)) || (v2.1 != 24)) || (v3.2 != 0)) || (!(strEq v3.1 (⟨#[99, 104, 97, 114, 32, 91, 56, 93]⟩ : ByteArray))))) (c := true) (v := Value.bool (v4.2 != 0)) rfl rfl rfl rfl (fun hg => (r_bin ((show _ = gv (true && ((((((v6 != 0) || (v2.2 != 0)) || (v2.1 != 24)) || (v3.2 != 0)) || (!(strEq v3.1 (⟨#[99, 104, 97, 114, 32, 91, 56, 93]⟩ : ByteArray)))) == false)) (Value.int .i64 v4.2) from rfl).trans (gv_t hg)) rfl rfl)) ?_
  refine run_same (v := Value.bool ((((((v6 != 0) || (v2.2 != 0)) || (v2.1 != 24)) || (v3.2 != 0)) || (!(strEq v3.1 (⟨#[99, 104, 97, 114, 32, 91, 56, 93]⟩ : ByteArray)))) || (v4.2 != 0))) rfl rfl (r_pick_or rfl rfl (fun hp => ((show _ = gv (true && ((((((v6 != 0) || (v2.2 != 0)) || (v2.1 != 24)) || (v3.2 != 0)) || (!(strEq v3.1 (⟨#[99, 104, 97, 114, 32, 91, 56, 93]⟩ : ByteArray)))) == false)) (Value.bool (v4.2 != 0)) from rfl).trans (gv_t (and_i rfl hp))))) ?_
  refine run_same (v := Value.bool ((((((v6 != 0) || (v2.2 != 0)) || (v2.1 != 24)) || (v3.2 != 0)) || (!(strEq v3.1 (⟨#[99, 104, 97, 114, 32, 91, 56, 93]⟩ : ByteArray)))) || (v4.2 != 0))) rfl rfl (r_move rfl) ?_
  refine run_frame (by simp only [List.set_cons_zero, List.set_cons_succ]; rfl) ?_
  refine run_g_same (b := ((((((v6 != 0) || (v2.2 != 0)) || (v2.1 != 24)) || (v3.2 != 0)) || (!(strEq v3.1 (⟨#[99, 104, 97, 114, 32, 91, 56, 93]⟩ : ByteArray)))) || (v4.2 != 0))) (c := true) (v := Value.pointer (some ⟨b2, 1, none⟩)) rfl rfl rfl rfl (fun hg => (r_fieldBox (n := 1) (o' := 1) rfl Tryd.runUnderlying36 rfl Tryd.sizeOf3 (by decide) rfl)) ?_
  refine run_g_same (b := ((((((v6 != 0) || (v2.2 != 0)) || (v2.1 != 24)) || (v3.2 != 0)) || (!(strEq v3.1 (⟨#[99, 104, 97, 114, 32, 91, 56, 93]⟩ : ByteArray)))) || (v4.2 != 0))) (c := true) (v := Value.int .i64 v4.1.vType) rfl rfl rfl rfl (fun hg => (r_loadBox ((show _ = gv (true && (((((((v6 != 0) || (v2.2 != 0)) || (v2.1 != 24)) || (v3.2 != 0)) || (!(strEq v3.1 (⟨#[99, 104, 97, 114, 32, 91, 56, 93]⟩ : ByteArray)))) || (v4.2 != 0)) == false)) (Value.pointer (some ⟨b2, 1, none⟩)) from rfl).trans (gv_t hg)) Tryd.isAgg3 (HS11.look 1 rfl) rfl)) ?_
  refine run_g_same (b := ((((((v6 != 0) || (v2.2 != 0)) || (v2.1 != 24)) || (v3.2 != 0)) || (!(strEq v3.1 (⟨#[99, 104, 97, 114, 32, 91, 56, 93]⟩ : ByteArray)))) || (v4.2 != 0))) (c := true) (v := Value.bool (v4.1.vType != 2)) rfl rfl rfl rfl (fun hg => (r_bin ((show _ = gv (true && (((((((v6 != 0) || (v2.2 != 0)) || (v2.1 != 24)) || (v3.2 != 0)) || (!(strEq v3.1 (⟨#[99, 104, 97, 114, 32, 91, 56, 93]⟩ : ByteArray)))) || (v4.2 != 0)) == false)) (Value.int .i64 v4.1.vType) from rfl).trans (gv_t hg)) rfl rfl)) ?_
  refine run_same (v := Value.bool (((((((v6 != 0) || (v2.2 != 0)) || (v2.1 != 24)) || (v3.2 != 0)) || (!(strEq v3.1 (⟨#[99, 104, 97, 114, 32, 91, 56, 93]⟩ : ByteArray)))) || (v4.2 != 0)) || (v4.1.vType != 2))) rfl rfl (r_pick_or rfl rfl (fun hp => ((show _ = gv (true && (((((((v6 != 0) || (v2.2 != 0)) || (v2.1 != 24)) || (v3.2 != 0)) || (!(strEq v3.1 (⟨#[99, 104, 97, 114, 32, 91, 56, 93]⟩ : ByteArray)))) || (v4.2 != 0)) == false)) (Value.bool (v4.1.vType != 2)) from rfl).trans (gv_t (and_i rfl hp))))) ?_
  refine run_frame (by simp only [List.set_cons_zero, List.set_cons_succ]; rfl) ?_
  refine run_same (v := Value.bool (((((((v6 != 0) || (v2.2 != 0)) || (v2.1 != 24)) || (v3.2 != 0)) || (!(strEq v3.1 (⟨#[99, 104, 97, 114, 32, 91, 56, 93]⟩ : ByteArray)))) || (v4.2 != 0)) || (v4.1.vType != 2))) rfl rfl (r_move rfl) ?_
  refine run_g_same (b := (((((((v6 != 0) || (v2.2 != 0)) || (v2.1 != 24)) || (v3.2 != 0)) || (!(strEq v3.1 (⟨#[99, 104, 97, 114, 32, 91, 56, 93]⟩ : ByteArray)))) || (v4.2 != 0)) || (v4.1.vType != 2))) (c := true) (v := Value.pointer (some ⟨b2, 2, none⟩)) rfl rfl rfl rfl (fun hg => (r_fieldBox (n := 1) (o' := 2) rfl Tryd.runUnderlying36 rfl Tryd.sizeOf3 (by decide) rfl)) ?_
  refine run_g_same (b := (((((((v6 != 0) || (v2.2 != 0)) || (v2.1 != 24)) || (v3.2 != 0)) || (!(strEq v3.1 (⟨#[99, 104, 97, 114, 32, 91, 56, 93]⟩ : ByteArray)))) || (v4.2 != 0)) || (v4.1.vType != 2))) (c := true) (v := Value.int .i64 v4.1.vAt) rfl rfl rfl rfl (fun hg => (r_loadBox ((show _ = gv (true && ((((((((v6 != 0) || (v2.2 != 0)) || (v2.1 != 24)) || (v3.2 != 0)) || (!(strEq v3.1 (⟨#[99, 104, 97, 114, 32, 91, 56, 93]⟩ : ByteArray)))) || (v4.2 != 0)) || (v4.1.vType != 2)) == false)) (Value.pointer (some ⟨b2, 2, none⟩)) from rfl).trans (gv_t hg)) Tryd.isAgg3 (HS11.look 1 rfl) rfl)) ?_
  refine run_g_same (b := (((((((v6 != 0) || (v2.2 != 0)) || (v2.1 != 24)) || (v3.2 != 0)) || (!(strEq v3.1 (⟨#[99, 104, 97, 114, 32, 91, 56, 93]⟩ : ByteArray)))) || (v4.2 != 0)) || (v4.1.vType != 2))) (c := true) (v := Value.bool (v4.1.vAt != 8)) rfl rfl rfl rfl (fun hg => (r_bin ((show _ = gv (true && ((((((((v6 != 0) || (v2.2 != 0)) || (v2.1 != 24)) || (v3.2 != 0)) || (!(strEq v3.1 (⟨#[99, 104, 97, 114, 32, 91, 56, 93]⟩ : ByteArray)))) || (v4.2 != 0)) || (v4.1.vType != 2)) == false)) (Value.int .i64 v4.1.vAt) from rfl).trans (gv_t hg)) rfl rfl)) ?_
  refine run_frame (by simp only [List.set_cons_zero, List.set_cons_succ]; rfl) ?_
  refine run_same (v := Value.bool ((((((((v6 != 0) || (v2.2 != 0)) || (v2.1 != 24)) || (v3.2 != 0)) || (!(strEq v3.1 (⟨#[99, 104, 97, 114, 32, 91, 56, 93]⟩ : ByteArray)))) || (v4.2 != 0)) || (v4.1.vType != 2)) || (v4.1.vAt != 8))) rfl rfl (r_pick_or rfl rfl (fun hp => ((show _ = gv (true && ((((((((v6 != 0) || (v2.2 != 0)) || (v2.1 != 24)) || (v3.2 != 0)) || (!(strEq v3.1 (⟨#[99, 104, 97, 114, 32, 91, 56, 93]⟩ : ByteArray)))) || (v4.2 != 0)) || (v4.1.vType != 2)) == false)) (Value.bool (v4.1.vAt != 8)) from rfl).trans (gv_t (and_i rfl hp))))) ?_
  refine run_same (v := Value.bool ((((((((v6 != 0) || (v2.2 != 0)) || (v2.1 != 24)) || (v3.2 != 0)) || (!(strEq v3.1 (⟨#[99, 104, 97, 114, 32, 91, 56, 93]⟩ : ByteArray)))) || (v4.2 != 0)) || (v4.1.vType != 2)) || (v4.1.vAt != 8))) rfl rfl (r_move rfl) ?_
  refine run_g_same (b := ((((((((v6 != 0) || (v2.2 != 0)) || (v2.1 != 24)) || (v3.2 != 0)) || (!(strEq v3.1 (⟨#[99, 104, 97, 114, 32, 91, 56, 93]⟩ : ByteArray)))) || (v4.2 != 0)) || (v4.1.vType != 2)) || (v4.1.vAt != 8))) (c := true) (v := Value.int .i64 v5.2.2) rfl rfl rfl rfl (fun hg => (r_move rfl)) ?_
  refine run_g_same (b := ((((((((v6 != 0) || (v2.2 != 0)) || (v2.1 != 24)) || (v3.2 != 0)) || (!(strEq v3.1 (⟨#[99, 104, 97, 114, 32, 91, 56, 93]⟩ : ByteArray)))) || (v4.2 != 0)) || (v4.1.vType != 2)) || (v4.1.vAt != 8))) (c := true) (v := Value.bool (v5.2.2 != 0)) rfl rfl rfl rfl (fun hg => (r_bin ((show _ = gv (true && (((((((((v6 != 0) || (v2.2 != 0)) || (v2.1 != 24)) || (v3.2 != 0)) || (!(strEq v3.1 (⟨#[99, 104, 97, 114, 32, 91, 56, 93]⟩ : ByteArray)))) || (v4.2 != 0)) || (v4.1.vType != 2)) || (v4.1.vAt != 8)) == false)) (Value.int .i64 v5.2.2) from rfl).trans (gv_t hg)) rfl rfl)) ?_
  refine run_frame (by simp only [List.set_cons_zero, List.set_cons_succ]; rfl) ?_
  refine run_same (v := Value.bool (((((((((v6 != 0) || (v2.2 != 0)) || (v2.1 != 24)) || (v3.2 != 0)) || (!(strEq v3.1 (⟨#[99, 104, 97, 114, 32, 91, 56, 93]⟩ : ByteArray)))) || (v4.2 != 0)) || (v4.1.vType != 2)) || (v4.1.vAt != 8)) || (v5.2.2 != 0))) rfl rfl (r_pick_or rfl rfl (fun hp => ((show _ = gv (true && (((((((((v6 != 0) || (v2.2 != 0)) || (v2.1 != 24)) || (v3.2 != 0)) || (!(strEq v3.1 (⟨#[99, 104, 97, 114, 32, 91, 56, 93]⟩ : ByteArray)))) || (v4.2 != 0)) || (v4.1.vType != 2)) || (v4.1.vAt != 8)) == false)) (Value.bool (v5.2.2 != 0)) from rfl).trans (gv_t (and_i rfl hp))))) ?_
  refine run_same (v := Value.bool (((((((((v6 != 0) || (v2.2 != 0)) || (v2.1 != 24)) || (v3.2 != 0)) || (!(strEq v3.1 (⟨#[99, 104, 97, 114, 32, 91, 56, 93]⟩ : ByteArray)))) || (v4.2 != 0)) || (v4.1.vType != 2)) || (v4.1.vAt != 8)) || (v5.2.2 != 0))) rfl rfl (r_move rfl) ?_
  refine run_g_same (b := (((((((((v6 != 0) || (v2.2 != 0)) || (v2.1 != 24)) || (v3.2 != 0)) || (!(strEq v3.1 (⟨#[99, 104, 97, 114, 32, 91, 56, 93]⟩ : ByteArray)))) || (v4.2 != 0)) || (v4.1.vType != 2)) || (v4.1.vAt != 8)) || (v5.2.2 != 0))) (c := true) (v := Value.int .i64 v5.1) rfl rfl rfl rfl (fun hg => (r_move rfl)) ?_
  refine run_g_same (b := (((((((((v6 != 0) || (v2.2 != 0)) || (v2.1 != 24)) || (v3.2 != 0)) || (!(strEq v3.1 (⟨#[99, 104, 97, 114, 32, 91, 56, 93]⟩ : ByteArray)))) || (v4.2 != 0)) || (v4.1.vType != 2)) || (v4.1.vAt != 8)) || (v5.2.2 != 0))) (c := true) (v := Value.bool (v5.1 != 3)) rfl rfl rfl rfl (fun hg => (r_bin ((show _ = gv (true && ((((((((((v6 != 0) || (v2.2 != 0)) || (v2.1 != 24)) || (v3.2 != 0)) || (!(strEq v3.1 (⟨#[99, 104, 97, 114, 32, 91, 56, 93]⟩ : ByteArray)))) || (v4.2 != 0)) || (v4.1.vType != 2)) || (v4.1.vAt != 8)) || (v5.2.2 != 0)) == false)) (Value.int .i64 v5.1) from rfl).trans (gv_t hg)) rfl rfl)) ?_
  refine run_frame (by simp only [List.set_cons_zero, List.set_cons_succ]; rfl) ?_
  refine run_same (v := Value.bool ((((((((((v6 != 0) || (v2.2 != 0)) || (v2.1 != 24)) || (v3.2 != 0)) || (!(strEq v3.1 (⟨#[99, 104, 97, 114, 32, 91, 56, 93]⟩ : ByteArray)))) || (v4.2 != 0)) || (v4.1.vType != 2)) || (v4.1.vAt != 8)) || (v5.2.2 != 0)) || (v5.1 != 3))) rfl rfl (r_pick_or rfl rfl (fun hp => ((show _ = gv (true && ((((((((((v6 != 0) || (v2.2 != 0)) || (v2.1 != 24)) || (v3.2 != 0)) || (!(strEq v3.1 (⟨#[99, 104, 97, 114, 32, 91, 56, 93]⟩ : ByteArray)))) || (v4.2 != 0)) || (v4.1.vType != 2)) || (v4.1.vAt != 8)) || (v5.2.2 != 0)) == false)) (Value.bool (v5.1 != 3)) from rfl).trans (gv_t (and_i rfl hp))))) ?_
  refine run_same (v := Value.bool ((((((((((v6 != 0) || (v2.2 != 0)) || (v2.1 != 24)) || (v3.2 != 0)) || (!(strEq v3.1 (⟨#[99, 104, 97, 114, 32, 91, 56, 93]⟩ : ByteArray)))) || (v4.2 != 0)) || (v4.1.vType != 2)) || (v4.1.vAt != 8)) || (v5.2.2 != 0)) || (v5.1 != 3))) rfl rfl (r_move rfl) ?_
  refine run_g_same (b := ((((((((((v6 != 0) || (v2.2 != 0)) || (v2.1 != 24)) || (v3.2 != 0)) || (!(strEq v3.1 (⟨#[99, 104, 97, 114, 32, 91, 56, 93]⟩ : ByteArray)))) || (v4.2 != 0)) || (v4.1.vType != 2)) || (v4.1.vAt != 8)) || (v5.2.2 != 0)) || (v5.1 != 3))) (c := true) (v := Value.int .i64 v5.2.1) rfl rfl rfl rfl (fun hg => (r_move rfl)) ?_
  refine run_g_same (b := ((((((((((v6 != 0) || (v2.2 != 0)) || (v2.1 != 24)) || (v3.2 != 0)) || (!(strEq v3.1 (⟨#[99, 104, 97, 114, 32, 91, 56, 93]⟩ : ByteArray)))) || (v4.2 != 0)) || (v4.1.vType != 2)) || (v4.1.vAt != 8)) || (v5.2.2 != 0)) || (v5.1 != 3))) (c := true) (v := Value.bool (v5.2.1 != 16)) rfl rfl rfl rfl (fun hg => (r_bin ((show _ = gv (true && (((((((((((v6 != 0) || (v2.2 != 0)) || (v2.1 != 24)) || (v3.2 != 0)) || (!(strEq v3.1 (⟨#[99, 104, 97, 114, 32, 91, 56, 93]⟩ : ByteArray)))) || (v4.2 != 0)) || (v4.1.vType != 2)) || (v4.1.vAt != 8)) || (v5.2.2 != 0)) || (v5.1 != 3)) == false)) (Value.int .i64 v5.2.1) from rfl).trans (gv_t hg)) rfl rfl)) ?_
  refine run_frame (by simp only [List.set_cons_zero, List.set_cons_succ]; rfl) ?_
  refine run_same (v := Value.bool (((((((((((v6 != 0) || (v2.2 != 0)) || (v2.1 != 24)) || (v3.2 != 0)) || (!(strEq v3.1 (⟨#[99, 104, 97, 114, 32, 91, 56, 93]⟩ : ByteArray)))) || (v4.2 != 0)) || (v4.1.vType != 2)) || (v4.1.vAt != 8)) || (v5.2.2 != 0)) || (v5.1 != 3)) || (v5.2.1 != 16))) rfl rfl (r_pick_or rfl rfl (fun hp => ((show _ = gv (true && (((((((((((v6 != 0) || (v2.2 != 0)) || (v2.1 != 24)) || (v3.2 != 0)) || (!(strEq v3.1 (⟨#[99, 104, 97, 114, 32, 91, 56, 93]⟩ : ByteArray)))) || (v4.2 != 0)) || (v4.1.vType != 2)) || (v4.1.vAt != 8)) || (v5.2.2 != 0)) || (v5.1 != 3)) == false)) (Value.bool (v5.2.1 != 16)) from rfl).trans (gv_t (and_i rfl hp))))) ?_
  try simp only [List.set_cons_zero, List.set_cons_succ]
  refine run_nil ?_
  refine norm_then ?_
  refine wp_cond_split (t := (((((((((((v6 != 0) || (v2.2 != 0)) || (v2.1 != 24)) || (v3.2 != 0)) || (!(strEq v3.1 (⟨#[99, 104, 97, 114, 32, 91, 56, 93]⟩ : ByteArray)))) || (v4.2 != 0)) || (v4.1.vType != 2)) || (v4.1.vAt != 8)) || (v5.2.2 != 0)) || (v5.1 != 3)) || (v5.2.1 != 16))) rfl (fun c1 => ?_) (fun c1 => ?_)
  · replace H := of_pos H c1
    refine wp_seq ?_
    refine region ?_
    refine run_same (v := Value.bool false) rfl rfl (r_assign rfl) ?_
    try simp only [List.set_cons_zero, List.set_cons_succ]
    refine run_nil ?_
    refine norm_then ?_
    refine wp_ret ?_
    refine ret_then ?_
    obtain rfl := Option.some.inj H
    refine bodyPost_ret (results_1 rfl (one_tmp rfl)) rfl ?_
    exact ⟨rfl, HS11.toE⟩
  · replace H := of_neg H (nt c1)
    refine wp_skip ?_
    refine norm_then ?_
    refine wp_seq ?_
    refine region ?_
    refine run_same (v := Value.agg #[Value.slice Av1_0_0 v1.vDefs.length cv1_0_0]) rfl rfl (r_loadBoxAgg (n := 1) (vs := [Value.slice Av1_0_0 v1.vDefs.length cv1_0_0]) rfl Tryd.isAgg24 (HS11.look 2 rfl) Tryd.sizeOf24 rfl rfl) ?_
    obtain ⟨v7, H7, H⟩ := of_bind H
    refine run_eq (v := Value.tuple #[Value.agg #[Value.string v7.1.vName, Value.int .i64 v7.1.vType, Value.int .i64 v7.1.vAt], Value.int .i64 v7.2]) rfl rfl (does_call_eq Tryd.call16 rfl rfl (ctf_Member.calls k v1 2 (⟨#[116, 95, 116, 105, 100]⟩ : ByteArray) Av1_0_0 cv1_0_0 HS11.sees hrv1_0_0 hcv1_0_0 H7)) ?_
    intro w12 hE9
    have HS12 := HS11.step hE9
    refine run_same (v := Value.tuple #[Value.agg #[Value.string v7.1.vName, Value.int .i64 v7.1.vType, Value.int .i64 v7.1.vAt], Value.int .i64 v7.2]) rfl rfl (r_move rfl) ?_
    refine run_same (v := Value.agg #[Value.string v7.1.vName, Value.int .i64 v7.1.vType, Value.int .i64 v7.1.vAt]) rfl rfl (r_extract rfl rfl) ?_
    refine run_frame (by simp only [List.set_cons_zero, List.set_cons_succ]; rfl) ?_
    refine run_same (v := Value.int .i64 v7.2) rfl rfl (r_extract rfl rfl) ?_
    refine run_ex rfl rfl (does_alloc (cs := #[Value.string ByteArray.empty, Value.int .i64 0, Value.int .i64 0]) Tryd.zeroValue36 rfl) ?_
    rintro w13 _ hE10 ⟨b4, rfl, ge3, hb3⟩
    have HS13 := HS12.new hE10 ge3 hb3
    refine run_st (i := 0) (cs := [Value.string ByteArray.empty, Value.int .i64 0, Value.int .i64 0]) (cs' := [Value.string v7.1.vName, Value.int .i64 v7.1.vType, Value.int .i64 v7.1.vAt]) (vs := [Value.string v7.1.vName, Value.int .i64 v7.1.vType, Value.int .i64 v7.1.vAt]) (bs' := [(some b4, .cells #[Value.string v7.1.vName, Value.int .i64 v7.1.vType, Value.int .i64 v7.1.vAt] 36 (0, 0)), ((some b3), .cells ([Value.string (⟨#[116, 95, 110, 97, 109, 101]⟩ : ByteArray)]).toArray 9 (0, 0)), (some b2, .cells #[Value.string v4.1.vName, Value.int .i64 v4.1.vType, Value.int .i64 v4.1.vAt] 36 (0, 0)), (some b1, .cells #[Value.slice Av1_0_0 v1.vDefs.length cv1_0_0] 24 (0, 0))]) rfl rfl Tryd.sizeOf36 rfl rfl (by decide) rfl HS13 rfl (Nat.le_of_ble_eq_true rfl) rfl rfl ?_
    intro w14 HS14
    refine run_same (v := Value.int .i64 v7.2) rfl rfl (r_assign rfl) ?_
    try simp only [List.set_cons_zero, List.set_cons_succ]
    refine run_nil ?_
    refine norm_then ?_
    refine wp_seq ?_
    refine region ?_
    refine run_bs0 k_api_Def Tryd.runUnderlying22 Tryd.typeInfo34 HS14 ?_
    intro w15 b5 HS15 ho2
    refine run_same (v := Value.pointer (some ⟨b1, 0, none⟩)) rfl rfl (r_fieldBox (n := 1) (o' := 0) rfl Tryd.runUnderlying24 rfl Tryd.sizeOf22 (by decide) rfl) ?_
    refine run_same (v := Value.slice Av1_0_0 v1.vDefs.length cv1_0_0) rfl rfl (r_loadBox rfl Tryd.isAgg22 (HS15.look 4 rfl) rfl) ?_
    obtain ⟨nw1, sr1, hn1⟩ := src_rd (c := cv1_0_0) one_api_Def Tryd.runUnderlying22 HS15.sees hrv1_0_0
    obtain ⟨hl2, H⟩ := of_ite H
    refine run_app k_api_Def (q := 0) (cs := ([] : List Value)) rfl rfl Tryd.runUnderlying22 Tryd.typeInfo34 Tryd.zeroValue34 rfl (by decide) rfl sr1 rfl hn1 hl2 HS15 rfl ho2 ?_
    intro w16 ob1 c2 cs1 HS16 ho3
    refine run_frame (by simp only [List.set_cons_zero, List.set_cons_succ]; rfl) ?_
    refine run_same (v := Value.agg #[Value.int .i64 2, Value.string ByteArray.empty, Value.int .i64 0, Value.bool false, Value.int .i64 1, Value.int .i64 0, Value.slice none 0 0]) rfl rfl (r_build (cs := [Value.int .i64 2, Value.string ByteArray.empty, Value.int .i64 0, Value.bool false, Value.int .i64 1, Value.int .i64 0, Value.slice none 0 0]) (ps := [(0, Value.int .i64 2), (3, Value.int .i64 1)]) Tryd.zeroValue34 Tryd.runUnderlying34 (pl := #[(0, 1), (1, 1), (2, 2), (4, 1), (5, 1), (6, 1)]) (fun w => by simp [Tryd.sizeOf3, Tryd.sizeOf31, Tryd.sizeOf32, Tryd.sizeOf9]) (parts_2 (show _ = Value.int .i64 2 from rfl) (show _ = Value.int .i64 1 from rfl)) rfl) ?_
    refine run_bs k_api_Def (xs := ([(⟨2, ByteArray.empty, (⟨0, false⟩ : api_Int), 1, 0, []⟩ : api_Def)] : List api_Def)) (n := 1) (cs := [Value.int .i64 2, Value.string ByteArray.empty, Value.int .i64 0, Value.bool false, Value.int .i64 1, Value.int .i64 0, Value.slice none 0 0]) Tryd.runUnderlying22 Tryd.typeInfo34 Tryd.zeroValue34 rfl rfl (by decide) (by decide) (by decide) [Value.agg #[Value.int .i64 2, Value.string ByteArray.empty, Value.int .i64 0, Value.bool false, Value.int .i64 1, Value.int .i64 0, Value.slice none 0 0]] (parts_any.trans rfl) rfl rfl rfl rfl (elems_cons (qs := [Value.int .i64 2, Value.string ByteArray.empty, Value.int .i64 0, Value.bool false, Value.int .i64 1, Value.int .i64 0, Value.slice none 0 0]) ⟨[Value.int .i64 2], [Value.string ByteArray.empty, Value.int .i64 0, Value.bool false, Value.int .i64 1, Value.int .i64 0, Value.slice none 0 0], rfl, rfl, ⟨[Value.string ByteArray.empty], [Value.int .i64 0, Value.bool false, Value.int .i64 1, Value.int .i64 0, Value.slice none 0 0], rfl, rfl, ⟨[Value.int .i64 0, Value.bool false], [Value.int .i64 1, Value.int .i64 0, Value.slice none 0 0], rfl, ⟨[Value.int .i64 0], [Value.bool false], rfl, rfl, rfl⟩, ⟨[Value.int .i64 1], [Value.int .i64 0, Value.slice none 0 0], rfl, rfl, ⟨[Value.int .i64 0], [Value.slice none 0 0], rfl, rfl, ⟨none, 0, rfl, (Nat.le_refl 0), (Rd.nil _ _ _)⟩⟩⟩⟩⟩⟩ (elems_nil (cs := []))) HS16 ?_
    intro w17 b6 HS17 ho4
    obtain ⟨hl3, H⟩ := of_ite H
    refine run_app k_api_Def (q := 1) (cs := cs1) rfl rfl Tryd.runUnderlying22 Tryd.typeInfo34 Tryd.zeroValue34 rfl (by decide) rfl (src_row Tryd.runUnderlying22 HS17 (i := 0) rfl ho4 rfl) ho4.len (src_row_elems ho4) hl3 HS17 rfl ho3 ?_
    intro w18 ob2 c3 cs2 HS18 ho5
    refine run_same (v := Value.agg #[Value.slice (rowA ob2) ((0 + v1.vDefs.length) + 1) c3]) rfl rfl (r_build (cs := [Value.slice (rowA ob2) ((0 + v1.vDefs.length) + 1) c3]) (ps := [(0, Value.slice (rowA ob2) ((0 + v1.vDefs.length) + 1) c3)]) Tryd.zeroValue24 Tryd.runUnderlying24 (pl := #[(0, 1)]) (fun w => by simp [Tryd.sizeOf22]) (parts_1 (show _ = Value.slice (rowA ob2) ((0 + v1.vDefs.length) + 1) c3 from rfl)) rfl) ?_
    refine run_frame (by simp only [List.set_cons_zero, List.set_cons_succ]; rfl) ?_
    refine run_ex rfl rfl (does_alloc (cs := #[Value.slice none 0 0]) Tryd.zeroValue24 rfl) ?_
    rintro w19 _ hE11 ⟨b7, rfl, ge4, hb4⟩
    have HS19 := HS18.new hE11 ge4 hb4
    refine run_st (i := 0) (cs := [Value.slice none 0 0]) (cs' := [Value.slice (rowA ob2) ((0 + v1.vDefs.length) + 1) c3]) (vs := [Value.slice (rowA ob2) ((0 + v1.vDefs.length) + 1) c3]) (bs' := [(some b7, .cells #[Value.slice (rowA ob2) ((0 + v1.vDefs.length) + 1) c3] 24 (0, 0)), ((some b6), .cells ([Value.int .i64 2, Value.string ByteArray.empty, Value.int .i64 0, Value.bool false, Value.int .i64 1, Value.int .i64 0, Value.slice none 0 0]).toArray 34 (0, 0)), (ob2, .cells (cs2).toArray 34 (0, 0)), (some b4, .cells #[Value.string v7.1.vName, Value.int .i64 v7.1.vType, Value.int .i64 v7.1.vAt] 36 (0, 0)), ((some b3), .cells ([Value.string (⟨#[116, 95, 110, 97, 109, 101]⟩ : ByteArray)]).toArray 9 (0, 0)), (some b2, .cells #[Value.string v4.1.vName, Value.int .i64 v4.1.vType, Value.int .i64 v4.1.vAt] 36 (0, 0)), (some b1, .cells #[Value.slice Av1_0_0 v1.vDefs.length cv1_0_0] 24 (0, 0))]) rfl rfl Tryd.sizeOf24 rfl rfl (by decide) rfl HS19 rfl (Nat.le_of_ble_eq_true rfl) rfl rfl ?_
    intro w20 HS20
    try simp only [List.set_cons_zero, List.set_cons_succ]
    refine run_nil ?_
    refine norm_then ?_
    refine wp_seq ?_
    refine region ?_
    refine run_same (v := Value.agg #[Value.slice (rowA ob2) ((0 + v1.vDefs.length) + 1) c3]) rfl rfl (r_loadBoxAgg (n := 1) (vs := [Value.slice (rowA ob2) ((0 + v1.vDefs.length) + 1) c3]) rfl Tryd.isAgg24 (HS20.look 0 rfl) Tryd.sizeOf24 rfl rfl) ?_
    have HS21 : St [] h0 w0 h1 [(some b7, .cells #[Value.slice (rowA ob2) (((([] : List api_Def) ++ v1.vDefs) ++ ([(⟨2, ByteArray.empty, (⟨0, false⟩ : api_Int), 1, 0, []⟩ : api_Def)] : List api_Def)).length) c3] 24 (0, 0)), ((some b6), .cells ([Value.int .i64 2, Value.string ByteArray.empty, Value.int .i64 0, Value.bool false, Value.int .i64 1, Value.int .i64 0, Value.slice none 0 0]).toArray 34 (0, 0)), (ob2, .cells (cs2).toArray 34 (0, 0)), (some b4, .cells #[Value.string v7.1.vName, Value.int .i64 v7.1.vType, Value.int .i64 v7.1.vAt] 36 (0, 0)), ((some b3), .cells ([Value.string (⟨#[116, 95, 110, 97, 109, 101]⟩ : ByteArray)]).toArray 9 (0, 0)), (some b2, .cells #[Value.string v4.1.vName, Value.int .i64 v4.1.vType, Value.int .i64 v4.1.vAt] 36 (0, 0)), (some b1, .cells #[Value.slice Av1_0_0 v1.vDefs.length cv1_0_0] 24 (0, 0))] w20 := HS20.cast (by first | rfl | (rw [ho5.len]; done) | (rw [ho5.len]; rfl))
    have ho6 := ho5.norm
    try rw [← ho5.len]
    obtain ⟨h2, HS22, hs2, rdp1⟩ := row_pub HS21 (i := 2) rfl ho6
    have HS23 : St [] h0 w0 h2 [(some b7, .cells #[Value.slice (rowA ob2) ((([] : List api_Def) ++ v1.vDefs) ++ ([(⟨2, ByteArray.empty, (⟨0, false⟩ : api_Int), 1, 0, []⟩ : api_Def)] : List api_Def)).length c3] 24 (0, 0)), ((some b6), .cells ([Value.int .i64 2, Value.string ByteArray.empty, Value.int .i64 0, Value.bool false, Value.int .i64 1, Value.int .i64 0, Value.slice none 0 0]).toArray 34 (0, 0)), (some b4, .cells #[Value.string v7.1.vName, Value.int .i64 v7.1.vType, Value.int .i64 v7.1.vAt] 36 (0, 0)), ((some b3), .cells ([Value.string (⟨#[116, 95, 110, 97, 109, 101]⟩ : ByteArray)]).toArray 9 (0, 0)), (some b2, .cells #[Value.string v4.1.vName, Value.int .i64 v4.1.vType, Value.int .i64 v4.1.vAt] 36 (0, 0)), (some b1, .cells #[Value.slice Av1_0_0 v1.vDefs.length cv1_0_0] 24 (0, 0))] w20 := HS22
    replace hrv1_0_0 : Rd k_api_Def h2 Av1_0_0 v1.vDefs := hrv1_0_0.ext hs2
    replace ho4 := ho4.view hs2
    replace ho1 := ho1.view hs2
    obtain ⟨v8, H8, H⟩ := of_bind H
    refine run_ex rfl rfl (does_call Tryd.call28 rfl (gives_in (h := h2) (R := (fun hx u => ∃ (Av8_0_0 : Option Addr) (cv8_0_0 : Nat), ∃ (Av8_1_0 : Option Addr) (cv8_1_0 : Nat), u = Value.tuple #[Value.agg #[Value.slice Av8_0_0 v8.1.vDefs.length cv8_0_0], Value.slice Av8_1_0 v8.2.1.length cv8_1_0, Value.int .i64 v8.2.2] ∧ v8.1.vDefs.length ≤ cv8_0_0 ∧ Rd k_api_Def hx Av8_0_0 v8.1.vDefs ∧ v8.2.1.length ≤ cv8_1_0 ∧ Rd (Kd.int .i64) hx Av8_1_0 v8.2.1)) (Ext.rfl' w20) ((ctf_Unique.calls k (⟨((([] : List api_Def) ++ v1.vDefs) ++ ([(⟨2, ByteArray.empty, (⟨0, false⟩ : api_Int), 1, 0, []⟩ : api_Def)] : List api_Def))⟩ : api_Types) (rowA ob2) c3 HS23.sees (ht.s HS23) rdp1 ho6.cap H8).mono ?_)) rfl) ?_
    · rintro _ _ ⟨h1, Av8_0_0, cv8_0_0, Av8_1_0, cv8_1_0, rfl, hcv8_0_0, hrv8_0_0, hcv8_1_0, hrv8_1_0, g, ss, x⟩
      exact ⟨h1, _, rfl, ⟨Av8_0_0, cv8_0_0, Av8_1_0, cv8_1_0, rfl, hcv8_0_0, hrv8_0_0, hcv8_1_0, hrv8_1_0⟩, g, ss, x⟩
    rintro w21 _ hE12 ⟨h3, ⟨Av8_0_0, cv8_0_0, Av8_1_0, cv8_1_0, rfl, hcv8_0_0, hrv8_0_0, hcv8_1_0, hrv8_1_0⟩, gr2, se3⟩
    have HS24 := HS23.view hE12 gr2 se3
    replace hrv1_0_0 : Rd k_api_Def h3 Av1_0_0 v1.vDefs := hrv1_0_0.ext gr2.1
    replace rdp1 : Rd k_api_Def h3 (rowA ob2) ((([] : List api_Def) ++ v1.vDefs) ++ ([(⟨2, ByteArray.empty, (⟨0, false⟩ : api_Int), 1, 0, []⟩ : api_Def)] : List api_Def)) := rdp1.ext gr2.1
    replace ho4 := ho4.view gr2.1
    replace ho1 := ho1.view gr2.1
    refine run_same (v := Value.tuple #[Value.agg #[Value.slice Av8_0_0 v8.1.vDefs.length cv8_0_0], Value.slice Av8_1_0 v8.2.1.length cv8_1_0, Value.int .i64 v8.2.2]) rfl rfl (r_move rfl) ?_
    refine run_same (v := Value.agg #[Value.slice Av8_0_0 v8.1.vDefs.length cv8_0_0]) rfl rfl (r_extract rfl rfl) ?_
    refine run_frame (by simp only [List.set_cons_zero, List.set_cons_succ]; rfl) ?_
    refine run_same (v := Value.slice Av8_1_0 v8.2.1.length cv8_1_0) rfl rfl (r_extract rfl rfl) ?_
    refine run_same (v := Value.int .i64 v8.2.2) rfl rfl (r_extract rfl rfl) ?_
    refine run_ex rfl rfl (does_alloc (cs := #[Value.slice none 0 0]) Tryd.zeroValue24 rfl) ?_
    rintro w22 _ hE13 ⟨b8, rfl, ge5, hb5⟩
    have HS25 := HS24.new hE13 ge5 hb5
    refine run_st (i := 0) (cs := [Value.slice none 0 0]) (cs' := [Value.slice Av8_0_0 v8.1.vDefs.length cv8_0_0]) (vs := [Value.slice Av8_0_0 v8.1.vDefs.length cv8_0_0]) (bs' := [(some b8, .cells #[Value.slice Av8_0_0 v8.1.vDefs.length cv8_0_0] 24 (0, 0)), (some b7, .cells #[Value.slice (rowA ob2) ((([] : List api_Def) ++ v1.vDefs) ++ ([(⟨2, ByteArray.empty, (⟨0, false⟩ : api_Int), 1, 0, []⟩ : api_Def)] : List api_Def)).length c3] 24 (0, 0)), ((some b6), .cells ([Value.int .i64 2, Value.string ByteArray.empty, Value.int .i64 0, Value.bool false, Value.int .i64 1, Value.int .i64 0, Value.slice none 0 0]).toArray 34 (0, 0)), (some b4, .cells #[Value.string v7.1.vName, Value.int .i64 v7.1.vType, Value.int .i64 v7.1.vAt] 36 (0, 0)), ((some b3), .cells ([Value.string (⟨#[116, 95, 110, 97, 109, 101]⟩ : ByteArray)]).toArray 9 (0, 0)), (some b2, .cells #[Value.string v4.1.vName, Value.int .i64 v4.1.vType, Value.int .i64 v4.1.vAt] 36 (0, 0)), (some b1, .cells #[Value.slice Av1_0_0 v1.vDefs.length cv1_0_0] 24 (0, 0))]) rfl rfl Tryd.sizeOf24 rfl rfl (by decide) rfl HS25 rfl (Nat.le_of_ble_eq_true rfl) rfl rfl ?_
    intro w23 HS26
    refine run_frame (by simp only [List.set_cons_zero, List.set_cons_succ]; rfl) ?_
    refine run_same (v := Value.slice Av8_1_0 v8.2.1.length cv8_1_0) rfl rfl (r_assign rfl) ?_
    refine run_same (v := Value.int .i64 v8.2.2) rfl rfl (r_assign rfl) ?_
    try simp only [List.set_cons_zero, List.set_cons_succ]
    refine run_nil ?_
    refine norm_then ?_
    refine wp_seq ?_
    refine region ?_
    refine run_same (v := Value.agg #[Value.slice none 0 0]) rfl rfl (r_build0 (cs := [Value.slice none 0 0]) Tryd.zeroValue24 Tryd.runUnderlying24 (pl := #[(0, 1)]) (fun w => by simp [Tryd.sizeOf22]) rfl) ?_
    obtain ⟨v9, H9, H⟩ := of_bind H
    refine run_ex rfl rfl (does_call Tryd.call37 rfl (gives_in (h := h3) (R := (fun hx u => ∃ (Av9_0_0 : Option Addr) (cv9_0_0 : Nat), u = Value.tuple #[Value.slice Av9_0_0 v9.1.length cv9_0_0, Value.int .i64 v9.2] ∧ v9.1.length ≤ cv9_0_0 ∧ Rd (Kd.int .u8) hx Av9_0_0 v9.1)) (Ext.rfl' w23) ((ctf_Encode.calls k (⟨[]⟩ : api_Types) none 0 HS26.sees (Rd.nil _ _ _) (Nat.le_refl 0) H9).mono ?_)) rfl) ?_
    · rintro _ _ ⟨h1, Av9_0_0, cv9_0_0, rfl, hcv9_0_0, hrv9_0_0, g, ss, x⟩
      exact ⟨h1, _, rfl, ⟨Av9_0_0, cv9_0_0, rfl, hcv9_0_0, hrv9_0_0⟩, g, ss, x⟩
    rintro w24 _ hE14 ⟨h4, ⟨Av9_0_0, cv9_0_0, rfl, hcv9_0_0, hrv9_0_0⟩, gr3, se4⟩
    have HS27 := HS26.view hE14 gr3 se4
    replace hrv1_0_0 : Rd k_api_Def h4 Av1_0_0 v1.vDefs := hrv1_0_0.ext gr3.1
    replace rdp1 : Rd k_api_Def h4 (rowA ob2) ((([] : List api_Def) ++ v1.vDefs) ++ ([(⟨2, ByteArray.empty, (⟨0, false⟩ : api_Int), 1, 0, []⟩ : api_Def)] : List api_Def)) := rdp1.ext gr3.1
    replace hrv8_0_0 : Rd k_api_Def h4 Av8_0_0 v8.1.vDefs := hrv8_0_0.ext gr3.1
    replace hrv8_1_0 : Rd (Kd.int .i64) h4 Av8_1_0 v8.2.1 := hrv8_1_0.ext gr3.1
    replace ho4 := ho4.view gr3.1
    replace ho1 := ho1.view gr3.1
    refine run_same (v := Value.tuple #[Value.slice Av9_0_0 v9.1.length cv9_0_0, Value.int .i64 v9.2]) rfl rfl (r_move rfl) ?_
    refine run_same (v := Value.slice Av9_0_0 v9.1.length cv9_0_0) rfl rfl (r_extract rfl rfl) ?_
    refine run_frame (by simp only [List.set_cons_zero, List.set_cons_succ]; rfl) ?_
    refine run_same (v := Value.int .i64 v9.2) rfl rfl (r_extract rfl rfl) ?_
    refine run_same (v := Value.slice Av9_0_0 v9.1.length cv9_0_0) rfl rfl (r_assign rfl) ?_
    refine run_same (v := Value.int .i64 v9.2) rfl rfl (r_assign rfl) ?_
    try simp only [List.set_cons_zero, List.set_cons_succ]
    refine run_nil ?_
    refine norm_then ?_
    refine wp_seq ?_
    refine region ?_
    refine run_same (v := Value.int .i64 v7.2) rfl rfl (r_move rfl) ?_
    refine run_same (v := Value.bool (v7.2 == 5)) rfl rfl (r_bin rfl rfl rfl) ?_
    refine run_same (v := Value.bool (v7.2 == 5)) rfl rfl (r_move rfl) ?_
    refine run_g_same (b := (v7.2 == 5)) (c := true) (v := Value.int .i64 v8.2.2) rfl rfl rfl rfl (fun hg => (r_move rfl)) ?_
    refine run_frame (by simp only [List.set_cons_zero, List.set_cons_succ]; rfl) ?_
    refine run_g_same (b := (v7.2 == 5)) (c := true) (v := Value.bool (v8.2.2 == 0)) rfl rfl rfl rfl (fun hg => (r_bin ((show _ = gv (true && ((v7.2 == 5) == true)) (Value.int .i64 v8.2.2) from rfl).trans (gv_t hg)) rfl rfl)) ?_
    refine run_same (v := Value.bool ((v7.2 == 5) && (v8.2.2 == 0))) rfl rfl (r_pick_and rfl (fun hp => ((show _ = gv (true && ((v7.2 == 5) == true)) (Value.bool (v8.2.2 == 0)) from rfl).trans (gv_t (and_i rfl hp)))) rfl) ?_
    refine run_same (v := Value.bool ((v7.2 == 5) && (v8.2.2 == 0))) rfl rfl (r_move rfl) ?_
    refine run_g_same (b := ((v7.2 == 5) && (v8.2.2 == 0))) (c := true) (v := Value.agg #[Value.slice Av8_0_0 v8.1.vDefs.length cv8_0_0]) rfl rfl rfl rfl (fun hg => (r_loadBoxAgg (n := 1) (vs := [Value.slice Av8_0_0 v8.1.vDefs.length cv8_0_0]) rfl Tryd.isAgg24 (HS27.look 0 rfl) Tryd.sizeOf24 rfl rfl)) ?_
    refine run_frame (by simp only [List.set_cons_zero, List.set_cons_succ]; rfl) ?_
    refine run_g_same (b := ((v7.2 == 5) && (v8.2.2 == 0))) (c := true) (v := Value.agg #[Value.slice Av1_0_0 v1.vDefs.length cv1_0_0]) rfl rfl rfl rfl (fun hg => (r_loadBoxAgg (n := 1) (vs := [Value.slice Av1_0_0 v1.vDefs.length cv1_0_0]) rfl Tryd.isAgg24 (HS27.look 6 rfl) Tryd.sizeOf24 rfl rfl)) ?_
    obtain ⟨v10, H10, H⟩ := of_bind H
    refine run_g (b := ((v7.2 == 5) && (v8.2.2 == 0))) (c := true) (v := Value.bool v10) rfl rfl rfl rfl (fun hg => (does_call_eq Tryd.call30 rfl (map2 ((show _ = gv (true && (((v7.2 == 5) && (v8.2.2 == 0)) == true)) (Value.agg #[Value.slice Av8_0_0 v8.1.vDefs.length cv8_0_0]) from rfl).trans (gv_t hg)) ((show _ = gv (true && (((v7.2 == 5) && (v8.2.2 == 0)) == true)) (Value.agg #[Value.slice Av1_0_0 v1.vDefs.length cv1_0_0]) from rfl).trans (gv_t hg))) (taplineref08_Same.calls k v8.1 v1 Av8_0_0 cv8_0_0 Av1_0_0 cv1_0_0 HS27.sees hrv8_0_0 hcv8_0_0 hrv1_0_0 hcv1_0_0 (of_pos H10 hg)))) ?_
    intro w25 hE15
    have HS28 := HS27.step hE15
    refine run_same (v := Value.bool (((v7.2 == 5) && (v8.2.2 == 0)) && v10)) rfl rfl (r_pick_and rfl (fun hp => ((show _ = gv (true && (((v7.2 == 5) && (v8.2.2 == 0)) == true)) (Value.bool v10) from rfl).trans (gv_t (and_i rfl hp)))) rfl) ?_
    refine run_same (v := Value.bool (((v7.2 == 5) && (v8.2.2 == 0)) && v10)) rfl rfl (r_move rfl) ?_
    refine run_frame (by simp only [List.set_cons_zero, List.set_cons_succ]; rfl) ?_
    refine run_g_same (b := (((v7.2 == 5) && (v8.2.2 == 0)) && v10)) (c := true) (v := Value.slice Av8_1_0 v8.2.1.length cv8_1_0) rfl rfl rfl rfl (fun hg => (r_move rfl)) ?_
    refine run_gbs (b := (((v7.2 == 5) && (v8.2.2 == 0)) && v10)) (c := true) (Kd.int .i64) (xs := ([0, 1, 2, 3, 4, 2] : List Int)) (n := 6) (cs := [Value.int .i64 0, Value.int .i64 1, Value.int .i64 2, Value.int .i64 3, Value.int .i64 4, Value.int .i64 2]) rfl rfl Tryd.runUnderlying62 Tryd.typeInfo3 Tryd.zeroValue3 rfl rfl (by decide) (by decide) (by decide) [Value.int .i64 0, Value.int .i64 1, Value.int .i64 2, Value.int .i64 3, Value.int .i64 4, Value.int .i64 2] (fun _ => parts_any.trans rfl) rfl rfl rfl rfl (elems_cons (qs := [Value.int .i64 0]) rfl (elems_cons (qs := [Value.int .i64 1]) rfl (elems_cons (qs := [Value.int .i64 2]) rfl (elems_cons (qs := [Value.int .i64 3]) rfl (elems_cons (qs := [Value.int .i64 4]) rfl (elems_cons (qs := [Value.int .i64 2]) rfl (elems_nil (cs := [])))))))) HS28 ?_
    intro w26 h5 Ag1 HS29 hs3 hq1
    replace hrv1_0_0 : Rd k_api_Def h5 Av1_0_0 v1.vDefs := hrv1_0_0.ext (And.intro hs3 trivial).1
    replace rdp1 : Rd k_api_Def h5 (rowA ob2) ((([] : List api_Def) ++ v1.vDefs) ++ ([(⟨2, ByteArray.empty, (⟨0, false⟩ : api_Int), 1, 0, []⟩ : api_Def)] : List api_Def)) := rdp1.ext (And.intro hs3 trivial).1
    replace hrv8_0_0 : Rd k_api_Def h5 Av8_0_0 v8.1.vDefs := hrv8_0_0.ext (And.intro hs3 trivial).1
    replace hrv8_1_0 : Rd (Kd.int .i64) h5 Av8_1_0 v8.2.1 := hrv8_1_0.ext (And.intro hs3 trivial).1
    replace hrv9_0_0 : Rd (Kd.int .u8) h5 Av9_0_0 v9.1 := hrv9_0_0.ext (And.intro hs3 trivial).1
    replace ho4 := ho4.view (And.intro hs3 trivial).1
    replace ho1 := ho1.view (And.intro hs3 trivial).1
    obtain ⟨v11, H11, H⟩ := of_bind H
    refine run_g (b := (((v7.2 == 5) && (v8.2.2 == 0)) && v10)) (c := true) (v := Value.bool v11) rfl rfl rfl rfl (fun hg => (does_call_eq Tryd.call35 rfl (map2 ((show _ = gv (true && ((((v7.2 == 5) && (v8.2.2 == 0)) && v10) == true)) (Value.slice Av8_1_0 v8.2.1.length cv8_1_0) from rfl).trans (gv_t hg)) ((show _ = gv (true && ((((v7.2 == 5) && (v8.2.2 == 0)) && v10) == true)) (Value.slice Ag1 ([0, 1, 2, 3, 4, 2] : List Int).length 6) from rfl).trans (gv_t hg))) (taplineref08_SameInts.calls k v8.2.1 ([0, 1, 2, 3, 4, 2] : List Int) Av8_1_0 cv8_1_0 Ag1 6 HS29.sees hrv8_1_0 hcv8_1_0 ((hq1 hg)) ((Nat.le_refl _)) (of_pos H11 hg)))) ?_
    intro w27 hE16
    have HS30 := HS29.step hE16
    refine run_same (v := Value.bool ((((v7.2 == 5) && (v8.2.2 == 0)) && v10) && v11)) rfl rfl (r_pick_and rfl (fun hp => ((show _ = gv (true && ((((v7.2 == 5) && (v8.2.2 == 0)) && v10) == true)) (Value.bool v11) from rfl).trans (gv_t (and_i rfl hp)))) rfl) ?_
    refine run_frame (by simp only [List.set_cons_zero, List.set_cons_succ]; rfl) ?_
    refine run_same (v := Value.bool ((((v7.2 == 5) && (v8.2.2 == 0)) && v10) && v11)) rfl rfl (r_move rfl) ?_
    refine run_g_same (b := ((((v7.2 == 5) && (v8.2.2 == 0)) && v10) && v11)) (c := true) (v := Value.int .i64 v9.2) rfl rfl rfl rfl (fun hg => (r_move rfl)) ?_
    refine run_g_same (b := ((((v7.2 == 5) && (v8.2.2 == 0)) && v10) && v11)) (c := true) (v := Value.bool (v9.2 == 0)) rfl rfl rfl rfl (fun hg => (r_bin ((show _ = gv (true && (((((v7.2 == 5) && (v8.2.2 == 0)) && v10) && v11) == true)) (Value.int .i64 v9.2) from rfl).trans (gv_t hg)) rfl rfl)) ?_
    refine run_same (v := Value.bool (((((v7.2 == 5) && (v8.2.2 == 0)) && v10) && v11) && (v9.2 == 0))) rfl rfl (r_pick_and rfl (fun hp => ((show _ = gv (true && (((((v7.2 == 5) && (v8.2.2 == 0)) && v10) && v11) == true)) (Value.bool (v9.2 == 0)) from rfl).trans (gv_t (and_i rfl hp)))) rfl) ?_
    refine run_frame (by simp only [List.set_cons_zero, List.set_cons_succ]; rfl) ?_
    refine run_same (v := Value.bool (((((v7.2 == 5) && (v8.2.2 == 0)) && v10) && v11) && (v9.2 == 0))) rfl rfl (r_move rfl) ?_
    refine run_g_same (b := (((((v7.2 == 5) && (v8.2.2 == 0)) && v10) && v11) && (v9.2 == 0))) (c := true) (v := Value.slice Av9_0_0 v9.1.length cv9_0_0) rfl rfl rfl rfl (fun hg => (r_move rfl)) ?_
    refine run_g_same (b := (((((v7.2 == 5) && (v8.2.2 == 0)) && v10) && v11) && (v9.2 == 0))) (c := true) (v := Value.string (strOf v9.1)) rfl rfl rfl rfl (fun hg => (r_b2s ((show _ = gv (true && ((((((v7.2 == 5) && (v8.2.2 == 0)) && v10) && v11) && (v9.2 == 0)) == true)) (Value.slice Av9_0_0 v9.1.length cv9_0_0) from rfl).trans (gv_t hg)) Tryd.runUnderlying80 Tryd.runUnderlying9 Tryd.runUnderlying5 HS30.sees hrv9_0_0)) ?_
    refine run_g_same (b := (((((v7.2 == 5) && (v8.2.2 == 0)) && v10) && v11) && (v9.2 == 0))) (c := true) (v := Value.bool (strEq (strOf v9.1) (⟨#[67, 84, 70, 1, 0]⟩ : ByteArray))) rfl rfl rfl rfl (fun hg => (r_streql ((show _ = gv (true && ((((((v7.2 == 5) && (v8.2.2 == 0)) && v10) && v11) && (v9.2 == 0)) == true)) (Value.string (strOf v9.1)) from rfl).trans (gv_t hg)) rfl)) ?_
    refine run_frame (by simp only [List.set_cons_zero, List.set_cons_succ]; rfl) ?_
    refine run_same (v := Value.bool ((((((v7.2 == 5) && (v8.2.2 == 0)) && v10) && v11) && (v9.2 == 0)) && (strEq (strOf v9.1) (⟨#[67, 84, 70, 1, 0]⟩ : ByteArray)))) rfl rfl (r_pick_and rfl (fun hp => ((show _ = gv (true && ((((((v7.2 == 5) && (v8.2.2 == 0)) && v10) && v11) && (v9.2 == 0)) == true)) (Value.bool (strEq (strOf v9.1) (⟨#[67, 84, 70, 1, 0]⟩ : ByteArray))) from rfl).trans (gv_t (and_i rfl hp)))) rfl) ?_
    refine run_same (v := Value.bool ((((((v7.2 == 5) && (v8.2.2 == 0)) && v10) && v11) && (v9.2 == 0)) && (strEq (strOf v9.1) (⟨#[67, 84, 70, 1, 0]⟩ : ByteArray)))) rfl rfl (r_assign rfl) ?_
    try simp only [List.set_cons_zero, List.set_cons_succ]
    refine run_nil ?_
    refine norm_then ?_
    refine wp_ret ?_
    obtain rfl := Option.some.inj H
    refine bodyPost_ret (results_1 rfl (one_tmp rfl)) rfl ?_
    exact ⟨rfl, HS30.toE⟩

end Go.Proofs.YtfjppgobidjndaaDoor
namespace Go.Proofs.YtfjppgobidjndaaDoor
open Go.RowKit Go.M
def taplinelaw08_CtfMembers.l0 (k : Nat) (a0 : api_Types) (a1 : Int) (v2 : Int × Int) (v3 : Int × Int) : Nat → Int → Int → Option ((Bool) ⊕ (Unit))
  | 0, _, _ => none
  | m + 1, y1_0, y1_1 => if 0 ≤ v3.1 ∧ v3.1 < a0.vDefs.length then (if (true && ((decide (y1_1 < (((rd z_api_Def a0.vDefs v3.1).vFields).length : Int))) == true)) = true → (0 ≤ v3.1 ∧ v3.1 < a0.vDefs.length) then (if ((decide (y1_1 < (((rd z_api_Def a0.vDefs v3.1).vFields).length : Int))) && ((rd z_api_Def a0.vDefs v3.1).vKind == 4)) = true then (if 0 ≤ v3.1 ∧ v3.1 < a0.vDefs.length then (if 0 ≤ y1_1 ∧ y1_1 < ((rd z_api_Def a0.vDefs v3.1).vFields).length then ((ctf_Member.f k a0 a1 ((rd z_api_Field ((rd z_api_Def a0.vDefs v3.1).vFields) y1_1).vName)).bind fun v4 => ((ctf_Size.f k a0 v4.1.vType).bind fun v5 => (if ((((v4.2 != 0) || (v5.2 != 0)) || (decide (v4.1.vAt < y1_0))) || (decide ((IntKind.wrap .i64 (v4.1.vAt + v5.1)) > v2.1))) = true then (some (.inl false)) else (taplinelaw08_CtfMembers.l0 k a0 a1 v2 v3 m (IntKind.wrap .i64 (v4.1.vAt + v5.1)) (IntKind.wrap .i64 (y1_1 + 1)))))) else none) else none) else (some (.inr ()))) else none) else none
def taplinelaw08_CtfMembers.f (k : Nat) (a0 : api_Types) (a1 : Int) (a2 : List ByteArray) : Option (Bool) := (taplinelaw08_sane.f k).bind fun v1 => ((ctf_Size.f k a0 a1).bind fun v2 => ((ctf_Resolve.f k a0 a1).bind fun v3 => (if ((v2.2 != 0) || (v3.2 != 0)) = true then (some (v1 && (v2.2 == v3.2))) else (if ((decide (v3.1 < 0)) || (decide (v3.1 ≥ (a0.vDefs.length : Int)))) = true then (some false) else ((taplinelaw08_CtfMembers.l0 k a0 a1 v2 v3 k 0 0).bind fun xx1 => (match xx1 with | .inl r => some r | .inr s1 => if (((a2.length : Int) == 0) || (decide ((a2.length : Int) > 16))) = true then (some v1) else ((ctf_Path.f k a0 a1 a2).bind fun v6 => (if 0 ≤ (1 : Int) ∧ (1 : Int) ≤ (a2.length : Int) then ((ctf_Path.f k a0 a1 (List.take (1 : Int).toNat a2)).bind fun v7 => (if (v7.2.2 != 0) = true then (some (v1 && (v6.2.2 == v7.2.2))) else (if 0 ≤ (1 : Int) ∧ (1 : Int) ≤ (a2.length : Int) then ((ctf_Path.f k a0 v7.1 (List.drop (1 : Int).toNat a2)).bind fun v8 => (some ((v1 && (v6.2.2 == v8.2.2)) && ((v6.2.2 != 0) || ((v6.1 == v8.1) && (v6.2.1 == (IntKind.wrap .i64 (v7.2.1 + v8.2.1)))))))) else none))) else none))))))))
set_option maxRecDepth 20000 in
set_option maxHeartbeats 4000000 in
theorem taplinelaw08_CtfMembers.calls (k : Nat) (a0 : api_Types) (a1 : Int) (a2 : List ByteArray) (A0_0 : Option Addr) (c0_0 : Nat) (A2_0 : Option Addr) (c2_0 : Nat) {h0 : View} {w0 : World} (hv : Sees h0 w0) (ht : Tab w0) (hr0_0 : Rd k_api_Def h0 A0_0 a0.vDefs) (hc0_0 : a0.vDefs.length ≤ c0_0) (hr2_0 : Rd Kd.str h0 A2_0 a2) (hc2_0 : a2.length ≤ c2_0) {r : Bool} (H : taplinelaw08_CtfMembers.f k a0 a1 a2 = some r) : Calls Tryd.prog 3 #[Value.agg #[Value.slice A0_0 a0.vDefs.length c0_0], Value.int .i64 a1, Value.slice A2_0 a2.length c2_0] w0 (fun e w1 => e = .returned (Value.bool r) ∧ Ext w0 w1) := by
  unfold taplinelaw08_CtfMembers.f at H
  have HS : St [] h0 w0 h0 [] w0 := St.init hv
  go_enter Tryd.func3, Tryd.ntmps3
  refine wp_seq ?_
  refine region ?_
  refine run_ex rfl rfl (does_box (cs := #[Value.slice A0_0 a0.vDefs.length c0_0]) rfl rfl) ?_
  rintro w1 _ hE1 ⟨b1, rfl, ge1, hb1⟩
  have HS1 := HS.new hE1 ge1 hb1
  refine run_same (v := Value.bool false) rfl rfl (r_assign rfl) ?_
  try simp only [List.set_cons_zero, List.set_cons_succ]
  refine run_nil ?_
  refine norm_then ?_
  refine wp_seq ?_
  refine region ?_
  obtain ⟨v1, H1, H⟩ := of_bind H
  refine run_eq (v := Value.bool v1) rfl rfl (does_call_eq Tryd.call13 rfl rfl (taplinelaw08_sane.calls k HS1.sees (ht.s HS1) H1)) ?_
  intro w2 hE2
  have HS2 := HS1.step hE2
  refine run_same (v := Value.bool v1) rfl rfl (r_assign rfl) ?_
  try simp only [List.set_cons_zero, List.set_cons_succ]
  refine run_nil ?_
  refine norm_then ?_
  refine wp_seq ?_
  refine region ?_
  refine run_same (v := Value.agg #[Value.slice A0_0 a0.vDefs.length c0_0]) rfl rfl (r_loadBoxAgg (n := 1) (vs := [Value.slice A0_0 a0.vDefs.length c0_0]) rfl Tryd.isAgg24 (HS2.look 0 rfl) Tryd.sizeOf24 rfl rfl) ?_
  refine run_same (v := Value.int .i64 a1) rfl rfl (r_move rfl) ?_
  obtain ⟨v2, H2, H⟩ := of_bind H
  refine run_eq (v := Value.tuple #[Value.int .i64 v2.1, Value.int .i64 v2.2]) rfl rfl (does_call_eq Tryd.call14 rfl rfl (ctf_Size.calls k a0 a1 A0_0 c0_0 HS2.sees hr0_0 hc0_0 H2)) ?_
  intro w3 hE3
  have HS3 := HS2.step hE3
  refine run_same (v := Value.tuple #[Value.int .i64 v2.1, Value.int .i64 v2.2]) rfl rfl (r_move rfl) ?_
  refine run_frame (by simp only [List.set_cons_zero, List.set_cons_succ]; rfl) ?_
  refine run_same (v := Value.int .i64 v2.1) rfl rfl (r_extract rfl rfl) ?_
  refine run_same (v := Value.int .i64 v2.2) rfl rfl (r_extract rfl rfl) ?_
  refine run_same (v := Value.int .i64 v2.1) rfl rfl (r_assign rfl) ?_
  refine run_same (v := Value.int .i64 v2.2) rfl rfl (r_assign rfl) ?_
  try simp only [List.set_cons_zero, List.set_cons_succ]
  refine run_nil ?_
  refine norm_then ?_
  refine wp_seq ?_
  refine region ?_
  refine run_same (v := Value.agg #[Value.slice A0_0 a0.vDefs.length c0_0]) rfl rfl (r_loadBoxAgg (n := 1) (vs := [Value.slice A0_0 a0.vDefs.length c0_0]) rfl Tryd.isAgg24 (HS3.look 0 rfl) Tryd.sizeOf24 rfl rfl) ?_
  refine run_same (v := Value.int .i64 a1) rfl rfl (r_move rfl) ?_
  obtain ⟨v3, H3, H⟩ := of_bind H
  refine run_eq (v := Value.tuple #[Value.int .i64 v3.1, Value.int .i64 v3.2]) rfl rfl (does_call_eq Tryd.call15 rfl rfl (ctf_Resolve.calls k a0 a1 A0_0 c0_0 HS3.sees hr0_0 hc0_0 H3)) ?_
  intro w4 hE4
  have HS4 := HS3.step hE4
  refine run_same (v := Value.tuple #[Value.int .i64 v3.1, Value.int .i64 v3.2]) rfl rfl (r_move rfl) ?_
  refine run_frame (by simp only [List.set_cons_zero, List.set_cons_succ]; rfl) ?_
  refine run_same (v := Value.int .i64 v3.1) rfl rfl (r_extract rfl rfl) ?_
  refine run_same (v := Value.int .i64 v3.2) rfl rfl (r_extract rfl rfl) ?_
  refine run_same (v := Value.int .i64 v3.1) rfl rfl (r_assign rfl) ?_
  refine run_same (v := Value.int .i64 v3.2) rfl rfl (r_assign rfl) ?_
  try simp only [List.set_cons_zero, List.set_cons_succ]
  refine run_nil ?_
  refine norm_then ?_
  refine wp_seq ?_
  refine wp_seq ?_
  refine region ?_
  refine run_same (v := Value.int .i64 v2.2) rfl rfl (r_move rfl) ?_
  refine run_same (v := Value.bool (v2.2 != 0)) rfl rfl (r_bin rfl rfl rfl) ?_
  refine run_same (v := Value.bool (v2.2 != 0)) rfl rfl (r_move rfl) ?_
  refine run_g_same (b := (v2.2 != 0)) (c := true) (v := Value.int .i64 v3.2) rfl rfl rfl rfl (fun hg => (r_move rfl)) ?_
  refine run_frame (by simp only [List.set_cons_zero, List.set_cons_succ]; rfl) ?_
  refine run_g_same (b := (v2.2 != 0)) (c := true) (v := Value.bool (v3.2 != 0)) rfl rfl rfl rfl (fun hg => (r_bin ((show _ = gv (true && ((v2.2 != 0) == false)) (Value.int .i64 v3.2) from rfl).trans (gv_t hg)) rfl rfl)) ?_
  refine run_same (v := Value.bool ((v2.2 != 0) || (v3.2 != 0))) rfl rfl (r_pick_or rfl rfl (fun hp => ((show _ = gv (true && ((v2.2 != 0) == false)) (Value.bool (v3.2 != 0)) from rfl).trans (gv_t (and_i rfl hp))))) ?_
  try simp only [List.set_cons_zero, List.set_cons_succ]
  refine run_nil ?_
  refine norm_then ?_
  refine wp_cond_split (t := ((v2.2 != 0) || (v3.2 != 0))) rfl (fun c1 => ?_) (fun c1 => ?_)
  · replace H := of_pos H c1
    refine wp_seq ?_
    refine region ?_
    refine run_same (v := Value.bool v1) rfl rfl (r_move rfl) ?_
    refine run_same (v := Value.bool v1) rfl rfl (r_move rfl) ?_
    refine run_g_same (b := v1) (c := true) (v := Value.int .i64 v2.2) rfl rfl rfl rfl (fun hg => (r_move rfl)) ?_
    refine run_g_same (b := v1) (c := true) (v := Value.int .i64 v3.2) rfl rfl rfl rfl (fun hg => (r_move rfl)) ?_
    refine run_frame (by simp only [List.set_cons_zero, List.set_cons_succ]; rfl) ?_
    refine run_g_same (b := v1) (c := true) (v := Value.bool (v2.2 == v3.2)) rfl rfl rfl rfl (fun hg => (r_bin ((show _ = gv (true && (v1 == true)) (Value.int .i64 v2.2) from rfl).trans (gv_t hg)) ((show _ = gv (true && (v1 == true)) (Value.int .i64 v3.2) from rfl).trans (gv_t hg)) rfl)) ?_
    refine run_same (v := Value.bool (v1 && (v2.2 == v3.2))) rfl rfl (r_pick_and rfl (fun hp => ((show _ = gv (true && (v1 == true)) (Value.bool (v2.2 == v3.2)) from rfl).trans (gv_t (and_i rfl hp)))) rfl) ?_
    refine run_same (v := Value.bool (v1 && (v2.2 == v3.2))) rfl rfl (r_assign rfl) ?_
    try simp only [List.set_cons_zero, List.set_cons_succ]
    refine run_nil ?_
    refine norm_then ?_
    refine wp_ret ?_
    refine ret_then ?_
    obtain rfl := Option.some.inj H
    refine bodyPost_ret (results_1 rfl (one_tmp rfl)) rfl ?_
    exact ⟨rfl, HS4.toE⟩
  · replace H := of_neg H (nt c1)
    refine wp_skip ?_
    refine norm_then ?_
    refine wp_seq ?_
    refine wp_seq ?_
    refine region ?_
    refine run_same (v := Value.int .i64 v3.1) rfl rfl (r_move rfl) ?_
    refine run_same (v := Value.bool (decide (v3.1 < 0))) rfl rfl (r_bin rfl rfl rfl) ?_
    refine run_same (v := Value.bool (decide (v3.1 < 0))) rfl rfl (r_move rfl) ?_
    refine run_g_same (b := (decide (v3.1 < 0))) (c := true) (v := Value.int .i64 v3.1) rfl rfl rfl rfl (fun hg => (r_move rfl)) ?_
    refine run_frame (by simp only [List.set_cons_zero, List.set_cons_succ]; rfl) ?_
    refine run_g_same (b := (decide (v3.1 < 0))) (c := true) (v := Value.pointer (some ⟨b1, 0, none⟩)) rfl rfl rfl rfl (fun hg => (r_fieldBox (n := 1) (o' := 0) rfl Tryd.runUnderlying24 rfl Tryd.sizeOf22 (by decide) rfl)) ?_
    refine run_g_same (b := (decide (v3.1 < 0))) (c := true) (v := Value.slice A0_0 a0.vDefs.length c0_0) rfl rfl rfl rfl (fun hg => (r_loadBox ((show _ = gv (true && ((decide (v3.1 < 0)) == false)) (Value.pointer (some ⟨b1, 0, none⟩)) from rfl).trans (gv_t hg)) Tryd.isAgg22 (HS4.look 0 rfl) rfl)) ?_
    refine run_g_same (b := (decide (v3.1 < 0))) (c := true) (v := Value.int .i64 (a0.vDefs.length : Int)) rfl rfl rfl rfl (fun hg => (r_len ((show _ = gv (true && ((decide (v3.1 < 0)) == false)) (Value.slice A0_0 a0.vDefs.length c0_0) from rfl).trans (gv_t hg)) Tryd.runUnderlying22)) ?_
    refine run_g_same (b := (decide (v3.1 < 0))) (c := true) (v := Value.bool (decide (v3.1 ≥ (a0.vDefs.length : Int)))) rfl rfl rfl rfl (fun hg => (r_bin ((show _ = gv (true && ((decide (v3.1 < 0)) == false)) (Value.int .i64 v3.1) from rfl).trans (gv_t hg)) ((show _ = gv (true && ((decide (v3.1 < 0)) == false)) (Value.int .i64 (a0.vDefs.length : Int)) from rfl).trans (gv_t hg)) rfl)) ?_
    refine run_frame (by simp only [List.set_cons_zero, List.set_cons_succ]; rfl) ?_
    refine run_same (v := Value.bool ((decide (v3.1 < 0)) || (decide (v3.1 ≥ (a0.vDefs.length : Int))))) rfl rfl (r_pick_or rfl rfl (fun hp => ((show _ = gv (true && ((decide (v3.1 < 0)) == false)) (Value.bool (decide (v3.1 ≥ (a0.vDefs.length : Int)))) from rfl).trans (gv_t (and_i rfl hp))))) ?_
    try simp only [List.set_cons_zero, List.set_cons_succ]
    refine run_nil ?_
    refine norm_then ?_
    refine wp_cond_split (t := ((decide (v3.1 < 0)) || (decide (v3.1 ≥ (a0.vDefs.length : Int))))) rfl (fun c2 => ?_) (fun c2 => ?_)
    · replace H := of_pos H c2
      refine wp_seq ?_
      refine region ?_
      refine run_same (v := Value.bool false) rfl rfl (r_assign rfl) ?_
      try simp only [List.set_cons_zero, List.set_cons_succ]
      refine run_nil ?_
      refine norm_then ?_
      refine wp_ret ?_
      refine ret_then ?_
      obtain rfl := Option.some.inj H
      refine bodyPost_ret (results_1 rfl (one_tmp rfl)) rfl ?_
      exact ⟨rfl, HS4.toE⟩
    · replace H := of_neg H (nt c2)
      refine wp_skip ?_
      refine norm_then ?_
      refine wp_seq ?_
      refine region ?_
      refine run_same (v := Value.int .i64 0) rfl rfl (r_assign rfl) ?_
      try simp only [List.set_cons_zero, List.set_cons_succ]
      refine run_nil ?_
      refine norm_then ?_
      refine wp_seq ?_
      refine wp_seq ?_
      refine region ?_
      refine run_same (v := Value.int .i64 0) rfl rfl (r_assign rfl) ?_
      try simp only [List.set_cons_zero, List.set_cons_succ]
      refine run_nil ?_
      refine norm_then ?_
      obtain ⟨xx1, H, G1⟩ := of_bind H
      refine loop_patch [6, 12, 13, 14, 15, 16, 17, 61, 62, 63, 64, 65, 66, 67, 68, 69, 70, 71, 72, 73, 74, 75, 76, 77, 78, 79, 80, 81, 82, 83, 84, 85, 86, 87, 88, 89, 90, 91, 92, 93, 94, 95, 96, 97, 98, 99, 100, 101, 102, 103, 104, 105, 106, 107, 108, 109, 110, 111, 112, 113, 114, 115, 116, 117, 118, 119, 120, 121, 122, 123, 124, 125, 126, 127] (fun m us w' => ∃ (y1_0 : Int), ∃ (y1_1 : Int), ∃ (uy1_6 : Value), ∃ (uy1_14 : Value), ∃ (uy1_15 : Value), ∃ (uy1_16 : Value), ∃ (uy1_17 : Value), ∃ (uy1_61 : Value), ∃ (uy1_62 : Value), ∃ (uy1_63 : Value), ∃ (uy1_64 : Value), ∃ (uy1_65 : Value), ∃ (uy1_66 : Value), ∃ (uy1_67 : Value), ∃ (uy1_68 : Value), ∃ (uy1_69 : Value), ∃ (uy1_70 : Value), ∃ (uy1_71 : Value), ∃ (uy1_72 : Value), ∃ (uy1_73 : Value), ∃ (uy1_74 : Value), ∃ (uy1_75 : Value), ∃ (uy1_76 : Value), ∃ (uy1_77 : Value), ∃ (uy1_78 : Value), ∃ (uy1_79 : Value), ∃ (uy1_80 : Value), ∃ (uy1_81 : Value), ∃ (uy1_82 : Value), ∃ (uy1_83 : Value), ∃ (uy1_84 : Value), ∃ (uy1_85 : Value), ∃ (uy1_86 : Value), ∃ (uy1_87 : Value), ∃ (uy1_88 : Value), ∃ (uy1_89 : Value), ∃ (uy1_90 : Value), ∃ (uy1_91 : Value), ∃ (uy1_92 : Value), ∃ (uy1_93 : Value), ∃ (uy1_94 : Value), ∃ (uy1_95 : Value), ∃ (uy1_96 : Value), ∃ (uy1_97 : Value), ∃ (uy1_98 : Value), ∃ (uy1_99 : Value), ∃ (uy1_100 : Value), ∃ (uy1_101 : Value), ∃ (uy1_102 : Value), ∃ (uy1_103 : Value), ∃ (uy1_104 : Value), ∃ (uy1_105 : Value), ∃ (uy1_106 : Value), ∃ (uy1_107 : Value), ∃ (uy1_108 : Value), ∃ (uy1_109 : Value), ∃ (uy1_110 : Value), ∃ (uy1_111 : Value), ∃ (uy1_112 : Value), ∃ (uy1_113 : Value), ∃ (uy1_114 : Value), ∃ (uy1_115 : Value), ∃ (uy1_116 : Value), ∃ (uy1_117 : Value), ∃ (uy1_118 : Value), ∃ (uy1_119 : Value), ∃ (uy1_120 : Value), ∃ (uy1_121 : Value), ∃ (uy1_122 : Value), ∃ (uy1_123 : Value), ∃ (uy1_124 : Value), ∃ (uy1_125 : Value), ∃ (uy1_126 : Value), ∃ (uy1_127 : Value), us = [uy1_6, Value.int .i64 y1_0, Value.int .i64 y1_1, uy1_14, uy1_15, uy1_16, uy1_17, uy1_61, uy1_62, uy1_63, uy1_64, uy1_65, uy1_66, uy1_67, uy1_68, uy1_69, uy1_70, uy1_71, uy1_72, uy1_73, uy1_74, uy1_75, uy1_76, uy1_77, uy1_78, uy1_79, uy1_80, uy1_81, uy1_82, uy1_83, uy1_84, uy1_85, uy1_86, uy1_87, uy1_88, uy1_89, uy1_90, uy1_91, uy1_92, uy1_93, uy1_94, uy1_95, uy1_96, uy1_97, uy1_98, uy1_99, uy1_100, uy1_101, uy1_102, uy1_103, uy1_104, uy1_105, uy1_106, uy1_107, uy1_108, uy1_109, uy1_110, uy1_111, uy1_112, uy1_113, uy1_114, uy1_115, uy1_116, uy1_117, uy1_118, uy1_119, uy1_120, uy1_121, uy1_122, uy1_123, uy1_124, uy1_125, uy1_126, uy1_127] ∧ taplinelaw08_CtfMembers.l0 k a0 a1 v2 v3 m y1_0 y1_1 = some xx1 ∧ St [] h0 w0 h0 [(some b1, .cells #[Value.slice A0_0 a0.vDefs.length c0_0] 24 (0, 0))] w') (fun us w' => ∃ (s1 : Unit), xx1 = .inr s1 ∧ ∃ (uo1_6 : Value), ∃ (uo1_12 : Value), ∃ (uo1_13 : Value), ∃ (uo1_14 : Value), ∃ (uo1_15 : Value), ∃ (uo1_16 : Value), ∃ (uo1_17 : Value), ∃ (uo1_61 : Value), ∃ (uo1_62 : Value), ∃ (uo1_63 : Value), ∃ (uo1_64 : Value), ∃ (uo1_65 : Value), ∃ (uo1_66 : Value), ∃ (uo1_67 : Value), ∃ (uo1_68 : Value), ∃ (uo1_69 : Value), ∃ (uo1_70 : Value), ∃ (uo1_71 : Value), ∃ (uo1_72 : Value), ∃ (uo1_73 : Value), ∃ (uo1_74 : Value), ∃ (uo1_75 : Value), ∃ (uo1_76 : Value), ∃ (uo1_77 : Value), ∃ (uo1_78 : Value), ∃ (uo1_79 : Value), ∃ (uo1_80 : Value), ∃ (uo1_81 : Value), ∃ (uo1_82 : Value), ∃ (uo1_83 : Value), ∃ (uo1_84 : Value), ∃ (uo1_85 : Value), ∃ (uo1_86 : Value), ∃ (uo1_87 : Value), ∃ (uo1_88 : Value), ∃ (uo1_89 : Value), ∃ (uo1_90 : Value), ∃ (uo1_91 : Value), ∃ (uo1_92 : Value), ∃ (uo1_93 : Value), ∃ (uo1_94 : Value), ∃ (uo1_95 : Value), ∃ (uo1_96 : Value), ∃ (uo1_97 : Value), ∃ (uo1_98 : Value), ∃ (uo1_99 : Value), ∃ (uo1_100 : Value), ∃ (uo1_101 : Value), ∃ (uo1_102 : Value), ∃ (uo1_103 : Value), ∃ (uo1_104 : Value), ∃ (uo1_105 : Value), ∃ (uo1_106 : Value), ∃ (uo1_107 : Value), ∃ (uo1_108 : Value), ∃ (uo1_109 : Value), ∃ (uo1_110 : Value), ∃ (uo1_111 : Value), ∃ (uo1_112 : Value), ∃ (uo1_113 : Value), ∃ (uo1_114 : Value), ∃ (uo1_115 : Value), ∃ (uo1_116 : Value), ∃ (uo1_117 : Value), ∃ (uo1_118 : Value), ∃ (uo1_119 : Value), ∃ (uo1_120 : Value), ∃ (uo1_121 : Value), ∃ (uo1_122 : Value), ∃ (uo1_123 : Value), ∃ (uo1_124 : Value), ∃ (uo1_125 : Value), ∃ (uo1_126 : Value), ∃ (uo1_127 : Value), us = [uo1_6, uo1_12, uo1_13, uo1_14, uo1_15, uo1_16, uo1_17, uo1_61, uo1_62, uo1_63, uo1_64, uo1_65, uo1_66, uo1_67, uo1_68, uo1_69, uo1_70, uo1_71, uo1_72, uo1_73, uo1_74, uo1_75, uo1_76, uo1_77, uo1_78, uo1_79, uo1_80, uo1_81, uo1_82, uo1_83, uo1_84, uo1_85, uo1_86, uo1_87, uo1_88, uo1_89, uo1_90, uo1_91, uo1_92, uo1_93, uo1_94, uo1_95, uo1_96, uo1_97, uo1_98, uo1_99, uo1_100, uo1_101, uo1_102, uo1_103, uo1_104, uo1_105, uo1_106, uo1_107, uo1_108, uo1_109, uo1_110, uo1_111, uo1_112, uo1_113, uo1_114, uo1_115, uo1_116, uo1_117, uo1_118, uo1_119, uo1_120, uo1_121, uo1_122, uo1_123, uo1_124, uo1_125, uo1_126, uo1_127] ∧ St [] h0 w0 h0 [(some b1, .cells #[Value.slice A0_0 a0.vDefs.length c0_0] 24 (0, 0))] w') k [Value.bool false, Value.int .i64 0, Value.int .i64 0, undef, undef, undef, undef, undef, undef, undef, undef, undef, undef, undef, undef, undef, undef, undef, undef, undef, undef, undef, undef, undef, undef, undef, undef, undef, undef, undef, undef, undef, undef, undef, undef, undef, undef, undef, undef, undef, undef, undef, undef, undef, undef, undef, undef, undef, undef, undef, undef, undef, undef, undef, undef, undef, undef, undef, undef, undef, undef, undef, undef, undef, undef, undef, undef, undef, undef, undef, undef, undef, undef, undef] (by simp only [patch, List.set_cons_zero, List.set_cons_succ]) ⟨0, 0, _, _, _, _, _, _, _, _, _, _, _, _, _, _, _, _, _, _, _, _, _, _, _, _, _, _, _, _, _, _, _, _, _, _, _, _, _, _, _, _, _, _, _, _, _, _, _, _, _, _, _, _, _, _, _, _, _, _, _, _, _, _, _, _, _, _, _, _, _, _, _, _, rfl, H, HS4⟩ ?_ ?_
      · rintro m us w5 ⟨y1_0, y1_1, uy1_6, uy1_14, uy1_15, uy1_16, uy1_17, uy1_61, uy1_62, uy1_63, uy1_64, uy1_65, uy1_66, uy1_67, uy1_68, uy1_69, uy1_70, uy1_71, uy1_72, uy1_73, uy1_74, uy1_75, uy1_76, uy1_77, uy1_78, uy1_79, uy1_80, uy1_81, uy1_82, uy1_83, uy1_84, uy1_85, uy1_86, uy1_87, uy1_88, uy1_89, uy1_90, uy1_91, uy1_92, uy1_93, uy1_94, uy1_95, uy1_96, uy1_97, uy1_98, uy1_99, uy1_100, uy1_101, uy1_102, uy1_103, uy1_104, uy1_105, uy1_106, uy1_107, uy1_108, uy1_109, uy1_110, uy1_111, uy1_112, uy1_113, uy1_114, uy1_115, uy1_116, uy1_117, uy1_118, uy1_119, uy1_120, uy1_121, uy1_122, uy1_123, uy1_124, uy1_125, uy1_126, uy1_127, rfl, H, HS5⟩
        cases m with
        | zero => exact absurd H (by simp [taplinelaw08_CtfMembers.l0])
        | succ m =>
          rw [taplinelaw08_CtfMembers.l0] at H
          try simp only [patch, List.set_cons_zero, List.set_cons_succ]
          refine wp_seq ?_
          refine wp_seq ?_
          refine region ?_
          refine run_same (v := Value.int .i64 y1_1) rfl rfl (r_move rfl) ?_
          refine run_same (v := Value.pointer (some ⟨b1, 0, none⟩)) rfl rfl (r_fieldBox (n := 1) (o' := 0) rfl Tryd.runUnderlying24 rfl Tryd.sizeOf22 (by decide) rfl) ?_
          refine run_same (v := Value.slice A0_0 a0.vDefs.length c0_0) rfl rfl (r_loadBox rfl Tryd.isAgg22 (HS5.look 0 rfl) rfl) ?_
          refine run_same (v := Value.int .i64 v3.1) rfl rfl (r_move rfl) ?_
          refine run_frame (by simp only [List.set_cons_zero, List.set_cons_succ]; rfl) ?_
          obtain ⟨hi1, H⟩ := of_ite H
          obtain ⟨ad1, Aad1_6, cad1_6, e1, hel1, hcad1_6, hrad1_6⟩ := ld_api_Def hr0_0 hi1.1 hi1.2
          refine run_same (v := Value.pointer (some (Addr.add ad1 (v3.1.toNat * 7)))) rfl rfl (r_indexA (sz := 7) rfl e1 rfl hi1.1 hi1.2 Tryd.runUnderlying22 Tryd.sizeOf34) ?_
          refine run_same (v := Value.pointer (some (Addr.add (Addr.add ad1 (v3.1.toNat * 7)) 6))) rfl rfl (r_fieldEl (n := 1) (o' := 6) rfl Tryd.runUnderlying34 rfl Tryd.sizeOf32 (by decide) rfl) ?_
          refine run_same (v := Value.slice Aad1_6 ((rd z_api_Def a0.vDefs v3.1).vFields).length cad1_6) rfl rfl (r_load rfl Tryd.isAgg32 (hel1.cell HS5.sees 6 rfl)) ?_
          refine run_same (v := Value.int .i64 (((rd z_api_Def a0.vDefs v3.1).vFields).length : Int)) rfl rfl (r_len rfl Tryd.runUnderlying32) ?_
          refine run_frame (by simp only [List.set_cons_zero, List.set_cons_succ]; rfl) ?_
          refine run_same (v := Value.bool (decide (y1_1 < (((rd z_api_Def a0.vDefs v3.1).vFields).length : Int)))) rfl rfl (r_bin rfl rfl rfl) ?_
          refine run_same (v := Value.bool (decide (y1_1 < (((rd z_api_Def a0.vDefs v3.1).vFields).length : Int)))) rfl rfl (r_move rfl) ?_
          refine run_g_same (b := (decide (y1_1 < (((rd z_api_Def a0.vDefs v3.1).vFields).length : Int)))) (c := true) (v := Value.pointer (some ⟨b1, 0, none⟩)) rfl rfl rfl rfl (fun hg => (r_fieldBox (n := 1) (o' := 0) rfl Tryd.runUnderlying24 rfl Tryd.sizeOf22 (by decide) rfl)) ?_
          refine run_g_same (b := (decide (y1_1 < (((rd z_api_Def a0.vDefs v3.1).vFields).length : Int)))) (c := true) (v := Value.slice A0_0 a0.vDefs.length c0_0) rfl rfl rfl rfl (fun hg => (r_loadBox ((show _ = gv (true && ((decide (y1_1 < (((rd z_api_Def a0.vDefs v3.1).vFields).length : Int))) == true)) (Value.pointer (some ⟨b1, 0, none⟩)) from rfl).trans (gv_t hg)) Tryd.isAgg22 (HS5.look 0 rfl) rfl)) ?_
          refine run_frame (by simp only [List.set_cons_zero, List.set_cons_succ]; rfl) ?_
          refine run_g_same (b := (decide (y1_1 < (((rd z_api_Def a0.vDefs v3.1).vFields).length : Int)))) (c := true) (v := Value.int .i64 v3.1) rfl rfl rfl rfl (fun hg => (r_move rfl)) ?_
          obtain ⟨hi2, H⟩ := of_ite H
          obtain ⟨ad2, Aad2_6, cad2_6, hq1⟩ := gx3 (fun hC : (true && ((decide (y1_1 < (((rd z_api_Def a0.vDefs v3.1).vFields).length : Int))) == true)) = true => ld_api_Def hr0_0 (hi2 hC).1 (hi2 hC).2)
          refine run_g_same (b := (decide (y1_1 < (((rd z_api_Def a0.vDefs v3.1).vFields).length : Int)))) (c := true) (v := Value.pointer (some (Addr.add ad2 (v3.1.toNat * 7)))) rfl rfl rfl rfl (fun hg => (r_indexA (sz := 7) ((show _ = gv (true && ((decide (y1_1 < (((rd z_api_Def a0.vDefs v3.1).vFields).length : Int))) == true)) (Value.slice A0_0 a0.vDefs.length c0_0) from rfl).trans (gv_t hg)) (hq1 hg).1 ((show _ = gv (true && ((decide (y1_1 < (((rd z_api_Def a0.vDefs v3.1).vFields).length : Int))) == true)) (Value.int .i64 v3.1) from rfl).trans (gv_t hg)) (hi2 hg).1 (hi2 hg).2 Tryd.runUnderlying22 Tryd.sizeOf34)) ?_
          refine run_g_same (b := (decide (y1_1 < (((rd z_api_Def a0.vDefs v3.1).vFields).length : Int)))) (c := true) (v := Value.pointer (some (Addr.add (Addr.add ad2 (v3.1.toNat * 7)) 0))) rfl rfl rfl rfl (fun hg => (r_fieldEl (n := 1) (o' := 0) ((show _ = gv (true && ((decide (y1_1 < (((rd z_api_Def a0.vDefs v3.1).vFields).length : Int))) == true)) (Value.pointer (some (Addr.add ad2 (v3.1.toNat * 7)))) from rfl).trans (gv_t hg)) Tryd.runUnderlying34 rfl Tryd.sizeOf3 (by decide) rfl)) ?_
          refine run_g_same (b := (decide (y1_1 < (((rd z_api_Def a0.vDefs v3.1).vFields).length : Int)))) (c := true) (v := Value.int .i64 ((rd z_api_Def a0.vDefs v3.1).vKind)) rfl rfl rfl rfl (fun hg => (r_load ((show _ = gv (true && ((decide (y1_1 < (((rd z_api_Def a0.vDefs v3.1).vFields).length : Int))) == true)) (Value.pointer (some (Addr.add (Addr.add ad2 (v3.1.toNat * 7)) 0))) from rfl).trans (gv_t hg)) Tryd.isAgg3 (((hq1 hg).2.1).cell HS5.sees 0 rfl))) ?_
          refine run_frame (by simp only [List.set_cons_zero, List.set_cons_succ]; rfl) ?_
          refine run_g_same (b := (decide (y1_1 < (((rd z_api_Def a0.vDefs v3.1).vFields).length : Int)))) (c := true) (v := Value.bool ((rd z_api_Def a0.vDefs v3.1).vKind == 4)) rfl rfl rfl rfl (fun hg => (r_bin ((show _ = gv (true && ((decide (y1_1 < (((rd z_api_Def a0.vDefs v3.1).vFields).length : Int))) == true)) (Value.int .i64 ((rd z_api_Def a0.vDefs v3.1).vKind)) from rfl).trans (gv_t hg)) rfl rfl)) ?_
          refine run_same (v := Value.bool ((decide (y1_1 < (((rd z_api_Def a0.vDefs v3.1).vFields).length : Int))) && ((rd z_api_Def a0.vDefs v3.1).vKind == 4))) rfl rfl (r_pick_and rfl (fun hp => ((show _ = gv (true && ((decide (y1_1 < (((rd z_api_Def a0.vDefs v3.1).vFields).length : Int))) == true)) (Value.bool ((rd z_api_Def a0.vDefs v3.1).vKind == 4)) from rfl).trans (gv_t (and_i rfl hp)))) rfl) ?_
          try simp only [List.set_cons_zero, List.set_cons_succ]
          refine run_nil ?_
          refine norm_then ?_
          refine wp_cond_split (t := ((decide (y1_1 < (((rd z_api_Def a0.vDefs v3.1).vFields).length : Int))) && ((rd z_api_Def a0.vDefs v3.1).vKind == 4))) rfl (fun c3 => ?_) (fun c3 => ?_)
          · replace H := of_pos H c3
            refine wp_skip ?_
            refine norm_then ?_
            refine wp_seq ?_
            refine wp_block ?_
            refine wp_seq ?_
            obtain ⟨hi3, H⟩ := of_ite H
            obtain ⟨ad3, Aad3_6, cad3_6, e3, hel3, hcad3_6, hrad3_6⟩ := ld_api_Def hr0_0 hi3.1 hi3.2
            obtain ⟨hi4, H⟩ := of_ite H
            obtain ⟨ad4, e4, hel4⟩ := ld_api_Field hrad3_6 hi4.1 hi4.2
            obtain ⟨v4, H4, H⟩ := of_bind H
            refine drawn_lazy [.eq (Value.agg #[Value.slice A0_0 a0.vDefs.length c0_0]), .eq (Value.int .i64 a1), .eq (Value.pointer (some ⟨b1, 0, none⟩)), .eq (Value.slice A0_0 a0.vDefs.length c0_0), .eq (Value.int .i64 v3.1), .eq (Value.pointer (some (Addr.add ad3 (v3.1.toNat * 7)))), .eq (Value.pointer (some (Addr.add (Addr.add ad3 (v3.1.toNat * 7)) 6))), .eq (Value.slice Aad3_6 ((rd z_api_Def a0.vDefs v3.1).vFields).length cad3_6), .eq (Value.int .i64 y1_1), .eq (Value.pointer (some (Addr.add ad4 (y1_1.toNat * 3)))), .eq (Value.pointer (some (Addr.add (Addr.add ad4 (y1_1.toNat * 3)) 0))), .eq (Value.string ((rd z_api_Field ((rd z_api_Def a0.vDefs v3.1).vFields) y1_1).vName)), .eq (Value.tuple #[Value.agg #[Value.string v4.1.vName, Value.int .i64 v4.1.vType, Value.int .i64 v4.1.vAt], Value.int .i64 v4.2]), .eq (Value.tuple #[Value.agg #[Value.string v4.1.vName, Value.int .i64 v4.1.vType, Value.int .i64 v4.1.vAt], Value.int .i64 v4.2]), .eq (Value.agg #[Value.string v4.1.vName, Value.int .i64 v4.1.vType, Value.int .i64 v4.1.vAt]), .eq (Value.int .i64 v4.2), .ex (NewBox w5 #[Value.string ByteArray.empty, Value.int .i64 0, Value.int .i64 0] 36)] [82, 83, 84, 85, 86, 87, 88, 89, 90, 91, 92, 93, 94, 81, 95, 96, 14] 15 96 (Value.int .i64 v4.2) _ _ hmix (by kernel_rfl) rfl rfl rfl rfl rfl (stable_eq (stable_eq (stable_eq (stable_eq (stable_eq (stable_eq (stable_eq (stable_eq (stable_eq (stable_eq (stable_eq (stable_eq (stable_eq (stable_eq (stable_eq (stable_eq (stable_ex NewBox.stable stable_nil))))))))))))))))) ⟨ob_plain rfl (fun a' w' hE hk => by have HSd := HS5.step hE; exact does_eq (r_loadBoxAgg (n := 1) (vs := [Value.slice A0_0 a0.vDefs.length c0_0]) (show _ = Value.pointer (some ⟨b1, 0, none⟩) from hk 3 rfl) Tryd.isAgg24 (HSd.look 0 rfl) Tryd.sizeOf24 rfl rfl)), ob_plain rfl (fun a' w' hE hk => by have HSd := HS5.step hE; exact does_eq (r_move (show _ = Value.int .i64 a1 from hk 1 rfl))), ob_plain rfl (fun a' w' hE hk => by have HSd := HS5.step hE; exact does_eq (r_fieldBox (n := 1) (o' := 0) (show _ = Value.pointer (some ⟨b1, 0, none⟩) from hk 3 rfl) Tryd.runUnderlying24 rfl Tryd.sizeOf22 (by decide) rfl)), ob_plain rfl (fun a' w' hE hk => by have HSd := HS5.step hE; exact does_eq (r_loadBox (show _ = Value.pointer (some ⟨b1, 0, none⟩) from hk 84 rfl) Tryd.isAgg22 (HSd.look 0 rfl) rfl)), ob_plain rfl (fun a' w' hE hk => by have HSd := HS5.step hE; exact does_eq (r_move (show _ = Value.int .i64 v3.1 from hk 10 rfl))), ob_plain rfl (fun a' w' hE hk => by have HSd := HS5.step hE; exact does_eq (r_indexA (sz := 7) (show _ = Value.slice A0_0 a0.vDefs.length c0_0 from hk 85 rfl) e3 (show _ = Value.int .i64 v3.1 from hk 86 rfl) hi3.1 hi3.2 Tryd.runUnderlying22 Tryd.sizeOf34)), ob_plain rfl (fun a' w' hE hk => by have HSd := HS5.step hE; exact does_eq (r_fieldEl (n := 1) (o' := 6) (show _ = Value.pointer (some (Addr.add ad3 (v3.1.toNat * 7))) from hk 87 rfl) Tryd.runUnderlying34 rfl Tryd.sizeOf32 (by decide) rfl)), ob_plain rfl (fun a' w' hE hk => by have HSd := HS5.step hE; exact does_eq (r_load (show _ = Value.pointer (some (Addr.add (Addr.add ad3 (v3.1.toNat * 7)) 6)) from hk 88 rfl) Tryd.isAgg32 (hel3.cell HSd.sees 6 rfl))), ob_plain rfl (fun a' w' hE hk => by have HSd := HS5.step hE; exact does_eq (r_move (show _ = Value.int .i64 y1_1 from hk 13 rfl))), ob_plain rfl (fun a' w' hE hk => by have HSd := HS5.step hE; exact does_eq (r_indexA (sz := 3) (show _ = Value.slice Aad3_6 ((rd z_api_Def a0.vDefs v3.1).vFields).length cad3_6 from hk 89 rfl) e4 (show _ = Value.int .i64 y1_1 from hk 90 rfl) hi4.1 hi4.2 Tryd.runUnderlying32 Tryd.sizeOf36)), ob_plain rfl (fun a' w' hE hk => by have HSd := HS5.step hE; exact does_eq (r_fieldEl (n := 1) (o' := 0) (show _ = Value.pointer (some (Addr.add ad4 (y1_1.toNat * 3))) from hk 91 rfl) Tryd.runUnderlying36 rfl Tryd.sizeOf9 (by decide) rfl)), ob_plain rfl (fun a' w' hE hk => by have HSd := HS5.step hE; exact does_eq (r_load (show _ = Value.pointer (some (Addr.add (Addr.add ad4 (y1_1.toNat * 3)) 0)) from hk 92 rfl) Tryd.isAgg9 (hel4.cell HSd.sees 0 rfl))), ob_plain rfl (fun a' w' hE hk => by have HSd := HS5.step hE; exact (does_call_eq Tryd.call16 rfl (map3 (show _ = Value.agg #[Value.slice A0_0 a0.vDefs.length c0_0] from hk 82 rfl) (show _ = Value.int .i64 a1 from hk 83 rfl) (show _ = Value.string ((rd z_api_Field ((rd z_api_Def a0.vDefs v3.1).vFields) y1_1).vName) from hk 93 rfl)) (ctf_Member.calls k a0 a1 ((rd z_api_Field ((rd z_api_Def a0.vDefs v3.1).vFields) y1_1).vName) A0_0 c0_0 HSd.sees hr0_0 hc0_0 H4))), ob_plain rfl (fun a' w' hE hk => by have HSd := HS5.step hE; exact does_eq (r_move (show _ = Value.tuple #[Value.agg #[Value.string v4.1.vName, Value.int .i64 v4.1.vType, Value.int .i64 v4.1.vAt], Value.int .i64 v4.2] from hk 94 rfl))), ob_plain rfl (fun a' w' hE hk => by have HSd := HS5.step hE; exact does_eq (r_extract (show _ = Value.tuple #[Value.agg #[Value.string v4.1.vName, Value.int .i64 v4.1.vType, Value.int .i64 v4.1.vAt], Value.int .i64 v4.2] from hk 81 rfl) rfl)), ob_plain rfl (fun a' w' hE hk => by have HSd := HS5.step hE; exact does_eq (r_extract (show _ = Value.tuple #[Value.agg #[Value.string v4.1.vName, Value.int .i64 v4.1.vType, Value.int .i64 v4.1.vAt], Value.int .i64 v4.2] from hk 81 rfl) rfl)), ob_plain rfl (fun a' w' hE hk => (alloc_in hE (cs := #[Value.string ByteArray.empty, Value.int .i64 0, Value.int .i64 0]) Tryd.zeroValue36 rfl)), trivial⟩ ?_
            intro w6 hE5
            simp only [List.zip_cons_cons, List.zip_nil_left, List.zip_nil_right, finL, List.set_cons_zero, List.set_cons_succ, List.length_cons, List.length_nil, List.drop_succ_cons, List.drop_zero, Nat.zero_add, Nat.reduceAdd]
            rintro _ ⟨b2, rfl, ge2, hb2⟩
            have HS6 := HS5.new hE5 ge2 hb2
            refine lazy_st (i := 0) (cs := [Value.string ByteArray.empty, Value.int .i64 0, Value.int .i64 0]) (cs' := [Value.string v4.1.vName, Value.int .i64 v4.1.vType, Value.int .i64 v4.1.vAt]) (vs := [Value.string v4.1.vName, Value.int .i64 v4.1.vType, Value.int .i64 v4.1.vAt]) (bs' := [(some b2, .cells #[Value.string v4.1.vName, Value.int .i64 v4.1.vType, Value.int .i64 v4.1.vAt] 36 (0, 0)), (some b1, .cells #[Value.slice A0_0 a0.vDefs.length c0_0] 24 (0, 0))]) (fun _ => rfl) (fun _ => rfl) Tryd.sizeOf36 rfl rfl (by decide) rfl HS6 rfl (Nat.le_of_ble_eq_true rfl) rfl rfl rfl (Nat.le_of_ble_eq_true rfl) (fun w2 HSl u => (r_extract rfl rfl)) rfl ?_
            intro w7 HS7
            refine run_same (v := Value.int .i64 v4.2) rfl rfl (r_assign rfl) ?_
            try simp only [List.set_cons_zero, List.set_cons_succ]
            refine run_nil ?_
            refine norm_then ?_
            refine wp_seq ?_
            refine region ?_
            refine run_same (v := Value.agg #[Value.slice A0_0 a0.vDefs.length c0_0]) rfl rfl (r_loadBoxAgg (n := 1) (vs := [Value.slice A0_0 a0.vDefs.length c0_0]) rfl Tryd.isAgg24 (HS7.look 1 rfl) Tryd.sizeOf24 rfl rfl) ?_
            refine run_same (v := Value.pointer (some ⟨b2, 1, none⟩)) rfl rfl (r_fieldBox (n := 1) (o' := 1) rfl Tryd.runUnderlying36 rfl Tryd.sizeOf3 (by decide) rfl) ?_
            refine run_same (v := Value.int .i64 v4.1.vType) rfl rfl (r_loadBox rfl Tryd.isAgg3 (HS7.look 0 rfl) rfl) ?_
            obtain ⟨v5, H5, H⟩ := of_bind H
            refine run_eq (v := Value.tuple #[Value.int .i64 v5.1, Value.int .i64 v5.2]) rfl rfl (does_call_eq Tryd.call14 rfl rfl (ctf_Size.calls k a0 v4.1.vType A0_0 c0_0 HS7.sees hr0_0 hc0_0 H5)) ?_
            intro w8 hE6
            have HS8 := HS7.step hE6
            refine run_frame (by simp only [List.set_cons_zero, List.set_cons_succ]; rfl) ?_
            refine run_same (v := Value.tuple #[Value.int .i64 v5.1, Value.int .i64 v5.2]) rfl rfl (r_move rfl) ?_
            refine run_same (v := Value.int .i64 v5.1) rfl rfl (r_extract rfl rfl) ?_
            refine run_same (v := Value.int .i64 v5.2) rfl rfl (r_extract rfl rfl) ?_
            refine run_same (v := Value.int .i64 v5.1) rfl rfl (r_assign rfl) ?_
            refine run_frame (by simp only [List.set_cons_zero, List.set_cons_succ]; rfl) ?_
            refine run_same (v := Value.int .i64 v5.2) rfl rfl (r_assign rfl) ?_
            try simp only [List.set_cons_zero, List.set_cons_succ]
            refine run_nil ?_
            refine norm_then ?_
            refine wp_seq ?_
            refine wp_seq ?_
            refine region ?_
            refine run_same (v := Value.int .i64 v4.2) rfl rfl (r_move rfl) ?_
            refine run_same (v := Value.bool (v4.2 != 0)) rfl rfl (r_bin rfl rfl rfl) ?_
            refine run_same (v := Value.bool (v4.2 != 0)) rfl rfl (r_move rfl) ?_
            refine run_g_same (b := (v4.2 != 0)) (c := true) (v := Value.int .i64 v5.2) rfl rfl rfl rfl (fun hg => (r_move rfl)) ?_
            refine run_frame (by simp only [List.set_cons_zero, List.set_cons_succ]; rfl) ?_
            refine run_g_same (b := (v4.2 != 0)) (c := true) (v := Value.bool (v5.2 != 0)) rfl rfl rfl rfl (fun hg => (r_bin ((show _ = gv (true && ((v4.2 != 0) == false)) (Value.int .i64 v5.2) from rfl).trans (gv_t hg)) rfl rfl)) ?_
            refine run_same (v := Value.bool ((v4.2 != 0) || (v5.2 != 0))) rfl rfl (r_pick_or rfl rfl (fun hp => ((show _ = gv (true && ((v4.2 != 0) == false)) (Value.bool (v5.2 != 0)) from rfl).trans (gv_t (and_i rfl hp))))) ?_
            refine run_same (v := Value.bool ((v4.2 != 0) || (v5.2 != 0))) rfl rfl (r_move rfl) ?_
            refine run_g_same (b := ((v4.2 != 0) || (v5.2 != 0))) (c := true) (v := Value.pointer (some ⟨b2, 2, none⟩)) rfl rfl rfl rfl (fun hg => (r_fieldBox (n := 1) (o' := 2) rfl Tryd.runUnderlying36 rfl Tryd.sizeOf3 (by decide) rfl)) ?_
            refine run_frame (by simp only [List.set_cons_zero, List.set_cons_succ]; rfl) ?_
            refine run_g_same (b := ((v4.2 != 0) || (v5.2 != 0))) (c := true) (v := Value.int .i64 v4.1.vAt) rfl rfl rfl rfl (fun hg => (r_loadBox ((show _ = gv (true && (((v4.2 != 0) || (v5.2 != 0)) == false)) (Value.pointer (some ⟨b2, 2, none⟩)) from rfl).trans (gv_t hg)) Tryd.isAgg3 (HS8.look 0 rfl) rfl)) ?_
            refine run_g_same (b := ((v4.2 != 0) || (v5.2 != 0))) (c := true) (v := Value.int .i64 y1_0) rfl rfl rfl rfl (fun hg => (r_move rfl)) ?_
            refine run_g_same (b := ((v4.2 != 0) || (v5.2 != 0))) (c := true) (v := Value.bool (decide (v4.1.vAt < y1_0))) rfl rfl rfl rfl (fun hg => (r_bin ((show _ = gv (true && (((v4.2 != 0) || (v5.2 != 0)) == false)) (Value.int .i64 v4.1.vAt) from rfl).trans (gv_t hg)) ((show _ = gv (true && (((v4.2 != 0) || (v5.2 != 0)) == false)) (Value.int .i64 y1_0) from rfl).trans (gv_t hg)) rfl)) ?_
            refine run_same (v := Value.bool (((v4.2 != 0) || (v5.2 != 0)) || (decide (v4.1.vAt < y1_0)))) rfl rfl (r_pick_or rfl rfl (fun hp => ((show _ = gv (true && (((v4.2 != 0) || (v5.2 != 0)) == false)) (Value.bool (decide (v4.1.vAt < y1_0))) from rfl).trans (gv_t (and_i rfl hp))))) ?_
            refine run_frame (by simp only [List.set_cons_zero, List.set_cons_succ]; rfl) ?_
            refine run_same (v := Value.bool (((v4.2 != 0) || (v5.2 != 0)) || (decide (v4.1.vAt < y1_0)))) rfl rfl (r_move rfl) ?_
            refine run_g_same (b := (((v4.2 != 0) || (v5.2 != 0)) || (decide (v4.1.vAt < y1_0)))) (c := true) (v := Value.pointer (some ⟨b2, 2, none⟩)) rfl rfl rfl rfl (fun hg => (r_fieldBox (n := 1) (o' := 2) rfl Tryd.runUnderlying36 rfl Tryd.sizeOf3 (by decide) rfl)) ?_
            refine run_g_same (b := (((v4.2 != 0) || (v5.2 != 0)) || (decide (v4.1.vAt < y1_0)))) (c := true) (v := Value.int .i64 v4.1.vAt) rfl rfl rfl rfl (fun hg => (r_loadBox ((show _ = gv (true && ((((v4.2 != 0) || (v5.2 != 0)) || (decide (v4.1.vAt < y1_0))) == false)) (Value.pointer (some ⟨b2, 2, none⟩)) from rfl).trans (gv_t hg)) Tryd.isAgg3 (HS8.look 0 rfl) rfl)) ?_
            refine run_g_same (b := (((v4.2 != 0) || (v5.2 != 0)) || (decide (v4.1.vAt < y1_0)))) (c := true) (v := Value.int .i64 v5.1) rfl rfl rfl rfl (fun hg => (r_move rfl)) ?_
            refine run_frame (by simp only [List.set_cons_zero, List.set_cons_succ]; rfl) ?_
            refine run_g_same (b := (((v4.2 != 0) || (v5.2 != 0)) || (decide (v4.1.vAt < y1_0)))) (c := true) (v := Value.int .i64 (IntKind.wrap .i64 (v4.1.vAt + v5.1))) rfl rfl rfl rfl (fun hg => (r_bin ((show _ = gv (true && ((((v4.2 != 0) || (v5.2 != 0)) || (decide (v4.1.vAt < y1_0))) == false)) (Value.int .i64 v4.1.vAt) from rfl).trans (gv_t hg)) ((show _ = gv (true && ((((v4.2 != 0) || (v5.2 != 0)) || (decide (v4.1.vAt < y1_0))) == false)) (Value.int .i64 v5.1) from rfl).trans (gv_t hg)) rfl)) ?_
            refine run_g_same (b := (((v4.2 != 0) || (v5.2 != 0)) || (decide (v4.1.vAt < y1_0)))) (c := true) (v := Value.int .i64 v2.1) rfl rfl rfl rfl (fun hg => (r_move rfl)) ?_
            refine run_g_same (b := (((v4.2 != 0) || (v5.2 != 0)) || (decide (v4.1.vAt < y1_0)))) (c := true) (v := Value.bool (decide ((IntKind.wrap .i64 (v4.1.vAt + v5.1)) > v2.1))) rfl rfl rfl rfl (fun hg => (r_bin ((show _ = gv (true && ((((v4.2 != 0) || (v5.2 != 0)) || (decide (v4.1.vAt < y1_0))) == false)) (Value.int .i64 (IntKind.wrap .i64 (v4.1.vAt + v5.1))) from rfl).trans (gv_t hg)) ((show _ = gv (true && ((((v4.2 != 0) || (v5.2 != 0)) || (decide (v4.1.vAt < y1_0))) == false)) (Value.int .i64 v2.1) from rfl).trans (gv_t hg)) rfl)) ?_
            refine run_same (v := Value.bool ((((v4.2 != 0) || (v5.2 != 0)) || (decide (v4.1.vAt < y1_0))) || (decide ((IntKind.wrap .i64 (v4.1.vAt + v5.1)) > v2.1)))) rfl rfl (r_pick_or rfl rfl (fun hp => ((show _ = gv (true && ((((v4.2 != 0) || (v5.2 != 0)) || (decide (v4.1.vAt < y1_0))) == false)) (Value.bool (decide ((IntKind.wrap .i64 (v4.1.vAt + v5.1)) > v2.1))) from rfl).trans (gv_t (and_i rfl hp))))) ?_
            try simp only [List.set_cons_zero, List.set_cons_succ]
            refine run_nil ?_
            refine norm_then ?_
            refine wp_cond_split (t := ((((v4.2 != 0) || (v5.2 != 0)) || (decide (v4.1.vAt < y1_0))) || (decide ((IntKind.wrap .i64 (v4.1.vAt + v5.1)) > v2.1)))) rfl (fun c4 => ?_) (fun c4 => ?_)
            · replace H := of_pos H c4
              refine wp_seq ?_
              refine region ?_
              refine run_same (v := Value.bool false) rfl rfl (r_assign rfl) ?_
              try simp only [List.set_cons_zero, List.set_cons_succ]
              refine run_nil ?_
              refine norm_then ?_
              refine wp_ret ?_
              refine ret_then ?_
              refine ret_block ?_
              refine ret_then ?_
              refine ret_loop ?_
              refine ret_then ?_
              obtain rfl := Option.some.inj H
              obtain rfl := Option.some.inj G1
              refine bodyPost_ret (results_1 rfl (one_tmp rfl)) rfl ?_
              exact ⟨rfl, HS8.toE⟩
            · replace H := of_neg H (nt c4)
              refine wp_skip ?_
              refine norm_then ?_
              refine region ?_
              refine run_same (v := Value.pointer (some ⟨b2, 2, none⟩)) rfl rfl (r_fieldBox (n := 1) (o' := 2) rfl Tryd.runUnderlying36 rfl Tryd.sizeOf3 (by decide) rfl) ?_
              refine run_same (v := Value.int .i64 v4.1.vAt) rfl rfl (r_loadBox rfl Tryd.isAgg3 (HS8.look 0 rfl) rfl) ?_
              refine run_same (v := Value.int .i64 v5.1) rfl rfl (r_move rfl) ?_
              refine run_same (v := Value.int .i64 (IntKind.wrap .i64 (v4.1.vAt + v5.1))) rfl rfl (r_bin rfl rfl rfl) ?_
              refine run_frame (by simp only [List.set_cons_zero, List.set_cons_succ]; rfl) ?_
              refine run_same (v := Value.int .i64 (IntKind.wrap .i64 (v4.1.vAt + v5.1))) rfl rfl (r_assign rfl) ?_
              try simp only [List.set_cons_zero, List.set_cons_succ]
              refine run_nil ?_
              refine norm_block ?_
              refine norm_then ?_
              refine region ?_
              refine run_same (v := Value.int .i64 y1_1) rfl rfl (r_move rfl) ?_
              refine run_same (v := Value.int .i64 (IntKind.wrap .i64 (y1_1 + 1))) rfl rfl (r_bin rfl rfl rfl) ?_
              refine run_same (v := Value.int .i64 (IntKind.wrap .i64 (y1_1 + 1))) rfl rfl (r_assign rfl) ?_
              try simp only [List.set_cons_zero, List.set_cons_succ]
              refine run_nil ?_
              refine again m [uy1_6, Value.int .i64 (IntKind.wrap .i64 (v4.1.vAt + v5.1)), Value.int .i64 (IntKind.wrap .i64 (y1_1 + 1)), Value.pointer (some ⟨b2, 0, none⟩), Value.int .i64 v4.2, Value.int .i64 v5.1, Value.int .i64 v5.2, Value.int .i64 y1_1, Value.pointer (some ⟨b1, 0, none⟩), Value.slice A0_0 a0.vDefs.length c0_0, Value.int .i64 v3.1, Value.pointer (some (Addr.add ad1 (v3.1.toNat * 7))), Value.pointer (some (Addr.add (Addr.add ad1 (v3.1.toNat * 7)) 6)), Value.slice Aad1_6 ((rd z_api_Def a0.vDefs v3.1).vFields).length cad1_6, Value.int .i64 (((rd z_api_Def a0.vDefs v3.1).vFields).length : Int), Value.bool (decide (y1_1 < (((rd z_api_Def a0.vDefs v3.1).vFields).length : Int))), Value.bool (decide (y1_1 < (((rd z_api_Def a0.vDefs v3.1).vFields).length : Int))), gv (true && ((decide (y1_1 < (((rd z_api_Def a0.vDefs v3.1).vFields).length : Int))) == true)) (Value.pointer (some ⟨b1, 0, none⟩)), gv (true && ((decide (y1_1 < (((rd z_api_Def a0.vDefs v3.1).vFields).length : Int))) == true)) (Value.slice A0_0 a0.vDefs.length c0_0), gv (true && ((decide (y1_1 < (((rd z_api_Def a0.vDefs v3.1).vFields).length : Int))) == true)) (Value.int .i64 v3.1), gv (true && ((decide (y1_1 < (((rd z_api_Def a0.vDefs v3.1).vFields).length : Int))) == true)) (Value.pointer (some (Addr.add ad2 (v3.1.toNat * 7)))), gv (true && ((decide (y1_1 < (((rd z_api_Def a0.vDefs v3.1).vFields).length : Int))) == true)) (Value.pointer (some (Addr.add (Addr.add ad2 (v3.1.toNat * 7)) 0))), gv (true && ((decide (y1_1 < (((rd z_api_Def a0.vDefs v3.1).vFields).length : Int))) == true)) (Value.int .i64 ((rd z_api_Def a0.vDefs v3.1).vKind)), gv (true && ((decide (y1_1 < (((rd z_api_Def a0.vDefs v3.1).vFields).length : Int))) == true)) (Value.bool ((rd z_api_Def a0.vDefs v3.1).vKind == 4)), Value.bool ((decide (y1_1 < (((rd z_api_Def a0.vDefs v3.1).vFields).length : Int))) && ((rd z_api_Def a0.vDefs v3.1).vKind == 4)), Value.int .i64 y1_1, Value.int .i64 (IntKind.wrap .i64 (y1_1 + 1)), Value.tuple #[Value.agg #[Value.string v4.1.vName, Value.int .i64 v4.1.vType, Value.int .i64 v4.1.vAt], Value.int .i64 v4.2], Value.agg #[Value.slice A0_0 a0.vDefs.length c0_0], Value.int .i64 a1, Value.pointer (some ⟨b1, 0, none⟩), Value.slice A0_0 a0.vDefs.length c0_0, Value.int .i64 v3.1, Value.pointer (some (Addr.add ad3 (v3.1.toNat * 7))), Value.pointer (some (Addr.add (Addr.add ad3 (v3.1.toNat * 7)) 6)), Value.slice Aad3_6 ((rd z_api_Def a0.vDefs v3.1).vFields).length cad3_6, Value.int .i64 y1_1, Value.pointer (some (Addr.add ad4 (y1_1.toNat * 3))), Value.pointer (some (Addr.add (Addr.add ad4 (y1_1.toNat * 3)) 0)), Value.string ((rd z_api_Field ((rd z_api_Def a0.vDefs v3.1).vFields) y1_1).vName), Value.tuple #[Value.agg #[Value.string v4.1.vName, Value.int .i64 v4.1.vType, Value.int .i64 v4.1.vAt], Value.int .i64 v4.2], Value.agg #[Value.string v4.1.vName, Value.int .i64 v4.1.vType, Value.int .i64 v4.1.vAt], Value.int .i64 v4.2, Value.tuple #[Value.int .i64 v5.1, Value.int .i64 v5.2], Value.agg #[Value.slice A0_0 a0.vDefs.length c0_0], Value.pointer (some ⟨b2, 1, none⟩), Value.int .i64 v4.1.vType, Value.tuple #[Value.int .i64 v5.1, Value.int .i64 v5.2], Value.int .i64 v5.1, Value.int .i64 v5.2, Value.int .i64 v4.2, Value.bool (v4.2 != 0), Value.bool (v4.2 != 0), gv (true && ((v4.2 != 0) == false)) (Value.int .i64 v5.2), gv (true && ((v4.2 != 0) == false)) (Value.bool (v5.2 != 0)), Value.bool ((v4.2 != 0) || (v5.2 != 0)), Value.bool ((v4.2 != 0) || (v5.2 != 0)), gv (true && (((v4.2 != 0) || (v5.2 != 0)) == false)) (Value.pointer (some ⟨b2, 2, none⟩)), gv (true && (((v4.2 != 0) || (v5.2 != 0)) == false)) (Value.int .i64 v4.1.vAt), gv (true && (((v4.2 != 0) || (v5.2 != 0)) == false)) (Value.int .i64 y1_0), gv (true && (((v4.2 != 0) || (v5.2 != 0)) == false)) (Value.bool (decide (v4.1.vAt < y1_0))), Value.bool (((v4.2 != 0) || (v5.2 != 0)) || (decide (v4.1.vAt < y1_0))), Value.bool (((v4.2 != 0) || (v5.2 != 0)) || (decide (v4.1.vAt < y1_0))), gv (true && ((((v4.2 != 0) || (v5.2 != 0)) || (decide (v4.1.vAt < y1_0))) == false)) (Value.pointer (some ⟨b2, 2, none⟩)), gv (true && ((((v4.2 != 0) || (v5.2 != 0)) || (decide (v4.1.vAt < y1_0))) == false)) (Value.int .i64 v4.1.vAt), gv (true && ((((v4.2 != 0) || (v5.2 != 0)) || (decide (v4.1.vAt < y1_0))) == false)) (Value.int .i64 v5.1), gv (true && ((((v4.2 != 0) || (v5.2 != 0)) || (decide (v4.1.vAt < y1_0))) == false)) (Value.int .i64 (IntKind.wrap .i64 (v4.1.vAt + v5.1))), gv (true && ((((v4.2 != 0) || (v5.2 != 0)) || (decide (v4.1.vAt < y1_0))) == false)) (Value.int .i64 v2.1), gv (true && ((((v4.2 != 0) || (v5.2 != 0)) || (decide (v4.1.vAt < y1_0))) == false)) (Value.bool (decide ((IntKind.wrap .i64 (v4.1.vAt + v5.1)) > v2.1))), Value.bool ((((v4.2 != 0) || (v5.2 != 0)) || (decide (v4.1.vAt < y1_0))) || (decide ((IntKind.wrap .i64 (v4.1.vAt + v5.1)) > v2.1))), Value.pointer (some ⟨b2, 2, none⟩), Value.int .i64 v4.1.vAt, Value.int .i64 v5.1, Value.int .i64 (IntKind.wrap .i64 (v4.1.vAt + v5.1))] (Nat.lt_succ_self m) (by simp only [patch, List.set_cons_zero, List.set_cons_succ]) ⟨(IntKind.wrap .i64 (v4.1.vAt + v5.1)), (IntKind.wrap .i64 (y1_1 + 1)), _, _, _, _, _, _, _, _, _, _, _, _, _, _, _, _, _, _, _, _, _, _, _, _, _, _, _, _, _, _, _, _, _, _, _, _, _, _, _, _, _, _, _, _, _, _, _, _, _, _, _, _, _, _, _, _, _, _, _, _, _, _, _, _, _, _, _, _, _, _, _, _, rfl, H, HS8.tail⟩
          · replace H := of_neg H (nt c3)
            refine wp_exit ?_
            refine exit_then ?_
            obtain rfl := Option.some.inj H
            refine leave [uy1_6, Value.int .i64 y1_0, Value.int .i64 y1_1, uy1_14, uy1_15, uy1_16, uy1_17, Value.int .i64 y1_1, Value.pointer (some ⟨b1, 0, none⟩), Value.slice A0_0 a0.vDefs.length c0_0, Value.int .i64 v3.1, Value.pointer (some (Addr.add ad1 (v3.1.toNat * 7))), Value.pointer (some (Addr.add (Addr.add ad1 (v3.1.toNat * 7)) 6)), Value.slice Aad1_6 ((rd z_api_Def a0.vDefs v3.1).vFields).length cad1_6, Value.int .i64 (((rd z_api_Def a0.vDefs v3.1).vFields).length : Int), Value.bool (decide (y1_1 < (((rd z_api_Def a0.vDefs v3.1).vFields).length : Int))), Value.bool (decide (y1_1 < (((rd z_api_Def a0.vDefs v3.1).vFields).length : Int))), gv (true && ((decide (y1_1 < (((rd z_api_Def a0.vDefs v3.1).vFields).length : Int))) == true)) (Value.pointer (some ⟨b1, 0, none⟩)), gv (true && ((decide (y1_1 < (((rd z_api_Def a0.vDefs v3.1).vFields).length : Int))) == true)) (Value.slice A0_0 a0.vDefs.length c0_0), gv (true && ((decide (y1_1 < (((rd z_api_Def a0.vDefs v3.1).vFields).length : Int))) == true)) (Value.int .i64 v3.1), gv (true && ((decide (y1_1 < (((rd z_api_Def a0.vDefs v3.1).vFields).length : Int))) == true)) (Value.pointer (some (Addr.add ad2 (v3.1.toNat * 7)))), gv (true && ((decide (y1_1 < (((rd z_api_Def a0.vDefs v3.1).vFields).length : Int))) == true)) (Value.pointer (some (Addr.add (Addr.add ad2 (v3.1.toNat * 7)) 0))), gv (true && ((decide (y1_1 < (((rd z_api_Def a0.vDefs v3.1).vFields).length : Int))) == true)) (Value.int .i64 ((rd z_api_Def a0.vDefs v3.1).vKind)), gv (true && ((decide (y1_1 < (((rd z_api_Def a0.vDefs v3.1).vFields).length : Int))) == true)) (Value.bool ((rd z_api_Def a0.vDefs v3.1).vKind == 4)), Value.bool ((decide (y1_1 < (((rd z_api_Def a0.vDefs v3.1).vFields).length : Int))) && ((rd z_api_Def a0.vDefs v3.1).vKind == 4)), uy1_79, uy1_80, uy1_81, uy1_82, uy1_83, uy1_84, uy1_85, uy1_86, uy1_87, uy1_88, uy1_89, uy1_90, uy1_91, uy1_92, uy1_93, uy1_94, uy1_95, uy1_96, uy1_97, uy1_98, uy1_99, uy1_100, uy1_101, uy1_102, uy1_103, uy1_104, uy1_105, uy1_106, uy1_107, uy1_108, uy1_109, uy1_110, uy1_111, uy1_112, uy1_113, uy1_114, uy1_115, uy1_116, uy1_117, uy1_118, uy1_119, uy1_120, uy1_121, uy1_122, uy1_123, uy1_124, uy1_125, uy1_126, uy1_127] (by simp only [patch, List.set_cons_zero, List.set_cons_succ]) ⟨_, rfl, _, _, _, _, _, _, _, _, _, _, _, _, _, _, _, _, _, _, _, _, _, _, _, _, _, _, _, _, _, _, _, _, _, _, _, _, _, _, _, _, _, _, _, _, _, _, _, _, _, _, _, _, _, _, _, _, _, _, _, _, _, _, _, _, _, _, _, _, _, _, _, _, _, _, rfl, HS5⟩
      · rintro us w9 ⟨s1, rfl, uo1_6, uo1_12, uo1_13, uo1_14, uo1_15, uo1_16, uo1_17, uo1_61, uo1_62, uo1_63, uo1_64, uo1_65, uo1_66, uo1_67, uo1_68, uo1_69, uo1_70, uo1_71, uo1_72, uo1_73, uo1_74, uo1_75, uo1_76, uo1_77, uo1_78, uo1_79, uo1_80, uo1_81, uo1_82, uo1_83, uo1_84, uo1_85, uo1_86, uo1_87, uo1_88, uo1_89, uo1_90, uo1_91, uo1_92, uo1_93, uo1_94, uo1_95, uo1_96, uo1_97, uo1_98, uo1_99, uo1_100, uo1_101, uo1_102, uo1_103, uo1_104, uo1_105, uo1_106, uo1_107, uo1_108, uo1_109, uo1_110, uo1_111, uo1_112, uo1_113, uo1_114, uo1_115, uo1_116, uo1_117, uo1_118, uo1_119, uo1_120, uo1_121, uo1_122, uo1_123, uo1_124, uo1_125, uo1_126, uo1_127, rfl, HS9⟩
        replace H := G1
        clear G1
        try simp only [patch, List.set_cons_zero, List.set_cons_succ]
        refine norm_then ?_
        refine wp_seq ?_
        refine wp_seq ?_
        refine region ?_
        refine run_same (v := Value.slice A2_0 a2.length c2_0) rfl rfl (r_move rfl) ?_
        refine run_same (v := Value.int .i64 (a2.length : Int)) rfl rfl (r_len rfl Tryd.runUnderlying25) ?_
        refine run_same (v := Value.bool ((a2.length : Int) == 0)) rfl rfl (r_bin rfl rfl rfl) ?_
        refine run_same (v := Value.bool ((a2.length : Int) == 0)) rfl rfl (r_move rfl) ?_
        refine run_frame (by simp only [List.set_cons_zero, List.set_cons_succ]; rfl) ?_
        refine run_g_same (b := ((a2.length : Int) == 0)) (c := true) (v := Value.slice A2_0 a2.length c2_0) rfl rfl rfl rfl (fun hg => (r_move rfl)) ?_
        refine run_g_same (b := ((a2.length : Int) == 0)) (c := true) (v := Value.int .i64 (a2.length : Int)) rfl rfl rfl rfl (fun hg => (r_len ((show _ = gv (true && (((a2.length : Int) == 0) == false)) (Value.slice A2_0 a2.length c2_0) from rfl).trans (gv_t hg)) Tryd.runUnderlying25)) ?_
        refine run_g_same (b := ((a2.length : Int) == 0)) (c := true) (v := Value.bool (decide ((a2.length : Int) > 16))) rfl rfl rfl rfl (fun hg => (r_bin ((show _ = gv (true && (((a2.length : Int) == 0) == false)) (Value.int .i64 (a2.length : Int)) from rfl).trans (gv_t hg)) rfl rfl)) ?_
        refine run_same (v := Value.bool (((a2.length : Int) == 0) || (decide ((a2.length : Int) > 16)))) rfl rfl (r_pick_or rfl rfl (fun hp => ((show _ = gv (true && (((a2.length : Int) == 0) == false)) (Value.bool (decide ((a2.length : Int) > 16))) from rfl).trans (gv_t (and_i rfl hp))))) ?_
        try simp only [List.set_cons_zero, List.set_cons_succ]
        refine run_nil ?_
        refine norm_then ?_
        refine wp_cond_split (t := (((a2.length : Int) == 0) || (decide ((a2.length : Int) > 16)))) rfl (fun c5 => ?_) (fun c5 => ?_)
        · replace H := of_pos H c5
          refine wp_seq ?_
          refine region ?_
          refine run_same (v := Value.bool v1) rfl rfl (r_move rfl) ?_
          refine run_same (v := Value.bool v1) rfl rfl (r_assign rfl) ?_
          try simp only [List.set_cons_zero, List.set_cons_succ]
          refine run_nil ?_
          refine norm_then ?_
          refine wp_ret ?_
          refine ret_then ?_
          obtain rfl := Option.some.inj H
          refine bodyPost_ret (results_1 rfl (one_tmp rfl)) rfl ?_
          exact ⟨rfl, HS9.toE⟩
        · replace H := of_neg H (nt c5)
          refine wp_skip ?_
          refine norm_then ?_
          refine wp_seq ?_
          refine region ?_
          refine run_same (v := Value.agg #[Value.slice A0_0 a0.vDefs.length c0_0]) rfl rfl (r_loadBoxAgg (n := 1) (vs := [Value.slice A0_0 a0.vDefs.length c0_0]) rfl Tryd.isAgg24 (HS9.look 0 rfl) Tryd.sizeOf24 rfl rfl) ?_
          refine run_same (v := Value.int .i64 a1) rfl rfl (r_move rfl) ?_
          refine run_same (v := Value.slice A2_0 a2.length c2_0) rfl rfl (r_move rfl) ?_
          obtain ⟨v6, H6, H⟩ := of_bind H
          refine run_eq (v := Value.tuple #[Value.int .i64 v6.1, Value.int .i64 v6.2.1, Value.int .i64 v6.2.2]) rfl rfl (does_call_eq Tryd.call17 rfl rfl (ctf_Path.calls k a0 a1 a2 A0_0 c0_0 A2_0 c2_0 HS9.sees hr0_0 hc0_0 hr2_0 hc2_0 H6)) ?_
          intro w10 hE7
          have HS10 := HS9.step hE7
          refine run_frame (by simp only [List.set_cons_zero, List.set_cons_succ]; rfl) ?_
          refine run_same (v := Value.tuple #[Value.int .i64 v6.1, Value.int .i64 v6.2.1, Value.int .i64 v6.2.2]) rfl rfl (r_move rfl) ?_
          refine run_same (v := Value.int .i64 v6.1) rfl rfl (r_extract rfl rfl) ?_
          refine run_same (v := Value.int .i64 v6.2.1) rfl rfl (r_extract rfl rfl) ?_
          refine run_same (v := Value.int .i64 v6.2.2) rfl rfl (r_extract rfl rfl) ?_
          refine run_frame (by simp only [List.set_cons_zero, List.set_cons_succ]; rfl) ?_
          refine run_same (v := Value.int .i64 v6.1) rfl rfl (r_assign rfl) ?_
          refine run_same (v := Value.int .i64 v6.2.1) rfl rfl (r_assign rfl) ?_
          refine run_same (v := Value.int .i64 v6.2.2) rfl rfl (r_assign rfl) ?_
          try simp only [List.set_cons_zero, List.set_cons_succ]
          refine run_nil ?_
          refine norm_then ?_
          refine wp_seq ?_
          obtain ⟨hk1, H⟩ := of_ite H
          obtain ⟨hp1_r, hp1_c⟩ := Rd.partHi hr2_0 hc2_0 hk1
          obtain ⟨v7, H7, H⟩ := of_bind H
          refine drawn [.eq (Value.agg #[Value.slice A0_0 a0.vDefs.length c0_0]), .eq (Value.int .i64 a1), .eq (Value.slice A2_0 a2.length c2_0), .eq (Value.slice (partA A2_0 c2_0 0 1) (List.take (1 : Int).toNat a2).length c2_0), .eq (Value.tuple #[Value.int .i64 v7.1, Value.int .i64 v7.2.1, Value.int .i64 v7.2.2]), .eq (Value.tuple #[Value.int .i64 v7.1, Value.int .i64 v7.2.1, Value.int .i64 v7.2.2]), .eq (Value.int .i64 v7.1), .eq (Value.int .i64 v7.2.1), .eq (Value.int .i64 v7.2.2), .eq (Value.int .i64 v7.1), .eq (Value.int .i64 v7.2.1)] [146, 147, 148, 149, 150, 145, 151, 152, 153, 21, 22] hmix (by kernel_rfl) rfl (stable_eq (stable_eq (stable_eq (stable_eq (stable_eq (stable_eq (stable_eq (stable_eq (stable_eq (stable_eq (stable_eq stable_nil))))))))))) ⟨ob_plain rfl (fun a' w' hE hk => by have HSd := HS10.step hE; exact does_eq (r_loadBoxAgg (n := 1) (vs := [Value.slice A0_0 a0.vDefs.length c0_0]) (show _ = Value.pointer (some ⟨b1, 0, none⟩) from hk 3 rfl) Tryd.isAgg24 (HSd.look 0 rfl) Tryd.sizeOf24 rfl rfl)), ob_plain rfl (fun a' w' hE hk => by have HSd := HS10.step hE; exact does_eq (r_move (show _ = Value.int .i64 a1 from hk 1 rfl))), ob_plain rfl (fun a' w' hE hk => by have HSd := HS10.step hE; exact does_eq (r_move (show _ = Value.slice A2_0 a2.length c2_0 from hk 2 rfl))), ob_plain rfl (fun a' w' hE hk => by have HSd := HS10.step hE; exact does_eq (r_partHi (show _ = Value.slice A2_0 a2.length c2_0 from hk 148 rfl) hc2_0 Tryd.runUnderlying25 Tryd.sizeOf9 rfl hk1)), ob_plain rfl (fun a' w' hE hk => by have HSd := HS10.step hE; exact (does_call_eq Tryd.call17 rfl (map3 (show _ = Value.agg #[Value.slice A0_0 a0.vDefs.length c0_0] from hk 146 rfl) (show _ = Value.int .i64 a1 from hk 147 rfl) (show _ = Value.slice (partA A2_0 c2_0 0 1) (List.take (1 : Int).toNat a2).length c2_0 from hk 149 rfl)) (ctf_Path.calls k a0 a1 (List.take (1 : Int).toNat a2) A0_0 c0_0 (partA A2_0 c2_0 0 1) c2_0 HSd.sees hr0_0 hc0_0 hp1_r hp1_c H7))), ob_plain rfl (fun a' w' hE hk => by have HSd := HS10.step hE; exact does_eq (r_move (show _ = Value.tuple #[Value.int .i64 v7.1, Value.int .i64 v7.2.1, Value.int .i64 v7.2.2] from hk 150 rfl))), ob_plain rfl (fun a' w' hE hk => by have HSd := HS10.step hE; exact does_eq (r_extract (show _ = Value.tuple #[Value.int .i64 v7.1, Value.int .i64 v7.2.1, Value.int .i64 v7.2.2] from hk 145 rfl) rfl)), ob_plain rfl (fun a' w' hE hk => by have HSd := HS10.step hE; exact does_eq (r_extract (show _ = Value.tuple #[Value.int .i64 v7.1, Value.int .i64 v7.2.1, Value.int .i64 v7.2.2] from hk 145 rfl) rfl)), ob_plain rfl (fun a' w' hE hk => by have HSd := HS10.step hE; exact does_eq (r_extract (show _ = Value.tuple #[Value.int .i64 v7.1, Value.int .i64 v7.2.1, Value.int .i64 v7.2.2] from hk 145 rfl) rfl)), ob_plain rfl (fun a' w' hE hk => by have HSd := HS10.step hE; exact does_eq (r_assign (show _ = Value.int .i64 v7.1 from hk 151 rfl))), ob_plain rfl (fun a' w' hE hk => by have HSd := HS10.step hE; exact does_eq (r_assign (show _ = Value.int .i64 v7.2.1 from hk 152 rfl))), trivial⟩ ?_
          intro w11 hE8
          simp only [List.zip_cons_cons, List.zip_nil_left, List.zip_nil_right, finL, List.set_cons_zero, List.set_cons_succ, List.length_cons, List.length_nil, List.drop_succ_cons, List.drop_zero, Nat.zero_add, Nat.reduceAdd]
          have HS11 := HS10.step hE8
          refine run_same (v := Value.int .i64 v7.2.2) rfl rfl (r_assign rfl) ?_
          try simp only [List.set_cons_zero, List.set_cons_succ]
          refine run_nil ?_
          refine norm_then ?_
          refine wp_seq ?_
          refine wp_seq ?_
          refine region ?_
          refine run_same (v := Value.int .i64 v7.2.2) rfl rfl (r_move rfl) ?_
          refine run_same (v := Value.bool (v7.2.2 != 0)) rfl rfl (r_bin rfl rfl rfl) ?_
          try simp only [List.set_cons_zero, List.set_cons_succ]
          refine run_nil ?_
          refine norm_then ?_
          refine wp_cond_split (t := (v7.2.2 != 0)) rfl (fun c6 => ?_) (fun c6 => ?_)
          · replace H := of_pos H c6
            refine wp_seq ?_
            refine region ?_
            refine run_same (v := Value.bool v1) rfl rfl (r_move rfl) ?_
            refine run_same (v := Value.bool v1) rfl rfl (r_move rfl) ?_
            refine run_g_same (b := v1) (c := true) (v := Value.int .i64 v6.2.2) rfl rfl rfl rfl (fun hg => (r_move rfl)) ?_
            refine run_g_same (b := v1) (c := true) (v := Value.int .i64 v7.2.2) rfl rfl rfl rfl (fun hg => (r_move rfl)) ?_
            refine run_frame (by simp only [List.set_cons_zero, List.set_cons_succ]; rfl) ?_
            refine run_g_same (b := v1) (c := true) (v := Value.bool (v6.2.2 == v7.2.2)) rfl rfl rfl rfl (fun hg => (r_bin ((show _ = gv (true && (v1 == true)) (Value.int .i64 v6.2.2) from rfl).trans (gv_t hg)) ((show _ = gv (true && (v1 == true)) (Value.int .i64 v7.2.2) from rfl).trans (gv_t hg)) rfl)) ?_
            refine run_same (v := Value.bool (v1 && (v6.2.2 == v7.2.2))) rfl rfl (r_pick_and rfl (fun hp => ((show _ = gv (true && (v1 == true)) (Value.bool (v6.2.2 == v7.2.2)) from rfl).trans (gv_t (and_i rfl hp)))) rfl) ?_
            refine run_same (v := Value.bool (v1 && (v6.2.2 == v7.2.2))) rfl rfl (r_assign rfl) ?_
            try simp only [List.set_cons_zero, List.set_cons_succ]
            refine run_nil ?_
            refine norm_then ?_
            refine wp_ret ?_
            refine ret_then ?_
            obtain rfl := Option.some.inj H
            refine bodyPost_ret (results_1 rfl (one_tmp rfl)) rfl ?_
            exact ⟨rfl, HS11.toE⟩
          · replace H := of_neg H (nt c6)
            refine wp_skip ?_
            refine norm_then ?_
            refine wp_seq ?_
            obtain ⟨hk2, H⟩ := of_ite H
            obtain ⟨hp2_r, hp2_c⟩ := Rd.partLo hr2_0 hc2_0 hk2
            obtain ⟨v8, H8, H⟩ := of_bind H
            refine drawn [.eq (Value.agg #[Value.slice A0_0 a0.vDefs.length c0_0]), .eq (Value.int .i64 v7.1), .eq (Value.slice A2_0 a2.length c2_0), .eq (Value.slice (partA A2_0 c2_0 (1 : Int).toNat 1) (List.drop (1 : Int).toNat a2).length (c2_0 - (1 : Int).toNat)), .eq (Value.tuple #[Value.int .i64 v8.1, Value.int .i64 v8.2.1, Value.int .i64 v8.2.2]), .eq (Value.tuple #[Value.int .i64 v8.1, Value.int .i64 v8.2.1, Value.int .i64 v8.2.2]), .eq (Value.int .i64 v8.1), .eq (Value.int .i64 v8.2.1), .eq (Value.int .i64 v8.2.2), .eq (Value.int .i64 v8.1), .eq (Value.int .i64 v8.2.1)] [163, 164, 165, 166, 167, 162, 168, 169, 170, 24, 25] hmix (by kernel_rfl) rfl (stable_eq (stable_eq (stable_eq (stable_eq (stable_eq (stable_eq (stable_eq (stable_eq (stable_eq (stable_eq (stable_eq stable_nil))))))))))) ⟨ob_plain rfl (fun a' w' hE hk => by have HSd := HS11.step hE; exact does_eq (r_loadBoxAgg (n := 1) (vs := [Value.slice A0_0 a0.vDefs.length c0_0]) (show _ = Value.pointer (some ⟨b1, 0, none⟩) from hk 3 rfl) Tryd.isAgg24 (HSd.look 0 rfl) Tryd.sizeOf24 rfl rfl)), ob_plain rfl (fun a' w' hE hk => by have HSd := HS11.step hE; exact does_eq (r_move (show _ = Value.int .i64 v7.1 from hk 21 rfl))), ob_plain rfl (fun a' w' hE hk => by have HSd := HS11.step hE; exact does_eq (r_move (show _ = Value.slice A2_0 a2.length c2_0 from hk 2 rfl))), ob_plain rfl (fun a' w' hE hk => by have HSd := HS11.step hE; exact does_eq (r_partLo (show _ = Value.slice A2_0 a2.length c2_0 from hk 165 rfl) hc2_0 Tryd.runUnderlying25 Tryd.sizeOf9 rfl hk2)), ob_plain rfl (fun a' w' hE hk => by have HSd := HS11.step hE; exact (does_call_eq Tryd.call17 rfl (map3 (show _ = Value.agg #[Value.slice A0_0 a0.vDefs.length c0_0] from hk 163 rfl) (show _ = Value.int .i64 v7.1 from hk 164 rfl) (show _ = Value.slice (partA A2_0 c2_0 (1 : Int).toNat 1) (List.drop (1 : Int).toNat a2).length (c2_0 - (1 : Int).toNat) from hk 166 rfl)) (ctf_Path.calls k a0 v7.1 (List.drop (1 : Int).toNat a2) A0_0 c0_0 (partA A2_0 c2_0 (1 : Int).toNat 1) (c2_0 - (1 : Int).toNat) HSd.sees hr0_0 hc0_0 hp2_r hp2_c H8))), ob_plain rfl (fun a' w' hE hk => by have HSd := HS11.step hE; exact does_eq (r_move (show _ = Value.tuple #[Value.int .i64 v8.1, Value.int .i64 v8.2.1, Value.int .i64 v8.2.2] from hk 167 rfl))), ob_plain rfl (fun a' w' hE hk => by have HSd := HS11.step hE; exact does_eq (r_extract (show _ = Value.tuple #[Value.int .i64 v8.1, Value.int .i64 v8.2.1, Value.int .i64 v8.2.2] from hk 162 rfl) rfl)), ob_plain rfl (fun a' w' hE hk => by have HSd := HS11.step hE; exact does_eq (r_extract (show _ = Value.tuple #[Value.int .i64 v8.1, Value.int .i64 v8.2.1, Value.int .i64 v8.2.2] from hk 162 rfl) rfl)), ob_plain rfl (fun a' w' hE hk => by have HSd := HS11.step hE; exact does_eq (r_extract (show _ = Value.tuple #[Value.int .i64 v8.1, Value.int .i64 v8.2.1, Value.int .i64 v8.2.2] from hk 162 rfl) rfl)), ob_plain rfl (fun a' w' hE hk => by have HSd := HS11.step hE; exact does_eq (r_assign (show _ = Value.int .i64 v8.1 from hk 168 rfl))), ob_plain rfl (fun a' w' hE hk => by have HSd := HS11.step hE; exact does_eq (r_assign (show _ = Value.int .i64 v8.2.1 from hk 169 rfl))), trivial⟩ ?_
            intro w12 hE9
            simp only [List.zip_cons_cons, List.zip_nil_left, List.zip_nil_right, finL, List.set_cons_zero, List.set_cons_succ, List.length_cons, List.length_nil, List.drop_succ_cons, List.drop_zero, Nat.zero_add, Nat.reduceAdd]
            have HS12 := HS11.step hE9
            refine run_same (v := Value.int .i64 v8.2.2) rfl rfl (r_assign rfl) ?_
            try simp only [List.set_cons_zero, List.set_cons_succ]
            refine run_nil ?_
            refine norm_then ?_
            refine wp_seq ?_
            refine region ?_
            refine run_same (v := Value.bool v1) rfl rfl (r_move rfl) ?_
            refine run_same (v := Value.bool v1) rfl rfl (r_move rfl) ?_
            refine run_g_same (b := v1) (c := true) (v := Value.int .i64 v6.2.2) rfl rfl rfl rfl (fun hg => (r_move rfl)) ?_
            refine run_g_same (b := v1) (c := true) (v := Value.int .i64 v8.2.2) rfl rfl rfl rfl (fun hg => (r_move rfl)) ?_
            refine run_frame (by simp only [List.set_cons_zero, List.set_cons_succ]; rfl) ?_
            refine run_g_same (b := v1) (c := true) (v := Value.bool (v6.2.2 == v8.2.2)) rfl rfl rfl rfl (fun hg => (r_bin ((show _ = gv (true && (v1 == true)) (Value.int .i64 v6.2.2) from rfl).trans (gv_t hg)) ((show _ = gv (true && (v1 == true)) (Value.int .i64 v8.2.2) from rfl).trans (gv_t hg)) rfl)) ?_
            refine run_same (v := Value.bool (v1 && (v6.2.2 == v8.2.2))) rfl rfl (r_pick_and rfl (fun hp => ((show _ = gv (true && (v1 == true)) (Value.bool (v6.2.2 == v8.2.2)) from rfl).trans (gv_t (and_i rfl hp)))) rfl) ?_
            refine run_same (v := Value.bool (v1 && (v6.2.2 == v8.2.2))) rfl rfl (r_move rfl) ?_
            refine run_g_same (b := (v1 && (v6.2.2 == v8.2.2))) (c := true) (v := Value.int .i64 v6.2.2) rfl rfl rfl rfl (fun hg => (r_move rfl)) ?_
            refine run_frame (by simp only [List.set_cons_zero, List.set_cons_succ]; rfl) ?_
            refine run_g_same (b := (v1 && (v6.2.2 == v8.2.2))) (c := true) (v := Value.bool (v6.2.2 != 0)) rfl rfl rfl rfl (fun hg => (r_bin ((show _ = gv (true && ((v1 && (v6.2.2 == v8.2.2)) == true)) (Value.int .i64 v6.2.2) from rfl).trans (gv_t hg)) rfl rfl)) ?_
            refine run_g_same (b := (v1 && (v6.2.2 == v8.2.2))) (c := true) (v := Value.bool (v6.2.2 != 0)) rfl rfl rfl rfl (fun hg => (r_move ((show _ = gv (true && ((v1 && (v6.2.2 == v8.2.2)) == true)) (Value.bool (v6.2.2 != 0)) from rfl).trans (gv_t hg)))) ?_
            refine run_g_same (b := (v6.2.2 != 0)) (c := (true && ((v1 && (v6.2.2 == v8.2.2)) == true))) (v := Value.int .i64 v6.1) rfl rfl rfl rfl (fun hg => (r_move rfl)) ?_
            refine run_g_same (b := (v6.2.2 != 0)) (c := (true && ((v1 && (v6.2.2 == v8.2.2)) == true))) (v := Value.int .i64 v8.1) rfl rfl rfl rfl (fun hg => (r_move rfl)) ?_
            refine run_frame (by simp only [List.set_cons_zero, List.set_cons_succ]; rfl) ?_
            refine run_g_same (b := (v6.2.2 != 0)) (c := (true && ((v1 && (v6.2.2 == v8.2.2)) == true))) (v := Value.bool (v6.1 == v8.1)) rfl rfl rfl rfl (fun hg => (r_bin ((show _ = gv ((true && ((v1 && (v6.2.2 == v8.2.2)) == true)) && ((v6.2.2 != 0) == false)) (Value.int .i64 v6.1) from rfl).trans (gv_t hg)) ((show _ = gv ((true && ((v1 && (v6.2.2 == v8.2.2)) == true)) && ((v6.2.2 != 0) == false)) (Value.int .i64 v8.1) from rfl).trans (gv_t hg)) rfl)) ?_
            refine run_g_same (b := (v6.2.2 != 0)) (c := (true && ((v1 && (v6.2.2 == v8.2.2)) == true))) (v := Value.bool (v6.1 == v8.1)) rfl rfl rfl rfl (fun hg => (r_move ((show _ = gv ((true && ((v1 && (v6.2.2 == v8.2.2)) == true)) && ((v6.2.2 != 0) == false)) (Value.bool (v6.1 == v8.1)) from rfl).trans (gv_t hg)))) ?_
            refine run_g_same (b := (v6.1 == v8.1)) (c := ((true && ((v1 && (v6.2.2 == v8.2.2)) == true)) && ((v6.2.2 != 0) == false))) (v := Value.int .i64 v6.2.1) rfl rfl rfl rfl (fun hg => (r_move rfl)) ?_
            refine run_g_same (b := (v6.1 == v8.1)) (c := ((true && ((v1 && (v6.2.2 == v8.2.2)) == true)) && ((v6.2.2 != 0) == false))) (v := Value.int .i64 v7.2.1) rfl rfl rfl rfl (fun hg => (r_move rfl)) ?_
            refine run_frame (by simp only [List.set_cons_zero, List.set_cons_succ]; rfl) ?_
            refine run_g_same (b := (v6.1 == v8.1)) (c := ((true && ((v1 && (v6.2.2 == v8.2.2)) == true)) && ((v6.2.2 != 0) == false))) (v := Value.int .i64 v8.2.1) rfl rfl rfl rfl (fun hg => (r_move rfl)) ?_
            refine run_g_same (b := (v6.1 == v8.1)) (c := ((true && ((v1 && (v6.2.2 == v8.2.2)) == true)) && ((v6.2.2 != 0) == false))) (v := Value.int .i64 (IntKind.wrap .i64 (v7.2.1 + v8.2.1))) rfl rfl rfl rfl (fun hg => (r_bin ((show _ = gv (((true && ((v1 && (v6.2.2 == v8.2.2)) == true)) && ((v6.2.2 != 0) == false)) && ((v6.1 == v8.1) == true)) (Value.int .i64 v7.2.1) from rfl).trans (gv_t hg)) ((show _ = gv (((true && ((v1 && (v6.2.2 == v8.2.2)) == true)) && ((v6.2.2 != 0) == false)) && ((v6.1 == v8.1) == true)) (Value.int .i64 v8.2.1) from rfl).trans (gv_t hg)) rfl)) ?_
            refine run_g_same (b := (v6.1 == v8.1)) (c := ((true && ((v1 && (v6.2.2 == v8.2.2)) == true)) && ((v6.2.2 != 0) == false))) (v := Value.bool (v6.2.1 == (IntKind.wrap .i64 (v7.2.1 + v8.2.1)))) rfl rfl rfl rfl (fun hg => (r_bin ((show _ = gv (((true && ((v1 && (v6.2.2 == v8.2.2)) == true)) && ((v6.2.2 != 0) == false)) && ((v6.1 == v8.1) == true)) (Value.int .i64 v6.2.1) from rfl).trans (gv_t hg)) ((show _ = gv (((true && ((v1 && (v6.2.2 == v8.2.2)) == true)) && ((v6.2.2 != 0) == false)) && ((v6.1 == v8.1) == true)) (Value.int .i64 (IntKind.wrap .i64 (v7.2.1 + v8.2.1))) from rfl).trans (gv_t hg)) rfl)) ?_
            refine run_g_same (b := (v6.2.2 != 0)) (c := (true && ((v1 && (v6.2.2 == v8.2.2)) == true))) (v := Value.bool ((v6.1 == v8.1) && (v6.2.1 == (IntKind.wrap .i64 (v7.2.1 + v8.2.1))))) rfl rfl rfl rfl (fun hg => (r_pick_and ((show _ = gv ((true && ((v1 && (v6.2.2 == v8.2.2)) == true)) && ((v6.2.2 != 0) == false)) (Value.bool (v6.1 == v8.1)) from rfl).trans (gv_t hg)) (fun hp => ((show _ = gv (((true && ((v1 && (v6.2.2 == v8.2.2)) == true)) && ((v6.2.2 != 0) == false)) && ((v6.1 == v8.1) == true)) (Value.bool (v6.2.1 == (IntKind.wrap .i64 (v7.2.1 + v8.2.1)))) from rfl).trans (gv_t (and_i hg hp)))) rfl)) ?_
            refine run_frame (by simp only [List.set_cons_zero, List.set_cons_succ]; rfl) ?_
            refine run_g_same (b := (v1 && (v6.2.2 == v8.2.2))) (c := true) (v := Value.bool ((v6.2.2 != 0) || ((v6.1 == v8.1) && (v6.2.1 == (IntKind.wrap .i64 (v7.2.1 + v8.2.1)))))) rfl rfl rfl rfl (fun hg => (r_pick_or ((show _ = gv (true && ((v1 && (v6.2.2 == v8.2.2)) == true)) (Value.bool (v6.2.2 != 0)) from rfl).trans (gv_t hg)) rfl (fun hp => ((show _ = gv ((true && ((v1 && (v6.2.2 == v8.2.2)) == true)) && ((v6.2.2 != 0) == false)) (Value.bool ((v6.1 == v8.1) && (v6.2.1 == (IntKind.wrap .i64 (v7.2.1 + v8.2.1))))) from rfl).trans (gv_t (and_i hg hp)))))) ?_
            refine run_same (v := Value.bool ((v1 && (v6.2.2 == v8.2.2)) && ((v6.2.2 != 0) || ((v6.1 == v8.1) && (v6.2.1 == (IntKind.wrap .i64 (v7.2.1 + v8.2.1))))))) rfl rfl (r_pick_and rfl (fun hp => ((show _ = gv (true && ((v1 && (v6.2.2 == v8.2.2)) == true)) (Value.bool ((v6.2.2 != 0) || ((v6.1 == v8.1) && (v6.2.1 == (IntKind.wrap .i64 (v7.2.1 + v8.2.1)))))) from rfl).trans (gv_t (and_i rfl hp)))) rfl) ?_
            refine run_same (v := Value.bool ((v1 && (v6.2.2 == v8.2.2)) && ((v6.2.2 != 0) || ((v6.1 == v8.1) && (v6.2.1 == (IntKind.wrap .i64 (v7.2.1 + v8.2.1))))))) rfl rfl (r_assign rfl) ?_
            try simp only [List.set_cons_zero, List.set_cons_succ]
            refine run_nil ?_
            refine norm_then ?_
            refine wp_ret ?_
            obtain rfl := Option.some.inj H
            refine bodyPost_ret (results_1 rfl (one_tmp rfl)) rfl ?_
            exact ⟨rfl, HS12.toE⟩

end Go.Proofs.YtfjppgobidjndaaDoor
/- Plain laws: resolved types, members, paths of well-formed type data. -/
namespace Go.Proofs.YtfjppgobidjndaaDoor
open Go.RowKit Go.M
theorem beqT {x y : Int} (h : x = y) : (x == y) = true := beq_iff_eq.2 h
theorem beqF {x y : Int} (h : x ≠ y) : ¬ (x == y) = true := fun e => h (beq_iff_eq.1 e)
theorem bneT {x y : Int} (h : x ≠ y) : (x != y) = true := by simpa using h
theorem bneF {x y : Int} (h : x = y) : ¬ (x != y) = true := by simp [h]
theorem decT {p : Prop} [Decidable p] (h : p) : decide p = true := decide_eq_true h
theorem decF {p : Prop} [Decidable p] (h : ¬ p) : ¬ decide p = true := fun e => h (of_decide_eq_true e)
section
variable {t : api_Types} {l : List Int}
theorem cont_alias {d : api_Def} (h : d.vKind = 6) : cont d = [d.vRef] := by
  unfold cont
  rw [if_pos (by simp [h])]
/-- the resolved type -/
theorem resolved_ev (G : GoodT t l) : ∀ i, i < t.vDefs.length → ∃ r, r < t.vDefs.length ∧ Ev (fun k => ctf_resolved.f k t (i : Int)) (r : Int) ∧ (t.vDefs.getD r z_api_Def).vKind ≠ 6 ∧ l.getD r 0 = l.getD i 0 := by
  obtain ⟨rk, B, hB⟩ := G.jn
  suffices h : ∀ (c i : Nat), rk i = c → i < t.vDefs.length → ∃ r, r < t.vDefs.length ∧ (∃ K, ∀ m, K ≤ m → ctf_resolved.l0 t m (i : Int) = some (r : Int)) ∧ (t.vDefs.getD r z_api_Def).vKind ≠ 6 ∧ l.getD r 0 = l.getD i 0 by
    intro i hi
    obtain ⟨r, h1, ⟨K, hK⟩, h3, h4⟩ := h _ i rfl hi
    refine ⟨r, h1, ⟨K, fun k hk => ?_⟩, h3, h4⟩
    show ctf_resolved.f k t (i : Int) = _
    unfold ctf_resolved.f
    rw [hK k hk]
    rfl
  intro c
  induction c using Nat.strongRecOn with
  | _ c ih =>
    intro i hc hi
    by_cases h6 : (t.vDefs.getD i z_api_Def).vKind = 6
    · have hd := G.sh _ (getD_mem (z := z_api_Def) hi)
      obtain ⟨h7, h8, h9, h10⟩ := hB i hi (G.pos i hi)
      rw [cont_alias h6] at h9
      have hr := hd.ref (.inr (.inr h6))
      obtain ⟨h11, h12⟩ := h9 _ (List.mem_singleton.2 rfl)
      obtain ⟨r, h1, ⟨K, hK⟩, h3, h4⟩ := ih _ (by rw [← hc]; exact h12) (t.vDefs.getD i z_api_Def).vRef.toNat rfl (by omega)
      refine ⟨r, h1, ⟨K + 1, fun m hm => ?_⟩, h3, ?_⟩
      · obtain ⟨m, rfl⟩ : ∃ q, m = q + 1 := ⟨m - 1, by omega⟩
        rw [ctf_resolved.l0, if_pos (by omega), rd_nat, if_pos (beqT h6)]
        rw [if_pos (by omega)]
        have := hK m (by omega)
        rwa [show (((t.vDefs.getD i z_api_Def).vRef.toNat : Nat) : Int) = (t.vDefs.getD i z_api_Def).vRef by omega] at this
      · rw [h4, h10]
        unfold nval inner
        rw [cont_alias h6, if_neg (by omega), if_neg (by omega), if_neg (by omega), if_neg (by omega), if_neg (by omega), if_pos h6]
        rfl
    · refine ⟨i, hi, ⟨1, fun m hm => ?_⟩, h6, rfl⟩
      obtain ⟨m, rfl⟩ : ∃ q, m = q + 1 := ⟨m - 1, by omega⟩
      rw [ctf_resolved.l0, if_pos (by omega), rd_nat, if_neg (beqF h6)]
/-- a member by its name, of a definition -/
def memS (d : api_Def) (name : ByteArray) : api_Field × Int :=
  if d.vKind ≠ 4 then (⟨ByteArray.empty, 0, 0⟩, 5) else match d.vFields.find? fun f => strEq f.vName name with | some f => (f, 0) | none => (⟨ByteArray.empty, 0, 0⟩, 3)
theorem member_loop {name : ByteArray} {r : Nat} (hl : (t.vDefs.getD r z_api_Def).vFields.length ≤ 9223372036854775807) : ∀ (e j m : Nat), j + e = (t.vDefs.getD r z_api_Def).vFields.length → e < m →
    ctf_member.l0 t name (r : Int) m (j : Int) = some (match ((t.vDefs.getD r z_api_Def).vFields.drop j).find? fun f => strEq f.vName name with | some f => .inl (f, 0) | none => .inr ()) := by
  intro e
  induction e with
  | zero =>
    intro j m hj hm
    obtain ⟨m, rfl⟩ : ∃ q, m = q + 1 := ⟨m - 1, by omega⟩
    rw [ctf_member.l0, rd_nat, if_neg (decF (by omega)), List.drop_eq_nil_of_le (by omega)]
    rfl
  | succ e ih =>
    intro j m hj hm
    obtain ⟨m, rfl⟩ : ∃ q, m = q + 1 := ⟨m - 1, by omega⟩
    have hlt : j < (t.vDefs.getD r z_api_Def).vFields.length := by omega
    rw [ctf_member.l0, rd_nat, if_pos (decT (by omega)), if_pos (by omega), rd_nat, drop_getD z_api_Field hlt, List.find?_cons]
    cases hb : strEq ((t.vDefs.getD r z_api_Def).vFields.getD j z_api_Field).vName name with
    | true => rw [if_pos rfl]
    | false => rw [if_neg (by simp), wrap_nat hlt hl]; exact ih (j + 1) m (by omega) (by omega)
theorem member_ev {i r : Nat} {name : ByteArray} (G : GoodT t l) (hr : r < t.vDefs.length) (he : Ev (fun k => ctf_resolved.f k t (i : Int)) (r : Int)) : Ev (fun k => ctf_member.f k t (i : Int) name) (memS (t.vDefs.getD r z_api_Def) name) := by
  have hd := G.sh _ (getD_mem (z := z_api_Def) hr)
  obtain ⟨K, hK⟩ := he
  refine ⟨max K ((t.vDefs.getD r z_api_Def).vFields.length + 1), fun k hk => ?_⟩
  show ctf_member.f k t (i : Int) name = _
  unfold ctf_member.f memS
  rw [show ctf_resolved.f k t (i : Int) = _ from hK k (by omega)]
  simp only [Option.bind_some]
  rw [if_pos (by omega), rd_nat]
  by_cases h4 : (t.vDefs.getD r z_api_Def).vKind = 4
  · rw [if_neg (bneF h4), if_neg (fun h => h h4), show ctf_member.l0 t name (r : Int) k 0 = _ from member_loop (by have := hd.few; omega) _ 0 k (Nat.zero_add _) (by omega), List.drop_zero]
    cases (t.vDefs.getD r z_api_Def).vFields.find? fun f => strEq f.vName name <;> rfl
  · rw [if_pos (bneT h4), if_pos h4]
/-- given is so -/
theorem given_good (hv : Ev (fun k => ctf_valid.f k t) true) (i : Int) : Ev (fun k => ctf_given.f k t i) (if 0 ≤ i ∧ i < t.vDefs.length then 0 else 3) := by
  obtain ⟨K, hK⟩ := hv
  refine ⟨K, fun k hk => ?_⟩
  show ctf_given.f k t i = _
  unfold ctf_given.f
  rw [show ctf_valid.f k t = _ from hK k hk]
  simp only [Option.bind_some, Bool.not_true, Bool.false_eq_true, if_false]
  by_cases h : 0 ≤ i ∧ i < t.vDefs.length
  · rw [if_pos h, if_neg (by simp; omega)]
  · rw [if_neg h, if_pos (by simp; omega)]
theorem given_bad (hv : Ev (fun k => ctf_valid.f k t) false) (i : Int) : Ev (fun k => ctf_given.f k t i) 80 := by
  obtain ⟨K, hK⟩ := hv
  refine ⟨K, fun k hk => ?_⟩
  show ctf_given.f k t i = _
  unfold ctf_given.f
  rw [show ctf_valid.f k t = _ from hK k hk]
  rfl
/-- an exported function whose input is refused -/
theorem Size_err {i e : Int} (h : Ev (fun k => ctf_given.f k t i) e) (he : e ≠ 0) : Ev (fun k => ctf_Size.f k t i) (0, e) := by
  obtain ⟨K, hK⟩ := h
  refine ⟨K, fun k hk => ?_⟩
  show ctf_Size.f k t i = _
  unfold ctf_Size.f
  rw [show ctf_given.f k t i = _ from hK k hk]
  simp [he]
theorem Resolve_err {i e : Int} (h : Ev (fun k => ctf_given.f k t i) e) (he : e ≠ 0) : Ev (fun k => ctf_Resolve.f k t i) (0, e) := by
  obtain ⟨K, hK⟩ := h
  refine ⟨K, fun k hk => ?_⟩
  show ctf_Resolve.f k t i = _
  unfold ctf_Resolve.f
  rw [show ctf_given.f k t i = _ from hK k hk]
  simp [he]
theorem given_in (hv : Ev (fun k => ctf_valid.f k t) true) {i : Nat} (hi : i < t.vDefs.length) : Ev (fun k => ctf_given.f k t (i : Int)) 0 := by
  have := given_good hv (i : Int)
  rwa [if_pos (by omega)] at this
theorem Size_ev (G : GoodT t l) (hv : Ev (fun k => ctf_valid.f k t) true) {i : Nat} (hi : i < t.vDefs.length) : Ev (fun k => ctf_Size.f k t (i : Int)) (l.getD i 0, 0) := by
  obtain ⟨K, hK⟩ := given_in hv hi
  obtain ⟨K2, hK2⟩ := G.sizes
  refine ⟨max K K2, fun k hk => ?_⟩
  show ctf_Size.f k t _ = _
  unfold ctf_Size.f
  rw [show ctf_given.f k t (i : Int) = _ from hK k (by omega)]
  simp only [Option.bind_some]
  rw [if_neg (by simp), show ctf_sizes.f k t = _ from hK2 k (by omega)]
  simp only [Option.bind_some]
  rw [if_pos (by rw [G.len]; omega), rd_nat]
theorem Resolve_ev {r : Nat} (hv : Ev (fun k => ctf_valid.f k t) true) {i : Nat} (hi : i < t.vDefs.length) (hr : Ev (fun k => ctf_resolved.f k t (i : Int)) (r : Int)) : Ev (fun k => ctf_Resolve.f k t (i : Int)) ((r : Int), 0) := by
  obtain ⟨K, hK⟩ := given_in hv hi
  obtain ⟨K2, hK2⟩ := hr
  refine ⟨max K K2, fun k hk => ?_⟩
  show ctf_Resolve.f k t _ = _
  unfold ctf_Resolve.f
  rw [show ctf_given.f k t (i : Int) = _ from hK k (by omega)]
  simp only [Option.bind_some]
  rw [if_neg (by simp), show ctf_resolved.f k t _ = _ from hK2 k (by omega)]
  rfl
theorem Member_ev {name : ByteArray} {v : api_Field × Int} (hv : Ev (fun k => ctf_valid.f k t) true) {i : Nat} (hi : i < t.vDefs.length) (hr : Ev (fun k => ctf_member.f k t (i : Int) name) v) : Ev (fun k => ctf_Member.f k t (i : Int) name) v := by
  obtain ⟨K, hK⟩ := given_in hv hi
  obtain ⟨K2, hK2⟩ := hr
  refine ⟨max K K2, fun k hk => ?_⟩
  show ctf_Member.f k t _ _ = _
  unfold ctf_Member.f
  rw [show ctf_given.f k t (i : Int) = _ from hK k (by omega)]
  simp only [Option.bind_some]
  rw [if_neg (by simp), show ctf_member.f k t _ _ = _ from hK2 k (by omega)]
  rfl

/-! ### paths -/
/-- the end of a path, by what members there are -/
def pathV (mem : Nat → ByteArray → api_Field × Int) : List ByteArray → Nat → Int → Int × Int × Int
  | [], i, a => ((i : Int), a, 0)
  | n :: r, i, a => if (mem i n).2 ≠ 0 then (0, 0, (mem i n).2) else pathV mem r (mem i n).1.vType.toNat (IntKind.wrap .i64 (a + (mem i n).1.vAt))
structure MemOk (t : api_Types) (mem : Nat → ByteArray → api_Field × Int) : Prop where
  ev : ∀ i name, i < t.vDefs.length → Ev (fun k => ctf_member.f k t (i : Int) name) (mem i name)
  typ : ∀ i name, i < t.vDefs.length → (mem i name).2 = 0 → 0 ≤ (mem i name).1.vType ∧ (mem i name).1.vType < t.vDefs.length
theorem mem_ok (G : GoodT t l) : ∃ mem, MemOk t mem := by
  have key : ∀ (i : Nat) (name : ByteArray), ∃ v : api_Field × Int, i < t.vDefs.length → Ev (fun k => ctf_member.f k t (i : Int) name) v ∧ (v.2 = 0 → 0 ≤ v.1.vType ∧ v.1.vType < t.vDefs.length) := by
    intro i name
    by_cases hi : i < t.vDefs.length
    · obtain ⟨r, h1, h2, h3, h4⟩ := resolved_ev G i hi
      refine ⟨_, fun _ => ⟨member_ev G h1 h2, ?_⟩⟩
      unfold memS
      by_cases hk : (t.vDefs.getD r z_api_Def).vKind = 4
      · rw [if_neg (fun h => h hk)]
        cases hf : (t.vDefs.getD r z_api_Def).vFields.find? fun f => strEq f.vName name with
        | none => intro h; cases h
        | some f => intro _; exact (G.sh _ (getD_mem h1)).typ hk f (List.mem_of_find?_eq_some hf)
      · rw [if_pos hk]; intro h; cases h
    · exact ⟨(⟨ByteArray.empty, 0, 0⟩, 0), fun h => absurd h hi⟩
  refine ⟨fun i name => Classical.choose (key i name), fun i name hi => (Classical.choose_spec (key i name) hi).1, fun i name hi => (Classical.choose_spec (key i name) hi).2⟩
theorem path_loop {mem : Nat → ByteArray → api_Field × Int} (hm : MemOk t mem) {p : List ByteArray} (hp : p.length ≤ 9223372036854775807) : ∀ (e j i : Nat) (a : Int), j + e = p.length → i < t.vDefs.length →
    Ev2 (fun k m => ctf_Path.l0 k t p m (i : Int) a (j : Int)) (if (pathV mem (p.drop j) i a).2.2 ≠ 0 then .inl (pathV mem (p.drop j) i a) else .inr ((pathV mem (p.drop j) i a).1, (pathV mem (p.drop j) i a).2.1)) ∧
      ((pathV mem (p.drop j) i a).2.2 = 0 → 0 ≤ (pathV mem (p.drop j) i a).1 ∧ (pathV mem (p.drop j) i a).1 < t.vDefs.length) := by
  intro e
  induction e with
  | zero =>
    intro j i a hj hi
    rw [List.drop_eq_nil_of_le (by omega)]
    refine ⟨Ev2.pure fun k m => ?_, fun _ => ?_⟩
    · rw [ctf_Path.l0, if_neg (by simp; omega)]
      simp [pathV]
    · simp only [pathV]; omega
  | succ e ih =>
    intro j i a hj hi
    have hlt : j < p.length := by omega
    rw [drop_getD ByteArray.empty hlt]
    have hev := hm.ev i (p.getD j ByteArray.empty) hi
    have hty := hm.typ i (p.getD j ByteArray.empty) hi
    have hstep : ∀ k m, ctf_Path.l0 k t p (m + 1) (i : Int) a (j : Int) = (ctf_member.f k t (i : Int) (p.getD j ByteArray.empty)).bind fun v2 => if (v2.2 != 0) = true then some (.inl (0, 0, v2.2)) else ctf_Path.l0 k t p m v2.1.vType (IntKind.wrap .i64 (a + v2.1.vAt)) (((j + 1 : Nat)) : Int) := by
      intro k m
      rw [ctf_Path.l0, if_pos (by simp; omega), if_pos (by omega), rd_nat, wrap_nat hlt hp]
    have hpv : pathV mem (p.getD j ByteArray.empty :: p.drop (j + 1)) i a = if (mem i (p.getD j ByteArray.empty)).2 ≠ 0 then (0, 0, (mem i (p.getD j ByteArray.empty)).2) else pathV mem (p.drop (j + 1)) (mem i (p.getD j ByteArray.empty)).1.vType.toNat (IntKind.wrap .i64 (a + (mem i (p.getD j ByteArray.empty)).1.vAt)) := rfl
    by_cases h0 : (mem i (p.getD j ByteArray.empty)).2 = 0
    · obtain ⟨h1, h2⟩ := hty h0
      obtain ⟨h3, h4⟩ := ih (j + 1) (mem i (p.getD j ByteArray.empty)).1.vType.toNat (IntKind.wrap .i64 (a + (mem i (p.getD j ByteArray.empty)).1.vAt)) (by omega) (by omega)
      rw [if_neg (fun h => h h0)] at hpv
      rw [hpv]
      refine ⟨Ev2.step hev ?_ hstep, h4⟩
      obtain ⟨K, hK⟩ := h3
      refine ⟨K, fun k m hk hm => ?_⟩
      show (if _ then _ else _) = _
      rw [if_neg (bneF h0)]
      have := hK k m hk hm
      rwa [show (((mem i (p.getD j ByteArray.empty)).1.vType.toNat : Nat) : Int) = (mem i (p.getD j ByteArray.empty)).1.vType by omega] at this
    · rw [if_pos h0] at hpv
      rw [hpv]
      refine ⟨Ev2.step hev ⟨0, fun k m _ _ => ?_⟩ hstep, fun h => absurd h h0⟩
      show (if _ then _ else _) = _
      rw [if_pos (bneT h0), if_pos h0]
theorem Path_ev {mem : Nat → ByteArray → api_Field × Int} (hm : MemOk t mem) (hv : Ev (fun k => ctf_valid.f k t) true) {i : Nat} (hi : i < t.vDefs.length) {p : List ByteArray} (hp : p.length ≤ 16) :
    Ev (fun k => ctf_Path.f k t (i : Int) p) (pathV mem p i 0) ∧ ((pathV mem p i 0).2.2 = 0 → 0 ≤ (pathV mem p i 0).1 ∧ (pathV mem p i 0).1 < t.vDefs.length) := by
  obtain ⟨h1, h2⟩ := path_loop hm (p := p) (by omega) p.length 0 i 0 (by omega) hi
  rw [List.drop_zero] at h1 h2
  refine ⟨?_, h2⟩
  obtain ⟨K, hK⟩ := given_in hv hi
  obtain ⟨K2, hK2⟩ := h1.diag
  refine ⟨max K K2, fun k hk => ?_⟩
  show ctf_Path.f k t _ _ = _
  unfold ctf_Path.f
  rw [show ctf_given.f k t (i : Int) = _ from hK k (by omega)]
  simp only [Option.bind_some]
  rw [if_neg (by simp), if_neg (by simp; omega), show ctf_Path.l0 k t p k (i : Int) 0 0 = _ from hK2 k (by omega)]
  simp only [Option.bind_some]
  generalize pathV mem p i 0 = v
  by_cases h0 : v.2.2 = 0
  · rw [if_neg (by simp [h0])]
    obtain ⟨a, b, c⟩ := v
    simp only at h0
    subst h0
    rfl
  · rw [if_pos h0]
theorem wrap_add (x y : Int) : IntKind.wrap .i64 (IntKind.wrap .i64 x + y) = IntKind.wrap .i64 (x + y) := by
  simp only [IntKind.wrap, IntKind.bits, IntKind.signed]
  simp
  omega
theorem wrap_add' (x y : Int) : IntKind.wrap .i64 (x + IntKind.wrap .i64 y) = IntKind.wrap .i64 (x + y) := by
  rw [Int.add_comm, wrap_add, Int.add_comm]
/-- from another offset -/
theorem path_shift (mem : Nat → ByteArray → api_Field × Int) : ∀ (r : List ByteArray) (i : Nat) (a b : Int), (pathV mem r i a).2.2 = (pathV mem r i b).2.2 ∧ (pathV mem r i a).1 = (pathV mem r i b).1 ∧
    ((pathV mem r i a).2.2 = 0 → ∃ δ, IntKind.wrap .i64 (pathV mem r i a).2.1 = IntKind.wrap .i64 (a + δ) ∧ IntKind.wrap .i64 (pathV mem r i b).2.1 = IntKind.wrap .i64 (b + δ))
  | [], i, a, b => ⟨rfl, rfl, fun _ => ⟨0, by simp [pathV], by simp [pathV]⟩⟩
  | n :: r, i, a, b => by
    simp only [pathV]
    by_cases h : (mem i n).2 = 0
    · rw [if_neg (by simp [h]), if_neg (by simp [h])]
      obtain ⟨h1, h2, h3⟩ := path_shift mem r (mem i n).1.vType.toNat (IntKind.wrap .i64 (a + (mem i n).1.vAt)) (IntKind.wrap .i64 (b + (mem i n).1.vAt))
      refine ⟨h1, h2, fun h0 => ?_⟩
      obtain ⟨δ, h4, h5⟩ := h3 h0
      refine ⟨(mem i n).1.vAt + δ, ?_, ?_⟩
      · rw [h4, wrap_add, Int.add_assoc]
      · rw [h5, wrap_add, Int.add_assoc]
    · rw [if_pos h, if_pos h]
      exact ⟨rfl, rfl, fun h0 => absurd h0 h⟩
/-- the offset is an int -/
theorem path_in (mem : Nat → ByteArray → api_Field × Int) : ∀ (r : List ByteArray) (i : Nat) (a : Int), IntKind.wrap .i64 a = a → IntKind.wrap .i64 (pathV mem r i a).2.1 = (pathV mem r i a).2.1
  | [], i, a, h => by simpa [pathV] using h
  | n :: r, i, a, h => by
    simp only [pathV]
    by_cases h0 : (mem i n).2 = 0
    · rw [if_neg (by simp [h0])]
      exact path_in mem r _ _ (by have := wrap_add (a + (mem i n).1.vAt) 0; simpa using this)
    · rw [if_pos h0]; rfl
end
end Go.Proofs.YtfjppgobidjndaaDoor
/- Plain laws: the chapter's examples. -/
namespace Go.Proofs.YtfjppgobidjndaaDoor
open Go.RowKit Go.M
set_option maxRecDepth 100000 in
theorem sane_at (k : Nat) : taplinelaw08_sane.f (k + 60) = some true := by kernel_rfl
theorem sane_ev : Ev (fun k => taplinelaw08_sane.f k) true := ⟨60, fun k hk => by
  obtain ⟨m, rfl⟩ : ∃ m, k = m + 60 := ⟨k - 60, by omega⟩
  exact sane_at m⟩
end Go.Proofs.YtfjppgobidjndaaDoor
/- Plain law: CtfMembers. -/
namespace Go.Proofs.YtfjppgobidjndaaDoor
open Go.RowKit Go.M
section
variable {t : api_Types} {l : List Int}
theorem size_le (G : GoodT t l) {j : Nat} (hj : j < t.vDefs.length) : 0 < l.getD j 0 ∧ l.getD j 0 ≤ 512 := by
  obtain ⟨rk, B, hB⟩ := G.jn
  exact ⟨G.pos j hj, (hB j hj (G.pos j hj)).2.1⟩
theorem size_rd (G : GoodT t l) {x : Int} (h0 : 0 ≤ x) (h1 : x < t.vDefs.length) : 0 < rd 0 l x ∧ rd 0 l x ≤ 512 := by
  have := size_le G (j := x.toNat) (by omega)
  simpa [rd] using this
theorem placed_mono (G : GoodT t l) : ∀ (fs : List api_Field) (a e : Int), (∀ f ∈ fs, 0 ≤ f.vType ∧ f.vType < t.vDefs.length) → 0 ≤ a → placedAt l a fs = some e → a ≤ e
  | [], a, e, _, _, h => by simp only [placedAt, Option.some.injEq] at h; omega
  | f :: r, a, e, ht, ha, h => by
    simp only [placedAt] at h
    split at h
    · cases h
    · rename_i hc
      have hf := ht f List.mem_cons_self
      have hs := size_rd G hf.1 hf.2
      simp only [Bool.or_eq_true, decide_eq_true_eq, not_or] at hc
      rw [wrap_id (by omega) (by omega)] at h
      have := placed_mono G r _ e (fun g hg => ht g (List.mem_cons_of_mem _ hg)) (by omega) h
      omega
theorem find_name : ∀ (fs : List api_Field) (j : Nat), (fs.map (·.vName)).Nodup → j < fs.length → fs.find? (fun f => strEq f.vName (fs.getD j z_api_Field).vName) = some (fs.getD j z_api_Field)
  | [], j, _, h => by simp at h
  | f :: fs, 0, hn, h => by
    rw [List.find?_cons, List.getD_cons_zero, strEq_iff.2 rfl]
  | f :: fs, j + 1, hn, h => by
    rw [List.map_cons, List.nodup_cons] at hn
    have hlt : j < fs.length := by simpa using h
    rw [List.getD_cons_succ, List.find?_cons]
    have : strEq f.vName (fs.getD j z_api_Field).vName = false := by
      cases hb : strEq f.vName (fs.getD j z_api_Field).vName with
      | false => rfl
      | true =>
        have := strEq_iff.1 hb
        exact absurd (List.mem_map.2 ⟨_, getD_mem (z := z_api_Field) hlt, this.symm⟩) hn.1
    rw [this]
    exact find_name fs j hn.2 hlt
theorem members_loop (G : GoodT t l) (hv : Ev (fun k => ctf_valid.f k t) true) {i r : Nat} (hi : i < t.vDefs.length) (hr : r < t.vDefs.length) (he : Ev (fun k => ctf_resolved.f k t (i : Int)) (r : Int)) {sz : Int}
    (h4 : (t.vDefs.getD r z_api_Def).vKind = 4) (hsz : sz = (t.vDefs.getD r z_api_Def).vN) : ∀ (e j : Nat) (end_ fin : Int), j + e = (t.vDefs.getD r z_api_Def).vFields.length → 0 ≤ end_ → placedAt l end_ ((t.vDefs.getD r z_api_Def).vFields.drop j) = some fin → fin ≤ (t.vDefs.getD r z_api_Def).vN →
    Ev2 (fun k m => taplinelaw08_CtfMembers.l0 k t (i : Int) (sz, 0) ((r : Int), 0) m end_ (j : Int)) (.inr ()) := by
  have hd := G.sh _ (getD_mem (z := z_api_Def) hr)
  intro e
  induction e with
  | zero =>
    intro j end_ fin hj h0 hp hf
    refine Ev2.pure fun k m => ?_
    rw [taplinelaw08_CtfMembers.l0, if_pos (by show 0 ≤ (r : Int) ∧ (r : Int) < _; omega)]
    simp only []
    rw [rd_nat, if_pos (by intro _; omega), if_neg (by
      simp only [Bool.and_eq_true, decide_eq_true_eq]
      omega)]
  | succ e ih =>
    intro j end_ fin hj h0 hp hf
    have hlt : j < (t.vDefs.getD r z_api_Def).vFields.length := by omega
    have hfm := getD_mem (z := z_api_Field) hlt
    have hty := hd.typ h4 _ hfm
    rw [drop_getD z_api_Field hlt] at hp
    simp only [placedAt] at hp
    split at hp
    · cases hp
    · rename_i hc
      simp only [Bool.or_eq_true, decide_eq_true_eq, not_or] at hc
      have hs := size_rd G hty.1 hty.2
      have hw : IntKind.wrap .i64 (((t.vDefs.getD r z_api_Def).vFields.getD j z_api_Field).vAt + rd 0 l ((t.vDefs.getD r z_api_Def).vFields.getD j z_api_Field).vType) = ((t.vDefs.getD r z_api_Def).vFields.getD j z_api_Field).vAt + rd 0 l ((t.vDefs.getD r z_api_Def).vFields.getD j z_api_Field).vType := wrap_id (by omega) (by omega)
      have hmono := placed_mono G _ _ fin (fun g hg => hd.typ h4 g (List.mem_of_mem_drop hg)) (by rw [hw]; omega) hp
      obtain ⟨K1, hK1⟩ := ih (j + 1) _ fin (by omega) (by rw [hw]; omega) hp hf
      have hmem : memS (t.vDefs.getD r z_api_Def) ((t.vDefs.getD r z_api_Def).vFields.getD j z_api_Field).vName = ((t.vDefs.getD r z_api_Def).vFields.getD j z_api_Field, 0) := by
        unfold memS
        rw [if_neg (fun h => h h4), find_name _ _ hd.names hlt]
      have hM := Member_ev hv hi (member_ev (name := ((t.vDefs.getD r z_api_Def).vFields.getD j z_api_Field).vName) G hr he)
      rw [hmem] at hM
      obtain ⟨K2, hK2⟩ := hM
      obtain ⟨q, hq⟩ : ∃ q : Nat, ((t.vDefs.getD r z_api_Def).vFields.getD j z_api_Field).vType = (q : Int) := ⟨((t.vDefs.getD r z_api_Def).vFields.getD j z_api_Field).vType.toNat, by omega⟩
      obtain ⟨K3, hK3⟩ := Size_ev G hv (i := q) (by omega)
      refine ⟨max K1 (max K2 K3) + 1, fun k m hk hm => ?_⟩
      obtain ⟨m, rfl⟩ : ∃ q, m = q + 1 := ⟨m - 1, by omega⟩
      show taplinelaw08_CtfMembers.l0 k t (i : Int) (sz, 0) ((r : Int), 0) (m + 1) end_ (j : Int) = _
      rw [taplinelaw08_CtfMembers.l0, if_pos (by show 0 ≤ (r : Int) ∧ (r : Int) < _; omega)]
      simp only []
      rw [rd_nat, if_pos (by intro _; omega), if_pos (by
        simp only [Bool.and_eq_true, decide_eq_true_eq, beq_iff_eq]
        exact ⟨by omega, h4⟩), if_pos (by omega), if_pos (by omega), rd_nat, show ctf_Member.f k t _ _ = _ from hK2 k (by omega)]
      simp only [Option.bind_some]
      rw [hq, show ctf_Size.f k t _ = _ from hK3 k (by omega)]
      simp only [Option.bind_some]
      have hrd : rd 0 l ((t.vDefs.getD r z_api_Def).vFields.getD j z_api_Field).vType = l.getD q 0 := by rw [hq, rd_nat]
      rw [hrd] at hw hmono hs hK1
      rw [if_neg, wrap_nat hlt (by have := hd.few; omega)]
      · exact hK1 k m (by omega) (by omega)
      · rw [hw]
        simp only [bne_self_eq_false, Bool.false_or, Bool.or_eq_true, decide_eq_true_eq, not_or]
        rw [hw] at hmono
        omega
end
theorem members_ev {t : api_Types} (hF : ∀ d ∈ t.vDefs, FitD d) (i : Int) (p : List ByteArray) (hp : p.length ≤ 9223372036854775807) : Ev (fun k => taplinelaw08_CtfMembers.f k t i p) true := by
  obtain ⟨Ks, hKs⟩ := sane_ev
  obtain ⟨b, hb, hg⟩ := valid_ev hF
  have bad : ∀ e : Int, e ≠ 0 → Ev (fun k => ctf_given.f k t i) e → Ev (fun k => taplinelaw08_CtfMembers.f k t i p) true := by
    intro e he hge
    obtain ⟨K1, hK1⟩ := Size_err hge he
    obtain ⟨K2, hK2⟩ := Resolve_err hge he
    refine ⟨max Ks (max K1 K2), fun k hk => ?_⟩
    show taplinelaw08_CtfMembers.f k t i p = _
    unfold taplinelaw08_CtfMembers.f
    rw [show taplinelaw08_sane.f k = _ from hKs k (by omega)]
    simp only [Option.bind_some]
    rw [show ctf_Size.f k t i = _ from hK1 k (by omega)]
    simp only [Option.bind_some]
    rw [show ctf_Resolve.f k t i = _ from hK2 k (by omega)]
    simp [he]
  cases b with
  | false => exact bad 80 (by decide) (given_bad hb i)
  | true =>
    obtain ⟨l, G⟩ := hg rfl
    by_cases hin : 0 ≤ i ∧ i < t.vDefs.length
    · obtain ⟨i, rfl⟩ : ∃ n : Nat, i = (n : Int) := ⟨i.toNat, by omega⟩
      have hi : i < t.vDefs.length := by omega
      obtain ⟨r, hr, her, hk6, hl⟩ := resolved_ev G i hi
      obtain ⟨K1, hK1⟩ := Size_ev G hb hi
      obtain ⟨K2, hK2⟩ := Resolve_ev hb hi her
      have hloop : Ev (fun k => taplinelaw08_CtfMembers.l0 k t (i : Int) (l.getD i 0, 0) ((r : Int), 0) k 0 0) (.inr ()) := by
        by_cases h4 : (t.vDefs.getD r z_api_Def).vKind = 4
        · have hpl := G.placed _ (getD_mem (z := z_api_Def) hr) h4
          unfold placedS at hpl
          cases hpa : placedAt l 0 (t.vDefs.getD r z_api_Def).vFields with
          | none => rw [hpa] at hpl; cases hpl
          | some fin =>
            rw [hpa] at hpl
            have hsz : l.getD i 0 = (t.vDefs.getD r z_api_Def).vN := by
              obtain ⟨rk, B, hB⟩ := G.jn
              rw [← hl, (hB r hr (G.pos r hr)).2.2.2]
              unfold nval
              rw [if_neg (by omega), if_neg (by omega), if_neg (by omega), if_pos h4]
            exact (members_loop G hb hi hr her h4 hsz _ 0 0 fin (Nat.zero_add _) (by decide) (by rw [List.drop_zero]; exact hpa) (by simpa using hpl)).diag
        · refine (Ev2.pure (f := fun k m => taplinelaw08_CtfMembers.l0 k t (i : Int) (l.getD i 0, 0) ((r : Int), 0) m 0 0) fun k m => ?_).diag
          rw [taplinelaw08_CtfMembers.l0, if_pos (by show 0 ≤ (r : Int) ∧ (r : Int) < _; omega)]
          simp only []
          rw [rd_nat, if_pos (by intro _; omega), if_neg (by
            simp only [Bool.and_eq_true, beq_iff_eq]
            exact fun h => h4 h.2)]
      obtain ⟨K3, hK3⟩ := hloop
      obtain ⟨mem, hm⟩ := mem_ok G
      have start : ∀ k, max Ks (max K1 (max K2 K3)) ≤ k → taplinelaw08_CtfMembers.f k t (i : Int) p = if (((p.length : Int) == 0) || (decide ((p.length : Int) > 16))) = true then some true else ((ctf_Path.f k t (i : Int) p).bind fun v6 => (if 0 ≤ (1 : Int) ∧ 1 ≤ (p.length : Int) then ((ctf_Path.f k t (i : Int) (List.take (1 : Int).toNat p)).bind fun v7 => (if (v7.2.2 != 0) = true then (some (true && (v6.2.2 == v7.2.2))) else (if 0 ≤ (1 : Int) ∧ 1 ≤ (p.length : Int) then ((ctf_Path.f k t v7.1 (List.drop (1 : Int).toNat p)).bind fun v8 => (some ((true && (v6.2.2 == v8.2.2)) && ((v6.2.2 != 0) || ((v6.1 == v8.1) && (v6.2.1 == (IntKind.wrap .i64 (v7.2.1 + v8.2.1)))))))) else none))) else none)) := by
        intro k hk
        unfold taplinelaw08_CtfMembers.f
        rw [show taplinelaw08_sane.f k = _ from hKs k (by omega)]
        simp only [Option.bind_some]
        rw [show ctf_Size.f k t _ = _ from hK1 k (by omega)]
        simp only [Option.bind_some]
        rw [show ctf_Resolve.f k t _ = _ from hK2 k (by omega)]
        simp only [Option.bind_some]
        rw [if_neg (by simp), if_neg (by simp; omega), show taplinelaw08_CtfMembers.l0 k t _ _ _ k 0 0 = _ from hK3 k (by omega)]
        rfl
      by_cases hlen : ((p.length : Int) == 0 || decide ((p.length : Int) > 16)) = true
      · exact ⟨_, fun k hk => (start k hk).trans (by rw [if_pos hlen])⟩
      · have hl1 : 1 ≤ p.length ∧ p.length ≤ 16 := by
          simp only [Bool.or_eq_true, beq_iff_eq, decide_eq_true_eq, not_or] at hlen
          omega
        obtain ⟨n, ps, rfl⟩ : ∃ n ps, p = n :: ps := by
          cases p with
          | nil => simp at hl1
          | cons n ps => exact ⟨n, ps, rfl⟩
        obtain ⟨⟨K6, hK6⟩, _⟩ := Path_ev hm hb hi (p := n :: ps) hl1.2
        obtain ⟨⟨K7, hK7⟩, hin7⟩ := Path_ev hm hb hi (p := [n]) (by simp)
        have htk : List.take (1 : Int).toNat (n :: ps) = [n] := rfl
        have hdr : List.drop (1 : Int).toNat (n :: ps) = ps := rfl
        have e7 : pathV mem [n] i 0 = if (mem i n).2 ≠ 0 then (0, 0, (mem i n).2) else ((((mem i n).1.vType.toNat : Nat) : Int), IntKind.wrap .i64 (0 + (mem i n).1.vAt), 0) := rfl
        have e6 : pathV mem (n :: ps) i 0 = if (mem i n).2 ≠ 0 then (0, 0, (mem i n).2) else pathV mem ps (mem i n).1.vType.toNat (IntKind.wrap .i64 (0 + (mem i n).1.vAt)) := rfl
        by_cases h0 : (mem i n).2 = 0
        · rw [if_neg (fun h => h h0)] at e6 e7
          have hty := hm.typ i n hi h0
          obtain ⟨⟨K8, hK8⟩, _⟩ := Path_ev hm hb (i := (mem i n).1.vType.toNat) (by omega) (p := ps) (by simp at hl1; omega)
          refine ⟨max (max Ks (max K1 (max K2 K3))) (max K6 (max K7 K8)), fun k hk => (start k (by omega)).trans ?_⟩
          rw [if_neg hlen, htk, hdr, show ctf_Path.f k t _ (n :: ps) = _ from hK6 k (by omega)]
          simp only [Option.bind_some]
          rw [if_pos (by omega), show ctf_Path.f k t _ [n] = _ from hK7 k (by omega), e7]
          simp only [Option.bind_some]
          rw [if_neg (by simp), if_pos (by omega), show ctf_Path.f k t _ ps = _ from hK8 k (by omega), e6]
          simp only [Option.bind_some]
          obtain ⟨h1, h2, h3⟩ := path_shift mem ps (mem i n).1.vType.toNat (IntKind.wrap .i64 (0 + (mem i n).1.vAt)) 0
          rw [h1, h2]
          by_cases hz : (pathV mem ps (mem i n).1.vType.toNat 0).2.2 = 0
          · obtain ⟨δ, h5, h6⟩ := h3 (by rw [h1]; exact hz)
            rw [path_in mem ps _ _ (by have := wrap_add (0 + (mem i n).1.vAt) 0; simpa using this)] at h5
            rw [path_in mem ps _ _ (by rfl)] at h6
            rw [h5, h6, Int.zero_add, wrap_add']
            simp
          · simp [hz]
        · rw [if_pos h0] at e6 e7
          refine ⟨max (max Ks (max K1 (max K2 K3))) (max K6 K7), fun k hk => (start k (by omega)).trans ?_⟩
          rw [if_neg hlen, htk, show ctf_Path.f k t _ (n :: ps) = _ from hK6 k (by omega)]
          simp only [Option.bind_some]
          rw [if_pos (by omega), show ctf_Path.f k t _ [n] = _ from hK7 k (by omega), e6, e7]
          simp only [Option.bind_some]
          rw [if_pos (bneT h0)]
          simp
    · have := given_good hb i
      rw [if_neg hin] at this
      exact bad 3 (by decide) this
end Go.Proofs.YtfjppgobidjndaaDoor
