/- Parts of a proof, merged by program: F84 F41 R3 G2 F23 F24 F61 F63 F62 F27 F28 F29 F9 R5 F130 F129 F85 F156 F157 F115 F116 F121 F118 F158 F117 F120 F119 F74 F53 F89 F54 F19 F55 F20 F34 F72 F36 F78 F123 F124 F125 F126 F77 F127 F79 F80 F81 F38 F82 F83 F40 F42 F44 GA P1 P2 P3 P4 C2 C3. The walks (each function once) and the plain laws; no condition of their own. -/
import Derived.Test.YtecpbadkdpbkpaaGreatDoorLod4
set_option linter.unusedVariables false
set_option linter.unusedSimpArgs false
namespace Go.Proofs.YtecpbadkdpbkpaaGreatDoor
open Go.RowKit Go.M
def taplineref01_FromBytes.l0 (a1 : List Int) : Nat → Int → Int → Option (Int)
  | 0, _, _ => none
  | m + 1, y1_0, y1_1 => if (decide (y1_1 ≥ 0)) = true then (if 0 ≤ y1_1 ∧ y1_1 < a1.length then (taplineref01_FromBytes.l0 a1 m (IntKind.wrap .i64 ((IntKind.wrap .i64 (256 * y1_0)) + (IntKind.wrap .i64 (rd 0 a1 y1_1)))) (IntKind.wrap .i64 (y1_1 - 1))) else none) else (some y1_0)
def taplineref01_FromBytes.f (k : Nat) (a0 : api_Int) (a1 : List Int) : Option (Int × Int) := (taplineref01_Check.f a0).bind fun v1 => (if (v1 != 0) = true then (some (0, v1)) else (if ((a1.length : Int) != a0.vSize) = true then (some (0, 1)) else ((taplineref01_FromBytes.l0 a1 k 0 (IntKind.wrap .i64 ((a1.length : Int) - 1))).bind fun xx1 => ((taplineref01_Wrapped.f a0 xx1).bind fun v2 => (some (v2, 0))))))
set_option maxRecDepth 20000 in
set_option maxHeartbeats 4000000 in
theorem taplineref01_FromBytes.calls (k : Nat) (a0 : api_Int) (a1 : List Int) (A1_0 : Option Addr) (c1_0 : Nat) {h0 : View} {w0 : World} (hv : Sees h0 w0) (hr1_0 : Rd (Kd.int .u8) h0 A1_0 a1) (hc1_0 : a1.length ≤ c1_0) {r : Int × Int} (H : taplineref01_FromBytes.f k a0 a1 = some r) : Calls Tryz.prog 84 #[Value.agg #[Value.int .i64 a0.vSize, Value.bool a0.vSigned], Value.slice A1_0 a1.length c1_0] w0 (fun e w1 => e = .returned (Value.tuple #[Value.int .i64 r.1, Value.int .i64 r.2]) ∧ Ext w0 w1) := by
  unfold taplineref01_FromBytes.f at H
  have HS : St [] h0 w0 h0 [] w0 := St.init hv
  go_enter Tryz.func84, Tryz.ntmps84
  refine wp_seq ?_
  refine region ?_
  refine run_ex rfl rfl (does_box (cs := #[Value.int .i64 a0.vSize, Value.bool a0.vSigned]) rfl rfl) ?_
  rintro w1 _ hE1 ⟨b1, rfl, ge1, hb1⟩
  have HS1 := HS.new hE1 ge1 hb1
  refine run_same (v := Value.int .i64 0) rfl rfl (r_assign rfl) ?_
  refine run_same (v := Value.int .i64 0) rfl rfl (r_assign rfl) ?_
  try simp only [List.set_cons_zero, List.set_cons_succ]
  refine run_nil ?_
  refine norm_then ?_
  refine wp_seq ?_
  refine wp_seq ?_
  refine region ?_
  refine run_same (v := Value.agg #[Value.int .i64 a0.vSize, Value.bool a0.vSigned]) rfl rfl (r_loadBoxAgg (n := 2) (vs := [Value.int .i64 a0.vSize, Value.bool a0.vSigned]) rfl Tryz.isAgg29 (HS1.look 0 rfl) Tryz.sizeOf29 rfl rfl) ?_
  obtain ⟨v1, H1, H⟩ := of_bind H
  refine run_eq (v := Value.int .i64 v1) rfl rfl (does_call_eq Tryz.call64 rfl rfl (taplineref01_Check.calls a0 HS1.sees H1)) ?_
  intro w2 hE2
  have HS2 := HS1.step hE2
  refine run_same (v := Value.int .i64 v1) rfl rfl (r_assign rfl) ?_
  try simp only [List.set_cons_zero, List.set_cons_succ]
  refine run_nil ?_
  refine norm_then ?_
  refine wp_seq ?_
  refine region ?_
  refine run_same (v := Value.int .i64 v1) rfl rfl (r_move rfl) ?_
  refine run_same (v := Value.bool (v1 != 0)) rfl rfl (r_bin rfl rfl rfl) ?_
  try simp only [List.set_cons_zero, List.set_cons_succ]
  refine run_nil ?_
  refine norm_then ?_
  refine wp_cond_split (t := (v1 != 0)) rfl (fun c1 => ?_) (fun c1 => ?_)
  · replace H := of_pos H c1
    refine wp_seq ?_
    refine region ?_
    refine run_same (v := Value.int .i64 v1) rfl rfl (r_move rfl) ?_
    refine run_same (v := Value.int .i64 0) rfl rfl (r_assign rfl) ?_
    refine run_same (v := Value.int .i64 v1) rfl rfl (r_assign rfl) ?_
    try simp only [List.set_cons_zero, List.set_cons_succ]
    refine run_nil ?_
    refine norm_then ?_
    refine wp_ret ?_
    refine ret_then ?_
    obtain rfl := Option.some.inj H
    refine bodyPost_ret (results_2 rfl (one_tmp rfl) (one_tmp rfl)) rfl ?_
    exact ⟨rfl, HS2.toE⟩
  · replace H := of_neg H (nt c1)
    refine wp_skip ?_
    refine norm_then ?_
    refine wp_seq ?_
    refine wp_seq ?_
    refine region ?_
    refine run_same (v := Value.slice A1_0 a1.length c1_0) rfl rfl (r_move rfl) ?_
    refine run_same (v := Value.int .i64 (a1.length : Int)) rfl rfl (r_len rfl Tryz.runUnderlying42) ?_
    refine run_same (v := Value.pointer (some ⟨b1, 0, none⟩)) rfl rfl (r_fieldBox (n := 1) (o' := 0) rfl Tryz.runUnderlying29 rfl Tryz.sizeOf3 (by decide) rfl) ?_
    refine run_same (v := Value.int .i64 a0.vSize) rfl rfl (r_loadBox rfl Tryz.isAgg3 (HS2.look 0 rfl) rfl) ?_
    refine run_frame (by simp only [List.set_cons_zero, List.set_cons_succ]; rfl) ?_
    refine run_same (v := Value.bool ((a1.length : Int) != a0.vSize)) rfl rfl (r_bin rfl rfl rfl) ?_
    try simp only [List.set_cons_zero, List.set_cons_succ]
    refine run_nil ?_
    refine norm_then ?_
    refine wp_cond_split (t := ((a1.length : Int) != a0.vSize)) rfl (fun c2 => ?_) (fun c2 => ?_)
    · replace H := of_pos H c2
      refine wp_seq ?_
      refine region ?_
      refine run_same (v := Value.int .i64 0) rfl rfl (r_assign rfl) ?_
      refine run_same (v := Value.int .i64 1) rfl rfl (r_assign rfl) ?_
      try simp only [List.set_cons_zero, List.set_cons_succ]
      refine run_nil ?_
      refine norm_then ?_
      refine wp_ret ?_
      refine ret_then ?_
      obtain rfl := Option.some.inj H
      refine bodyPost_ret (results_2 rfl (one_tmp rfl) (one_tmp rfl)) rfl ?_
      exact ⟨rfl, HS2.toE⟩
    · replace H := of_neg H (nt c2)
      refine wp_skip ?_
      refine norm_then ?_
      refine wp_seq ?_
      refine region ?_
      refine run_same (v := Value.int .i64 0) rfl rfl (r_assign rfl) ?_
      try simp only [List.set_cons_zero, List.set_cons_succ]
      refine run_nil ?_
      refine norm_then ?_
      refine wp_seq ?_
      refine wp_seq ?_
      refine region ?_
      refine run_same (v := Value.slice A1_0 a1.length c1_0) rfl rfl (r_move rfl) ?_
      refine run_same (v := Value.int .i64 (a1.length : Int)) rfl rfl (r_len rfl Tryz.runUnderlying42) ?_
      refine run_same (v := Value.int .i64 (IntKind.wrap .i64 ((a1.length : Int) - 1))) rfl rfl (r_bin rfl rfl rfl) ?_
      refine run_same (v := Value.int .i64 (IntKind.wrap .i64 ((a1.length : Int) - 1))) rfl rfl (r_assign rfl) ?_
      try simp only [List.set_cons_zero, List.set_cons_succ]
      refine run_nil ?_
      refine norm_then ?_
      obtain ⟨xx1, H, G1⟩ := of_bind H
      refine loop_j [7, 8, 22, 23, 24, 25, 26, 27, 28, 29, 30, 31, 32, 33] (fun m us w' => ∃ (y1_0 : Int), ∃ (y1_1 : Int), Fit us (fun uy1 => [Value.int .i64 y1_0, Value.int .i64 y1_1, (uy1 2), (uy1 3), (uy1 4), (uy1 5), (uy1 6), (uy1 7), (uy1 8), (uy1 9), (uy1 10), (uy1 11), (uy1 12), (uy1 13)]) ∧ taplineref01_FromBytes.l0 a1 m y1_0 y1_1 = some xx1 ∧ St [] h0 w0 h0 [(some b1, .cells #[Value.int .i64 a0.vSize, Value.bool a0.vSigned] 29 (0, 0))] w') (fun us w' => Fit us (fun uo1 => [Value.int .i64 xx1, (uo1 1), (uo1 2), (uo1 3), (uo1 4), (uo1 5), (uo1 6), (uo1 7), (uo1 8), (uo1 9), (uo1 10), (uo1 11), (uo1 12), (uo1 13)]) ∧ St [] h0 w0 h0 [(some b1, .cells #[Value.int .i64 a0.vSize, Value.bool a0.vSigned] 29 (0, 0))] w') k ⟨0, (IntKind.wrap .i64 ((a1.length : Int) - 1)), (fit rfl), H, HS2⟩ ?_ ?_
      · rintro m us w3 ⟨y1_0, y1_1, huy1, H, HS3⟩
        obtain ⟨uy1, rfl⟩ := unj huy1
        cases m with
        | zero => exact absurd H (by simp [taplineref01_FromBytes.l0])
        | succ m =>
          rw [taplineref01_FromBytes.l0] at H
          try simp only [patch, List.set_cons_zero, List.set_cons_succ]
          refine wp_seq ?_
          refine wp_seq ?_
          refine region ?_
          refine run_same (v := Value.int .i64 y1_1) rfl rfl (r_move rfl) ?_
          refine run_same (v := Value.bool (decide (y1_1 ≥ 0))) rfl rfl (r_bin rfl rfl rfl) ?_
          try simp only [List.set_cons_zero, List.set_cons_succ]
          refine run_nil ?_
          refine norm_then ?_
          refine wp_cond_split (t := (decide (y1_1 ≥ 0))) rfl (fun c3 => ?_) (fun c3 => ?_)
          · replace H := of_pos H c3
            refine wp_skip ?_
            refine norm_then ?_
            refine wp_seq ?_
            refine wp_block ?_
            refine region ?_
            refine run_same (v := Value.int .i64 y1_0) rfl rfl (r_move rfl) ?_
            refine run_same (v := Value.int .i64 (IntKind.wrap .i64 (256 * y1_0))) rfl rfl (r_bin rfl rfl rfl) ?_
            refine run_same (v := Value.slice A1_0 a1.length c1_0) rfl rfl (r_move rfl) ?_
            refine run_same (v := Value.int .i64 y1_1) rfl rfl (r_move rfl) ?_
            refine run_frame (by simp only [List.set_cons_zero, List.set_cons_succ]; rfl) ?_
            obtain ⟨hi1, H⟩ := of_ite H
            obtain ⟨ad1, e1, hel1⟩ := ld_int hr1_0 hi1.1 hi1.2
            refine run_same (v := Value.pointer (some (Addr.add ad1 (y1_1.toNat * 1)))) rfl rfl (r_indexA (sz := 1) rfl e1 rfl hi1.1 hi1.2 Tryz.runUnderlying42 Tryz.sizeOf5) ?_
            refine run_same (v := Value.int .u8 (rd 0 a1 y1_1)) rfl rfl (r_load rfl Tryz.isAgg5 (hel1.cell0 HS3.sees rfl)) ?_
            refine run_same (v := Value.int .i64 (IntKind.wrap .i64 (rd 0 a1 y1_1))) rfl rfl (r_conv rfl Tryz.runUnderlying5 Tryz.runUnderlying2) ?_
            refine run_same (v := Value.int .i64 (IntKind.wrap .i64 ((IntKind.wrap .i64 (256 * y1_0)) + (IntKind.wrap .i64 (rd 0 a1 y1_1))))) rfl rfl (r_bin rfl rfl rfl) ?_
            refine run_frame (by simp only [List.set_cons_zero, List.set_cons_succ]; rfl) ?_
            refine run_same (v := Value.int .i64 (IntKind.wrap .i64 ((IntKind.wrap .i64 (256 * y1_0)) + (IntKind.wrap .i64 (rd 0 a1 y1_1))))) rfl rfl (r_assign rfl) ?_
            try simp only [List.set_cons_zero, List.set_cons_succ]
            refine run_nil ?_
            refine norm_block ?_
            refine norm_then ?_
            refine region ?_
            refine run_same (v := Value.int .i64 y1_1) rfl rfl (r_move rfl) ?_
            refine run_same (v := Value.int .i64 (IntKind.wrap .i64 (y1_1 - 1))) rfl rfl (r_bin rfl rfl rfl) ?_
            refine run_same (v := Value.int .i64 (IntKind.wrap .i64 (y1_1 - 1))) rfl rfl (r_assign rfl) ?_
            try simp only [List.set_cons_zero, List.set_cons_succ]
            refine run_nil ?_
            refine again_j m (Nat.lt_succ_self m) rfl ⟨(IntKind.wrap .i64 ((IntKind.wrap .i64 (256 * y1_0)) + (IntKind.wrap .i64 (rd 0 a1 y1_1)))), (IntKind.wrap .i64 (y1_1 - 1)), (fit rfl), H, HS3⟩
          · replace H := of_neg H (nt c3)
            refine wp_exit ?_
            refine exit_then ?_
            obtain rfl := Option.some.inj H
            refine leave_j rfl ⟨(fit rfl), HS3⟩
      · rintro us w4 ⟨huo1, HS4⟩
        obtain ⟨uo1, rfl⟩ := unj huo1
        replace H := G1
        clear G1
        try simp only [patch, List.set_cons_zero, List.set_cons_succ]
        refine norm_then ?_
        refine wp_seq ?_
        refine region ?_
        refine run_same (v := Value.agg #[Value.int .i64 a0.vSize, Value.bool a0.vSigned]) rfl rfl (r_loadBoxAgg (n := 2) (vs := [Value.int .i64 a0.vSize, Value.bool a0.vSigned]) rfl Tryz.isAgg29 (HS4.look 0 rfl) Tryz.sizeOf29 rfl rfl) ?_
        refine run_same (v := Value.int .i64 xx1) rfl rfl (r_move rfl) ?_
        obtain ⟨v2, H2, H⟩ := of_bind H
        refine run_eq (v := Value.int .i64 v2) rfl rfl (does_call_eq Tryz.call128 rfl rfl (taplineref01_Wrapped.calls a0 xx1 HS4.sees H2)) ?_
        intro w5 hE3
        have HS5 := HS4.step hE3
        refine run_same (v := Value.int .i64 v2) rfl rfl (r_assign rfl) ?_
        refine run_frame (by simp only [List.set_cons_zero, List.set_cons_succ]; rfl) ?_
        refine run_same (v := Value.int .i64 0) rfl rfl (r_assign rfl) ?_
        try simp only [List.set_cons_zero, List.set_cons_succ]
        refine run_nil ?_
        refine norm_then ?_
        refine wp_ret ?_
        obtain rfl := Option.some.inj H
        refine bodyPost_ret (results_2 rfl (one_tmp rfl) (one_tmp rfl)) rfl ?_
        exact ⟨rfl, HS5.toE⟩

end Go.Proofs.YtecpbadkdpbkpaaGreatDoor
namespace Go.Proofs.YtecpbadkdpbkpaaGreatDoor
open Go.RowKit Go.M
def taplineref09_Value.f (k : Nat) (a0 : api_Image) (a1 : Int) (a2 : api_Int) : Option (taplineref09_Loaded) := (taplineref09_Bytes.f k a0 a1 a2.vSize).bind fun v1 => (if (!v1.2) = true then (some (⟨0, false, 0⟩ : taplineref09_Loaded)) else ((taplineref01_FromBytes.f k a2 v1.1).bind fun v2 => (some (⟨v2.1, true, 0⟩ : taplineref09_Loaded))))
set_option maxRecDepth 20000 in
set_option maxHeartbeats 4000000 in
theorem taplineref09_Value.calls (k : Nat) (a0 : api_Image) (a1 : Int) (a2 : api_Int) (A0_0 : Option Addr) (c0_0 : Nat) {h0 : View} {w0 : World} (hv : Sees h0 w0) (hr0_0 : Rd k_api_Segment h0 A0_0 a0.vSegs) (hc0_0 : a0.vSegs.length ≤ c0_0) {r : taplineref09_Loaded} (H : taplineref09_Value.f k a0 a1 a2 = some r) : Calls Tryz.prog 41 #[Value.agg #[Value.slice A0_0 a0.vSegs.length c0_0], Value.int .i64 a1, Value.agg #[Value.int .i64 a2.vSize, Value.bool a2.vSigned]] w0 (fun e w1 => e = .returned (Value.agg #[Value.int .i64 r.vV, Value.bool r.vIs, Value.int .i64 r.vE]) ∧ Ext w0 w1) := by
  unfold taplineref09_Value.f at H
  have HS : St [] h0 w0 h0 [] w0 := St.init hv
  go_enter Tryz.func41, Tryz.ntmps41
  refine wp_seq ?_
  refine region ?_
  refine run_ex rfl rfl (does_box (cs := #[Value.slice A0_0 a0.vSegs.length c0_0]) rfl rfl) ?_
  rintro w1 _ hE1 ⟨b1, rfl, ge1, hb1⟩
  have HS1 := HS.new hE1 ge1 hb1
  refine run_ex rfl rfl (does_box (cs := #[Value.int .i64 a2.vSize, Value.bool a2.vSigned]) rfl rfl) ?_
  rintro w2 _ hE2 ⟨b2, rfl, ge2, hb2⟩
  have HS2 := HS1.new hE2 ge2 hb2
  refine run_ex rfl rfl (does_alloc (cs := #[Value.int .i64 0, Value.bool false, Value.int .i64 0]) Tryz.zeroValue38 rfl) ?_
  rintro w3 _ hE3 ⟨b3, rfl, ge3, hb3⟩
  have HS3 := HS2.new hE3 ge3 hb3
  try simp only [List.set_cons_zero, List.set_cons_succ]
  refine run_nil ?_
  refine norm_then ?_
  refine wp_seq ?_
  refine region ?_
  refine run_same (v := Value.agg #[Value.slice A0_0 a0.vSegs.length c0_0]) rfl rfl (r_loadBoxAgg (n := 1) (vs := [Value.slice A0_0 a0.vSegs.length c0_0]) rfl Tryz.isAgg27 (HS3.look 2 rfl) Tryz.sizeOf27 rfl rfl) ?_
  refine run_same (v := Value.int .i64 a1) rfl rfl (r_move rfl) ?_
  refine run_same (v := Value.pointer (some ⟨b2, 0, none⟩)) rfl rfl (r_fieldBox (n := 1) (o' := 0) rfl Tryz.runUnderlying29 rfl Tryz.sizeOf3 (by decide) rfl) ?_
  refine run_same (v := Value.int .i64 a2.vSize) rfl rfl (r_loadBox rfl Tryz.isAgg3 (HS3.look 1 rfl) rfl) ?_
  refine run_frame (by simp only [List.set_cons_zero, List.set_cons_succ]; rfl) ?_
  obtain ⟨v1, H1, H⟩ := of_bind H
  refine run_ex rfl rfl (does_call Tryz.call30 rfl (gives_in (h := h0) (R := (fun hx u => ∃ (Av1_0_0 : Option Addr) (cv1_0_0 : Nat), u = Value.tuple #[Value.slice Av1_0_0 v1.1.length cv1_0_0, Value.bool v1.2] ∧ v1.1.length ≤ cv1_0_0 ∧ Rd (Kd.int .u8) hx Av1_0_0 v1.1)) (Ext.rfl' w3) ((taplineref09_Bytes.calls k a0 a1 a2.vSize A0_0 c0_0 HS3.sees hr0_0 hc0_0 H1).mono ?_)) rfl) ?_
  · rintro _ _ ⟨h1, Av1_0_0, cv1_0_0, rfl, hcv1_0_0, hrv1_0_0, g, ss, x⟩
    exact ⟨h1, _, rfl, ⟨Av1_0_0, cv1_0_0, rfl, hcv1_0_0, hrv1_0_0⟩, g, ss, x⟩
  rintro w4 _ hE4 ⟨h1, ⟨Av1_0_0, cv1_0_0, rfl, hcv1_0_0, hrv1_0_0⟩, gr1, se1⟩
  have HS4 := HS3.view hE4 gr1 se1
  refine run_same (v := Value.tuple #[Value.slice Av1_0_0 v1.1.length cv1_0_0, Value.bool v1.2]) rfl rfl (r_move rfl) ?_
  refine run_same (v := Value.slice Av1_0_0 v1.1.length cv1_0_0) rfl rfl (r_extract rfl rfl) ?_
  refine run_same (v := Value.bool v1.2) rfl rfl (r_extract rfl rfl) ?_
  refine run_frame (by simp only [List.set_cons_zero, List.set_cons_succ]; rfl) ?_
  refine run_same (v := Value.slice Av1_0_0 v1.1.length cv1_0_0) rfl rfl (r_assign rfl) ?_
  refine run_same (v := Value.bool v1.2) rfl rfl (r_assign rfl) ?_
  try simp only [List.set_cons_zero, List.set_cons_succ]
  refine run_nil ?_
  refine norm_then ?_
  refine wp_seq ?_
  refine wp_seq ?_
  refine region ?_
  refine run_same (v := Value.bool v1.2) rfl rfl (r_move rfl) ?_
  refine run_same (v := Value.bool (!v1.2)) rfl rfl (r_not rfl) ?_
  try simp only [List.set_cons_zero, List.set_cons_succ]
  refine run_nil ?_
  refine norm_then ?_
  refine wp_cond_split (t := (!v1.2)) rfl (fun c1 => ?_) (fun c1 => ?_)
  · replace H := of_pos H c1
    refine wp_seq ?_
    refine region ?_
    refine run_same (v := Value.agg #[Value.int .i64 0, Value.bool false, Value.int .i64 0]) rfl rfl (r_build0 (cs := [Value.int .i64 0, Value.bool false, Value.int .i64 0]) Tryz.zeroValue38 Tryz.runUnderlying38 (pl := #[(0, 1), (1, 1), (2, 1)]) (fun w => by simp [Tryz.sizeOf2, Tryz.sizeOf34, Tryz.sizeOf4]) rfl) ?_
    refine run_st (i := 0) (cs := [Value.int .i64 0, Value.bool false, Value.int .i64 0]) (cs' := [Value.int .i64 0, Value.bool false, Value.int .i64 0]) (vs := [Value.int .i64 0, Value.bool false, Value.int .i64 0]) (bs' := [(some b3, .cells #[Value.int .i64 0, Value.bool false, Value.int .i64 0] 38 (0, 0)), (some b2, .cells #[Value.int .i64 a2.vSize, Value.bool a2.vSigned] 29 (0, 0)), (some b1, .cells #[Value.slice A0_0 a0.vSegs.length c0_0] 27 (0, 0))]) rfl rfl Tryz.sizeOf38 rfl rfl (by decide) rfl HS4 rfl (Nat.le_of_ble_eq_true rfl) rfl rfl ?_
    intro w5 HS5
    try simp only [List.set_cons_zero, List.set_cons_succ]
    refine run_nil ?_
    refine norm_then ?_
    refine wp_ret ?_
    refine ret_then ?_
    obtain rfl := Option.some.inj H
    refine bodyPost_ret (results_1 rfl (one_agg rfl Tryz.isAgg38 (HS5.look 0 rfl) Tryz.sizeOf38 rfl)) rfl ?_
    exact ⟨rfl, HS5.toE⟩
  · replace H := of_neg H (nt c1)
    refine wp_skip ?_
    refine norm_then ?_
    refine wp_seq ?_
    refine region ?_
    refine run_same (v := Value.agg #[Value.int .i64 a2.vSize, Value.bool a2.vSigned]) rfl rfl (r_loadBoxAgg (n := 2) (vs := [Value.int .i64 a2.vSize, Value.bool a2.vSigned]) rfl Tryz.isAgg29 (HS4.look 1 rfl) Tryz.sizeOf29 rfl rfl) ?_
    refine run_same (v := Value.slice Av1_0_0 v1.1.length cv1_0_0) rfl rfl (r_move rfl) ?_
    obtain ⟨v2, H2, H⟩ := of_bind H
    refine run_eq (v := Value.tuple #[Value.int .i64 v2.1, Value.int .i64 v2.2]) rfl rfl (does_call_eq Tryz.call84 rfl rfl (taplineref01_FromBytes.calls k a2 v1.1 Av1_0_0 cv1_0_0 HS4.sees hrv1_0_0 hcv1_0_0 H2)) ?_
    intro w6 hE5
    have HS6 := HS4.step hE5
    refine run_same (v := Value.tuple #[Value.int .i64 v2.1, Value.int .i64 v2.2]) rfl rfl (r_move rfl) ?_
    refine run_frame (by simp only [List.set_cons_zero, List.set_cons_succ]; rfl) ?_
    refine run_same (v := Value.int .i64 v2.1) rfl rfl (r_extract rfl rfl) ?_
    refine run_same (v := Value.int .i64 v2.2) rfl rfl (r_extract rfl rfl) ?_
    refine run_same (v := Value.int .i64 v2.1) rfl rfl (r_assign rfl) ?_
    refine run_same (v := Value.int .i64 v2.2) rfl rfl (r_assign rfl) ?_
    try simp only [List.set_cons_zero, List.set_cons_succ]
    refine run_nil ?_
    refine norm_then ?_
    refine wp_seq ?_
    refine region ?_
    refine run_same (v := Value.int .i64 v2.1) rfl rfl (r_move rfl) ?_
    refine run_same (v := Value.agg #[Value.int .i64 v2.1, Value.bool true, Value.int .i64 0]) rfl rfl (r_build (cs := [Value.int .i64 v2.1, Value.bool true, Value.int .i64 0]) (ps := [(0, Value.int .i64 v2.1), (1, Value.bool true)]) Tryz.zeroValue38 Tryz.runUnderlying38 (pl := #[(0, 1), (1, 1), (2, 1)]) (fun w => by simp [Tryz.sizeOf2, Tryz.sizeOf34, Tryz.sizeOf4]) (parts_2 (show _ = Value.int .i64 v2.1 from rfl) (show _ = Value.bool true from rfl)) rfl) ?_
    refine run_st (i := 0) (cs := [Value.int .i64 0, Value.bool false, Value.int .i64 0]) (cs' := [Value.int .i64 v2.1, Value.bool true, Value.int .i64 0]) (vs := [Value.int .i64 v2.1, Value.bool true, Value.int .i64 0]) (bs' := [(some b3, .cells #[Value.int .i64 v2.1, Value.bool true, Value.int .i64 0] 38 (0, 0)), (some b2, .cells #[Value.int .i64 a2.vSize, Value.bool a2.vSigned] 29 (0, 0)), (some b1, .cells #[Value.slice A0_0 a0.vSegs.length c0_0] 27 (0, 0))]) rfl rfl Tryz.sizeOf38 rfl rfl (by decide) rfl HS6 rfl (Nat.le_of_ble_eq_true rfl) rfl rfl ?_
    intro w7 HS7
    try simp only [List.set_cons_zero, List.set_cons_succ]
    refine run_nil ?_
    refine norm_then ?_
    refine wp_ret ?_
    obtain rfl := Option.some.inj H
    refine bodyPost_ret (results_1 rfl (one_agg rfl Tryz.isAgg38 (HS7.look 0 rfl) Tryz.sizeOf38 rfl)) rfl ?_
    exact ⟨rfl, HS7.toE⟩

end Go.Proofs.YtecpbadkdpbkpaaGreatDoor
/- Plain laws: numbers out of bytes, and what is loaded, by both sides. -/
namespace Go.Proofs.YtecpbadkdpbkpaaGreatDoor
open Go.RowKit Go.M
/-! ### numbers out of bytes -/
def Byt (xs : List Int) : Prop := ∀ b ∈ xs, 0 ≤ b ∧ b ≤ 255
def valI : List Int → Int
  | [] => 0
  | b :: r => b + 256 * valI r
theorem valI_in : ∀ {xs : List Int}, Byt xs → 0 ≤ valI xs ∧ valI xs < 256 ^ xs.length
  | [], _ => by simp [valI]
  | b :: r, h => by
    have h1 := h b List.mem_cons_self
    have h2 := valI_in (xs := r) (fun c hc => h c (List.mem_cons_of_mem _ hc))
    rw [valI, List.length_cons, Int.pow_succ]
    omega
theorem valI_snoc : ∀ (xs : List Int) (b : Int), valI (xs ++ [b]) = valI xs + b * 256 ^ xs.length
  | [], b => by simp [valI]
  | c :: r, b => by
    rw [List.cons_append, valI, valI, valI_snoc r b, List.length_cons, Int.pow_succ]
    rw [Int.mul_add, ← Int.mul_assoc, Int.mul_comm 256 b, Int.mul_assoc b 256, Int.mul_comm 256 (256 ^ r.length)]
    omega
theorem wrap_mod {x y : Int} (h : x % 18446744073709551616 = y % 18446744073709551616) : IntKind.wrap .i64 x = IntKind.wrap .i64 y := by rw [wi64, wi64, h]
theorem mod_wrap (x : Int) : IntKind.wrap .i64 x % 18446744073709551616 = x % 18446744073709551616 := by
  rw [wi64]; split <;> omega
theorem rfrom_loop {xs : List Int} (hb : Byt xs) (h8 : xs.length ≤ 8) : ∀ (i m : Nat) (y : Int), i ≤ xs.length → i < m → y = IntKind.wrap .i64 (valI (xs.drop i)) →
    taplineref01_FromBytes.l0 xs m y ((i : Int) - 1) = some (IntKind.wrap .i64 (valI xs)) := by
  intro i
  induction i with
  | zero =>
    intro m y _ hm hy
    obtain ⟨m, rfl⟩ : ∃ q, m = q + 1 := ⟨m - 1, by omega⟩
    rw [taplineref01_FromBytes.l0, if_neg (by simp), hy]
    rfl
  | succ i ih =>
    intro m y hi hm hy
    obtain ⟨m, rfl⟩ : ∃ q, m = q + 1 := ⟨m - 1, by omega⟩
    rw [show ((i + 1 : Nat) : Int) - 1 = (i : Int) by omega, taplineref01_FromBytes.l0, if_pos (by simp), if_pos (by omega), rd_nat, wrap_id (x := (i : Int) - 1) (by omega) (by omega)]
    refine ih m _ (by omega) (by omega) ?_
    have hd : xs.drop i = xs.getD i 0 :: xs.drop (i + 1) := by rw [← rd_nat]; exact rd_at 0 xs i (by omega)
    have hbi := hb _ (getD_mem (z := 0) (j := i) (xs := xs) (by omega))
    rw [hd, valI, wrap_id (x := xs.getD i 0) (by omega) (by omega)]
    refine wrap_mod ?_
    have h1 := mod_wrap (256 * y)
    have h2 := mod_wrap (valI (xs.drop (i + 1)))
    rw [← hy] at h2
    omega
theorem or_add {x z : Int} {e : Nat} (hx : 0 ≤ x ∧ x < 2 ^ e) (hz : 0 ≤ z) (hs : z * 2 ^ e + x < 18446744073709551616) : iOr .u64 x (z * 2 ^ e) = x + z * 2 ^ e := by
  obtain ⟨a, rfl⟩ : ∃ a : Nat, x = (a : Int) := ⟨x.toNat, by omega⟩
  obtain ⟨b, rfl⟩ : ∃ b : Nat, z = (b : Int) := ⟨z.toNat, by omega⟩
  have ha : a < 2 ^ e := by have := hx.2; exact_mod_cast this
  have hs' : b * 2 ^ e + a < 18446744073709551616 := by
    have h : ((b * 2 ^ e + a : Nat) : Int) < 18446744073709551616 := by
      rw [Int.natCast_add, Int.natCast_mul, Int.natCast_pow]; exact hs
    omega
  have e1 : ((b : Int) * 2 ^ e) = ((b * 2 ^ e : Nat) : Int) := by rw [Int.natCast_mul, Int.natCast_pow]; rfl
  unfold iOr
  rw [e1]
  have h1 : (BitVec.ofInt 64 (a : Int) ||| BitVec.ofInt 64 ((b * 2 ^ e : Nat) : Int)).toNat = a + b * 2 ^ e := by
    rw [BitVec.toNat_or, BitVec.toNat_ofInt, BitVec.toNat_ofInt]
    have p : (2 : Nat) ^ 64 = 18446744073709551616 := by decide
    have q1 : ((a : Int) % ((2 ^ 64 : Nat) : Int)).toNat = a := by rw [p]; omega
    have q2 : (((b * 2 ^ e : Nat) : Int) % ((2 ^ 64 : Nat) : Int)).toNat = b * 2 ^ e := by rw [p]; omega
    rw [q1, q2, Nat.or_comm, Nat.mul_comm b, ← Nat.two_pow_add_eq_or_of_lt ha, Nat.add_comm]
  show IntKind.wrap .u64 ((BitVec.ofInt 64 (a : Int) ||| BitVec.ofInt 64 ((b * 2 ^ e : Nat) : Int)).toNat : Int) = _
  rw [h1, wu64]
  omega
theorem pow256 (i : Nat) : (256 : Int) ^ i = 2 ^ (8 * i) := by rw [Int.pow_mul]; rfl
/-- one byte more, at the head -/
theorem or_byte {xs : List Int} (hb : Byt xs) {b : Int} (hb1 : 0 ≤ b ∧ b ≤ 255) (h8 : xs.length < 8) : iOr .u64 (valI xs) (iShl .u64 (IntKind.wrap .u64 b) (IntKind.wrap .i64 (8 * (xs.length : Int)))) = valI (xs ++ [b]) := by
  have hv := valI_in hb
  rw [pow256] at hv
  rw [wrap_id (x := 8 * (xs.length : Int)) (by omega) (by omega), wu64, valI_snoc, pow256]
  have hm : min (8 * (xs.length : Int)).toNat IntKind.u64.bits = 8 * xs.length := by
    have : IntKind.u64.bits = 64 := rfl
    omega
  unfold iShl
  rw [hm, Int.emod_eq_of_lt (by omega) (by omega)]
  have hle : (2 : Int) ^ (8 * xs.length) ≤ 2 ^ 56 := by
    have : (2 : Nat) ^ (8 * xs.length) ≤ 2 ^ 56 := Nat.pow_le_pow_right (by decide) (by omega)
    exact_mod_cast this
  have hpos : (0 : Int) < 2 ^ (8 * xs.length) := by
    have : 0 < (2 : Nat) ^ (8 * xs.length) := Nat.pow_pos (by decide)
    exact_mod_cast this
  have h56 : (2 : Int) ^ 56 = 72057594037927936 := by decide
  have hbm : b * 2 ^ (8 * xs.length) ≤ 255 * 2 ^ (8 * xs.length) := Int.mul_le_mul_of_nonneg_right hb1.2 (by omega)
  have hb0 : 0 ≤ b * 2 ^ (8 * xs.length) := Int.mul_nonneg hb1.1 (by omega)
  rw [wu64, Int.emod_eq_of_lt hb0 (by omega)]
  exact or_add hv hb1.1 (by omega)
theorem pfrom_loop {xs : List Int} (hb : Byt xs) (h8 : xs.length ≤ 8) : ∀ (d i m : Nat), i + d = xs.length → d < m → bits_FromBytes.l0 xs m (valI (xs.take i)) (i : Int) = some (valI xs) := by
  intro d
  induction d with
  | zero =>
    intro i m hi hm
    obtain ⟨m, rfl⟩ : ∃ q, m = q + 1 := ⟨m - 1, by omega⟩
    rw [bits_FromBytes.l0, if_neg (by simp; omega), List.take_of_length_le (by omega)]
  | succ d ih =>
    intro i m hi hm
    obtain ⟨m, rfl⟩ : ∃ q, m = q + 1 := ⟨m - 1, by omega⟩
    have hl : (xs.take i).length = i := by rw [List.length_take]; omega
    have hbt : Byt (xs.take i) := fun b h => hb b (List.mem_of_mem_take h)
    have hbi := hb _ (getD_mem (z := 0) (j := i) (xs := xs) (by omega))
    have key := or_byte hbt hbi (by omega)
    rw [hl] at key
    rw [bits_FromBytes.l0, if_pos (by simp; omega), if_pos (by omega), if_pos (by rw [wrap_id (by omega) (by omega)]; omega), rd_nat, key, wrap_nat (n := 300) (by omega) (by omega)]
    have ht : xs.take i ++ [xs.getD i 0] = xs.take (i + 1) := by
      rw [List.take_add_one, List.getElem?_eq_getElem (by omega), List.getD_eq_getElem?_getD, List.getElem?_eq_getElem (by omega)]
      rfl
    rw [ht]
    exact ih (i + 1) m (by omega) (by omega)
theorem wrapped_eq {t : api_Int} {v : Int} {n : Nat} (hn : t.vSize = (n : Int)) (h : n = 1 ∨ n = 2 ∨ n = 4 ∨ n = 8) (hv : In64 v) : taplineref01_Wrapped.f t v = some (wrp t v) := by
  unfold taplineref01_Wrapped.f wrp
  rcases h with rfl | rfl | rfl | rfl
  · simp [hn]
    split <;> rfl
  · simp [hn]
    split <;> rfl
  · simp [hn]
    split <;> rfl
  · simp [hn]
    intro _
    rw [w64u hv]
theorem i64_in (x : Int) : In64 (IntKind.wrap .i64 x) := by
  unfold In64
  rw [wi64]; split <;> omega
theorem pFrom {t : api_Int} {n : Nat} {xs : List Int} (hn : t.vSize = (n : Int)) (h : n = 1 ∨ n = 2 ∨ n = 4 ∨ n = 8) (hx : xs.length = n) (hb : Byt xs) {k : Nat} (hk : 9 ≤ k) : bits_FromBytes.f k t xs = some (wrp t (IntKind.wrap .i64 (valI xs)), 0) := by
  have hok : okI t = true := by unfold okI; simp [hn]; omega
  unfold bits_FromBytes.f bits_Check.f bits_wrap.f
  rw [if_pos hok]
  simp only [Option.bind_some]
  have := pfrom_loop hb (by omega) xs.length 0 k (by omega) (by omega)
  rw [show ((0 : Nat) : Int) = 0 from rfl, List.take_zero, show valI [] = 0 from rfl] at this
  rw [if_neg (by decide), if_neg (by rw [hn, hx]; simp), this]
  simp only [Option.bind_some]
  rw [if_pos hok]
  rfl
theorem rFrom {t : api_Int} {n : Nat} {xs : List Int} (hn : t.vSize = (n : Int)) (h : n = 1 ∨ n = 2 ∨ n = 4 ∨ n = 8) (hx : xs.length = n) (hb : Byt xs) {k : Nat} (hk : 9 ≤ k) : taplineref01_FromBytes.f k t xs = some (wrp t (IntKind.wrap .i64 (valI xs)), 0) := by
  unfold taplineref01_FromBytes.f taplineref01_Check.f
  rw [if_neg (by simp [hn]; omega)]
  simp only [Option.bind_some]
  rw [if_neg (by decide), if_neg (by rw [hn, hx]; simp), wrap_id (x := (xs.length : Int) - 1) (by omega) (by omega), rfrom_loop hb (by omega) xs.length k 0 (by omega) (by omega) (by rw [List.drop_of_length_le (by omega)]; rfl)]
  simp only [Option.bind_some]
  rw [wrapped_eq hn h (i64_in _)]
  rfl
/-! ### what is loaded -/
def BytesOk (l : List api_Segment) : Prop := ∀ s ∈ l, Byt s.vBytes
theorem byteAt_ok : ∀ {l : List api_Segment} {x b : Int}, BytesOk l → byteAt l x = some b → 0 ≤ b ∧ b ≤ 255
  | [], x, b, _, h => by simp [byteAt] at h
  | s :: r, x, b, hl, h => by
    rw [byteAt] at h
    by_cases hi : inSeg s x
    · rw [if_pos hi] at h
      obtain rfl := Option.some.inj h
      unfold inSeg at hi
      exact hl s List.mem_cons_self _ (getD_mem (by omega))
    · rw [if_neg hi] at h
      exact byteAt_ok (fun q hq => hl q (List.mem_cons_of_mem _ hq)) h
theorem runB_ok {l : List api_Segment} {a : Int} (hl : BytesOk l) : ∀ (d i : Nat) (acc xs : List Int), Byt acc → runB l a d i acc = some xs → Byt xs ∧ xs.length = acc.length + d
  | 0, i, acc, xs, ha, h => by obtain rfl := Option.some.inj h; exact ⟨ha, rfl⟩
  | d + 1, i, acc, xs, ha, h => by
    rw [runB] at h
    cases hb : byteAt l (a + (i : Int)) with
    | none => rw [hb] at h; cases h
    | some b =>
      rw [hb] at h
      obtain ⟨h1, h2⟩ := runB_ok hl d (i + 1) (acc ++ [b]) xs (fun c hc => by
        rcases List.mem_append.1 hc with hc | hc
        · exact ha c hc
        · obtain rfl := List.mem_singleton.1 hc; exact byteAt_ok hl hb) h
      exact ⟨h1, by rw [h2]; simp; omega⟩
def loadS (t : api_Int) : Option (List Int) → Int × Bool × Int
  | none => (0, false, 0)
  | some xs => (wrp t (IntKind.wrap .i64 (valI xs)), true, 0)
def loadedOf (x : Int × Bool × Int) : taplineref09_Loaded := ⟨x.1, x.2.1, x.2.2⟩
theorem pLoad {m : api_Image} {a : Int} {t : api_Int} {n k : Nat} (hl : m.vSegs.length ≤ 200) (hO : OkI m.vSegs) (hB : BytesOk m.vSegs) (ha : In64 a) (hn : t.vSize = (n : Int)) (h : n = 1 ∨ n = 2 ∨ n = 4 ∨ n = 8) (hk : 300 ≤ k) :
    image_load.f k m a t = some (loadS t (runB m.vSegs a n 0 [])) := by
  unfold image_load.f
  rw [hn, pRead hl hO ha (by omega) hk]
  simp only [Option.bind_some]
  cases hr : runB m.vSegs a n 0 [] with
  | none => rfl
  | some xs =>
    obtain ⟨h1, h2⟩ := runB_ok hB n 0 [] xs (fun b hb => by cases hb) hr
    show ((bits_FromBytes.f k t xs).bind fun v2 => some (v2.1, (v2.2 == 0), v2.2)) = _
    rw [pFrom hn h (by simpa using h2) h1 (by omega)]
    rfl
theorem rValue {m : api_Image} {a : Int} {t : api_Int} {n k : Nat} (hl : m.vSegs.length ≤ 200) (hO : OkI m.vSegs) (hB : BytesOk m.vSegs) (ha : In64 a) (hn : t.vSize = (n : Int)) (h : n = 1 ∨ n = 2 ∨ n = 4 ∨ n = 8) (hk : 4097 ≤ k) :
    taplineref09_Value.f k m a t = some (loadedOf (loadS t (runB m.vSegs a n 0 []))) := by
  unfold taplineref09_Value.f
  rw [hn, rBytesAt hl hO ha (by omega) hk]
  simp only [Option.bind_some]
  cases hr : runB m.vSegs a n 0 [] with
  | none => rfl
  | some xs =>
    obtain ⟨h1, h2⟩ := runB_ok hB n 0 [] xs (fun b hb => by cases hb) hr
    show ((taplineref01_FromBytes.f k t xs).bind fun v2 => some (⟨v2.1, true, 0⟩ : taplineref09_Loaded)) = _
    rw [rFrom hn h (by simpa using h2) h1 (by omega)]
    rfl
end Go.Proofs.YtecpbadkdpbkpaaGreatDoor
namespace Go.Proofs.YtecpbadkdpbkpaaGreatDoor
open Go.RowKit Go.M
structure taplinelaw09_Asked where
  vAt : Int
  vN : Int
  vT : api_Int
  vName : ByteArray
  vPath : List ByteArray
def k_taplinelaw09_Asked : Kd taplinelaw09_Asked := Kd.iso (Kd.pair (Kd.int .i64) (Kd.pair (Kd.int .i64) (Kd.pair k_api_Int (Kd.pair Kd.str (Kd.slice Kd.str))))) fun x => (x.vAt, (x.vN, (x.vT, (x.vName, x.vPath))))
structure arr2_Int where
  ve0 : Int
  ve1 : Int
end Go.Proofs.YtecpbadkdpbkpaaGreatDoor
namespace Go.Proofs.YtecpbadkdpbkpaaGreatDoor
open Go.RowKit Go.M
def image_Load.f (k : Nat) (a0 : api_Image) (a1 : Int) (a2 : api_Int) : Option (Int × Bool × Int) := (image_Check.f a0).bind fun v1 => (if (v1 != 0) = true then (some (0, false, v1)) else ((bits_Check.f a2).bind fun v2 => (if (v2 != 0) = true then (some (0, false, v2)) else ((image_load.f k a0 a1 a2).bind fun v3 => (some (v3.1, v3.2.1, v3.2.2))))))
set_option maxRecDepth 20000 in
set_option maxHeartbeats 4000000 in
theorem image_Load.calls (k : Nat) (a0 : api_Image) (a1 : Int) (a2 : api_Int) (A0_0 : Option Addr) (c0_0 : Nat) {h0 : View} {w0 : World} (hv : Sees h0 w0) (hr0_0 : Rd k_api_Segment h0 A0_0 a0.vSegs) (hc0_0 : a0.vSegs.length ≤ c0_0) {r : Int × Bool × Int} (H : image_Load.f k a0 a1 a2 = some r) : Calls Tryz.prog 23 #[Value.agg #[Value.slice A0_0 a0.vSegs.length c0_0], Value.int .i64 a1, Value.agg #[Value.int .i64 a2.vSize, Value.bool a2.vSigned]] w0 (fun e w1 => e = .returned (Value.tuple #[Value.int .i64 r.1, Value.bool r.2.1, Value.int .i64 r.2.2]) ∧ Ext w0 w1) := by
  unfold image_Load.f at H
  have HS : St [] h0 w0 h0 [] w0 := St.init hv
  go_enter Tryz.func23, Tryz.ntmps23
  refine wp_seq ?_
  refine region ?_
  refine run_ex rfl rfl (does_box (cs := #[Value.slice A0_0 a0.vSegs.length c0_0]) rfl rfl) ?_
  rintro w1 _ hE1 ⟨b1, rfl, ge1, hb1⟩
  have HS1 := HS.new hE1 ge1 hb1
  refine run_ex rfl rfl (does_box (cs := #[Value.int .i64 a2.vSize, Value.bool a2.vSigned]) rfl rfl) ?_
  rintro w2 _ hE2 ⟨b2, rfl, ge2, hb2⟩
  have HS2 := HS1.new hE2 ge2 hb2
  refine run_same (v := Value.int .i64 0) rfl rfl (r_assign rfl) ?_
  refine run_same (v := Value.bool false) rfl rfl (r_assign rfl) ?_
  refine run_frame (by simp only [List.set_cons_zero, List.set_cons_succ]; rfl) ?_
  refine run_same (v := Value.int .i64 0) rfl rfl (r_assign rfl) ?_
  try simp only [List.set_cons_zero, List.set_cons_succ]
  refine run_nil ?_
  refine norm_then ?_
  refine wp_seq ?_
  refine wp_seq ?_
  refine region ?_
  refine run_same (v := Value.agg #[Value.slice A0_0 a0.vSegs.length c0_0]) rfl rfl (r_loadBoxAgg (n := 1) (vs := [Value.slice A0_0 a0.vSegs.length c0_0]) rfl Tryz.isAgg27 (HS2.look 1 rfl) Tryz.sizeOf27 rfl rfl) ?_
  obtain ⟨v1, H1, H⟩ := of_bind H
  refine run_eq (v := Value.int .i64 v1) rfl rfl (does_call_eq Tryz.call26 rfl rfl (image_Check.calls a0 A0_0 c0_0 HS2.sees hr0_0 hc0_0 H1)) ?_
  intro w3 hE3
  have HS3 := HS2.step hE3
  refine run_same (v := Value.int .i64 v1) rfl rfl (r_assign rfl) ?_
  try simp only [List.set_cons_zero, List.set_cons_succ]
  refine run_nil ?_
  refine norm_then ?_
  refine wp_seq ?_
  refine region ?_
  refine run_same (v := Value.int .i64 v1) rfl rfl (r_move rfl) ?_
  refine run_same (v := Value.bool (v1 != 0)) rfl rfl (r_bin rfl rfl rfl) ?_
  try simp only [List.set_cons_zero, List.set_cons_succ]
  refine run_nil ?_
  refine norm_then ?_
  refine wp_cond_split (t := (v1 != 0)) rfl (fun c1 => ?_) (fun c1 => ?_)
  · replace H := of_pos H c1
    refine wp_seq ?_
    refine region ?_
    refine run_same (v := Value.int .i64 v1) rfl rfl (r_move rfl) ?_
    refine run_same (v := Value.int .i64 0) rfl rfl (r_assign rfl) ?_
    refine run_same (v := Value.bool false) rfl rfl (r_assign rfl) ?_
    refine run_same (v := Value.int .i64 v1) rfl rfl (r_assign rfl) ?_
    try simp only [List.set_cons_zero, List.set_cons_succ]
    refine run_nil ?_
    refine norm_then ?_
    refine wp_ret ?_
    refine ret_then ?_
    obtain rfl := Option.some.inj H
    refine bodyPost_ret (results_3 rfl (one_tmp rfl) (one_tmp rfl) (one_tmp rfl)) rfl ?_
    exact ⟨rfl, HS3.toE⟩
  · replace H := of_neg H (nt c1)
    refine wp_skip ?_
    refine norm_then ?_
    refine wp_seq ?_
    refine wp_seq ?_
    refine region ?_
    refine run_same (v := Value.agg #[Value.int .i64 a2.vSize, Value.bool a2.vSigned]) rfl rfl (r_loadBoxAgg (n := 2) (vs := [Value.int .i64 a2.vSize, Value.bool a2.vSigned]) rfl Tryz.isAgg29 (HS3.look 0 rfl) Tryz.sizeOf29 rfl rfl) ?_
    obtain ⟨v2, H2, H⟩ := of_bind H
    refine run_eq (v := Value.int .i64 v2) rfl rfl (does_call_eq Tryz.call56 rfl rfl (bits_Check.calls a2 HS3.sees H2)) ?_
    intro w4 hE4
    have HS4 := HS3.step hE4
    refine run_same (v := Value.int .i64 v2) rfl rfl (r_assign rfl) ?_
    try simp only [List.set_cons_zero, List.set_cons_succ]
    refine run_nil ?_
    refine norm_then ?_
    refine wp_seq ?_
    refine region ?_
    refine run_same (v := Value.int .i64 v2) rfl rfl (r_move rfl) ?_
    refine run_same (v := Value.bool (v2 != 0)) rfl rfl (r_bin rfl rfl rfl) ?_
    try simp only [List.set_cons_zero, List.set_cons_succ]
    refine run_nil ?_
    refine norm_then ?_
    refine wp_cond_split (t := (v2 != 0)) rfl (fun c2 => ?_) (fun c2 => ?_)
    · replace H := of_pos H c2
      refine wp_seq ?_
      refine region ?_
      refine run_same (v := Value.int .i64 v2) rfl rfl (r_move rfl) ?_
      refine run_same (v := Value.int .i64 0) rfl rfl (r_assign rfl) ?_
      refine run_same (v := Value.bool false) rfl rfl (r_assign rfl) ?_
      refine run_same (v := Value.int .i64 v2) rfl rfl (r_assign rfl) ?_
      try simp only [List.set_cons_zero, List.set_cons_succ]
      refine run_nil ?_
      refine norm_then ?_
      refine wp_ret ?_
      refine ret_then ?_
      obtain rfl := Option.some.inj H
      refine bodyPost_ret (results_3 rfl (one_tmp rfl) (one_tmp rfl) (one_tmp rfl)) rfl ?_
      exact ⟨rfl, HS4.toE⟩
    · replace H := of_neg H (nt c2)
      refine wp_skip ?_
      refine norm_then ?_
      refine wp_seq ?_
      refine region ?_
      refine run_same (v := Value.agg #[Value.slice A0_0 a0.vSegs.length c0_0]) rfl rfl (r_loadBoxAgg (n := 1) (vs := [Value.slice A0_0 a0.vSegs.length c0_0]) rfl Tryz.isAgg27 (HS4.look 1 rfl) Tryz.sizeOf27 rfl rfl) ?_
      refine run_same (v := Value.int .i64 a1) rfl rfl (r_move rfl) ?_
      refine run_same (v := Value.agg #[Value.int .i64 a2.vSize, Value.bool a2.vSigned]) rfl rfl (r_loadBoxAgg (n := 2) (vs := [Value.int .i64 a2.vSize, Value.bool a2.vSigned]) rfl Tryz.isAgg29 (HS4.look 0 rfl) Tryz.sizeOf29 rfl rfl) ?_
      obtain ⟨v3, H3, H⟩ := of_bind H
      refine run_eq (v := Value.tuple #[Value.int .i64 v3.1, Value.bool v3.2.1, Value.int .i64 v3.2.2]) rfl rfl (does_call_eq Tryz.call37 rfl rfl (image_load.calls k a0 a1 a2 A0_0 c0_0 HS4.sees hr0_0 hc0_0 H3)) ?_
      intro w5 hE5
      have HS5 := HS4.step hE5
      refine run_frame (by simp only [List.set_cons_zero, List.set_cons_succ]; rfl) ?_
      refine run_same (v := Value.int .i64 v3.1) rfl rfl (r_extract rfl rfl) ?_
      refine run_same (v := Value.bool v3.2.1) rfl rfl (r_extract rfl rfl) ?_
      refine run_same (v := Value.int .i64 v3.2.2) rfl rfl (r_extract rfl rfl) ?_
      refine run_same (v := Value.int .i64 v3.1) rfl rfl (r_assign rfl) ?_
      refine run_frame (by simp only [List.set_cons_zero, List.set_cons_succ]; rfl) ?_
      refine run_same (v := Value.bool v3.2.1) rfl rfl (r_assign rfl) ?_
      refine run_same (v := Value.int .i64 v3.2.2) rfl rfl (r_assign rfl) ?_
      try simp only [List.set_cons_zero, List.set_cons_succ]
      refine run_nil ?_
      refine norm_then ?_
      refine wp_ret ?_
      obtain rfl := Option.some.inj H
      refine bodyPost_ret (results_3 rfl (one_tmp rfl) (one_tmp rfl) (one_tmp rfl)) rfl ?_
      exact ⟨rfl, HS5.toE⟩

end Go.Proofs.YtecpbadkdpbkpaaGreatDoor
namespace Go.Proofs.YtecpbadkdpbkpaaGreatDoor
open Go.RowKit Go.M
def image_Read.f (k : Nat) (a0 : api_Image) (a1 : Int) (a2 : Int) : Option ((List Int) × Bool × Int) := (image_Check.f a0).bind fun v1 => (if (v1 != 0) = true then (some (([] : List Int), false, v1)) else (if ((decide (a2 < 0)) || (decide (a2 > 2048))) = true then (some (([] : List Int), false, 1)) else ((image_read.f k a0 a1 a2).bind fun v2 => (some (v2.1, v2.2, 0)))))
set_option maxRecDepth 20000 in
set_option maxHeartbeats 4000000 in
theorem image_Read.calls (k : Nat) (a0 : api_Image) (a1 : Int) (a2 : Int) (A0_0 : Option Addr) (c0_0 : Nat) {h0 : View} {w0 : World} (hv : Sees h0 w0) (hr0_0 : Rd k_api_Segment h0 A0_0 a0.vSegs) (hc0_0 : a0.vSegs.length ≤ c0_0) {r : (List Int) × Bool × Int} (H : image_Read.f k a0 a1 a2 = some r) : Calls Tryz.prog 24 #[Value.agg #[Value.slice A0_0 a0.vSegs.length c0_0], Value.int .i64 a1, Value.int .i64 a2] w0 (fun e w1 => ∃ (h1 : View) (A0_0 : Option Addr) (c0_0 : Nat), e = .returned (Value.tuple #[Value.slice A0_0 r.1.length c0_0, Value.bool r.2.1, Value.int .i64 r.2.2]) ∧ r.1.length ≤ c0_0 ∧ Rd (Kd.int .u8) h1 A0_0 r.1 ∧ Gr w0.heap.size h0 h1 ∧ Sees h1 w1 ∧ Ext w0 w1) := by
  unfold image_Read.f at H
  have HS : St [] h0 w0 h0 [] w0 := St.init hv
  go_enter Tryz.func24, Tryz.ntmps24
  refine wp_seq ?_
  refine region ?_
  refine run_ex rfl rfl (does_box (cs := #[Value.slice A0_0 a0.vSegs.length c0_0]) rfl rfl) ?_
  rintro w1 _ hE1 ⟨b1, rfl, ge1, hb1⟩
  have HS1 := HS.new hE1 ge1 hb1
  refine run_same (v := Value.slice none 0 0) rfl rfl (r_assign rfl) ?_
  refine run_same (v := Value.bool false) rfl rfl (r_assign rfl) ?_
  refine run_same (v := Value.int .i64 0) rfl rfl (r_assign rfl) ?_
  try simp only [List.set_cons_zero, List.set_cons_succ]
  refine run_nil ?_
  refine norm_then ?_
  refine wp_seq ?_
  refine wp_seq ?_
  refine region ?_
  refine run_same (v := Value.agg #[Value.slice A0_0 a0.vSegs.length c0_0]) rfl rfl (r_loadBoxAgg (n := 1) (vs := [Value.slice A0_0 a0.vSegs.length c0_0]) rfl Tryz.isAgg27 (HS1.look 0 rfl) Tryz.sizeOf27 rfl rfl) ?_
  obtain ⟨v1, H1, H⟩ := of_bind H
  refine run_eq (v := Value.int .i64 v1) rfl rfl (does_call_eq Tryz.call26 rfl rfl (image_Check.calls a0 A0_0 c0_0 HS1.sees hr0_0 hc0_0 H1)) ?_
  intro w2 hE2
  have HS2 := HS1.step hE2
  refine run_same (v := Value.int .i64 v1) rfl rfl (r_assign rfl) ?_
  try simp only [List.set_cons_zero, List.set_cons_succ]
  refine run_nil ?_
  refine norm_then ?_
  refine wp_seq ?_
  refine region ?_
  refine run_same (v := Value.int .i64 v1) rfl rfl (r_move rfl) ?_
  refine run_same (v := Value.bool (v1 != 0)) rfl rfl (r_bin rfl rfl rfl) ?_
  try simp only [List.set_cons_zero, List.set_cons_succ]
  refine run_nil ?_
  refine norm_then ?_
  refine wp_cond_split (t := (v1 != 0)) rfl (fun c1 => ?_) (fun c1 => ?_)
  · replace H := of_pos H c1
    refine wp_seq ?_
    refine region ?_
    refine run_same (v := Value.int .i64 v1) rfl rfl (r_move rfl) ?_
    refine run_same (v := Value.slice none 0 0) rfl rfl (r_assign rfl) ?_
    refine run_same (v := Value.bool false) rfl rfl (r_assign rfl) ?_
    refine run_same (v := Value.int .i64 v1) rfl rfl (r_assign rfl) ?_
    try simp only [List.set_cons_zero, List.set_cons_succ]
    refine run_nil ?_
    refine norm_then ?_
    refine wp_ret ?_
    refine ret_then ?_
    obtain rfl := Option.some.inj H
    refine bodyPost_ret (results_3 rfl (one_tmp rfl) (one_tmp rfl) (one_tmp rfl)) rfl ?_
    exact ⟨h0, none, 0, rfl, (Nat.le_refl 0), (Rd.nil _ _ _), HS2.gr, HS2.sees, HS2.toE⟩
  · replace H := of_neg H (nt c1)
    refine wp_skip ?_
    refine norm_then ?_
    refine wp_seq ?_
    refine wp_seq ?_
    refine region ?_
    refine run_same (v := Value.int .i64 a2) rfl rfl (r_move rfl) ?_
    refine run_same (v := Value.bool (decide (a2 < 0))) rfl rfl (r_bin rfl rfl rfl) ?_
    refine run_same (v := Value.bool (decide (a2 < 0))) rfl rfl (r_move rfl) ?_
    refine run_g_same (b := (decide (a2 < 0))) (c := true) (v := Value.int .i64 a2) rfl rfl rfl rfl (fun hg => (r_move rfl)) ?_
    refine run_frame (by simp only [List.set_cons_zero, List.set_cons_succ]; rfl) ?_
    refine run_g_same (b := (decide (a2 < 0))) (c := true) (v := Value.bool (decide (a2 > 2048))) rfl rfl rfl rfl (fun hg => (r_bin ((show _ = gv (true && ((decide (a2 < 0)) == false)) (Value.int .i64 a2) from rfl).trans (gv_t hg)) rfl rfl)) ?_
    refine run_same (v := Value.bool ((decide (a2 < 0)) || (decide (a2 > 2048)))) rfl rfl (r_pick_or rfl rfl (fun hp => ((show _ = gv (true && ((decide (a2 < 0)) == false)) (Value.bool (decide (a2 > 2048))) from rfl).trans (gv_t (and_i rfl hp))))) ?_
    try simp only [List.set_cons_zero, List.set_cons_succ]
    refine run_nil ?_
    refine norm_then ?_
    refine wp_cond_split (t := ((decide (a2 < 0)) || (decide (a2 > 2048)))) rfl (fun c2 => ?_) (fun c2 => ?_)
    · replace H := of_pos H c2
      refine wp_seq ?_
      refine region ?_
      refine run_same (v := Value.slice none 0 0) rfl rfl (r_assign rfl) ?_
      refine run_same (v := Value.bool false) rfl rfl (r_assign rfl) ?_
      refine run_same (v := Value.int .i64 1) rfl rfl (r_assign rfl) ?_
      try simp only [List.set_cons_zero, List.set_cons_succ]
      refine run_nil ?_
      refine norm_then ?_
      refine wp_ret ?_
      refine ret_then ?_
      obtain rfl := Option.some.inj H
      refine bodyPost_ret (results_3 rfl (one_tmp rfl) (one_tmp rfl) (one_tmp rfl)) rfl ?_
      exact ⟨h0, none, 0, rfl, (Nat.le_refl 0), (Rd.nil _ _ _), HS2.gr, HS2.sees, HS2.toE⟩
    · replace H := of_neg H (nt c2)
      refine wp_skip ?_
      refine norm_then ?_
      refine wp_seq ?_
      refine region ?_
      refine run_same (v := Value.agg #[Value.slice A0_0 a0.vSegs.length c0_0]) rfl rfl (r_loadBoxAgg (n := 1) (vs := [Value.slice A0_0 a0.vSegs.length c0_0]) rfl Tryz.isAgg27 (HS2.look 0 rfl) Tryz.sizeOf27 rfl rfl) ?_
      refine run_same (v := Value.int .i64 a1) rfl rfl (r_move rfl) ?_
      refine run_same (v := Value.int .i64 a2) rfl rfl (r_move rfl) ?_
      obtain ⟨v2, H2, H⟩ := of_bind H
      refine run_ex rfl rfl (does_call Tryz.call59 rfl (gives_in (h := h0) (R := (fun hx u => ∃ (Av2_0_0 : Option Addr) (cv2_0_0 : Nat), u = Value.tuple #[Value.slice Av2_0_0 v2.1.length cv2_0_0, Value.bool v2.2] ∧ v2.1.length ≤ cv2_0_0 ∧ Rd (Kd.int .u8) hx Av2_0_0 v2.1)) (Ext.rfl' w2) ((image_read.calls k a0 a1 a2 A0_0 c0_0 HS2.sees hr0_0 hc0_0 H2).mono ?_)) rfl) ?_
      · rintro _ _ ⟨h1, Av2_0_0, cv2_0_0, rfl, hcv2_0_0, hrv2_0_0, g, ss, x⟩
        exact ⟨h1, _, rfl, ⟨Av2_0_0, cv2_0_0, rfl, hcv2_0_0, hrv2_0_0⟩, g, ss, x⟩
      rintro w3 _ hE3 ⟨h1, ⟨Av2_0_0, cv2_0_0, rfl, hcv2_0_0, hrv2_0_0⟩, gr1, se1⟩
      have HS3 := HS2.view hE3 gr1 se1
      refine run_frame (by simp only [List.set_cons_zero, List.set_cons_succ]; rfl) ?_
      refine run_same (v := Value.tuple #[Value.slice Av2_0_0 v2.1.length cv2_0_0, Value.bool v2.2]) rfl rfl (r_move rfl) ?_
      refine run_same (v := Value.slice Av2_0_0 v2.1.length cv2_0_0) rfl rfl (r_extract rfl rfl) ?_
      refine run_same (v := Value.bool v2.2) rfl rfl (r_extract rfl rfl) ?_
      refine run_same (v := Value.slice Av2_0_0 v2.1.length cv2_0_0) rfl rfl (r_assign rfl) ?_
      refine run_frame (by simp only [List.set_cons_zero, List.set_cons_succ]; rfl) ?_
      refine run_same (v := Value.bool v2.2) rfl rfl (r_assign rfl) ?_
      try simp only [List.set_cons_zero, List.set_cons_succ]
      refine run_nil ?_
      refine norm_then ?_
      refine wp_seq ?_
      refine region ?_
      refine run_same (v := Value.slice Av2_0_0 v2.1.length cv2_0_0) rfl rfl (r_move rfl) ?_
      refine run_same (v := Value.bool v2.2) rfl rfl (r_move rfl) ?_
      refine run_same (v := Value.slice Av2_0_0 v2.1.length cv2_0_0) rfl rfl (r_assign rfl) ?_
      refine run_same (v := Value.bool v2.2) rfl rfl (r_assign rfl) ?_
      refine run_frame (by simp only [List.set_cons_zero, List.set_cons_succ]; rfl) ?_
      refine run_same (v := Value.int .i64 0) rfl rfl (r_assign rfl) ?_
      try simp only [List.set_cons_zero, List.set_cons_succ]
      refine run_nil ?_
      refine norm_then ?_
      refine wp_ret ?_
      obtain rfl := Option.some.inj H
      refine bodyPost_ret (results_3 rfl (one_tmp rfl) (one_tmp rfl) (one_tmp rfl)) rfl ?_
      exact ⟨h1, Av2_0_0, cv2_0_0, rfl, hcv2_0_0, hrv2_0_0, HS3.gr, HS3.sees, HS3.toE⟩

end Go.Proofs.YtecpbadkdpbkpaaGreatDoor
namespace Go.Proofs.YtecpbadkdpbkpaaGreatDoor
open Go.RowKit Go.M
def slices_EqualFunc_api_Segment_api_Segment_api_Segment_api_Segment.l0 (a0 : List api_Segment) (a1 : List api_Segment) (a2 : (api_Segment → api_Segment → Option Bool)) : Nat → Int → Option ((Bool) ⊕ (Unit))
  | 0, _ => none
  | m + 1, y1_0 => if (decide (y1_0 < (a0.length : Int))) = true then (if 0 ≤ y1_0 ∧ y1_0 < a0.length then (if 0 ≤ y1_0 ∧ y1_0 < a1.length then ((a2 (rd z_api_Segment a0 y1_0) (rd z_api_Segment a1 y1_0)).bind fun v1 => (if (!v1) = true then (some (.inl false)) else (slices_EqualFunc_api_Segment_api_Segment_api_Segment_api_Segment.l0 a0 a1 a2 m (IntKind.wrap .i64 (y1_0 + 1))))) else none) else none) else (some (.inr ()))
def slices_EqualFunc_api_Segment_api_Segment_api_Segment_api_Segment.f (k : Nat) (a0 : List api_Segment) (a1 : List api_Segment) (a2 : api_Segment → api_Segment → Option Bool) : Option (Bool) := if ((a0.length : Int) != (a1.length : Int)) = true then (some false) else ((slices_EqualFunc_api_Segment_api_Segment_api_Segment_api_Segment.l0 a0 a1 a2 k 0).bind fun xx1 => (match xx1 with | .inl r => some r | .inr s1 => some true))
set_option maxRecDepth 20000 in
set_option maxHeartbeats 4000000 in
theorem slices_EqualFunc_api_Segment_api_Segment_api_Segment_api_Segment.calls (k : Nat) (a0 : List api_Segment) (a1 : List api_Segment) (a2 : api_Segment → api_Segment → Option Bool) (A0_0 : Option Addr) (c0_0 : Nat) (A1_0 : Option Addr) (c1_0 : Nat) (fid2 : Nat) (cap2 : List Value) {h0 : View} {w0 : World} (hv : Sees h0 w0) (hr0_0 : Rd k_api_Segment h0 A0_0 a0) (hc0_0 : a0.length ≤ c0_0) (hr1_0 : Rd k_api_Segment h0 A1_0 a1) (hc1_0 : a1.length ≤ c1_0) (hent2 : ∀ args w, (callFunc fid2 args).run Tryz.prog w = .ok (.enter fid2 args) w) (hfp2 : ∀ (z0 : api_Segment) (Az0_1 : Option Addr) (cz0_1 : Nat) (z1 : api_Segment) (Az1_1 : Option Addr) (cz1_1 : Nat) (h : View) (w : World), Ext w0 w → Sub h0 h → Sees h w → Rd (Kd.int .u8) h Az0_1 z0.vBytes → z0.vBytes.length ≤ cz0_1 → Rd (Kd.int .u8) h Az1_1 z1.vBytes → z1.vBytes.length ≤ cz1_1 → ∀ (r : Bool), a2 z0 z1 = some r → Calls Tryz.prog fid2 ([Value.agg #[Value.int .i64 z0.vAt, Value.slice Az0_1 z0.vBytes.length cz0_1], Value.agg #[Value.int .i64 z1.vAt, Value.slice Az1_1 z1.vBytes.length cz1_1]] ++ cap2).toArray w (fun e w1 => e = .returned (Value.bool r) ∧ Ext w w1)) {r : Bool} (H : slices_EqualFunc_api_Segment_api_Segment_api_Segment_api_Segment.f k a0 a1 a2 = some r) : Calls Tryz.prog 61 #[Value.slice A0_0 a0.length c0_0, Value.slice A1_0 a1.length c1_0, Value.func (.func fid2) #[] cap2.toArray] w0 (fun e w1 => e = .returned (Value.bool r) ∧ Ext w0 w1) := by
  unfold slices_EqualFunc_api_Segment_api_Segment_api_Segment_api_Segment.f at H
  have HS : St [] h0 w0 h0 [] w0 := St.init hv
  go_enter Tryz.func61, Tryz.ntmps61
  refine wp_seq ?_
  refine region ?_
  refine run_same (v := Value.bool false) rfl rfl (r_assign rfl) ?_
  try simp only [List.set_cons_zero, List.set_cons_succ]
  refine run_nil ?_
  refine norm_then ?_
  refine wp_seq ?_
  refine wp_seq ?_
  refine region ?_
  refine run_same (v := Value.slice A0_0 a0.length c0_0) rfl rfl (r_move rfl) ?_
  refine run_same (v := Value.int .i64 (a0.length : Int)) rfl rfl (r_len rfl Tryz.runUnderlying25) ?_
  refine run_same (v := Value.slice A1_0 a1.length c1_0) rfl rfl (r_move rfl) ?_
  refine run_same (v := Value.int .i64 (a1.length : Int)) rfl rfl (r_len rfl Tryz.runUnderlying25) ?_
  refine run_frame (by simp only [List.set_cons_zero, List.set_cons_succ]; rfl) ?_
  refine run_same (v := Value.bool ((a0.length : Int) != (a1.length : Int))) rfl rfl (r_bin rfl rfl rfl) ?_
  try simp only [List.set_cons_zero, List.set_cons_succ]
  refine run_nil ?_
  refine norm_then ?_
  refine wp_cond_split (t := ((a0.length : Int) != (a1.length : Int))) rfl (fun c1 => ?_) (fun c1 => ?_)
  · replace H := of_pos H c1
    refine wp_seq ?_
    refine region ?_
    refine run_same (v := Value.bool false) rfl rfl (r_assign rfl) ?_
    try simp only [List.set_cons_zero, List.set_cons_succ]
    refine run_nil ?_
    refine norm_then ?_
    refine wp_ret ?_
    refine ret_then ?_
    obtain rfl := Option.some.inj H
    refine bodyPost_ret (results_1 rfl (one_tmp rfl)) rfl ?_
    exact ⟨rfl, HS.toE⟩
  · replace H := of_neg H (nt c1)
    refine wp_skip ?_
    refine norm_then ?_
    refine wp_seq ?_
    refine wp_seq ?_
    refine region ?_
    refine run_same (v := Value.slice A0_0 a0.length c0_0) rfl rfl (r_move rfl) ?_
    refine run_same (v := Value.int .i64 (a0.length : Int)) rfl rfl (r_len rfl Tryz.runUnderlying25) ?_
    refine run_same (v := Value.int .i64 0) rfl rfl (r_move rfl) ?_
    try simp only [List.set_cons_zero, List.set_cons_succ]
    refine run_nil ?_
    refine norm_then ?_
    obtain ⟨xx1, H, G1⟩ := of_bind H
    refine loop_j [6, 7, 8, 9, 17, 18, 19, 20, 21, 22, 23, 24, 25, 26, 27, 28, 29, 30, 31] (fun m us w' => ∃ (y1_0 : Int), Fit us (fun uy1 => [(uy1 0), (uy1 1), (uy1 2), (uy1 3), Value.int .i64 y1_0, (uy1 5), (uy1 6), (uy1 7), (uy1 8), (uy1 9), (uy1 10), (uy1 11), (uy1 12), (uy1 13), (uy1 14), (uy1 15), (uy1 16), (uy1 17), (uy1 18)]) ∧ slices_EqualFunc_api_Segment_api_Segment_api_Segment_api_Segment.l0 a0 a1 a2 m y1_0 = some xx1 ∧ St [] h0 w0 h0 [] w') (fun us w' => ∃ (s1 : Unit), xx1 = .inr s1 ∧ Fit us (fun uo1 => [(uo1 0), (uo1 1), (uo1 2), (uo1 3), (uo1 4), (uo1 5), (uo1 6), (uo1 7), (uo1 8), (uo1 9), (uo1 10), (uo1 11), (uo1 12), (uo1 13), (uo1 14), (uo1 15), (uo1 16), (uo1 17), (uo1 18)]) ∧ St [] h0 w0 h0 [] w') k ⟨0, (fit rfl), H, HS⟩ ?_ ?_
    · rintro m us w1 ⟨y1_0, huy1, H, HS1⟩
      obtain ⟨uy1, rfl⟩ := unj huy1
      cases m with
      | zero => exact absurd H (by simp [slices_EqualFunc_api_Segment_api_Segment_api_Segment_api_Segment.l0])
      | succ m =>
        rw [slices_EqualFunc_api_Segment_api_Segment_api_Segment_api_Segment.l0] at H
        try simp only [patch, List.set_cons_zero, List.set_cons_succ]
        refine wp_seq ?_
        refine region ?_
        refine run_same (v := Value.bool (decide (y1_0 < (a0.length : Int)))) rfl rfl (r_bin rfl rfl rfl) ?_
        try simp only [List.set_cons_zero, List.set_cons_succ]
        refine run_nil ?_
        refine norm_then ?_
        refine wp_seq ?_
        refine wp_cond_split (t := (decide (y1_0 < (a0.length : Int)))) rfl (fun c2 => ?_) (fun c2 => ?_)
        · replace H := of_pos H c2
          refine wp_skip ?_
          refine norm_then ?_
          refine wp_seq ?_
          refine wp_block ?_
          refine wp_seq ?_
          refine region ?_
          refine run_same (v := Value.int .i64 y1_0) rfl rfl (r_move rfl) ?_
          obtain ⟨hi1, H⟩ := of_ite H
          obtain ⟨ad1, Aad1_1, cad1_1, e1, hel1, hcad1_1, hrad1_1⟩ := ld_api_Segment hr0_0 hi1.1 hi1.2
          refine run_same (v := Value.pointer (some (Addr.add ad1 (y1_0.toNat * 2)))) rfl rfl (r_indexA (sz := 2) rfl e1 rfl hi1.1 hi1.2 Tryz.runUnderlying25 Tryz.sizeOf58) ?_
          refine run_same (v := Value.agg #[Value.int .i64 ((rd z_api_Segment a0 y1_0).vAt), Value.slice Aad1_1 ((rd z_api_Segment a0 y1_0).vBytes).length cad1_1]) rfl rfl (r_loadAgg rfl Tryz.isAgg58 (hel1.sees HS1.sees) Tryz.sizeOf58) ?_
          refine run_ex rfl rfl (does_alloc (cs := #[Value.int .i64 0, Value.slice none 0 0]) Tryz.zeroValue58 rfl) ?_
          rintro w2 _ hE1 ⟨b1, rfl, ge1, hb1⟩
          have HS2 := HS1.new hE1 ge1 hb1
          refine run_frame (by simp only [List.set_cons_zero, List.set_cons_succ]; rfl) ?_
          refine run_same (v := Value.int .i64 y1_0) rfl rfl (r_assign rfl) ?_
          refine run_st (i := 0) (cs := [Value.int .i64 0, Value.slice none 0 0]) (cs' := [Value.int .i64 ((rd z_api_Segment a0 y1_0).vAt), Value.slice Aad1_1 ((rd z_api_Segment a0 y1_0).vBytes).length cad1_1]) (vs := [Value.int .i64 ((rd z_api_Segment a0 y1_0).vAt), Value.slice Aad1_1 ((rd z_api_Segment a0 y1_0).vBytes).length cad1_1]) (bs' := [(some b1, .cells #[Value.int .i64 ((rd z_api_Segment a0 y1_0).vAt), Value.slice Aad1_1 ((rd z_api_Segment a0 y1_0).vBytes).length cad1_1] 58 (0, 0))]) rfl rfl Tryz.sizeOf58 rfl rfl (by decide) rfl HS2 rfl (Nat.le_of_ble_eq_true rfl) rfl rfl ?_
          intro w3 HS3
          try simp only [List.set_cons_zero, List.set_cons_succ]
          refine run_nil ?_
          refine norm_then ?_
          refine wp_seq ?_
          refine region ?_
          refine run_same (v := Value.slice A1_0 a1.length c1_0) rfl rfl (r_move rfl) ?_
          refine run_same (v := Value.int .i64 y1_0) rfl rfl (r_move rfl) ?_
          obtain ⟨hi2, H⟩ := of_ite H
          obtain ⟨ad2, Aad2_1, cad2_1, e2, hel2, hcad2_1, hrad2_1⟩ := ld_api_Segment hr1_0 hi2.1 hi2.2
          refine run_same (v := Value.pointer (some (Addr.add ad2 (y1_0.toNat * 2)))) rfl rfl (r_indexA (sz := 2) rfl e2 rfl hi2.1 hi2.2 Tryz.runUnderlying25 Tryz.sizeOf58) ?_
          refine run_same (v := Value.agg #[Value.int .i64 ((rd z_api_Segment a1 y1_0).vAt), Value.slice Aad2_1 ((rd z_api_Segment a1 y1_0).vBytes).length cad2_1]) rfl rfl (r_loadAgg rfl Tryz.isAgg58 (hel2.sees HS3.sees) Tryz.sizeOf58) ?_
          refine run_frame (by simp only [List.set_cons_zero, List.set_cons_succ]; rfl) ?_
          refine run_ex rfl rfl (does_alloc (cs := #[Value.int .i64 0, Value.slice none 0 0]) Tryz.zeroValue58 rfl) ?_
          rintro w4 _ hE2 ⟨b2, rfl, ge2, hb2⟩
          have HS4 := HS3.new hE2 ge2 hb2
          refine run_st (i := 0) (cs := [Value.int .i64 0, Value.slice none 0 0]) (cs' := [Value.int .i64 ((rd z_api_Segment a1 y1_0).vAt), Value.slice Aad2_1 ((rd z_api_Segment a1 y1_0).vBytes).length cad2_1]) (vs := [Value.int .i64 ((rd z_api_Segment a1 y1_0).vAt), Value.slice Aad2_1 ((rd z_api_Segment a1 y1_0).vBytes).length cad2_1]) (bs' := [(some b2, .cells #[Value.int .i64 ((rd z_api_Segment a1 y1_0).vAt), Value.slice Aad2_1 ((rd z_api_Segment a1 y1_0).vBytes).length cad2_1] 58 (0, 0)), (some b1, .cells #[Value.int .i64 ((rd z_api_Segment a0 y1_0).vAt), Value.slice Aad1_1 ((rd z_api_Segment a0 y1_0).vBytes).length cad1_1] 58 (0, 0))]) rfl rfl Tryz.sizeOf58 rfl rfl (by decide) rfl HS4 rfl (Nat.le_of_ble_eq_true rfl) rfl rfl ?_
          intro w5 HS5
          try simp only [List.set_cons_zero, List.set_cons_succ]
          refine run_nil ?_
          refine norm_then ?_
          refine wp_seq ?_
          refine region ?_
          refine run_same (v := Value.func (.func fid2) #[] cap2.toArray) rfl rfl (r_move rfl) ?_
          refine run_same (v := Value.agg #[Value.int .i64 ((rd z_api_Segment a0 y1_0).vAt), Value.slice Aad1_1 ((rd z_api_Segment a0 y1_0).vBytes).length cad1_1]) rfl rfl (r_loadBoxAgg (n := 2) (vs := [Value.int .i64 ((rd z_api_Segment a0 y1_0).vAt), Value.slice Aad1_1 ((rd z_api_Segment a0 y1_0).vBytes).length cad1_1]) rfl Tryz.isAgg58 (HS5.look 1 rfl) Tryz.sizeOf58 rfl rfl) ?_
          refine run_same (v := Value.agg #[Value.int .i64 ((rd z_api_Segment a1 y1_0).vAt), Value.slice Aad2_1 ((rd z_api_Segment a1 y1_0).vBytes).length cad2_1]) rfl rfl (r_loadBoxAgg (n := 2) (vs := [Value.int .i64 ((rd z_api_Segment a1 y1_0).vAt), Value.slice Aad2_1 ((rd z_api_Segment a1 y1_0).vBytes).length cad2_1]) rfl Tryz.isAgg58 (HS5.look 0 rfl) Tryz.sizeOf58 rfl rfl) ?_
          obtain ⟨v1, H1, H⟩ := of_bind H
          refine run_eq (v := Value.bool v1) rfl rfl (does_callv (vs := [Value.agg #[Value.int .i64 ((rd z_api_Segment a0 y1_0).vAt), Value.slice Aad1_1 ((rd z_api_Segment a0 y1_0).vBytes).length cad1_1], Value.agg #[Value.int .i64 ((rd z_api_Segment a1 y1_0).vAt), Value.slice Aad2_1 ((rd z_api_Segment a1 y1_0).vBytes).length cad2_1]]) (caps := cap2) hent2 rfl rfl (hfp2 (rd z_api_Segment a0 y1_0) Aad1_1 cad1_1 (rd z_api_Segment a1 y1_0) Aad2_1 cad2_1 _ _ HS5.toE HS5.sub HS5.sees hrad1_1 hcad1_1 hrad2_1 hcad2_1 _ H1)) ?_
          intro w6 hE3
          have HS6 := HS5.step hE3
          refine run_frame (by simp only [List.set_cons_zero, List.set_cons_succ]; rfl) ?_
          refine run_same (v := Value.bool (!v1)) rfl rfl (r_not rfl) ?_
          try simp only [List.set_cons_zero, List.set_cons_succ]
          refine run_nil ?_
          refine norm_then ?_
          refine wp_cond_split (t := (!v1)) rfl (fun c3 => ?_) (fun c3 => ?_)
          · replace H := of_pos H c3
            refine wp_seq ?_
            refine region ?_
            refine run_same (v := Value.bool false) rfl rfl (r_assign rfl) ?_
            try simp only [List.set_cons_zero, List.set_cons_succ]
            refine run_nil ?_
            refine norm_then ?_
            refine wp_ret ?_
            refine ret_block ?_
            refine ret_then ?_
            refine ret_loop ?_
            refine ret_then ?_
            obtain rfl := Option.some.inj H
            obtain rfl := Option.some.inj G1
            refine bodyPost_ret (results_1 rfl (one_tmp rfl)) rfl ?_
            exact ⟨rfl, HS6.toE⟩
          · replace H := of_neg H (nt c3)
            refine wp_skip ?_
            refine norm_block ?_
            refine norm_then ?_
            refine region ?_
            refine run_same (v := Value.int .i64 (IntKind.wrap .i64 (y1_0 + 1))) rfl rfl (r_bin rfl rfl rfl) ?_
            refine run_same (v := Value.int .i64 (IntKind.wrap .i64 (y1_0 + 1))) rfl rfl (r_move rfl) ?_
            try simp only [List.set_cons_zero, List.set_cons_succ]
            refine run_nil ?_
            refine again_j m (Nat.lt_succ_self m) rfl ⟨(IntKind.wrap .i64 (y1_0 + 1)), (fit rfl), H, HS6.tail.tail⟩
        · replace H := of_neg H (nt c2)
          refine wp_exit ?_
          refine exit_then ?_
          obtain rfl := Option.some.inj H
          refine leave_j rfl ⟨_, rfl, (fit rfl), HS1⟩
    · rintro us w7 ⟨s1, rfl, huo1, HS7⟩
      obtain ⟨uo1, rfl⟩ := unj huo1
      replace H := G1
      clear G1
      try simp only [patch, List.set_cons_zero, List.set_cons_succ]
      refine norm_then ?_
      refine wp_seq ?_
      refine region ?_
      refine run_same (v := Value.bool true) rfl rfl (r_assign rfl) ?_
      try simp only [List.set_cons_zero, List.set_cons_succ]
      refine run_nil ?_
      refine norm_then ?_
      refine wp_ret ?_
      obtain rfl := Option.some.inj H
      refine bodyPost_ret (results_1 rfl (one_tmp rfl)) rfl ?_
      exact ⟨rfl, HS7.toE⟩

end Go.Proofs.YtecpbadkdpbkpaaGreatDoor
namespace Go.Proofs.YtecpbadkdpbkpaaGreatDoor
open Go.RowKit Go.M
def slices_Equal_byte_byte.l0 (a0 : List Int) (a1 : List Int) : Nat → Int → Option ((Bool) ⊕ (Unit))
  | 0, _ => none
  | m + 1, y1_0 => if (decide (y1_0 < (a0.length : Int))) = true then (if 0 ≤ y1_0 ∧ y1_0 < a0.length then (if 0 ≤ y1_0 ∧ y1_0 < a1.length then (if ((rd 0 a0 y1_0) != (rd 0 a1 y1_0)) = true then (some (.inl false)) else (slices_Equal_byte_byte.l0 a0 a1 m (IntKind.wrap .i64 (y1_0 + 1)))) else none) else none) else (some (.inr ()))
def slices_Equal_byte_byte.f (k : Nat) (a0 : List Int) (a1 : List Int) : Option (Bool) := if ((a0.length : Int) != (a1.length : Int)) = true then (some false) else ((slices_Equal_byte_byte.l0 a0 a1 k 0).bind fun xx1 => (match xx1 with | .inl r => some r | .inr s1 => some true))
set_option maxRecDepth 20000 in
set_option maxHeartbeats 4000000 in
theorem slices_Equal_byte_byte.calls (k : Nat) (a0 : List Int) (a1 : List Int) (A0_0 : Option Addr) (c0_0 : Nat) (A1_0 : Option Addr) (c1_0 : Nat) {h0 : View} {w0 : World} (hv : Sees h0 w0) (hr0_0 : Rd (Kd.int .u8) h0 A0_0 a0) (hc0_0 : a0.length ≤ c0_0) (hr1_0 : Rd (Kd.int .u8) h0 A1_0 a1) (hc1_0 : a1.length ≤ c1_0) {r : Bool} (H : slices_Equal_byte_byte.f k a0 a1 = some r) : Calls Tryz.prog 63 #[Value.slice A0_0 a0.length c0_0, Value.slice A1_0 a1.length c1_0] w0 (fun e w1 => e = .returned (Value.bool r) ∧ Ext w0 w1) := by
  unfold slices_Equal_byte_byte.f at H
  have HS : St [] h0 w0 h0 [] w0 := St.init hv
  go_enter Tryz.func63, Tryz.ntmps63
  refine wp_seq ?_
  refine region ?_
  refine run_same (v := Value.bool false) rfl rfl (r_assign rfl) ?_
  try simp only [List.set_cons_zero, List.set_cons_succ]
  refine run_nil ?_
  refine norm_then ?_
  refine wp_seq ?_
  refine wp_seq ?_
  refine region ?_
  refine run_same (v := Value.slice A0_0 a0.length c0_0) rfl rfl (r_move rfl) ?_
  refine run_same (v := Value.int .i64 (a0.length : Int)) rfl rfl (r_len rfl Tryz.runUnderlying42) ?_
  refine run_same (v := Value.slice A1_0 a1.length c1_0) rfl rfl (r_move rfl) ?_
  refine run_same (v := Value.int .i64 (a1.length : Int)) rfl rfl (r_len rfl Tryz.runUnderlying42) ?_
  refine run_frame (by simp only [List.set_cons_zero, List.set_cons_succ]; rfl) ?_
  refine run_same (v := Value.bool ((a0.length : Int) != (a1.length : Int))) rfl rfl (r_bin rfl rfl rfl) ?_
  try simp only [List.set_cons_zero, List.set_cons_succ]
  refine run_nil ?_
  refine norm_then ?_
  refine wp_cond_split (t := ((a0.length : Int) != (a1.length : Int))) rfl (fun c1 => ?_) (fun c1 => ?_)
  · replace H := of_pos H c1
    refine wp_seq ?_
    refine region ?_
    refine run_same (v := Value.bool false) rfl rfl (r_assign rfl) ?_
    try simp only [List.set_cons_zero, List.set_cons_succ]
    refine run_nil ?_
    refine norm_then ?_
    refine wp_ret ?_
    refine ret_then ?_
    obtain rfl := Option.some.inj H
    refine bodyPost_ret (results_1 rfl (one_tmp rfl)) rfl ?_
    exact ⟨rfl, HS.toE⟩
  · replace H := of_neg H (nt c1)
    refine wp_skip ?_
    refine norm_then ?_
    refine wp_seq ?_
    refine wp_seq ?_
    refine region ?_
    refine run_same (v := Value.slice A0_0 a0.length c0_0) rfl rfl (r_move rfl) ?_
    refine run_same (v := Value.int .i64 (a0.length : Int)) rfl rfl (r_len rfl Tryz.runUnderlying42) ?_
    refine run_same (v := Value.int .i64 0) rfl rfl (r_move rfl) ?_
    try simp only [List.set_cons_zero, List.set_cons_succ]
    refine run_nil ?_
    refine norm_then ?_
    obtain ⟨xx1, H, G1⟩ := of_bind H
    refine loop_j [4, 5, 13, 14, 15, 16, 17, 18, 19, 20, 21, 22, 23, 24, 25] (fun m us w' => ∃ (y1_0 : Int), Fit us (fun uy1 => [(uy1 0), (uy1 1), Value.int .i64 y1_0, (uy1 3), (uy1 4), (uy1 5), (uy1 6), (uy1 7), (uy1 8), (uy1 9), (uy1 10), (uy1 11), (uy1 12), (uy1 13), (uy1 14)]) ∧ slices_Equal_byte_byte.l0 a0 a1 m y1_0 = some xx1 ∧ St [] h0 w0 h0 [] w') (fun us w' => ∃ (s1 : Unit), xx1 = .inr s1 ∧ Fit us (fun uo1 => [(uo1 0), (uo1 1), (uo1 2), (uo1 3), (uo1 4), (uo1 5), (uo1 6), (uo1 7), (uo1 8), (uo1 9), (uo1 10), (uo1 11), (uo1 12), (uo1 13), (uo1 14)]) ∧ St [] h0 w0 h0 [] w') k ⟨0, (fit rfl), H, HS⟩ ?_ ?_
    · rintro m us w1 ⟨y1_0, huy1, H, HS1⟩
      obtain ⟨uy1, rfl⟩ := unj huy1
      cases m with
      | zero => exact absurd H (by simp [slices_Equal_byte_byte.l0])
      | succ m =>
        rw [slices_Equal_byte_byte.l0] at H
        try simp only [patch, List.set_cons_zero, List.set_cons_succ]
        refine wp_seq ?_
        refine region ?_
        refine run_same (v := Value.bool (decide (y1_0 < (a0.length : Int)))) rfl rfl (r_bin rfl rfl rfl) ?_
        try simp only [List.set_cons_zero, List.set_cons_succ]
        refine run_nil ?_
        refine norm_then ?_
        refine wp_seq ?_
        refine wp_cond_split (t := (decide (y1_0 < (a0.length : Int)))) rfl (fun c2 => ?_) (fun c2 => ?_)
        · replace H := of_pos H c2
          refine wp_skip ?_
          refine norm_then ?_
          refine wp_seq ?_
          refine wp_block ?_
          refine wp_seq ?_
          refine region ?_
          refine run_same (v := Value.int .i64 y1_0) rfl rfl (r_move rfl) ?_
          refine run_same (v := Value.int .i64 y1_0) rfl rfl (r_assign rfl) ?_
          try simp only [List.set_cons_zero, List.set_cons_succ]
          refine run_nil ?_
          refine norm_then ?_
          refine wp_seq ?_
          obtain ⟨hi1, H⟩ := of_ite H
          obtain ⟨ad1, e1, hel1⟩ := ld_int hr0_0 hi1.1 hi1.2
          obtain ⟨hi2, H⟩ := of_ite H
          obtain ⟨ad2, e2, hel2⟩ := ld_int hr1_0 hi2.1 hi2.2
          refine drawn [.eq (Value.slice A0_0 a0.length c0_0), .eq (Value.int .i64 y1_0), .eq (Value.pointer (some (Addr.add ad1 (y1_0.toNat * 1)))), .eq (Value.int .u8 (rd 0 a0 y1_0)), .eq (Value.slice A1_0 a1.length c1_0), .eq (Value.int .i64 y1_0), .eq (Value.pointer (some (Addr.add ad2 (y1_0.toNat * 1)))), .eq (Value.int .u8 (rd 0 a1 y1_0)), .eq (Value.bool ((rd 0 a0 y1_0) != (rd 0 a1 y1_0)))] [16, 17, 18, 19, 20, 21, 22, 23, 24] hmix (by kernel_rfl) rfl (stable_eq (stable_eq (stable_eq (stable_eq (stable_eq (stable_eq (stable_eq (stable_eq (stable_eq stable_nil))))))))) ⟨ob_plain rfl (fun a' w' hE hk => by have HSd := HS1.step hE; exact does_eq (r_move (show _ = Value.slice A0_0 a0.length c0_0 from hk 0 rfl))), ob_plain rfl (fun a' w' hE hk => by have HSd := HS1.step hE; exact does_eq (r_move (show _ = Value.int .i64 y1_0 from hk 5 rfl))), ob_plain rfl (fun a' w' hE hk => by have HSd := HS1.step hE; exact does_eq (r_indexA (sz := 1) (show _ = Value.slice A0_0 a0.length c0_0 from hk 16 rfl) e1 (show _ = Value.int .i64 y1_0 from hk 17 rfl) hi1.1 hi1.2 Tryz.runUnderlying42 Tryz.sizeOf5)), ob_plain rfl (fun a' w' hE hk => by have HSd := HS1.step hE; exact does_eq (r_load (show _ = Value.pointer (some (Addr.add ad1 (y1_0.toNat * 1))) from hk 18 rfl) Tryz.isAgg5 (hel1.cell0 HSd.sees rfl))), ob_plain rfl (fun a' w' hE hk => by have HSd := HS1.step hE; exact does_eq (r_move (show _ = Value.slice A1_0 a1.length c1_0 from hk 1 rfl))), ob_plain rfl (fun a' w' hE hk => by have HSd := HS1.step hE; exact does_eq (r_move (show _ = Value.int .i64 y1_0 from hk 5 rfl))), ob_plain rfl (fun a' w' hE hk => by have HSd := HS1.step hE; exact does_eq (r_indexA (sz := 1) (show _ = Value.slice A1_0 a1.length c1_0 from hk 20 rfl) e2 (show _ = Value.int .i64 y1_0 from hk 21 rfl) hi2.1 hi2.2 Tryz.runUnderlying42 Tryz.sizeOf5)), ob_plain rfl (fun a' w' hE hk => by have HSd := HS1.step hE; exact does_eq (r_load (show _ = Value.pointer (some (Addr.add ad2 (y1_0.toNat * 1))) from hk 22 rfl) Tryz.isAgg5 (hel2.cell0 HSd.sees rfl))), ob_plain rfl (fun a' w' hE hk => by have HSd := HS1.step hE; exact does_eq (r_bin (show _ = Value.int .u8 (rd 0 a0 y1_0) from hk 19 rfl) (show _ = Value.int .u8 (rd 0 a1 y1_0) from hk 23 rfl) rfl)), trivial⟩ ?_
          intro w2 hE1
          simp only [List.zip_cons_cons, List.zip_nil_left, List.zip_nil_right, finL, List.set_cons_zero, List.set_cons_succ, List.length_cons, List.length_nil, List.drop_succ_cons, List.drop_zero, Nat.zero_add, Nat.reduceAdd]
          have HS2 := HS1.step hE1
          refine run_nil ?_
          refine norm_then ?_
          refine wp_cond_split (t := ((rd 0 a0 y1_0) != (rd 0 a1 y1_0))) rfl (fun c3 => ?_) (fun c3 => ?_)
          · replace H := of_pos H c3
            refine wp_seq ?_
            refine region ?_
            refine run_same (v := Value.bool false) rfl rfl (r_assign rfl) ?_
            try simp only [List.set_cons_zero, List.set_cons_succ]
            refine run_nil ?_
            refine norm_then ?_
            refine wp_ret ?_
            refine ret_block ?_
            refine ret_then ?_
            refine ret_loop ?_
            refine ret_then ?_
            obtain rfl := Option.some.inj H
            obtain rfl := Option.some.inj G1
            refine bodyPost_ret (results_1 rfl (one_tmp rfl)) rfl ?_
            exact ⟨rfl, HS2.toE⟩
          · replace H := of_neg H (nt c3)
            refine wp_skip ?_
            refine norm_block ?_
            refine norm_then ?_
            refine region ?_
            refine run_same (v := Value.int .i64 (IntKind.wrap .i64 (y1_0 + 1))) rfl rfl (r_bin rfl rfl rfl) ?_
            refine run_same (v := Value.int .i64 (IntKind.wrap .i64 (y1_0 + 1))) rfl rfl (r_move rfl) ?_
            try simp only [List.set_cons_zero, List.set_cons_succ]
            refine run_nil ?_
            refine again_j m (Nat.lt_succ_self m) rfl ⟨(IntKind.wrap .i64 (y1_0 + 1)), (fit rfl), H, HS2⟩
        · replace H := of_neg H (nt c2)
          refine wp_exit ?_
          refine exit_then ?_
          obtain rfl := Option.some.inj H
          refine leave_j rfl ⟨_, rfl, (fit rfl), HS1⟩
    · rintro us w3 ⟨s1, rfl, huo1, HS3⟩
      obtain ⟨uo1, rfl⟩ := unj huo1
      replace H := G1
      clear G1
      try simp only [patch, List.set_cons_zero, List.set_cons_succ]
      refine norm_then ?_
      refine wp_seq ?_
      refine region ?_
      refine run_same (v := Value.bool true) rfl rfl (r_assign rfl) ?_
      try simp only [List.set_cons_zero, List.set_cons_succ]
      refine run_nil ?_
      refine norm_then ?_
      refine wp_ret ?_
      obtain rfl := Option.some.inj H
      refine bodyPost_ret (results_1 rfl (one_tmp rfl)) rfl ?_
      exact ⟨rfl, HS3.toE⟩

end Go.Proofs.YtecpbadkdpbkpaaGreatDoor
namespace Go.Proofs.YtecpbadkdpbkpaaGreatDoor
open Go.RowKit Go.M
def image_Same_1.f (k : Nat) (a0 : api_Segment) (a1 : api_Segment) : Option (Bool) := (if (true && ((a0.vAt == a1.vAt) == true)) = true then slices_Equal_byte_byte.f k a0.vBytes a1.vBytes else some false).bind fun v1 => (some ((a0.vAt == a1.vAt) && v1))
set_option maxRecDepth 20000 in
set_option maxHeartbeats 4000000 in
theorem image_Same_1.calls (k : Nat) (a0 : api_Segment) (a1 : api_Segment) (A0_1 : Option Addr) (c0_1 : Nat) (A1_1 : Option Addr) (c1_1 : Nat) {h0 : View} {w0 : World} (hv : Sees h0 w0) (hr0_1 : Rd (Kd.int .u8) h0 A0_1 a0.vBytes) (hc0_1 : a0.vBytes.length ≤ c0_1) (hr1_1 : Rd (Kd.int .u8) h0 A1_1 a1.vBytes) (hc1_1 : a1.vBytes.length ≤ c1_1) {r : Bool} (H : image_Same_1.f k a0 a1 = some r) : Calls Tryz.prog 62 #[Value.agg #[Value.int .i64 a0.vAt, Value.slice A0_1 a0.vBytes.length c0_1], Value.agg #[Value.int .i64 a1.vAt, Value.slice A1_1 a1.vBytes.length c1_1]] w0 (fun e w1 => e = .returned (Value.bool r) ∧ Ext w0 w1) := by
  unfold image_Same_1.f at H
  have HS : St [] h0 w0 h0 [] w0 := St.init hv
  go_enter Tryz.func62, Tryz.ntmps62
  refine wp_seq ?_
  refine region ?_
  refine run_ex rfl rfl (does_box (cs := #[Value.int .i64 a0.vAt, Value.slice A0_1 a0.vBytes.length c0_1]) rfl rfl) ?_
  rintro w1 _ hE1 ⟨b1, rfl, ge1, hb1⟩
  have HS1 := HS.new hE1 ge1 hb1
  refine run_ex rfl rfl (does_box (cs := #[Value.int .i64 a1.vAt, Value.slice A1_1 a1.vBytes.length c1_1]) rfl rfl) ?_
  rintro w2 _ hE2 ⟨b2, rfl, ge2, hb2⟩
  have HS2 := HS1.new hE2 ge2 hb2
  refine run_same (v := Value.bool false) rfl rfl (r_assign rfl) ?_
  try simp only [List.set_cons_zero, List.set_cons_succ]
  refine run_nil ?_
  refine norm_then ?_
  refine wp_seq ?_
  refine region ?_
  refine run_same (v := Value.pointer (some ⟨b1, 0, none⟩)) rfl rfl (r_fieldBox (n := 1) (o' := 0) rfl Tryz.runUnderlying58 rfl Tryz.sizeOf2 (by decide) rfl) ?_
  refine run_same (v := Value.int .i64 a0.vAt) rfl rfl (r_loadBox rfl Tryz.isAgg2 (HS2.look 1 rfl) rfl) ?_
  refine run_same (v := Value.pointer (some ⟨b2, 0, none⟩)) rfl rfl (r_fieldBox (n := 1) (o' := 0) rfl Tryz.runUnderlying58 rfl Tryz.sizeOf2 (by decide) rfl) ?_
  refine run_same (v := Value.int .i64 a1.vAt) rfl rfl (r_loadBox rfl Tryz.isAgg2 (HS2.look 0 rfl) rfl) ?_
  refine run_frame (by simp only [List.set_cons_zero, List.set_cons_succ]; rfl) ?_
  refine run_same (v := Value.bool (a0.vAt == a1.vAt)) rfl rfl (r_bin rfl rfl rfl) ?_
  refine run_same (v := Value.bool (a0.vAt == a1.vAt)) rfl rfl (r_move rfl) ?_
  refine run_g_same (b := (a0.vAt == a1.vAt)) (c := true) (v := Value.pointer (some ⟨b1, 1, none⟩)) rfl rfl rfl rfl (fun hg => (r_fieldBox (n := 1) (o' := 1) rfl Tryz.runUnderlying58 rfl Tryz.sizeOf42 (by decide) rfl)) ?_
  refine run_g_same (b := (a0.vAt == a1.vAt)) (c := true) (v := Value.slice A0_1 a0.vBytes.length c0_1) rfl rfl rfl rfl (fun hg => (r_loadBox ((show _ = gv (true && ((a0.vAt == a1.vAt) == true)) (Value.pointer (some ⟨b1, 1, none⟩)) from rfl).trans (gv_t hg)) Tryz.isAgg42 (HS2.look 1 rfl) rfl)) ?_
  refine run_frame (by simp only [List.set_cons_zero, List.set_cons_succ]; rfl) ?_
  refine run_g_same (b := (a0.vAt == a1.vAt)) (c := true) (v := Value.pointer (some ⟨b2, 1, none⟩)) rfl rfl rfl rfl (fun hg => (r_fieldBox (n := 1) (o' := 1) rfl Tryz.runUnderlying58 rfl Tryz.sizeOf42 (by decide) rfl)) ?_
  refine run_g_same (b := (a0.vAt == a1.vAt)) (c := true) (v := Value.slice A1_1 a1.vBytes.length c1_1) rfl rfl rfl rfl (fun hg => (r_loadBox ((show _ = gv (true && ((a0.vAt == a1.vAt) == true)) (Value.pointer (some ⟨b2, 1, none⟩)) from rfl).trans (gv_t hg)) Tryz.isAgg42 (HS2.look 0 rfl) rfl)) ?_
  obtain ⟨v1, H1, H⟩ := of_bind H
  refine run_g (b := (a0.vAt == a1.vAt)) (c := true) (v := Value.bool v1) rfl rfl rfl rfl (fun hg => (does_call_eq Tryz.call63 rfl (map2 ((show _ = gv (true && ((a0.vAt == a1.vAt) == true)) (Value.slice A0_1 a0.vBytes.length c0_1) from rfl).trans (gv_t hg)) ((show _ = gv (true && ((a0.vAt == a1.vAt) == true)) (Value.slice A1_1 a1.vBytes.length c1_1) from rfl).trans (gv_t hg))) (slices_Equal_byte_byte.calls k a0.vBytes a1.vBytes A0_1 c0_1 A1_1 c1_1 HS2.sees hr0_1 hc0_1 hr1_1 hc1_1 (of_pos H1 hg)))) ?_
  intro w3 hE3
  have HS3 := HS2.step hE3
  refine run_same (v := Value.bool ((a0.vAt == a1.vAt) && v1)) rfl rfl (r_pick_and rfl (fun hp => ((show _ = gv (true && ((a0.vAt == a1.vAt) == true)) (Value.bool v1) from rfl).trans (gv_t (and_i rfl hp)))) rfl) ?_
  refine run_frame (by simp only [List.set_cons_zero, List.set_cons_succ]; rfl) ?_
  refine run_same (v := Value.bool ((a0.vAt == a1.vAt) && v1)) rfl rfl (r_assign rfl) ?_
  try simp only [List.set_cons_zero, List.set_cons_succ]
  refine run_nil ?_
  refine norm_then ?_
  refine wp_ret ?_
  obtain rfl := Option.some.inj H
  refine bodyPost_ret (results_1 rfl (one_tmp rfl)) rfl ?_
  exact ⟨rfl, HS3.toE⟩

end Go.Proofs.YtecpbadkdpbkpaaGreatDoor
namespace Go.Proofs.YtecpbadkdpbkpaaGreatDoor
open Go.RowKit Go.M
def image_Same.f (k : Nat) (a0 : api_Image) (a1 : api_Image) : Option (Bool) := (slices_EqualFunc_api_Segment_api_Segment_api_Segment_api_Segment.f k a0.vSegs a1.vSegs (fun z0 z1 => image_Same_1.f k z0 z1 )).bind fun v1 => (some v1)
set_option maxRecDepth 20000 in
set_option maxHeartbeats 4000000 in
theorem image_Same.calls (k : Nat) (a0 : api_Image) (a1 : api_Image) (A0_0 : Option Addr) (c0_0 : Nat) (A1_0 : Option Addr) (c1_0 : Nat) {h0 : View} {w0 : World} (hv : Sees h0 w0) (hr0_0 : Rd k_api_Segment h0 A0_0 a0.vSegs) (hc0_0 : a0.vSegs.length ≤ c0_0) (hr1_0 : Rd k_api_Segment h0 A1_0 a1.vSegs) (hc1_0 : a1.vSegs.length ≤ c1_0) {r : Bool} (H : image_Same.f k a0 a1 = some r) : Calls Tryz.prog 27 #[Value.agg #[Value.slice A0_0 a0.vSegs.length c0_0], Value.agg #[Value.slice A1_0 a1.vSegs.length c1_0]] w0 (fun e w1 => e = .returned (Value.bool r) ∧ Ext w0 w1) := by
  unfold image_Same.f at H
  have HS : St [] h0 w0 h0 [] w0 := St.init hv
  go_enter Tryz.func27, Tryz.ntmps27
  refine wp_seq ?_
  refine region ?_
  refine run_ex rfl rfl (does_box (cs := #[Value.slice A0_0 a0.vSegs.length c0_0]) rfl rfl) ?_
  rintro w1 _ hE1 ⟨b1, rfl, ge1, hb1⟩
  have HS1 := HS.new hE1 ge1 hb1
  refine run_ex rfl rfl (does_box (cs := #[Value.slice A1_0 a1.vSegs.length c1_0]) rfl rfl) ?_
  rintro w2 _ hE2 ⟨b2, rfl, ge2, hb2⟩
  have HS2 := HS1.new hE2 ge2 hb2
  refine run_same (v := Value.bool false) rfl rfl (r_assign rfl) ?_
  try simp only [List.set_cons_zero, List.set_cons_succ]
  refine run_nil ?_
  refine norm_then ?_
  refine wp_seq ?_
  refine region ?_
  refine run_same (v := Value.pointer (some ⟨b1, 0, none⟩)) rfl rfl (r_fieldBox (n := 1) (o' := 0) rfl Tryz.runUnderlying27 rfl Tryz.sizeOf25 (by decide) rfl) ?_
  refine run_same (v := Value.slice A0_0 a0.vSegs.length c0_0) rfl rfl (r_loadBox rfl Tryz.isAgg25 (HS2.look 1 rfl) rfl) ?_
  refine run_same (v := Value.pointer (some ⟨b2, 0, none⟩)) rfl rfl (r_fieldBox (n := 1) (o' := 0) rfl Tryz.runUnderlying27 rfl Tryz.sizeOf25 (by decide) rfl) ?_
  refine run_same (v := Value.slice A1_0 a1.vSegs.length c1_0) rfl rfl (r_loadBox rfl Tryz.isAgg25 (HS2.look 0 rfl) rfl) ?_
  refine run_frame (by simp only [List.set_cons_zero, List.set_cons_succ]; rfl) ?_
  obtain ⟨v1, H1, H⟩ := of_bind H
  refine run_eq (v := Value.bool v1) rfl rfl (does_call_eq Tryz.call61 rfl rfl (slices_EqualFunc_api_Segment_api_Segment_api_Segment_api_Segment.calls k a0.vSegs a1.vSegs (fun z0 z1 => image_Same_1.f k z0 z1 ) A0_0 c0_0 A1_0 c1_0 62 [] HS2.sees hr0_0 hc0_0 hr1_0 hc1_0 Tryz.call62 (fun z0 Az0_1 cz0_1 z1 Az1_1 cz1_1 h w hE hs hv hz0_1 hzc0_1 hz1_1 hzc1_1 r H => image_Same_1.calls k z0 z1 Az0_1 cz0_1 Az1_1 cz1_1 hv hz0_1 hzc0_1 hz1_1 hzc1_1 H) H1)) ?_
  intro w3 hE3
  have HS3 := HS2.step hE3
  refine run_same (v := Value.bool v1) rfl rfl (r_assign rfl) ?_
  try simp only [List.set_cons_zero, List.set_cons_succ]
  refine run_nil ?_
  refine norm_then ?_
  refine wp_ret ?_
  obtain rfl := Option.some.inj H
  refine bodyPost_ret (results_1 rfl (one_tmp rfl)) rfl ?_
  exact ⟨rfl, HS3.toE⟩

end Go.Proofs.YtecpbadkdpbkpaaGreatDoor
namespace Go.Proofs.YtecpbadkdpbkpaaGreatDoor
open Go.RowKit Go.M
def taplineref09_Same.l0 (a0 : api_Image) (a1 : api_Image) : Nat → Int → Option ((Bool) ⊕ (Unit))
  | 0, _ => none
  | m + 1, y1_0 => if (decide (y1_0 < (a0.vSegs.length : Int))) = true then (if 0 ≤ y1_0 ∧ y1_0 < a0.vSegs.length then (if 0 ≤ y1_0 ∧ y1_0 < a1.vSegs.length then (if (true && (((rd z_api_Segment a0.vSegs y1_0).vAt != (rd z_api_Segment a1.vSegs y1_0).vAt) == false)) = true → (0 ≤ y1_0 ∧ y1_0 < a0.vSegs.length) then (if (true && (((rd z_api_Segment a0.vSegs y1_0).vAt != (rd z_api_Segment a1.vSegs y1_0).vAt) == false)) = true → (0 ≤ y1_0 ∧ y1_0 < a1.vSegs.length) then (if (((rd z_api_Segment a0.vSegs y1_0).vAt != (rd z_api_Segment a1.vSegs y1_0).vAt) || (!(strEq (strOf ((rd z_api_Segment a0.vSegs y1_0).vBytes)) (strOf ((rd z_api_Segment a1.vSegs y1_0).vBytes))))) = true then (some (.inl false)) else (taplineref09_Same.l0 a0 a1 m (IntKind.wrap .i64 (y1_0 + 1)))) else none) else none) else none) else none) else (some (.inr ()))
def taplineref09_Same.f (k : Nat) (a0 : api_Image) (a1 : api_Image) : Option (Bool) := if ((a0.vSegs.length : Int) != (a1.vSegs.length : Int)) = true then (some false) else ((taplineref09_Same.l0 a0 a1 k 0).bind fun xx1 => (match xx1 with | .inl r => some r | .inr s1 => some true))
set_option maxRecDepth 20000 in
set_option maxHeartbeats 4000000 in
theorem taplineref09_Same.calls (k : Nat) (a0 : api_Image) (a1 : api_Image) (A0_0 : Option Addr) (c0_0 : Nat) (A1_0 : Option Addr) (c1_0 : Nat) {h0 : View} {w0 : World} (hv : Sees h0 w0) (hr0_0 : Rd k_api_Segment h0 A0_0 a0.vSegs) (hc0_0 : a0.vSegs.length ≤ c0_0) (hr1_0 : Rd k_api_Segment h0 A1_0 a1.vSegs) (hc1_0 : a1.vSegs.length ≤ c1_0) {r : Bool} (H : taplineref09_Same.f k a0 a1 = some r) : Calls Tryz.prog 28 #[Value.agg #[Value.slice A0_0 a0.vSegs.length c0_0], Value.agg #[Value.slice A1_0 a1.vSegs.length c1_0]] w0 (fun e w1 => e = .returned (Value.bool r) ∧ Ext w0 w1) := by
  unfold taplineref09_Same.f at H
  have HS : St [] h0 w0 h0 [] w0 := St.init hv
  go_enter Tryz.func28, Tryz.ntmps28
  refine wp_seq ?_
  refine region ?_
  refine run_ex rfl rfl (does_box (cs := #[Value.slice A0_0 a0.vSegs.length c0_0]) rfl rfl) ?_
  rintro w1 _ hE1 ⟨b1, rfl, ge1, hb1⟩
  have HS1 := HS.new hE1 ge1 hb1
  refine run_ex rfl rfl (does_box (cs := #[Value.slice A1_0 a1.vSegs.length c1_0]) rfl rfl) ?_
  rintro w2 _ hE2 ⟨b2, rfl, ge2, hb2⟩
  have HS2 := HS1.new hE2 ge2 hb2
  refine run_same (v := Value.bool false) rfl rfl (r_assign rfl) ?_
  try simp only [List.set_cons_zero, List.set_cons_succ]
  refine run_nil ?_
  refine norm_then ?_
  refine wp_seq ?_
  refine wp_seq ?_
  refine region ?_
  refine run_same (v := Value.pointer (some ⟨b1, 0, none⟩)) rfl rfl (r_fieldBox (n := 1) (o' := 0) rfl Tryz.runUnderlying27 rfl Tryz.sizeOf25 (by decide) rfl) ?_
  refine run_same (v := Value.slice A0_0 a0.vSegs.length c0_0) rfl rfl (r_loadBox rfl Tryz.isAgg25 (HS2.look 1 rfl) rfl) ?_
  refine run_same (v := Value.int .i64 (a0.vSegs.length : Int)) rfl rfl (r_len rfl Tryz.runUnderlying25) ?_
  refine run_same (v := Value.pointer (some ⟨b2, 0, none⟩)) rfl rfl (r_fieldBox (n := 1) (o' := 0) rfl Tryz.runUnderlying27 rfl Tryz.sizeOf25 (by decide) rfl) ?_
  refine run_frame (by simp only [List.set_cons_zero, List.set_cons_succ]; rfl) ?_
  refine run_same (v := Value.slice A1_0 a1.vSegs.length c1_0) rfl rfl (r_loadBox rfl Tryz.isAgg25 (HS2.look 0 rfl) rfl) ?_
  refine run_same (v := Value.int .i64 (a1.vSegs.length : Int)) rfl rfl (r_len rfl Tryz.runUnderlying25) ?_
  refine run_same (v := Value.bool ((a0.vSegs.length : Int) != (a1.vSegs.length : Int))) rfl rfl (r_bin rfl rfl rfl) ?_
  try simp only [List.set_cons_zero, List.set_cons_succ]
  refine run_nil ?_
  refine norm_then ?_
  refine wp_cond_split (t := ((a0.vSegs.length : Int) != (a1.vSegs.length : Int))) rfl (fun c1 => ?_) (fun c1 => ?_)
  · replace H := of_pos H c1
    refine wp_seq ?_
    refine region ?_
    refine run_same (v := Value.bool false) rfl rfl (r_assign rfl) ?_
    try simp only [List.set_cons_zero, List.set_cons_succ]
    refine run_nil ?_
    refine norm_then ?_
    refine wp_ret ?_
    refine ret_then ?_
    obtain rfl := Option.some.inj H
    refine bodyPost_ret (results_1 rfl (one_tmp rfl)) rfl ?_
    exact ⟨rfl, HS2.toE⟩
  · replace H := of_neg H (nt c1)
    refine wp_skip ?_
    refine norm_then ?_
    refine wp_seq ?_
    refine wp_seq ?_
    refine region ?_
    refine run_same (v := Value.int .i64 0) rfl rfl (r_assign rfl) ?_
    try simp only [List.set_cons_zero, List.set_cons_succ]
    refine run_nil ?_
    refine norm_then ?_
    obtain ⟨xx1, H, G1⟩ := of_bind H
    refine loop_j [4, 5, 13, 14, 15, 16, 17, 18, 19, 20, 21, 22, 23, 24, 25, 26, 27, 28, 29, 30, 31, 32, 33, 34, 35, 36, 37, 38, 39, 40, 41, 42, 43, 44, 45, 46, 47, 48, 49] (fun m us w' => ∃ (y1_0 : Int), Fit us (fun uy1 => [(uy1 0), Value.int .i64 y1_0, (uy1 2), (uy1 3), (uy1 4), (uy1 5), (uy1 6), (uy1 7), (uy1 8), (uy1 9), (uy1 10), (uy1 11), (uy1 12), (uy1 13), (uy1 14), (uy1 15), (uy1 16), (uy1 17), (uy1 18), (uy1 19), (uy1 20), (uy1 21), (uy1 22), (uy1 23), (uy1 24), (uy1 25), (uy1 26), (uy1 27), (uy1 28), (uy1 29), (uy1 30), (uy1 31), (uy1 32), (uy1 33), (uy1 34), (uy1 35), (uy1 36), (uy1 37), (uy1 38)]) ∧ taplineref09_Same.l0 a0 a1 m y1_0 = some xx1 ∧ St [] h0 w0 h0 [(some b2, .cells #[Value.slice A1_0 a1.vSegs.length c1_0] 27 (0, 0)), (some b1, .cells #[Value.slice A0_0 a0.vSegs.length c0_0] 27 (0, 0))] w') (fun us w' => ∃ (s1 : Unit), xx1 = .inr s1 ∧ Fit us (fun uo1 => [(uo1 0), (uo1 1), (uo1 2), (uo1 3), (uo1 4), (uo1 5), (uo1 6), (uo1 7), (uo1 8), (uo1 9), (uo1 10), (uo1 11), (uo1 12), (uo1 13), (uo1 14), (uo1 15), (uo1 16), (uo1 17), (uo1 18), (uo1 19), (uo1 20), (uo1 21), (uo1 22), (uo1 23), (uo1 24), (uo1 25), (uo1 26), (uo1 27), (uo1 28), (uo1 29), (uo1 30), (uo1 31), (uo1 32), (uo1 33), (uo1 34), (uo1 35), (uo1 36), (uo1 37), (uo1 38)]) ∧ St [] h0 w0 h0 [(some b2, .cells #[Value.slice A1_0 a1.vSegs.length c1_0] 27 (0, 0)), (some b1, .cells #[Value.slice A0_0 a0.vSegs.length c0_0] 27 (0, 0))] w') k ⟨0, (fit rfl), H, HS2⟩ ?_ ?_
    · rintro m us w3 ⟨y1_0, huy1, H, HS3⟩
      obtain ⟨uy1, rfl⟩ := unj huy1
      cases m with
      | zero => exact absurd H (by simp [taplineref09_Same.l0])
      | succ m =>
        rw [taplineref09_Same.l0] at H
        try simp only [patch, List.set_cons_zero, List.set_cons_succ]
        refine wp_seq ?_
        refine wp_seq ?_
        refine region ?_
        refine run_same (v := Value.int .i64 y1_0) rfl rfl (r_move rfl) ?_
        refine run_same (v := Value.pointer (some ⟨b1, 0, none⟩)) rfl rfl (r_fieldBox (n := 1) (o' := 0) rfl Tryz.runUnderlying27 rfl Tryz.sizeOf25 (by decide) rfl) ?_
        refine run_same (v := Value.slice A0_0 a0.vSegs.length c0_0) rfl rfl (r_loadBox rfl Tryz.isAgg25 (HS3.look 1 rfl) rfl) ?_
        refine run_same (v := Value.int .i64 (a0.vSegs.length : Int)) rfl rfl (r_len rfl Tryz.runUnderlying25) ?_
        refine run_frame (by simp only [List.set_cons_zero, List.set_cons_succ]; rfl) ?_
        refine run_same (v := Value.bool (decide (y1_0 < (a0.vSegs.length : Int)))) rfl rfl (r_bin rfl rfl rfl) ?_
        try simp only [List.set_cons_zero, List.set_cons_succ]
        refine run_nil ?_
        refine norm_then ?_
        refine wp_cond_split (t := (decide (y1_0 < (a0.vSegs.length : Int)))) rfl (fun c2 => ?_) (fun c2 => ?_)
        · replace H := of_pos H c2
          refine wp_skip ?_
          refine norm_then ?_
          refine wp_seq ?_
          refine wp_block ?_
          refine wp_seq ?_
          obtain ⟨hi1, H⟩ := of_ite H
          obtain ⟨ad1, Aad1_1, cad1_1, e1, hel1, hcad1_1, hrad1_1⟩ := ld_api_Segment hr0_0 hi1.1 hi1.2
          obtain ⟨hi2, H⟩ := of_ite H
          obtain ⟨ad2, Aad2_1, cad2_1, e2, hel2, hcad2_1, hrad2_1⟩ := ld_api_Segment hr1_0 hi2.1 hi2.2
          obtain ⟨hi3, H⟩ := of_ite H
          obtain ⟨ad3, Aad3_1, cad3_1, hq1⟩ := gx3 (fun hC : (true && (((rd z_api_Segment a0.vSegs y1_0).vAt != (rd z_api_Segment a1.vSegs y1_0).vAt) == false)) = true => ld_api_Segment hr0_0 (hi3 hC).1 (hi3 hC).2)
          obtain ⟨hi4, H⟩ := of_ite H
          obtain ⟨ad4, Aad4_1, cad4_1, hq2⟩ := gx3 (fun hC : (true && (((rd z_api_Segment a0.vSegs y1_0).vAt != (rd z_api_Segment a1.vSegs y1_0).vAt) == false)) = true => ld_api_Segment hr1_0 (hi4 hC).1 (hi4 hC).2)
          refine drawn [.eq (Value.pointer (some ⟨b1, 0, none⟩)), .eq (Value.slice A0_0 a0.vSegs.length c0_0), .eq (Value.int .i64 y1_0), .eq (Value.pointer (some (Addr.add ad1 (y1_0.toNat * 2)))), .eq (Value.pointer (some (Addr.add (Addr.add ad1 (y1_0.toNat * 2)) 0))), .eq (Value.int .i64 ((rd z_api_Segment a0.vSegs y1_0).vAt)), .eq (Value.pointer (some ⟨b2, 0, none⟩)), .eq (Value.slice A1_0 a1.vSegs.length c1_0), .eq (Value.int .i64 y1_0), .eq (Value.pointer (some (Addr.add ad2 (y1_0.toNat * 2)))), .eq (Value.pointer (some (Addr.add (Addr.add ad2 (y1_0.toNat * 2)) 0))), .eq (Value.int .i64 ((rd z_api_Segment a1.vSegs y1_0).vAt)), .eq (Value.bool ((rd z_api_Segment a0.vSegs y1_0).vAt != (rd z_api_Segment a1.vSegs y1_0).vAt)), .eq (Value.bool ((rd z_api_Segment a0.vSegs y1_0).vAt != (rd z_api_Segment a1.vSegs y1_0).vAt)), .eq (gv (true && (((rd z_api_Segment a0.vSegs y1_0).vAt != (rd z_api_Segment a1.vSegs y1_0).vAt) == false)) (Value.pointer (some ⟨b1, 0, none⟩))), .eq (gv (true && (((rd z_api_Segment a0.vSegs y1_0).vAt != (rd z_api_Segment a1.vSegs y1_0).vAt) == false)) (Value.slice A0_0 a0.vSegs.length c0_0)), .eq (gv (true && (((rd z_api_Segment a0.vSegs y1_0).vAt != (rd z_api_Segment a1.vSegs y1_0).vAt) == false)) (Value.int .i64 y1_0)), .eq (gv (true && (((rd z_api_Segment a0.vSegs y1_0).vAt != (rd z_api_Segment a1.vSegs y1_0).vAt) == false)) (Value.pointer (some (Addr.add ad3 (y1_0.toNat * 2))))), .eq (gv (true && (((rd z_api_Segment a0.vSegs y1_0).vAt != (rd z_api_Segment a1.vSegs y1_0).vAt) == false)) (Value.pointer (some (Addr.add (Addr.add ad3 (y1_0.toNat * 2)) 1)))), .eq (gv (true && (((rd z_api_Segment a0.vSegs y1_0).vAt != (rd z_api_Segment a1.vSegs y1_0).vAt) == false)) (Value.slice Aad3_1 ((rd z_api_Segment a0.vSegs y1_0).vBytes).length cad3_1)), .eq (gv (true && (((rd z_api_Segment a0.vSegs y1_0).vAt != (rd z_api_Segment a1.vSegs y1_0).vAt) == false)) (Value.string (strOf ((rd z_api_Segment a0.vSegs y1_0).vBytes)))), .eq (gv (true && (((rd z_api_Segment a0.vSegs y1_0).vAt != (rd z_api_Segment a1.vSegs y1_0).vAt) == false)) (Value.pointer (some ⟨b2, 0, none⟩))), .eq (gv (true && (((rd z_api_Segment a0.vSegs y1_0).vAt != (rd z_api_Segment a1.vSegs y1_0).vAt) == false)) (Value.slice A1_0 a1.vSegs.length c1_0)), .eq (gv (true && (((rd z_api_Segment a0.vSegs y1_0).vAt != (rd z_api_Segment a1.vSegs y1_0).vAt) == false)) (Value.int .i64 y1_0)), .eq (gv (true && (((rd z_api_Segment a0.vSegs y1_0).vAt != (rd z_api_Segment a1.vSegs y1_0).vAt) == false)) (Value.pointer (some (Addr.add ad4 (y1_0.toNat * 2))))), .eq (gv (true && (((rd z_api_Segment a0.vSegs y1_0).vAt != (rd z_api_Segment a1.vSegs y1_0).vAt) == false)) (Value.pointer (some (Addr.add (Addr.add ad4 (y1_0.toNat * 2)) 1)))), .eq (gv (true && (((rd z_api_Segment a0.vSegs y1_0).vAt != (rd z_api_Segment a1.vSegs y1_0).vAt) == false)) (Value.slice Aad4_1 ((rd z_api_Segment a1.vSegs y1_0).vBytes).length cad4_1)), .eq (gv (true && (((rd z_api_Segment a0.vSegs y1_0).vAt != (rd z_api_Segment a1.vSegs y1_0).vAt) == false)) (Value.string (strOf ((rd z_api_Segment a1.vSegs y1_0).vBytes)))), .eq (gv (true && (((rd z_api_Segment a0.vSegs y1_0).vAt != (rd z_api_Segment a1.vSegs y1_0).vAt) == false)) (Value.bool (!(strEq (strOf ((rd z_api_Segment a0.vSegs y1_0).vBytes)) (strOf ((rd z_api_Segment a1.vSegs y1_0).vBytes)))))), .eq (Value.bool (((rd z_api_Segment a0.vSegs y1_0).vAt != (rd z_api_Segment a1.vSegs y1_0).vAt) || (!(strEq (strOf ((rd z_api_Segment a0.vSegs y1_0).vBytes)) (strOf ((rd z_api_Segment a1.vSegs y1_0).vBytes))))))] [20, 21, 22, 23, 24, 25, 26, 27, 28, 29, 30, 31, 32, 33, 34, 35, 36, 37, 38, 39, 40, 41, 42, 43, 44, 45, 46, 47, 48, 49] hmix (by kernel_rfl) rfl (stable_eq (stable_eq (stable_eq (stable_eq (stable_eq (stable_eq (stable_eq (stable_eq (stable_eq (stable_eq (stable_eq (stable_eq (stable_eq (stable_eq (stable_eq (stable_eq (stable_eq (stable_eq (stable_eq (stable_eq (stable_eq (stable_eq (stable_eq (stable_eq (stable_eq (stable_eq (stable_eq (stable_eq (stable_eq (stable_eq stable_nil)))))))))))))))))))))))))))))) ⟨ob_plain rfl (fun a' w' hE hk => by have HSd := HS3.step hE; exact does_eq (r_fieldBox (n := 1) (o' := 0) (show _ = Value.pointer (some ⟨b1, 0, none⟩) from hk 2 rfl) Tryz.runUnderlying27 rfl Tryz.sizeOf25 (by decide) rfl)), ob_plain rfl (fun a' w' hE hk => by have HSd := HS3.step hE; exact does_eq (r_loadBox (show _ = Value.pointer (some ⟨b1, 0, none⟩) from hk 20 rfl) Tryz.isAgg25 (HSd.look 1 rfl) rfl)), ob_plain rfl (fun a' w' hE hk => by have HSd := HS3.step hE; exact does_eq (r_move (show _ = Value.int .i64 y1_0 from hk 5 rfl))), ob_plain rfl (fun a' w' hE hk => by have HSd := HS3.step hE; exact does_eq (r_indexA (sz := 2) (show _ = Value.slice A0_0 a0.vSegs.length c0_0 from hk 21 rfl) e1 (show _ = Value.int .i64 y1_0 from hk 22 rfl) hi1.1 hi1.2 Tryz.runUnderlying25 Tryz.sizeOf58)), ob_plain rfl (fun a' w' hE hk => by have HSd := HS3.step hE; exact does_eq (r_fieldEl (n := 1) (o' := 0) (show _ = Value.pointer (some (Addr.add ad1 (y1_0.toNat * 2))) from hk 23 rfl) Tryz.runUnderlying58 rfl Tryz.sizeOf2 (by decide) rfl)), ob_plain rfl (fun a' w' hE hk => by have HSd := HS3.step hE; exact does_eq (r_load (show _ = Value.pointer (some (Addr.add (Addr.add ad1 (y1_0.toNat * 2)) 0)) from hk 24 rfl) Tryz.isAgg2 (hel1.cell HSd.sees 0 rfl))), ob_plain rfl (fun a' w' hE hk => by have HSd := HS3.step hE; exact does_eq (r_fieldBox (n := 1) (o' := 0) (show _ = Value.pointer (some ⟨b2, 0, none⟩) from hk 3 rfl) Tryz.runUnderlying27 rfl Tryz.sizeOf25 (by decide) rfl)), ob_plain rfl (fun a' w' hE hk => by have HSd := HS3.step hE; exact does_eq (r_loadBox (show _ = Value.pointer (some ⟨b2, 0, none⟩) from hk 26 rfl) Tryz.isAgg25 (HSd.look 0 rfl) rfl)), ob_plain rfl (fun a' w' hE hk => by have HSd := HS3.step hE; exact does_eq (r_move (show _ = Value.int .i64 y1_0 from hk 5 rfl))), ob_plain rfl (fun a' w' hE hk => by have HSd := HS3.step hE; exact does_eq (r_indexA (sz := 2) (show _ = Value.slice A1_0 a1.vSegs.length c1_0 from hk 27 rfl) e2 (show _ = Value.int .i64 y1_0 from hk 28 rfl) hi2.1 hi2.2 Tryz.runUnderlying25 Tryz.sizeOf58)), ob_plain rfl (fun a' w' hE hk => by have HSd := HS3.step hE; exact does_eq (r_fieldEl (n := 1) (o' := 0) (show _ = Value.pointer (some (Addr.add ad2 (y1_0.toNat * 2))) from hk 29 rfl) Tryz.runUnderlying58 rfl Tryz.sizeOf2 (by decide) rfl)), ob_plain rfl (fun a' w' hE hk => by have HSd := HS3.step hE; exact does_eq (r_load (show _ = Value.pointer (some (Addr.add (Addr.add ad2 (y1_0.toNat * 2)) 0)) from hk 30 rfl) Tryz.isAgg2 (hel2.cell HSd.sees 0 rfl))), ob_plain rfl (fun a' w' hE hk => by have HSd := HS3.step hE; exact does_eq (r_bin (show _ = Value.int .i64 ((rd z_api_Segment a0.vSegs y1_0).vAt) from hk 25 rfl) (show _ = Value.int .i64 ((rd z_api_Segment a1.vSegs y1_0).vAt) from hk 31 rfl) rfl)), ob_plain rfl (fun a' w' hE hk => by have HSd := HS3.step hE; exact does_eq (r_move (show _ = Value.bool ((rd z_api_Segment a0.vSegs y1_0).vAt != (rd z_api_Segment a1.vSegs y1_0).vAt) from hk 32 rfl))), ob_guard (b := ((rd z_api_Segment a0.vSegs y1_0).vAt != (rd z_api_Segment a1.vSegs y1_0).vAt)) (c := true) rfl rfl (by decide) (fun w' u hu => by exact hu) (fun a' w' hE hk hg => by have HSd := HS3.step hE; exact does_eq (r_fieldBox (n := 1) (o' := 0) (show _ = Value.pointer (some ⟨b1, 0, none⟩) from hk 2 rfl) Tryz.runUnderlying27 rfl Tryz.sizeOf25 (by decide) rfl)), ob_guard (b := ((rd z_api_Segment a0.vSegs y1_0).vAt != (rd z_api_Segment a1.vSegs y1_0).vAt)) (c := true) rfl rfl (by decide) (fun w' u hu => by exact hu) (fun a' w' hE hk hg => by have HSd := HS3.step hE; exact does_eq (r_loadBox ((show _ = gv (true && (((rd z_api_Segment a0.vSegs y1_0).vAt != (rd z_api_Segment a1.vSegs y1_0).vAt) == false)) (Value.pointer (some ⟨b1, 0, none⟩)) from (show _ = gv (true && (((rd z_api_Segment a0.vSegs y1_0).vAt != (rd z_api_Segment a1.vSegs y1_0).vAt) == false)) (Value.pointer (some ⟨b1, 0, none⟩)) from hk 34 rfl)).trans (gv_t hg)) Tryz.isAgg25 (HSd.look 1 rfl) rfl)), ob_guard (b := ((rd z_api_Segment a0.vSegs y1_0).vAt != (rd z_api_Segment a1.vSegs y1_0).vAt)) (c := true) rfl rfl (by decide) (fun w' u hu => by exact hu) (fun a' w' hE hk hg => by have HSd := HS3.step hE; exact does_eq (r_move (show _ = Value.int .i64 y1_0 from hk 5 rfl))), ob_guard (b := ((rd z_api_Segment a0.vSegs y1_0).vAt != (rd z_api_Segment a1.vSegs y1_0).vAt)) (c := true) rfl rfl (by decide) (fun w' u hu => by exact hu) (fun a' w' hE hk hg => by have HSd := HS3.step hE; exact does_eq (r_indexA (sz := 2) ((show _ = gv (true && (((rd z_api_Segment a0.vSegs y1_0).vAt != (rd z_api_Segment a1.vSegs y1_0).vAt) == false)) (Value.slice A0_0 a0.vSegs.length c0_0) from (show _ = gv (true && (((rd z_api_Segment a0.vSegs y1_0).vAt != (rd z_api_Segment a1.vSegs y1_0).vAt) == false)) (Value.slice A0_0 a0.vSegs.length c0_0) from hk 35 rfl)).trans (gv_t hg)) (hq1 hg).1 ((show _ = gv (true && (((rd z_api_Segment a0.vSegs y1_0).vAt != (rd z_api_Segment a1.vSegs y1_0).vAt) == false)) (Value.int .i64 y1_0) from (show _ = gv (true && (((rd z_api_Segment a0.vSegs y1_0).vAt != (rd z_api_Segment a1.vSegs y1_0).vAt) == false)) (Value.int .i64 y1_0) from hk 36 rfl)).trans (gv_t hg)) (hi3 hg).1 (hi3 hg).2 Tryz.runUnderlying25 Tryz.sizeOf58)), ob_guard (b := ((rd z_api_Segment a0.vSegs y1_0).vAt != (rd z_api_Segment a1.vSegs y1_0).vAt)) (c := true) rfl rfl (by decide) (fun w' u hu => by exact hu) (fun a' w' hE hk hg => by have HSd := HS3.step hE; exact does_eq (r_fieldEl (n := 1) (o' := 1) ((show _ = gv (true && (((rd z_api_Segment a0.vSegs y1_0).vAt != (rd z_api_Segment a1.vSegs y1_0).vAt) == false)) (Value.pointer (some (Addr.add ad3 (y1_0.toNat * 2)))) from (show _ = gv (true && (((rd z_api_Segment a0.vSegs y1_0).vAt != (rd z_api_Segment a1.vSegs y1_0).vAt) == false)) (Value.pointer (some (Addr.add ad3 (y1_0.toNat * 2)))) from hk 37 rfl)).trans (gv_t hg)) Tryz.runUnderlying58 rfl Tryz.sizeOf42 (by decide) rfl)), ob_guard (b := ((rd z_api_Segment a0.vSegs y1_0).vAt != (rd z_api_Segment a1.vSegs y1_0).vAt)) (c := true) rfl rfl (by decide) (fun w' u hu => by exact hu) (fun a' w' hE hk hg => by have HSd := HS3.step hE; exact does_eq (r_load ((show _ = gv (true && (((rd z_api_Segment a0.vSegs y1_0).vAt != (rd z_api_Segment a1.vSegs y1_0).vAt) == false)) (Value.pointer (some (Addr.add (Addr.add ad3 (y1_0.toNat * 2)) 1))) from (show _ = gv (true && (((rd z_api_Segment a0.vSegs y1_0).vAt != (rd z_api_Segment a1.vSegs y1_0).vAt) == false)) (Value.pointer (some (Addr.add (Addr.add ad3 (y1_0.toNat * 2)) 1))) from hk 38 rfl)).trans (gv_t hg)) Tryz.isAgg42 (((hq1 hg).2.1).cell HSd.sees 1 rfl))), ob_guard (b := ((rd z_api_Segment a0.vSegs y1_0).vAt != (rd z_api_Segment a1.vSegs y1_0).vAt)) (c := true) rfl rfl (by decide) (fun w' u hu => by exact hu) (fun a' w' hE hk hg => by have HSd := HS3.step hE; exact does_eq (r_b2s ((show _ = gv (true && (((rd z_api_Segment a0.vSegs y1_0).vAt != (rd z_api_Segment a1.vSegs y1_0).vAt) == false)) (Value.slice Aad3_1 ((rd z_api_Segment a0.vSegs y1_0).vBytes).length cad3_1) from (show _ = gv (true && (((rd z_api_Segment a0.vSegs y1_0).vAt != (rd z_api_Segment a1.vSegs y1_0).vAt) == false)) (Value.slice Aad3_1 ((rd z_api_Segment a0.vSegs y1_0).vBytes).length cad3_1) from hk 39 rfl)).trans (gv_t hg)) Tryz.runUnderlying42 Tryz.runUnderlying9 Tryz.runUnderlying5 HSd.sees ((hq1 hg).2.2.2))), ob_guard (b := ((rd z_api_Segment a0.vSegs y1_0).vAt != (rd z_api_Segment a1.vSegs y1_0).vAt)) (c := true) rfl rfl (by decide) (fun w' u hu => by exact hu) (fun a' w' hE hk hg => by have HSd := HS3.step hE; exact does_eq (r_fieldBox (n := 1) (o' := 0) (show _ = Value.pointer (some ⟨b2, 0, none⟩) from hk 3 rfl) Tryz.runUnderlying27 rfl Tryz.sizeOf25 (by decide) rfl)), ob_guard (b := ((rd z_api_Segment a0.vSegs y1_0).vAt != (rd z_api_Segment a1.vSegs y1_0).vAt)) (c := true) rfl rfl (by decide) (fun w' u hu => by exact hu) (fun a' w' hE hk hg => by have HSd := HS3.step hE; exact does_eq (r_loadBox ((show _ = gv (true && (((rd z_api_Segment a0.vSegs y1_0).vAt != (rd z_api_Segment a1.vSegs y1_0).vAt) == false)) (Value.pointer (some ⟨b2, 0, none⟩)) from (show _ = gv (true && (((rd z_api_Segment a0.vSegs y1_0).vAt != (rd z_api_Segment a1.vSegs y1_0).vAt) == false)) (Value.pointer (some ⟨b2, 0, none⟩)) from hk 41 rfl)).trans (gv_t hg)) Tryz.isAgg25 (HSd.look 0 rfl) rfl)), ob_guard (b := ((rd z_api_Segment a0.vSegs y1_0).vAt != (rd z_api_Segment a1.vSegs y1_0).vAt)) (c := true) rfl rfl (by decide) (fun w' u hu => by exact hu) (fun a' w' hE hk hg => by have HSd := HS3.step hE; exact does_eq (r_move (show _ = Value.int .i64 y1_0 from hk 5 rfl))), ob_guard (b := ((rd z_api_Segment a0.vSegs y1_0).vAt != (rd z_api_Segment a1.vSegs y1_0).vAt)) (c := true) rfl rfl (by decide) (fun w' u hu => by exact hu) (fun a' w' hE hk hg => by have HSd := HS3.step hE; exact does_eq (r_indexA (sz := 2) ((show _ = gv (true && (((rd z_api_Segment a0.vSegs y1_0).vAt != (rd z_api_Segment a1.vSegs y1_0).vAt) == false)) (Value.slice A1_0 a1.vSegs.length c1_0) from (show _ = gv (true && (((rd z_api_Segment a0.vSegs y1_0).vAt != (rd z_api_Segment a1.vSegs y1_0).vAt) == false)) (Value.slice A1_0 a1.vSegs.length c1_0) from hk 42 rfl)).trans (gv_t hg)) (hq2 hg).1 ((show _ = gv (true && (((rd z_api_Segment a0.vSegs y1_0).vAt != (rd z_api_Segment a1.vSegs y1_0).vAt) == false)) (Value.int .i64 y1_0) from (show _ = gv (true && (((rd z_api_Segment a0.vSegs y1_0).vAt != (rd z_api_Segment a1.vSegs y1_0).vAt) == false)) (Value.int .i64 y1_0) from hk 43 rfl)).trans (gv_t hg)) (hi4 hg).1 (hi4 hg).2 Tryz.runUnderlying25 Tryz.sizeOf58)), ob_guard (b := ((rd z_api_Segment a0.vSegs y1_0).vAt != (rd z_api_Segment a1.vSegs y1_0).vAt)) (c := true) rfl rfl (by decide) (fun w' u hu => by exact hu) (fun a' w' hE hk hg => by have HSd := HS3.step hE; exact does_eq (r_fieldEl (n := 1) (o' := 1) ((show _ = gv (true && (((rd z_api_Segment a0.vSegs y1_0).vAt != (rd z_api_Segment a1.vSegs y1_0).vAt) == false)) (Value.pointer (some (Addr.add ad4 (y1_0.toNat * 2)))) from (show _ = gv (true && (((rd z_api_Segment a0.vSegs y1_0).vAt != (rd z_api_Segment a1.vSegs y1_0).vAt) == false)) (Value.pointer (some (Addr.add ad4 (y1_0.toNat * 2)))) from hk 44 rfl)).trans (gv_t hg)) Tryz.runUnderlying58 rfl Tryz.sizeOf42 (by decide) rfl)), ob_guard (b := ((rd z_api_Segment a0.vSegs y1_0).vAt != (rd z_api_Segment a1.vSegs y1_0).vAt)) (c := true) rfl rfl (by decide) (fun w' u hu => by exact hu) (fun a' w' hE hk hg => by have HSd := HS3.step hE; exact does_eq (r_load ((show _ = gv (true && (((rd z_api_Segment a0.vSegs y1_0).vAt != (rd z_api_Segment a1.vSegs y1_0).vAt) == false)) (Value.pointer (some (Addr.add (Addr.add ad4 (y1_0.toNat * 2)) 1))) from (show _ = gv (true && (((rd z_api_Segment a0.vSegs y1_0).vAt != (rd z_api_Segment a1.vSegs y1_0).vAt) == false)) (Value.pointer (some (Addr.add (Addr.add ad4 (y1_0.toNat * 2)) 1))) from hk 45 rfl)).trans (gv_t hg)) Tryz.isAgg42 (((hq2 hg).2.1).cell HSd.sees 1 rfl))), ob_guard (b := ((rd z_api_Segment a0.vSegs y1_0).vAt != (rd z_api_Segment a1.vSegs y1_0).vAt)) (c := true) rfl rfl (by decide) (fun w' u hu => by exact hu) (fun a' w' hE hk hg => by have HSd := HS3.step hE; exact does_eq (r_b2s ((show _ = gv (true && (((rd z_api_Segment a0.vSegs y1_0).vAt != (rd z_api_Segment a1.vSegs y1_0).vAt) == false)) (Value.slice Aad4_1 ((rd z_api_Segment a1.vSegs y1_0).vBytes).length cad4_1) from (show _ = gv (true && (((rd z_api_Segment a0.vSegs y1_0).vAt != (rd z_api_Segment a1.vSegs y1_0).vAt) == false)) (Value.slice Aad4_1 ((rd z_api_Segment a1.vSegs y1_0).vBytes).length cad4_1) from hk 46 rfl)).trans (gv_t hg)) Tryz.runUnderlying42 Tryz.runUnderlying9 Tryz.runUnderlying5 HSd.sees ((hq2 hg).2.2.2))), ob_guard (b := ((rd z_api_Segment a0.vSegs y1_0).vAt != (rd z_api_Segment a1.vSegs y1_0).vAt)) (c := true) rfl rfl (by decide) (fun w' u hu => by exact hu) (fun a' w' hE hk hg => by have HSd := HS3.step hE; exact does_eq (r_strneq ((show _ = gv (true && (((rd z_api_Segment a0.vSegs y1_0).vAt != (rd z_api_Segment a1.vSegs y1_0).vAt) == false)) (Value.string (strOf ((rd z_api_Segment a0.vSegs y1_0).vBytes))) from (show _ = gv (true && (((rd z_api_Segment a0.vSegs y1_0).vAt != (rd z_api_Segment a1.vSegs y1_0).vAt) == false)) (Value.string (strOf ((rd z_api_Segment a0.vSegs y1_0).vBytes))) from hk 40 rfl)).trans (gv_t hg)) ((show _ = gv (true && (((rd z_api_Segment a0.vSegs y1_0).vAt != (rd z_api_Segment a1.vSegs y1_0).vAt) == false)) (Value.string (strOf ((rd z_api_Segment a1.vSegs y1_0).vBytes))) from (show _ = gv (true && (((rd z_api_Segment a0.vSegs y1_0).vAt != (rd z_api_Segment a1.vSegs y1_0).vAt) == false)) (Value.string (strOf ((rd z_api_Segment a1.vSegs y1_0).vBytes))) from hk 47 rfl)).trans (gv_t hg)))), ob_plain rfl (fun a' w' hE hk => by have HSd := HS3.step hE; exact does_eq (r_pick_or (show _ = Value.bool ((rd z_api_Segment a0.vSegs y1_0).vAt != (rd z_api_Segment a1.vSegs y1_0).vAt) from hk 33 rfl) rfl (fun hp => ((show _ = gv (true && (((rd z_api_Segment a0.vSegs y1_0).vAt != (rd z_api_Segment a1.vSegs y1_0).vAt) == false)) (Value.bool (!(strEq (strOf ((rd z_api_Segment a0.vSegs y1_0).vBytes)) (strOf ((rd z_api_Segment a1.vSegs y1_0).vBytes))))) from (show _ = gv (true && (((rd z_api_Segment a0.vSegs y1_0).vAt != (rd z_api_Segment a1.vSegs y1_0).vAt) == false)) (Value.bool (!(strEq (strOf ((rd z_api_Segment a0.vSegs y1_0).vBytes)) (strOf ((rd z_api_Segment a1.vSegs y1_0).vBytes))))) from hk 48 rfl)).trans (gv_t (and_i rfl hp)))))), trivial⟩ ?_
          intro w4 hE3
          simp only [List.zip_cons_cons, List.zip_nil_left, List.zip_nil_right, finL, List.set_cons_zero, List.set_cons_succ, List.length_cons, List.length_nil, List.drop_succ_cons, List.drop_zero, Nat.zero_add, Nat.reduceAdd]
          have HS4 := HS3.step hE3
          refine run_nil ?_
          refine norm_then ?_
          refine wp_cond_split (t := (((rd z_api_Segment a0.vSegs y1_0).vAt != (rd z_api_Segment a1.vSegs y1_0).vAt) || (!(strEq (strOf ((rd z_api_Segment a0.vSegs y1_0).vBytes)) (strOf ((rd z_api_Segment a1.vSegs y1_0).vBytes)))))) rfl (fun c3 => ?_) (fun c3 => ?_)
          · replace H := of_pos H c3
            refine wp_seq ?_
            refine region ?_
            refine run_same (v := Value.bool false) rfl rfl (r_assign rfl) ?_
            try simp only [List.set_cons_zero, List.set_cons_succ]
            refine run_nil ?_
            refine norm_then ?_
            refine wp_ret ?_
            refine ret_block ?_
            refine ret_then ?_
            refine ret_loop ?_
            refine ret_then ?_
            obtain rfl := Option.some.inj H
            obtain rfl := Option.some.inj G1
            refine bodyPost_ret (results_1 rfl (one_tmp rfl)) rfl ?_
            exact ⟨rfl, HS4.toE⟩
          · replace H := of_neg H (nt c3)
            refine wp_skip ?_
            refine norm_block ?_
            refine norm_then ?_
            refine region ?_
            refine run_same (v := Value.int .i64 y1_0) rfl rfl (r_move rfl) ?_
            refine run_same (v := Value.int .i64 (IntKind.wrap .i64 (y1_0 + 1))) rfl rfl (r_bin rfl rfl rfl) ?_
            refine run_same (v := Value.int .i64 (IntKind.wrap .i64 (y1_0 + 1))) rfl rfl (r_assign rfl) ?_
            try simp only [List.set_cons_zero, List.set_cons_succ]
            refine run_nil ?_
            refine again_j m (Nat.lt_succ_self m) rfl ⟨(IntKind.wrap .i64 (y1_0 + 1)), (fit rfl), H, HS4⟩
        · replace H := of_neg H (nt c2)
          refine wp_exit ?_
          refine exit_then ?_
          obtain rfl := Option.some.inj H
          refine leave_j rfl ⟨_, rfl, (fit rfl), HS3⟩
    · rintro us w5 ⟨s1, rfl, huo1, HS5⟩
      obtain ⟨uo1, rfl⟩ := unj huo1
      replace H := G1
      clear G1
      try simp only [patch, List.set_cons_zero, List.set_cons_succ]
      refine norm_then ?_
      refine wp_seq ?_
      refine region ?_
      refine run_same (v := Value.bool true) rfl rfl (r_assign rfl) ?_
      try simp only [List.set_cons_zero, List.set_cons_succ]
      refine run_nil ?_
      refine norm_then ?_
      refine wp_ret ?_
      obtain rfl := Option.some.inj H
      refine bodyPost_ret (results_1 rfl (one_tmp rfl)) rfl ?_
      exact ⟨rfl, HS5.toE⟩

end Go.Proofs.YtecpbadkdpbkpaaGreatDoor
namespace Go.Proofs.YtecpbadkdpbkpaaGreatDoor
open Go.RowKit Go.M
def taplineref09_Load.f (k : Nat) (a0 : api_Image) (a1 : Int) (a2 : api_Int) : Option (taplineref09_Loaded) := (taplineref09_Check.f k a0).bind fun v1 => (((if (v1 == 0) = true then ((taplineref01_Check.f a2).bind fun v2 => (some v2)) else (some v1)) : Option (Int)).bind fun xx1 => (if (xx1 != 0) = true then (some (⟨0, false, xx1⟩ : taplineref09_Loaded)) else ((taplineref09_Value.f k a0 a1 a2).bind fun v3 => (some v3))))
set_option maxRecDepth 20000 in
set_option maxHeartbeats 4000000 in
theorem taplineref09_Load.calls (k : Nat) (a0 : api_Image) (a1 : Int) (a2 : api_Int) (A0_0 : Option Addr) (c0_0 : Nat) {h0 : View} {w0 : World} (hv : Sees h0 w0) (hr0_0 : Rd k_api_Segment h0 A0_0 a0.vSegs) (hc0_0 : a0.vSegs.length ≤ c0_0) {r : taplineref09_Loaded} (H : taplineref09_Load.f k a0 a1 a2 = some r) : Calls Tryz.prog 29 #[Value.agg #[Value.slice A0_0 a0.vSegs.length c0_0], Value.int .i64 a1, Value.agg #[Value.int .i64 a2.vSize, Value.bool a2.vSigned]] w0 (fun e w1 => e = .returned (Value.agg #[Value.int .i64 r.vV, Value.bool r.vIs, Value.int .i64 r.vE]) ∧ Ext w0 w1) := by
  unfold taplineref09_Load.f at H
  have HS : St [] h0 w0 h0 [] w0 := St.init hv
  go_enter Tryz.func29, Tryz.ntmps29
  refine wp_seq ?_
  refine region ?_
  refine run_ex rfl rfl (does_box (cs := #[Value.slice A0_0 a0.vSegs.length c0_0]) rfl rfl) ?_
  rintro w1 _ hE1 ⟨b1, rfl, ge1, hb1⟩
  have HS1 := HS.new hE1 ge1 hb1
  refine run_ex rfl rfl (does_box (cs := #[Value.int .i64 a2.vSize, Value.bool a2.vSigned]) rfl rfl) ?_
  rintro w2 _ hE2 ⟨b2, rfl, ge2, hb2⟩
  have HS2 := HS1.new hE2 ge2 hb2
  refine run_ex rfl rfl (does_alloc (cs := #[Value.int .i64 0, Value.bool false, Value.int .i64 0]) Tryz.zeroValue38 rfl) ?_
  rintro w3 _ hE3 ⟨b3, rfl, ge3, hb3⟩
  have HS3 := HS2.new hE3 ge3 hb3
  try simp only [List.set_cons_zero, List.set_cons_succ]
  refine run_nil ?_
  refine norm_then ?_
  refine wp_seq ?_
  refine region ?_
  refine run_same (v := Value.agg #[Value.slice A0_0 a0.vSegs.length c0_0]) rfl rfl (r_loadBoxAgg (n := 1) (vs := [Value.slice A0_0 a0.vSegs.length c0_0]) rfl Tryz.isAgg27 (HS3.look 2 rfl) Tryz.sizeOf27 rfl rfl) ?_
  obtain ⟨v1, H1, H⟩ := of_bind H
  refine run_eq (v := Value.int .i64 v1) rfl rfl (does_call_eq Tryz.call25 rfl rfl (taplineref09_Check.calls k a0 A0_0 c0_0 HS3.sees hr0_0 hc0_0 H1)) ?_
  intro w4 hE4
  have HS4 := HS3.step hE4
  refine run_same (v := Value.int .i64 v1) rfl rfl (r_assign rfl) ?_
  try simp only [List.set_cons_zero, List.set_cons_succ]
  refine run_nil ?_
  refine norm_then ?_
  refine wp_seq ?_
  refine wp_seq ?_
  refine region ?_
  refine run_same (v := Value.int .i64 v1) rfl rfl (r_move rfl) ?_
  refine run_same (v := Value.bool (v1 == 0)) rfl rfl (r_bin rfl rfl rfl) ?_
  try simp only [List.set_cons_zero, List.set_cons_succ]
  refine run_nil ?_
  refine norm_then ?_
  obtain ⟨xx1, H, G1⟩ := of_bind H
  refine cut_patch [7, 12, 13] (fun us w' => Fit us (fun uj1 => [Value.int .i64 xx1, (uj1 1), (uj1 2)]) ∧ St [] h0 w0 h0 [(some b3, .cells #[Value.int .i64 0, Value.bool false, Value.int .i64 0] 38 (0, 0)), (some b2, .cells #[Value.int .i64 a2.vSize, Value.bool a2.vSigned] 29 (0, 0)), (some b1, .cells #[Value.slice A0_0 a0.vSegs.length c0_0] 27 (0, 0))] w') ?_ ?_
  · refine wp_cond_split (t := (v1 == 0)) rfl (fun c1 => ?_) (fun c1 => ?_)
    · replace H := of_pos H c1
      refine region ?_
      refine run_same (v := Value.agg #[Value.int .i64 a2.vSize, Value.bool a2.vSigned]) rfl rfl (r_loadBoxAgg (n := 2) (vs := [Value.int .i64 a2.vSize, Value.bool a2.vSigned]) rfl Tryz.isAgg29 (HS4.look 1 rfl) Tryz.sizeOf29 rfl rfl) ?_
      obtain ⟨v2, H2, H⟩ := of_bind H
      refine run_eq (v := Value.int .i64 v2) rfl rfl (does_call_eq Tryz.call64 rfl rfl (taplineref01_Check.calls a2 HS4.sees H2)) ?_
      intro w5 hE5
      have HS5 := HS4.step hE5
      refine run_same (v := Value.int .i64 v2) rfl rfl (r_assign rfl) ?_
      try simp only [List.set_cons_zero, List.set_cons_succ]
      refine run_nil ?_
      obtain rfl := Option.some.inj H
      refine met_j rfl ⟨(fit rfl), HS5⟩
    · replace H := of_neg H (nt c1)
      refine wp_skip ?_
      obtain rfl := Option.some.inj H
      refine met_j rfl ⟨(fit rfl), HS4⟩
  · rintro us w6 ⟨huj1, HS6⟩
    obtain ⟨uj1, rfl⟩ := unj huj1
    replace H := G1
    clear G1
    try simp only [patch, List.set_cons_zero, List.set_cons_succ]
    refine wp_seq ?_
    refine wp_seq ?_
    refine region ?_
    refine run_same (v := Value.int .i64 xx1) rfl rfl (r_move rfl) ?_
    refine run_same (v := Value.bool (xx1 != 0)) rfl rfl (r_bin rfl rfl rfl) ?_
    try simp only [List.set_cons_zero, List.set_cons_succ]
    refine run_nil ?_
    refine norm_then ?_
    refine wp_cond_split (t := (xx1 != 0)) rfl (fun c2 => ?_) (fun c2 => ?_)
    · replace H := of_pos H c2
      refine wp_seq ?_
      refine region ?_
      refine run_same (v := Value.int .i64 xx1) rfl rfl (r_move rfl) ?_
      refine run_same (v := Value.agg #[Value.int .i64 0, Value.bool false, Value.int .i64 xx1]) rfl rfl (r_build (cs := [Value.int .i64 0, Value.bool false, Value.int .i64 xx1]) (ps := [(2, Value.int .i64 xx1)]) Tryz.zeroValue38 Tryz.runUnderlying38 (pl := #[(0, 1), (1, 1), (2, 1)]) (fun w => by simp [Tryz.sizeOf2, Tryz.sizeOf34, Tryz.sizeOf4]) (parts_1 (show _ = Value.int .i64 xx1 from rfl)) rfl) ?_
      refine run_st (i := 0) (cs := [Value.int .i64 0, Value.bool false, Value.int .i64 0]) (cs' := [Value.int .i64 0, Value.bool false, Value.int .i64 xx1]) (vs := [Value.int .i64 0, Value.bool false, Value.int .i64 xx1]) (bs' := [(some b3, .cells #[Value.int .i64 0, Value.bool false, Value.int .i64 xx1] 38 (0, 0)), (some b2, .cells #[Value.int .i64 a2.vSize, Value.bool a2.vSigned] 29 (0, 0)), (some b1, .cells #[Value.slice A0_0 a0.vSegs.length c0_0] 27 (0, 0))]) rfl rfl Tryz.sizeOf38 rfl rfl (by decide) rfl HS6 rfl (Nat.le_of_ble_eq_true rfl) rfl rfl ?_
      intro w7 HS7
      try simp only [List.set_cons_zero, List.set_cons_succ]
      refine run_nil ?_
      refine norm_then ?_
      refine wp_ret ?_
      refine ret_then ?_
      obtain rfl := Option.some.inj H
      refine bodyPost_ret (results_1 rfl (one_agg rfl Tryz.isAgg38 (HS7.look 0 rfl) Tryz.sizeOf38 rfl)) rfl ?_
      exact ⟨rfl, HS7.toE⟩
    · replace H := of_neg H (nt c2)
      refine wp_skip ?_
      refine norm_then ?_
      refine wp_seq ?_
      refine region ?_
      refine run_same (v := Value.agg #[Value.slice A0_0 a0.vSegs.length c0_0]) rfl rfl (r_loadBoxAgg (n := 1) (vs := [Value.slice A0_0 a0.vSegs.length c0_0]) rfl Tryz.isAgg27 (HS6.look 2 rfl) Tryz.sizeOf27 rfl rfl) ?_
      refine run_same (v := Value.int .i64 a1) rfl rfl (r_move rfl) ?_
      refine run_same (v := Value.agg #[Value.int .i64 a2.vSize, Value.bool a2.vSigned]) rfl rfl (r_loadBoxAgg (n := 2) (vs := [Value.int .i64 a2.vSize, Value.bool a2.vSigned]) rfl Tryz.isAgg29 (HS6.look 1 rfl) Tryz.sizeOf29 rfl rfl) ?_
      obtain ⟨v3, H3, H⟩ := of_bind H
      refine run_eq (v := Value.agg #[Value.int .i64 v3.vV, Value.bool v3.vIs, Value.int .i64 v3.vE]) rfl rfl (does_call_eq Tryz.call41 rfl rfl (taplineref09_Value.calls k a0 a1 a2 A0_0 c0_0 HS6.sees hr0_0 hc0_0 H3)) ?_
      intro w8 hE6
      have HS8 := HS6.step hE6
      refine run_frame (by simp only [List.set_cons_zero, List.set_cons_succ]; rfl) ?_
      refine run_st (i := 0) (cs := [Value.int .i64 0, Value.bool false, Value.int .i64 0]) (cs' := [Value.int .i64 v3.vV, Value.bool v3.vIs, Value.int .i64 v3.vE]) (vs := [Value.int .i64 v3.vV, Value.bool v3.vIs, Value.int .i64 v3.vE]) (bs' := [(some b3, .cells #[Value.int .i64 v3.vV, Value.bool v3.vIs, Value.int .i64 v3.vE] 38 (0, 0)), (some b2, .cells #[Value.int .i64 a2.vSize, Value.bool a2.vSigned] 29 (0, 0)), (some b1, .cells #[Value.slice A0_0 a0.vSegs.length c0_0] 27 (0, 0))]) rfl rfl Tryz.sizeOf38 rfl rfl (by decide) rfl HS8 rfl (Nat.le_of_ble_eq_true rfl) rfl rfl ?_
      intro w9 HS9
      try simp only [List.set_cons_zero, List.set_cons_succ]
      refine run_nil ?_
      refine norm_then ?_
      refine wp_ret ?_
      obtain rfl := Option.some.inj H
      refine bodyPost_ret (results_1 rfl (one_agg rfl Tryz.isAgg38 (HS9.look 0 rfl) Tryz.sizeOf38 rfl)) rfl ?_
      exact ⟨rfl, HS9.toE⟩

end Go.Proofs.YtecpbadkdpbkpaaGreatDoor
namespace Go.Proofs.YtecpbadkdpbkpaaGreatDoor
open Go.RowKit Go.M
def taplinelaw09_ImageLoads.f (k : Nat) (a0 : api_Image) (a1 : api_Image) (a2 : taplinelaw09_Asked) : Option (Bool) := (taplinelaw09_sane.f).bind fun v1 => ((taplineref09_Check.f k a0).bind fun v2 => ((image_Check.f a0).bind fun v3 => ((if (true && ((v3 != v2) == false)) = true then image_Same.f k a0 a1 else some false).bind fun v4 => ((if (true && ((v3 != v2) == false)) = true then taplineref09_Same.f k a0 a1 else some false).bind fun v5 => ((if (true && (((v3 != v2) || (v4 != v5)) == false)) = true then image_Same.f k a0 a0 else some false).bind fun v6 => (if (((v3 != v2) || (v4 != v5)) || (!v6)) = true then (some false) else ((image_Load.f k a0 a2.vAt a2.vT).bind fun v7 => ((taplineref09_Load.f k a0 a2.vAt a2.vT).bind fun v8 => (if (((v7.1 != v8.vV) || (v7.2.1 != v8.vIs)) || (v7.2.2 != v8.vE)) = true then (some false) else ((image_Read.f k a0 a2.vAt a2.vN).bind fun v9 => (((if ((v2 == 0) && ((decide (a2.vN < 0)) || (decide (a2.vN > 2048)))) = true then (some 1) else (some v2)) : Option (Int)).bind fun xx1 => (if (xx1 != 0) = true then (some (((v1 && (v9.2.2 == xx1)) && (!v9.2.1)) && ((v9.1.length : Int) == 0))) else ((taplineref09_Bytes.f k a0 a2.vAt a2.vN).bind fun v10 => (some (((v1 && (v9.2.2 == 0)) && (v9.2.1 == v10.2)) && (strEq (strOf v9.1) (strOf v10.1)))))))))))))))))
set_option maxRecDepth 20000 in
set_option maxHeartbeats 4000000 in
theorem taplinelaw09_ImageLoads.calls (k : Nat) (a0 : api_Image) (a1 : api_Image) (a2 : taplinelaw09_Asked) (A0_0 : Option Addr) (c0_0 : Nat) (A1_0 : Option Addr) (c1_0 : Nat) (A2_5 : Option Addr) (c2_5 : Nat) {h0 : View} {w0 : World} (hv : Sees h0 w0) (ht : Tab w0) (hr0_0 : Rd k_api_Segment h0 A0_0 a0.vSegs) (hc0_0 : a0.vSegs.length ≤ c0_0) (hr1_0 : Rd k_api_Segment h0 A1_0 a1.vSegs) (hc1_0 : a1.vSegs.length ≤ c1_0) (hr2_5 : Rd Kd.str h0 A2_5 a2.vPath) (hc2_5 : a2.vPath.length ≤ c2_5) {r : Bool} (H : taplinelaw09_ImageLoads.f k a0 a1 a2 = some r) : Calls Tryz.prog 9 #[Value.agg #[Value.slice A0_0 a0.vSegs.length c0_0], Value.agg #[Value.slice A1_0 a1.vSegs.length c1_0], Value.agg #[Value.int .i64 a2.vAt, Value.int .i64 a2.vN, Value.int .i64 a2.vT.vSize, Value.bool a2.vT.vSigned, Value.string a2.vName, Value.slice A2_5 a2.vPath.length c2_5]] w0 (fun e w1 => e = .returned (Value.bool r) ∧ Ext w0 w1) := by
  unfold taplinelaw09_ImageLoads.f at H
  have HS : St [] h0 w0 h0 [] w0 := St.init hv
  go_enter Tryz.func9, Tryz.ntmps9
  refine wp_seq ?_
  refine region ?_
  refine run_ex rfl rfl (does_box (cs := #[Value.slice A0_0 a0.vSegs.length c0_0]) rfl rfl) ?_
  rintro w1 _ hE1 ⟨b1, rfl, ge1, hb1⟩
  have HS1 := HS.new hE1 ge1 hb1
  refine run_ex rfl rfl (does_box (cs := #[Value.slice A1_0 a1.vSegs.length c1_0]) rfl rfl) ?_
  rintro w2 _ hE2 ⟨b2, rfl, ge2, hb2⟩
  have HS2 := HS1.new hE2 ge2 hb2
  refine run_ex rfl rfl (does_box (cs := #[Value.int .i64 a2.vAt, Value.int .i64 a2.vN, Value.int .i64 a2.vT.vSize, Value.bool a2.vT.vSigned, Value.string a2.vName, Value.slice A2_5 a2.vPath.length c2_5]) rfl rfl) ?_
  rintro w3 _ hE3 ⟨b3, rfl, ge3, hb3⟩
  have HS3 := HS2.new hE3 ge3 hb3
  refine run_same (v := Value.bool false) rfl rfl (r_assign rfl) ?_
  try simp only [List.set_cons_zero, List.set_cons_succ]
  refine run_nil ?_
  refine norm_then ?_
  refine wp_seq ?_
  refine region ?_
  obtain ⟨v1, H1, H⟩ := of_bind H
  refine run_eq (v := Value.bool v1) rfl rfl (does_call_eq Tryz.call10 rfl rfl (taplinelaw09_sane.calls HS3.sees (ht.s HS3) H1)) ?_
  intro w4 hE4
  have HS4 := HS3.step hE4
  refine run_same (v := Value.bool v1) rfl rfl (r_assign rfl) ?_
  try simp only [List.set_cons_zero, List.set_cons_succ]
  refine run_nil ?_
  refine norm_then ?_
  refine wp_seq ?_
  refine region ?_
  refine run_same (v := Value.agg #[Value.slice A0_0 a0.vSegs.length c0_0]) rfl rfl (r_loadBoxAgg (n := 1) (vs := [Value.slice A0_0 a0.vSegs.length c0_0]) rfl Tryz.isAgg27 (HS4.look 2 rfl) Tryz.sizeOf27 rfl rfl) ?_
  obtain ⟨v2, H2, H⟩ := of_bind H
  refine run_eq (v := Value.int .i64 v2) rfl rfl (does_call_eq Tryz.call25 rfl rfl (taplineref09_Check.calls k a0 A0_0 c0_0 HS4.sees hr0_0 hc0_0 H2)) ?_
  intro w5 hE5
  have HS5 := HS4.step hE5
  refine run_same (v := Value.int .i64 v2) rfl rfl (r_assign rfl) ?_
  try simp only [List.set_cons_zero, List.set_cons_succ]
  refine run_nil ?_
  refine norm_then ?_
  refine wp_seq ?_
  refine wp_seq ?_
  obtain ⟨v3, H3, H⟩ := of_bind H
  obtain ⟨v4, H4, H⟩ := of_bind H
  obtain ⟨v5, H5, H⟩ := of_bind H
  obtain ⟨v6, H6, H⟩ := of_bind H
  refine drawn [.eq (Value.agg #[Value.slice A0_0 a0.vSegs.length c0_0]), .eq (Value.int .i64 v3), .eq (Value.int .i64 v2), .eq (Value.bool (v3 != v2)), .eq (Value.bool (v3 != v2)), .eq (gv (true && ((v3 != v2) == false)) (Value.agg #[Value.slice A0_0 a0.vSegs.length c0_0])), .eq (gv (true && ((v3 != v2) == false)) (Value.agg #[Value.slice A1_0 a1.vSegs.length c1_0])), .eq (gv (true && ((v3 != v2) == false)) (Value.bool v4)), .eq (gv (true && ((v3 != v2) == false)) (Value.agg #[Value.slice A0_0 a0.vSegs.length c0_0])), .eq (gv (true && ((v3 != v2) == false)) (Value.agg #[Value.slice A1_0 a1.vSegs.length c1_0])), .eq (gv (true && ((v3 != v2) == false)) (Value.bool v5)), .eq (gv (true && ((v3 != v2) == false)) (Value.bool (v4 != v5))), .eq (Value.bool ((v3 != v2) || (v4 != v5))), .eq (Value.bool ((v3 != v2) || (v4 != v5))), .eq (gv (true && (((v3 != v2) || (v4 != v5)) == false)) (Value.agg #[Value.slice A0_0 a0.vSegs.length c0_0])), .eq (gv (true && (((v3 != v2) || (v4 != v5)) == false)) (Value.agg #[Value.slice A0_0 a0.vSegs.length c0_0])), .eq (gv (true && (((v3 != v2) || (v4 != v5)) == false)) (Value.bool v6)), .eq (gv (true && (((v3 != v2) || (v4 != v5)) == false)) (Value.bool (!v6))), .eq (Value.bool (((v3 != v2) || (v4 != v5)) || (!v6)))] [21, 22, 23, 24, 25, 26, 27, 28, 29, 30, 31, 32, 33, 34, 35, 36, 37, 38, 39] hmix (by kernel_rfl) rfl (stable_eq (stable_eq (stable_eq (stable_eq (stable_eq (stable_eq (stable_eq (stable_eq (stable_eq (stable_eq (stable_eq (stable_eq (stable_eq (stable_eq (stable_eq (stable_eq (stable_eq (stable_eq (stable_eq stable_nil))))))))))))))))))) ⟨ob_plain rfl (fun a' w' hE hk => by have HSd := HS5.step hE; exact does_eq (r_loadBoxAgg (n := 1) (vs := [Value.slice A0_0 a0.vSegs.length c0_0]) (show _ = Value.pointer (some ⟨b1, 0, none⟩) from hk 3 rfl) Tryz.isAgg27 (HSd.look 2 rfl) Tryz.sizeOf27 rfl rfl)), ob_plain rfl (fun a' w' hE hk => by have HSd := HS5.step hE; exact (does_call_eq Tryz.call26 rfl (map1 (show _ = Value.agg #[Value.slice A0_0 a0.vSegs.length c0_0] from hk 21 rfl)) (image_Check.calls a0 A0_0 c0_0 HSd.sees hr0_0 hc0_0 H3))), ob_plain rfl (fun a' w' hE hk => by have HSd := HS5.step hE; exact does_eq (r_move (show _ = Value.int .i64 v2 from hk 8 rfl))), ob_plain rfl (fun a' w' hE hk => by have HSd := HS5.step hE; exact does_eq (r_bin (show _ = Value.int .i64 v3 from hk 22 rfl) (show _ = Value.int .i64 v2 from hk 23 rfl) rfl)), ob_plain rfl (fun a' w' hE hk => by have HSd := HS5.step hE; exact does_eq (r_move (show _ = Value.bool (v3 != v2) from hk 24 rfl))), ob_guard (b := (v3 != v2)) (c := true) rfl rfl (by decide) (fun w' u hu => hu) (fun a' w' hE hk hg => by have HSd := HS5.step hE; exact does_eq (r_loadBoxAgg (n := 1) (vs := [Value.slice A0_0 a0.vSegs.length c0_0]) (show _ = Value.pointer (some ⟨b1, 0, none⟩) from hk 3 rfl) Tryz.isAgg27 (HSd.look 2 rfl) Tryz.sizeOf27 rfl rfl)), ob_guard (b := (v3 != v2)) (c := true) rfl rfl (by decide) (fun w' u hu => hu) (fun a' w' hE hk hg => by have HSd := HS5.step hE; exact does_eq (r_loadBoxAgg (n := 1) (vs := [Value.slice A1_0 a1.vSegs.length c1_0]) (show _ = Value.pointer (some ⟨b2, 0, none⟩) from hk 4 rfl) Tryz.isAgg27 (HSd.look 1 rfl) Tryz.sizeOf27 rfl rfl)), ob_guard (b := (v3 != v2)) (c := true) rfl rfl (by decide) (fun w' u hu => hu) (fun a' w' hE hk hg => by have HSd := HS5.step hE; exact (does_call_eq Tryz.call27 rfl (map2 ((show _ = gv (true && ((v3 != v2) == false)) (Value.agg #[Value.slice A0_0 a0.vSegs.length c0_0]) from (show _ = gv (true && ((v3 != v2) == false)) (Value.agg #[Value.slice A0_0 a0.vSegs.length c0_0]) from hk 26 rfl)).trans (gv_t hg)) ((show _ = gv (true && ((v3 != v2) == false)) (Value.agg #[Value.slice A1_0 a1.vSegs.length c1_0]) from (show _ = gv (true && ((v3 != v2) == false)) (Value.agg #[Value.slice A1_0 a1.vSegs.length c1_0]) from hk 27 rfl)).trans (gv_t hg))) (image_Same.calls k a0 a1 A0_0 c0_0 A1_0 c1_0 HSd.sees hr0_0 hc0_0 hr1_0 hc1_0 (of_pos H4 hg)))), ob_guard (b := (v3 != v2)) (c := true) rfl rfl (by decide) (fun w' u hu => hu) (fun a' w' hE hk hg => by have HSd := HS5.step hE; exact does_eq (r_loadBoxAgg (n := 1) (vs := [Value.slice A0_0 a0.vSegs.length c0_0]) (show _ = Value.pointer (some ⟨b1, 0, none⟩) from hk 3 rfl) Tryz.isAgg27 (HSd.look 2 rfl) Tryz.sizeOf27 rfl rfl)), ob_guard (b := (v3 != v2)) (c := true) rfl rfl (by decide) (fun w' u hu => hu) (fun a' w' hE hk hg => by have HSd := HS5.step hE; exact does_eq (r_loadBoxAgg (n := 1) (vs := [Value.slice A1_0 a1.vSegs.length c1_0]) (show _ = Value.pointer (some ⟨b2, 0, none⟩) from hk 4 rfl) Tryz.isAgg27 (HSd.look 1 rfl) Tryz.sizeOf27 rfl rfl)), ob_guard (b := (v3 != v2)) (c := true) rfl rfl (by decide) (fun w' u hu => hu) (fun a' w' hE hk hg => by have HSd := HS5.step hE; exact (does_call_eq Tryz.call28 rfl (map2 ((show _ = gv (true && ((v3 != v2) == false)) (Value.agg #[Value.slice A0_0 a0.vSegs.length c0_0]) from (show _ = gv (true && ((v3 != v2) == false)) (Value.agg #[Value.slice A0_0 a0.vSegs.length c0_0]) from hk 29 rfl)).trans (gv_t hg)) ((show _ = gv (true && ((v3 != v2) == false)) (Value.agg #[Value.slice A1_0 a1.vSegs.length c1_0]) from (show _ = gv (true && ((v3 != v2) == false)) (Value.agg #[Value.slice A1_0 a1.vSegs.length c1_0]) from hk 30 rfl)).trans (gv_t hg))) (taplineref09_Same.calls k a0 a1 A0_0 c0_0 A1_0 c1_0 HSd.sees hr0_0 hc0_0 hr1_0 hc1_0 (of_pos H5 hg)))), ob_guard (b := (v3 != v2)) (c := true) rfl rfl (by decide) (fun w' u hu => hu) (fun a' w' hE hk hg => by have HSd := HS5.step hE; exact does_eq (r_boolneq ((show _ = gv (true && ((v3 != v2) == false)) (Value.bool v4) from (show _ = gv (true && ((v3 != v2) == false)) (Value.bool v4) from hk 28 rfl)).trans (gv_t hg)) ((show _ = gv (true && ((v3 != v2) == false)) (Value.bool v5) from (show _ = gv (true && ((v3 != v2) == false)) (Value.bool v5) from hk 31 rfl)).trans (gv_t hg)) Tryz.runUnderlying4)), ob_plain rfl (fun a' w' hE hk => by have HSd := HS5.step hE; exact does_eq (r_pick_or (show _ = Value.bool (v3 != v2) from hk 25 rfl) rfl (fun hp => ((show _ = gv (true && ((v3 != v2) == false)) (Value.bool (v4 != v5)) from (show _ = gv (true && ((v3 != v2) == false)) (Value.bool (v4 != v5)) from hk 32 rfl)).trans (gv_t (and_i rfl hp)))))), ob_plain rfl (fun a' w' hE hk => by have HSd := HS5.step hE; exact does_eq (r_move (show _ = Value.bool ((v3 != v2) || (v4 != v5)) from hk 33 rfl))), ob_guard (b := ((v3 != v2) || (v4 != v5))) (c := true) rfl rfl (by decide) (fun w' u hu => hu) (fun a' w' hE hk hg => by have HSd := HS5.step hE; exact does_eq (r_loadBoxAgg (n := 1) (vs := [Value.slice A0_0 a0.vSegs.length c0_0]) (show _ = Value.pointer (some ⟨b1, 0, none⟩) from hk 3 rfl) Tryz.isAgg27 (HSd.look 2 rfl) Tryz.sizeOf27 rfl rfl)), ob_guard (b := ((v3 != v2) || (v4 != v5))) (c := true) rfl rfl (by decide) (fun w' u hu => hu) (fun a' w' hE hk hg => by have HSd := HS5.step hE; exact does_eq (r_loadBoxAgg (n := 1) (vs := [Value.slice A0_0 a0.vSegs.length c0_0]) (show _ = Value.pointer (some ⟨b1, 0, none⟩) from hk 3 rfl) Tryz.isAgg27 (HSd.look 2 rfl) Tryz.sizeOf27 rfl rfl)), ob_guard (b := ((v3 != v2) || (v4 != v5))) (c := true) rfl rfl (by decide) (fun w' u hu => hu) (fun a' w' hE hk hg => by have HSd := HS5.step hE; exact (does_call_eq Tryz.call27 rfl (map2 ((show _ = gv (true && (((v3 != v2) || (v4 != v5)) == false)) (Value.agg #[Value.slice A0_0 a0.vSegs.length c0_0]) from (show _ = gv (true && (((v3 != v2) || (v4 != v5)) == false)) (Value.agg #[Value.slice A0_0 a0.vSegs.length c0_0]) from hk 35 rfl)).trans (gv_t hg)) ((show _ = gv (true && (((v3 != v2) || (v4 != v5)) == false)) (Value.agg #[Value.slice A0_0 a0.vSegs.length c0_0]) from (show _ = gv (true && (((v3 != v2) || (v4 != v5)) == false)) (Value.agg #[Value.slice A0_0 a0.vSegs.length c0_0]) from hk 36 rfl)).trans (gv_t hg))) (image_Same.calls k a0 a0 A0_0 c0_0 A0_0 c0_0 HSd.sees hr0_0 hc0_0 hr0_0 hc0_0 (of_pos H6 hg)))), ob_guard (b := ((v3 != v2) || (v4 != v5))) (c := true) rfl rfl (by decide) (fun w' u hu => hu) (fun a' w' hE hk hg => by have HSd := HS5.step hE; exact does_eq (r_not ((show _ = gv (true && (((v3 != v2) || (v4 != v5)) == false)) (Value.bool v6) from (show _ = gv (true && (((v3 != v2) || (v4 != v5)) == false)) (Value.bool v6) from hk 37 rfl)).trans (gv_t hg)))), ob_plain rfl (fun a' w' hE hk => by have HSd := HS5.step hE; exact does_eq (r_pick_or (show _ = Value.bool ((v3 != v2) || (v4 != v5)) from hk 34 rfl) rfl (fun hp => ((show _ = gv (true && (((v3 != v2) || (v4 != v5)) == false)) (Value.bool (!v6)) from (show _ = gv (true && (((v3 != v2) || (v4 != v5)) == false)) (Value.bool (!v6)) from hk 38 rfl)).trans (gv_t (and_i rfl hp)))))), trivial⟩ ?_
  intro w6 hE6
  simp only [List.zip_cons_cons, List.zip_nil_left, List.zip_nil_right, finL, List.set_cons_zero, List.set_cons_succ, List.length_cons, List.length_nil, List.drop_succ_cons, List.drop_zero, Nat.zero_add, Nat.reduceAdd]
  have HS6 := HS5.step hE6
  refine run_nil ?_
  refine norm_then ?_
  refine wp_cond_split (t := (((v3 != v2) || (v4 != v5)) || (!v6))) rfl (fun c1 => ?_) (fun c1 => ?_)
  · replace H := of_pos H c1
    refine wp_seq ?_
    refine region ?_
    refine run_same (v := Value.bool false) rfl rfl (r_assign rfl) ?_
    try simp only [List.set_cons_zero, List.set_cons_succ]
    refine run_nil ?_
    refine norm_then ?_
    refine wp_ret ?_
    refine ret_then ?_
    obtain rfl := Option.some.inj H
    refine bodyPost_ret (results_1 rfl (one_tmp rfl)) rfl ?_
    exact ⟨rfl, HS6.toE⟩
  · replace H := of_neg H (nt c1)
    refine wp_skip ?_
    refine norm_then ?_
    refine wp_seq ?_
    refine region ?_
    refine run_same (v := Value.agg #[Value.slice A0_0 a0.vSegs.length c0_0]) rfl rfl (r_loadBoxAgg (n := 1) (vs := [Value.slice A0_0 a0.vSegs.length c0_0]) rfl Tryz.isAgg27 (HS6.look 2 rfl) Tryz.sizeOf27 rfl rfl) ?_
    refine run_same (v := Value.pointer (some ⟨b3, 0, none⟩)) rfl rfl (r_fieldBox (n := 1) (o' := 0) rfl Tryz.runUnderlying32 rfl Tryz.sizeOf2 (by decide) rfl) ?_
    refine run_same (v := Value.int .i64 a2.vAt) rfl rfl (r_loadBox rfl Tryz.isAgg2 (HS6.look 0 rfl) rfl) ?_
    refine run_same (v := Value.pointer (some ⟨b3, 2, none⟩)) rfl rfl (r_fieldBox (n := 2) (o' := 2) rfl Tryz.runUnderlying32 rfl Tryz.sizeOf29 (by decide) rfl) ?_
    refine run_frame (by simp only [List.set_cons_zero, List.set_cons_succ]; rfl) ?_
    refine run_same (v := Value.agg #[Value.int .i64 a2.vT.vSize, Value.bool a2.vT.vSigned]) rfl rfl (r_loadBoxAgg (n := 2) (vs := [Value.int .i64 a2.vT.vSize, Value.bool a2.vT.vSigned]) rfl Tryz.isAgg29 (HS6.look 0 rfl) Tryz.sizeOf29 rfl rfl) ?_
    obtain ⟨v7, H7, H⟩ := of_bind H
    refine run_eq (v := Value.tuple #[Value.int .i64 v7.1, Value.bool v7.2.1, Value.int .i64 v7.2.2]) rfl rfl (does_call_eq Tryz.call23 rfl rfl (image_Load.calls k a0 a2.vAt a2.vT A0_0 c0_0 HS6.sees hr0_0 hc0_0 H7)) ?_
    intro w7 hE7
    have HS7 := HS6.step hE7
    refine run_same (v := Value.tuple #[Value.int .i64 v7.1, Value.bool v7.2.1, Value.int .i64 v7.2.2]) rfl rfl (r_move rfl) ?_
    refine run_same (v := Value.int .i64 v7.1) rfl rfl (r_extract rfl rfl) ?_
    refine run_frame (by simp only [List.set_cons_zero, List.set_cons_succ]; rfl) ?_
    refine run_same (v := Value.bool v7.2.1) rfl rfl (r_extract rfl rfl) ?_
    refine run_same (v := Value.int .i64 v7.2.2) rfl rfl (r_extract rfl rfl) ?_
    refine run_same (v := Value.int .i64 v7.1) rfl rfl (r_assign rfl) ?_
    refine run_same (v := Value.bool v7.2.1) rfl rfl (r_assign rfl) ?_
    refine run_frame (by simp only [List.set_cons_zero, List.set_cons_succ]; rfl) ?_
    refine run_same (v := Value.int .i64 v7.2.2) rfl rfl (r_assign rfl) ?_
    try simp only [List.set_cons_zero, List.set_cons_succ]
    refine run_nil ?_
    refine norm_then ?_
    refine wp_seq ?_
    refine region ?_
    refine run_same (v := Value.agg #[Value.slice A0_0 a0.vSegs.length c0_0]) rfl rfl (r_loadBoxAgg (n := 1) (vs := [Value.slice A0_0 a0.vSegs.length c0_0]) rfl Tryz.isAgg27 (HS7.look 2 rfl) Tryz.sizeOf27 rfl rfl) ?_
    refine run_same (v := Value.pointer (some ⟨b3, 0, none⟩)) rfl rfl (r_fieldBox (n := 1) (o' := 0) rfl Tryz.runUnderlying32 rfl Tryz.sizeOf2 (by decide) rfl) ?_
    refine run_same (v := Value.int .i64 a2.vAt) rfl rfl (r_loadBox rfl Tryz.isAgg2 (HS7.look 0 rfl) rfl) ?_
    refine run_same (v := Value.pointer (some ⟨b3, 2, none⟩)) rfl rfl (r_fieldBox (n := 2) (o' := 2) rfl Tryz.runUnderlying32 rfl Tryz.sizeOf29 (by decide) rfl) ?_
    refine run_frame (by simp only [List.set_cons_zero, List.set_cons_succ]; rfl) ?_
    refine run_same (v := Value.agg #[Value.int .i64 a2.vT.vSize, Value.bool a2.vT.vSigned]) rfl rfl (r_loadBoxAgg (n := 2) (vs := [Value.int .i64 a2.vT.vSize, Value.bool a2.vT.vSigned]) rfl Tryz.isAgg29 (HS7.look 0 rfl) Tryz.sizeOf29 rfl rfl) ?_
    obtain ⟨v8, H8, H⟩ := of_bind H
    refine run_eq (v := Value.agg #[Value.int .i64 v8.vV, Value.bool v8.vIs, Value.int .i64 v8.vE]) rfl rfl (does_call_eq Tryz.call29 rfl rfl (taplineref09_Load.calls k a0 a2.vAt a2.vT A0_0 c0_0 HS7.sees hr0_0 hc0_0 H8)) ?_
    intro w8 hE8
    have HS8 := HS7.step hE8
    refine run_ex rfl rfl (does_alloc (cs := #[Value.int .i64 0, Value.bool false, Value.int .i64 0]) Tryz.zeroValue38 rfl) ?_
    rintro w9 _ hE9 ⟨b4, rfl, ge4, hb4⟩
    have HS9 := HS8.new hE9 ge4 hb4
    refine run_st (i := 0) (cs := [Value.int .i64 0, Value.bool false, Value.int .i64 0]) (cs' := [Value.int .i64 v8.vV, Value.bool v8.vIs, Value.int .i64 v8.vE]) (vs := [Value.int .i64 v8.vV, Value.bool v8.vIs, Value.int .i64 v8.vE]) (bs' := [(some b4, .cells #[Value.int .i64 v8.vV, Value.bool v8.vIs, Value.int .i64 v8.vE] 38 (0, 0)), (some b3, .cells #[Value.int .i64 a2.vAt, Value.int .i64 a2.vN, Value.int .i64 a2.vT.vSize, Value.bool a2.vT.vSigned, Value.string a2.vName, Value.slice A2_5 a2.vPath.length c2_5] 32 (0, 0)), (some b2, .cells #[Value.slice A1_0 a1.vSegs.length c1_0] 27 (0, 0)), (some b1, .cells #[Value.slice A0_0 a0.vSegs.length c0_0] 27 (0, 0))]) rfl rfl Tryz.sizeOf38 rfl rfl (by decide) rfl HS9 rfl (Nat.le_of_ble_eq_true rfl) rfl rfl ?_
    intro w10 HS10
    try simp only [List.set_cons_zero, List.set_cons_succ]
    refine run_nil ?_
    refine norm_then ?_
    refine wp_seq ?_
    refine wp_seq ?_
    refine region ?_
    refine run_same (v := Value.int .i64 v7.1) rfl rfl (r_move rfl) ?_
    refine run_same (v := Value.pointer (some ⟨b4, 0, none⟩)) rfl rfl (r_fieldBox (n := 1) (o' := 0) rfl Tryz.runUnderlying38 rfl Tryz.sizeOf2 (by decide) rfl) ?_
    refine run_same (v := Value.int .i64 v8.vV) rfl rfl (r_loadBox rfl Tryz.isAgg2 (HS10.look 0 rfl) rfl) ?_
    refine run_same (v := Value.bool (v7.1 != v8.vV)) rfl rfl (r_bin rfl rfl rfl) ?_
    refine run_frame (by simp only [List.set_cons_zero, List.set_cons_succ]; rfl) ?_
    refine run_same (v := Value.bool (v7.1 != v8.vV)) rfl rfl (r_move rfl) ?_
    refine run_g_same (b := (v7.1 != v8.vV)) (c := true) (v := Value.bool v7.2.1) rfl rfl rfl rfl (fun hg => (r_move rfl)) ?_
    refine run_g_same (b := (v7.1 != v8.vV)) (c := true) (v := Value.pointer (some ⟨b4, 1, none⟩)) rfl rfl rfl rfl (fun hg => (r_fieldBox (n := 1) (o' := 1) rfl Tryz.runUnderlying38 rfl Tryz.sizeOf4 (by decide) rfl)) ?_
    refine run_g_same (b := (v7.1 != v8.vV)) (c := true) (v := Value.bool v8.vIs) rfl rfl rfl rfl (fun hg => (r_loadBox ((show _ = gv (true && ((v7.1 != v8.vV) == false)) (Value.pointer (some ⟨b4, 1, none⟩)) from rfl).trans (gv_t hg)) Tryz.isAgg4 (HS10.look 0 rfl) rfl)) ?_
    refine run_frame (by simp only [List.set_cons_zero, List.set_cons_succ]; rfl) ?_
    refine run_g_same (b := (v7.1 != v8.vV)) (c := true) (v := Value.bool (v7.2.1 != v8.vIs)) rfl rfl rfl rfl (fun hg => (r_boolneq ((show _ = gv (true && ((v7.1 != v8.vV) == false)) (Value.bool v7.2.1) from rfl).trans (gv_t hg)) ((show _ = gv (true && ((v7.1 != v8.vV) == false)) (Value.bool v8.vIs) from rfl).trans (gv_t hg)) Tryz.runUnderlying4)) ?_
    refine run_same (v := Value.bool ((v7.1 != v8.vV) || (v7.2.1 != v8.vIs))) rfl rfl (r_pick_or rfl rfl (fun hp => ((show _ = gv (true && ((v7.1 != v8.vV) == false)) (Value.bool (v7.2.1 != v8.vIs)) from rfl).trans (gv_t (and_i rfl hp))))) ?_
    refine run_same (v := Value.bool ((v7.1 != v8.vV) || (v7.2.1 != v8.vIs))) rfl rfl (r_move rfl) ?_
    refine run_g_same (b := ((v7.1 != v8.vV) || (v7.2.1 != v8.vIs))) (c := true) (v := Value.int .i64 v7.2.2) rfl rfl rfl rfl (fun hg => (r_move rfl)) ?_
    refine run_frame (by simp only [List.set_cons_zero, List.set_cons_succ]; rfl) ?_
    refine run_g_same (b := ((v7.1 != v8.vV) || (v7.2.1 != v8.vIs))) (c := true) (v := Value.pointer (some ⟨b4, 2, none⟩)) rfl rfl rfl rfl (fun hg => (r_fieldBox (n := 1) (o' := 2) rfl Tryz.runUnderlying38 rfl Tryz.sizeOf34 (by decide) rfl)) ?_
    refine run_g_same (b := ((v7.1 != v8.vV) || (v7.2.1 != v8.vIs))) (c := true) (v := Value.int .i64 v8.vE) rfl rfl rfl rfl (fun hg => (r_loadBox ((show _ = gv (true && (((v7.1 != v8.vV) || (v7.2.1 != v8.vIs)) == false)) (Value.pointer (some ⟨b4, 2, none⟩)) from rfl).trans (gv_t hg)) Tryz.isAgg34 (HS10.look 0 rfl) rfl)) ?_
    refine run_g_same (b := ((v7.1 != v8.vV) || (v7.2.1 != v8.vIs))) (c := true) (v := Value.bool (v7.2.2 != v8.vE)) rfl rfl rfl rfl (fun hg => (r_bin ((show _ = gv (true && (((v7.1 != v8.vV) || (v7.2.1 != v8.vIs)) == false)) (Value.int .i64 v7.2.2) from rfl).trans (gv_t hg)) ((show _ = gv (true && (((v7.1 != v8.vV) || (v7.2.1 != v8.vIs)) == false)) (Value.int .i64 v8.vE) from rfl).trans (gv_t hg)) rfl)) ?_
    refine run_same (v := Value.bool (((v7.1 != v8.vV) || (v7.2.1 != v8.vIs)) || (v7.2.2 != v8.vE))) rfl rfl (r_pick_or rfl rfl (fun hp => ((show _ = gv (true && (((v7.1 != v8.vV) || (v7.2.1 != v8.vIs)) == false)) (Value.bool (v7.2.2 != v8.vE)) from rfl).trans (gv_t (and_i rfl hp))))) ?_
    try simp only [List.set_cons_zero, List.set_cons_succ]
    refine run_nil ?_
    refine norm_then ?_
    refine wp_cond_split (t := (((v7.1 != v8.vV) || (v7.2.1 != v8.vIs)) || (v7.2.2 != v8.vE))) rfl (fun c2 => ?_) (fun c2 => ?_)
    · replace H := of_pos H c2
      refine wp_seq ?_
      refine region ?_
      refine run_same (v := Value.bool false) rfl rfl (r_assign rfl) ?_
      try simp only [List.set_cons_zero, List.set_cons_succ]
      refine run_nil ?_
      refine norm_then ?_
      refine wp_ret ?_
      refine ret_then ?_
      obtain rfl := Option.some.inj H
      refine bodyPost_ret (results_1 rfl (one_tmp rfl)) rfl ?_
      exact ⟨rfl, HS10.toE⟩
    · replace H := of_neg H (nt c2)
      refine wp_skip ?_
      refine norm_then ?_
      refine wp_seq ?_
      refine region ?_
      refine run_same (v := Value.agg #[Value.slice A0_0 a0.vSegs.length c0_0]) rfl rfl (r_loadBoxAgg (n := 1) (vs := [Value.slice A0_0 a0.vSegs.length c0_0]) rfl Tryz.isAgg27 (HS10.look 3 rfl) Tryz.sizeOf27 rfl rfl) ?_
      refine run_same (v := Value.pointer (some ⟨b3, 0, none⟩)) rfl rfl (r_fieldBox (n := 1) (o' := 0) rfl Tryz.runUnderlying32 rfl Tryz.sizeOf2 (by decide) rfl) ?_
      refine run_same (v := Value.int .i64 a2.vAt) rfl rfl (r_loadBox rfl Tryz.isAgg2 (HS10.look 1 rfl) rfl) ?_
      refine run_same (v := Value.pointer (some ⟨b3, 1, none⟩)) rfl rfl (r_fieldBox (n := 1) (o' := 1) rfl Tryz.runUnderlying32 rfl Tryz.sizeOf3 (by decide) rfl) ?_
      refine run_frame (by simp only [List.set_cons_zero, List.set_cons_succ]; rfl) ?_
      refine run_same (v := Value.int .i64 a2.vN) rfl rfl (r_loadBox rfl Tryz.isAgg3 (HS10.look 1 rfl) rfl) ?_
      obtain ⟨v9, H9, H⟩ := of_bind H
      refine run_ex rfl rfl (does_call Tryz.call24 rfl (gives_in (h := h0) (R := (fun hx u => ∃ (Av9_0_0 : Option Addr) (cv9_0_0 : Nat), u = Value.tuple #[Value.slice Av9_0_0 v9.1.length cv9_0_0, Value.bool v9.2.1, Value.int .i64 v9.2.2] ∧ v9.1.length ≤ cv9_0_0 ∧ Rd (Kd.int .u8) hx Av9_0_0 v9.1)) (Ext.rfl' w10) ((image_Read.calls k a0 a2.vAt a2.vN A0_0 c0_0 HS10.sees hr0_0 hc0_0 H9).mono ?_)) rfl) ?_
      · rintro _ _ ⟨h1, Av9_0_0, cv9_0_0, rfl, hcv9_0_0, hrv9_0_0, g, ss, x⟩
        exact ⟨h1, _, rfl, ⟨Av9_0_0, cv9_0_0, rfl, hcv9_0_0, hrv9_0_0⟩, g, ss, x⟩
      rintro w11 _ hE10 ⟨h1, ⟨Av9_0_0, cv9_0_0, rfl, hcv9_0_0, hrv9_0_0⟩, gr1, se1⟩
      have HS11 := HS10.view hE10 gr1 se1
      refine run_same (v := Value.tuple #[Value.slice Av9_0_0 v9.1.length cv9_0_0, Value.bool v9.2.1, Value.int .i64 v9.2.2]) rfl rfl (r_move rfl) ?_
      refine run_same (v := Value.slice Av9_0_0 v9.1.length cv9_0_0) rfl rfl (r_extract rfl rfl) ?_
      refine run_frame (by simp only [List.set_cons_zero, List.set_cons_succ]; rfl) ?_
      refine run_same (v := Value.bool v9.2.1) rfl rfl (r_extract rfl rfl) ?_
      refine run_same (v := Value.int .i64 v9.2.2) rfl rfl (r_extract rfl rfl) ?_
      refine run_same (v := Value.slice Av9_0_0 v9.1.length cv9_0_0) rfl rfl (r_assign rfl) ?_
      refine run_same (v := Value.bool v9.2.1) rfl rfl (r_assign rfl) ?_
      refine run_frame (by simp only [List.set_cons_zero, List.set_cons_succ]; rfl) ?_
      refine run_same (v := Value.int .i64 v9.2.2) rfl rfl (r_assign rfl) ?_
      try simp only [List.set_cons_zero, List.set_cons_succ]
      refine run_nil ?_
      refine norm_then ?_
      refine wp_seq ?_
      refine wp_seq ?_
      refine region ?_
      refine run_same (v := Value.int .i64 v2) rfl rfl (r_move rfl) ?_
      refine run_same (v := Value.bool (v2 == 0)) rfl rfl (r_bin rfl rfl rfl) ?_
      refine run_same (v := Value.bool (v2 == 0)) rfl rfl (r_move rfl) ?_
      refine run_g_same (b := (v2 == 0)) (c := true) (v := Value.pointer (some ⟨b3, 1, none⟩)) rfl rfl rfl rfl (fun hg => (r_fieldBox (n := 1) (o' := 1) rfl Tryz.runUnderlying32 rfl Tryz.sizeOf3 (by decide) rfl)) ?_
      refine run_frame (by simp only [List.set_cons_zero, List.set_cons_succ]; rfl) ?_
      refine run_g_same (b := (v2 == 0)) (c := true) (v := Value.int .i64 a2.vN) rfl rfl rfl rfl (fun hg => (r_loadBox ((show _ = gv (true && ((v2 == 0) == true)) (Value.pointer (some ⟨b3, 1, none⟩)) from rfl).trans (gv_t hg)) Tryz.isAgg3 (HS11.look 1 rfl) rfl)) ?_
      refine run_g_same (b := (v2 == 0)) (c := true) (v := Value.bool (decide (a2.vN < 0))) rfl rfl rfl rfl (fun hg => (r_bin ((show _ = gv (true && ((v2 == 0) == true)) (Value.int .i64 a2.vN) from rfl).trans (gv_t hg)) rfl rfl)) ?_
      refine run_g_same (b := (v2 == 0)) (c := true) (v := Value.bool (decide (a2.vN < 0))) rfl rfl rfl rfl (fun hg => (r_move ((show _ = gv (true && ((v2 == 0) == true)) (Value.bool (decide (a2.vN < 0))) from rfl).trans (gv_t hg)))) ?_
      refine run_g_same (b := (decide (a2.vN < 0))) (c := (true && ((v2 == 0) == true))) (v := Value.pointer (some ⟨b3, 1, none⟩)) rfl rfl rfl rfl (fun hg => (r_fieldBox (n := 1) (o' := 1) rfl Tryz.runUnderlying32 rfl Tryz.sizeOf3 (by decide) rfl)) ?_
      refine run_frame (by simp only [List.set_cons_zero, List.set_cons_succ]; rfl) ?_
      refine run_g_same (b := (decide (a2.vN < 0))) (c := (true && ((v2 == 0) == true))) (v := Value.int .i64 a2.vN) rfl rfl rfl rfl (fun hg => (r_loadBox ((show _ = gv ((true && ((v2 == 0) == true)) && ((decide (a2.vN < 0)) == false)) (Value.pointer (some ⟨b3, 1, none⟩)) from rfl).trans (gv_t hg)) Tryz.isAgg3 (HS11.look 1 rfl) rfl)) ?_
      refine run_g_same (b := (decide (a2.vN < 0))) (c := (true && ((v2 == 0) == true))) (v := Value.bool (decide (a2.vN > 2048))) rfl rfl rfl rfl (fun hg => (r_bin ((show _ = gv ((true && ((v2 == 0) == true)) && ((decide (a2.vN < 0)) == false)) (Value.int .i64 a2.vN) from rfl).trans (gv_t hg)) rfl rfl)) ?_
      refine run_g_same (b := (v2 == 0)) (c := true) (v := Value.bool ((decide (a2.vN < 0)) || (decide (a2.vN > 2048)))) rfl rfl rfl rfl (fun hg => (r_pick_or ((show _ = gv (true && ((v2 == 0) == true)) (Value.bool (decide (a2.vN < 0))) from rfl).trans (gv_t hg)) rfl (fun hp => ((show _ = gv ((true && ((v2 == 0) == true)) && ((decide (a2.vN < 0)) == false)) (Value.bool (decide (a2.vN > 2048))) from rfl).trans (gv_t (and_i hg hp)))))) ?_
      refine run_same (v := Value.bool ((v2 == 0) && ((decide (a2.vN < 0)) || (decide (a2.vN > 2048))))) rfl rfl (r_pick_and rfl (fun hp => ((show _ = gv (true && ((v2 == 0) == true)) (Value.bool ((decide (a2.vN < 0)) || (decide (a2.vN > 2048)))) from rfl).trans (gv_t (and_i rfl hp)))) rfl) ?_
      try simp only [List.set_cons_zero, List.set_cons_succ]
      refine run_nil ?_
      refine norm_then ?_
      obtain ⟨xx1, H, G1⟩ := of_bind H
      refine cut_patch [8] (fun us w' => Fit us (fun uj1 => [Value.int .i64 xx1]) ∧ St [] h0 w0 h1 [(some b4, .cells #[Value.int .i64 v8.vV, Value.bool v8.vIs, Value.int .i64 v8.vE] 38 (0, 0)), (some b3, .cells #[Value.int .i64 a2.vAt, Value.int .i64 a2.vN, Value.int .i64 a2.vT.vSize, Value.bool a2.vT.vSigned, Value.string a2.vName, Value.slice A2_5 a2.vPath.length c2_5] 32 (0, 0)), (some b2, .cells #[Value.slice A1_0 a1.vSegs.length c1_0] 27 (0, 0)), (some b1, .cells #[Value.slice A0_0 a0.vSegs.length c0_0] 27 (0, 0))] w') ?_ ?_
      · refine wp_cond_split (t := ((v2 == 0) && ((decide (a2.vN < 0)) || (decide (a2.vN > 2048))))) rfl (fun c3 => ?_) (fun c3 => ?_)
        · replace H := of_pos H c3
          refine region ?_
          refine run_same (v := Value.int .i64 1) rfl rfl (r_assign rfl) ?_
          try simp only [List.set_cons_zero, List.set_cons_succ]
          refine run_nil ?_
          obtain rfl := Option.some.inj H
          refine met_j rfl ⟨(fit rfl), HS11⟩
        · replace H := of_neg H (nt c3)
          refine wp_skip ?_
          obtain rfl := Option.some.inj H
          refine met_j rfl ⟨(fit rfl), HS11⟩
      · rintro us w12 ⟨huj1, HS12⟩
        obtain ⟨uj1, rfl⟩ := unj huj1
        replace H := G1
        clear G1
        try simp only [patch, List.set_cons_zero, List.set_cons_succ]
        refine wp_seq ?_
        refine wp_seq ?_
        refine region ?_
        refine run_same (v := Value.int .i64 xx1) rfl rfl (r_move rfl) ?_
        refine run_same (v := Value.bool (xx1 != 0)) rfl rfl (r_bin rfl rfl rfl) ?_
        try simp only [List.set_cons_zero, List.set_cons_succ]
        refine run_nil ?_
        refine norm_then ?_
        refine wp_cond_split (t := (xx1 != 0)) rfl (fun c4 => ?_) (fun c4 => ?_)
        · replace H := of_pos H c4
          refine wp_seq ?_
          refine region ?_
          refine run_same (v := Value.bool v1) rfl rfl (r_move rfl) ?_
          refine run_same (v := Value.bool v1) rfl rfl (r_move rfl) ?_
          refine run_g_same (b := v1) (c := true) (v := Value.int .i64 v9.2.2) rfl rfl rfl rfl (fun hg => (r_move rfl)) ?_
          refine run_g_same (b := v1) (c := true) (v := Value.int .i64 xx1) rfl rfl rfl rfl (fun hg => (r_move rfl)) ?_
          refine run_frame (by simp only [List.set_cons_zero, List.set_cons_succ]; rfl) ?_
          refine run_g_same (b := v1) (c := true) (v := Value.bool (v9.2.2 == xx1)) rfl rfl rfl rfl (fun hg => (r_bin ((show _ = gv (true && (v1 == true)) (Value.int .i64 v9.2.2) from rfl).trans (gv_t hg)) ((show _ = gv (true && (v1 == true)) (Value.int .i64 xx1) from rfl).trans (gv_t hg)) rfl)) ?_
          refine run_same (v := Value.bool (v1 && (v9.2.2 == xx1))) rfl rfl (r_pick_and rfl (fun hp => ((show _ = gv (true && (v1 == true)) (Value.bool (v9.2.2 == xx1)) from rfl).trans (gv_t (and_i rfl hp)))) rfl) ?_
          refine run_same (v := Value.bool (v1 && (v9.2.2 == xx1))) rfl rfl (r_move rfl) ?_
          refine run_g_same (b := (v1 && (v9.2.2 == xx1))) (c := true) (v := Value.bool v9.2.1) rfl rfl rfl rfl (fun hg => (r_move rfl)) ?_
          refine run_frame (by simp only [List.set_cons_zero, List.set_cons_succ]; rfl) ?_
          refine run_g_same (b := (v1 && (v9.2.2 == xx1))) (c := true) (v := Value.bool (!v9.2.1)) rfl rfl rfl rfl (fun hg => (r_not ((show _ = gv (true && ((v1 && (v9.2.2 == xx1)) == true)) (Value.bool v9.2.1) from rfl).trans (gv_t hg)))) ?_
          refine run_same (v := Value.bool ((v1 && (v9.2.2 == xx1)) && (!v9.2.1))) rfl rfl (r_pick_and rfl (fun hp => ((show _ = gv (true && ((v1 && (v9.2.2 == xx1)) == true)) (Value.bool (!v9.2.1)) from rfl).trans (gv_t (and_i rfl hp)))) rfl) ?_
          refine run_same (v := Value.bool ((v1 && (v9.2.2 == xx1)) && (!v9.2.1))) rfl rfl (r_move rfl) ?_
          refine run_g_same (b := ((v1 && (v9.2.2 == xx1)) && (!v9.2.1))) (c := true) (v := Value.slice Av9_0_0 v9.1.length cv9_0_0) rfl rfl rfl rfl (fun hg => (r_move rfl)) ?_
          refine run_frame (by simp only [List.set_cons_zero, List.set_cons_succ]; rfl) ?_
          refine run_g_same (b := ((v1 && (v9.2.2 == xx1)) && (!v9.2.1))) (c := true) (v := Value.int .i64 (v9.1.length : Int)) rfl rfl rfl rfl (fun hg => (r_len ((show _ = gv (true && (((v1 && (v9.2.2 == xx1)) && (!v9.2.1)) == true)) (Value.slice Av9_0_0 v9.1.length cv9_0_0) from rfl).trans (gv_t hg)) Tryz.runUnderlying42)) ?_
          refine run_g_same (b := ((v1 && (v9.2.2 == xx1)) && (!v9.2.1))) (c := true) (v := Value.bool ((v9.1.length : Int) == 0)) rfl rfl rfl rfl (fun hg => (r_bin ((show _ = gv (true && (((v1 && (v9.2.2 == xx1)) && (!v9.2.1)) == true)) (Value.int .i64 (v9.1.length : Int)) from rfl).trans (gv_t hg)) rfl rfl)) ?_
          refine run_same (v := Value.bool (((v1 && (v9.2.2 == xx1)) && (!v9.2.1)) && ((v9.1.length : Int) == 0))) rfl rfl (r_pick_and rfl (fun hp => ((show _ = gv (true && (((v1 && (v9.2.2 == xx1)) && (!v9.2.1)) == true)) (Value.bool ((v9.1.length : Int) == 0)) from rfl).trans (gv_t (and_i rfl hp)))) rfl) ?_
          refine run_same (v := Value.bool (((v1 && (v9.2.2 == xx1)) && (!v9.2.1)) && ((v9.1.length : Int) == 0))) rfl rfl (r_assign rfl) ?_
          try simp only [List.set_cons_zero, List.set_cons_succ]
          refine run_nil ?_
          refine norm_then ?_
          refine wp_ret ?_
          refine ret_then ?_
          obtain rfl := Option.some.inj H
          refine bodyPost_ret (results_1 rfl (one_tmp rfl)) rfl ?_
          exact ⟨rfl, HS12.toE⟩
        · replace H := of_neg H (nt c4)
          refine wp_skip ?_
          refine norm_then ?_
          refine wp_seq ?_
          refine region ?_
          refine run_same (v := Value.agg #[Value.slice A0_0 a0.vSegs.length c0_0]) rfl rfl (r_loadBoxAgg (n := 1) (vs := [Value.slice A0_0 a0.vSegs.length c0_0]) rfl Tryz.isAgg27 (HS12.look 3 rfl) Tryz.sizeOf27 rfl rfl) ?_
          refine run_same (v := Value.pointer (some ⟨b3, 0, none⟩)) rfl rfl (r_fieldBox (n := 1) (o' := 0) rfl Tryz.runUnderlying32 rfl Tryz.sizeOf2 (by decide) rfl) ?_
          refine run_same (v := Value.int .i64 a2.vAt) rfl rfl (r_loadBox rfl Tryz.isAgg2 (HS12.look 1 rfl) rfl) ?_
          refine run_same (v := Value.pointer (some ⟨b3, 1, none⟩)) rfl rfl (r_fieldBox (n := 1) (o' := 1) rfl Tryz.runUnderlying32 rfl Tryz.sizeOf3 (by decide) rfl) ?_
          refine run_frame (by simp only [List.set_cons_zero, List.set_cons_succ]; rfl) ?_
          refine run_same (v := Value.int .i64 a2.vN) rfl rfl (r_loadBox rfl Tryz.isAgg3 (HS12.look 1 rfl) rfl) ?_
          obtain ⟨v10, H10, H⟩ := of_bind H
          refine run_ex rfl rfl (does_call Tryz.call30 rfl (gives_in (h := h1) (R := (fun hx u => ∃ (Av10_0_0 : Option Addr) (cv10_0_0 : Nat), u = Value.tuple #[Value.slice Av10_0_0 v10.1.length cv10_0_0, Value.bool v10.2] ∧ v10.1.length ≤ cv10_0_0 ∧ Rd (Kd.int .u8) hx Av10_0_0 v10.1)) (Ext.rfl' w12) ((taplineref09_Bytes.calls k a0 a2.vAt a2.vN A0_0 c0_0 HS12.sees (hr0_0.ext HS12.sub) hc0_0 H10).mono ?_)) rfl) ?_
          · rintro _ _ ⟨h1, Av10_0_0, cv10_0_0, rfl, hcv10_0_0, hrv10_0_0, g, ss, x⟩
            exact ⟨h1, _, rfl, ⟨Av10_0_0, cv10_0_0, rfl, hcv10_0_0, hrv10_0_0⟩, g, ss, x⟩
          rintro w13 _ hE11 ⟨h2, ⟨Av10_0_0, cv10_0_0, rfl, hcv10_0_0, hrv10_0_0⟩, gr2, se2⟩
          have HS13 := HS12.view hE11 gr2 se2
          replace hrv9_0_0 : Rd (Kd.int .u8) h2 Av9_0_0 v9.1 := hrv9_0_0.ext gr2.1
          refine run_same (v := Value.tuple #[Value.slice Av10_0_0 v10.1.length cv10_0_0, Value.bool v10.2]) rfl rfl (r_move rfl) ?_
          refine run_same (v := Value.slice Av10_0_0 v10.1.length cv10_0_0) rfl rfl (r_extract rfl rfl) ?_
          refine run_frame (by simp only [List.set_cons_zero, List.set_cons_succ]; rfl) ?_
          refine run_same (v := Value.bool v10.2) rfl rfl (r_extract rfl rfl) ?_
          refine run_same (v := Value.slice Av10_0_0 v10.1.length cv10_0_0) rfl rfl (r_assign rfl) ?_
          refine run_same (v := Value.bool v10.2) rfl rfl (r_assign rfl) ?_
          try simp only [List.set_cons_zero, List.set_cons_succ]
          refine run_nil ?_
          refine norm_then ?_
          refine wp_seq ?_
          refine region ?_
          refine run_same (v := Value.bool v1) rfl rfl (r_move rfl) ?_
          refine run_same (v := Value.bool v1) rfl rfl (r_move rfl) ?_
          refine run_g_same (b := v1) (c := true) (v := Value.int .i64 v9.2.2) rfl rfl rfl rfl (fun hg => (r_move rfl)) ?_
          refine run_g_same (b := v1) (c := true) (v := Value.bool (v9.2.2 == 0)) rfl rfl rfl rfl (fun hg => (r_bin ((show _ = gv (true && (v1 == true)) (Value.int .i64 v9.2.2) from rfl).trans (gv_t hg)) rfl rfl)) ?_
          refine run_frame (by simp only [List.set_cons_zero, List.set_cons_succ]; rfl) ?_
          refine run_same (v := Value.bool (v1 && (v9.2.2 == 0))) rfl rfl (r_pick_and rfl (fun hp => ((show _ = gv (true && (v1 == true)) (Value.bool (v9.2.2 == 0)) from rfl).trans (gv_t (and_i rfl hp)))) rfl) ?_
          refine run_same (v := Value.bool (v1 && (v9.2.2 == 0))) rfl rfl (r_move rfl) ?_
          refine run_g_same (b := (v1 && (v9.2.2 == 0))) (c := true) (v := Value.bool v9.2.1) rfl rfl rfl rfl (fun hg => (r_move rfl)) ?_
          refine run_g_same (b := (v1 && (v9.2.2 == 0))) (c := true) (v := Value.bool v10.2) rfl rfl rfl rfl (fun hg => (r_move rfl)) ?_
          refine run_frame (by simp only [List.set_cons_zero, List.set_cons_succ]; rfl) ?_
          refine run_g_same (b := (v1 && (v9.2.2 == 0))) (c := true) (v := Value.bool (v9.2.1 == v10.2)) rfl rfl rfl rfl (fun hg => (r_booleql ((show _ = gv (true && ((v1 && (v9.2.2 == 0)) == true)) (Value.bool v9.2.1) from rfl).trans (gv_t hg)) ((show _ = gv (true && ((v1 && (v9.2.2 == 0)) == true)) (Value.bool v10.2) from rfl).trans (gv_t hg)) Tryz.runUnderlying4)) ?_
          refine run_same (v := Value.bool ((v1 && (v9.2.2 == 0)) && (v9.2.1 == v10.2))) rfl rfl (r_pick_and rfl (fun hp => ((show _ = gv (true && ((v1 && (v9.2.2 == 0)) == true)) (Value.bool (v9.2.1 == v10.2)) from rfl).trans (gv_t (and_i rfl hp)))) rfl) ?_
          refine run_same (v := Value.bool ((v1 && (v9.2.2 == 0)) && (v9.2.1 == v10.2))) rfl rfl (r_move rfl) ?_
          refine run_g_same (b := ((v1 && (v9.2.2 == 0)) && (v9.2.1 == v10.2))) (c := true) (v := Value.slice Av9_0_0 v9.1.length cv9_0_0) rfl rfl rfl rfl (fun hg => (r_move rfl)) ?_
          refine run_frame (by simp only [List.set_cons_zero, List.set_cons_succ]; rfl) ?_
          refine run_g_same (b := ((v1 && (v9.2.2 == 0)) && (v9.2.1 == v10.2))) (c := true) (v := Value.string (strOf v9.1)) rfl rfl rfl rfl (fun hg => (r_b2s ((show _ = gv (true && (((v1 && (v9.2.2 == 0)) && (v9.2.1 == v10.2)) == true)) (Value.slice Av9_0_0 v9.1.length cv9_0_0) from rfl).trans (gv_t hg)) Tryz.runUnderlying42 Tryz.runUnderlying9 Tryz.runUnderlying5 HS13.sees hrv9_0_0)) ?_
          refine run_g_same (b := ((v1 && (v9.2.2 == 0)) && (v9.2.1 == v10.2))) (c := true) (v := Value.slice Av10_0_0 v10.1.length cv10_0_0) rfl rfl rfl rfl (fun hg => (r_move rfl)) ?_
          refine run_g_same (b := ((v1 && (v9.2.2 == 0)) && (v9.2.1 == v10.2))) (c := true) (v := Value.string (strOf v10.1)) rfl rfl rfl rfl (fun hg => (r_b2s ((show _ = gv (true && (((v1 && (v9.2.2 == 0)) && (v9.2.1 == v10.2)) == true)) (Value.slice Av10_0_0 v10.1.length cv10_0_0) from rfl).trans (gv_t hg)) Tryz.runUnderlying42 Tryz.runUnderlying9 Tryz.runUnderlying5 HS13.sees hrv10_0_0)) ?_
          refine run_g_same (b := ((v1 && (v9.2.2 == 0)) && (v9.2.1 == v10.2))) (c := true) (v := Value.bool (strEq (strOf v9.1) (strOf v10.1))) rfl rfl rfl rfl (fun hg => (r_streql ((show _ = gv (true && (((v1 && (v9.2.2 == 0)) && (v9.2.1 == v10.2)) == true)) (Value.string (strOf v9.1)) from rfl).trans (gv_t hg)) ((show _ = gv (true && (((v1 && (v9.2.2 == 0)) && (v9.2.1 == v10.2)) == true)) (Value.string (strOf v10.1)) from rfl).trans (gv_t hg)))) ?_
          refine run_frame (by simp only [List.set_cons_zero, List.set_cons_succ]; rfl) ?_
          refine run_same (v := Value.bool (((v1 && (v9.2.2 == 0)) && (v9.2.1 == v10.2)) && (strEq (strOf v9.1) (strOf v10.1)))) rfl rfl (r_pick_and rfl (fun hp => ((show _ = gv (true && (((v1 && (v9.2.2 == 0)) && (v9.2.1 == v10.2)) == true)) (Value.bool (strEq (strOf v9.1) (strOf v10.1))) from rfl).trans (gv_t (and_i rfl hp)))) rfl) ?_
          refine run_same (v := Value.bool (((v1 && (v9.2.2 == 0)) && (v9.2.1 == v10.2)) && (strEq (strOf v9.1) (strOf v10.1)))) rfl rfl (r_assign rfl) ?_
          try simp only [List.set_cons_zero, List.set_cons_succ]
          refine run_nil ?_
          refine norm_then ?_
          refine wp_ret ?_
          obtain rfl := Option.some.inj H
          refine bodyPost_ret (results_1 rfl (one_tmp rfl)) rfl ?_
          exact ⟨rfl, HS13.toE⟩

end Go.Proofs.YtecpbadkdpbkpaaGreatDoor
/- Plain laws: images that are the same; what is loaded and read; the law of loads. -/
namespace Go.Proofs.YtecpbadkdpbkpaaGreatDoor
open Go.RowKit Go.M
/-! ### the same images -/
theorem eqb_loop {xs ys : List Int} (he : xs.length = ys.length) (hl : xs.length ≤ 9223372036854775807) : ∀ (d i m : Nat), i + d = xs.length → d < m →
    slices_Equal_byte_byte.l0 xs ys m (i : Int) = some (if xs.drop i = ys.drop i then .inr () else .inl false) := by
  intro d
  induction d with
  | zero =>
    intro i m hi hm
    obtain ⟨m, rfl⟩ : ∃ q, m = q + 1 := ⟨m - 1, by omega⟩
    rw [slices_Equal_byte_byte.l0, if_neg (by simp; omega), List.drop_of_length_le (by omega), List.drop_of_length_le (by omega)]
    rfl
  | succ d ih =>
    intro i m hi hm
    obtain ⟨m, rfl⟩ : ∃ q, m = q + 1 := ⟨m - 1, by omega⟩
    rw [slices_Equal_byte_byte.l0, if_pos (by simp; omega), if_pos (by omega), if_pos (by omega), rd_at 0 xs i (by omega), rd_at 0 ys i (by omega)]
    by_cases hb : rd 0 xs (i : Int) = rd 0 ys (i : Int)
    · rw [if_neg (by simp [hb]), wrap_nat (n := xs.length) (by omega) hl, ih (i + 1) m (by omega) (by omega), hb]
      simp only [List.cons.injEq, true_and]
    · rw [if_pos (by simp [hb]), if_neg (by simp [hb])]
theorem eqb {xs ys : List Int} (hl : xs.length ≤ 9223372036854775807) {k : Nat} (hk : xs.length < k) : slices_Equal_byte_byte.f k xs ys = some (decide (xs = ys)) := by
  unfold slices_Equal_byte_byte.f
  by_cases he : xs.length = ys.length
  · rw [if_neg (by simp [he])]
    have := eqb_loop he hl xs.length 0 k (by omega) hk
    rw [show ((0 : Nat) : Int) = 0 from rfl, List.drop_zero, List.drop_zero] at this
    rw [this]
    by_cases h : xs = ys
    · rw [if_pos h, decide_eq_true h]; rfl
    · rw [if_neg h, decide_eq_false h]; rfl
  · rw [if_pos (by simp; omega), decide_eq_false (fun h => he (by rw [h]))]
def segEq (x y : api_Segment) : Bool := (x.vAt == y.vAt) && decide (x.vBytes = y.vBytes)
def sameL : List api_Segment → List api_Segment → Bool
  | [], [] => true
  | x :: xs, y :: ys => segEq x y && sameL xs ys
  | _, _ => false
theorem segEq_refl (x : api_Segment) : segEq x x = true := by simp [segEq]
theorem sameL_refl : ∀ l : List api_Segment, sameL l l = true
  | [] => rfl
  | x :: l => by rw [sameL, segEq_refl, sameL_refl l]; rfl
theorem sameL_len : ∀ {l r : List api_Segment}, l.length ≠ r.length → sameL l r = false
  | [], [], h => absurd rfl h
  | [], _ :: _, _ => rfl
  | _ :: _, [], _ => rfl
  | x :: l, y :: r, h => by rw [sameL, sameL_len (l := l) (r := r) (by simpa using h), Bool.and_false]
theorem same1 {x y : api_Segment} (hl : x.vBytes.length ≤ 9223372036854775807) {k : Nat} (hk : x.vBytes.length < k) : image_Same_1.f k x y = some (segEq x y) := by
  unfold image_Same_1.f segEq
  by_cases h : x.vAt = y.vAt
  · rw [if_pos (by simp [h]), eqb hl hk]; rfl
  · rw [if_neg (by simp [h]), show (x.vAt == y.vAt) = false by simp [h]]; rfl
theorem eqf_loop {l r : List api_Segment} {p : api_Segment → api_Segment → Option Bool} (hp : ∀ x ∈ l, ∀ y, p x y = some (segEq x y)) (he : l.length = r.length) (hl : l.length ≤ 9223372036854775807) : ∀ (d i m : Nat), i + d = l.length → d < m →
    slices_EqualFunc_api_Segment_api_Segment_api_Segment_api_Segment.l0 l r p m (i : Int) = some (if sameL (l.drop i) (r.drop i) = true then .inr () else .inl false) := by
  intro d
  induction d with
  | zero =>
    intro i m hi hm
    obtain ⟨m, rfl⟩ : ∃ q, m = q + 1 := ⟨m - 1, by omega⟩
    rw [slices_EqualFunc_api_Segment_api_Segment_api_Segment_api_Segment.l0, if_neg (by simp; omega), List.drop_of_length_le (by omega), List.drop_of_length_le (by omega)]
    rfl
  | succ d ih =>
    intro i m hi hm
    obtain ⟨m, rfl⟩ : ∃ q, m = q + 1 := ⟨m - 1, by omega⟩
    rw [slices_EqualFunc_api_Segment_api_Segment_api_Segment_api_Segment.l0, if_pos (by simp; omega), if_pos (by omega), if_pos (by omega), hp _ (rd_mem (by omega) (by omega)), rd_at z_api_Segment l i (by omega), rd_at z_api_Segment r i (by omega), sameL]
    simp only [Option.bind_some]
    cases hb : segEq (rd z_api_Segment l (i : Int)) (rd z_api_Segment r (i : Int)) with
    | false => rfl
    | true =>
      rw [if_neg (by simp), wrap_nat (n := l.length) (by omega) hl, Bool.true_and]
      exact ih (i + 1) m (by omega) (by omega)
def maxB (l : List api_Segment) : Nat := l.foldr (fun s n => max s.vBytes.length n) 0
theorem maxB_le : ∀ {l : List api_Segment} {s : api_Segment}, s ∈ l → s.vBytes.length ≤ maxB l
  | x :: l, s, h => by
    unfold maxB
    rw [List.foldr_cons]
    rcases List.mem_cons.1 h with rfl | h
    · omega
    · have := maxB_le h; unfold maxB at this; omega
def LensOk (l : List api_Segment) : Prop := l.length ≤ 9223372036854775807 ∧ ∀ s ∈ l, s.vBytes.length ≤ 9223372036854775807
theorem pSame {a b : api_Image} (ha : LensOk a.vSegs) {k : Nat} (hk : max a.vSegs.length (maxB a.vSegs) < k) : image_Same.f k a b = some (sameL a.vSegs b.vSegs) := by
  unfold image_Same.f slices_EqualFunc_api_Segment_api_Segment_api_Segment_api_Segment.f
  by_cases he : a.vSegs.length = b.vSegs.length
  · rw [if_neg (by simp [he])]
    have := eqf_loop (p := fun z0 z1 => image_Same_1.f k z0 z1) (fun x hx y => same1 (ha.2 x hx) (by have := maxB_le hx; omega)) he ha.1 a.vSegs.length 0 k (by omega) (by omega)
    rw [show ((0 : Nat) : Int) = 0 from rfl, List.drop_zero, List.drop_zero] at this
    rw [this]
    cases sameL a.vSegs b.vSegs <;> rfl
  · rw [if_pos (by simp; omega), sameL_len he]; rfl
theorem strOf_eq {xs ys : List Int} (hx : Byt xs) (hy : Byt ys) : strEq (strOf xs) (strOf ys) = decide (xs = ys) := by
  rw [Bool.eq_iff_iff, decide_eq_true_eq, strEq_iff]
  refine ⟨fun h => ?_, fun h => by rw [h]⟩
  unfold strOf at h
  have h1 : (xs.map fun n => UInt8.ofNat n.toNat) = (ys.map fun n => UInt8.ofNat n.toNat) := by
    injection h with h
    exact List.toArray_inj h
  have hl : xs.length = ys.length := by simpa using congrArg List.length h1
  apply List.ext_getElem hl
  intro i h2 h3
  have h4 := congrArg (fun l => l[i]?) h1
  simp only [List.getElem?_map, List.getElem?_eq_getElem h2, List.getElem?_eq_getElem h3, Option.map_some, Option.some.injEq] at h4
  have h5 := congrArg UInt8.toNat h4
  have b1 := hx _ (List.getElem_mem h2)
  have b2 := hy _ (List.getElem_mem h3)
  rw [UInt8.toNat_ofNat', UInt8.toNat_ofNat'] at h5
  omega
theorem rsame_loop {a b : api_Image} (hA : BytesOk a.vSegs) (hB : BytesOk b.vSegs) (he : a.vSegs.length = b.vSegs.length) (hl : a.vSegs.length ≤ 9223372036854775807) : ∀ (d i m : Nat), i + d = a.vSegs.length → d < m →
    taplineref09_Same.l0 a b m (i : Int) = some (if sameL (a.vSegs.drop i) (b.vSegs.drop i) = true then .inr () else .inl false) := by
  intro d
  induction d with
  | zero =>
    intro i m hi hm
    obtain ⟨m, rfl⟩ : ∃ q, m = q + 1 := ⟨m - 1, by omega⟩
    rw [taplineref09_Same.l0, if_neg (by simp; omega), List.drop_of_length_le (by omega), List.drop_of_length_le (by omega)]
    rfl
  | succ d ih =>
    intro i m hi hm
    obtain ⟨m, rfl⟩ : ∃ q, m = q + 1 := ⟨m - 1, by omega⟩
    have hbd : 0 ≤ (i : Int) ∧ (i : Int) < a.vSegs.length := by omega
    have hbd2 : 0 ≤ (i : Int) ∧ (i : Int) < b.vSegs.length := by omega
    rw [taplineref09_Same.l0, if_pos (by simp; omega), if_pos hbd, if_pos hbd2, if_pos (fun _ => hbd), if_pos (fun _ => hbd2), rd_at z_api_Segment a.vSegs i (by omega), rd_at z_api_Segment b.vSegs i (by omega), sameL,
      strOf_eq (hA _ (rd_mem hbd.1 hbd.2)) (hB _ (rd_mem hbd2.1 hbd2.2))]
    generalize rd z_api_Segment a.vSegs (i : Int) = x
    generalize rd z_api_Segment b.vSegs (i : Int) = y
    have hc : ((x.vAt != y.vAt) || (!(decide (x.vBytes = y.vBytes)))) = !(segEq x y) := by
      unfold segEq
      cases h1 : (x.vAt == y.vAt) <;> simp [bne, h1]
    rw [hc]
    cases hb : segEq x y with
    | false => rfl
    | true =>
      rw [if_neg (by simp), wrap_nat (n := a.vSegs.length) (by omega) hl, Bool.true_and]
      exact ih (i + 1) m (by omega) (by omega)
theorem rSame {a b : api_Image} (hA : BytesOk a.vSegs) (hB : BytesOk b.vSegs) (ha : LensOk a.vSegs) {k : Nat} (hk : a.vSegs.length < k) : taplineref09_Same.f k a b = some (sameL a.vSegs b.vSegs) := by
  unfold taplineref09_Same.f
  by_cases he : a.vSegs.length = b.vSegs.length
  · rw [if_neg (by simp [he])]
    have := rsame_loop hA hB he ha.1 a.vSegs.length 0 k (by omega) (by omega)
    rw [show ((0 : Nat) : Int) = 0 from rfl, List.drop_zero, List.drop_zero] at this
    rw [this]
    cases sameL a.vSegs b.vSegs <;> rfl
  · rw [if_pos (by simp; omega), sameL_len he]
/-! ### loading and reading -/
theorem okI_no {t : api_Int} (h : ¬ okI t = true) : taplineref01_Check.f t = some 10 := by
  unfold okI at h
  simp only [Bool.or_eq_true, beq_iff_eq, not_or] at h
  unfold taplineref01_Check.f
  rw [if_pos (by simp; omega)]
theorem okI_yes {t : api_Int} (h : okI t = true) : taplineref01_Check.f t = some 0 := by
  unfold okI at h
  simp only [Bool.or_eq_true, beq_iff_eq] at h
  unfold taplineref01_Check.f
  rw [if_neg (by simp; omega)]
theorem okI_n {t : api_Int} (h : okI t = true) : ∃ n : Nat, t.vSize = (n : Int) ∧ (n = 1 ∨ n = 2 ∨ n = 4 ∨ n = 8) := by
  unfold okI at h
  simp only [Bool.or_eq_true, beq_iff_eq] at h
  exact ⟨t.vSize.toNat, by omega, by omega⟩
def loadV (m : api_Image) (a : Int) (t : api_Int) : Int × Bool × Int :=
  if chkV m ≠ 0 then (0, false, chkV m) else if okI t = true then loadS t (runB m.vSegs a t.vSize.toNat 0 []) else (0, false, 10)
theorem pLoadV {m : api_Image} (hB : BytesOk m.vSegs) {a : Int} (ha : In64 a) (t : api_Int) {k : Nat} (hk : 300 ≤ k) : image_Load.f k m a t = some (loadV m a t) := by
  unfold image_Load.f loadV bits_Check.f
  rw [pCheck]
  simp only [Option.bind_some]
  by_cases hc : chkV m = 0
  · obtain ⟨hl, hO⟩ := okI_of hc
    rw [if_neg (c := chkV m ≠ 0) (fun h => h hc), if_neg (c := (chkV m != 0) = true) (by simp [hc])]
    by_cases ht : okI t = true
    · obtain ⟨n, hn, hn4⟩ := okI_n ht
      rw [if_pos ht, if_neg (by decide), pLoad hl hO hB ha hn hn4 hk, if_pos ht, hn]
      rfl
    · rw [if_neg ht, if_pos (by decide), if_neg ht]
  · rw [if_pos (by simp [hc]), if_pos hc]
theorem rLoadV {m : api_Image} (hB : BytesOk m.vSegs) {a : Int} (ha : In64 a) (t : api_Int) {k : Nat} (hk : 4097 ≤ k) : taplineref09_Load.f k m a t = some (loadedOf (loadV m a t)) := by
  unfold taplineref09_Load.f loadV
  rw [rCheck m (by omega)]
  simp only [Option.bind_some]
  by_cases hc : chkV m = 0
  · obtain ⟨hl, hO⟩ := okI_of hc
    rw [if_neg (c := chkV m ≠ 0) (fun h => h hc), if_pos (c := (chkV m == 0) = true) (by simp [hc])]
    by_cases ht : okI t = true
    · obtain ⟨n, hn, hn4⟩ := okI_n ht
      rw [okI_yes ht]
      simp only [Option.bind_some]
      rw [if_neg (by decide), rValue hl hO hB ha hn hn4 hk, if_pos ht, hn]
      rfl
    · rw [okI_no ht]
      simp only [Option.bind_some]
      rw [if_pos (by decide), if_neg ht]
      rfl
  · rw [if_neg (by simp [hc]), if_pos hc]
    simp only [Option.bind_some]
    rw [if_pos (by simp [hc])]
    rfl
theorem pReadV {m : api_Image} {a n : Int} (ha : In64 a) {k : Nat} (hk : 300 ≤ k) : image_Read.f k m a n =
    some (if chkV m ≠ 0 then ([], false, chkV m) else if n < 0 ∨ n > 2048 then ([], false, 1) else ((outL (runB m.vSegs a n.toNat 0 [])).1, (outL (runB m.vSegs a n.toNat 0 [])).2, 0)) := by
  unfold image_Read.f
  rw [pCheck]
  simp only [Option.bind_some]
  by_cases hc : chkV m = 0
  · obtain ⟨hl, hO⟩ := okI_of hc
    rw [if_neg (c := chkV m ≠ 0) (fun h => h hc), if_neg (c := (chkV m != 0) = true) (by simp [hc])]
    by_cases hn : n < 0 ∨ n > 2048
    · rw [if_pos (by simpa using hn), if_pos hn]
    · obtain ⟨q, rfl⟩ : ∃ q : Nat, n = (q : Int) := ⟨n.toNat, by omega⟩
      rw [if_neg (by simpa using hn), if_neg hn, pRead hl hO ha (by omega) hk]
      rfl
  · rw [if_pos (by simp [hc]), if_pos hc]
/-- the law -/
theorem loads_ok {m b : api_Image} (hM : BytesOk m.vSegs) (hB : BytesOk b.vSegs) (hL : LensOk m.vSegs) {x : taplinelaw09_Asked} (ha : In64 x.vAt) : ∃ K, ∀ k, K ≤ k → taplinelaw09_ImageLoads.f k m b x = some true := by
  refine ⟨max 4097 (max m.vSegs.length (maxB m.vSegs) + 1), fun k hk => ?_⟩
  unfold taplinelaw09_ImageLoads.f
  simp only [taplinelaw09_sane.f, Option.bind_some]
  rw [rCheck m (by omega), pCheck]
  simp only [Option.bind_some, bne_self_eq_false, Bool.true_and, beq_self_eq_true, if_true, Bool.false_or]
  rw [pSame hL (by omega), rSame hM hB hL (by omega)]
  simp only [Option.bind_some, bne_self_eq_false, beq_self_eq_true, if_true]
  rw [pSame hL (by omega), sameL_refl]
  simp only [Option.bind_some, Bool.not_true, Bool.or_self, Bool.false_eq_true, if_false]
  rw [pLoadV hM ha x.vT (by omega), rLoadV hM ha x.vT (by omega)]
  simp only [Option.bind_some, loadedOf, bne_self_eq_false, Bool.or_self, Bool.false_eq_true, if_false]
  rw [pReadV ha (by omega)]
  simp only [Option.bind_some]
  by_cases hc : chkV m = 0
  · obtain ⟨hl, hO⟩ := okI_of hc
    rw [if_neg (c := chkV m ≠ 0) (fun h => h hc), hc]
    by_cases hn : x.vN < 0 ∨ x.vN > 2048
    · rw [if_pos hn, if_pos (by simpa using hn)]
      rfl
    · obtain ⟨q, hq⟩ : ∃ q : Nat, x.vN = (q : Int) := ⟨x.vN.toNat, by omega⟩
      rw [if_neg hn, if_neg (by simpa using hn), hq]
      simp only [Option.bind_some, bne_self_eq_false, Bool.false_eq_true, if_false]
      rw [rBytesAt hl hO ha (by omega) (by omega)]
      simp [strEq]
  · rw [if_pos (c := chkV m ≠ 0) hc, if_neg (by simp [hc])]
    simp [hc]
end Go.Proofs.YtecpbadkdpbkpaaGreatDoor
namespace Go.Proofs.YtecpbadkdpbkpaaGreatDoor
open Go.RowKit Go.M
def ctf_contained.l0 (a0 : api_Def) : Nat → Int → (List Int) → Option ((List Int))
  | 0, _, _ => none
  | m + 1, y1_0, y1_1 => if (decide (y1_0 < (a0.vFields.length : Int))) = true then (if 0 ≤ y1_0 ∧ y1_0 < a0.vFields.length then (if y1_1.length + 1 ≤ 4294967296 then (ctf_contained.l0 a0 m (IntKind.wrap .i64 (y1_0 + 1)) (y1_1 ++ ([(rd z_api_Field a0.vFields y1_0).vType] : List Int))) else none) else none) else (some y1_1)
def ctf_contained.f (k : Nat) (a0 : api_Def) : Option ((List Int)) := ((if (a0.vKind == 3) = true then (some (a0.vKind == 3)) else (some (a0.vKind == 6))) : Option (Bool)).bind fun xx1 => (if xx1 = true then (some ([a0.vRef] : List Int)) else (if (a0.vKind == 4) = true then ((ctf_contained.l0 a0 k 0 ([] : List Int)).bind fun xx2 => (some xx2)) else (some ([] : List Int))))

end Go.Proofs.YtecpbadkdpbkpaaGreatDoor
namespace Go.Proofs.YtecpbadkdpbkpaaGreatDoor
open Go.RowKit Go.M
def ctf_sizes_1.l0 (rec : Int → (List Int) → Bool → (List Bool) → (List api_Def) → Option (Int × (List Int) × Bool × (List Bool))) (x3 : List api_Def) (v1 : (List Int)) : Nat → Int → Int → Bool → (List Int) → (List Bool) → Option (Int × Bool × (List Int) × (List Bool))
  | 0, _, _, _, _, _ => none
  | m + 1, y1_0, y1_1, y1_2, y1_3, y1_4 => if (decide (y1_1 < (v1.length : Int))) = true then (if 0 ≤ y1_1 ∧ y1_1 < v1.length then ((rec (rd 0 v1 y1_1) y1_3 y1_2 y1_4 x3).bind fun v2 => (ctf_sizes_1.l0 rec x3 v1 m v2.1 (IntKind.wrap .i64 (y1_1 + 1)) v2.2.2.1 v2.2.1 v2.2.2.2)) else none) else (some (y1_0, y1_2, y1_3, y1_4))
def ctf_sizes_1.f : Nat → Int → (List Int) → Bool → (List Bool) → (List api_Def) → Option (Int × (List Int) × Bool × (List Bool))
  | 0, _, _, _, _, _ => none
  | k + 1, a0, x0, x1, x2, x3 => if 0 ≤ a0 ∧ a0 < ((x0.length : Nat) : Int) then (if ((decide ((rd 0 x0 a0) > 0)) || (!x1)) = true then (if 0 ≤ a0 ∧ a0 < ((x0.length : Nat) : Int) then (some ((rd 0 x0 a0), x0, x1, x2)) else none) else (if 0 ≤ a0 ∧ a0 < ((x2.length : Nat) : Int) then (if (rd false x2 a0) = true then (some (0, x0, false, x2)) else (if 0 ≤ a0 ∧ a0 < ((x2.length : Nat) : Int) then (if 0 ≤ a0 ∧ a0 < x3.length then ((ctf_contained.f k (rd z_api_Def x3 a0)).bind fun v1 => ((ctf_sizes_1.l0 (ctf_sizes_1.f k) x3 v1 k 0 0 x1 x0 (List.set x2 a0.toNat true)).bind fun xx1 => (if 0 ≤ a0 ∧ a0 < ((xx1.2.2.1.length : Nat) : Int) then (some (((mfind ieq (mput ieq (mput ieq (mput ieq (mput ieq (mput ieq (mput ieq ([] : List (Int × Int)) 1 ((rd z_api_Def x3 a0).vInt.vSize)) 2 8) 3 (IntKind.wrap .i64 ((rd z_api_Def x3 a0).vN * xx1.1))) 4 ((rd z_api_Def x3 a0).vN)) 5 4) 6 xx1.1) ((rd z_api_Def x3 a0).vKind)).getD 0), (List.set xx1.2.2.1 a0.toNat ((mfind ieq (mput ieq (mput ieq (mput ieq (mput ieq (mput ieq (mput ieq ([] : List (Int × Int)) 1 ((rd z_api_Def x3 a0).vInt.vSize)) 2 8) 3 (IntKind.wrap .i64 ((rd z_api_Def x3 a0).vN * xx1.1))) 4 ((rd z_api_Def x3 a0).vN)) 5 4) 6 xx1.1) ((rd z_api_Def x3 a0).vKind)).getD 0)), (xx1.2.1 && (decide (((mfind ieq (mput ieq (mput ieq (mput ieq (mput ieq (mput ieq (mput ieq ([] : List (Int × Int)) 1 ((rd z_api_Def x3 a0).vInt.vSize)) 2 8) 3 (IntKind.wrap .i64 ((rd z_api_Def x3 a0).vN * xx1.1))) 4 ((rd z_api_Def x3 a0).vN)) 5 4) 6 xx1.1) ((rd z_api_Def x3 a0).vKind)).getD 0) ≤ 512))), xx1.2.2.2)) else none))) else none) else none)) else none)) else none

end Go.Proofs.YtecpbadkdpbkpaaGreatDoor
namespace Go.Proofs.YtecpbadkdpbkpaaGreatDoor
open Go.RowKit Go.M
def ctf_sizes.l0 (k : Nat) (a0 : api_Types) : Nat → Int → Bool → (List Bool) → (List Int) → Option (Bool × (List Bool) × (List Int))
  | 0, _, _, _, _ => none
  | m + 1, y1_0, y1_1, y1_2, y1_3 => if (decide (y1_0 < (a0.vDefs.length : Int))) = true then ((ctf_sizes_1.f k y1_0 y1_3 y1_1 y1_2 a0.vDefs).bind fun v1 => (ctf_sizes.l0 k a0 m (IntKind.wrap .i64 (y1_0 + 1)) v1.2.2.1 v1.2.2.2 v1.2.1)) else (some (y1_1, y1_2, y1_3))
def ctf_sizes.f (k : Nat) (a0 : api_Types) : Option ((List Int) × Bool) := if 0 ≤ (a0.vDefs.length : Int) ∧ (a0.vDefs.length : Int) ≤ 4294967296 then (if 0 ≤ (a0.vDefs.length : Int) ∧ (a0.vDefs.length : Int) ≤ 4294967296 then ((ctf_sizes.l0 k a0 k 0 true (List.replicate (a0.vDefs.length : Int).toNat (false : Bool)) (List.replicate (a0.vDefs.length : Int).toNat (0 : Int))).bind fun xx1 => (some (xx1.2.2, xx1.1))) else none) else none

end Go.Proofs.YtecpbadkdpbkpaaGreatDoor
namespace Go.Proofs.YtecpbadkdpbkpaaGreatDoor
open Go.RowKit Go.M

end Go.Proofs.YtecpbadkdpbkpaaGreatDoor
namespace Go.Proofs.YtecpbadkdpbkpaaGreatDoor
open Go.RowKit Go.M

end Go.Proofs.YtecpbadkdpbkpaaGreatDoor
namespace Go.Proofs.YtecpbadkdpbkpaaGreatDoor
open Go.RowKit Go.M

end Go.Proofs.YtecpbadkdpbkpaaGreatDoor
namespace Go.Proofs.YtecpbadkdpbkpaaGreatDoor
open Go.RowKit Go.M

end Go.Proofs.YtecpbadkdpbkpaaGreatDoor
namespace Go.Proofs.YtecpbadkdpbkpaaGreatDoor
open Go.RowKit Go.M

end Go.Proofs.YtecpbadkdpbkpaaGreatDoor
namespace Go.Proofs.YtecpbadkdpbkpaaGreatDoor
open Go.RowKit Go.M

end Go.Proofs.YtecpbadkdpbkpaaGreatDoor
namespace Go.Proofs.YtecpbadkdpbkpaaGreatDoor
open Go.RowKit Go.M

end Go.Proofs.YtecpbadkdpbkpaaGreatDoor
namespace Go.Proofs.YtecpbadkdpbkpaaGreatDoor
open Go.RowKit Go.M

end Go.Proofs.YtecpbadkdpbkpaaGreatDoor
namespace Go.Proofs.YtecpbadkdpbkpaaGreatDoor
open Go.RowKit Go.M

end Go.Proofs.YtecpbadkdpbkpaaGreatDoor
namespace Go.Proofs.YtecpbadkdpbkpaaGreatDoor
open Go.RowKit Go.M

end Go.Proofs.YtecpbadkdpbkpaaGreatDoor
namespace Go.Proofs.YtecpbadkdpbkpaaGreatDoor
open Go.RowKit Go.M

end Go.Proofs.YtecpbadkdpbkpaaGreatDoor
namespace Go.Proofs.YtecpbadkdpbkpaaGreatDoor
open Go.RowKit Go.M

end Go.Proofs.YtecpbadkdpbkpaaGreatDoor
namespace Go.Proofs.YtecpbadkdpbkpaaGreatDoor
open Go.RowKit Go.M

end Go.Proofs.YtecpbadkdpbkpaaGreatDoor
namespace Go.Proofs.YtecpbadkdpbkpaaGreatDoor
open Go.RowKit Go.M

end Go.Proofs.YtecpbadkdpbkpaaGreatDoor
namespace Go.Proofs.YtecpbadkdpbkpaaGreatDoor
open Go.RowKit Go.M

end Go.Proofs.YtecpbadkdpbkpaaGreatDoor
namespace Go.Proofs.YtecpbadkdpbkpaaGreatDoor
open Go.RowKit Go.M

end Go.Proofs.YtecpbadkdpbkpaaGreatDoor
namespace Go.Proofs.YtecpbadkdpbkpaaGreatDoor
open Go.RowKit Go.M

end Go.Proofs.YtecpbadkdpbkpaaGreatDoor
namespace Go.Proofs.YtecpbadkdpbkpaaGreatDoor
open Go.RowKit Go.M

end Go.Proofs.YtecpbadkdpbkpaaGreatDoor
namespace Go.Proofs.YtecpbadkdpbkpaaGreatDoor
open Go.RowKit Go.M

end Go.Proofs.YtecpbadkdpbkpaaGreatDoor
namespace Go.Proofs.YtecpbadkdpbkpaaGreatDoor
open Go.RowKit Go.M

end Go.Proofs.YtecpbadkdpbkpaaGreatDoor
namespace Go.Proofs.YtecpbadkdpbkpaaGreatDoor
open Go.RowKit Go.M

end Go.Proofs.YtecpbadkdpbkpaaGreatDoor
namespace Go.Proofs.YtecpbadkdpbkpaaGreatDoor
open Go.RowKit Go.M

end Go.Proofs.YtecpbadkdpbkpaaGreatDoor
namespace Go.Proofs.YtecpbadkdpbkpaaGreatDoor
open Go.RowKit Go.M

end Go.Proofs.YtecpbadkdpbkpaaGreatDoor
namespace Go.Proofs.YtecpbadkdpbkpaaGreatDoor
open Go.RowKit Go.M

end Go.Proofs.YtecpbadkdpbkpaaGreatDoor
namespace Go.Proofs.YtecpbadkdpbkpaaGreatDoor
open Go.RowKit Go.M

end Go.Proofs.YtecpbadkdpbkpaaGreatDoor
namespace Go.Proofs.YtecpbadkdpbkpaaGreatDoor
open Go.RowKit Go.M

end Go.Proofs.YtecpbadkdpbkpaaGreatDoor
namespace Go.Proofs.YtecpbadkdpbkpaaGreatDoor
open Go.RowKit Go.M

end Go.Proofs.YtecpbadkdpbkpaaGreatDoor
namespace Go.Proofs.YtecpbadkdpbkpaaGreatDoor
open Go.RowKit Go.M

end Go.Proofs.YtecpbadkdpbkpaaGreatDoor
namespace Go.Proofs.YtecpbadkdpbkpaaGreatDoor
open Go.RowKit Go.M

end Go.Proofs.YtecpbadkdpbkpaaGreatDoor
namespace Go.Proofs.YtecpbadkdpbkpaaGreatDoor
open Go.RowKit Go.M

end Go.Proofs.YtecpbadkdpbkpaaGreatDoor
namespace Go.Proofs.YtecpbadkdpbkpaaGreatDoor
open Go.RowKit Go.M

end Go.Proofs.YtecpbadkdpbkpaaGreatDoor
namespace Go.Proofs.YtecpbadkdpbkpaaGreatDoor
open Go.RowKit Go.M

end Go.Proofs.YtecpbadkdpbkpaaGreatDoor
namespace Go.Proofs.YtecpbadkdpbkpaaGreatDoor
open Go.RowKit Go.M

end Go.Proofs.YtecpbadkdpbkpaaGreatDoor
namespace Go.Proofs.YtecpbadkdpbkpaaGreatDoor
open Go.RowKit Go.M

end Go.Proofs.YtecpbadkdpbkpaaGreatDoor
namespace Go.Proofs.YtecpbadkdpbkpaaGreatDoor
open Go.RowKit Go.M

end Go.Proofs.YtecpbadkdpbkpaaGreatDoor
namespace Go.Proofs.YtecpbadkdpbkpaaGreatDoor
open Go.RowKit Go.M

end Go.Proofs.YtecpbadkdpbkpaaGreatDoor
/- the functions that the plain laws speak of -/
/- Plain laws: what holds from some number of rounds on; wrapped numbers; lists that are read by an index. -/
namespace Go.Proofs.YtecpbadkdpbkpaaGreatDoor
open Go.RowKit Go.M
end Go.Proofs.YtecpbadkdpbkpaaGreatDoor
/- Plain laws: names, what a definition contains, shaped definitions. -/
namespace Go.Proofs.YtecpbadkdpbkpaaGreatDoor
open Go.RowKit Go.M
/-- is this byte one of a name, at this place? -/
def okByte (i : Nat) (c : Int) : Bool := ((decide (c ≥ 97) && decide (c ≤ 122)) || (decide (c ≥ 65) && decide (c ≤ 90)) || (c == 95)) || (!(i == 0) && decide (c ≥ 48) && decide (c ≤ 57))
def okFrom : Nat → List Int → Bool
  | _, [] => true
  | i, c :: r => okByte i c && okFrom (i + 1) r
def nameS (s : ByteArray) : Bool := okFrom 0 (bytesOf s) && !(strEq s ByteArray.empty) && decide ((s.size : Int) ≤ 31)

/-! ### what a definition contains -/
def cont (d : api_Def) : List Int := if d.vKind == 3 || d.vKind == 6 then [d.vRef] else if d.vKind == 4 then d.vFields.map (·.vType) else []

/-! ### shapes -/
def shp (k : Int) : Option ctf_shape :=
  if k = 1 then some ⟨true, true, false, false, false⟩ else if k = 2 then some ⟨false, false, true, false, false⟩ else if k = 3 then some ⟨false, false, true, true, false⟩
  else if k = 4 then some ⟨true, false, false, true, true⟩ else if k = 5 then some ⟨true, false, false, false, true⟩ else if k = 6 then some ⟨true, false, true, false, false⟩ else none
/-! ### a list of names that were seen -/
def SeenOk (m : List (ByteArray × Bool)) (ns : List ByteArray) : Prop := ∀ s, (mfind strEq m s).getD false = ns.any (strEq s)
theorem SeenOk.nil : SeenOk [] [] := fun s => rfl
theorem strEq_comm (a b : ByteArray) : strEq a b = strEq b a := by
  cases h : strEq a b with
  | true => rw [strEq_iff] at h; subst h; exact (strEq_iff.2 rfl).symm
  | false =>
    cases h2 : strEq b a with
    | false => rfl
    | true => rw [strEq_iff] at h2; subst h2; rw [strEq_iff.2 rfl] at h; cases h
theorem mfind_mput (m : List (ByteArray × Bool)) (k s : ByteArray) (v : Bool) : mfind strEq (mput strEq m k v) s = if strEq s k = true then some v else mfind strEq m s := by
  induction m with
  | nil => simp [mput, mfind]
  | cons p m ih =>
    simp only [mput]
    by_cases hk : strEq k p.1 = true
    · rw [if_pos hk]
      have := strEq_iff.1 hk
      simp only [mfind]
      by_cases hs : strEq s k = true
      · rw [if_pos hs, if_pos hs]
      · rw [if_neg hs, if_neg hs, if_neg (by rw [← this]; exact hs)]
    · rw [if_neg hk]
      simp only [mfind]
      by_cases hs : strEq s p.1 = true
      · rw [if_pos hs]
        have h1 := strEq_iff.1 hs
        subst h1
        rw [if_neg (by rw [strEq_comm]; exact hk), if_pos (strEq_iff.2 rfl)]
      · rw [if_neg hs, ih]
        by_cases hsk : strEq s k = true
        · rw [if_pos hsk, if_pos hsk]
        · rw [if_neg hsk, if_neg hsk, if_neg hs]
theorem SeenOk.put {m : List (ByteArray × Bool)} {ns : List ByteArray} (h : SeenOk m ns) (k : ByteArray) : SeenOk (mput strEq m k true) (k :: ns) := fun s => by
  rw [mfind_mput, List.any_cons]
  by_cases hs : strEq s k = true
  · rw [if_pos hs, hs]; rfl
  · rw [if_neg hs, h s]
    have : strEq s k = false := by simpa using hs
    rw [this]; rfl
/-- the fields of a definition, the names ahead given -/
def fieldOk (d : api_Def) (n : Int) (f : api_Field) : Bool :=
  !(((d.vKind == 5) && (((f.vType != 0) || decide (f.vAt < (-2147483648))) || decide (f.vAt > 2147483647))) || ((d.vKind == 4) && (decide (f.vType < 0) || decide (f.vType ≥ n))))
def fieldsS (d : api_Def) (n : Int) : List ByteArray → List api_Field → Bool
  | _, [] => true
  | ns, f :: r => nameS f.vName && !(ns.any (strEq f.vName)) && fieldOk d n f && fieldsS d n (f.vName :: ns) r
/-- a shaped definition, of n -/
def shapedS (d : api_Def) (n : Int) : Bool :=
  match shp d.vKind with
  | none => false
  | some s => (if s.vname = true then nameS d.vName else strEq d.vName ByteArray.empty) && (if s.vint = true then okI d.vInt else ((d.vInt.vSize == 0) && (d.vInt.vSigned == false))) &&
      (if s.vref = true then (decide (0 ≤ d.vRef) && decide (d.vRef < n)) else (d.vRef == 0)) && (if s.vn = true then (decide (1 ≤ d.vN) && decide (d.vN ≤ 512)) else (d.vN == 0)) &&
      (s.vfields == decide (0 < d.vFields.length)) && decide (d.vFields.length ≤ 32) && fieldsS d n [] d.vFields
end Go.Proofs.YtecpbadkdpbkpaaGreatDoor
/- Plain laws: sizes. -/
namespace Go.Proofs.YtecpbadkdpbkpaaGreatDoor
open Go.RowKit Go.M
/-- the size of a definition, the size of what it contains given -/
def nval (d : api_Def) (inner : Int) : Int :=
  if d.vKind = 1 then d.vInt.vSize else if d.vKind = 2 then 8 else if d.vKind = 3 then IntKind.wrap .i64 (d.vN * inner) else if d.vKind = 4 then d.vN else if d.vKind = 5 then 4 else if d.vKind = 6 then inner else 0
/-- what sizes need of a definition -/
structure ShD (d : api_Def) (n : Nat) : Prop where
  kind : 1 ≤ d.vKind ∧ d.vKind ≤ 6
  ref : d.vKind = 2 ∨ d.vKind = 3 ∨ d.vKind = 6 → 0 ≤ d.vRef ∧ d.vRef < n
  num : d.vKind = 3 ∨ d.vKind = 4 → 1 ≤ d.vN ∧ d.vN ≤ 512
  int : d.vKind = 1 → d.vInt.vSize = 1 ∨ d.vInt.vSize = 2 ∨ d.vInt.vSize = 4 ∨ d.vInt.vSize = 8
  few : d.vFields.length ≤ 32
  typ : d.vKind = 4 → ∀ f ∈ d.vFields, 0 ≤ f.vType ∧ f.vType < n
  names : (d.vFields.map (·.vName)).Nodup

/-! ### how many are not begun -/
def cnt (l : List Bool) : Nat := (l.filter fun b => !b).length

section
variable (defs : List api_Def)
def inner (out : List Int) (d : api_Def) : Int := (cont d).foldl (fun _ c => out.getD c.toNat 0) 0
/-- what is known of the sizes that are there: in some order each is made of those ahead -/
def Jn (out : List Int) : Prop := ∃ (rk : Nat → Nat) (B : Nat), ∀ j, j < defs.length → 0 < out.getD j 0 →
  rk j < B ∧ out.getD j 0 ≤ 512 ∧ (∀ c ∈ cont (defs.getD j z_api_Def), 0 < out.getD c.toNat 0 ∧ rk c.toNat < rk j) ∧ out.getD j 0 = nval (defs.getD j z_api_Def) (inner out (defs.getD j z_api_Def))
structure Post (out : List Int) (ok : Bool) (bg : List Bool) (out' : List Int) (ok' : Bool) (bg' : List Bool) : Prop where
  lo : out'.length = defs.length
  lb : bg'.length = defs.length
  bgm : ∀ j, bg.getD j false = true → bg'.getD j false = true
  okm : ok' = true → ok = true
  keep : ok' = true → ∀ j, 0 < out.getD j 0 → out'.getD j 0 = out.getD j 0
  stack : ok' = true → ∀ j, bg.getD j false = true → out.getD j 0 ≤ 0 → out'.getD j 0 ≤ 0
  jn : ok' = true → Jn defs out → Jn defs out'
variable {defs}
theorem Post.rfl' {out : List Int} {ok : Bool} {bg : List Bool} (h1 : out.length = defs.length) (h2 : bg.length = defs.length) : Post defs out ok bg out ok bg :=
  ⟨h1, h2, fun _ h => h, fun h => h, fun _ _ _ => rfl, fun _ _ _ h => h, fun _ h => h⟩
theorem Post.trans {o1 o2 o3 : List Int} {k1 k2 k3 : Bool} {b1 b2 b3 : List Bool} (h : Post defs o1 k1 b1 o2 k2 b2) (g : Post defs o2 k2 b2 o3 k3 b3) : Post defs o1 k1 b1 o3 k3 b3 := by
  refine ⟨g.lo, g.lb, fun j hj => g.bgm j (h.bgm j hj), fun hk => h.okm (g.okm hk), fun hk j hj => ?_, fun hk j hb ho => ?_, fun hk hJ => g.jn hk (h.jn (g.okm hk) hJ)⟩
  · have := h.keep (g.okm hk) j hj
    rw [g.keep hk j (by rw [this]; exact hj), this]
  · exact g.stack hk j (h.bgm j hb) (h.stack (g.okm hk) j hb ho)
/-- a call comes to something -/
def CallT (i : Nat) (out : List Int) (ok : Bool) (bg : List Bool) : Prop := ∃ r out' ok' bg', Ev (fun k => ctf_sizes_1.f k (i : Int) out ok bg defs) (r, out', ok', bg') ∧ Post defs out ok bg out' ok' bg' ∧ (ok' = true → Jn defs out → 0 < r ∧ r = out'.getD i 0)
end
theorem Jn.zero {defs : List api_Def} {n : Nat} : Jn defs (List.replicate n 0) := ⟨fun _ => 0, 0, fun j hj h => by
  exfalso
  rw [List.getD_eq_getElem?_getD, List.getElem?_replicate] at h
  split at h <;> simp at h⟩
end Go.Proofs.YtecpbadkdpbkpaaGreatDoor
/- Plain laws: well-formed type data. -/
namespace Go.Proofs.YtecpbadkdpbkpaaGreatDoor
open Go.RowKit Go.M
/-- where the members end, if they stand in order -/
def placedAt (l : List Int) : Int → List api_Field → Option Int
  | at_, [] => some at_
  | at_, f :: r => if ((decide (f.vAt < at_)) || (decide (f.vAt > 512))) = true then none else placedAt l (IntKind.wrap .i64 (f.vAt + rd 0 l f.vType)) r
def placedS (d : api_Def) (l : List Int) : Bool := match placedAt l 0 d.vFields with | none => false | some e => decide (e ≤ d.vN)
def namedS (d : api_Def) : Bool := (d.vKind != 2) && (d.vKind != 3)
/-- following anonymous definitions so often does not lead to a named one -/
def lostS (defs : List api_Def) : Nat → api_Def → Bool
  | 0, d => !namedS d
  | m + 1, d => if namedS d = true then false else lostS defs m (rd z_api_Def defs d.vRef)
def defsS (n : Nat) : List ByteArray → List api_Def → Bool
  | _, [] => true
  | ns, d :: r => shapedS d (n : Int) && !(namedS d && ns.any (strEq d.vName)) && defsS n (d.vName :: ns) r
/-- the lengths that memory has -/
structure FitD (d : api_Def) : Prop where
  name : d.vName.size ≤ 9223372036854775807
  len : d.vFields.length ≤ 9223372036854775807
  names : ∀ f ∈ d.vFields, f.vName.size ≤ 9223372036854775807
/-- what is known of well-formed type data -/
structure GoodT (t : api_Types) (l : List Int) : Prop where
  few : t.vDefs.length ≤ 200
  sh : ∀ d ∈ t.vDefs, ShD d t.vDefs.length
  sizes : Ev (fun k => ctf_sizes.f k t) (l, true)
  len : l.length = t.vDefs.length
  jn : Jn t.vDefs l
  pos : ∀ q, q < t.vDefs.length → 0 < l.getD q 0
  ends : ∀ d ∈ t.vDefs, lostS t.vDefs t.vDefs.length d = false
  placed : ∀ d ∈ t.vDefs, d.vKind = 4 → placedS d l = true
  defs : defsS t.vDefs.length [] t.vDefs = true
end Go.Proofs.YtecpbadkdpbkpaaGreatDoor
/- The laws' arguments as they lie in memory: type data, values that are laid out, images. -/
namespace Go.Proofs.YtecpbadkdpbkpaaGreatDoor
open Go.ChangeShapes Go.WideShapes Go.ChangeAt Go.RowKit Go.M
set_option maxRecDepth 100000
section
variable {H : Type} {enc : TypeId × Value → H} {W : World}
theorem op29 : Opn enc Tryz.prog W 29 k_api_Int (fun _ => True) :=
  (op_iso (fun p => (⟨p.1, p.2⟩ : api_Int)) (fun _ => rfl) (op_struct Tryz.underlying29 (by kernel_rfl) (opf_cons op3 rfl (opf_one op4 rfl)))).weak fun _ _ => trivial
theorem op30 : Opn enc Tryz.prog W 30 (Kd.slice Kd.str) (fun xs => xs.length ≤ maxLen ∧ ∀ s ∈ xs, s.size ≤ maxLen) := op_slice op9 Tryz.underlying30 (by kernel_rfl)
end
end Go.Proofs.YtecpbadkdpbkpaaGreatDoor
/- The laws' arguments as they lie in memory: images, and what is asked of them. -/
namespace Go.Proofs.YtecpbadkdpbkpaaGreatDoor
open Go.ChangeShapes Go.WideShapes Go.ChangeAt Go.RowKit Go.M
set_option maxRecDepth 100000
section
variable {H : Type} {enc : TypeId × Value → H} {W : World}
theorem wf8 {n : Int} (h : (Lit.int .u8 n).wf = true) : 0 ≤ n ∧ n ≤ 255 := by
  simp [Lit.wf, IntKind.min, IntKind.max, IntKind.bits, IntKind.signed] at h
  omega
theorem op5 : Opn enc Tryz.prog W 5 (Kd.int .u8) (fun n => (Lit.int .u8 n).wf = true) := op_int Tryz.underlying5 (by kernel_rfl)
theorem op58 : Opn enc Tryz.prog W 58 k_api_Segment (fun s => s.vBytes.length ≤ 9223372036854775807 ∧ Byt s.vBytes) :=
  (op_iso (fun p => (⟨p.1, p.2⟩ : api_Segment)) (fun _ => rfl) (op_struct Tryz.underlying58 (by kernel_rfl) (opf_cons op2 rfl (opf_one (op_slice op5 Tryz.underlying42 (by kernel_rfl)) rfl)))).weak fun _ h => ⟨max63 h.2.1, fun b hb => wf8 (h.2.2 b hb)⟩
theorem op27 : Opn enc Tryz.prog W 27 k_api_Image (fun m => BytesOk m.vSegs ∧ m.vSegs.length ≤ 9223372036854775807 ∧ ∀ s ∈ m.vSegs, s.vBytes.length ≤ 9223372036854775807) :=
  (op_iso (fun p => (⟨p⟩ : api_Image)) (fun _ => rfl) (op_struct Tryz.underlying27 (by kernel_rfl) (opf_one (op_slice op58 Tryz.underlying25 (by kernel_rfl)) rfl))).weak fun _ h => ⟨fun s hs => (h.2 s hs).2, max63 h.1, fun s hs => (h.2 s hs).1⟩
theorem op32 : Opn enc Tryz.prog W 32 k_taplinelaw09_Asked (fun x => (-9223372036854775808 ≤ x.vAt ∧ x.vAt ≤ 9223372036854775807) ∧ -9223372036854775808 ≤ x.vN ∧ x.vN ≤ 9223372036854775807) :=
  (op_iso (fun p => (⟨p.1, p.2.1, p.2.2.1, p.2.2.2.1, p.2.2.2.2⟩ : taplinelaw09_Asked)) (fun _ => rfl) (op_struct Tryz.underlying32 (by kernel_rfl)
    (opf_cons op2 rfl (opf_cons op3 rfl (opf_cons op29 rfl (opf_cons op9 rfl (opf_one op30 rfl))))))).weak fun _ h => ⟨wf64 h.1, wf64 h.2.1⟩
/-- an image, handed in -/
theorem arg27 {b : Nat} {v : Value} {d : DataW H} {p : List MemPlace} (hval : Value.okWide Tryz.prog W .any b 27 v) (h : DataW.Trod enc Tryz.prog W 0 (fun _ => true) true 27 v d p) :
    ∃ (m : api_Image) (A : Option Addr) (c : Nat), v = .agg #[.slice A m.vSegs.length c] ∧ Rd k_api_Segment (vw W) A m.vSegs ∧ m.vSegs.length ≤ c ∧ BytesOk m.vSegs ∧ m.vSegs.length ≤ 9223372036854775807 ∧ ∀ s ∈ m.vSegs, s.vBytes.length ≤ 9223372036854775807 := by
  obtain ⟨cs, rfl, _⟩ := okWide_struct Tryz.underlying27 hval
  obtain ⟨fuel, hf⟩ := h
  obtain ⟨m, ⟨A, c, hcs, hc, hr⟩, hF⟩ := op27.open_ _ _ _ hf
  refine ⟨m, A, c, ?_, hr, hc, hF⟩
  have : cs.toList = [.slice A m.vSegs.length c] := hcs
  rw [← Array.toArray_toList (xs := cs), this]
/-- what is asked, handed in -/
theorem arg32 {b : Nat} {v : Value} {d : DataW H} {p : List MemPlace} (hval : Value.okWide Tryz.prog W .any b 32 v) (h : DataW.Trod enc Tryz.prog W 0 (fun _ => true) true 32 v d p) :
    ∃ (x : taplinelaw09_Asked) (A : Option Addr) (c : Nat), v = .agg #[.int .i64 x.vAt, .int .i64 x.vN, .int .i64 x.vT.vSize, .bool x.vT.vSigned, .string x.vName, .slice A x.vPath.length c] ∧ Rd Kd.str (vw W) A x.vPath ∧ x.vPath.length ≤ c ∧
      (-9223372036854775808 ≤ x.vAt ∧ x.vAt ≤ 9223372036854775807) ∧ -9223372036854775808 ≤ x.vN ∧ x.vN ≤ 9223372036854775807 := by
  obtain ⟨cs, rfl, _⟩ := okWide_struct Tryz.underlying32 hval
  obtain ⟨fuel, hf⟩ := h
  obtain ⟨x, hK, hF⟩ := op32.open_ _ _ _ hf
  obtain ⟨_, _, e1, rfl, ⟨_, _, rfl, rfl, ⟨_, _, rfl, ⟨_, _, rfl, rfl, rfl⟩, ⟨_, _, rfl, rfl, ⟨A, c, rfl, hc, hr⟩⟩⟩⟩⟩ := hK
  refine ⟨x, A, c, ?_, hr, hc, hF⟩
  have : cs.toList = [.int .i64 x.vAt, .int .i64 x.vN, .int .i64 x.vT.vSize, .bool x.vT.vSigned, .string x.vName, .slice A x.vPath.length c] := e1
  rw [← Array.toArray_toList (xs := cs), this]
end
end Go.Proofs.YtecpbadkdpbkpaaGreatDoor
