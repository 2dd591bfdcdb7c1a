/- Parts of a proof, merged by program: F19 F101 F54 F21 F55 F22 F102 F56 F23 F57 F24 F58 F25 F26 F27 F4 Q8 Q9 Q10 Q11 Q12. The walks (each function once) and the plain laws; no condition of their own. -/
import Derived.Test.YtfjppgobidjndaaDoorLok4
set_option linter.unusedVariables false
set_option linter.unusedSimpArgs false
namespace Go.Proofs.YtfjppgobidjndaaDoor
open Go.RowKit Go.M
def taplineref08_Check.l1 (a0:api_Types) (y1_0:Int):Nat→Int→Option ((Int)⊕(Unit))
 |0,_=>none
 |m+1,y2_0=>if (decide (y2_0<y1_0))=true then (if 0≤y1_0∧y1_0<a0.vDefs.length then ((taplineref08_Named.f (rd z_api_Def a0.vDefs y1_0)).bind fun v2=>(if (true&&(v2==true))=true→(0≤y2_0∧y2_0<a0.vDefs.length) then (if (true&&(v2==true))=true→(0≤y1_0∧y1_0<a0.vDefs.length) then (if (v2&&(strEq ((rd z_api_Def a0.vDefs y2_0).vName) ((rd z_api_Def a0.vDefs y1_0).vName)))=true then (some (.inl 80)) else (taplineref08_Check.l1 a0 y1_0 m (IntKind.wrap .i64 (y2_0+1)))) else none) else none)) else none) else (some (.inr ()))
def taplineref08_Check.l0 (k:Nat) (a0:api_Types):Nat→Int→Option ((Int)⊕(Unit))
 |0,_=>none
 |m+1,y1_0=>if (decide (y1_0<(a0.vDefs.length:Int)))=true then (if 0≤y1_0∧y1_0<a0.vDefs.length then ((taplineref08_shaped.f k a0 (rd z_api_Def a0.vDefs y1_0)).bind fun v1=>(if (!v1)=true then (some (.inl 80)) else ((taplineref08_Check.l1 a0 y1_0 k 0).bind fun xx2=>(match xx2 with| .inl r=>some (.inl r)| .inr s1=>taplineref08_Check.l0 k a0 m (IntKind.wrap .i64 (y1_0+1)))))) else none) else (some (.inr ()))
def taplineref08_Check.l2 (k:Nat) (a0:api_Types) (v3:(List Int)):Nat→Int→Option ((Int)⊕(Unit))
 |0,_=>none
 |m+1,y3_0=>if (decide (y3_0<(a0.vDefs.length:Int)))=true then (if 0≤y3_0∧y3_0<v3.length then (if (true&&(((rd 0 v3 y3_0)==0)==false))=true→(0≤y3_0∧y3_0<v3.length) then ((if (true&&((((rd 0 v3 y3_0)==0)||(decide ((rd 0 v3 y3_0)>512)))==false))=true then taplineref08_ends.f k a0 y3_0 else some false).bind fun v4=>(if ((((rd 0 v3 y3_0)==0)||(decide ((rd 0 v3 y3_0)>512)))||(!v4))=true then (some (.inl 80)) else (if 0≤y3_0∧y3_0<a0.vDefs.length then (if (true&&(((rd z_api_Def a0.vDefs y3_0).vKind==4)==true))=true→(0≤y3_0∧y3_0<a0.vDefs.length) then ((if (true&&(((rd z_api_Def a0.vDefs y3_0).vKind==4)==true))=true then taplineref08_placed.f k (rd z_api_Def a0.vDefs y3_0) v3 else some false).bind fun v5=>(if (((rd z_api_Def a0.vDefs y3_0).vKind==4)&&(!v5))=true then (some (.inl 80)) else (taplineref08_Check.l2 k a0 v3 m (IntKind.wrap .i64 (y3_0+1))))) else none) else none))) else none) else none) else (some (.inr ()))
def taplineref08_Check.f (k:Nat) (a0:api_Types):Option (Int):=if (decide ((a0.vDefs.length:Int)>200))=true then (some 80) else ((taplineref08_Check.l0 k a0 k 0).bind fun xx1=>(match xx1 with| .inl r=>some r| .inr s2=>(taplineref08_sizes.f k a0).bind fun v3=>((taplineref08_Check.l2 k a0 v3 k 0).bind fun xx3=>(match xx3 with| .inl r=>some r| .inr s3=>some 0))))
set_option maxRecDepth 20000 in
set_option maxHeartbeats 4000000 in
theorem taplineref08_Check.calls (k:Nat) (a0:api_Types) (A0_0:Option Addr) (c0_0:Nat) {h0:View} {w0:World} (hv:Sees h0 w0) (hr0_0:Rd k_api_Def h0 A0_0 a0.vDefs) (hc0_0:a0.vDefs.length≤c0_0) {r:Int} (H:taplineref08_Check.f k a0=some r):Calls Tryd.prog 19 #[Value.agg #[vL A0_0 a0.vDefs.length c0_0]] w0 (fun e w1=>e= .returned (vI r)∧Ext w0 w1):=by
 unfold taplineref08_Check.f at H
 have HS:St [] h0 w0 h0 [] w0:=St.init hv
 go_enter Tryd.func19,Tryd.ntmps19
 refine wp_seq ?_
 refine region ?_
 refine run_ex rfl rfl (does_box (cs:=#[vL A0_0 a0.vDefs.length c0_0]) rfl rfl) ?_
 rintro w1 _ hE1 ⟨b1,rfl,ge1,hb1⟩
 have HS1:=HS.new hE1 ge1 hb1
 refine rs (vI 0) (r_assign rfl) ?_
 try simp only [sc0,sc1]
 refine run_nil ?_
 refine norm_then ?_
 refine wp_seq ?_
 refine wp_seq ?_
 refine region ?_
 refine rs (vP b1 0) (r_fieldBox (n:=1) (o':=0) rfl Tryd.runUnderlying24 rfl Tryd.sizeOf22 (by decide) rfl) ?_
 refine rs (vL A0_0 a0.vDefs.length c0_0) (r_loadBox rfl Tryd.isAgg22 (HS1.look 0 rfl) rfl) ?_
 refine rs (vI (a0.vDefs.length:Int)) (r_len rfl Tryd.runUnderlying22) ?_
 refine rs (vB (decide ((a0.vDefs.length:Int)>200))) (r_bin rfl rfl rfl) ?_
 try simp only [sc0,sc1]
 refine run_nil ?_
 refine norm_then ?_
 refine wp_cond_split (t:=(decide ((a0.vDefs.length:Int)>200))) rfl (fun c1=>?_) (fun c1=>?_)
 ·replace H:=of_pos H c1
  refine wp_seq ?_
  refine region ?_
  refine rs (vI 80) (r_assign rfl) ?_
  try simp only [sc0,sc1]
  refine run_nil ?_
  refine norm_then ?_
  refine wp_ret ?_
  refine ret_then ?_
  obtain rfl:=Option.some.inj H
  refine bodyPost_ret (results_1 rfl (one_tmp rfl)) rfl ?_
  exact ⟨rfl,HS1.toE⟩
 ·replace H:=of_neg H (nt c1)
  refine wp_skip ?_
  refine norm_then ?_
  refine wp_seq ?_
  refine wp_seq ?_
  refine region ?_
  refine rs (vI 0) (r_assign rfl) ?_
  try simp only [sc0,sc1]
  refine run_nil ?_
  refine norm_then ?_
  obtain ⟨xx1,H,G1⟩:=of_bind H
  refine loop_patch [2,3,4,11,12,13,14,15,16,17,18,19,20,21,22,23,24,25,26,27,28,29,30,31,32,33,34,35,36,37,38,39,40,41,42,43,44,45,46,47,48,49,50,51] (fun m us w'=>∃y1_0:Int,∃uy1_2 uy1_4 uy1_11 uy1_12 uy1_13 uy1_14 uy1_15 uy1_16 uy1_17 uy1_18 uy1_19 uy1_20 uy1_21 uy1_22 uy1_23 uy1_24 uy1_25 uy1_26 uy1_27 uy1_28 uy1_29 uy1_30 uy1_31 uy1_32 uy1_33 uy1_34 uy1_35 uy1_36 uy1_37 uy1_38 uy1_39 uy1_40 uy1_41 uy1_42 uy1_43 uy1_44 uy1_45 uy1_46 uy1_47 uy1_48 uy1_49 uy1_50 uy1_51:Value,us=[uy1_2,vI y1_0,uy1_4,uy1_11,uy1_12,uy1_13,uy1_14,uy1_15,uy1_16,uy1_17,uy1_18,uy1_19,uy1_20,uy1_21,uy1_22,uy1_23,uy1_24,uy1_25,uy1_26,uy1_27,uy1_28,uy1_29,uy1_30,uy1_31,uy1_32,uy1_33,uy1_34,uy1_35,uy1_36,uy1_37,uy1_38,uy1_39,uy1_40,uy1_41,uy1_42,uy1_43,uy1_44,uy1_45,uy1_46,uy1_47,uy1_48,uy1_49,uy1_50,uy1_51]∧taplineref08_Check.l0 k a0 m y1_0=some xx1∧St [] h0 w0 h0 [(some b1, .cells #[vL A0_0 a0.vDefs.length c0_0] 24 (0,0))] w') (fun us w'=>∃(s2:Unit),xx1= .inr s2∧∃uo2_2 uo2_3 uo2_4 uo2_11 uo2_12 uo2_13 uo2_14 uo2_15 uo2_16 uo2_17 uo2_18 uo2_19 uo2_20 uo2_21 uo2_22 uo2_23 uo2_24 uo2_25 uo2_26 uo2_27 uo2_28 uo2_29 uo2_30 uo2_31 uo2_32 uo2_33 uo2_34 uo2_35 uo2_36 uo2_37 uo2_38 uo2_39 uo2_40 uo2_41 uo2_42 uo2_43 uo2_44 uo2_45 uo2_46 uo2_47 uo2_48 uo2_49 uo2_50 uo2_51:Value,us=[uo2_2,uo2_3,uo2_4,uo2_11,uo2_12,uo2_13,uo2_14,uo2_15,uo2_16,uo2_17,uo2_18,uo2_19,uo2_20,uo2_21,uo2_22,uo2_23,uo2_24,uo2_25,uo2_26,uo2_27,uo2_28,uo2_29,uo2_30,uo2_31,uo2_32,uo2_33,uo2_34,uo2_35,uo2_36,uo2_37,uo2_38,uo2_39,uo2_40,uo2_41,uo2_42,uo2_43,uo2_44,uo2_45,uo2_46,uo2_47,uo2_48,uo2_49,uo2_50,uo2_51]∧St [] h0 w0 h0 [(some b1, .cells #[vL A0_0 a0.vDefs.length c0_0] 24 (0,0))] w') k [vI 0,vI 0,undef,undef,undef,undef,undef,undef,undef,undef,undef,undef,undef,undef,undef,undef,undef,undef,undef,undef,undef,undef,undef,undef,undef,undef,undef,undef,undef,undef,undef,undef,undef,undef,undef,undef,undef,undef,undef,undef,undef,undef,undef,undef] (by simp only [patch,sc0,sc1]) ⟨0,_,_,_,_,_,_,_,_,_,_,_,_,_,_,_,_,_,_,_,_,_,_,_,_,_,_,_,_,_,_,_,_,_,_,_,_,_,_,_,_,_,_,_,rfl,H,HS1⟩ ?_ ?_
  ·rintro m us w2 ⟨y1_0,uy1_2,uy1_4,uy1_11,uy1_12,uy1_13,uy1_14,uy1_15,uy1_16,uy1_17,uy1_18,uy1_19,uy1_20,uy1_21,uy1_22,uy1_23,uy1_24,uy1_25,uy1_26,uy1_27,uy1_28,uy1_29,uy1_30,uy1_31,uy1_32,uy1_33,uy1_34,uy1_35,uy1_36,uy1_37,uy1_38,uy1_39,uy1_40,uy1_41,uy1_42,uy1_43,uy1_44,uy1_45,uy1_46,uy1_47,uy1_48,uy1_49,uy1_50,uy1_51,rfl,H,HS2⟩
   cases m with
   |zero=>exact absurd H (by simp [taplineref08_Check.l0])
   |succ m=>
    rw [taplineref08_Check.l0] at H
    try simp only [patch,sc0,sc1]
    refine wp_seq ?_
    refine wp_seq ?_
    refine region ?_
    refine rs (vI y1_0) (r_move rfl) ?_
    refine rs (vP b1 0) (r_fieldBox (n:=1) (o':=0) rfl Tryd.runUnderlying24 rfl Tryd.sizeOf22 (by decide) rfl) ?_
    refine rs (vL A0_0 a0.vDefs.length c0_0) (r_loadBox rfl Tryd.isAgg22 (HS2.look 0 rfl) rfl) ?_
    refine rs (vI (a0.vDefs.length:Int)) (r_len rfl Tryd.runUnderlying22) ?_
    refine run_frame (by simp only [sc0,sc1];rfl) ?_
    refine rs (vB (decide (y1_0<(a0.vDefs.length:Int)))) (r_bin rfl rfl rfl) ?_
    try simp only [sc0,sc1]
    refine run_nil ?_
    refine norm_then ?_
    refine wp_cond_split (t:=(decide (y1_0<(a0.vDefs.length:Int)))) rfl (fun c2=>?_) (fun c2=>?_)
    ·replace H:=of_pos H c2
     refine wp_skip ?_
     refine norm_then ?_
     refine wp_seq ?_
     refine wp_block ?_
     refine wp_seq ?_
     refine wp_seq ?_
     obtain ⟨hi1,H⟩:=of_ite H
     obtain ⟨ad1,Aad1_6,cad1_6,e1,hel1,hcad1_6,hrad1_6⟩:=ld_api_Def hr0_0 hi1.1 hi1.2
     obtain ⟨v1,H1,H⟩:=of_bind H
     refine drawn [.eq (Value.agg #[vL A0_0 a0.vDefs.length c0_0]), .eq (vP b1 0), .eq (vL A0_0 a0.vDefs.length c0_0), .eq (vI y1_0), .eq (Value.pointer (some (Addr.add ad1 (y1_0.toNat*7)))), .eq (Value.agg #[vI ((rd z_api_Def a0.vDefs y1_0).vKind),vS ((rd z_api_Def a0.vDefs y1_0).vName),vI ((rd z_api_Def a0.vDefs y1_0).vInt.vSize),vB ((rd z_api_Def a0.vDefs y1_0).vInt.vSigned),vI ((rd z_api_Def a0.vDefs y1_0).vRef),vI ((rd z_api_Def a0.vDefs y1_0).vN),vL Aad1_6 ((rd z_api_Def a0.vDefs y1_0).vFields).length cad1_6]), .eq (vB v1), .eq (vB (!v1))] [18,19,20,21,22,23,24,25] hmix (by kernel_rfl) rfl (stable_eq (stable_eq (stable_eq (stable_eq (stable_eq (stable_eq (stable_eq (stable_eq stable_nil)))))))) ⟨ob_plain rfl (fun a' w' hE hk=>by have HSd:=HS2.step hE;exact does_eq (r_loadBoxAgg (n:=1) (vs:=[vL A0_0 a0.vDefs.length c0_0]) (show _=vP b1 0 from hk 1 rfl) Tryd.isAgg24 (HSd.look 0 rfl) Tryd.sizeOf24 rfl rfl)),ob_plain rfl (fun a' w' hE hk=>by have HSd:=HS2.step hE;exact does_eq (r_fieldBox (n:=1) (o':=0) (show _=vP b1 0 from hk 1 rfl) Tryd.runUnderlying24 rfl Tryd.sizeOf22 (by decide) rfl)),ob_plain rfl (fun a' w' hE hk=>by have HSd:=HS2.step hE;exact does_eq (r_loadBox (show _=vP b1 0 from hk 19 rfl) Tryd.isAgg22 (HSd.look 0 rfl) rfl)),ob_plain rfl (fun a' w' hE hk=>by have HSd:=HS2.step hE;exact does_eq (r_move (show _=vI y1_0 from hk 3 rfl))),ob_plain rfl (fun a' w' hE hk=>by have HSd:=HS2.step hE;exact does_eq (r_indexA (sz:=7) (show _=vL A0_0 a0.vDefs.length c0_0 from hk 20 rfl) e1 (show _=vI y1_0 from hk 21 rfl) hi1.1 hi1.2 Tryd.runUnderlying22 Tryd.sizeOf34)),ob_plain rfl (fun a' w' hE hk=>by have HSd:=HS2.step hE;exact does_eq (r_loadAgg (show _=Value.pointer (some (Addr.add ad1 (y1_0.toNat*7))) from hk 22 rfl) Tryd.isAgg34 (hel1.sees HSd.sees) Tryd.sizeOf34)),ob_plain rfl (fun a' w' hE hk=>by have HSd:=HS2.step hE;exact (does_call_eq Tryd.call48 rfl (map2 (show _=Value.agg #[vL A0_0 a0.vDefs.length c0_0] from hk 18 rfl) (show _=Value.agg #[vI ((rd z_api_Def a0.vDefs y1_0).vKind),vS ((rd z_api_Def a0.vDefs y1_0).vName),vI ((rd z_api_Def a0.vDefs y1_0).vInt.vSize),vB ((rd z_api_Def a0.vDefs y1_0).vInt.vSigned),vI ((rd z_api_Def a0.vDefs y1_0).vRef),vI ((rd z_api_Def a0.vDefs y1_0).vN),vL Aad1_6 ((rd z_api_Def a0.vDefs y1_0).vFields).length cad1_6] from hk 23 rfl)) (taplineref08_shaped.calls k a0 (rd z_api_Def a0.vDefs y1_0) A0_0 c0_0 Aad1_6 cad1_6 HSd.sees hr0_0 hc0_0 hrad1_6 hcad1_6 H1))),ob_plain rfl (fun a' w' hE hk=>by have HSd:=HS2.step hE;exact does_eq (r_not (show _=vB v1 from hk 24 rfl))),trivial⟩ ?_
     intro w3 hE2
     simp only [List.zip_cons_cons,List.zip_nil_left,List.zip_nil_right,finL,sc0,sc1,List.length_cons,List.length_nil,List.drop_succ_cons,List.drop_zero,Nat.zero_add,Nat.reduceAdd]
     have HS3:=HS2.step hE2
     refine run_nil ?_
     refine norm_then ?_
     refine wp_cond_split (t:=(!v1)) rfl (fun c3=>?_) (fun c3=>?_)
     ·replace H:=of_pos H c3
      refine wp_seq ?_
      refine region ?_
      refine rs (vI 80) (r_assign rfl) ?_
      try simp only [sc0,sc1]
      refine run_nil ?_
      refine norm_then ?_
      refine wp_ret ?_
      refine ret_then ?_
      refine ret_block ?_
      refine ret_then ?_
      refine ret_loop ?_
      refine ret_then ?_
      obtain rfl:=Option.some.inj H
      obtain rfl:=Option.some.inj G1
      refine bodyPost_ret (results_1 rfl (one_tmp rfl)) rfl ?_
      exact ⟨rfl,HS3.toE⟩
     ·replace H:=of_neg H (nt c3)
      refine wp_skip ?_
      refine norm_then ?_
      refine wp_seq ?_
      refine region ?_
      refine rs (vI 0) (r_assign rfl) ?_
      try simp only [sc0,sc1]
      refine run_nil ?_
      refine norm_then ?_
      obtain ⟨xx2,H,G2⟩:=of_bind H
      refine loop_patch [2,4,26,27,28,29,30,31,32,33,34,35,36,37,38,39,40,41,42,43,44,45,46,47,48,49,50,51] (fun m us w'=>∃y2_0:Int,∃uy2_2 uy2_26 uy2_27 uy2_28 uy2_29 uy2_30 uy2_31 uy2_32 uy2_33 uy2_34 uy2_35 uy2_36 uy2_37 uy2_38 uy2_39 uy2_40 uy2_41 uy2_42 uy2_43 uy2_44 uy2_45 uy2_46 uy2_47 uy2_48 uy2_49 uy2_50 uy2_51:Value,us=[uy2_2,vI y2_0,uy2_26,uy2_27,uy2_28,uy2_29,uy2_30,uy2_31,uy2_32,uy2_33,uy2_34,uy2_35,uy2_36,uy2_37,uy2_38,uy2_39,uy2_40,uy2_41,uy2_42,uy2_43,uy2_44,uy2_45,uy2_46,uy2_47,uy2_48,uy2_49,uy2_50,uy2_51]∧taplineref08_Check.l1 a0 y1_0 m y2_0=some xx2∧St [] h0 w0 h0 [(some b1, .cells #[vL A0_0 a0.vDefs.length c0_0] 24 (0,0))] w') (fun us w'=>∃(s1:Unit),xx2= .inr s1∧∃uo1_2 uo1_4 uo1_26 uo1_27 uo1_28 uo1_29 uo1_30 uo1_31 uo1_32 uo1_33 uo1_34 uo1_35 uo1_36 uo1_37 uo1_38 uo1_39 uo1_40 uo1_41 uo1_42 uo1_43 uo1_44 uo1_45 uo1_46 uo1_47 uo1_48 uo1_49 uo1_50 uo1_51:Value,us=[uo1_2,uo1_4,uo1_26,uo1_27,uo1_28,uo1_29,uo1_30,uo1_31,uo1_32,uo1_33,uo1_34,uo1_35,uo1_36,uo1_37,uo1_38,uo1_39,uo1_40,uo1_41,uo1_42,uo1_43,uo1_44,uo1_45,uo1_46,uo1_47,uo1_48,uo1_49,uo1_50,uo1_51]∧St [] h0 w0 h0 [(some b1, .cells #[vL A0_0 a0.vDefs.length c0_0] 24 (0,0))] w') k [uy1_2,vI 0,uy1_26,uy1_27,uy1_28,uy1_29,uy1_30,uy1_31,uy1_32,uy1_33,uy1_34,uy1_35,uy1_36,uy1_37,uy1_38,uy1_39,uy1_40,uy1_41,uy1_42,uy1_43,uy1_44,uy1_45,uy1_46,uy1_47,uy1_48,uy1_49,uy1_50,uy1_51] (by simp only [patch,sc0,sc1]) ⟨0,_,_,_,_,_,_,_,_,_,_,_,_,_,_,_,_,_,_,_,_,_,_,_,_,_,_,_,rfl,H,HS3⟩ ?_ ?_
      ·rintro m us w4 ⟨y2_0,uy2_2,uy2_26,uy2_27,uy2_28,uy2_29,uy2_30,uy2_31,uy2_32,uy2_33,uy2_34,uy2_35,uy2_36,uy2_37,uy2_38,uy2_39,uy2_40,uy2_41,uy2_42,uy2_43,uy2_44,uy2_45,uy2_46,uy2_47,uy2_48,uy2_49,uy2_50,uy2_51,rfl,H,HS4⟩
       cases m with
       |zero=>exact absurd H (by simp [taplineref08_Check.l1])
       |succ m=>
        rw [taplineref08_Check.l1] at H
        try simp only [patch,sc0,sc1]
        refine wp_seq ?_
        refine wp_seq ?_
        refine region ?_
        refine rs (vI y2_0) (r_move rfl) ?_
        refine rs (vI y1_0) (r_move rfl) ?_
        refine rs (vB (decide (y2_0<y1_0))) (r_bin rfl rfl rfl) ?_
        try simp only [sc0,sc1]
        refine run_nil ?_
        refine norm_then ?_
        refine wp_cond_split (t:=(decide (y2_0<y1_0))) rfl (fun c4=>?_) (fun c4=>?_)
        ·replace H:=of_pos H c4
         refine wp_skip ?_
         refine norm_then ?_
         refine wp_seq ?_
         refine wp_block ?_
         refine wp_seq ?_
         obtain ⟨hi2,H⟩:=of_ite H
         obtain ⟨ad2,Aad2_6,cad2_6,e2,hel2,hcad2_6,hrad2_6⟩:=ld_api_Def hr0_0 hi2.1 hi2.2
         obtain ⟨v2,H2,H⟩:=of_bind H
         obtain ⟨hi3,H⟩:=of_ite H
         obtain ⟨ad3,Aad3_6,cad3_6,hq1⟩:=gx3 (fun hC:(true&&(v2==true))=true=>ld_api_Def hr0_0 (hi3 hC).1 (hi3 hC).2)
         obtain ⟨hi4,H⟩:=of_ite H
         obtain ⟨ad4,Aad4_6,cad4_6,hq2⟩:=gx3 (fun hC:(true&&(v2==true))=true=>ld_api_Def hr0_0 (hi4 hC).1 (hi4 hC).2)
         refine drawn [.eq (vP b1 0), .eq (vL A0_0 a0.vDefs.length c0_0), .eq (vI y1_0), .eq (Value.pointer (some (Addr.add ad2 (y1_0.toNat*7)))), .eq (Value.agg #[vI ((rd z_api_Def a0.vDefs y1_0).vKind),vS ((rd z_api_Def a0.vDefs y1_0).vName),vI ((rd z_api_Def a0.vDefs y1_0).vInt.vSize),vB ((rd z_api_Def a0.vDefs y1_0).vInt.vSigned),vI ((rd z_api_Def a0.vDefs y1_0).vRef),vI ((rd z_api_Def a0.vDefs y1_0).vN),vL Aad2_6 ((rd z_api_Def a0.vDefs y1_0).vFields).length cad2_6]), .eq (vB v2), .eq (vB v2), .eq (gv (true&&(v2==true)) (vP b1 0)), .eq (gv (true&&(v2==true)) (vL A0_0 a0.vDefs.length c0_0)), .eq (gv (true&&(v2==true)) (vI y2_0)), .eq (gv (true&&(v2==true)) (Value.pointer (some (Addr.add ad3 (y2_0.toNat*7))))), .eq (gv (true&&(v2==true)) (Value.pointer (some (Addr.add (Addr.add ad3 (y2_0.toNat*7)) 1)))), .eq (gv (true&&(v2==true)) (vS ((rd z_api_Def a0.vDefs y2_0).vName))), .eq (gv (true&&(v2==true)) (vP b1 0)), .eq (gv (true&&(v2==true)) (vL A0_0 a0.vDefs.length c0_0)), .eq (gv (true&&(v2==true)) (vI y1_0)), .eq (gv (true&&(v2==true)) (Value.pointer (some (Addr.add ad4 (y1_0.toNat*7))))), .eq (gv (true&&(v2==true)) (Value.pointer (some (Addr.add (Addr.add ad4 (y1_0.toNat*7)) 1)))), .eq (gv (true&&(v2==true)) (vS ((rd z_api_Def a0.vDefs y1_0).vName))), .eq (gv (true&&(v2==true)) (vB (strEq ((rd z_api_Def a0.vDefs y2_0).vName) ((rd z_api_Def a0.vDefs y1_0).vName)))), .eq (vB (v2&&(strEq ((rd z_api_Def a0.vDefs y2_0).vName) ((rd z_api_Def a0.vDefs y1_0).vName))))] [31,32,33,34,35,36,37,38,39,40,41,42,43,44,45,46,47,48,49,50,51] hmix (by kernel_rfl) rfl (stable_eq (stable_eq (stable_eq (stable_eq (stable_eq (stable_eq (stable_eq (stable_eq (stable_eq (stable_eq (stable_eq (stable_eq (stable_eq (stable_eq (stable_eq (stable_eq (stable_eq (stable_eq (stable_eq (stable_eq (stable_eq stable_nil))))))))))))))))))))) ⟨ob_plain rfl (fun a' w' hE hk=>by have HSd:=HS4.step hE;exact does_eq (r_fieldBox (n:=1) (o':=0) (show _=vP b1 0 from hk 1 rfl) Tryd.runUnderlying24 rfl Tryd.sizeOf22 (by decide) rfl)),ob_plain rfl (fun a' w' hE hk=>by have HSd:=HS4.step hE;exact does_eq (r_loadBox (show _=vP b1 0 from hk 31 rfl) Tryd.isAgg22 (HSd.look 0 rfl) rfl)),ob_plain rfl (fun a' w' hE hk=>by have HSd:=HS4.step hE;exact does_eq (r_move (show _=vI y1_0 from hk 3 rfl))),ob_plain rfl (fun a' w' hE hk=>by have HSd:=HS4.step hE;exact does_eq (r_indexA (sz:=7) (show _=vL A0_0 a0.vDefs.length c0_0 from hk 32 rfl) e2 (show _=vI y1_0 from hk 33 rfl) hi2.1 hi2.2 Tryd.runUnderlying22 Tryd.sizeOf34)),ob_plain rfl (fun a' w' hE hk=>by have HSd:=HS4.step hE;exact does_eq (r_loadAgg (show _=Value.pointer (some (Addr.add ad2 (y1_0.toNat*7))) from hk 34 rfl) Tryd.isAgg34 (hel2.sees HSd.sees) Tryd.sizeOf34)),ob_plain rfl (fun a' w' hE hk=>by have HSd:=HS4.step hE;exact (does_call_eq Tryd.call49 rfl (map1 (show _=Value.agg #[vI ((rd z_api_Def a0.vDefs y1_0).vKind),vS ((rd z_api_Def a0.vDefs y1_0).vName),vI ((rd z_api_Def a0.vDefs y1_0).vInt.vSize),vB ((rd z_api_Def a0.vDefs y1_0).vInt.vSigned),vI ((rd z_api_Def a0.vDefs y1_0).vRef),vI ((rd z_api_Def a0.vDefs y1_0).vN),vL Aad2_6 ((rd z_api_Def a0.vDefs y1_0).vFields).length cad2_6] from hk 35 rfl)) (taplineref08_Named.calls (rd z_api_Def a0.vDefs y1_0) Aad2_6 cad2_6 HSd.sees hrad2_6 hcad2_6 H2))),ob_plain rfl (fun a' w' hE hk=>by have HSd:=HS4.step hE;exact does_eq (r_move (show _=vB v2 from hk 36 rfl))),ob_guard (b:=v2) (c:=true) rfl rfl (by decide) (fun w' u hu=>hu) (fun a' w' hE hk hg=>by have HSd:=HS4.step hE;exact does_eq (r_fieldBox (n:=1) (o':=0) (show _=vP b1 0 from hk 1 rfl) Tryd.runUnderlying24 rfl Tryd.sizeOf22 (by decide) rfl)),ob_guard (b:=v2) (c:=true) rfl rfl (by decide) (fun w' u hu=>hu) (fun a' w' hE hk hg=>by have HSd:=HS4.step hE;exact does_eq (r_loadBox ((show _=gv (true&&(v2==true)) (vP b1 0) from (show _=gv (true&&(v2==true)) (vP b1 0) from hk 38 rfl)).trans (gv_t hg)) Tryd.isAgg22 (HSd.look 0 rfl) rfl)),ob_guard (b:=v2) (c:=true) rfl rfl (by decide) (fun w' u hu=>hu) (fun a' w' hE hk hg=>by have HSd:=HS4.step hE;exact does_eq (r_move (show _=vI y2_0 from hk 4 rfl))),ob_guard (b:=v2) (c:=true) rfl rfl (by decide) (fun w' u hu=>hu) (fun a' w' hE hk hg=>by have HSd:=HS4.step hE;exact does_eq (r_indexA (sz:=7) ((show _=gv (true&&(v2==true)) (vL A0_0 a0.vDefs.length c0_0) from (show _=gv (true&&(v2==true)) (vL A0_0 a0.vDefs.length c0_0) from hk 39 rfl)).trans (gv_t hg)) (hq1 hg).1 ((show _=gv (true&&(v2==true)) (vI y2_0) from (show _=gv (true&&(v2==true)) (vI y2_0) from hk 40 rfl)).trans (gv_t hg)) (hi3 hg).1 (hi3 hg).2 Tryd.runUnderlying22 Tryd.sizeOf34)),ob_guard (b:=v2) (c:=true) rfl rfl (by decide) (fun w' u hu=>hu) (fun a' w' hE hk hg=>by have HSd:=HS4.step hE;exact does_eq (r_fieldEl (n:=1) (o':=1) ((show _=gv (true&&(v2==true)) (Value.pointer (some (Addr.add ad3 (y2_0.toNat*7)))) from (show _=gv (true&&(v2==true)) (Value.pointer (some (Addr.add ad3 (y2_0.toNat*7)))) from hk 41 rfl)).trans (gv_t hg)) Tryd.runUnderlying34 rfl Tryd.sizeOf9 (by decide) rfl)),ob_guard (b:=v2) (c:=true) rfl rfl (by decide) (fun w' u hu=>hu) (fun a' w' hE hk hg=>by have HSd:=HS4.step hE;exact does_eq (r_load ((show _=gv (true&&(v2==true)) (Value.pointer (some (Addr.add (Addr.add ad3 (y2_0.toNat*7)) 1))) from (show _=gv (true&&(v2==true)) (Value.pointer (some (Addr.add (Addr.add ad3 (y2_0.toNat*7)) 1))) from hk 42 rfl)).trans (gv_t hg)) Tryd.isAgg9 (((hq1 hg).2.1).cell HSd.sees 1 rfl))),ob_guard (b:=v2) (c:=true) rfl rfl (by decide) (fun w' u hu=>hu) (fun a' w' hE hk hg=>by have HSd:=HS4.step hE;exact does_eq (r_fieldBox (n:=1) (o':=0) (show _=vP b1 0 from hk 1 rfl) Tryd.runUnderlying24 rfl Tryd.sizeOf22 (by decide) rfl)),ob_guard (b:=v2) (c:=true) rfl rfl (by decide) (fun w' u hu=>hu) (fun a' w' hE hk hg=>by have HSd:=HS4.step hE;exact does_eq (r_loadBox ((show _=gv (true&&(v2==true)) (vP b1 0) from (show _=gv (true&&(v2==true)) (vP b1 0) from hk 44 rfl)).trans (gv_t hg)) Tryd.isAgg22 (HSd.look 0 rfl) rfl)),ob_guard (b:=v2) (c:=true) rfl rfl (by decide) (fun w' u hu=>hu) (fun a' w' hE hk hg=>by have HSd:=HS4.step hE;exact does_eq (r_move (show _=vI y1_0 from hk 3 rfl))),ob_guard (b:=v2) (c:=true) rfl rfl (by decide) (fun w' u hu=>hu) (fun a' w' hE hk hg=>by have HSd:=HS4.step hE;exact does_eq (r_indexA (sz:=7) ((show _=gv (true&&(v2==true)) (vL A0_0 a0.vDefs.length c0_0) from (show _=gv (true&&(v2==true)) (vL A0_0 a0.vDefs.length c0_0) from hk 45 rfl)).trans (gv_t hg)) (hq2 hg).1 ((show _=gv (true&&(v2==true)) (vI y1_0) from (show _=gv (true&&(v2==true)) (vI y1_0) from hk 46 rfl)).trans (gv_t hg)) (hi4 hg).1 (hi4 hg).2 Tryd.runUnderlying22 Tryd.sizeOf34)),ob_guard (b:=v2) (c:=true) rfl rfl (by decide) (fun w' u hu=>hu) (fun a' w' hE hk hg=>by have HSd:=HS4.step hE;exact does_eq (r_fieldEl (n:=1) (o':=1) ((show _=gv (true&&(v2==true)) (Value.pointer (some (Addr.add ad4 (y1_0.toNat*7)))) from (show _=gv (true&&(v2==true)) (Value.pointer (some (Addr.add ad4 (y1_0.toNat*7)))) from hk 47 rfl)).trans (gv_t hg)) Tryd.runUnderlying34 rfl Tryd.sizeOf9 (by decide) rfl)),ob_guard (b:=v2) (c:=true) rfl rfl (by decide) (fun w' u hu=>hu) (fun a' w' hE hk hg=>by have HSd:=HS4.step hE;exact does_eq (r_load ((show _=gv (true&&(v2==true)) (Value.pointer (some (Addr.add (Addr.add ad4 (y1_0.toNat*7)) 1))) from (show _=gv (true&&(v2==true)) (Value.pointer (some (Addr.add (Addr.add ad4 (y1_0.toNat*7)) 1))) from hk 48 rfl)).trans (gv_t hg)) Tryd.isAgg9 (((hq2 hg).2.1).cell HSd.sees 1 rfl))),ob_guard (b:=v2) (c:=true) rfl rfl (by decide) (fun w' u hu=>hu) (fun a' w' hE hk hg=>by have HSd:=HS4.step hE;exact does_eq (r_streql ((show _=gv (true&&(v2==true)) (vS ((rd z_api_Def a0.vDefs y2_0).vName)) from (show _=gv (true&&(v2==true)) (vS ((rd z_api_Def a0.vDefs y2_0).vName)) from hk 43 rfl)).trans (gv_t hg)) ((show _=gv (true&&(v2==true)) (vS ((rd z_api_Def a0.vDefs y1_0).vName)) from (show _=gv (true&&(v2==true)) (vS ((rd z_api_Def a0.vDefs y1_0).vName)) from hk 49 rfl)).trans (gv_t hg)))),ob_plain rfl (fun a' w' hE hk=>by have HSd:=HS4.step hE;exact does_eq (r_pick_and (show _=vB v2 from hk 37 rfl) (fun hp=>((show _=gv (true&&(v2==true)) (vB (strEq ((rd z_api_Def a0.vDefs y2_0).vName) ((rd z_api_Def a0.vDefs y1_0).vName))) from (show _=gv (true&&(v2==true)) (vB (strEq ((rd z_api_Def a0.vDefs y2_0).vName) ((rd z_api_Def a0.vDefs y1_0).vName))) from hk 50 rfl)).trans (gv_t (and_i rfl hp)))) rfl)),trivial⟩ ?_
         intro w5 hE3
         simp only [List.zip_cons_cons,List.zip_nil_left,List.zip_nil_right,finL,sc0,sc1,List.length_cons,List.length_nil,List.drop_succ_cons,List.drop_zero,Nat.zero_add,Nat.reduceAdd]
         have HS5:=HS4.step hE3
         refine run_nil ?_
         refine norm_then ?_
         refine wp_cond_split (t:=(v2&&(strEq ((rd z_api_Def a0.vDefs y2_0).vName) ((rd z_api_Def a0.vDefs y1_0).vName)))) rfl (fun c5=>?_) (fun c5=>?_)
         ·replace H:=of_pos H c5
          refine wp_seq ?_
          refine region ?_
          refine rs (vI 80) (r_assign rfl) ?_
          try simp only [sc0,sc1]
          refine run_nil ?_
          refine norm_then ?_
          refine wp_ret ?_
          refine ret_block ?_
          refine ret_then ?_
          refine ret_loop ?_
          refine ret_block ?_
          refine ret_then ?_
          refine ret_loop ?_
          refine ret_then ?_
          obtain rfl:=Option.some.inj H
          obtain rfl:=Option.some.inj G2
          obtain rfl:=Option.some.inj G1
          refine bodyPost_ret (results_1 rfl (one_tmp rfl)) rfl ?_
          exact ⟨rfl,HS5.toE⟩
         ·replace H:=of_neg H (nt c5)
          refine wp_skip ?_
          refine norm_block ?_
          refine norm_then ?_
          refine region ?_
          refine rs (vI y2_0) (r_move rfl) ?_
          refine rs (vI (w64 (y2_0+1))) (r_bin rfl rfl rfl) ?_
          refine rs (vI (w64 (y2_0+1))) (r_assign rfl) ?_
          try simp only [sc0,sc1]
          refine run_nil ?_
          refine again m [uy2_2,vI (w64 (y2_0+1)),vI y2_0,vI y1_0,vB (decide (y2_0<y1_0)),vI y2_0,vI (w64 (y2_0+1)),vP b1 0,vL A0_0 a0.vDefs.length c0_0,vI y1_0,Value.pointer (some (Addr.add ad2 (y1_0.toNat*7))),Value.agg #[vI ((rd z_api_Def a0.vDefs y1_0).vKind),vS ((rd z_api_Def a0.vDefs y1_0).vName),vI ((rd z_api_Def a0.vDefs y1_0).vInt.vSize),vB ((rd z_api_Def a0.vDefs y1_0).vInt.vSigned),vI ((rd z_api_Def a0.vDefs y1_0).vRef),vI ((rd z_api_Def a0.vDefs y1_0).vN),vL Aad2_6 ((rd z_api_Def a0.vDefs y1_0).vFields).length cad2_6],vB v2,vB v2,gv (true&&(v2==true)) (vP b1 0),gv (true&&(v2==true)) (vL A0_0 a0.vDefs.length c0_0),gv (true&&(v2==true)) (vI y2_0),gv (true&&(v2==true)) (Value.pointer (some (Addr.add ad3 (y2_0.toNat*7)))),gv (true&&(v2==true)) (Value.pointer (some (Addr.add (Addr.add ad3 (y2_0.toNat*7)) 1))),gv (true&&(v2==true)) (vS ((rd z_api_Def a0.vDefs y2_0).vName)),gv (true&&(v2==true)) (vP b1 0),gv (true&&(v2==true)) (vL A0_0 a0.vDefs.length c0_0),gv (true&&(v2==true)) (vI y1_0),gv (true&&(v2==true)) (Value.pointer (some (Addr.add ad4 (y1_0.toNat*7)))),gv (true&&(v2==true)) (Value.pointer (some (Addr.add (Addr.add ad4 (y1_0.toNat*7)) 1))),gv (true&&(v2==true)) (vS ((rd z_api_Def a0.vDefs y1_0).vName)),gv (true&&(v2==true)) (vB (strEq ((rd z_api_Def a0.vDefs y2_0).vName) ((rd z_api_Def a0.vDefs y1_0).vName))),vB (v2&&(strEq ((rd z_api_Def a0.vDefs y2_0).vName) ((rd z_api_Def a0.vDefs y1_0).vName)))] (Nat.lt_succ_self m) (by simp only [patch,sc0,sc1]) ⟨(w64 (y2_0+1)),_,_,_,_,_,_,_,_,_,_,_,_,_,_,_,_,_,_,_,_,_,_,_,_,_,_,_,rfl,H,HS5⟩
        ·replace H:=of_neg H (nt c4)
         refine wp_exit ?_
         refine exit_then ?_
         obtain rfl:=Option.some.inj H
         refine leave [uy2_2,vI y2_0,vI y2_0,vI y1_0,vB (decide (y2_0<y1_0)),uy2_29,uy2_30,uy2_31,uy2_32,uy2_33,uy2_34,uy2_35,uy2_36,uy2_37,uy2_38,uy2_39,uy2_40,uy2_41,uy2_42,uy2_43,uy2_44,uy2_45,uy2_46,uy2_47,uy2_48,uy2_49,uy2_50,uy2_51] (by simp only [patch,sc0,sc1]) ⟨_,rfl,_,_,_,_,_,_,_,_,_,_,_,_,_,_,_,_,_,_,_,_,_,_,_,_,_,_,_,_,rfl,HS4⟩
      ·rintro us w6 ⟨s1,rfl,uo1_2,uo1_4,uo1_26,uo1_27,uo1_28,uo1_29,uo1_30,uo1_31,uo1_32,uo1_33,uo1_34,uo1_35,uo1_36,uo1_37,uo1_38,uo1_39,uo1_40,uo1_41,uo1_42,uo1_43,uo1_44,uo1_45,uo1_46,uo1_47,uo1_48,uo1_49,uo1_50,uo1_51,rfl,HS6⟩
       replace H:=G2
       clear G2
       try simp only [patch,sc0,sc1]
       refine norm_block ?_
       refine norm_then ?_
       refine region ?_
       refine rs (vI y1_0) (r_move rfl) ?_
       refine rs (vI (w64 (y1_0+1))) (r_bin rfl rfl rfl) ?_
       refine rs (vI (w64 (y1_0+1))) (r_assign rfl) ?_
       try simp only [sc0,sc1]
       refine run_nil ?_
       refine again m [uo1_2,vI (w64 (y1_0+1)),uo1_4,vI y1_0,vP b1 0,vL A0_0 a0.vDefs.length c0_0,vI (a0.vDefs.length:Int),vB (decide (y1_0<(a0.vDefs.length:Int))),vI y1_0,vI (w64 (y1_0+1)),Value.agg #[vL A0_0 a0.vDefs.length c0_0],vP b1 0,vL A0_0 a0.vDefs.length c0_0,vI y1_0,Value.pointer (some (Addr.add ad1 (y1_0.toNat*7))),Value.agg #[vI ((rd z_api_Def a0.vDefs y1_0).vKind),vS ((rd z_api_Def a0.vDefs y1_0).vName),vI ((rd z_api_Def a0.vDefs y1_0).vInt.vSize),vB ((rd z_api_Def a0.vDefs y1_0).vInt.vSigned),vI ((rd z_api_Def a0.vDefs y1_0).vRef),vI ((rd z_api_Def a0.vDefs y1_0).vN),vL Aad1_6 ((rd z_api_Def a0.vDefs y1_0).vFields).length cad1_6],vB v1,vB (!v1),uo1_26,uo1_27,uo1_28,uo1_29,uo1_30,uo1_31,uo1_32,uo1_33,uo1_34,uo1_35,uo1_36,uo1_37,uo1_38,uo1_39,uo1_40,uo1_41,uo1_42,uo1_43,uo1_44,uo1_45,uo1_46,uo1_47,uo1_48,uo1_49,uo1_50,uo1_51] (Nat.lt_succ_self m) (by simp only [patch,sc0,sc1]) ⟨(w64 (y1_0+1)),_,_,_,_,_,_,_,_,_,_,_,_,_,_,_,_,_,_,_,_,_,_,_,_,_,_,_,_,_,_,_,_,_,_,_,_,_,_,_,_,_,_,_,rfl,H,HS6⟩
    ·replace H:=of_neg H (nt c2)
     refine wp_exit ?_
     refine exit_then ?_
     obtain rfl:=Option.some.inj H
     refine leave [uy1_2,vI y1_0,uy1_4,vI y1_0,vP b1 0,vL A0_0 a0.vDefs.length c0_0,vI (a0.vDefs.length:Int),vB (decide (y1_0<(a0.vDefs.length:Int))),uy1_16,uy1_17,uy1_18,uy1_19,uy1_20,uy1_21,uy1_22,uy1_23,uy1_24,uy1_25,uy1_26,uy1_27,uy1_28,uy1_29,uy1_30,uy1_31,uy1_32,uy1_33,uy1_34,uy1_35,uy1_36,uy1_37,uy1_38,uy1_39,uy1_40,uy1_41,uy1_42,uy1_43,uy1_44,uy1_45,uy1_46,uy1_47,uy1_48,uy1_49,uy1_50,uy1_51] (by simp only [patch,sc0,sc1]) ⟨_,rfl,_,_,_,_,_,_,_,_,_,_,_,_,_,_,_,_,_,_,_,_,_,_,_,_,_,_,_,_,_,_,_,_,_,_,_,_,_,_,_,_,_,_,_,_,rfl,HS2⟩
  ·rintro us w7 ⟨s2,rfl,uo2_2,uo2_3,uo2_4,uo2_11,uo2_12,uo2_13,uo2_14,uo2_15,uo2_16,uo2_17,uo2_18,uo2_19,uo2_20,uo2_21,uo2_22,uo2_23,uo2_24,uo2_25,uo2_26,uo2_27,uo2_28,uo2_29,uo2_30,uo2_31,uo2_32,uo2_33,uo2_34,uo2_35,uo2_36,uo2_37,uo2_38,uo2_39,uo2_40,uo2_41,uo2_42,uo2_43,uo2_44,uo2_45,uo2_46,uo2_47,uo2_48,uo2_49,uo2_50,uo2_51,rfl,HS7⟩
   replace H:=G1
   clear G1
   try simp only [patch,sc0,sc1]
   refine norm_then ?_
   refine wp_seq ?_
   refine region ?_
   refine rs (Value.agg #[vL A0_0 a0.vDefs.length c0_0]) (r_loadBoxAgg (n:=1) (vs:=[vL A0_0 a0.vDefs.length c0_0]) rfl Tryd.isAgg24 (HS7.look 0 rfl) Tryd.sizeOf24 rfl rfl) ?_
   obtain ⟨v3,H3,H⟩:=of_bind H
   refine run_ex rfl rfl (does_call Tryd.call50 rfl (gives_in (h:=h0) (R:=(fun hx u=>∃(Av3_0_0:Option Addr) (cv3_0_0:Nat),u=vL Av3_0_0 v3.length cv3_0_0∧v3.length≤cv3_0_0∧Rd (Kd.int .i64) hx Av3_0_0 v3)) (Ext.rfl' w7) ((taplineref08_sizes.calls k a0 A0_0 c0_0 HS7.sees hr0_0 hc0_0 H3).mono ?_)) rfl) ?_
   ·rintro _ _ ⟨h1,Av3_0_0,cv3_0_0,rfl,hcv3_0_0,hrv3_0_0,g,ss,x⟩
    exact ⟨h1,_,rfl,⟨Av3_0_0,cv3_0_0,rfl,hcv3_0_0,hrv3_0_0⟩,g,ss,x⟩
   rintro w8 _ hE4 ⟨h1,⟨Av3_0_0,cv3_0_0,rfl,hcv3_0_0,hrv3_0_0⟩,gr1,se1⟩
   have HS8:=HS7.view hE4 gr1 se1
   refine rs (vL Av3_0_0 v3.length cv3_0_0) (r_assign rfl) ?_
   try simp only [sc0,sc1]
   refine run_nil ?_
   refine norm_then ?_
   refine wp_seq ?_
   refine wp_seq ?_
   refine region ?_
   refine rs (vI 0) (r_assign rfl) ?_
   try simp only [sc0,sc1]
   refine run_nil ?_
   refine norm_then ?_
   obtain ⟨xx3,H,G3⟩:=of_bind H
   refine loop_patch [2,6,54,55,56,57,58,59,60,61,62,63,64,65,66,67,68,69,70,71,72,73,74,75,76,77,78,79,80,81,82,83,84,85,86,87,88,89,90,91,92,93,94,95] (fun m us w'=>∃y3_0:Int,∃uy3_2 uy3_54 uy3_55 uy3_56 uy3_57 uy3_58 uy3_59 uy3_60 uy3_61 uy3_62 uy3_63 uy3_64 uy3_65 uy3_66 uy3_67 uy3_68 uy3_69 uy3_70 uy3_71 uy3_72 uy3_73 uy3_74 uy3_75 uy3_76 uy3_77 uy3_78 uy3_79 uy3_80 uy3_81 uy3_82 uy3_83 uy3_84 uy3_85 uy3_86 uy3_87 uy3_88 uy3_89 uy3_90 uy3_91 uy3_92 uy3_93 uy3_94 uy3_95:Value,us=[uy3_2,vI y3_0,uy3_54,uy3_55,uy3_56,uy3_57,uy3_58,uy3_59,uy3_60,uy3_61,uy3_62,uy3_63,uy3_64,uy3_65,uy3_66,uy3_67,uy3_68,uy3_69,uy3_70,uy3_71,uy3_72,uy3_73,uy3_74,uy3_75,uy3_76,uy3_77,uy3_78,uy3_79,uy3_80,uy3_81,uy3_82,uy3_83,uy3_84,uy3_85,uy3_86,uy3_87,uy3_88,uy3_89,uy3_90,uy3_91,uy3_92,uy3_93,uy3_94,uy3_95]∧taplineref08_Check.l2 k a0 v3 m y3_0=some xx3∧St [] h0 w0 h1 [(some b1, .cells #[vL A0_0 a0.vDefs.length c0_0] 24 (0,0))] w') (fun us w'=>∃(s3:Unit),xx3= .inr s3∧∃uo3_2 uo3_6 uo3_54 uo3_55 uo3_56 uo3_57 uo3_58 uo3_59 uo3_60 uo3_61 uo3_62 uo3_63 uo3_64 uo3_65 uo3_66 uo3_67 uo3_68 uo3_69 uo3_70 uo3_71 uo3_72 uo3_73 uo3_74 uo3_75 uo3_76 uo3_77 uo3_78 uo3_79 uo3_80 uo3_81 uo3_82 uo3_83 uo3_84 uo3_85 uo3_86 uo3_87 uo3_88 uo3_89 uo3_90 uo3_91 uo3_92 uo3_93 uo3_94 uo3_95:Value,us=[uo3_2,uo3_6,uo3_54,uo3_55,uo3_56,uo3_57,uo3_58,uo3_59,uo3_60,uo3_61,uo3_62,uo3_63,uo3_64,uo3_65,uo3_66,uo3_67,uo3_68,uo3_69,uo3_70,uo3_71,uo3_72,uo3_73,uo3_74,uo3_75,uo3_76,uo3_77,uo3_78,uo3_79,uo3_80,uo3_81,uo3_82,uo3_83,uo3_84,uo3_85,uo3_86,uo3_87,uo3_88,uo3_89,uo3_90,uo3_91,uo3_92,uo3_93,uo3_94,uo3_95]∧St [] h0 w0 h1 [(some b1, .cells #[vL A0_0 a0.vDefs.length c0_0] 24 (0,0))] w') k [uo2_2,vI 0,undef,undef,undef,undef,undef,undef,undef,undef,undef,undef,undef,undef,undef,undef,undef,undef,undef,undef,undef,undef,undef,undef,undef,undef,undef,undef,undef,undef,undef,undef,undef,undef,undef,undef,undef,undef,undef,undef,undef,undef,undef,undef] (by simp only [patch,sc0,sc1]) ⟨0,_,_,_,_,_,_,_,_,_,_,_,_,_,_,_,_,_,_,_,_,_,_,_,_,_,_,_,_,_,_,_,_,_,_,_,_,_,_,_,_,_,_,_,rfl,H,HS8⟩ ?_ ?_
   ·rintro m us w9 ⟨y3_0,uy3_2,uy3_54,uy3_55,uy3_56,uy3_57,uy3_58,uy3_59,uy3_60,uy3_61,uy3_62,uy3_63,uy3_64,uy3_65,uy3_66,uy3_67,uy3_68,uy3_69,uy3_70,uy3_71,uy3_72,uy3_73,uy3_74,uy3_75,uy3_76,uy3_77,uy3_78,uy3_79,uy3_80,uy3_81,uy3_82,uy3_83,uy3_84,uy3_85,uy3_86,uy3_87,uy3_88,uy3_89,uy3_90,uy3_91,uy3_92,uy3_93,uy3_94,uy3_95,rfl,H,HS9⟩
    cases m with
    |zero=>exact absurd H (by simp [taplineref08_Check.l2])
    |succ m=>
     rw [taplineref08_Check.l2] at H
     try simp only [patch,sc0,sc1]
     refine wp_seq ?_
     refine wp_seq ?_
     refine region ?_
     refine rs (vI y3_0) (r_move rfl) ?_
     refine rs (vP b1 0) (r_fieldBox (n:=1) (o':=0) rfl Tryd.runUnderlying24 rfl Tryd.sizeOf22 (by decide) rfl) ?_
     refine rs (vL A0_0 a0.vDefs.length c0_0) (r_loadBox rfl Tryd.isAgg22 (HS9.look 0 rfl) rfl) ?_
     refine rs (vI (a0.vDefs.length:Int)) (r_len rfl Tryd.runUnderlying22) ?_
     refine run_frame (by simp only [sc0,sc1];rfl) ?_
     refine rs (vB (decide (y3_0<(a0.vDefs.length:Int)))) (r_bin rfl rfl rfl) ?_
     try simp only [sc0,sc1]
     refine run_nil ?_
     refine norm_then ?_
     refine wp_cond_split (t:=(decide (y3_0<(a0.vDefs.length:Int)))) rfl (fun c6=>?_) (fun c6=>?_)
     ·replace H:=of_pos H c6
      refine wp_skip ?_
      refine norm_then ?_
      refine wp_seq ?_
      refine wp_block ?_
      refine wp_seq ?_
      refine wp_seq ?_
      refine region ?_
      refine rs (vL Av3_0_0 v3.length cv3_0_0) (r_move rfl) ?_
      refine rs (vI y3_0) (r_move rfl) ?_
      obtain ⟨hi5,H⟩:=of_ite H
      obtain ⟨ad5,e5,hel5⟩:=ld_int hrv3_0_0 hi5.1 hi5.2
      refine rs (Value.pointer (some (Addr.add ad5 (y3_0.toNat*1)))) (r_indexA (sz:=1) rfl e5 rfl hi5.1 hi5.2 Tryd.runUnderlying62 Tryd.sizeOf3) ?_
      refine rs (vI (rd 0 v3 y3_0)) (r_load rfl Tryd.isAgg3 (hel5.cell0 HS9.sees rfl)) ?_
      refine run_frame (by simp only [sc0,sc1];rfl) ?_
      refine rs (vB ((rd 0 v3 y3_0)==0)) (r_bin rfl rfl rfl) ?_
      refine rs (vB ((rd 0 v3 y3_0)==0)) (r_move rfl) ?_
      refine rgs ((rd 0 v3 y3_0)==0) true (vL Av3_0_0 v3.length cv3_0_0) rfl rfl rfl rfl (fun hg=>(r_move rfl)) ?_
      refine rgs ((rd 0 v3 y3_0)==0) true (vI y3_0) rfl rfl rfl rfl (fun hg=>(r_move rfl)) ?_
      refine run_frame (by simp only [sc0,sc1];rfl) ?_
      obtain ⟨hi6,H⟩:=of_ite H
      obtain ⟨ad6,hq3⟩:=gx1 (fun hC:(true&&(((rd 0 v3 y3_0)==0)==false))=true=>ld_int hrv3_0_0 (hi6 hC).1 (hi6 hC).2)
      refine rgs ((rd 0 v3 y3_0)==0) true (Value.pointer (some (Addr.add ad6 (y3_0.toNat*1)))) rfl rfl rfl rfl (fun hg=>(r_indexA (sz:=1) (gvt (vL Av3_0_0 v3.length cv3_0_0) hg rfl) (hq3 hg).1 (gvt (vI y3_0) hg rfl) (hi6 hg).1 (hi6 hg).2 Tryd.runUnderlying62 Tryd.sizeOf3)) ?_
      refine rgs ((rd 0 v3 y3_0)==0) true (vI (rd 0 v3 y3_0)) rfl rfl rfl rfl (fun hg=>(r_load (gvt (Value.pointer (some (Addr.add ad6 (y3_0.toNat*1)))) hg rfl) Tryd.isAgg3 (((hq3 hg).2).cell0 HS9.sees rfl))) ?_
      refine rgs ((rd 0 v3 y3_0)==0) true (vB (decide ((rd 0 v3 y3_0)>512))) rfl rfl rfl rfl (fun hg=>(r_bin (gvt (vI (rd 0 v3 y3_0)) hg rfl) rfl rfl)) ?_
      refine rs (vB (((rd 0 v3 y3_0)==0)||(decide ((rd 0 v3 y3_0)>512)))) (r_pick_or rfl rfl (fun hp=>(gvt (vB (decide ((rd 0 v3 y3_0)>512))) (and_i rfl hp) rfl))) ?_
      refine run_frame (by simp only [sc0,sc1];rfl) ?_
      refine rs (vB (((rd 0 v3 y3_0)==0)||(decide ((rd 0 v3 y3_0)>512)))) (r_move rfl) ?_
      refine rgs (((rd 0 v3 y3_0)==0)||(decide ((rd 0 v3 y3_0)>512))) true (Value.agg #[vL A0_0 a0.vDefs.length c0_0]) rfl rfl rfl rfl (fun hg=>(r_loadBoxAgg (n:=1) (vs:=[vL A0_0 a0.vDefs.length c0_0]) rfl Tryd.isAgg24 (HS9.look 0 rfl) Tryd.sizeOf24 rfl rfl)) ?_
      refine rgs (((rd 0 v3 y3_0)==0)||(decide ((rd 0 v3 y3_0)>512))) true (vI y3_0) rfl rfl rfl rfl (fun hg=>(r_move rfl)) ?_
      obtain ⟨v4,H4,H⟩:=of_bind H
      refine run_g (b:=(((rd 0 v3 y3_0)==0)||(decide ((rd 0 v3 y3_0)>512)))) (c:=true) (v:=vB v4) rfl rfl rfl rfl (fun hg=>(does_call_eq Tryd.call51 rfl (map2 (gvt (Value.agg #[vL A0_0 a0.vDefs.length c0_0]) hg rfl) (gvt (vI y3_0) hg rfl)) (taplineref08_ends.calls k a0 y3_0 A0_0 c0_0 HS9.sees (hr0_0.ext HS9.sub) hc0_0 (of_pos H4 hg)))) ?_
      intro w10 hE5
      have HS10:=HS9.step hE5
      refine run_frame (by simp only [sc0,sc1];rfl) ?_
      refine rgs (((rd 0 v3 y3_0)==0)||(decide ((rd 0 v3 y3_0)>512))) true (vB (!v4)) rfl rfl rfl rfl (fun hg=>(r_not (gvt (vB v4) hg rfl))) ?_
      refine rs (vB ((((rd 0 v3 y3_0)==0)||(decide ((rd 0 v3 y3_0)>512)))||(!v4))) (r_pick_or rfl rfl (fun hp=>(gvt (vB (!v4)) (and_i rfl hp) rfl))) ?_
      try simp only [sc0,sc1]
      refine run_nil ?_
      refine norm_then ?_
      refine wp_cond_split (t:=((((rd 0 v3 y3_0)==0)||(decide ((rd 0 v3 y3_0)>512)))||(!v4))) rfl (fun c7=>?_) (fun c7=>?_)
      ·replace H:=of_pos H c7
       refine wp_seq ?_
       refine region ?_
       refine rs (vI 80) (r_assign rfl) ?_
       try simp only [sc0,sc1]
       refine run_nil ?_
       refine norm_then ?_
       refine wp_ret ?_
       refine ret_then ?_
       refine ret_block ?_
       refine ret_then ?_
       refine ret_loop ?_
       refine ret_then ?_
       obtain rfl:=Option.some.inj H
       obtain rfl:=Option.some.inj G3
       refine bodyPost_ret (results_1 rfl (one_tmp rfl)) rfl ?_
       exact ⟨rfl,HS10.toE⟩
      ·replace H:=of_neg H (nt c7)
       refine wp_skip ?_
       refine norm_then ?_
       refine wp_seq ?_
       refine region ?_
       refine rs (vP b1 0) (r_fieldBox (n:=1) (o':=0) rfl Tryd.runUnderlying24 rfl Tryd.sizeOf22 (by decide) rfl) ?_
       refine rs (vL A0_0 a0.vDefs.length c0_0) (r_loadBox rfl Tryd.isAgg22 (HS10.look 0 rfl) rfl) ?_
       refine rs (vI y3_0) (r_move rfl) ?_
       obtain ⟨hi7,H⟩:=of_ite H
       obtain ⟨ad7,Aad7_6,cad7_6,e7,hel7,hcad7_6,hrad7_6⟩:=ld_api_Def (hr0_0.ext HS10.sub) hi7.1 hi7.2
       refine rs (Value.pointer (some (Addr.add ad7 (y3_0.toNat*7)))) (r_indexA (sz:=7) rfl e7 rfl hi7.1 hi7.2 Tryd.runUnderlying22 Tryd.sizeOf34) ?_
       refine run_frame (by simp only [sc0,sc1];rfl) ?_
       refine rs (Value.pointer (some (Addr.add (Addr.add ad7 (y3_0.toNat*7)) 0))) (r_fieldEl (n:=1) (o':=0) rfl Tryd.runUnderlying34 rfl Tryd.sizeOf3 (by decide) rfl) ?_
       refine rs (vI ((rd z_api_Def a0.vDefs y3_0).vKind)) (r_load rfl Tryd.isAgg3 (hel7.cell HS10.sees 0 rfl)) ?_
       refine rs (vB ((rd z_api_Def a0.vDefs y3_0).vKind==4)) (r_bin rfl rfl rfl) ?_
       refine rs (vB ((rd z_api_Def a0.vDefs y3_0).vKind==4)) (r_move rfl) ?_
       refine run_frame (by simp only [sc0,sc1];rfl) ?_
       refine rgs ((rd z_api_Def a0.vDefs y3_0).vKind==4) true (vP b1 0) rfl rfl rfl rfl (fun hg=>(r_fieldBox (n:=1) (o':=0) rfl Tryd.runUnderlying24 rfl Tryd.sizeOf22 (by decide) rfl)) ?_
       refine rgs ((rd z_api_Def a0.vDefs y3_0).vKind==4) true (vL A0_0 a0.vDefs.length c0_0) rfl rfl rfl rfl (fun hg=>(r_loadBox (gvt (vP b1 0) hg rfl) Tryd.isAgg22 (HS10.look 0 rfl) rfl)) ?_
       refine rgs ((rd z_api_Def a0.vDefs y3_0).vKind==4) true (vI y3_0) rfl rfl rfl rfl (fun hg=>(r_move rfl)) ?_
       obtain ⟨hi8,H⟩:=of_ite H
       obtain ⟨ad8,Aad8_6,cad8_6,hq4⟩:=gx3 (fun hC:(true&&(((rd z_api_Def a0.vDefs y3_0).vKind==4)==true))=true=>ld_api_Def (hr0_0.ext HS10.sub) (hi8 hC).1 (hi8 hC).2)
       refine rgs ((rd z_api_Def a0.vDefs y3_0).vKind==4) true (Value.pointer (some (Addr.add ad8 (y3_0.toNat*7)))) rfl rfl rfl rfl (fun hg=>(r_indexA (sz:=7) (gvt (vL A0_0 a0.vDefs.length c0_0) hg rfl) (hq4 hg).1 (gvt (vI y3_0) hg rfl) (hi8 hg).1 (hi8 hg).2 Tryd.runUnderlying22 Tryd.sizeOf34)) ?_
       refine run_frame (by simp only [sc0,sc1];rfl) ?_
       refine rgs ((rd z_api_Def a0.vDefs y3_0).vKind==4) true (Value.agg #[vI ((rd z_api_Def a0.vDefs y3_0).vKind),vS ((rd z_api_Def a0.vDefs y3_0).vName),vI ((rd z_api_Def a0.vDefs y3_0).vInt.vSize),vB ((rd z_api_Def a0.vDefs y3_0).vInt.vSigned),vI ((rd z_api_Def a0.vDefs y3_0).vRef),vI ((rd z_api_Def a0.vDefs y3_0).vN),vL Aad8_6 ((rd z_api_Def a0.vDefs y3_0).vFields).length cad8_6]) rfl rfl rfl rfl (fun hg=>(r_loadAgg (gvt (Value.pointer (some (Addr.add ad8 (y3_0.toNat*7)))) hg rfl) Tryd.isAgg34 (((hq4 hg).2.1).sees HS10.sees) Tryd.sizeOf34)) ?_
       refine rgs ((rd z_api_Def a0.vDefs y3_0).vKind==4) true (vL Av3_0_0 v3.length cv3_0_0) rfl rfl rfl rfl (fun hg=>(r_move rfl)) ?_
       obtain ⟨v5,H5,H⟩:=of_bind H
       refine run_g (b:=((rd z_api_Def a0.vDefs y3_0).vKind==4)) (c:=true) (v:=vB v5) rfl rfl rfl rfl (fun hg=>(does_call_eq Tryd.call52 rfl (map2 (gvt (Value.agg #[vI ((rd z_api_Def a0.vDefs y3_0).vKind),vS ((rd z_api_Def a0.vDefs y3_0).vName),vI ((rd z_api_Def a0.vDefs y3_0).vInt.vSize),vB ((rd z_api_Def a0.vDefs y3_0).vInt.vSigned),vI ((rd z_api_Def a0.vDefs y3_0).vRef),vI ((rd z_api_Def a0.vDefs y3_0).vN),vL Aad8_6 ((rd z_api_Def a0.vDefs y3_0).vFields).length cad8_6]) hg rfl) (gvt (vL Av3_0_0 v3.length cv3_0_0) hg rfl)) (taplineref08_placed.calls k (rd z_api_Def a0.vDefs y3_0) v3 Aad8_6 cad8_6 Av3_0_0 cv3_0_0 HS10.sees ((hq4 hg).2.2.2) ((hq4 hg).2.2.1) hrv3_0_0 hcv3_0_0 (of_pos H5 hg)))) ?_
       intro w11 hE6
       have HS11:=HS10.step hE6
       refine rgs ((rd z_api_Def a0.vDefs y3_0).vKind==4) true (vB (!v5)) rfl rfl rfl rfl (fun hg=>(r_not (gvt (vB v5) hg rfl))) ?_
       refine run_frame (by simp only [sc0,sc1];rfl) ?_
       refine rs (vB (((rd z_api_Def a0.vDefs y3_0).vKind==4)&&(!v5))) (r_pick_and rfl (fun hp=>(gvt (vB (!v5)) (and_i rfl hp) rfl)) rfl) ?_
       try simp only [sc0,sc1]
       refine run_nil ?_
       refine norm_then ?_
       refine wp_cond_split (t:=(((rd z_api_Def a0.vDefs y3_0).vKind==4)&&(!v5))) rfl (fun c8=>?_) (fun c8=>?_)
       ·replace H:=of_pos H c8
        refine wp_seq ?_
        refine region ?_
        refine rs (vI 80) (r_assign rfl) ?_
        try simp only [sc0,sc1]
        refine run_nil ?_
        refine norm_then ?_
        refine wp_ret ?_
        refine ret_block ?_
        refine ret_then ?_
        refine ret_loop ?_
        refine ret_then ?_
        obtain rfl:=Option.some.inj H
        obtain rfl:=Option.some.inj G3
        refine bodyPost_ret (results_1 rfl (one_tmp rfl)) rfl ?_
        exact ⟨rfl,HS11.toE⟩
       ·replace H:=of_neg H (nt c8)
        refine wp_skip ?_
        refine norm_block ?_
        refine norm_then ?_
        refine region ?_
        refine rs (vI y3_0) (r_move rfl) ?_
        refine rs (vI (w64 (y3_0+1))) (r_bin rfl rfl rfl) ?_
        refine rs (vI (w64 (y3_0+1))) (r_assign rfl) ?_
        try simp only [sc0,sc1]
        refine run_nil ?_
        refine again m [uy3_2,vI (w64 (y3_0+1)),vI y3_0,vP b1 0,vL A0_0 a0.vDefs.length c0_0,vI (a0.vDefs.length:Int),vB (decide (y3_0<(a0.vDefs.length:Int))),vI y3_0,vI (w64 (y3_0+1)),vL Av3_0_0 v3.length cv3_0_0,vI y3_0,Value.pointer (some (Addr.add ad5 (y3_0.toNat*1))),vI (rd 0 v3 y3_0),vB ((rd 0 v3 y3_0)==0),vB ((rd 0 v3 y3_0)==0),gv (true&&(((rd 0 v3 y3_0)==0)==false)) (vL Av3_0_0 v3.length cv3_0_0),gv (true&&(((rd 0 v3 y3_0)==0)==false)) (vI y3_0),gv (true&&(((rd 0 v3 y3_0)==0)==false)) (Value.pointer (some (Addr.add ad6 (y3_0.toNat*1)))),gv (true&&(((rd 0 v3 y3_0)==0)==false)) (vI (rd 0 v3 y3_0)),gv (true&&(((rd 0 v3 y3_0)==0)==false)) (vB (decide ((rd 0 v3 y3_0)>512))),vB (((rd 0 v3 y3_0)==0)||(decide ((rd 0 v3 y3_0)>512))),vB (((rd 0 v3 y3_0)==0)||(decide ((rd 0 v3 y3_0)>512))),gv (true&&((((rd 0 v3 y3_0)==0)||(decide ((rd 0 v3 y3_0)>512)))==false)) (Value.agg #[vL A0_0 a0.vDefs.length c0_0]),gv (true&&((((rd 0 v3 y3_0)==0)||(decide ((rd 0 v3 y3_0)>512)))==false)) (vI y3_0),gv (true&&((((rd 0 v3 y3_0)==0)||(decide ((rd 0 v3 y3_0)>512)))==false)) (vB v4),gv (true&&((((rd 0 v3 y3_0)==0)||(decide ((rd 0 v3 y3_0)>512)))==false)) (vB (!v4)),vB ((((rd 0 v3 y3_0)==0)||(decide ((rd 0 v3 y3_0)>512)))||(!v4)),vP b1 0,vL A0_0 a0.vDefs.length c0_0,vI y3_0,Value.pointer (some (Addr.add ad7 (y3_0.toNat*7))),Value.pointer (some (Addr.add (Addr.add ad7 (y3_0.toNat*7)) 0)),vI ((rd z_api_Def a0.vDefs y3_0).vKind),vB ((rd z_api_Def a0.vDefs y3_0).vKind==4),vB ((rd z_api_Def a0.vDefs y3_0).vKind==4),gv (true&&(((rd z_api_Def a0.vDefs y3_0).vKind==4)==true)) (vP b1 0),gv (true&&(((rd z_api_Def a0.vDefs y3_0).vKind==4)==true)) (vL A0_0 a0.vDefs.length c0_0),gv (true&&(((rd z_api_Def a0.vDefs y3_0).vKind==4)==true)) (vI y3_0),gv (true&&(((rd z_api_Def a0.vDefs y3_0).vKind==4)==true)) (Value.pointer (some (Addr.add ad8 (y3_0.toNat*7)))),gv (true&&(((rd z_api_Def a0.vDefs y3_0).vKind==4)==true)) (Value.agg #[vI ((rd z_api_Def a0.vDefs y3_0).vKind),vS ((rd z_api_Def a0.vDefs y3_0).vName),vI ((rd z_api_Def a0.vDefs y3_0).vInt.vSize),vB ((rd z_api_Def a0.vDefs y3_0).vInt.vSigned),vI ((rd z_api_Def a0.vDefs y3_0).vRef),vI ((rd z_api_Def a0.vDefs y3_0).vN),vL Aad8_6 ((rd z_api_Def a0.vDefs y3_0).vFields).length cad8_6]),gv (true&&(((rd z_api_Def a0.vDefs y3_0).vKind==4)==true)) (vL Av3_0_0 v3.length cv3_0_0),gv (true&&(((rd z_api_Def a0.vDefs y3_0).vKind==4)==true)) (vB v5),gv (true&&(((rd z_api_Def a0.vDefs y3_0).vKind==4)==true)) (vB (!v5)),vB (((rd z_api_Def a0.vDefs y3_0).vKind==4)&&(!v5))] (Nat.lt_succ_self m) (by simp only [patch,sc0,sc1]) ⟨(w64 (y3_0+1)),_,_,_,_,_,_,_,_,_,_,_,_,_,_,_,_,_,_,_,_,_,_,_,_,_,_,_,_,_,_,_,_,_,_,_,_,_,_,_,_,_,_,_,rfl,H,HS11⟩
     ·replace H:=of_neg H (nt c6)
      refine wp_exit ?_
      refine exit_then ?_
      obtain rfl:=Option.some.inj H
      refine leave [uy3_2,vI y3_0,vI y3_0,vP b1 0,vL A0_0 a0.vDefs.length c0_0,vI (a0.vDefs.length:Int),vB (decide (y3_0<(a0.vDefs.length:Int))),uy3_59,uy3_60,uy3_61,uy3_62,uy3_63,uy3_64,uy3_65,uy3_66,uy3_67,uy3_68,uy3_69,uy3_70,uy3_71,uy3_72,uy3_73,uy3_74,uy3_75,uy3_76,uy3_77,uy3_78,uy3_79,uy3_80,uy3_81,uy3_82,uy3_83,uy3_84,uy3_85,uy3_86,uy3_87,uy3_88,uy3_89,uy3_90,uy3_91,uy3_92,uy3_93,uy3_94,uy3_95] (by simp only [patch,sc0,sc1]) ⟨_,rfl,_,_,_,_,_,_,_,_,_,_,_,_,_,_,_,_,_,_,_,_,_,_,_,_,_,_,_,_,_,_,_,_,_,_,_,_,_,_,_,_,_,_,_,_,rfl,HS9⟩
   ·rintro us w12 ⟨s3,rfl,uo3_2,uo3_6,uo3_54,uo3_55,uo3_56,uo3_57,uo3_58,uo3_59,uo3_60,uo3_61,uo3_62,uo3_63,uo3_64,uo3_65,uo3_66,uo3_67,uo3_68,uo3_69,uo3_70,uo3_71,uo3_72,uo3_73,uo3_74,uo3_75,uo3_76,uo3_77,uo3_78,uo3_79,uo3_80,uo3_81,uo3_82,uo3_83,uo3_84,uo3_85,uo3_86,uo3_87,uo3_88,uo3_89,uo3_90,uo3_91,uo3_92,uo3_93,uo3_94,uo3_95,rfl,HS12⟩
    replace H:=G3
    clear G3
    try simp only [patch,sc0,sc1]
    refine norm_then ?_
    refine wp_seq ?_
    refine region ?_
    refine rs (vI 0) (r_assign rfl) ?_
    try simp only [sc0,sc1]
    refine run_nil ?_
    refine norm_then ?_
    refine wp_ret ?_
    obtain rfl:=Option.some.inj H
    refine bodyPost_ret (results_1 rfl (one_tmp rfl)) rfl ?_
    exact ⟨rfl,HS12.toE⟩

end Go.Proofs.YtfjppgobidjndaaDoor
namespace Go.Proofs.YtfjppgobidjndaaDoor
open Go.RowKit Go.M
def ctf_find_1.f (a0:api_Def) (x0:ByteArray):Option (Bool):=(ctf_named.f a0).bind fun v1=>(some (v1&&(strEq a0.vName x0)))
set_option maxRecDepth 20000 in
set_option maxHeartbeats 4000000 in
theorem ctf_find_1.calls (a0:api_Def) (x0:ByteArray) (A0_6:Option Addr) (c0_6:Nat) (bx0:Nat) {h0:View} {w0:World} (hv:Sees h0 w0) (hr0_6:Rd k_api_Field h0 A0_6 a0.vFields) (hc0_6:a0.vFields.length≤c0_6) (hx0:w0.heap[bx0]?=some (.cells #[vS x0] 9 (0,0))) {r:Bool} (H:ctf_find_1.f a0 x0=some r):Calls Tryd.prog 101 #[Value.agg #[vI a0.vKind,vS a0.vName,vI a0.vInt.vSize,vB a0.vInt.vSigned,vI a0.vRef,vI a0.vN,vL A0_6 a0.vFields.length c0_6],vP bx0 0] w0 (fun e w1=>e= .returned (vB r)∧Ext w0 w1):=by
 unfold ctf_find_1.f at H
 have HS:St [] h0 w0 h0 [] w0:=St.init hv
 go_enter Tryd.func101,Tryd.ntmps101
 refine wp_seq ?_
 refine region ?_
 refine run_ex rfl rfl (does_box (cs:=#[vI a0.vKind,vS a0.vName,vI a0.vInt.vSize,vB a0.vInt.vSigned,vI a0.vRef,vI a0.vN,vL A0_6 a0.vFields.length c0_6]) rfl rfl) ?_
 rintro w1 _ hE1 ⟨b1,rfl,ge1,hb1⟩
 have HS1:=HS.new hE1 ge1 hb1
 refine rs (vB false) (r_assign rfl) ?_
 try simp only [sc0,sc1]
 refine run_nil ?_
 refine norm_then ?_
 refine wp_seq ?_
 refine region ?_
 refine rs (Value.agg #[vI a0.vKind,vS a0.vName,vI a0.vInt.vSize,vB a0.vInt.vSigned,vI a0.vRef,vI a0.vN,vL A0_6 a0.vFields.length c0_6]) (r_loadBoxAgg (n:=7) (vs:=[vI a0.vKind,vS a0.vName,vI a0.vInt.vSize,vB a0.vInt.vSigned,vI a0.vRef,vI a0.vN,vL A0_6 a0.vFields.length c0_6]) rfl Tryd.isAgg34 (HS1.look 0 rfl) Tryd.sizeOf34 rfl rfl) ?_
 obtain ⟨v1,H1,H⟩:=of_bind H
 refine run_eq (v:=vB v1) rfl rfl (does_call_eq Tryd.call68 rfl rfl (ctf_named.calls a0 A0_6 c0_6 HS1.sees hr0_6 hc0_6 H1)) ?_
 intro w2 hE2
 have HS2:=HS1.step hE2
 refine rs (vB v1) (r_move rfl) ?_
 refine rgs v1 true (vP b1 1) rfl rfl rfl rfl (fun hg=>(r_fieldBox (n:=1) (o':=1) rfl Tryd.runUnderlying34 rfl Tryd.sizeOf9 (by decide) rfl)) ?_
 refine run_frame (by simp only [sc0,sc1];rfl) ?_
 refine rgs v1 true (vS a0.vName) rfl rfl rfl rfl (fun hg=>(r_loadBox (gvt (vP b1 1) hg rfl) Tryd.isAgg9 (HS2.look 0 rfl) rfl)) ?_
 refine rgs v1 true (vS x0) rfl rfl rfl rfl (fun hg=>(r_loadBox rfl Tryd.isAgg9 (heap_ext hx0 HS2.toE) rfl)) ?_
 refine rgs v1 true (vB (strEq a0.vName x0)) rfl rfl rfl rfl (fun hg=>(r_streql (gvt (vS a0.vName) hg rfl) (gvt (vS x0) hg rfl))) ?_
 refine rs (vB (v1&&(strEq a0.vName x0))) (r_pick_and rfl (fun hp=>(gvt (vB (strEq a0.vName x0)) (and_i rfl hp) rfl)) rfl) ?_
 refine run_frame (by simp only [sc0,sc1];rfl) ?_
 refine rs (vB (v1&&(strEq a0.vName x0))) (r_assign rfl) ?_
 try simp only [sc0,sc1]
 refine run_nil ?_
 refine norm_then ?_
 refine wp_ret ?_
 obtain rfl:=Option.some.inj H
 refine bodyPost_ret (results_1 rfl (one_tmp rfl)) rfl ?_
 exact ⟨rfl,HS2.toE⟩

end Go.Proofs.YtfjppgobidjndaaDoor
namespace Go.Proofs.YtfjppgobidjndaaDoor
open Go.RowKit Go.M
def ctf_find.f (k:Nat) (a0:api_Types) (a1:ByteArray):Option (Int):=(slices_IndexFunc_api_Def_api_Def.f k a0.vDefs (fun z0=>ctf_find_1.f z0 a1)).bind fun v1=>(some v1)
set_option maxRecDepth 20000 in
set_option maxHeartbeats 4000000 in
theorem ctf_find.calls (k:Nat) (a0:api_Types) (a1:ByteArray) (A0_0:Option Addr) (c0_0:Nat) {h0:View} {w0:World} (hv:Sees h0 w0) (hr0_0:Rd k_api_Def h0 A0_0 a0.vDefs) (hc0_0:a0.vDefs.length≤c0_0) {r:Int} (H:ctf_find.f k a0 a1=some r):Calls Tryd.prog 54 #[Value.agg #[vL A0_0 a0.vDefs.length c0_0],vS a1] w0 (fun e w1=>e= .returned (vI r)∧Ext w0 w1):=by
 unfold ctf_find.f at H
 have HS:St [] h0 w0 h0 [] w0:=St.init hv
 go_enter Tryd.func54,Tryd.ntmps54
 refine wp_seq ?_
 refine region ?_
 refine run_ex rfl rfl (does_box (cs:=#[vL A0_0 a0.vDefs.length c0_0]) rfl rfl) ?_
 rintro w1 _ hE1 ⟨b1,rfl,ge1,hb1⟩
 have HS1:=HS.new hE1 ge1 hb1
 refine run_ex rfl rfl (does_box (cs:=#[vS a1]) rfl rfl) ?_
 rintro w2 _ hE2 ⟨b2,rfl,ge2,hb2⟩
 have HS2:=HS1.new hE2 ge2 hb2
 refine rs (vI 0) (r_assign rfl) ?_
 try simp only [sc0,sc1]
 refine run_nil ?_
 refine norm_then ?_
 refine wp_seq ?_
 refine region ?_
 refine rs (vP b1 0) (r_fieldBox (n:=1) (o':=0) rfl Tryd.runUnderlying24 rfl Tryd.sizeOf22 (by decide) rfl) ?_
 refine rs (vL A0_0 a0.vDefs.length c0_0) (r_loadBox rfl Tryd.isAgg22 (HS2.look 1 rfl) rfl) ?_
 refine rs (Value.func (.func 101) #[] #[vP b2 0]) (r_makeFunc (vs:=[vP b2 0]) rfl) ?_
 obtain ⟨v1,H1,H⟩:=of_bind H
 refine run_eq (v:=vI v1) rfl rfl (does_call_eq Tryd.call100 rfl rfl (slices_IndexFunc_api_Def_api_Def.calls k a0.vDefs (fun z0=>ctf_find_1.f z0 a1) A0_0 c0_0 101 [vP b2 0] HS2.sees hr0_0 hc0_0 Tryd.call101 (fun z0 Az0_6 cz0_6 h w hE hs hv hz0_6 hzc0_6 r H=>ctf_find_1.calls z0 a1 Az0_6 cz0_6 b2 hv hz0_6 hzc0_6 (heap_ext (HS2.look 0 rfl) hE) H) H1)) ?_
 intro w3 hE3
 have HS3:=HS2.step hE3
 refine run_frame (by simp only [sc0,sc1];rfl) ?_
 refine rs (vI v1) (r_assign rfl) ?_
 try simp only [sc0,sc1]
 refine run_nil ?_
 refine norm_then ?_
 refine wp_ret ?_
 obtain rfl:=Option.some.inj H
 refine bodyPost_ret (results_1 rfl (one_tmp rfl)) rfl ?_
 exact ⟨rfl,HS3.toE⟩

end Go.Proofs.YtfjppgobidjndaaDoor
namespace Go.Proofs.YtfjppgobidjndaaDoor
open Go.RowKit Go.M
def ctf_Lookup.f (k:Nat) (a0:api_Types) (a1:ByteArray):Option (Int×Int):=(ctf_valid.f k a0).bind fun v1=>(if (!v1)=true then (some (0,80)) else ((ctf_find.f k a0 a1).bind fun v2=>(if (decide (v2<0))=true then (some (0,3)) else (some (v2,0)))))
set_option maxRecDepth 20000 in
set_option maxHeartbeats 4000000 in
theorem ctf_Lookup.calls (k:Nat) (a0:api_Types) (a1:ByteArray) (A0_0:Option Addr) (c0_0:Nat) {h0:View} {w0:World} (hv:Sees h0 w0) (hr0_0:Rd k_api_Def h0 A0_0 a0.vDefs) (hc0_0:a0.vDefs.length≤c0_0) {r:Int×Int} (H:ctf_Lookup.f k a0 a1=some r):Calls Tryd.prog 21 #[Value.agg #[vL A0_0 a0.vDefs.length c0_0],vS a1] w0 (fun e w1=>e= .returned (Value.tuple #[vI r.1,vI r.2])∧Ext w0 w1):=by
 unfold ctf_Lookup.f at H
 have HS:St [] h0 w0 h0 [] w0:=St.init hv
 go_enter Tryd.func21,Tryd.ntmps21
 refine wp_seq ?_
 refine region ?_
 refine run_ex rfl rfl (does_box (cs:=#[vL A0_0 a0.vDefs.length c0_0]) rfl rfl) ?_
 rintro w1 _ hE1 ⟨b1,rfl,ge1,hb1⟩
 have HS1:=HS.new hE1 ge1 hb1
 refine rs (vI 0) (r_assign rfl) ?_
 refine rs (vI 0) (r_assign rfl) ?_
 try simp only [sc0,sc1]
 refine run_nil ?_
 refine norm_then ?_
 refine wp_seq ?_
 refine wp_seq ?_
 refine region ?_
 refine rs (Value.agg #[vL A0_0 a0.vDefs.length c0_0]) (r_loadBoxAgg (n:=1) (vs:=[vL A0_0 a0.vDefs.length c0_0]) rfl Tryd.isAgg24 (HS1.look 0 rfl) Tryd.sizeOf24 rfl rfl) ?_
 obtain ⟨v1,H1,H⟩:=of_bind H
 refine run_eq (v:=vB v1) rfl rfl (does_call_eq Tryd.call47 rfl rfl (ctf_valid.calls k a0 A0_0 c0_0 HS1.sees hr0_0 hc0_0 H1)) ?_
 intro w2 hE2
 have HS2:=HS1.step hE2
 refine rs (vB (!v1)) (r_not rfl) ?_
 try simp only [sc0,sc1]
 refine run_nil ?_
 refine norm_then ?_
 refine wp_cond_split (t:=(!v1)) rfl (fun c1=>?_) (fun c1=>?_)
 ·replace H:=of_pos H c1
  refine wp_seq ?_
  refine region ?_
  refine rs (vI 0) (r_assign rfl) ?_
  refine rs (vI 80) (r_assign rfl) ?_
  try simp only [sc0,sc1]
  refine run_nil ?_
  refine norm_then ?_
  refine wp_ret ?_
  refine ret_then ?_
  obtain rfl:=Option.some.inj H
  refine bodyPost_ret (results_2 rfl (one_tmp rfl) (one_tmp rfl)) rfl ?_
  exact ⟨rfl,HS2.toE⟩
 ·replace H:=of_neg H (nt c1)
  refine wp_skip ?_
  refine norm_then ?_
  refine wp_seq ?_
  refine region ?_
  refine rs (Value.agg #[vL A0_0 a0.vDefs.length c0_0]) (r_loadBoxAgg (n:=1) (vs:=[vL A0_0 a0.vDefs.length c0_0]) rfl Tryd.isAgg24 (HS2.look 0 rfl) Tryd.sizeOf24 rfl rfl) ?_
  refine rs (vS a1) (r_move rfl) ?_
  obtain ⟨v2,H2,H⟩:=of_bind H
  refine run_eq (v:=vI v2) rfl rfl (does_call_eq Tryd.call54 rfl rfl (ctf_find.calls k a0 a1 A0_0 c0_0 HS2.sees hr0_0 hc0_0 H2)) ?_
  intro w3 hE3
  have HS3:=HS2.step hE3
  refine rs (vI v2) (r_assign rfl) ?_
  try simp only [sc0,sc1]
  refine run_nil ?_
  refine norm_then ?_
  refine wp_seq ?_
  refine wp_seq ?_
  refine region ?_
  refine rs (vI v2) (r_move rfl) ?_
  refine rs (vB (decide (v2<0))) (r_bin rfl rfl rfl) ?_
  try simp only [sc0,sc1]
  refine run_nil ?_
  refine norm_then ?_
  refine wp_cond_split (t:=(decide (v2<0))) rfl (fun c2=>?_) (fun c2=>?_)
  ·replace H:=of_pos H c2
   refine wp_seq ?_
   refine region ?_
   refine rs (vI 0) (r_assign rfl) ?_
   refine rs (vI 3) (r_assign rfl) ?_
   try simp only [sc0,sc1]
   refine run_nil ?_
   refine norm_then ?_
   refine wp_ret ?_
   refine ret_then ?_
   obtain rfl:=Option.some.inj H
   refine bodyPost_ret (results_2 rfl (one_tmp rfl) (one_tmp rfl)) rfl ?_
   exact ⟨rfl,HS3.toE⟩
  ·replace H:=of_neg H (nt c2)
   refine wp_skip ?_
   refine norm_then ?_
   refine wp_seq ?_
   refine region ?_
   refine rs (vI v2) (r_move rfl) ?_
   refine rs (vI v2) (r_assign rfl) ?_
   refine rs (vI 0) (r_assign rfl) ?_
   try simp only [sc0,sc1]
   refine run_nil ?_
   refine norm_then ?_
   refine wp_ret ?_
   obtain rfl:=Option.some.inj H
   refine bodyPost_ret (results_2 rfl (one_tmp rfl) (one_tmp rfl)) rfl ?_
   exact ⟨rfl,HS3.toE⟩

end Go.Proofs.YtfjppgobidjndaaDoor
namespace Go.Proofs.YtfjppgobidjndaaDoor
open Go.RowKit Go.M
def taplineref08_given.f (k:Nat) (a0:api_Types) (a1:Int):Option (Int):=(taplineref08_Check.f k a0).bind fun v1=>((if (true&&((v1==0)==true))=true then taplineref08_Index.f a0 a1 else some false).bind fun v2=>(((if ((v1==0)&&(!v2))=true then (some 3) else (some v1)):Option (Int)).bind fun xx1=>(some xx1)))
set_option maxRecDepth 20000 in
set_option maxHeartbeats 4000000 in
theorem taplineref08_given.calls (k:Nat) (a0:api_Types) (a1:Int) (A0_0:Option Addr) (c0_0:Nat) {h0:View} {w0:World} (hv:Sees h0 w0) (hr0_0:Rd k_api_Def h0 A0_0 a0.vDefs) (hc0_0:a0.vDefs.length≤c0_0) {r:Int} (H:taplineref08_given.f k a0 a1=some r):Calls Tryd.prog 55 #[Value.agg #[vL A0_0 a0.vDefs.length c0_0],vI a1] w0 (fun e w1=>e= .returned (vI r)∧Ext w0 w1):=by
 unfold taplineref08_given.f at H
 have HS:St [] h0 w0 h0 [] w0:=St.init hv
 go_enter Tryd.func55,Tryd.ntmps55
 refine wp_seq ?_
 refine region ?_
 refine run_ex rfl rfl (does_box (cs:=#[vL A0_0 a0.vDefs.length c0_0]) rfl rfl) ?_
 rintro w1 _ hE1 ⟨b1,rfl,ge1,hb1⟩
 have HS1:=HS.new hE1 ge1 hb1
 refine rs (vI 0) (r_assign rfl) ?_
 try simp only [sc0,sc1]
 refine run_nil ?_
 refine norm_then ?_
 refine wp_seq ?_
 refine region ?_
 refine rs (Value.agg #[vL A0_0 a0.vDefs.length c0_0]) (r_loadBoxAgg (n:=1) (vs:=[vL A0_0 a0.vDefs.length c0_0]) rfl Tryd.isAgg24 (HS1.look 0 rfl) Tryd.sizeOf24 rfl rfl) ?_
 obtain ⟨v1,H1,H⟩:=of_bind H
 refine run_eq (v:=vI v1) rfl rfl (does_call_eq Tryd.call19 rfl rfl (taplineref08_Check.calls k a0 A0_0 c0_0 HS1.sees hr0_0 hc0_0 H1)) ?_
 intro w2 hE2
 have HS2:=HS1.step hE2
 refine rs (vI v1) (r_assign rfl) ?_
 try simp only [sc0,sc1]
 refine run_nil ?_
 refine norm_then ?_
 refine wp_seq ?_
 refine wp_seq ?_
 refine region ?_
 refine rs (vI v1) (r_move rfl) ?_
 refine rs (vB (v1==0)) (r_bin rfl rfl rfl) ?_
 refine rs (vB (v1==0)) (r_move rfl) ?_
 refine rgs (v1==0) true (Value.agg #[vL A0_0 a0.vDefs.length c0_0]) rfl rfl rfl rfl (fun hg=>(r_loadBoxAgg (n:=1) (vs:=[vL A0_0 a0.vDefs.length c0_0]) rfl Tryd.isAgg24 (HS2.look 0 rfl) Tryd.sizeOf24 rfl rfl)) ?_
 refine run_frame (by simp only [sc0,sc1];rfl) ?_
 refine rgs (v1==0) true (vI a1) rfl rfl rfl rfl (fun hg=>(r_move rfl)) ?_
 obtain ⟨v2,H2,H⟩:=of_bind H
 refine run_g (b:=(v1==0)) (c:=true) (v:=vB v2) rfl rfl rfl rfl (fun hg=>(does_call_eq Tryd.call96 rfl (map2 (gvt (Value.agg #[vL A0_0 a0.vDefs.length c0_0]) hg rfl) (gvt (vI a1) hg rfl)) (taplineref08_Index.calls a0 a1 A0_0 c0_0 HS2.sees hr0_0 hc0_0 (of_pos H2 hg)))) ?_
 intro w3 hE3
 have HS3:=HS2.step hE3
 refine rgs (v1==0) true (vB (!v2)) rfl rfl rfl rfl (fun hg=>(r_not (gvt (vB v2) hg rfl))) ?_
 refine rs (vB ((v1==0)&&(!v2))) (r_pick_and rfl (fun hp=>(gvt (vB (!v2)) (and_i rfl hp) rfl)) rfl) ?_
 try simp only [sc0,sc1]
 refine run_nil ?_
 refine norm_then ?_
 obtain ⟨xx1,H,G1⟩:=of_bind H
 refine cut_patch [5] (fun us w'=>us=[vI xx1]∧St [] h0 w0 h0 [(some b1, .cells #[vL A0_0 a0.vDefs.length c0_0] 24 (0,0))] w') ?_ ?_
 ·refine wp_cond_split (t:=((v1==0)&&(!v2))) rfl (fun c1=>?_) (fun c1=>?_)
  ·replace H:=of_pos H c1
   refine region ?_
   refine rs (vI 3) (r_assign rfl) ?_
   try simp only [sc0,sc1]
   refine run_nil ?_
   obtain rfl:=Option.some.inj H
   refine met [vI 3] (by simp only [patch,sc0,sc1]) ⟨rfl,HS3⟩
  ·replace H:=of_neg H (nt c1)
   refine wp_skip ?_
   obtain rfl:=Option.some.inj H
   refine met [vI v1] (by simp only [patch,sc0,sc1]) ⟨rfl,HS3⟩
 ·rintro _ w4 ⟨rfl,HS4⟩
  replace H:=G1
  clear G1
  try simp only [patch,sc0,sc1]
  refine wp_seq ?_
  refine region ?_
  refine rs (vI xx1) (r_move rfl) ?_
  refine rs (vI xx1) (r_assign rfl) ?_
  try simp only [sc0,sc1]
  refine run_nil ?_
  refine norm_then ?_
  refine wp_ret ?_
  obtain rfl:=Option.some.inj H
  refine bodyPost_ret (results_1 rfl (one_tmp rfl)) rfl ?_
  exact ⟨rfl,HS4.toE⟩

end Go.Proofs.YtfjppgobidjndaaDoor
namespace Go.Proofs.YtfjppgobidjndaaDoor
open Go.RowKit Go.M
def taplineref08_Size.f (k:Nat) (a0:api_Types) (a1:Int):Option (taplineref08_Number):=(taplineref08_given.f k a0 a1).bind fun v1=>(if (v1 !=0)=true then (some (⟨0,v1⟩:taplineref08_Number)) else ((taplineref08_sizes.f k a0).bind fun v2=>(if 0≤a1∧a1<v2.length then (some (⟨(rd 0 v2 a1),0⟩:taplineref08_Number)) else none)))
set_option maxRecDepth 20000 in
set_option maxHeartbeats 4000000 in
theorem taplineref08_Size.calls (k:Nat) (a0:api_Types) (a1:Int) (A0_0:Option Addr) (c0_0:Nat) {h0:View} {w0:World} (hv:Sees h0 w0) (hr0_0:Rd k_api_Def h0 A0_0 a0.vDefs) (hc0_0:a0.vDefs.length≤c0_0) {r:taplineref08_Number} (H:taplineref08_Size.f k a0 a1=some r):Calls Tryd.prog 22 #[Value.agg #[vL A0_0 a0.vDefs.length c0_0],vI a1] w0 (fun e w1=>e= .returned (Value.agg #[vI r.vN,vI r.vE])∧Ext w0 w1):=by
 unfold taplineref08_Size.f at H
 have HS:St [] h0 w0 h0 [] w0:=St.init hv
 go_enter Tryd.func22,Tryd.ntmps22
 refine wp_seq ?_
 refine region ?_
 refine run_ex rfl rfl (does_box (cs:=#[vL A0_0 a0.vDefs.length c0_0]) rfl rfl) ?_
 rintro w1 _ hE1 ⟨b1,rfl,ge1,hb1⟩
 have HS1:=HS.new hE1 ge1 hb1
 refine run_ex rfl rfl (does_alloc (cs:=#[vI 0,vI 0]) Tryd.zeroValue49 rfl) ?_
 rintro w2 _ hE2 ⟨b2,rfl,ge2,hb2⟩
 have HS2:=HS1.new hE2 ge2 hb2
 try simp only [sc0,sc1]
 refine run_nil ?_
 refine norm_then ?_
 refine wp_seq ?_
 refine region ?_
 refine rs (Value.agg #[vL A0_0 a0.vDefs.length c0_0]) (r_loadBoxAgg (n:=1) (vs:=[vL A0_0 a0.vDefs.length c0_0]) rfl Tryd.isAgg24 (HS2.look 1 rfl) Tryd.sizeOf24 rfl rfl) ?_
 refine rs (vI a1) (r_move rfl) ?_
 obtain ⟨v1,H1,H⟩:=of_bind H
 refine run_eq (v:=vI v1) rfl rfl (does_call_eq Tryd.call55 rfl rfl (taplineref08_given.calls k a0 a1 A0_0 c0_0 HS2.sees hr0_0 hc0_0 H1)) ?_
 intro w3 hE3
 have HS3:=HS2.step hE3
 refine rs (vI v1) (r_assign rfl) ?_
 try simp only [sc0,sc1]
 refine run_nil ?_
 refine norm_then ?_
 refine wp_seq ?_
 refine wp_seq ?_
 refine region ?_
 refine rs (vI v1) (r_move rfl) ?_
 refine rs (vB (v1 !=0)) (r_bin rfl rfl rfl) ?_
 try simp only [sc0,sc1]
 refine run_nil ?_
 refine norm_then ?_
 refine wp_cond_split (t:=(v1 !=0)) rfl (fun c1=>?_) (fun c1=>?_)
 ·replace H:=of_pos H c1
  refine wp_seq ?_
  refine region ?_
  refine rs (vI v1) (r_move rfl) ?_
  refine rs (Value.agg #[vI 0,vI v1]) (r_build (cs:=[vI 0,vI v1]) (ps:=[(1,vI v1)]) Tryd.zeroValue49 Tryd.runUnderlying49 (pl:=#[(0,1),(1,1)]) (fun w=>by simp [Tryd.sizeOf27,Tryd.sizeOf3]) (parts_1 (show _=vI v1 from rfl)) rfl) ?_
  refine run_st (i:=0) (cs:=[vI 0,vI 0]) (cs':=[vI 0,vI v1]) (vs:=[vI 0,vI v1]) (bs':=[(some b2, .cells #[vI 0,vI v1] 49 (0,0)),(some b1, .cells #[vL A0_0 a0.vDefs.length c0_0] 24 (0,0))]) rfl rfl Tryd.sizeOf49 rfl rfl (by decide) rfl HS3 rfl (Nat.le_of_ble_eq_true rfl) rfl rfl ?_
  intro w4 HS4
  try simp only [sc0,sc1]
  refine run_nil ?_
  refine norm_then ?_
  refine wp_ret ?_
  refine ret_then ?_
  obtain rfl:=Option.some.inj H
  refine bodyPost_ret (results_1 rfl (one_agg rfl Tryd.isAgg49 (HS4.look 0 rfl) Tryd.sizeOf49 rfl)) rfl ?_
  exact ⟨rfl,HS4.toE⟩
 ·replace H:=of_neg H (nt c1)
  refine wp_skip ?_
  refine norm_then ?_
  refine wp_seq ?_
  refine region ?_
  refine rs (Value.agg #[vL A0_0 a0.vDefs.length c0_0]) (r_loadBoxAgg (n:=1) (vs:=[vL A0_0 a0.vDefs.length c0_0]) rfl Tryd.isAgg24 (HS3.look 1 rfl) Tryd.sizeOf24 rfl rfl) ?_
  obtain ⟨v2,H2,H⟩:=of_bind H
  refine run_ex rfl rfl (does_call Tryd.call50 rfl (gives_in (h:=h0) (R:=(fun hx u=>∃(Av2_0_0:Option Addr) (cv2_0_0:Nat),u=vL Av2_0_0 v2.length cv2_0_0∧v2.length≤cv2_0_0∧Rd (Kd.int .i64) hx Av2_0_0 v2)) (Ext.rfl' w3) ((taplineref08_sizes.calls k a0 A0_0 c0_0 HS3.sees hr0_0 hc0_0 H2).mono ?_)) rfl) ?_
  ·rintro _ _ ⟨h1,Av2_0_0,cv2_0_0,rfl,hcv2_0_0,hrv2_0_0,g,ss,x⟩
   exact ⟨h1,_,rfl,⟨Av2_0_0,cv2_0_0,rfl,hcv2_0_0,hrv2_0_0⟩,g,ss,x⟩
  rintro w5 _ hE4 ⟨h1,⟨Av2_0_0,cv2_0_0,rfl,hcv2_0_0,hrv2_0_0⟩,gr1,se1⟩
  have HS5:=HS3.view hE4 gr1 se1
  refine rs (vI a1) (r_move rfl) ?_
  obtain ⟨hi1,H⟩:=of_ite H
  obtain ⟨ad1,e1,hel1⟩:=ld_int hrv2_0_0 hi1.1 hi1.2
  refine rs (Value.pointer (some (Addr.add ad1 (a1.toNat*1)))) (r_indexA (sz:=1) rfl e1 rfl hi1.1 hi1.2 Tryd.runUnderlying62 Tryd.sizeOf3) ?_
  refine run_frame (by simp only [sc0,sc1];rfl) ?_
  refine rs (vI (rd 0 v2 a1)) (r_load rfl Tryd.isAgg3 (hel1.cell0 HS5.sees rfl)) ?_
  refine rs (Value.agg #[vI (rd 0 v2 a1),vI 0]) (r_build (cs:=[vI (rd 0 v2 a1),vI 0]) (ps:=[(0,vI (rd 0 v2 a1))]) Tryd.zeroValue49 Tryd.runUnderlying49 (pl:=#[(0,1),(1,1)]) (fun w=>by simp [Tryd.sizeOf27,Tryd.sizeOf3]) (parts_1 (show _=vI (rd 0 v2 a1) from rfl)) rfl) ?_
  refine run_st (i:=0) (cs:=[vI 0,vI 0]) (cs':=[vI (rd 0 v2 a1),vI 0]) (vs:=[vI (rd 0 v2 a1),vI 0]) (bs':=[(some b2, .cells #[vI (rd 0 v2 a1),vI 0] 49 (0,0)),(some b1, .cells #[vL A0_0 a0.vDefs.length c0_0] 24 (0,0))]) rfl rfl Tryd.sizeOf49 rfl rfl (by decide) rfl HS5 rfl (Nat.le_of_ble_eq_true rfl) rfl rfl ?_
  intro w6 HS6
  try simp only [sc0,sc1]
  refine run_nil ?_
  refine norm_then ?_
  refine wp_ret ?_
  obtain rfl:=Option.some.inj H
  refine bodyPost_ret (results_1 rfl (one_agg rfl Tryd.isAgg49 (HS6.look 0 rfl) Tryd.sizeOf49 rfl)) rfl ?_
  exact ⟨rfl,HS6.toE⟩

end Go.Proofs.YtfjppgobidjndaaDoor
namespace Go.Proofs.YtfjppgobidjndaaDoor
open Go.RowKit Go.M
def taplineref08_Digits.f:Nat→Int→Option (ByteArray)
 |0,_=>none
 |k+1,a0=>if (decide (a0<10))=true then (if 0≤a0∧a0≤(IntKind.wrap .i64 (a0+1))∧(IntKind.wrap .i64 (a0+1))≤((⟨#[48,49,50,51,52,53,54,55,56,57]⟩:ByteArray).size:Int) then (some (subStr (⟨#[48,49,50,51,52,53,54,55,56,57]⟩:ByteArray) a0 (IntKind.wrap .i64 (a0+1)))) else none) else ((taplineref08_Digits.f k (iQuo .i64 a0 10)).bind fun v1=>((taplineref08_Digits.f k (iRem a0 10)).bind fun v2=>(if v1.size+v2.size≤9223372036854775807 then (some (v1++v2)) else none)))
set_option maxRecDepth 20000 in
set_option maxHeartbeats 4000000 in
theorem taplineref08_Digits.calls:∀(k:Nat) (a0:Int) {h0:View} {w0:World} (hv:Sees h0 w0) {r:ByteArray} (H:taplineref08_Digits.f k a0=some r),Calls Tryd.prog 102 #[vI a0] w0 (fun e w1=>e= .returned (vS r)∧Ext w0 w1):=by
 intro k
 induction k with
 |zero=>
  intros
  rename_i H
  exact absurd H (by simp [taplineref08_Digits.f])
 |succ k ih=>
  intro a0 h0 w0 hv r H
  rw [taplineref08_Digits.f] at H
  have HS:St [] h0 w0 h0 [] w0:=St.init hv
  go_enter Tryd.func102,Tryd.ntmps102
  refine wp_seq ?_
  refine region ?_
  refine rs (vS ByteArray.empty) (r_assign rfl) ?_
  try simp only [sc0,sc1]
  refine run_nil ?_
  refine norm_then ?_
  refine wp_seq ?_
  refine wp_seq ?_
  refine region ?_
  refine rs (vI a0) (r_move rfl) ?_
  refine rs (vB (decide (a0<10))) (r_bin rfl rfl rfl) ?_
  try simp only [sc0,sc1]
  refine run_nil ?_
  refine norm_then ?_
  refine wp_cond_split (t:=(decide (a0<10))) rfl (fun c1=>?_) (fun c1=>?_)
  ·replace H:=of_pos H c1
   refine wp_seq ?_
   refine region ?_
   refine rs (vI a0) (r_move rfl) ?_
   refine rs (vI a0) (r_move rfl) ?_
   refine rs (vI (w64 (a0+1))) (r_bin rfl rfl rfl) ?_
   obtain ⟨hk1,H⟩:=of_ite H
   refine rs (vS (subStr (⟨#[48,49,50,51,52,53,54,55,56,57]⟩:ByteArray) a0 (w64 (a0+1)))) (r_subStr rfl Tryd.runUnderlying9 rfl rfl hk1) ?_
   refine run_frame (by simp only [sc0,sc1];rfl) ?_
   refine rs (vS (subStr (⟨#[48,49,50,51,52,53,54,55,56,57]⟩:ByteArray) a0 (w64 (a0+1)))) (r_assign rfl) ?_
   try simp only [sc0,sc1]
   refine run_nil ?_
   refine norm_then ?_
   refine wp_ret ?_
   refine ret_then ?_
   obtain rfl:=Option.some.inj H
   refine bodyPost_ret (results_1 rfl (one_tmp rfl)) rfl ?_
   exact ⟨rfl,HS.toE⟩
  ·replace H:=of_neg H (nt c1)
   refine wp_skip ?_
   refine norm_then ?_
   refine wp_seq ?_
   refine region ?_
   refine rs (vI a0) (r_move rfl) ?_
   refine rs (vI (iQuo .i64 a0 10)) (r_quo rfl rfl (by decide)) ?_
   obtain ⟨v1,H1,H⟩:=of_bind H
   refine run_eq (v:=vS v1) rfl rfl (does_call_eq Tryd.call102 rfl rfl (ih (iQuo .i64 a0 10) HS.sees H1)) ?_
   intro w1 hE1
   have HS1:=HS.step hE1
   refine rs (vI a0) (r_move rfl) ?_
   refine run_frame (by simp only [sc0,sc1];rfl) ?_
   refine rs (vI (iRem a0 10)) (r_rem rfl rfl (by decide)) ?_
   obtain ⟨v2,H2,H⟩:=of_bind H
   refine run_eq (v:=vS v2) rfl rfl (does_call_eq Tryd.call102 rfl rfl (ih (iRem a0 10) HS1.sees H2)) ?_
   intro w2 hE2
   have HS2:=HS1.step hE2
   obtain ⟨hb3,H⟩:=of_ite H
   refine rs (vS (v1++v2)) (r_stradd rfl rfl hb3) ?_
   refine rs (vS (v1++v2)) (r_assign rfl) ?_
   try simp only [sc0,sc1]
   refine run_nil ?_
   refine norm_then ?_
   refine wp_ret ?_
   obtain rfl:=Option.some.inj H
   refine bodyPost_ret (results_1 rfl (one_tmp rfl)) rfl ?_
   exact ⟨rfl,HS2.toE⟩

end Go.Proofs.YtfjppgobidjndaaDoor
namespace Go.Proofs.YtfjppgobidjndaaDoor
open Go.RowKit Go.M
def taplineref08_Text.f:Nat→api_Types→Int→Option (ByteArray)
 |0,_,_=>none
 |k+1,a0,a1=>if 0≤a1∧a1<a0.vDefs.length then (if ((rd z_api_Def a0.vDefs a1).vKind==2)=true then ((taplineref08_Text.f k a0 ((rd z_api_Def a0.vDefs a1).vRef)).bind fun v1=>(if v1.size+(⟨#[32,42]⟩:ByteArray).size≤9223372036854775807 then (some (v1++(⟨#[32,42]⟩:ByteArray))) else none)) else (if ((rd z_api_Def a0.vDefs a1).vKind==3)=true then ((taplineref08_Text.f k a0 ((rd z_api_Def a0.vDefs a1).vRef)).bind fun v2=>(if v2.size+(⟨#[32,91]⟩:ByteArray).size≤9223372036854775807 then ((taplineref08_Digits.f k ((rd z_api_Def a0.vDefs a1).vN)).bind fun v3=>(if (v2++(⟨#[32,91]⟩:ByteArray)).size+v3.size≤9223372036854775807 then (if ((v2++(⟨#[32,91]⟩:ByteArray))++v3).size+(⟨#[93]⟩:ByteArray).size≤9223372036854775807 then (some (((v2++(⟨#[32,91]⟩:ByteArray))++v3)++(⟨#[93]⟩:ByteArray))) else none) else none)) else none)) else (some ((rd z_api_Def a0.vDefs a1).vName)))) else none
set_option maxRecDepth 20000 in
set_option maxHeartbeats 4000000 in
theorem taplineref08_Text.calls:∀(k:Nat) (a0:api_Types) (a1:Int) (A0_0:Option Addr) (c0_0:Nat) {h0:View} {w0:World} (hv:Sees h0 w0) (hr0_0:Rd k_api_Def h0 A0_0 a0.vDefs) (hc0_0:a0.vDefs.length≤c0_0) {r:ByteArray} (H:taplineref08_Text.f k a0 a1=some r),Calls Tryd.prog 56 #[Value.agg #[vL A0_0 a0.vDefs.length c0_0],vI a1] w0 (fun e w1=>e= .returned (vS r)∧Ext w0 w1):=by
 intro k
 induction k with
 |zero=>
  intros
  rename_i H
  exact absurd H (by simp [taplineref08_Text.f])
 |succ k ih=>
  intro a0 a1 A0_0 c0_0 h0 w0 hv hr0_0 hc0_0 r H
  rw [taplineref08_Text.f] at H
  have HS:St [] h0 w0 h0 [] w0:=St.init hv
  go_enter Tryd.func56,Tryd.ntmps56
  refine wp_seq ?_
  refine region ?_
  refine run_ex rfl rfl (does_box (cs:=#[vL A0_0 a0.vDefs.length c0_0]) rfl rfl) ?_
  rintro w1 _ hE1 ⟨b1,rfl,ge1,hb1⟩
  have HS1:=HS.new hE1 ge1 hb1
  refine rs (vS ByteArray.empty) (r_assign rfl) ?_
  try simp only [sc0,sc1]
  refine run_nil ?_
  refine norm_then ?_
  refine wp_seq ?_
  refine region ?_
  refine rs (vP b1 0) (r_fieldBox (n:=1) (o':=0) rfl Tryd.runUnderlying24 rfl Tryd.sizeOf22 (by decide) rfl) ?_
  refine rs (vL A0_0 a0.vDefs.length c0_0) (r_loadBox rfl Tryd.isAgg22 (HS1.look 0 rfl) rfl) ?_
  refine rs (vI a1) (r_move rfl) ?_
  obtain ⟨hi1,H⟩:=of_ite H
  obtain ⟨ad1,Aad1_6,cad1_6,e1,hel1,hcad1_6,hrad1_6⟩:=ld_api_Def hr0_0 hi1.1 hi1.2
  refine rs (Value.pointer (some (Addr.add ad1 (a1.toNat*7)))) (r_indexA (sz:=7) rfl e1 rfl hi1.1 hi1.2 Tryd.runUnderlying22 Tryd.sizeOf34) ?_
  refine run_frame (by simp only [sc0,sc1];rfl) ?_
  refine rs (Value.agg #[vI ((rd z_api_Def a0.vDefs a1).vKind),vS ((rd z_api_Def a0.vDefs a1).vName),vI ((rd z_api_Def a0.vDefs a1).vInt.vSize),vB ((rd z_api_Def a0.vDefs a1).vInt.vSigned),vI ((rd z_api_Def a0.vDefs a1).vRef),vI ((rd z_api_Def a0.vDefs a1).vN),vL Aad1_6 ((rd z_api_Def a0.vDefs a1).vFields).length cad1_6]) (r_loadAgg rfl Tryd.isAgg34 (hel1.sees HS1.sees) Tryd.sizeOf34) ?_
  refine run_ex rfl rfl (does_alloc (cs:=#[vI 0,vS ByteArray.empty,vI 0,vB false,vI 0,vI 0,vL none 0 0]) Tryd.zeroValue34 rfl) ?_
  rintro w2 _ hE2 ⟨b2,rfl,ge2,hb2⟩
  have HS2:=HS1.new hE2 ge2 hb2
  refine run_st (i:=0) (cs:=[vI 0,vS ByteArray.empty,vI 0,vB false,vI 0,vI 0,vL none 0 0]) (cs':=[vI ((rd z_api_Def a0.vDefs a1).vKind),vS ((rd z_api_Def a0.vDefs a1).vName),vI ((rd z_api_Def a0.vDefs a1).vInt.vSize),vB ((rd z_api_Def a0.vDefs a1).vInt.vSigned),vI ((rd z_api_Def a0.vDefs a1).vRef),vI ((rd z_api_Def a0.vDefs a1).vN),vL Aad1_6 ((rd z_api_Def a0.vDefs a1).vFields).length cad1_6]) (vs:=[vI ((rd z_api_Def a0.vDefs a1).vKind),vS ((rd z_api_Def a0.vDefs a1).vName),vI ((rd z_api_Def a0.vDefs a1).vInt.vSize),vB ((rd z_api_Def a0.vDefs a1).vInt.vSigned),vI ((rd z_api_Def a0.vDefs a1).vRef),vI ((rd z_api_Def a0.vDefs a1).vN),vL Aad1_6 ((rd z_api_Def a0.vDefs a1).vFields).length cad1_6]) (bs':=[(some b2, .cells #[vI ((rd z_api_Def a0.vDefs a1).vKind),vS ((rd z_api_Def a0.vDefs a1).vName),vI ((rd z_api_Def a0.vDefs a1).vInt.vSize),vB ((rd z_api_Def a0.vDefs a1).vInt.vSigned),vI ((rd z_api_Def a0.vDefs a1).vRef),vI ((rd z_api_Def a0.vDefs a1).vN),vL Aad1_6 ((rd z_api_Def a0.vDefs a1).vFields).length cad1_6] 34 (0,0)),(some b1, .cells #[vL A0_0 a0.vDefs.length c0_0] 24 (0,0))]) rfl rfl Tryd.sizeOf34 rfl rfl (by decide) rfl HS2 rfl (Nat.le_of_ble_eq_true rfl) rfl rfl ?_
  intro w3 HS3
  try simp only [sc0,sc1]
  refine run_nil ?_
  refine norm_then ?_
  refine wp_seq ?_
  refine wp_seq ?_
  refine region ?_
  refine rs (vP b2 0) (r_fieldBox (n:=1) (o':=0) rfl Tryd.runUnderlying34 rfl Tryd.sizeOf3 (by decide) rfl) ?_
  refine rs (vI ((rd z_api_Def a0.vDefs a1).vKind)) (r_loadBox rfl Tryd.isAgg3 (HS3.look 0 rfl) rfl) ?_
  try simp only [sc0,sc1]
  refine run_nil ?_
  refine norm_then ?_
  refine wp_block ?_
  refine wp_seq ?_
  refine region ?_
  refine rs (vB ((rd z_api_Def a0.vDefs a1).vKind==2)) (r_bin rfl rfl rfl) ?_
  refine rs (vB ((rd z_api_Def a0.vDefs a1).vKind==2)) (r_assign rfl) ?_
  try simp only [sc0,sc1]
  refine run_nil ?_
  refine norm_then ?_
  refine wp_cond_split (t:=((rd z_api_Def a0.vDefs a1).vKind==2)) rfl (fun c1=>?_) (fun c1=>?_)
  ·replace H:=of_pos H c1
   refine wp_seq ?_
   refine region ?_
   refine rs (Value.agg #[vL A0_0 a0.vDefs.length c0_0]) (r_loadBoxAgg (n:=1) (vs:=[vL A0_0 a0.vDefs.length c0_0]) rfl Tryd.isAgg24 (HS3.look 1 rfl) Tryd.sizeOf24 rfl rfl) ?_
   refine rs (vP b2 4) (r_fieldBox (n:=1) (o':=4) rfl Tryd.runUnderlying34 rfl Tryd.sizeOf3 (by decide) rfl) ?_
   refine rs (vI ((rd z_api_Def a0.vDefs a1).vRef)) (r_loadBox rfl Tryd.isAgg3 (HS3.look 0 rfl) rfl) ?_
   obtain ⟨v1,H1,H⟩:=of_bind H
   refine run_eq (v:=vS v1) rfl rfl (does_call_eq Tryd.call56 rfl rfl (ih a0 ((rd z_api_Def a0.vDefs a1).vRef) A0_0 c0_0 HS3.sees hr0_0 hc0_0 H1)) ?_
   intro w4 hE3
   have HS4:=HS3.step hE3
   refine run_frame (by simp only [sc0,sc1];rfl) ?_
   obtain ⟨hb3,H⟩:=of_ite H
   refine rs (vS (v1++(⟨#[32,42]⟩:ByteArray))) (r_stradd rfl rfl hb3) ?_
   refine rs (vS (v1++(⟨#[32,42]⟩:ByteArray))) (r_assign rfl) ?_
   try simp only [sc0,sc1]
   refine run_nil ?_
   refine norm_then ?_
   refine wp_ret ?_
   refine ret_block ?_
   refine ret_then ?_
   obtain rfl:=Option.some.inj H
   refine bodyPost_ret (results_1 rfl (one_tmp rfl)) rfl ?_
   exact ⟨rfl,HS4.toE⟩
  ·replace H:=of_neg H (nt c1)
   refine wp_seq ?_
   refine region ?_
   refine rs (vB ((rd z_api_Def a0.vDefs a1).vKind==3)) (r_bin rfl rfl rfl) ?_
   refine rs (vB ((rd z_api_Def a0.vDefs a1).vKind==3)) (r_assign rfl) ?_
   try simp only [sc0,sc1]
   refine run_nil ?_
   refine norm_then ?_
   refine wp_cond_split (t:=((rd z_api_Def a0.vDefs a1).vKind==3)) rfl (fun c2=>?_) (fun c2=>?_)
   ·replace H:=of_pos H c2
    refine wp_seq ?_
    obtain ⟨v2,H2,H⟩:=of_bind H
    obtain ⟨hb4,H⟩:=of_ite H
    obtain ⟨v3,H3,H⟩:=of_bind H
    obtain ⟨hb5,H⟩:=of_ite H
    obtain ⟨hb6,H⟩:=of_ite H
    refine drawn [.eq (Value.agg #[vL A0_0 a0.vDefs.length c0_0]), .eq (vP b2 4), .eq (vI ((rd z_api_Def a0.vDefs a1).vRef)), .eq (vS v2), .eq (vS (v2++(⟨#[32,91]⟩:ByteArray))), .eq (vP b2 5), .eq (vI ((rd z_api_Def a0.vDefs a1).vN)), .eq (vS v3), .eq (vS ((v2++(⟨#[32,91]⟩:ByteArray))++v3)), .eq (vS (((v2++(⟨#[32,91]⟩:ByteArray))++v3)++(⟨#[93]⟩:ByteArray)))] [22,23,24,25,26,27,28,29,30,31] hmix (by kernel_rfl) rfl (stable_eq (stable_eq (stable_eq (stable_eq (stable_eq (stable_eq (stable_eq (stable_eq (stable_eq (stable_eq stable_nil)))))))))) ⟨ob_plain rfl (fun a' w' hE hk=>by have HSd:=HS3.step hE;exact does_eq (r_loadBoxAgg (n:=1) (vs:=[vL A0_0 a0.vDefs.length c0_0]) (show _=vP b1 0 from hk 2 rfl) Tryd.isAgg24 (HSd.look 1 rfl) Tryd.sizeOf24 rfl rfl)),ob_plain rfl (fun a' w' hE hk=>by have HSd:=HS3.step hE;exact does_eq (r_fieldBox (n:=1) (o':=4) (show _=vP b2 0 from hk 5 rfl) Tryd.runUnderlying34 rfl Tryd.sizeOf3 (by decide) rfl)),ob_plain rfl (fun a' w' hE hk=>by have HSd:=HS3.step hE;exact does_eq (r_loadBox (show _=vP b2 4 from hk 23 rfl) Tryd.isAgg3 (HSd.look 0 rfl) rfl)),ob_plain rfl (fun a' w' hE hk=>by have HSd:=HS3.step hE;exact (does_call_eq Tryd.call56 rfl (map2 (show _=Value.agg #[vL A0_0 a0.vDefs.length c0_0] from hk 22 rfl) (show _=vI ((rd z_api_Def a0.vDefs a1).vRef) from hk 24 rfl)) (ih a0 ((rd z_api_Def a0.vDefs a1).vRef) A0_0 c0_0 HSd.sees hr0_0 hc0_0 H2))),ob_plain rfl (fun a' w' hE hk=>by have HSd:=HS3.step hE;exact does_eq (r_stradd (show _=vS v2 from hk 25 rfl) rfl hb4)),ob_plain rfl (fun a' w' hE hk=>by have HSd:=HS3.step hE;exact does_eq (r_fieldBox (n:=1) (o':=5) (show _=vP b2 0 from hk 5 rfl) Tryd.runUnderlying34 rfl Tryd.sizeOf3 (by decide) rfl)),ob_plain rfl (fun a' w' hE hk=>by have HSd:=HS3.step hE;exact does_eq (r_loadBox (show _=vP b2 5 from hk 27 rfl) Tryd.isAgg3 (HSd.look 0 rfl) rfl)),ob_plain rfl (fun a' w' hE hk=>by have HSd:=HS3.step hE;exact (does_call_eq Tryd.call102 rfl (map1 (show _=vI ((rd z_api_Def a0.vDefs a1).vN) from hk 28 rfl)) (taplineref08_Digits.calls k ((rd z_api_Def a0.vDefs a1).vN) HSd.sees H3))),ob_plain rfl (fun a' w' hE hk=>by have HSd:=HS3.step hE;exact does_eq (r_stradd (show _=vS (v2++(⟨#[32,91]⟩:ByteArray)) from hk 26 rfl) (show _=vS v3 from hk 29 rfl) hb5)),ob_plain rfl (fun a' w' hE hk=>by have HSd:=HS3.step hE;exact does_eq (r_stradd (show _=vS ((v2++(⟨#[32,91]⟩:ByteArray))++v3) from hk 30 rfl) rfl hb6)),trivial⟩ ?_
    intro w5 hE4
    simp only [List.zip_cons_cons,List.zip_nil_left,List.zip_nil_right,finL,sc0,sc1,List.length_cons,List.length_nil,List.drop_succ_cons,List.drop_zero,Nat.zero_add,Nat.reduceAdd]
    have HS5:=HS3.step hE4
    refine rs (vS (((v2++(⟨#[32,91]⟩:ByteArray))++v3)++(⟨#[93]⟩:ByteArray))) (r_assign rfl) ?_
    try simp only [sc0,sc1]
    refine run_nil ?_
    refine norm_then ?_
    refine wp_ret ?_
    refine ret_block ?_
    refine ret_then ?_
    obtain rfl:=Option.some.inj H
    refine bodyPost_ret (results_1 rfl (one_tmp rfl)) rfl ?_
    exact ⟨rfl,HS5.toE⟩
   ·replace H:=of_neg H (nt c2)
    refine wp_skip ?_
    refine norm_block ?_
    refine norm_then ?_
    refine wp_seq ?_
    refine region ?_
    refine rs (vP b2 1) (r_fieldBox (n:=1) (o':=1) rfl Tryd.runUnderlying34 rfl Tryd.sizeOf9 (by decide) rfl) ?_
    refine rs (vS ((rd z_api_Def a0.vDefs a1).vName)) (r_loadBox rfl Tryd.isAgg9 (HS3.look 0 rfl) rfl) ?_
    refine rs (vS ((rd z_api_Def a0.vDefs a1).vName)) (r_assign rfl) ?_
    try simp only [sc0,sc1]
    refine run_nil ?_
    refine norm_then ?_
    refine wp_ret ?_
    obtain rfl:=Option.some.inj H
    refine bodyPost_ret (results_1 rfl (one_tmp rfl)) rfl ?_
    exact ⟨rfl,HS3.toE⟩

end Go.Proofs.YtfjppgobidjndaaDoor
namespace Go.Proofs.YtfjppgobidjndaaDoor
open Go.RowKit Go.M
def taplineref08_TextOf.f (k:Nat) (a0:api_Types) (a1:Int):Option (taplineref08_Told):=(taplineref08_given.f k a0 a1).bind fun v1=>(if (v1 !=0)=true then (some (⟨ByteArray.empty,v1⟩:taplineref08_Told)) else ((taplineref08_Text.f k a0 a1).bind fun v2=>(some (⟨v2,0⟩:taplineref08_Told))))
set_option maxRecDepth 20000 in
set_option maxHeartbeats 4000000 in
theorem taplineref08_TextOf.calls (k:Nat) (a0:api_Types) (a1:Int) (A0_0:Option Addr) (c0_0:Nat) {h0:View} {w0:World} (hv:Sees h0 w0) (hr0_0:Rd k_api_Def h0 A0_0 a0.vDefs) (hc0_0:a0.vDefs.length≤c0_0) {r:taplineref08_Told} (H:taplineref08_TextOf.f k a0 a1=some r):Calls Tryd.prog 23 #[Value.agg #[vL A0_0 a0.vDefs.length c0_0],vI a1] w0 (fun e w1=>e= .returned (Value.agg #[vS r.vS,vI r.vE])∧Ext w0 w1):=by
 unfold taplineref08_TextOf.f at H
 have HS:St [] h0 w0 h0 [] w0:=St.init hv
 go_enter Tryd.func23,Tryd.ntmps23
 refine wp_seq ?_
 refine region ?_
 refine run_ex rfl rfl (does_box (cs:=#[vL A0_0 a0.vDefs.length c0_0]) rfl rfl) ?_
 rintro w1 _ hE1 ⟨b1,rfl,ge1,hb1⟩
 have HS1:=HS.new hE1 ge1 hb1
 refine run_ex rfl rfl (does_alloc (cs:=#[vS ByteArray.empty,vI 0]) Tryd.zeroValue52 rfl) ?_
 rintro w2 _ hE2 ⟨b2,rfl,ge2,hb2⟩
 have HS2:=HS1.new hE2 ge2 hb2
 try simp only [sc0,sc1]
 refine run_nil ?_
 refine norm_then ?_
 refine wp_seq ?_
 refine region ?_
 refine rs (Value.agg #[vL A0_0 a0.vDefs.length c0_0]) (r_loadBoxAgg (n:=1) (vs:=[vL A0_0 a0.vDefs.length c0_0]) rfl Tryd.isAgg24 (HS2.look 1 rfl) Tryd.sizeOf24 rfl rfl) ?_
 refine rs (vI a1) (r_move rfl) ?_
 obtain ⟨v1,H1,H⟩:=of_bind H
 refine run_eq (v:=vI v1) rfl rfl (does_call_eq Tryd.call55 rfl rfl (taplineref08_given.calls k a0 a1 A0_0 c0_0 HS2.sees hr0_0 hc0_0 H1)) ?_
 intro w3 hE3
 have HS3:=HS2.step hE3
 refine rs (vI v1) (r_assign rfl) ?_
 try simp only [sc0,sc1]
 refine run_nil ?_
 refine norm_then ?_
 refine wp_seq ?_
 refine wp_seq ?_
 refine region ?_
 refine rs (vI v1) (r_move rfl) ?_
 refine rs (vB (v1 !=0)) (r_bin rfl rfl rfl) ?_
 try simp only [sc0,sc1]
 refine run_nil ?_
 refine norm_then ?_
 refine wp_cond_split (t:=(v1 !=0)) rfl (fun c1=>?_) (fun c1=>?_)
 ·replace H:=of_pos H c1
  refine wp_seq ?_
  refine region ?_
  refine rs (vI v1) (r_move rfl) ?_
  refine rs (Value.agg #[vS ByteArray.empty,vI v1]) (r_build (cs:=[vS ByteArray.empty,vI v1]) (ps:=[(1,vI v1)]) Tryd.zeroValue52 Tryd.runUnderlying52 (pl:=#[(0,1),(1,1)]) (fun w=>by simp [Tryd.sizeOf27,Tryd.sizeOf9]) (parts_1 (show _=vI v1 from rfl)) rfl) ?_
  refine run_st (i:=0) (cs:=[vS ByteArray.empty,vI 0]) (cs':=[vS ByteArray.empty,vI v1]) (vs:=[vS ByteArray.empty,vI v1]) (bs':=[(some b2, .cells #[vS ByteArray.empty,vI v1] 52 (0,0)),(some b1, .cells #[vL A0_0 a0.vDefs.length c0_0] 24 (0,0))]) rfl rfl Tryd.sizeOf52 rfl rfl (by decide) rfl HS3 rfl (Nat.le_of_ble_eq_true rfl) rfl rfl ?_
  intro w4 HS4
  try simp only [sc0,sc1]
  refine run_nil ?_
  refine norm_then ?_
  refine wp_ret ?_
  refine ret_then ?_
  obtain rfl:=Option.some.inj H
  refine bodyPost_ret (results_1 rfl (one_agg rfl Tryd.isAgg52 (HS4.look 0 rfl) Tryd.sizeOf52 rfl)) rfl ?_
  exact ⟨rfl,HS4.toE⟩
 ·replace H:=of_neg H (nt c1)
  refine wp_skip ?_
  refine norm_then ?_
  refine wp_seq ?_
  refine region ?_
  refine rs (Value.agg #[vL A0_0 a0.vDefs.length c0_0]) (r_loadBoxAgg (n:=1) (vs:=[vL A0_0 a0.vDefs.length c0_0]) rfl Tryd.isAgg24 (HS3.look 1 rfl) Tryd.sizeOf24 rfl rfl) ?_
  refine rs (vI a1) (r_move rfl) ?_
  obtain ⟨v2,H2,H⟩:=of_bind H
  refine run_eq (v:=vS v2) rfl rfl (does_call_eq Tryd.call56 rfl rfl (taplineref08_Text.calls k a0 a1 A0_0 c0_0 HS3.sees hr0_0 hc0_0 H2)) ?_
  intro w5 hE4
  have HS5:=HS3.step hE4
  refine rs (Value.agg #[vS v2,vI 0]) (r_build (cs:=[vS v2,vI 0]) (ps:=[(0,vS v2)]) Tryd.zeroValue52 Tryd.runUnderlying52 (pl:=#[(0,1),(1,1)]) (fun w=>by simp [Tryd.sizeOf27,Tryd.sizeOf9]) (parts_1 (show _=vS v2 from rfl)) rfl) ?_
  refine run_frame (by simp only [sc0,sc1];rfl) ?_
  refine run_st (i:=0) (cs:=[vS ByteArray.empty,vI 0]) (cs':=[vS v2,vI 0]) (vs:=[vS v2,vI 0]) (bs':=[(some b2, .cells #[vS v2,vI 0] 52 (0,0)),(some b1, .cells #[vL A0_0 a0.vDefs.length c0_0] 24 (0,0))]) rfl rfl Tryd.sizeOf52 rfl rfl (by decide) rfl HS5 rfl (Nat.le_of_ble_eq_true rfl) rfl rfl ?_
  intro w6 HS6
  try simp only [sc0,sc1]
  refine run_nil ?_
  refine norm_then ?_
  refine wp_ret ?_
  obtain rfl:=Option.some.inj H
  refine bodyPost_ret (results_1 rfl (one_agg rfl Tryd.isAgg52 (HS6.look 0 rfl) Tryd.sizeOf52 rfl)) rfl ?_
  exact ⟨rfl,HS6.toE⟩

end Go.Proofs.YtfjppgobidjndaaDoor
namespace Go.Proofs.YtfjppgobidjndaaDoor
open Go.RowKit Go.M
def taplineref08_Find.l0 (a0:api_Types) (a1:ByteArray):Nat→Int→Option ((Int)⊕(Unit))
 |0,_=>none
 |m+1,y1_0=>if (decide (y1_0<(a0.vDefs.length:Int)))=true then (if 0≤y1_0∧y1_0<a0.vDefs.length then ((taplineref08_Named.f (rd z_api_Def a0.vDefs y1_0)).bind fun v1=>(if (true&&(v1==true))=true→(0≤y1_0∧y1_0<a0.vDefs.length) then (if (v1&&(strEq ((rd z_api_Def a0.vDefs y1_0).vName) a1))=true then (some (.inl y1_0)) else (taplineref08_Find.l0 a0 a1 m (IntKind.wrap .i64 (y1_0+1)))) else none)) else none) else (some (.inr ()))
def taplineref08_Find.f (k:Nat) (a0:api_Types) (a1:ByteArray):Option (Int):=(taplineref08_Find.l0 a0 a1 k 0).bind fun xx1=>(match xx1 with| .inl r=>some r| .inr s1=>some (-1))
set_option maxRecDepth 20000 in
set_option maxHeartbeats 4000000 in
theorem taplineref08_Find.calls (k:Nat) (a0:api_Types) (a1:ByteArray) (A0_0:Option Addr) (c0_0:Nat) {h0:View} {w0:World} (hv:Sees h0 w0) (hr0_0:Rd k_api_Def h0 A0_0 a0.vDefs) (hc0_0:a0.vDefs.length≤c0_0) {r:Int} (H:taplineref08_Find.f k a0 a1=some r):Calls Tryd.prog 57 #[Value.agg #[vL A0_0 a0.vDefs.length c0_0],vS a1] w0 (fun e w1=>e= .returned (vI r)∧Ext w0 w1):=by
 unfold taplineref08_Find.f at H
 have HS:St [] h0 w0 h0 [] w0:=St.init hv
 go_enter Tryd.func57,Tryd.ntmps57
 refine wp_seq ?_
 refine region ?_
 refine run_ex rfl rfl (does_box (cs:=#[vL A0_0 a0.vDefs.length c0_0]) rfl rfl) ?_
 rintro w1 _ hE1 ⟨b1,rfl,ge1,hb1⟩
 have HS1:=HS.new hE1 ge1 hb1
 refine rs (vI 0) (r_assign rfl) ?_
 try simp only [sc0,sc1]
 refine run_nil ?_
 refine norm_then ?_
 refine wp_seq ?_
 refine wp_seq ?_
 refine region ?_
 refine rs (vI 0) (r_assign rfl) ?_
 try simp only [sc0,sc1]
 refine run_nil ?_
 refine norm_then ?_
 obtain ⟨xx1,H,G1⟩:=of_bind H
 refine loop_patch [4,5,6,7,8,9,10,11,12,13,14,15,16,17,18,19,20,21,22,23,24,25,26,27,28,29] (fun m us w'=>∃y1_0:Int,∃uy1_4 uy1_6 uy1_7 uy1_8 uy1_9 uy1_10 uy1_11 uy1_12 uy1_13 uy1_14 uy1_15 uy1_16 uy1_17 uy1_18 uy1_19 uy1_20 uy1_21 uy1_22 uy1_23 uy1_24 uy1_25 uy1_26 uy1_27 uy1_28 uy1_29:Value,us=[uy1_4,vI y1_0,uy1_6,uy1_7,uy1_8,uy1_9,uy1_10,uy1_11,uy1_12,uy1_13,uy1_14,uy1_15,uy1_16,uy1_17,uy1_18,uy1_19,uy1_20,uy1_21,uy1_22,uy1_23,uy1_24,uy1_25,uy1_26,uy1_27,uy1_28,uy1_29]∧taplineref08_Find.l0 a0 a1 m y1_0=some xx1∧St [] h0 w0 h0 [(some b1, .cells #[vL A0_0 a0.vDefs.length c0_0] 24 (0,0))] w') (fun us w'=>∃(s1:Unit),xx1= .inr s1∧∃uo1_4 uo1_5 uo1_6 uo1_7 uo1_8 uo1_9 uo1_10 uo1_11 uo1_12 uo1_13 uo1_14 uo1_15 uo1_16 uo1_17 uo1_18 uo1_19 uo1_20 uo1_21 uo1_22 uo1_23 uo1_24 uo1_25 uo1_26 uo1_27 uo1_28 uo1_29:Value,us=[uo1_4,uo1_5,uo1_6,uo1_7,uo1_8,uo1_9,uo1_10,uo1_11,uo1_12,uo1_13,uo1_14,uo1_15,uo1_16,uo1_17,uo1_18,uo1_19,uo1_20,uo1_21,uo1_22,uo1_23,uo1_24,uo1_25,uo1_26,uo1_27,uo1_28,uo1_29]∧St [] h0 w0 h0 [(some b1, .cells #[vL A0_0 a0.vDefs.length c0_0] 24 (0,0))] w') k [vI 0,vI 0,undef,undef,undef,undef,undef,undef,undef,undef,undef,undef,undef,undef,undef,undef,undef,undef,undef,undef,undef,undef,undef,undef,undef,undef] (by simp only [patch,sc0,sc1]) ⟨0,_,_,_,_,_,_,_,_,_,_,_,_,_,_,_,_,_,_,_,_,_,_,_,_,_,rfl,H,HS1⟩ ?_ ?_
 ·rintro m us w2 ⟨y1_0,uy1_4,uy1_6,uy1_7,uy1_8,uy1_9,uy1_10,uy1_11,uy1_12,uy1_13,uy1_14,uy1_15,uy1_16,uy1_17,uy1_18,uy1_19,uy1_20,uy1_21,uy1_22,uy1_23,uy1_24,uy1_25,uy1_26,uy1_27,uy1_28,uy1_29,rfl,H,HS2⟩
  cases m with
  |zero=>exact absurd H (by simp [taplineref08_Find.l0])
  |succ m=>
   rw [taplineref08_Find.l0] at H
   try simp only [patch,sc0,sc1]
   refine wp_seq ?_
   refine wp_seq ?_
   refine region ?_
   refine rs (vI y1_0) (r_move rfl) ?_
   refine rs (vP b1 0) (r_fieldBox (n:=1) (o':=0) rfl Tryd.runUnderlying24 rfl Tryd.sizeOf22 (by decide) rfl) ?_
   refine rs (vL A0_0 a0.vDefs.length c0_0) (r_loadBox rfl Tryd.isAgg22 (HS2.look 0 rfl) rfl) ?_
   refine rs (vI (a0.vDefs.length:Int)) (r_len rfl Tryd.runUnderlying22) ?_
   refine run_frame (by simp only [sc0,sc1];rfl) ?_
   refine rs (vB (decide (y1_0<(a0.vDefs.length:Int)))) (r_bin rfl rfl rfl) ?_
   try simp only [sc0,sc1]
   refine run_nil ?_
   refine norm_then ?_
   refine wp_cond_split (t:=(decide (y1_0<(a0.vDefs.length:Int)))) rfl (fun c1=>?_) (fun c1=>?_)
   ·replace H:=of_pos H c1
    refine wp_skip ?_
    refine norm_then ?_
    refine wp_seq ?_
    refine wp_block ?_
    refine wp_seq ?_
    refine region ?_
    refine rs (vP b1 0) (r_fieldBox (n:=1) (o':=0) rfl Tryd.runUnderlying24 rfl Tryd.sizeOf22 (by decide) rfl) ?_
    refine rs (vL A0_0 a0.vDefs.length c0_0) (r_loadBox rfl Tryd.isAgg22 (HS2.look 0 rfl) rfl) ?_
    refine rs (vI y1_0) (r_move rfl) ?_
    obtain ⟨hi1,H⟩:=of_ite H
    obtain ⟨ad1,Aad1_6,cad1_6,e1,hel1,hcad1_6,hrad1_6⟩:=ld_api_Def hr0_0 hi1.1 hi1.2
    refine rs (Value.pointer (some (Addr.add ad1 (y1_0.toNat*7)))) (r_indexA (sz:=7) rfl e1 rfl hi1.1 hi1.2 Tryd.runUnderlying22 Tryd.sizeOf34) ?_
    refine run_frame (by simp only [sc0,sc1];rfl) ?_
    refine rs (Value.agg #[vI ((rd z_api_Def a0.vDefs y1_0).vKind),vS ((rd z_api_Def a0.vDefs y1_0).vName),vI ((rd z_api_Def a0.vDefs y1_0).vInt.vSize),vB ((rd z_api_Def a0.vDefs y1_0).vInt.vSigned),vI ((rd z_api_Def a0.vDefs y1_0).vRef),vI ((rd z_api_Def a0.vDefs y1_0).vN),vL Aad1_6 ((rd z_api_Def a0.vDefs y1_0).vFields).length cad1_6]) (r_loadAgg rfl Tryd.isAgg34 (hel1.sees HS2.sees) Tryd.sizeOf34) ?_
    obtain ⟨v1,H1,H⟩:=of_bind H
    refine run_eq (v:=vB v1) rfl rfl (does_call_eq Tryd.call49 rfl rfl (taplineref08_Named.calls (rd z_api_Def a0.vDefs y1_0) Aad1_6 cad1_6 HS2.sees hrad1_6 hcad1_6 H1)) ?_
    intro w3 hE2
    have HS3:=HS2.step hE2
    refine rs (vB v1) (r_move rfl) ?_
    refine rgs v1 true (vP b1 0) rfl rfl rfl rfl (fun hg=>(r_fieldBox (n:=1) (o':=0) rfl Tryd.runUnderlying24 rfl Tryd.sizeOf22 (by decide) rfl)) ?_
    refine run_frame (by simp only [sc0,sc1];rfl) ?_
    refine rgs v1 true (vL A0_0 a0.vDefs.length c0_0) rfl rfl rfl rfl (fun hg=>(r_loadBox (gvt (vP b1 0) hg rfl) Tryd.isAgg22 (HS3.look 0 rfl) rfl)) ?_
    refine rgs v1 true (vI y1_0) rfl rfl rfl rfl (fun hg=>(r_move rfl)) ?_
    obtain ⟨hi2,H⟩:=of_ite H
    obtain ⟨ad2,Aad2_6,cad2_6,hq1⟩:=gx3 (fun hC:(true&&(v1==true))=true=>ld_api_Def hr0_0 (hi2 hC).1 (hi2 hC).2)
    refine rgs v1 true (Value.pointer (some (Addr.add ad2 (y1_0.toNat*7)))) rfl rfl rfl rfl (fun hg=>(r_indexA (sz:=7) (gvt (vL A0_0 a0.vDefs.length c0_0) hg rfl) (hq1 hg).1 (gvt (vI y1_0) hg rfl) (hi2 hg).1 (hi2 hg).2 Tryd.runUnderlying22 Tryd.sizeOf34)) ?_
    refine rgs v1 true (Value.pointer (some (Addr.add (Addr.add ad2 (y1_0.toNat*7)) 1))) rfl rfl rfl rfl (fun hg=>(r_fieldEl (n:=1) (o':=1) (gvt (Value.pointer (some (Addr.add ad2 (y1_0.toNat*7)))) hg rfl) Tryd.runUnderlying34 rfl Tryd.sizeOf9 (by decide) rfl)) ?_
    refine run_frame (by simp only [sc0,sc1];rfl) ?_
    refine rgs v1 true (vS ((rd z_api_Def a0.vDefs y1_0).vName)) rfl rfl rfl rfl (fun hg=>(r_load (gvt (Value.pointer (some (Addr.add (Addr.add ad2 (y1_0.toNat*7)) 1))) hg rfl) Tryd.isAgg9 (((hq1 hg).2.1).cell HS3.sees 1 rfl))) ?_
    refine rgs v1 true (vS a1) rfl rfl rfl rfl (fun hg=>(r_move rfl)) ?_
    refine rgs v1 true (vB (strEq ((rd z_api_Def a0.vDefs y1_0).vName) a1)) rfl rfl rfl rfl (fun hg=>(r_streql (gvt (vS ((rd z_api_Def a0.vDefs y1_0).vName)) hg rfl) (gvt (vS a1) hg rfl))) ?_
    refine rs (vB (v1&&(strEq ((rd z_api_Def a0.vDefs y1_0).vName) a1))) (r_pick_and rfl (fun hp=>(gvt (vB (strEq ((rd z_api_Def a0.vDefs y1_0).vName) a1)) (and_i rfl hp) rfl)) rfl) ?_
    try simp only [sc0,sc1]
    refine run_nil ?_
    refine norm_then ?_
    refine wp_cond_split (t:=(v1&&(strEq ((rd z_api_Def a0.vDefs y1_0).vName) a1))) rfl (fun c2=>?_) (fun c2=>?_)
    ·replace H:=of_pos H c2
     refine wp_seq ?_
     refine region ?_
     refine rs (vI y1_0) (r_move rfl) ?_
     refine rs (vI y1_0) (r_assign rfl) ?_
     try simp only [sc0,sc1]
     refine run_nil ?_
     refine norm_then ?_
     refine wp_ret ?_
     refine ret_block ?_
     refine ret_then ?_
     refine ret_loop ?_
     refine ret_then ?_
     obtain rfl:=Option.some.inj H
     obtain rfl:=Option.some.inj G1
     refine bodyPost_ret (results_1 rfl (one_tmp rfl)) rfl ?_
     exact ⟨rfl,HS3.toE⟩
    ·replace H:=of_neg H (nt c2)
     refine wp_skip ?_
     refine norm_block ?_
     refine norm_then ?_
     refine region ?_
     refine rs (vI y1_0) (r_move rfl) ?_
     refine rs (vI (w64 (y1_0+1))) (r_bin rfl rfl rfl) ?_
     refine rs (vI (w64 (y1_0+1))) (r_assign rfl) ?_
     try simp only [sc0,sc1]
     refine run_nil ?_
     refine again m [uy1_4,vI (w64 (y1_0+1)),vI y1_0,vP b1 0,vL A0_0 a0.vDefs.length c0_0,vI (a0.vDefs.length:Int),vB (decide (y1_0<(a0.vDefs.length:Int))),vI y1_0,vI (w64 (y1_0+1)),vP b1 0,vL A0_0 a0.vDefs.length c0_0,vI y1_0,Value.pointer (some (Addr.add ad1 (y1_0.toNat*7))),Value.agg #[vI ((rd z_api_Def a0.vDefs y1_0).vKind),vS ((rd z_api_Def a0.vDefs y1_0).vName),vI ((rd z_api_Def a0.vDefs y1_0).vInt.vSize),vB ((rd z_api_Def a0.vDefs y1_0).vInt.vSigned),vI ((rd z_api_Def a0.vDefs y1_0).vRef),vI ((rd z_api_Def a0.vDefs y1_0).vN),vL Aad1_6 ((rd z_api_Def a0.vDefs y1_0).vFields).length cad1_6],vB v1,vB v1,gv (true&&(v1==true)) (vP b1 0),gv (true&&(v1==true)) (vL A0_0 a0.vDefs.length c0_0),gv (true&&(v1==true)) (vI y1_0),gv (true&&(v1==true)) (Value.pointer (some (Addr.add ad2 (y1_0.toNat*7)))),gv (true&&(v1==true)) (Value.pointer (some (Addr.add (Addr.add ad2 (y1_0.toNat*7)) 1))),gv (true&&(v1==true)) (vS ((rd z_api_Def a0.vDefs y1_0).vName)),gv (true&&(v1==true)) (vS a1),gv (true&&(v1==true)) (vB (strEq ((rd z_api_Def a0.vDefs y1_0).vName) a1)),vB (v1&&(strEq ((rd z_api_Def a0.vDefs y1_0).vName) a1)),uy1_29] (Nat.lt_succ_self m) (by simp only [patch,sc0,sc1]) ⟨(w64 (y1_0+1)),_,_,_,_,_,_,_,_,_,_,_,_,_,_,_,_,_,_,_,_,_,_,_,_,_,rfl,H,HS3⟩
   ·replace H:=of_neg H (nt c1)
    refine wp_exit ?_
    refine exit_then ?_
    obtain rfl:=Option.some.inj H
    refine leave [uy1_4,vI y1_0,vI y1_0,vP b1 0,vL A0_0 a0.vDefs.length c0_0,vI (a0.vDefs.length:Int),vB (decide (y1_0<(a0.vDefs.length:Int))),uy1_11,uy1_12,uy1_13,uy1_14,uy1_15,uy1_16,uy1_17,uy1_18,uy1_19,uy1_20,uy1_21,uy1_22,uy1_23,uy1_24,uy1_25,uy1_26,uy1_27,uy1_28,uy1_29] (by simp only [patch,sc0,sc1]) ⟨_,rfl,_,_,_,_,_,_,_,_,_,_,_,_,_,_,_,_,_,_,_,_,_,_,_,_,_,_,rfl,HS2⟩
 ·rintro us w4 ⟨s1,rfl,uo1_4,uo1_5,uo1_6,uo1_7,uo1_8,uo1_9,uo1_10,uo1_11,uo1_12,uo1_13,uo1_14,uo1_15,uo1_16,uo1_17,uo1_18,uo1_19,uo1_20,uo1_21,uo1_22,uo1_23,uo1_24,uo1_25,uo1_26,uo1_27,uo1_28,uo1_29,rfl,HS4⟩
  replace H:=G1
  clear G1
  try simp only [patch,sc0,sc1]
  refine norm_then ?_
  refine wp_seq ?_
  refine region ?_
  refine rs (vI (-1)) (r_assign rfl) ?_
  try simp only [sc0,sc1]
  refine run_nil ?_
  refine norm_then ?_
  refine wp_ret ?_
  obtain rfl:=Option.some.inj H
  refine bodyPost_ret (results_1 rfl (one_tmp rfl)) rfl ?_
  exact ⟨rfl,HS4.toE⟩

end Go.Proofs.YtfjppgobidjndaaDoor
namespace Go.Proofs.YtfjppgobidjndaaDoor
open Go.RowKit Go.M
def taplineref08_Lookup.f (k:Nat) (a0:api_Types) (a1:ByteArray):Option (taplineref08_Number):=(taplineref08_Check.f k a0).bind fun v1=>(if (v1 !=0)=true then (some (⟨0,v1⟩:taplineref08_Number)) else ((taplineref08_Find.f k a0 a1).bind fun v2=>(if (decide (v2<0))=true then (some (⟨0,3⟩:taplineref08_Number)) else (some (⟨v2,0⟩:taplineref08_Number)))))
set_option maxRecDepth 20000 in
set_option maxHeartbeats 4000000 in
theorem taplineref08_Lookup.calls (k:Nat) (a0:api_Types) (a1:ByteArray) (A0_0:Option Addr) (c0_0:Nat) {h0:View} {w0:World} (hv:Sees h0 w0) (hr0_0:Rd k_api_Def h0 A0_0 a0.vDefs) (hc0_0:a0.vDefs.length≤c0_0) {r:taplineref08_Number} (H:taplineref08_Lookup.f k a0 a1=some r):Calls Tryd.prog 24 #[Value.agg #[vL A0_0 a0.vDefs.length c0_0],vS a1] w0 (fun e w1=>e= .returned (Value.agg #[vI r.vN,vI r.vE])∧Ext w0 w1):=by
 unfold taplineref08_Lookup.f at H
 have HS:St [] h0 w0 h0 [] w0:=St.init hv
 go_enter Tryd.func24,Tryd.ntmps24
 refine wp_seq ?_
 refine region ?_
 refine run_ex rfl rfl (does_box (cs:=#[vL A0_0 a0.vDefs.length c0_0]) rfl rfl) ?_
 rintro w1 _ hE1 ⟨b1,rfl,ge1,hb1⟩
 have HS1:=HS.new hE1 ge1 hb1
 refine run_ex rfl rfl (does_alloc (cs:=#[vI 0,vI 0]) Tryd.zeroValue49 rfl) ?_
 rintro w2 _ hE2 ⟨b2,rfl,ge2,hb2⟩
 have HS2:=HS1.new hE2 ge2 hb2
 try simp only [sc0,sc1]
 refine run_nil ?_
 refine norm_then ?_
 refine wp_seq ?_
 refine region ?_
 refine rs (Value.agg #[vL A0_0 a0.vDefs.length c0_0]) (r_loadBoxAgg (n:=1) (vs:=[vL A0_0 a0.vDefs.length c0_0]) rfl Tryd.isAgg24 (HS2.look 1 rfl) Tryd.sizeOf24 rfl rfl) ?_
 obtain ⟨v1,H1,H⟩:=of_bind H
 refine run_eq (v:=vI v1) rfl rfl (does_call_eq Tryd.call19 rfl rfl (taplineref08_Check.calls k a0 A0_0 c0_0 HS2.sees hr0_0 hc0_0 H1)) ?_
 intro w3 hE3
 have HS3:=HS2.step hE3
 refine rs (vI v1) (r_assign rfl) ?_
 try simp only [sc0,sc1]
 refine run_nil ?_
 refine norm_then ?_
 refine wp_seq ?_
 refine wp_seq ?_
 refine region ?_
 refine rs (vI v1) (r_move rfl) ?_
 refine rs (vB (v1 !=0)) (r_bin rfl rfl rfl) ?_
 try simp only [sc0,sc1]
 refine run_nil ?_
 refine norm_then ?_
 refine wp_cond_split (t:=(v1 !=0)) rfl (fun c1=>?_) (fun c1=>?_)
 ·replace H:=of_pos H c1
  refine wp_seq ?_
  refine region ?_
  refine rs (vI v1) (r_move rfl) ?_
  refine rs (Value.agg #[vI 0,vI v1]) (r_build (cs:=[vI 0,vI v1]) (ps:=[(1,vI v1)]) Tryd.zeroValue49 Tryd.runUnderlying49 (pl:=#[(0,1),(1,1)]) (fun w=>by simp [Tryd.sizeOf27,Tryd.sizeOf3]) (parts_1 (show _=vI v1 from rfl)) rfl) ?_
  refine run_st (i:=0) (cs:=[vI 0,vI 0]) (cs':=[vI 0,vI v1]) (vs:=[vI 0,vI v1]) (bs':=[(some b2, .cells #[vI 0,vI v1] 49 (0,0)),(some b1, .cells #[vL A0_0 a0.vDefs.length c0_0] 24 (0,0))]) rfl rfl Tryd.sizeOf49 rfl rfl (by decide) rfl HS3 rfl (Nat.le_of_ble_eq_true rfl) rfl rfl ?_
  intro w4 HS4
  try simp only [sc0,sc1]
  refine run_nil ?_
  refine norm_then ?_
  refine wp_ret ?_
  refine ret_then ?_
  obtain rfl:=Option.some.inj H
  refine bodyPost_ret (results_1 rfl (one_agg rfl Tryd.isAgg49 (HS4.look 0 rfl) Tryd.sizeOf49 rfl)) rfl ?_
  exact ⟨rfl,HS4.toE⟩
 ·replace H:=of_neg H (nt c1)
  refine wp_skip ?_
  refine norm_then ?_
  refine wp_seq ?_
  refine region ?_
  refine rs (Value.agg #[vL A0_0 a0.vDefs.length c0_0]) (r_loadBoxAgg (n:=1) (vs:=[vL A0_0 a0.vDefs.length c0_0]) rfl Tryd.isAgg24 (HS3.look 1 rfl) Tryd.sizeOf24 rfl rfl) ?_
  refine rs (vS a1) (r_move rfl) ?_
  obtain ⟨v2,H2,H⟩:=of_bind H
  refine run_eq (v:=vI v2) rfl rfl (does_call_eq Tryd.call57 rfl rfl (taplineref08_Find.calls k a0 a1 A0_0 c0_0 HS3.sees hr0_0 hc0_0 H2)) ?_
  intro w5 hE4
  have HS5:=HS3.step hE4
  refine rs (vI v2) (r_assign rfl) ?_
  try simp only [sc0,sc1]
  refine run_nil ?_
  refine norm_then ?_
  refine wp_seq ?_
  refine wp_seq ?_
  refine region ?_
  refine rs (vI v2) (r_move rfl) ?_
  refine rs (vB (decide (v2<0))) (r_bin rfl rfl rfl) ?_
  try simp only [sc0,sc1]
  refine run_nil ?_
  refine norm_then ?_
  refine wp_cond_split (t:=(decide (v2<0))) rfl (fun c2=>?_) (fun c2=>?_)
  ·replace H:=of_pos H c2
   refine wp_seq ?_
   refine region ?_
   refine rs (Value.agg #[vI 0,vI 3]) (r_build (cs:=[vI 0,vI 3]) (ps:=[(1,vI 3)]) Tryd.zeroValue49 Tryd.runUnderlying49 (pl:=#[(0,1),(1,1)]) (fun w=>by simp [Tryd.sizeOf27,Tryd.sizeOf3]) (parts_1 (show _=vI 3 from rfl)) rfl) ?_
   refine run_st (i:=0) (cs:=[vI 0,vI 0]) (cs':=[vI 0,vI 3]) (vs:=[vI 0,vI 3]) (bs':=[(some b2, .cells #[vI 0,vI 3] 49 (0,0)),(some b1, .cells #[vL A0_0 a0.vDefs.length c0_0] 24 (0,0))]) rfl rfl Tryd.sizeOf49 rfl rfl (by decide) rfl HS5 rfl (Nat.le_of_ble_eq_true rfl) rfl rfl ?_
   intro w6 HS6
   try simp only [sc0,sc1]
   refine run_nil ?_
   refine norm_then ?_
   refine wp_ret ?_
   refine ret_then ?_
   obtain rfl:=Option.some.inj H
   refine bodyPost_ret (results_1 rfl (one_agg rfl Tryd.isAgg49 (HS6.look 0 rfl) Tryd.sizeOf49 rfl)) rfl ?_
   exact ⟨rfl,HS6.toE⟩
  ·replace H:=of_neg H (nt c2)
   refine wp_skip ?_
   refine norm_then ?_
   refine wp_seq ?_
   refine region ?_
   refine rs (vI v2) (r_move rfl) ?_
   refine rs (Value.agg #[vI v2,vI 0]) (r_build (cs:=[vI v2,vI 0]) (ps:=[(0,vI v2)]) Tryd.zeroValue49 Tryd.runUnderlying49 (pl:=#[(0,1),(1,1)]) (fun w=>by simp [Tryd.sizeOf27,Tryd.sizeOf3]) (parts_1 (show _=vI v2 from rfl)) rfl) ?_
   refine run_st (i:=0) (cs:=[vI 0,vI 0]) (cs':=[vI v2,vI 0]) (vs:=[vI v2,vI 0]) (bs':=[(some b2, .cells #[vI v2,vI 0] 49 (0,0)),(some b1, .cells #[vL A0_0 a0.vDefs.length c0_0] 24 (0,0))]) rfl rfl Tryd.sizeOf49 rfl rfl (by decide) rfl HS5 rfl (Nat.le_of_ble_eq_true rfl) rfl rfl ?_
   intro w7 HS7
   try simp only [sc0,sc1]
   refine run_nil ?_
   refine norm_then ?_
   refine wp_ret ?_
   obtain rfl:=Option.some.inj H
   refine bodyPost_ret (results_1 rfl (one_agg rfl Tryd.isAgg49 (HS7.look 0 rfl) Tryd.sizeOf49 rfl)) rfl ?_
   exact ⟨rfl,HS7.toE⟩

end Go.Proofs.YtfjppgobidjndaaDoor
namespace Go.Proofs.YtfjppgobidjndaaDoor
open Go.RowKit Go.M
def taplineref08_Resolved.l0 (a0:api_Types):Nat→Int→Option (Int)
 |0,_=>none
 |m+1,y1_0=>if 0≤y1_0∧y1_0<a0.vDefs.length then (if ((rd z_api_Def a0.vDefs y1_0).vKind==6)=true then (if 0≤y1_0∧y1_0<a0.vDefs.length then (taplineref08_Resolved.l0 a0 m ((rd z_api_Def a0.vDefs y1_0).vRef)) else none) else (some y1_0)) else none
def taplineref08_Resolved.f (k:Nat) (a0:api_Types) (a1:Int):Option (Int):=(taplineref08_Resolved.l0 a0 k a1).bind fun xx1=>(some xx1)
set_option maxRecDepth 20000 in
set_option maxHeartbeats 4000000 in
theorem taplineref08_Resolved.calls (k:Nat) (a0:api_Types) (a1:Int) (A0_0:Option Addr) (c0_0:Nat) {h0:View} {w0:World} (hv:Sees h0 w0) (hr0_0:Rd k_api_Def h0 A0_0 a0.vDefs) (hc0_0:a0.vDefs.length≤c0_0) {r:Int} (H:taplineref08_Resolved.f k a0 a1=some r):Calls Tryd.prog 58 #[Value.agg #[vL A0_0 a0.vDefs.length c0_0],vI a1] w0 (fun e w1=>e= .returned (vI r)∧Ext w0 w1):=by
 unfold taplineref08_Resolved.f at H
 have HS:St [] h0 w0 h0 [] w0:=St.init hv
 go_enter Tryd.func58,Tryd.ntmps58
 refine wp_seq ?_
 refine region ?_
 refine run_ex rfl rfl (does_box (cs:=#[vL A0_0 a0.vDefs.length c0_0]) rfl rfl) ?_
 rintro w1 _ hE1 ⟨b1,rfl,ge1,hb1⟩
 have HS1:=HS.new hE1 ge1 hb1
 refine rs (vI 0) (r_assign rfl) ?_
 try simp only [sc0,sc1]
 refine run_nil ?_
 refine norm_then ?_
 refine wp_seq ?_
 obtain ⟨xx1,H,G1⟩:=of_bind H
 refine loop_patch [1,5,6,7,8,9,10,11,12,13,14,15,16,17] (fun m us w'=>∃y1_0:Int,∃uy1_5 uy1_6 uy1_7 uy1_8 uy1_9 uy1_10 uy1_11 uy1_12 uy1_13 uy1_14 uy1_15 uy1_16 uy1_17:Value,us=[vI y1_0,uy1_5,uy1_6,uy1_7,uy1_8,uy1_9,uy1_10,uy1_11,uy1_12,uy1_13,uy1_14,uy1_15,uy1_16,uy1_17]∧taplineref08_Resolved.l0 a0 m y1_0=some xx1∧St [] h0 w0 h0 [(some b1, .cells #[vL A0_0 a0.vDefs.length c0_0] 24 (0,0))] w') (fun us w'=>∃uo1_5 uo1_6 uo1_7 uo1_8 uo1_9 uo1_10 uo1_11 uo1_12 uo1_13 uo1_14 uo1_15 uo1_16 uo1_17:Value,us=[vI xx1,uo1_5,uo1_6,uo1_7,uo1_8,uo1_9,uo1_10,uo1_11,uo1_12,uo1_13,uo1_14,uo1_15,uo1_16,uo1_17]∧St [] h0 w0 h0 [(some b1, .cells #[vL A0_0 a0.vDefs.length c0_0] 24 (0,0))] w') k [vI a1,undef,undef,undef,undef,undef,undef,undef,undef,undef,undef,undef,undef,undef] (by simp only [patch,sc0,sc1]) ⟨a1,_,_,_,_,_,_,_,_,_,_,_,_,_,rfl,H,HS1⟩ ?_ ?_
 ·rintro m us w2 ⟨y1_0,uy1_5,uy1_6,uy1_7,uy1_8,uy1_9,uy1_10,uy1_11,uy1_12,uy1_13,uy1_14,uy1_15,uy1_16,uy1_17,rfl,H,HS2⟩
  cases m with
  |zero=>exact absurd H (by simp [taplineref08_Resolved.l0])
  |succ m=>
   rw [taplineref08_Resolved.l0] at H
   try simp only [patch,sc0,sc1]
   refine wp_seq ?_
   refine wp_seq ?_
   refine region ?_
   refine rs (vP b1 0) (r_fieldBox (n:=1) (o':=0) rfl Tryd.runUnderlying24 rfl Tryd.sizeOf22 (by decide) rfl) ?_
   refine rs (vL A0_0 a0.vDefs.length c0_0) (r_loadBox rfl Tryd.isAgg22 (HS2.look 0 rfl) rfl) ?_
   refine rs (vI y1_0) (r_move rfl) ?_
   obtain ⟨hi1,H⟩:=of_ite H
   obtain ⟨ad1,Aad1_6,cad1_6,e1,hel1,hcad1_6,hrad1_6⟩:=ld_api_Def hr0_0 hi1.1 hi1.2
   refine rs (Value.pointer (some (Addr.add ad1 (y1_0.toNat*7)))) (r_indexA (sz:=7) rfl e1 rfl hi1.1 hi1.2 Tryd.runUnderlying22 Tryd.sizeOf34) ?_
   refine run_frame (by simp only [sc0,sc1];rfl) ?_
   refine rs (Value.pointer (some (Addr.add (Addr.add ad1 (y1_0.toNat*7)) 0))) (r_fieldEl (n:=1) (o':=0) rfl Tryd.runUnderlying34 rfl Tryd.sizeOf3 (by decide) rfl) ?_
   refine rs (vI ((rd z_api_Def a0.vDefs y1_0).vKind)) (r_load rfl Tryd.isAgg3 (hel1.cell HS2.sees 0 rfl)) ?_
   refine rs (vB ((rd z_api_Def a0.vDefs y1_0).vKind==6)) (r_bin rfl rfl rfl) ?_
   try simp only [sc0,sc1]
   refine run_nil ?_
   refine norm_then ?_
   refine wp_cond_split (t:=((rd z_api_Def a0.vDefs y1_0).vKind==6)) rfl (fun c1=>?_) (fun c1=>?_)
   ·replace H:=of_pos H c1
    refine wp_skip ?_
    refine norm_then ?_
    refine wp_block ?_
    refine region ?_
    refine rs (vP b1 0) (r_fieldBox (n:=1) (o':=0) rfl Tryd.runUnderlying24 rfl Tryd.sizeOf22 (by decide) rfl) ?_
    refine rs (vL A0_0 a0.vDefs.length c0_0) (r_loadBox rfl Tryd.isAgg22 (HS2.look 0 rfl) rfl) ?_
    refine rs (vI y1_0) (r_move rfl) ?_
    obtain ⟨hi2,H⟩:=of_ite H
    obtain ⟨ad2,Aad2_6,cad2_6,e2,hel2,hcad2_6,hrad2_6⟩:=ld_api_Def hr0_0 hi2.1 hi2.2
    refine rs (Value.pointer (some (Addr.add ad2 (y1_0.toNat*7)))) (r_indexA (sz:=7) rfl e2 rfl hi2.1 hi2.2 Tryd.runUnderlying22 Tryd.sizeOf34) ?_
    refine run_frame (by simp only [sc0,sc1];rfl) ?_
    refine rs (Value.pointer (some (Addr.add (Addr.add ad2 (y1_0.toNat*7)) 4))) (r_fieldEl (n:=1) (o':=4) rfl Tryd.runUnderlying34 rfl Tryd.sizeOf3 (by decide) rfl) ?_
    refine rs (vI ((rd z_api_Def a0.vDefs y1_0).vRef)) (r_load rfl Tryd.isAgg3 (hel2.cell HS2.sees 4 rfl)) ?_
    refine rs (vI ((rd z_api_Def a0.vDefs y1_0).vRef)) (r_assign rfl) ?_
    try simp only [sc0,sc1]
    refine run_nil ?_
    refine norm_block ?_
    refine again m [vI ((rd z_api_Def a0.vDefs y1_0).vRef),vP b1 0,vL A0_0 a0.vDefs.length c0_0,vI y1_0,Value.pointer (some (Addr.add ad1 (y1_0.toNat*7))),Value.pointer (some (Addr.add (Addr.add ad1 (y1_0.toNat*7)) 0)),vI ((rd z_api_Def a0.vDefs y1_0).vKind),vB ((rd z_api_Def a0.vDefs y1_0).vKind==6),vP b1 0,vL A0_0 a0.vDefs.length c0_0,vI y1_0,Value.pointer (some (Addr.add ad2 (y1_0.toNat*7))),Value.pointer (some (Addr.add (Addr.add ad2 (y1_0.toNat*7)) 4)),vI ((rd z_api_Def a0.vDefs y1_0).vRef)] (Nat.lt_succ_self m) (by simp only [patch,sc0,sc1]) ⟨(rd z_api_Def a0.vDefs y1_0).vRef,_,_,_,_,_,_,_,_,_,_,_,_,_,rfl,H,HS2⟩
   ·replace H:=of_neg H (nt c1)
    refine wp_exit ?_
    refine exit_then ?_
    obtain rfl:=Option.some.inj H
    refine leave [vI y1_0,vP b1 0,vL A0_0 a0.vDefs.length c0_0,vI y1_0,Value.pointer (some (Addr.add ad1 (y1_0.toNat*7))),Value.pointer (some (Addr.add (Addr.add ad1 (y1_0.toNat*7)) 0)),vI ((rd z_api_Def a0.vDefs y1_0).vKind),vB ((rd z_api_Def a0.vDefs y1_0).vKind==6),uy1_12,uy1_13,uy1_14,uy1_15,uy1_16,uy1_17] (by simp only [patch,sc0,sc1]) ⟨_,_,_,_,_,_,_,_,_,_,_,_,_,rfl,HS2⟩
 ·rintro us w3 ⟨uo1_5,uo1_6,uo1_7,uo1_8,uo1_9,uo1_10,uo1_11,uo1_12,uo1_13,uo1_14,uo1_15,uo1_16,uo1_17,rfl,HS3⟩
  replace H:=G1
  clear G1
  try simp only [patch,sc0,sc1]
  refine norm_then ?_
  refine wp_seq ?_
  refine region ?_
  refine rs (vI xx1) (r_move rfl) ?_
  refine rs (vI xx1) (r_assign rfl) ?_
  try simp only [sc0,sc1]
  refine run_nil ?_
  refine norm_then ?_
  refine wp_ret ?_
  obtain rfl:=Option.some.inj H
  refine bodyPost_ret (results_1 rfl (one_tmp rfl)) rfl ?_
  exact ⟨rfl,HS3.toE⟩

end Go.Proofs.YtfjppgobidjndaaDoor
namespace Go.Proofs.YtfjppgobidjndaaDoor
open Go.RowKit Go.M
def taplineref08_Resolve.f (k:Nat) (a0:api_Types) (a1:Int):Option (taplineref08_Number):=(taplineref08_given.f k a0 a1).bind fun v1=>(if (v1 !=0)=true then (some (⟨0,v1⟩:taplineref08_Number)) else ((taplineref08_Resolved.f k a0 a1).bind fun v2=>(some (⟨v2,0⟩:taplineref08_Number))))
set_option maxRecDepth 20000 in
set_option maxHeartbeats 4000000 in
theorem taplineref08_Resolve.calls (k:Nat) (a0:api_Types) (a1:Int) (A0_0:Option Addr) (c0_0:Nat) {h0:View} {w0:World} (hv:Sees h0 w0) (hr0_0:Rd k_api_Def h0 A0_0 a0.vDefs) (hc0_0:a0.vDefs.length≤c0_0) {r:taplineref08_Number} (H:taplineref08_Resolve.f k a0 a1=some r):Calls Tryd.prog 25 #[Value.agg #[vL A0_0 a0.vDefs.length c0_0],vI a1] w0 (fun e w1=>e= .returned (Value.agg #[vI r.vN,vI r.vE])∧Ext w0 w1):=by
 unfold taplineref08_Resolve.f at H
 have HS:St [] h0 w0 h0 [] w0:=St.init hv
 go_enter Tryd.func25,Tryd.ntmps25
 refine wp_seq ?_
 refine region ?_
 refine run_ex rfl rfl (does_box (cs:=#[vL A0_0 a0.vDefs.length c0_0]) rfl rfl) ?_
 rintro w1 _ hE1 ⟨b1,rfl,ge1,hb1⟩
 have HS1:=HS.new hE1 ge1 hb1
 refine run_ex rfl rfl (does_alloc (cs:=#[vI 0,vI 0]) Tryd.zeroValue49 rfl) ?_
 rintro w2 _ hE2 ⟨b2,rfl,ge2,hb2⟩
 have HS2:=HS1.new hE2 ge2 hb2
 try simp only [sc0,sc1]
 refine run_nil ?_
 refine norm_then ?_
 refine wp_seq ?_
 refine region ?_
 refine rs (Value.agg #[vL A0_0 a0.vDefs.length c0_0]) (r_loadBoxAgg (n:=1) (vs:=[vL A0_0 a0.vDefs.length c0_0]) rfl Tryd.isAgg24 (HS2.look 1 rfl) Tryd.sizeOf24 rfl rfl) ?_
 refine rs (vI a1) (r_move rfl) ?_
 obtain ⟨v1,H1,H⟩:=of_bind H
 refine run_eq (v:=vI v1) rfl rfl (does_call_eq Tryd.call55 rfl rfl (taplineref08_given.calls k a0 a1 A0_0 c0_0 HS2.sees hr0_0 hc0_0 H1)) ?_
 intro w3 hE3
 have HS3:=HS2.step hE3
 refine rs (vI v1) (r_assign rfl) ?_
 try simp only [sc0,sc1]
 refine run_nil ?_
 refine norm_then ?_
 refine wp_seq ?_
 refine wp_seq ?_
 refine region ?_
 refine rs (vI v1) (r_move rfl) ?_
 refine rs (vB (v1 !=0)) (r_bin rfl rfl rfl) ?_
 try simp only [sc0,sc1]
 refine run_nil ?_
 refine norm_then ?_
 refine wp_cond_split (t:=(v1 !=0)) rfl (fun c1=>?_) (fun c1=>?_)
 ·replace H:=of_pos H c1
  refine wp_seq ?_
  refine region ?_
  refine rs (vI v1) (r_move rfl) ?_
  refine rs (Value.agg #[vI 0,vI v1]) (r_build (cs:=[vI 0,vI v1]) (ps:=[(1,vI v1)]) Tryd.zeroValue49 Tryd.runUnderlying49 (pl:=#[(0,1),(1,1)]) (fun w=>by simp [Tryd.sizeOf27,Tryd.sizeOf3]) (parts_1 (show _=vI v1 from rfl)) rfl) ?_
  refine run_st (i:=0) (cs:=[vI 0,vI 0]) (cs':=[vI 0,vI v1]) (vs:=[vI 0,vI v1]) (bs':=[(some b2, .cells #[vI 0,vI v1] 49 (0,0)),(some b1, .cells #[vL A0_0 a0.vDefs.length c0_0] 24 (0,0))]) rfl rfl Tryd.sizeOf49 rfl rfl (by decide) rfl HS3 rfl (Nat.le_of_ble_eq_true rfl) rfl rfl ?_
  intro w4 HS4
  try simp only [sc0,sc1]
  refine run_nil ?_
  refine norm_then ?_
  refine wp_ret ?_
  refine ret_then ?_
  obtain rfl:=Option.some.inj H
  refine bodyPost_ret (results_1 rfl (one_agg rfl Tryd.isAgg49 (HS4.look 0 rfl) Tryd.sizeOf49 rfl)) rfl ?_
  exact ⟨rfl,HS4.toE⟩
 ·replace H:=of_neg H (nt c1)
  refine wp_skip ?_
  refine norm_then ?_
  refine wp_seq ?_
  refine region ?_
  refine rs (Value.agg #[vL A0_0 a0.vDefs.length c0_0]) (r_loadBoxAgg (n:=1) (vs:=[vL A0_0 a0.vDefs.length c0_0]) rfl Tryd.isAgg24 (HS3.look 1 rfl) Tryd.sizeOf24 rfl rfl) ?_
  refine rs (vI a1) (r_move rfl) ?_
  obtain ⟨v2,H2,H⟩:=of_bind H
  refine run_eq (v:=vI v2) rfl rfl (does_call_eq Tryd.call58 rfl rfl (taplineref08_Resolved.calls k a0 a1 A0_0 c0_0 HS3.sees hr0_0 hc0_0 H2)) ?_
  intro w5 hE4
  have HS5:=HS3.step hE4
  refine rs (Value.agg #[vI v2,vI 0]) (r_build (cs:=[vI v2,vI 0]) (ps:=[(0,vI v2)]) Tryd.zeroValue49 Tryd.runUnderlying49 (pl:=#[(0,1),(1,1)]) (fun w=>by simp [Tryd.sizeOf27,Tryd.sizeOf3]) (parts_1 (show _=vI v2 from rfl)) rfl) ?_
  refine run_frame (by simp only [sc0,sc1];rfl) ?_
  refine run_st (i:=0) (cs:=[vI 0,vI 0]) (cs':=[vI v2,vI 0]) (vs:=[vI v2,vI 0]) (bs':=[(some b2, .cells #[vI v2,vI 0] 49 (0,0)),(some b1, .cells #[vL A0_0 a0.vDefs.length c0_0] 24 (0,0))]) rfl rfl Tryd.sizeOf49 rfl rfl (by decide) rfl HS5 rfl (Nat.le_of_ble_eq_true rfl) rfl rfl ?_
  intro w6 HS6
  try simp only [sc0,sc1]
  refine run_nil ?_
  refine norm_then ?_
  refine wp_ret ?_
  obtain rfl:=Option.some.inj H
  refine bodyPost_ret (results_1 rfl (one_agg rfl Tryd.isAgg49 (HS6.look 0 rfl) Tryd.sizeOf49 rfl)) rfl ?_
  exact ⟨rfl,HS6.toE⟩

end Go.Proofs.YtfjppgobidjndaaDoor
namespace Go.Proofs.YtfjppgobidjndaaDoor
open Go.RowKit Go.M
def taplineref08_Member.l0 (a0:api_Types) (a2:ByteArray) (v2:Int):Nat→Int→Option ((taplineref08_Part)⊕(Unit))
 |0,_=>none
 |m+1,y1_0=>if (decide (y1_0<(((rd z_api_Def a0.vDefs v2).vFields).length:Int)))=true then (if 0≤y1_0∧y1_0<((rd z_api_Def a0.vDefs v2).vFields).length then (if (strEq ((rd z_api_Field ((rd z_api_Def a0.vDefs v2).vFields) y1_0).vName) a2)=true then (if 0≤y1_0∧y1_0<((rd z_api_Def a0.vDefs v2).vFields).length then (some (.inl (⟨(⟨(rd z_api_Field ((rd z_api_Def a0.vDefs v2).vFields) y1_0).vName,(rd z_api_Field ((rd z_api_Def a0.vDefs v2).vFields) y1_0).vType,(rd z_api_Field ((rd z_api_Def a0.vDefs v2).vFields) y1_0).vAt⟩:api_Field),0⟩:taplineref08_Part))) else none) else (taplineref08_Member.l0 a0 a2 v2 m (IntKind.wrap .i64 (y1_0+1)))) else none) else (some (.inr ()))
def taplineref08_Member.f (k:Nat) (a0:api_Types) (a1:Int) (a2:ByteArray):Option (taplineref08_Part):=(taplineref08_given.f k a0 a1).bind fun v1=>(if (v1 !=0)=true then (some (⟨(⟨ByteArray.empty,0,0⟩:api_Field),v1⟩:taplineref08_Part)) else ((taplineref08_Resolved.f k a0 a1).bind fun v2=>(if 0≤v2∧v2<a0.vDefs.length then (if ((rd z_api_Def a0.vDefs v2).vKind !=4)=true then (some (⟨(⟨ByteArray.empty,0,0⟩:api_Field),5⟩:taplineref08_Part)) else ((taplineref08_Member.l0 a0 a2 v2 k 0).bind fun xx1=>(match xx1 with| .inl r=>some r| .inr s1=>some (⟨(⟨ByteArray.empty,0,0⟩:api_Field),3⟩:taplineref08_Part)))) else none)))
set_option maxRecDepth 20000 in
set_option maxHeartbeats 4000000 in
theorem taplineref08_Member.calls (k:Nat) (a0:api_Types) (a1:Int) (a2:ByteArray) (A0_0:Option Addr) (c0_0:Nat) {h0:View} {w0:World} (hv:Sees h0 w0) (hr0_0:Rd k_api_Def h0 A0_0 a0.vDefs) (hc0_0:a0.vDefs.length≤c0_0) {r:taplineref08_Part} (H:taplineref08_Member.f k a0 a1 a2=some r):Calls Tryd.prog 26 #[Value.agg #[vL A0_0 a0.vDefs.length c0_0],vI a1,vS a2] w0 (fun e w1=>e= .returned (Value.agg #[vS r.vF.vName,vI r.vF.vType,vI r.vF.vAt,vI r.vE])∧Ext w0 w1):=by
 unfold taplineref08_Member.f at H
 have HS:St [] h0 w0 h0 [] w0:=St.init hv
 go_enter Tryd.func26,Tryd.ntmps26
 refine wp_seq ?_
 refine region ?_
 refine run_ex rfl rfl (does_box (cs:=#[vL A0_0 a0.vDefs.length c0_0]) rfl rfl) ?_
 rintro w1 _ hE1 ⟨b1,rfl,ge1,hb1⟩
 have HS1:=HS.new hE1 ge1 hb1
 refine run_ex rfl rfl (does_alloc (cs:=#[vS ByteArray.empty,vI 0,vI 0,vI 0]) Tryd.zeroValue56 rfl) ?_
 rintro w2 _ hE2 ⟨b2,rfl,ge2,hb2⟩
 have HS2:=HS1.new hE2 ge2 hb2
 try simp only [sc0,sc1]
 refine run_nil ?_
 refine norm_then ?_
 refine wp_seq ?_
 refine region ?_
 refine rs (Value.agg #[vL A0_0 a0.vDefs.length c0_0]) (r_loadBoxAgg (n:=1) (vs:=[vL A0_0 a0.vDefs.length c0_0]) rfl Tryd.isAgg24 (HS2.look 1 rfl) Tryd.sizeOf24 rfl rfl) ?_
 refine rs (vI a1) (r_move rfl) ?_
 obtain ⟨v1,H1,H⟩:=of_bind H
 refine run_eq (v:=vI v1) rfl rfl (does_call_eq Tryd.call55 rfl rfl (taplineref08_given.calls k a0 a1 A0_0 c0_0 HS2.sees hr0_0 hc0_0 H1)) ?_
 intro w3 hE3
 have HS3:=HS2.step hE3
 refine rs (vI v1) (r_assign rfl) ?_
 try simp only [sc0,sc1]
 refine run_nil ?_
 refine norm_then ?_
 refine wp_seq ?_
 refine wp_seq ?_
 refine region ?_
 refine rs (vI v1) (r_move rfl) ?_
 refine rs (vB (v1 !=0)) (r_bin rfl rfl rfl) ?_
 try simp only [sc0,sc1]
 refine run_nil ?_
 refine norm_then ?_
 refine wp_cond_split (t:=(v1 !=0)) rfl (fun c1=>?_) (fun c1=>?_)
 ·replace H:=of_pos H c1
  refine wp_seq ?_
  refine region ?_
  refine rs (vI v1) (r_move rfl) ?_
  refine rs (Value.agg #[vS ByteArray.empty,vI 0,vI 0,vI v1]) (r_build (cs:=[vS ByteArray.empty,vI 0,vI 0,vI v1]) (ps:=[(1,vI v1)]) Tryd.zeroValue56 Tryd.runUnderlying56 (pl:=#[(0,3),(3,1)]) (fun w=>by simp [Tryd.sizeOf27,Tryd.sizeOf36]) (parts_1 (show _=vI v1 from rfl)) rfl) ?_
  refine run_st (i:=0) (cs:=[vS ByteArray.empty,vI 0,vI 0,vI 0]) (cs':=[vS ByteArray.empty,vI 0,vI 0,vI v1]) (vs:=[vS ByteArray.empty,vI 0,vI 0,vI v1]) (bs':=[(some b2, .cells #[vS ByteArray.empty,vI 0,vI 0,vI v1] 56 (0,0)),(some b1, .cells #[vL A0_0 a0.vDefs.length c0_0] 24 (0,0))]) rfl rfl Tryd.sizeOf56 rfl rfl (by decide) rfl HS3 rfl (Nat.le_of_ble_eq_true rfl) rfl rfl ?_
  intro w4 HS4
  try simp only [sc0,sc1]
  refine run_nil ?_
  refine norm_then ?_
  refine wp_ret ?_
  refine ret_then ?_
  obtain rfl:=Option.some.inj H
  refine bodyPost_ret (results_1 rfl (one_agg rfl Tryd.isAgg56 (HS4.look 0 rfl) Tryd.sizeOf56 rfl)) rfl ?_
  exact ⟨rfl,HS4.toE⟩
 ·replace H:=of_neg H (nt c1)
  refine wp_skip ?_
  refine norm_then ?_
  refine wp_seq ?_
  obtain ⟨v2,H2,H⟩:=of_bind H
  obtain ⟨hi1,H⟩:=of_ite H
  obtain ⟨ad1,Aad1_6,cad1_6,e1,hel1,hcad1_6,hrad1_6⟩:=ld_api_Def hr0_0 hi1.1 hi1.2
  refine drawn [.eq (vP b1 0), .eq (vL A0_0 a0.vDefs.length c0_0), .eq (Value.agg #[vL A0_0 a0.vDefs.length c0_0]), .eq (vI a1), .eq (vI v2), .eq (Value.pointer (some (Addr.add ad1 (v2.toNat*7)))), .eq (Value.agg #[vI ((rd z_api_Def a0.vDefs v2).vKind),vS ((rd z_api_Def a0.vDefs v2).vName),vI ((rd z_api_Def a0.vDefs v2).vInt.vSize),vB ((rd z_api_Def a0.vDefs v2).vInt.vSigned),vI ((rd z_api_Def a0.vDefs v2).vRef),vI ((rd z_api_Def a0.vDefs v2).vN),vL Aad1_6 ((rd z_api_Def a0.vDefs v2).vFields).length cad1_6]), .ex (NewBox w3 #[vI 0,vS ByteArray.empty,vI 0,vB false,vI 0,vI 0,vL none 0 0] 34)] [17,18,19,20,21,22,23,8] hmix (by kernel_rfl) rfl (stable_eq (stable_eq (stable_eq (stable_eq (stable_eq (stable_eq (stable_eq (stable_ex NewBox.stable stable_nil)))))))) ⟨ob_plain rfl (fun a' w' hE hk=>by have HSd:=HS3.step hE;exact does_eq (r_fieldBox (n:=1) (o':=0) (show _=vP b1 0 from hk 3 rfl) Tryd.runUnderlying24 rfl Tryd.sizeOf22 (by decide) rfl)),ob_plain rfl (fun a' w' hE hk=>by have HSd:=HS3.step hE;exact does_eq (r_loadBox (show _=vP b1 0 from hk 17 rfl) Tryd.isAgg22 (HSd.look 1 rfl) rfl)),ob_plain rfl (fun a' w' hE hk=>by have HSd:=HS3.step hE;exact does_eq (r_loadBoxAgg (n:=1) (vs:=[vL A0_0 a0.vDefs.length c0_0]) (show _=vP b1 0 from hk 3 rfl) Tryd.isAgg24 (HSd.look 1 rfl) Tryd.sizeOf24 rfl rfl)),ob_plain rfl (fun a' w' hE hk=>by have HSd:=HS3.step hE;exact does_eq (r_move (show _=vI a1 from hk 1 rfl))),ob_plain rfl (fun a' w' hE hk=>by have HSd:=HS3.step hE;exact (does_call_eq Tryd.call58 rfl (map2 (show _=Value.agg #[vL A0_0 a0.vDefs.length c0_0] from hk 19 rfl) (show _=vI a1 from hk 20 rfl)) (taplineref08_Resolved.calls k a0 a1 A0_0 c0_0 HSd.sees hr0_0 hc0_0 H2))),ob_plain rfl (fun a' w' hE hk=>by have HSd:=HS3.step hE;exact does_eq (r_indexA (sz:=7) (show _=vL A0_0 a0.vDefs.length c0_0 from hk 18 rfl) e1 (show _=vI v2 from hk 21 rfl) hi1.1 hi1.2 Tryd.runUnderlying22 Tryd.sizeOf34)),ob_plain rfl (fun a' w' hE hk=>by have HSd:=HS3.step hE;exact does_eq (r_loadAgg (show _=Value.pointer (some (Addr.add ad1 (v2.toNat*7))) from hk 22 rfl) Tryd.isAgg34 (hel1.sees HSd.sees) Tryd.sizeOf34)),ob_plain rfl (fun a' w' hE hk=>(alloc_in hE (cs:=#[vI 0,vS ByteArray.empty,vI 0,vB false,vI 0,vI 0,vL none 0 0]) Tryd.zeroValue34 rfl)),trivial⟩ ?_
  intro w5 hE4
  simp only [List.zip_cons_cons,List.zip_nil_left,List.zip_nil_right,finL,sc0,sc1,List.length_cons,List.length_nil,List.drop_succ_cons,List.drop_zero,Nat.zero_add,Nat.reduceAdd]
  rintro _ ⟨b3,rfl,ge3,hb3⟩
  have HS5:=HS3.new hE4 ge3 hb3
  refine run_st (i:=0) (cs:=[vI 0,vS ByteArray.empty,vI 0,vB false,vI 0,vI 0,vL none 0 0]) (cs':=[vI ((rd z_api_Def a0.vDefs v2).vKind),vS ((rd z_api_Def a0.vDefs v2).vName),vI ((rd z_api_Def a0.vDefs v2).vInt.vSize),vB ((rd z_api_Def a0.vDefs v2).vInt.vSigned),vI ((rd z_api_Def a0.vDefs v2).vRef),vI ((rd z_api_Def a0.vDefs v2).vN),vL Aad1_6 ((rd z_api_Def a0.vDefs v2).vFields).length cad1_6]) (vs:=[vI ((rd z_api_Def a0.vDefs v2).vKind),vS ((rd z_api_Def a0.vDefs v2).vName),vI ((rd z_api_Def a0.vDefs v2).vInt.vSize),vB ((rd z_api_Def a0.vDefs v2).vInt.vSigned),vI ((rd z_api_Def a0.vDefs v2).vRef),vI ((rd z_api_Def a0.vDefs v2).vN),vL Aad1_6 ((rd z_api_Def a0.vDefs v2).vFields).length cad1_6]) (bs':=[(some b3, .cells #[vI ((rd z_api_Def a0.vDefs v2).vKind),vS ((rd z_api_Def a0.vDefs v2).vName),vI ((rd z_api_Def a0.vDefs v2).vInt.vSize),vB ((rd z_api_Def a0.vDefs v2).vInt.vSigned),vI ((rd z_api_Def a0.vDefs v2).vRef),vI ((rd z_api_Def a0.vDefs v2).vN),vL Aad1_6 ((rd z_api_Def a0.vDefs v2).vFields).length cad1_6] 34 (0,0)),(some b2, .cells #[vS ByteArray.empty,vI 0,vI 0,vI 0] 56 (0,0)),(some b1, .cells #[vL A0_0 a0.vDefs.length c0_0] 24 (0,0))]) rfl rfl Tryd.sizeOf34 rfl rfl (by decide) rfl HS5 rfl (Nat.le_of_ble_eq_true rfl) rfl rfl ?_
  intro w6 HS6
  try simp only [sc0,sc1]
  refine run_nil ?_
  refine norm_then ?_
  refine wp_seq ?_
  refine wp_seq ?_
  refine region ?_
  refine rs (vP b3 0) (r_fieldBox (n:=1) (o':=0) rfl Tryd.runUnderlying34 rfl Tryd.sizeOf3 (by decide) rfl) ?_
  refine rs (vI ((rd z_api_Def a0.vDefs v2).vKind)) (r_loadBox rfl Tryd.isAgg3 (HS6.look 0 rfl) rfl) ?_
  refine rs (vB ((rd z_api_Def a0.vDefs v2).vKind !=4)) (r_bin rfl rfl rfl) ?_
  try simp only [sc0,sc1]
  refine run_nil ?_
  refine norm_then ?_
  refine wp_cond_split (t:=((rd z_api_Def a0.vDefs v2).vKind !=4)) rfl (fun c2=>?_) (fun c2=>?_)
  ·replace H:=of_pos H c2
   refine wp_seq ?_
   refine region ?_
   refine rs (Value.agg #[vS ByteArray.empty,vI 0,vI 0,vI 5]) (r_build (cs:=[vS ByteArray.empty,vI 0,vI 0,vI 5]) (ps:=[(1,vI 5)]) Tryd.zeroValue56 Tryd.runUnderlying56 (pl:=#[(0,3),(3,1)]) (fun w=>by simp [Tryd.sizeOf27,Tryd.sizeOf36]) (parts_1 (show _=vI 5 from rfl)) rfl) ?_
   refine run_st (i:=1) (cs:=[vS ByteArray.empty,vI 0,vI 0,vI 0]) (cs':=[vS ByteArray.empty,vI 0,vI 0,vI 5]) (vs:=[vS ByteArray.empty,vI 0,vI 0,vI 5]) (bs':=[(some b3, .cells #[vI ((rd z_api_Def a0.vDefs v2).vKind),vS ((rd z_api_Def a0.vDefs v2).vName),vI ((rd z_api_Def a0.vDefs v2).vInt.vSize),vB ((rd z_api_Def a0.vDefs v2).vInt.vSigned),vI ((rd z_api_Def a0.vDefs v2).vRef),vI ((rd z_api_Def a0.vDefs v2).vN),vL Aad1_6 ((rd z_api_Def a0.vDefs v2).vFields).length cad1_6] 34 (0,0)),(some b2, .cells #[vS ByteArray.empty,vI 0,vI 0,vI 5] 56 (0,0)),(some b1, .cells #[vL A0_0 a0.vDefs.length c0_0] 24 (0,0))]) rfl rfl Tryd.sizeOf56 rfl rfl (by decide) rfl HS6 rfl (Nat.le_of_ble_eq_true rfl) rfl rfl ?_
   intro w7 HS7
   try simp only [sc0,sc1]
   refine run_nil ?_
   refine norm_then ?_
   refine wp_ret ?_
   refine ret_then ?_
   obtain rfl:=Option.some.inj H
   refine bodyPost_ret (results_1 rfl (one_agg rfl Tryd.isAgg56 (HS7.look 1 rfl) Tryd.sizeOf56 rfl)) rfl ?_
   exact ⟨rfl,HS7.toE⟩
  ·replace H:=of_neg H (nt c2)
   refine wp_skip ?_
   refine norm_then ?_
   refine wp_seq ?_
   refine wp_seq ?_
   refine region ?_
   refine rs (vI 0) (r_assign rfl) ?_
   try simp only [sc0,sc1]
   refine run_nil ?_
   refine norm_then ?_
   obtain ⟨xx1,H,G1⟩:=of_bind H
   refine loop_patch [9,28,29,30,31,32,33,34,35,36,37,38,39,40,41,42,43,44,45,46,47,48] (fun m us w'=>∃y1_0:Int,∃uy1_28 uy1_29 uy1_30 uy1_31 uy1_32 uy1_33 uy1_34 uy1_35 uy1_36 uy1_37 uy1_38 uy1_39 uy1_40 uy1_41 uy1_42 uy1_43 uy1_44 uy1_45 uy1_46 uy1_47 uy1_48:Value,us=[vI y1_0,uy1_28,uy1_29,uy1_30,uy1_31,uy1_32,uy1_33,uy1_34,uy1_35,uy1_36,uy1_37,uy1_38,uy1_39,uy1_40,uy1_41,uy1_42,uy1_43,uy1_44,uy1_45,uy1_46,uy1_47,uy1_48]∧taplineref08_Member.l0 a0 a2 v2 m y1_0=some xx1∧St [] h0 w0 h0 [(some b3, .cells #[vI ((rd z_api_Def a0.vDefs v2).vKind),vS ((rd z_api_Def a0.vDefs v2).vName),vI ((rd z_api_Def a0.vDefs v2).vInt.vSize),vB ((rd z_api_Def a0.vDefs v2).vInt.vSigned),vI ((rd z_api_Def a0.vDefs v2).vRef),vI ((rd z_api_Def a0.vDefs v2).vN),vL Aad1_6 ((rd z_api_Def a0.vDefs v2).vFields).length cad1_6] 34 (0,0)),(some b2, .cells #[vS ByteArray.empty,vI 0,vI 0,vI 0] 56 (0,0)),(some b1, .cells #[vL A0_0 a0.vDefs.length c0_0] 24 (0,0))] w') (fun us w'=>∃(s1:Unit),xx1= .inr s1∧∃uo1_9 uo1_28 uo1_29 uo1_30 uo1_31 uo1_32 uo1_33 uo1_34 uo1_35 uo1_36 uo1_37 uo1_38 uo1_39 uo1_40 uo1_41 uo1_42 uo1_43 uo1_44 uo1_45 uo1_46 uo1_47 uo1_48:Value,us=[uo1_9,uo1_28,uo1_29,uo1_30,uo1_31,uo1_32,uo1_33,uo1_34,uo1_35,uo1_36,uo1_37,uo1_38,uo1_39,uo1_40,uo1_41,uo1_42,uo1_43,uo1_44,uo1_45,uo1_46,uo1_47,uo1_48]∧St [] h0 w0 h0 [(some b3, .cells #[vI ((rd z_api_Def a0.vDefs v2).vKind),vS ((rd z_api_Def a0.vDefs v2).vName),vI ((rd z_api_Def a0.vDefs v2).vInt.vSize),vB ((rd z_api_Def a0.vDefs v2).vInt.vSigned),vI ((rd z_api_Def a0.vDefs v2).vRef),vI ((rd z_api_Def a0.vDefs v2).vN),vL Aad1_6 ((rd z_api_Def a0.vDefs v2).vFields).length cad1_6] 34 (0,0)),(some b2, .cells #[vS ByteArray.empty,vI 0,vI 0,vI 0] 56 (0,0)),(some b1, .cells #[vL A0_0 a0.vDefs.length c0_0] 24 (0,0))] w') k [vI 0,undef,undef,undef,undef,undef,undef,undef,undef,undef,undef,undef,undef,undef,undef,undef,undef,undef,undef,undef,undef,undef] (by simp only [patch,sc0,sc1]) ⟨0,_,_,_,_,_,_,_,_,_,_,_,_,_,_,_,_,_,_,_,_,_,rfl,H,HS6⟩ ?_ ?_
   ·rintro m us w8 ⟨y1_0,uy1_28,uy1_29,uy1_30,uy1_31,uy1_32,uy1_33,uy1_34,uy1_35,uy1_36,uy1_37,uy1_38,uy1_39,uy1_40,uy1_41,uy1_42,uy1_43,uy1_44,uy1_45,uy1_46,uy1_47,uy1_48,rfl,H,HS8⟩
    cases m with
    |zero=>exact absurd H (by simp [taplineref08_Member.l0])
    |succ m=>
     rw [taplineref08_Member.l0] at H
     try simp only [patch,sc0,sc1]
     refine wp_seq ?_
     refine wp_seq ?_
     refine region ?_
     refine rs (vI y1_0) (r_move rfl) ?_
     refine rs (vP b3 6) (r_fieldBox (n:=1) (o':=6) rfl Tryd.runUnderlying34 rfl Tryd.sizeOf32 (by decide) rfl) ?_
     refine rs (vL Aad1_6 ((rd z_api_Def a0.vDefs v2).vFields).length cad1_6) (r_loadBox rfl Tryd.isAgg32 (HS8.look 0 rfl) rfl) ?_
     refine rs (vI (((rd z_api_Def a0.vDefs v2).vFields).length:Int)) (r_len rfl Tryd.runUnderlying32) ?_
     refine run_frame (by simp only [sc0,sc1];rfl) ?_
     refine rs (vB (decide (y1_0<(((rd z_api_Def a0.vDefs v2).vFields).length:Int)))) (r_bin rfl rfl rfl) ?_
     try simp only [sc0,sc1]
     refine run_nil ?_
     refine norm_then ?_
     refine wp_cond_split (t:=(decide (y1_0<(((rd z_api_Def a0.vDefs v2).vFields).length:Int)))) rfl (fun c3=>?_) (fun c3=>?_)
     ·replace H:=of_pos H c3
      refine wp_skip ?_
      refine norm_then ?_
      refine wp_seq ?_
      refine wp_block ?_
      refine wp_seq ?_
      refine region ?_
      refine rs (vP b3 6) (r_fieldBox (n:=1) (o':=6) rfl Tryd.runUnderlying34 rfl Tryd.sizeOf32 (by decide) rfl) ?_
      refine rs (vL Aad1_6 ((rd z_api_Def a0.vDefs v2).vFields).length cad1_6) (r_loadBox rfl Tryd.isAgg32 (HS8.look 0 rfl) rfl) ?_
      refine rs (vI y1_0) (r_move rfl) ?_
      obtain ⟨hi2,H⟩:=of_ite H
      obtain ⟨ad2,e2,hel2⟩:=ld_api_Field hrad1_6 hi2.1 hi2.2
      refine rs (Value.pointer (some (Addr.add ad2 (y1_0.toNat*3)))) (r_indexA (sz:=3) rfl e2 rfl hi2.1 hi2.2 Tryd.runUnderlying32 Tryd.sizeOf36) ?_
      refine run_frame (by simp only [sc0,sc1];rfl) ?_
      refine rs (Value.pointer (some (Addr.add (Addr.add ad2 (y1_0.toNat*3)) 0))) (r_fieldEl (n:=1) (o':=0) rfl Tryd.runUnderlying36 rfl Tryd.sizeOf9 (by decide) rfl) ?_
      refine rs (vS ((rd z_api_Field ((rd z_api_Def a0.vDefs v2).vFields) y1_0).vName)) (r_load rfl Tryd.isAgg9 (hel2.cell HS8.sees 0 rfl)) ?_
      refine rs (vS a2) (r_move rfl) ?_
      refine rs (vB (strEq ((rd z_api_Field ((rd z_api_Def a0.vDefs v2).vFields) y1_0).vName) a2)) (r_streql rfl rfl) ?_
      try simp only [sc0,sc1]
      refine run_nil ?_
      refine norm_then ?_
      refine wp_cond_split (t:=(strEq ((rd z_api_Field ((rd z_api_Def a0.vDefs v2).vFields) y1_0).vName) a2)) rfl (fun c4=>?_) (fun c4=>?_)
      ·replace H:=of_pos H c4
       refine wp_seq ?_
       refine region ?_
       refine rs (vP b3 6) (r_fieldBox (n:=1) (o':=6) rfl Tryd.runUnderlying34 rfl Tryd.sizeOf32 (by decide) rfl) ?_
       refine rs (vL Aad1_6 ((rd z_api_Def a0.vDefs v2).vFields).length cad1_6) (r_loadBox rfl Tryd.isAgg32 (HS8.look 0 rfl) rfl) ?_
       refine rs (vI y1_0) (r_move rfl) ?_
       obtain ⟨hi3,H⟩:=of_ite H
       obtain ⟨ad3,e3,hel3⟩:=ld_api_Field hrad1_6 hi3.1 hi3.2
       refine rs (Value.pointer (some (Addr.add ad3 (y1_0.toNat*3)))) (r_indexA (sz:=3) rfl e3 rfl hi3.1 hi3.2 Tryd.runUnderlying32 Tryd.sizeOf36) ?_
       refine run_frame (by simp only [sc0,sc1];rfl) ?_
       refine rs (Value.agg #[vS ((rd z_api_Field ((rd z_api_Def a0.vDefs v2).vFields) y1_0).vName),vI ((rd z_api_Field ((rd z_api_Def a0.vDefs v2).vFields) y1_0).vType),vI ((rd z_api_Field ((rd z_api_Def a0.vDefs v2).vFields) y1_0).vAt)]) (r_loadAgg rfl Tryd.isAgg36 (hel3.sees HS8.sees) Tryd.sizeOf36) ?_
       refine rs (Value.agg #[vS ((rd z_api_Field ((rd z_api_Def a0.vDefs v2).vFields) y1_0).vName),vI ((rd z_api_Field ((rd z_api_Def a0.vDefs v2).vFields) y1_0).vType),vI ((rd z_api_Field ((rd z_api_Def a0.vDefs v2).vFields) y1_0).vAt),vI 0]) (r_build (cs:=[vS ((rd z_api_Field ((rd z_api_Def a0.vDefs v2).vFields) y1_0).vName),vI ((rd z_api_Field ((rd z_api_Def a0.vDefs v2).vFields) y1_0).vType),vI ((rd z_api_Field ((rd z_api_Def a0.vDefs v2).vFields) y1_0).vAt),vI 0]) (ps:=[(0,Value.agg #[vS ((rd z_api_Field ((rd z_api_Def a0.vDefs v2).vFields) y1_0).vName),vI ((rd z_api_Field ((rd z_api_Def a0.vDefs v2).vFields) y1_0).vType),vI ((rd z_api_Field ((rd z_api_Def a0.vDefs v2).vFields) y1_0).vAt)])]) Tryd.zeroValue56 Tryd.runUnderlying56 (pl:=#[(0,3),(3,1)]) (fun w=>by simp [Tryd.sizeOf27,Tryd.sizeOf36]) (parts_1 (show _=Value.agg #[vS ((rd z_api_Field ((rd z_api_Def a0.vDefs v2).vFields) y1_0).vName),vI ((rd z_api_Field ((rd z_api_Def a0.vDefs v2).vFields) y1_0).vType),vI ((rd z_api_Field ((rd z_api_Def a0.vDefs v2).vFields) y1_0).vAt)] from rfl)) rfl) ?_
       refine run_st (i:=1) (cs:=[vS ByteArray.empty,vI 0,vI 0,vI 0]) (cs':=[vS ((rd z_api_Field ((rd z_api_Def a0.vDefs v2).vFields) y1_0).vName),vI ((rd z_api_Field ((rd z_api_Def a0.vDefs v2).vFields) y1_0).vType),vI ((rd z_api_Field ((rd z_api_Def a0.vDefs v2).vFields) y1_0).vAt),vI 0]) (vs:=[vS ((rd z_api_Field ((rd z_api_Def a0.vDefs v2).vFields) y1_0).vName),vI ((rd z_api_Field ((rd z_api_Def a0.vDefs v2).vFields) y1_0).vType),vI ((rd z_api_Field ((rd z_api_Def a0.vDefs v2).vFields) y1_0).vAt),vI 0]) (bs':=[(some b3, .cells #[vI ((rd z_api_Def a0.vDefs v2).vKind),vS ((rd z_api_Def a0.vDefs v2).vName),vI ((rd z_api_Def a0.vDefs v2).vInt.vSize),vB ((rd z_api_Def a0.vDefs v2).vInt.vSigned),vI ((rd z_api_Def a0.vDefs v2).vRef),vI ((rd z_api_Def a0.vDefs v2).vN),vL Aad1_6 ((rd z_api_Def a0.vDefs v2).vFields).length cad1_6] 34 (0,0)),(some b2, .cells #[vS ((rd z_api_Field ((rd z_api_Def a0.vDefs v2).vFields) y1_0).vName),vI ((rd z_api_Field ((rd z_api_Def a0.vDefs v2).vFields) y1_0).vType),vI ((rd z_api_Field ((rd z_api_Def a0.vDefs v2).vFields) y1_0).vAt),vI 0] 56 (0,0)),(some b1, .cells #[vL A0_0 a0.vDefs.length c0_0] 24 (0,0))]) rfl rfl Tryd.sizeOf56 rfl rfl (by decide) rfl HS8 rfl (Nat.le_of_ble_eq_true rfl) rfl rfl ?_
       intro w9 HS9
       try simp only [sc0,sc1]
       refine run_nil ?_
       refine norm_then ?_
       refine wp_ret ?_
       refine ret_block ?_
       refine ret_then ?_
       refine ret_loop ?_
       refine ret_then ?_
       obtain rfl:=Option.some.inj H
       obtain rfl:=Option.some.inj G1
       refine bodyPost_ret (results_1 rfl (one_agg rfl Tryd.isAgg56 (HS9.look 1 rfl) Tryd.sizeOf56 rfl)) rfl ?_
       exact ⟨rfl,HS9.toE⟩
      ·replace H:=of_neg H (nt c4)
       refine wp_skip ?_
       refine norm_block ?_
       refine norm_then ?_
       refine region ?_
       refine rs (vI y1_0) (r_move rfl) ?_
       refine rs (vI (w64 (y1_0+1))) (r_bin rfl rfl rfl) ?_
       refine rs (vI (w64 (y1_0+1))) (r_assign rfl) ?_
       try simp only [sc0,sc1]
       refine run_nil ?_
       refine again m [vI (w64 (y1_0+1)),vI y1_0,vP b3 6,vL Aad1_6 ((rd z_api_Def a0.vDefs v2).vFields).length cad1_6,vI (((rd z_api_Def a0.vDefs v2).vFields).length:Int),vB (decide (y1_0<(((rd z_api_Def a0.vDefs v2).vFields).length:Int))),vI y1_0,vI (w64 (y1_0+1)),vP b3 6,vL Aad1_6 ((rd z_api_Def a0.vDefs v2).vFields).length cad1_6,vI y1_0,Value.pointer (some (Addr.add ad2 (y1_0.toNat*3))),Value.pointer (some (Addr.add (Addr.add ad2 (y1_0.toNat*3)) 0)),vS ((rd z_api_Field ((rd z_api_Def a0.vDefs v2).vFields) y1_0).vName),vS a2,vB (strEq ((rd z_api_Field ((rd z_api_Def a0.vDefs v2).vFields) y1_0).vName) a2),uy1_43,uy1_44,uy1_45,uy1_46,uy1_47,uy1_48] (Nat.lt_succ_self m) (by simp only [patch,sc0,sc1]) ⟨(w64 (y1_0+1)),_,_,_,_,_,_,_,_,_,_,_,_,_,_,_,_,_,_,_,_,_,rfl,H,HS8⟩
     ·replace H:=of_neg H (nt c3)
      refine wp_exit ?_
      refine exit_then ?_
      obtain rfl:=Option.some.inj H
      refine leave [vI y1_0,vI y1_0,vP b3 6,vL Aad1_6 ((rd z_api_Def a0.vDefs v2).vFields).length cad1_6,vI (((rd z_api_Def a0.vDefs v2).vFields).length:Int),vB (decide (y1_0<(((rd z_api_Def a0.vDefs v2).vFields).length:Int))),uy1_33,uy1_34,uy1_35,uy1_36,uy1_37,uy1_38,uy1_39,uy1_40,uy1_41,uy1_42,uy1_43,uy1_44,uy1_45,uy1_46,uy1_47,uy1_48] (by simp only [patch,sc0,sc1]) ⟨_,rfl,_,_,_,_,_,_,_,_,_,_,_,_,_,_,_,_,_,_,_,_,_,_,rfl,HS8⟩
   ·rintro us w10 ⟨s1,rfl,uo1_9,uo1_28,uo1_29,uo1_30,uo1_31,uo1_32,uo1_33,uo1_34,uo1_35,uo1_36,uo1_37,uo1_38,uo1_39,uo1_40,uo1_41,uo1_42,uo1_43,uo1_44,uo1_45,uo1_46,uo1_47,uo1_48,rfl,HS10⟩
    replace H:=G1
    clear G1
    try simp only [patch,sc0,sc1]
    refine norm_then ?_
    refine wp_seq ?_
    refine region ?_
    refine rs (Value.agg #[vS ByteArray.empty,vI 0,vI 0,vI 3]) (r_build (cs:=[vS ByteArray.empty,vI 0,vI 0,vI 3]) (ps:=[(1,vI 3)]) Tryd.zeroValue56 Tryd.runUnderlying56 (pl:=#[(0,3),(3,1)]) (fun w=>by simp [Tryd.sizeOf27,Tryd.sizeOf36]) (parts_1 (show _=vI 3 from rfl)) rfl) ?_
    refine run_st (i:=1) (cs:=[vS ByteArray.empty,vI 0,vI 0,vI 0]) (cs':=[vS ByteArray.empty,vI 0,vI 0,vI 3]) (vs:=[vS ByteArray.empty,vI 0,vI 0,vI 3]) (bs':=[(some b3, .cells #[vI ((rd z_api_Def a0.vDefs v2).vKind),vS ((rd z_api_Def a0.vDefs v2).vName),vI ((rd z_api_Def a0.vDefs v2).vInt.vSize),vB ((rd z_api_Def a0.vDefs v2).vInt.vSigned),vI ((rd z_api_Def a0.vDefs v2).vRef),vI ((rd z_api_Def a0.vDefs v2).vN),vL Aad1_6 ((rd z_api_Def a0.vDefs v2).vFields).length cad1_6] 34 (0,0)),(some b2, .cells #[vS ByteArray.empty,vI 0,vI 0,vI 3] 56 (0,0)),(some b1, .cells #[vL A0_0 a0.vDefs.length c0_0] 24 (0,0))]) rfl rfl Tryd.sizeOf56 rfl rfl (by decide) rfl HS10 rfl (Nat.le_of_ble_eq_true rfl) rfl rfl ?_
    intro w11 HS11
    try simp only [sc0,sc1]
    refine run_nil ?_
    refine norm_then ?_
    refine wp_ret ?_
    obtain rfl:=Option.some.inj H
    refine bodyPost_ret (results_1 rfl (one_agg rfl Tryd.isAgg56 (HS11.look 1 rfl) Tryd.sizeOf56 rfl)) rfl ?_
    exact ⟨rfl,HS11.toE⟩

end Go.Proofs.YtfjppgobidjndaaDoor
namespace Go.Proofs.YtfjppgobidjndaaDoor
open Go.RowKit Go.M
def taplineref08_Path.l0 (k:Nat) (a0:api_Types) (a2:List ByteArray):Nat→Int→Int→Int→Option ((taplineref08_Reached)⊕(Int×Int))
 |0,_,_,_=>none
 |m+1,y1_0,y1_1,y1_2=>if (decide (y1_2<(a2.length:Int)))=true then (if 0≤y1_2∧y1_2<a2.length then ((taplineref08_Member.f k a0 y1_0 (rd ByteArray.empty a2 y1_2)).bind fun v2=>(if (v2.vE !=0)=true then (some (.inl (⟨0,0,v2.vE⟩:taplineref08_Reached))) else (taplineref08_Path.l0 k a0 a2 m v2.vF.vType (IntKind.wrap .i64 (y1_1+v2.vF.vAt)) (IntKind.wrap .i64 (y1_2+1))))) else none) else (some (.inr (y1_0,y1_1)))
def taplineref08_Path.f (k:Nat) (a0:api_Types) (a1:Int) (a2:List ByteArray):Option (taplineref08_Reached):=(taplineref08_given.f k a0 a1).bind fun v1=>(((if ((v1==0)&&(decide ((a2.length:Int)>16)))=true then (some 2) else (some v1)):Option (Int)).bind fun xx1=>(if (xx1 !=0)=true then (some (⟨0,0,xx1⟩:taplineref08_Reached)) else ((taplineref08_Path.l0 k a0 a2 k a1 0 0).bind fun xx2=>(match xx2 with| .inl r=>some r| .inr s1=>some (⟨s1.1,s1.2,0⟩:taplineref08_Reached)))))
set_option maxRecDepth 20000 in
set_option maxHeartbeats 4000000 in
theorem taplineref08_Path.calls (k:Nat) (a0:api_Types) (a1:Int) (a2:List ByteArray) (A0_0:Option Addr) (c0_0:Nat) (A2_0:Option Addr) (c2_0:Nat) {h0:View} {w0:World} (hv:Sees h0 w0) (hr0_0:Rd k_api_Def h0 A0_0 a0.vDefs) (hc0_0:a0.vDefs.length≤c0_0) (hr2_0:Rd Kd.str h0 A2_0 a2) (hc2_0:a2.length≤c2_0) {r:taplineref08_Reached} (H:taplineref08_Path.f k a0 a1 a2=some r):Calls Tryd.prog 27 #[Value.agg #[vL A0_0 a0.vDefs.length c0_0],vI a1,vL A2_0 a2.length c2_0] w0 (fun e w1=>e= .returned (Value.agg #[vI r.vType,vI r.vAt,vI r.vE])∧Ext w0 w1):=by
 unfold taplineref08_Path.f at H
 have HS:St [] h0 w0 h0 [] w0:=St.init hv
 go_enter Tryd.func27,Tryd.ntmps27
 refine wp_seq ?_
 refine region ?_
 refine run_ex rfl rfl (does_box (cs:=#[vL A0_0 a0.vDefs.length c0_0]) rfl rfl) ?_
 rintro w1 _ hE1 ⟨b1,rfl,ge1,hb1⟩
 have HS1:=HS.new hE1 ge1 hb1
 refine run_ex rfl rfl (does_alloc (cs:=#[vI 0,vI 0,vI 0]) Tryd.zeroValue59 rfl) ?_
 rintro w2 _ hE2 ⟨b2,rfl,ge2,hb2⟩
 have HS2:=HS1.new hE2 ge2 hb2
 try simp only [sc0,sc1]
 refine run_nil ?_
 refine norm_then ?_
 refine wp_seq ?_
 refine region ?_
 refine rs (Value.agg #[vL A0_0 a0.vDefs.length c0_0]) (r_loadBoxAgg (n:=1) (vs:=[vL A0_0 a0.vDefs.length c0_0]) rfl Tryd.isAgg24 (HS2.look 1 rfl) Tryd.sizeOf24 rfl rfl) ?_
 refine rs (vI a1) (r_move rfl) ?_
 obtain ⟨v1,H1,H⟩:=of_bind H
 refine run_eq (v:=vI v1) rfl rfl (does_call_eq Tryd.call55 rfl rfl (taplineref08_given.calls k a0 a1 A0_0 c0_0 HS2.sees hr0_0 hc0_0 H1)) ?_
 intro w3 hE3
 have HS3:=HS2.step hE3
 refine rs (vI v1) (r_assign rfl) ?_
 try simp only [sc0,sc1]
 refine run_nil ?_
 refine norm_then ?_
 refine wp_seq ?_
 refine wp_seq ?_
 refine region ?_
 refine rs (vI v1) (r_move rfl) ?_
 refine rs (vB (v1==0)) (r_bin rfl rfl rfl) ?_
 refine rs (vB (v1==0)) (r_move rfl) ?_
 refine rgs (v1==0) true (vL A2_0 a2.length c2_0) rfl rfl rfl rfl (fun hg=>(r_move rfl)) ?_
 refine run_frame (by simp only [sc0,sc1];rfl) ?_
 refine rgs (v1==0) true (vI (a2.length:Int)) rfl rfl rfl rfl (fun hg=>(r_len (gvt (vL A2_0 a2.length c2_0) hg rfl) Tryd.runUnderlying25)) ?_
 refine rgs (v1==0) true (vB (decide ((a2.length:Int)>16))) rfl rfl rfl rfl (fun hg=>(r_bin (gvt (vI (a2.length:Int)) hg rfl) rfl rfl)) ?_
 refine rs (vB ((v1==0)&&(decide ((a2.length:Int)>16)))) (r_pick_and rfl (fun hp=>(gvt (vB (decide ((a2.length:Int)>16))) (and_i rfl hp) rfl)) rfl) ?_
 try simp only [sc0,sc1]
 refine run_nil ?_
 refine norm_then ?_
 obtain ⟨xx1,H,G1⟩:=of_bind H
 refine cut_patch [7] (fun us w'=>us=[vI xx1]∧St [] h0 w0 h0 [(some b2, .cells #[vI 0,vI 0,vI 0] 59 (0,0)),(some b1, .cells #[vL A0_0 a0.vDefs.length c0_0] 24 (0,0))] w') ?_ ?_
 ·refine wp_cond_split (t:=((v1==0)&&(decide ((a2.length:Int)>16)))) rfl (fun c1=>?_) (fun c1=>?_)
  ·replace H:=of_pos H c1
   refine region ?_
   refine rs (vI 2) (r_assign rfl) ?_
   try simp only [sc0,sc1]
   refine run_nil ?_
   obtain rfl:=Option.some.inj H
   refine met [vI 2] (by simp only [patch,sc0,sc1]) ⟨rfl,HS3⟩
  ·replace H:=of_neg H (nt c1)
   refine wp_skip ?_
   obtain rfl:=Option.some.inj H
   refine met [vI v1] (by simp only [patch,sc0,sc1]) ⟨rfl,HS3⟩
 ·rintro _ w4 ⟨rfl,HS4⟩
  replace H:=G1
  clear G1
  try simp only [patch,sc0,sc1]
  refine wp_seq ?_
  refine wp_seq ?_
  refine region ?_
  refine rs (vI xx1) (r_move rfl) ?_
  refine rs (vB (xx1 !=0)) (r_bin rfl rfl rfl) ?_
  try simp only [sc0,sc1]
  refine run_nil ?_
  refine norm_then ?_
  refine wp_cond_split (t:=(xx1 !=0)) rfl (fun c2=>?_) (fun c2=>?_)
  ·replace H:=of_pos H c2
   refine wp_seq ?_
   refine region ?_
   refine rs (vI xx1) (r_move rfl) ?_
   refine rs (Value.agg #[vI 0,vI 0,vI xx1]) (r_build (cs:=[vI 0,vI 0,vI xx1]) (ps:=[(2,vI xx1)]) Tryd.zeroValue59 Tryd.runUnderlying59 (pl:=#[(0,1),(1,1),(2,1)]) (fun w=>by simp [Tryd.sizeOf27,Tryd.sizeOf3]) (parts_1 (show _=vI xx1 from rfl)) rfl) ?_
   refine run_st (i:=0) (cs:=[vI 0,vI 0,vI 0]) (cs':=[vI 0,vI 0,vI xx1]) (vs:=[vI 0,vI 0,vI xx1]) (bs':=[(some b2, .cells #[vI 0,vI 0,vI xx1] 59 (0,0)),(some b1, .cells #[vL A0_0 a0.vDefs.length c0_0] 24 (0,0))]) rfl rfl Tryd.sizeOf59 rfl rfl (by decide) rfl HS4 rfl (Nat.le_of_ble_eq_true rfl) rfl rfl ?_
   intro w5 HS5
   try simp only [sc0,sc1]
   refine run_nil ?_
   refine norm_then ?_
   refine wp_ret ?_
   refine ret_then ?_
   obtain rfl:=Option.some.inj H
   refine bodyPost_ret (results_1 rfl (one_agg rfl Tryd.isAgg59 (HS5.look 0 rfl) Tryd.sizeOf59 rfl)) rfl ?_
   exact ⟨rfl,HS5.toE⟩
  ·replace H:=of_neg H (nt c2)
   refine wp_skip ?_
   refine norm_then ?_
   refine wp_seq ?_
   refine region ?_
   refine rs (vI 0) (r_assign rfl) ?_
   try simp only [sc0,sc1]
   refine run_nil ?_
   refine norm_then ?_
   refine wp_seq ?_
   refine wp_seq ?_
   refine region ?_
   refine rs (vI 0) (r_assign rfl) ?_
   try simp only [sc0,sc1]
   refine run_nil ?_
   refine norm_then ?_
   obtain ⟨xx2,H,G2⟩:=of_bind H
   refine loop_patch [1,8,9,10,25,26,27,28,29,30,31,32,33,34,35,36,37,38,39,40,41,42,43,44,45,46,47,48,49,50,51] (fun m us w'=>∃y1_0 y1_1 y1_2:Int,∃uy1_10 uy1_25 uy1_26 uy1_27 uy1_28 uy1_29 uy1_30 uy1_31 uy1_32 uy1_33 uy1_34 uy1_35 uy1_36 uy1_37 uy1_38 uy1_39 uy1_40 uy1_41 uy1_42 uy1_43 uy1_44 uy1_45 uy1_46 uy1_47 uy1_48 uy1_49 uy1_50 uy1_51:Value,us=[vI y1_0,vI y1_1,vI y1_2,uy1_10,uy1_25,uy1_26,uy1_27,uy1_28,uy1_29,uy1_30,uy1_31,uy1_32,uy1_33,uy1_34,uy1_35,uy1_36,uy1_37,uy1_38,uy1_39,uy1_40,uy1_41,uy1_42,uy1_43,uy1_44,uy1_45,uy1_46,uy1_47,uy1_48,uy1_49,uy1_50,uy1_51]∧taplineref08_Path.l0 k a0 a2 m y1_0 y1_1 y1_2=some xx2∧St [] h0 w0 h0 [(some b2, .cells #[vI 0,vI 0,vI 0] 59 (0,0)),(some b1, .cells #[vL A0_0 a0.vDefs.length c0_0] 24 (0,0))] w') (fun us w'=>∃(s1:Int×Int),xx2= .inr s1∧∃uo1_9 uo1_10 uo1_25 uo1_26 uo1_27 uo1_28 uo1_29 uo1_30 uo1_31 uo1_32 uo1_33 uo1_34 uo1_35 uo1_36 uo1_37 uo1_38 uo1_39 uo1_40 uo1_41 uo1_42 uo1_43 uo1_44 uo1_45 uo1_46 uo1_47 uo1_48 uo1_49 uo1_50 uo1_51:Value,us=[vI s1.1,vI s1.2,uo1_9,uo1_10,uo1_25,uo1_26,uo1_27,uo1_28,uo1_29,uo1_30,uo1_31,uo1_32,uo1_33,uo1_34,uo1_35,uo1_36,uo1_37,uo1_38,uo1_39,uo1_40,uo1_41,uo1_42,uo1_43,uo1_44,uo1_45,uo1_46,uo1_47,uo1_48,uo1_49,uo1_50,uo1_51]∧St [] h0 w0 h0 [(some b2, .cells #[vI 0,vI 0,vI 0] 59 (0,0)),(some b1, .cells #[vL A0_0 a0.vDefs.length c0_0] 24 (0,0))] w') k [vI a1,vI 0,vI 0,undef,undef,undef,undef,undef,undef,undef,undef,undef,undef,undef,undef,undef,undef,undef,undef,undef,undef,undef,undef,undef,undef,undef,undef,undef,undef,undef,undef] (by simp only [patch,sc0,sc1]) ⟨a1,0,0,_,_,_,_,_,_,_,_,_,_,_,_,_,_,_,_,_,_,_,_,_,_,_,_,_,_,_,_,rfl,H,HS4⟩ ?_ ?_
   ·rintro m us w6 ⟨y1_0,y1_1,y1_2,uy1_10,uy1_25,uy1_26,uy1_27,uy1_28,uy1_29,uy1_30,uy1_31,uy1_32,uy1_33,uy1_34,uy1_35,uy1_36,uy1_37,uy1_38,uy1_39,uy1_40,uy1_41,uy1_42,uy1_43,uy1_44,uy1_45,uy1_46,uy1_47,uy1_48,uy1_49,uy1_50,uy1_51,rfl,H,HS6⟩
    cases m with
    |zero=>exact absurd H (by simp [taplineref08_Path.l0])
    |succ m=>
     rw [taplineref08_Path.l0] at H
     try simp only [patch,sc0,sc1]
     refine wp_seq ?_
     refine wp_seq ?_
     refine region ?_
     refine rs (vI y1_2) (r_move rfl) ?_
     refine rs (vL A2_0 a2.length c2_0) (r_move rfl) ?_
     refine rs (vI (a2.length:Int)) (r_len rfl Tryd.runUnderlying25) ?_
     refine rs (vB (decide (y1_2<(a2.length:Int)))) (r_bin rfl rfl rfl) ?_
     try simp only [sc0,sc1]
     refine run_nil ?_
     refine norm_then ?_
     refine wp_cond_split (t:=(decide (y1_2<(a2.length:Int)))) rfl (fun c3=>?_) (fun c3=>?_)
     ·replace H:=of_pos H c3
      refine wp_skip ?_
      refine norm_then ?_
      refine wp_seq ?_
      refine wp_block ?_
      refine wp_seq ?_
      obtain ⟨hi1,H⟩:=of_ite H
      obtain ⟨ad1,e1,hel1⟩:=ld_str hr2_0 hi1.1 hi1.2
      obtain ⟨v2,H2,H⟩:=of_bind H
      refine drawn [.eq (Value.agg #[vL A0_0 a0.vDefs.length c0_0]), .eq (vI y1_0), .eq (vL A2_0 a2.length c2_0), .eq (vI y1_2), .eq (Value.pointer (some (Addr.add ad1 (y1_2.toNat*1)))), .eq (vS (rd ByteArray.empty a2 y1_2)), .eq (Value.agg #[vS v2.vF.vName,vI v2.vF.vType,vI v2.vF.vAt,vI v2.vE]), .ex (NewBox w6 #[vS ByteArray.empty,vI 0,vI 0,vI 0] 56)] [31,32,33,34,35,36,37,10] hmix (by kernel_rfl) rfl (stable_eq (stable_eq (stable_eq (stable_eq (stable_eq (stable_eq (stable_eq (stable_ex NewBox.stable stable_nil)))))))) ⟨ob_plain rfl (fun a' w' hE hk=>by have HSd:=HS6.step hE;exact does_eq (r_loadBoxAgg (n:=1) (vs:=[vL A0_0 a0.vDefs.length c0_0]) (show _=vP b1 0 from hk 3 rfl) Tryd.isAgg24 (HSd.look 1 rfl) Tryd.sizeOf24 rfl rfl)),ob_plain rfl (fun a' w' hE hk=>by have HSd:=HS6.step hE;exact does_eq (r_move (show _=vI y1_0 from hk 1 rfl))),ob_plain rfl (fun a' w' hE hk=>by have HSd:=HS6.step hE;exact does_eq (r_move (show _=vL A2_0 a2.length c2_0 from hk 2 rfl))),ob_plain rfl (fun a' w' hE hk=>by have HSd:=HS6.step hE;exact does_eq (r_move (show _=vI y1_2 from hk 9 rfl))),ob_plain rfl (fun a' w' hE hk=>by have HSd:=HS6.step hE;exact does_eq (r_indexA (sz:=1) (show _=vL A2_0 a2.length c2_0 from hk 33 rfl) e1 (show _=vI y1_2 from hk 34 rfl) hi1.1 hi1.2 Tryd.runUnderlying25 Tryd.sizeOf9)),ob_plain rfl (fun a' w' hE hk=>by have HSd:=HS6.step hE;exact does_eq (r_load (show _=Value.pointer (some (Addr.add ad1 (y1_2.toNat*1))) from hk 35 rfl) Tryd.isAgg9 (hel1.cell0 HSd.sees rfl))),ob_plain rfl (fun a' w' hE hk=>by have HSd:=HS6.step hE;exact (does_call_eq Tryd.call26 rfl (map3 (show _=Value.agg #[vL A0_0 a0.vDefs.length c0_0] from hk 31 rfl) (show _=vI y1_0 from hk 32 rfl) (show _=vS (rd ByteArray.empty a2 y1_2) from hk 36 rfl)) (taplineref08_Member.calls k a0 y1_0 (rd ByteArray.empty a2 y1_2) A0_0 c0_0 HSd.sees hr0_0 hc0_0 H2))),ob_plain rfl (fun a' w' hE hk=>(alloc_in hE (cs:=#[vS ByteArray.empty,vI 0,vI 0,vI 0]) Tryd.zeroValue56 rfl)),trivial⟩ ?_
      intro w7 hE4
      simp only [List.zip_cons_cons,List.zip_nil_left,List.zip_nil_right,finL,sc0,sc1,List.length_cons,List.length_nil,List.drop_succ_cons,List.drop_zero,Nat.zero_add,Nat.reduceAdd]
      rintro _ ⟨b3,rfl,ge3,hb3⟩
      have HS7:=HS6.new hE4 ge3 hb3
      refine run_st (i:=0) (cs:=[vS ByteArray.empty,vI 0,vI 0,vI 0]) (cs':=[vS v2.vF.vName,vI v2.vF.vType,vI v2.vF.vAt,vI v2.vE]) (vs:=[vS v2.vF.vName,vI v2.vF.vType,vI v2.vF.vAt,vI v2.vE]) (bs':=[(some b3, .cells #[vS v2.vF.vName,vI v2.vF.vType,vI v2.vF.vAt,vI v2.vE] 56 (0,0)),(some b2, .cells #[vI 0,vI 0,vI 0] 59 (0,0)),(some b1, .cells #[vL A0_0 a0.vDefs.length c0_0] 24 (0,0))]) rfl rfl Tryd.sizeOf56 rfl rfl (by decide) rfl HS7 rfl (Nat.le_of_ble_eq_true rfl) rfl rfl ?_
      intro w8 HS8
      try simp only [sc0,sc1]
      refine run_nil ?_
      refine norm_then ?_
      refine wp_seq ?_
      refine wp_seq ?_
      refine region ?_
      refine rs (vP b3 3) (r_fieldBox (n:=1) (o':=3) rfl Tryd.runUnderlying56 rfl Tryd.sizeOf27 (by decide) rfl) ?_
      refine rs (vI v2.vE) (r_loadBox rfl Tryd.isAgg27 (HS8.look 0 rfl) rfl) ?_
      refine rs (vB (v2.vE !=0)) (r_bin rfl rfl rfl) ?_
      try simp only [sc0,sc1]
      refine run_nil ?_
      refine norm_then ?_
      refine wp_cond_split (t:=(v2.vE !=0)) rfl (fun c4=>?_) (fun c4=>?_)
      ·replace H:=of_pos H c4
       refine wp_seq ?_
       refine region ?_
       refine rs (vP b3 3) (r_fieldBox (n:=1) (o':=3) rfl Tryd.runUnderlying56 rfl Tryd.sizeOf27 (by decide) rfl) ?_
       refine rs (vI v2.vE) (r_loadBox rfl Tryd.isAgg27 (HS8.look 0 rfl) rfl) ?_
       refine rs (Value.agg #[vI 0,vI 0,vI v2.vE]) (r_build (cs:=[vI 0,vI 0,vI v2.vE]) (ps:=[(2,vI v2.vE)]) Tryd.zeroValue59 Tryd.runUnderlying59 (pl:=#[(0,1),(1,1),(2,1)]) (fun w=>by simp [Tryd.sizeOf27,Tryd.sizeOf3]) (parts_1 (show _=vI v2.vE from rfl)) rfl) ?_
       refine run_st (i:=1) (cs:=[vI 0,vI 0,vI 0]) (cs':=[vI 0,vI 0,vI v2.vE]) (vs:=[vI 0,vI 0,vI v2.vE]) (bs':=[(some b3, .cells #[vS v2.vF.vName,vI v2.vF.vType,vI v2.vF.vAt,vI v2.vE] 56 (0,0)),(some b2, .cells #[vI 0,vI 0,vI v2.vE] 59 (0,0)),(some b1, .cells #[vL A0_0 a0.vDefs.length c0_0] 24 (0,0))]) rfl rfl Tryd.sizeOf59 rfl rfl (by decide) rfl HS8 rfl (Nat.le_of_ble_eq_true rfl) rfl rfl ?_
       intro w9 HS9
       try simp only [sc0,sc1]
       refine run_nil ?_
       refine norm_then ?_
       refine wp_ret ?_
       refine ret_then ?_
       refine ret_block ?_
       refine ret_then ?_
       refine ret_loop ?_
       refine ret_then ?_
       obtain rfl:=Option.some.inj H
       obtain rfl:=Option.some.inj G2
       refine bodyPost_ret (results_1 rfl (one_agg rfl Tryd.isAgg59 (HS9.look 1 rfl) Tryd.sizeOf59 rfl)) rfl ?_
       exact ⟨rfl,HS9.toE⟩
      ·replace H:=of_neg H (nt c4)
       refine wp_skip ?_
       refine norm_then ?_
       refine wp_seq ?_
       refine region ?_
       refine rs (vP b3 0) (r_fieldBox (n:=3) (o':=0) rfl Tryd.runUnderlying56 rfl Tryd.sizeOf36 (by decide) rfl) ?_
       refine rs (vP b3 1) (r_fieldBox (n:=1) (o':=1) rfl Tryd.runUnderlying36 rfl Tryd.sizeOf3 (by decide) rfl) ?_
       refine rs (vI v2.vF.vType) (r_loadBox rfl Tryd.isAgg3 (HS8.look 0 rfl) rfl) ?_
       refine rs (vI v2.vF.vType) (r_assign rfl) ?_
       try simp only [sc0,sc1]
       refine run_nil ?_
       refine norm_then ?_
       refine region ?_
       refine rs (vI y1_1) (r_move rfl) ?_
       refine rs (vP b3 0) (r_fieldBox (n:=3) (o':=0) rfl Tryd.runUnderlying56 rfl Tryd.sizeOf36 (by decide) rfl) ?_
       refine rs (vP b3 2) (r_fieldBox (n:=1) (o':=2) rfl Tryd.runUnderlying36 rfl Tryd.sizeOf3 (by decide) rfl) ?_
       refine rs (vI v2.vF.vAt) (r_loadBox rfl Tryd.isAgg3 (HS8.look 0 rfl) rfl) ?_
       refine run_frame (by simp only [sc0,sc1];rfl) ?_
       refine rs (vI (w64 (y1_1+v2.vF.vAt))) (r_bin rfl rfl rfl) ?_
       refine rs (vI (w64 (y1_1+v2.vF.vAt))) (r_assign rfl) ?_
       try simp only [sc0,sc1]
       refine run_nil ?_
       refine norm_block ?_
       refine norm_then ?_
       refine region ?_
       refine rs (vI y1_2) (r_move rfl) ?_
       refine rs (vI (w64 (y1_2+1))) (r_bin rfl rfl rfl) ?_
       refine rs (vI (w64 (y1_2+1))) (r_assign rfl) ?_
       try simp only [sc0,sc1]
       refine run_nil ?_
       refine again m [vI v2.vF.vType,vI (w64 (y1_1+v2.vF.vAt)),vI (w64 (y1_2+1)),vP b3 0,vI y1_2,vL A2_0 a2.length c2_0,vI (a2.length:Int),vB (decide (y1_2<(a2.length:Int))),vI y1_2,vI (w64 (y1_2+1)),Value.agg #[vL A0_0 a0.vDefs.length c0_0],vI y1_0,vL A2_0 a2.length c2_0,vI y1_2,Value.pointer (some (Addr.add ad1 (y1_2.toNat*1))),vS (rd ByteArray.empty a2 y1_2),Value.agg #[vS v2.vF.vName,vI v2.vF.vType,vI v2.vF.vAt,vI v2.vE],vP b3 3,vI v2.vE,vB (v2.vE !=0),uy1_41,uy1_42,uy1_43,vP b3 0,vP b3 1,vI v2.vF.vType,vI y1_1,vP b3 0,vP b3 2,vI v2.vF.vAt,vI (w64 (y1_1+v2.vF.vAt))] (Nat.lt_succ_self m) (by simp only [patch,sc0,sc1]) ⟨v2.vF.vType,(w64 (y1_1+v2.vF.vAt)),(w64 (y1_2+1)),_,_,_,_,_,_,_,_,_,_,_,_,_,_,_,_,_,_,_,_,_,_,_,_,_,_,_,_,rfl,H,HS8.tail⟩
     ·replace H:=of_neg H (nt c3)
      refine wp_exit ?_
      refine exit_then ?_
      obtain rfl:=Option.some.inj H
      refine leave [vI y1_0,vI y1_1,vI y1_2,uy1_10,vI y1_2,vL A2_0 a2.length c2_0,vI (a2.length:Int),vB (decide (y1_2<(a2.length:Int))),uy1_29,uy1_30,uy1_31,uy1_32,uy1_33,uy1_34,uy1_35,uy1_36,uy1_37,uy1_38,uy1_39,uy1_40,uy1_41,uy1_42,uy1_43,uy1_44,uy1_45,uy1_46,uy1_47,uy1_48,uy1_49,uy1_50,uy1_51] (by simp only [patch,sc0,sc1]) ⟨_,rfl,_,_,_,_,_,_,_,_,_,_,_,_,_,_,_,_,_,_,_,_,_,_,_,_,_,_,_,_,_,rfl,HS6⟩
   ·rintro us w10 ⟨s1,rfl,uo1_9,uo1_10,uo1_25,uo1_26,uo1_27,uo1_28,uo1_29,uo1_30,uo1_31,uo1_32,uo1_33,uo1_34,uo1_35,uo1_36,uo1_37,uo1_38,uo1_39,uo1_40,uo1_41,uo1_42,uo1_43,uo1_44,uo1_45,uo1_46,uo1_47,uo1_48,uo1_49,uo1_50,uo1_51,rfl,HS10⟩
    replace H:=G2
    clear G2
    try simp only [patch,sc0,sc1]
    refine norm_then ?_
    refine wp_seq ?_
    refine region ?_
    refine rs (vI s1.1) (r_move rfl) ?_
    refine rs (vI s1.2) (r_move rfl) ?_
    refine rs (Value.agg #[vI s1.1,vI s1.2,vI 0]) (r_build (cs:=[vI s1.1,vI s1.2,vI 0]) (ps:=[(0,vI s1.1),(1,vI s1.2)]) Tryd.zeroValue59 Tryd.runUnderlying59 (pl:=#[(0,1),(1,1),(2,1)]) (fun w=>by simp [Tryd.sizeOf27,Tryd.sizeOf3]) (parts_2 (show _=vI s1.1 from rfl) (show _=vI s1.2 from rfl)) rfl) ?_
    refine run_st (i:=0) (cs:=[vI 0,vI 0,vI 0]) (cs':=[vI s1.1,vI s1.2,vI 0]) (vs:=[vI s1.1,vI s1.2,vI 0]) (bs':=[(some b2, .cells #[vI s1.1,vI s1.2,vI 0] 59 (0,0)),(some b1, .cells #[vL A0_0 a0.vDefs.length c0_0] 24 (0,0))]) rfl rfl Tryd.sizeOf59 rfl rfl (by decide) rfl HS10 rfl (Nat.le_of_ble_eq_true rfl) rfl rfl ?_
    intro w11 HS11
    try simp only [sc0,sc1]
    refine run_nil ?_
    refine norm_then ?_
    refine wp_ret ?_
    obtain rfl:=Option.some.inj H
    refine bodyPost_ret (results_1 rfl (one_agg rfl Tryd.isAgg59 (HS11.look 0 rfl) Tryd.sizeOf59 rfl)) rfl ?_
    exact ⟨rfl,HS11.toE⟩

end Go.Proofs.YtfjppgobidjndaaDoor
namespace Go.Proofs.YtfjppgobidjndaaDoor
open Go.RowKit Go.M
def taplinelaw08_CtfLooks.f (k:Nat) (a0:api_Types) (a1:taplinelaw08_Named):Option (Bool):=(taplinelaw08_sane.f k).bind fun v1=>((ctf_Check.f k a0).bind fun v2=>((taplineref08_Check.f k a0).bind fun v3=>(if (v2 !=v3)=true then (some false) else ((ctf_Size.f k a0 a1.vI).bind fun v4=>((ctf_Text.f k a0 a1.vI).bind fun v5=>((ctf_Lookup.f k a0 a1.vName).bind fun v6=>((ctf_Resolve.f k a0 a1.vI).bind fun v7=>((taplineref08_Size.f k a0 a1.vI).bind fun v8=>((taplineref08_TextOf.f k a0 a1.vI).bind fun v9=>((taplineref08_Lookup.f k a0 a1.vName).bind fun v10=>((taplineref08_Resolve.f k a0 a1.vI).bind fun v11=>(if ((((((((v4.1 !=v8.vN)||(v4.2 !=v8.vE))||(!(strEq v5.1 v9.vS)))||(v5.2 !=v9.vE))||(v6.1 !=v10.vN))||(v6.2 !=v10.vE))||(v7.1 !=v11.vN))||(v7.2 !=v11.vE))=true then (some false) else ((ctf_Member.f k a0 a1.vI a1.vName).bind fun v12=>((ctf_Path.f k a0 a1.vI a1.vPath).bind fun v13=>((taplineref08_Member.f k a0 a1.vI a1.vName).bind fun v14=>((taplineref08_Path.f k a0 a1.vI a1.vPath).bind fun v15=>(some (((((v1&&((strEq v12.1.vName v14.vF.vName)&&((v12.1.vType==v14.vF.vType)&&((v12.1.vAt==v14.vF.vAt)&&true))))&&(v12.2==v14.vE))&&(v13.1==v15.vType))&&(v13.2.1==v15.vAt))&&(v13.2.2==v15.vE)))))))))))))))))))
set_option maxRecDepth 20000 in
set_option maxHeartbeats 4000000 in
theorem taplinelaw08_CtfLooks.calls (k:Nat) (a0:api_Types) (a1:taplinelaw08_Named) (A0_0:Option Addr) (c0_0:Nat) (A1_2:Option Addr) (c1_2:Nat) {h0:View} {w0:World} (hv:Sees h0 w0) (ht:Tab w0) (hr0_0:Rd k_api_Def h0 A0_0 a0.vDefs) (hc0_0:a0.vDefs.length≤c0_0) (hr1_2:Rd Kd.str h0 A1_2 a1.vPath) (hc1_2:a1.vPath.length≤c1_2) {r:Bool} (H:taplinelaw08_CtfLooks.f k a0 a1=some r):Calls Tryd.prog 4 #[Value.agg #[vL A0_0 a0.vDefs.length c0_0],Value.agg #[vI a1.vI,vS a1.vName,vL A1_2 a1.vPath.length c1_2]] w0 (fun e w1=>e= .returned (vB r)∧Ext w0 w1):=by
 unfold taplinelaw08_CtfLooks.f at H
 have HS:St [] h0 w0 h0 [] w0:=St.init hv
 go_enter Tryd.func4,Tryd.ntmps4
 refine wp_seq ?_
 refine region ?_
 refine run_ex rfl rfl (does_box (cs:=#[vL A0_0 a0.vDefs.length c0_0]) rfl rfl) ?_
 rintro w1 _ hE1 ⟨b1,rfl,ge1,hb1⟩
 have HS1:=HS.new hE1 ge1 hb1
 refine run_ex rfl rfl (does_box (cs:=#[vI a1.vI,vS a1.vName,vL A1_2 a1.vPath.length c1_2]) rfl rfl) ?_
 rintro w2 _ hE2 ⟨b2,rfl,ge2,hb2⟩
 have HS2:=HS1.new hE2 ge2 hb2
 refine rs (vB false) (r_assign rfl) ?_
 try simp only [sc0,sc1]
 refine run_nil ?_
 refine norm_then ?_
 refine wp_seq ?_
 refine region ?_
 obtain ⟨v1,H1,H⟩:=of_bind H
 refine run_eq (v:=vB v1) rfl rfl (does_call_eq Tryd.call13 rfl rfl (taplinelaw08_sane.calls k HS2.sees (ht.s HS2) H1)) ?_
 intro w3 hE3
 have HS3:=HS2.step hE3
 refine rs (vB v1) (r_assign rfl) ?_
 try simp only [sc0,sc1]
 refine run_nil ?_
 refine norm_then ?_
 refine wp_seq ?_
 refine wp_seq ?_
 obtain ⟨v2,H2,H⟩:=of_bind H
 obtain ⟨v3,H3,H⟩:=of_bind H
 refine drawn [.eq (Value.agg #[vL A0_0 a0.vDefs.length c0_0]), .eq (vI v2), .eq (Value.agg #[vL A0_0 a0.vDefs.length c0_0]), .eq (vI v3), .eq (vB (v2 !=v3))] [26,27,28,29,30] hmix (by kernel_rfl) rfl (stable_eq (stable_eq (stable_eq (stable_eq (stable_eq stable_nil))))) ⟨ob_plain rfl (fun a' w' hE hk=>by have HSd:=HS3.step hE;exact does_eq (r_loadBoxAgg (n:=1) (vs:=[vL A0_0 a0.vDefs.length c0_0]) (show _=vP b1 0 from hk 2 rfl) Tryd.isAgg24 (HSd.look 1 rfl) Tryd.sizeOf24 rfl rfl)),ob_plain rfl (fun a' w' hE hk=>by have HSd:=HS3.step hE;exact (does_call_eq Tryd.call18 rfl (map1 (show _=Value.agg #[vL A0_0 a0.vDefs.length c0_0] from hk 26 rfl)) (ctf_Check.calls k a0 A0_0 c0_0 HSd.sees hr0_0 hc0_0 H2))),ob_plain rfl (fun a' w' hE hk=>by have HSd:=HS3.step hE;exact does_eq (r_loadBoxAgg (n:=1) (vs:=[vL A0_0 a0.vDefs.length c0_0]) (show _=vP b1 0 from hk 2 rfl) Tryd.isAgg24 (HSd.look 1 rfl) Tryd.sizeOf24 rfl rfl)),ob_plain rfl (fun a' w' hE hk=>by have HSd:=HS3.step hE;exact (does_call_eq Tryd.call19 rfl (map1 (show _=Value.agg #[vL A0_0 a0.vDefs.length c0_0] from hk 28 rfl)) (taplineref08_Check.calls k a0 A0_0 c0_0 HSd.sees hr0_0 hc0_0 H3))),ob_plain rfl (fun a' w' hE hk=>by have HSd:=HS3.step hE;exact does_eq (r_bin (show _=vI v2 from hk 27 rfl) (show _=vI v3 from hk 29 rfl) rfl)),trivial⟩ ?_
 intro w4 hE4
 simp only [List.zip_cons_cons,List.zip_nil_left,List.zip_nil_right,finL,sc0,sc1,List.length_cons,List.length_nil,List.drop_succ_cons,List.drop_zero,Nat.zero_add,Nat.reduceAdd]
 have HS4:=HS3.step hE4
 refine run_nil ?_
 refine norm_then ?_
 refine wp_cond_split (t:=(v2 !=v3)) rfl (fun c1=>?_) (fun c1=>?_)
 ·replace H:=of_pos H c1
  refine wp_seq ?_
  refine region ?_
  refine rs (vB false) (r_assign rfl) ?_
  try simp only [sc0,sc1]
  refine run_nil ?_
  refine norm_then ?_
  refine wp_ret ?_
  refine ret_then ?_
  obtain rfl:=Option.some.inj H
  refine bodyPost_ret (results_1 rfl (one_tmp rfl)) rfl ?_
  exact ⟨rfl,HS4.toE⟩
 ·replace H:=of_neg H (nt c1)
  refine wp_skip ?_
  refine norm_then ?_
  refine wp_seq ?_
  refine region ?_
  refine rs (Value.agg #[vL A0_0 a0.vDefs.length c0_0]) (r_loadBoxAgg (n:=1) (vs:=[vL A0_0 a0.vDefs.length c0_0]) rfl Tryd.isAgg24 (HS4.look 1 rfl) Tryd.sizeOf24 rfl rfl) ?_
  refine rs (vP b2 0) (r_fieldBox (n:=1) (o':=0) rfl Tryd.runUnderlying43 rfl Tryd.sizeOf3 (by decide) rfl) ?_
  refine rs (vI a1.vI) (r_loadBox rfl Tryd.isAgg3 (HS4.look 0 rfl) rfl) ?_
  obtain ⟨v4,H4,H⟩:=of_bind H
  refine run_eq (v:=Value.tuple #[vI v4.1,vI v4.2]) rfl rfl (does_call_eq Tryd.call14 rfl rfl (ctf_Size.calls k a0 a1.vI A0_0 c0_0 HS4.sees hr0_0 hc0_0 H4)) ?_
  intro w5 hE5
  have HS5:=HS4.step hE5
  refine run_frame (by simp only [sc0,sc1];rfl) ?_
  refine rs (Value.tuple #[vI v4.1,vI v4.2]) (r_move rfl) ?_
  refine rs (vI v4.1) (r_extract rfl rfl) ?_
  refine rs (vI v4.2) (r_extract rfl rfl) ?_
  refine rs (vI v4.1) (r_assign rfl) ?_
  refine run_frame (by simp only [sc0,sc1];rfl) ?_
  refine rs (vI v4.2) (r_assign rfl) ?_
  try simp only [sc0,sc1]
  refine run_nil ?_
  refine norm_then ?_
  refine wp_seq ?_
  refine region ?_
  refine rs (Value.agg #[vL A0_0 a0.vDefs.length c0_0]) (r_loadBoxAgg (n:=1) (vs:=[vL A0_0 a0.vDefs.length c0_0]) rfl Tryd.isAgg24 (HS5.look 1 rfl) Tryd.sizeOf24 rfl rfl) ?_
  refine rs (vP b2 0) (r_fieldBox (n:=1) (o':=0) rfl Tryd.runUnderlying43 rfl Tryd.sizeOf3 (by decide) rfl) ?_
  refine rs (vI a1.vI) (r_loadBox rfl Tryd.isAgg3 (HS5.look 0 rfl) rfl) ?_
  obtain ⟨v5,H5,H⟩:=of_bind H
  refine run_eq (v:=Value.tuple #[vS v5.1,vI v5.2]) rfl rfl (does_call_eq Tryd.call20 rfl rfl (ctf_Text.calls k a0 a1.vI A0_0 c0_0 HS5.sees (ht.s HS5) hr0_0 hc0_0 H5)) ?_
  intro w6 hE6
  have HS6:=HS5.step hE6
  refine run_frame (by simp only [sc0,sc1];rfl) ?_
  refine rs (Value.tuple #[vS v5.1,vI v5.2]) (r_move rfl) ?_
  refine rs (vS v5.1) (r_extract rfl rfl) ?_
  refine rs (vI v5.2) (r_extract rfl rfl) ?_
  refine rs (vS v5.1) (r_assign rfl) ?_
  refine run_frame (by simp only [sc0,sc1];rfl) ?_
  refine rs (vI v5.2) (r_assign rfl) ?_
  try simp only [sc0,sc1]
  refine run_nil ?_
  refine norm_then ?_
  refine wp_seq ?_
  refine region ?_
  refine rs (Value.agg #[vL A0_0 a0.vDefs.length c0_0]) (r_loadBoxAgg (n:=1) (vs:=[vL A0_0 a0.vDefs.length c0_0]) rfl Tryd.isAgg24 (HS6.look 1 rfl) Tryd.sizeOf24 rfl rfl) ?_
  refine rs (vP b2 1) (r_fieldBox (n:=1) (o':=1) rfl Tryd.runUnderlying43 rfl Tryd.sizeOf9 (by decide) rfl) ?_
  refine rs (vS a1.vName) (r_loadBox rfl Tryd.isAgg9 (HS6.look 0 rfl) rfl) ?_
  obtain ⟨v6,H6,H⟩:=of_bind H
  refine run_eq (v:=Value.tuple #[vI v6.1,vI v6.2]) rfl rfl (does_call_eq Tryd.call21 rfl rfl (ctf_Lookup.calls k a0 a1.vName A0_0 c0_0 HS6.sees hr0_0 hc0_0 H6)) ?_
  intro w7 hE7
  have HS7:=HS6.step hE7
  refine run_frame (by simp only [sc0,sc1];rfl) ?_
  refine rs (Value.tuple #[vI v6.1,vI v6.2]) (r_move rfl) ?_
  refine rs (vI v6.1) (r_extract rfl rfl) ?_
  refine rs (vI v6.2) (r_extract rfl rfl) ?_
  refine rs (vI v6.1) (r_assign rfl) ?_
  refine run_frame (by simp only [sc0,sc1];rfl) ?_
  refine rs (vI v6.2) (r_assign rfl) ?_
  try simp only [sc0,sc1]
  refine run_nil ?_
  refine norm_then ?_
  refine wp_seq ?_
  refine region ?_
  refine rs (Value.agg #[vL A0_0 a0.vDefs.length c0_0]) (r_loadBoxAgg (n:=1) (vs:=[vL A0_0 a0.vDefs.length c0_0]) rfl Tryd.isAgg24 (HS7.look 1 rfl) Tryd.sizeOf24 rfl rfl) ?_
  refine rs (vP b2 0) (r_fieldBox (n:=1) (o':=0) rfl Tryd.runUnderlying43 rfl Tryd.sizeOf3 (by decide) rfl) ?_
  refine rs (vI a1.vI) (r_loadBox rfl Tryd.isAgg3 (HS7.look 0 rfl) rfl) ?_
  obtain ⟨v7,H7,H⟩:=of_bind H
  refine run_eq (v:=Value.tuple #[vI v7.1,vI v7.2]) rfl rfl (does_call_eq Tryd.call15 rfl rfl (ctf_Resolve.calls k a0 a1.vI A0_0 c0_0 HS7.sees hr0_0 hc0_0 H7)) ?_
  intro w8 hE8
  have HS8:=HS7.step hE8
  refine run_frame (by simp only [sc0,sc1];rfl) ?_
  refine rs (Value.tuple #[vI v7.1,vI v7.2]) (r_move rfl) ?_
  refine rs (vI v7.1) (r_extract rfl rfl) ?_
  refine rs (vI v7.2) (r_extract rfl rfl) ?_
  refine rs (vI v7.1) (r_assign rfl) ?_
  refine run_frame (by simp only [sc0,sc1];rfl) ?_
  refine rs (vI v7.2) (r_assign rfl) ?_
  try simp only [sc0,sc1]
  refine run_nil ?_
  refine norm_then ?_
  refine wp_seq ?_
  refine region ?_
  refine rs (Value.agg #[vL A0_0 a0.vDefs.length c0_0]) (r_loadBoxAgg (n:=1) (vs:=[vL A0_0 a0.vDefs.length c0_0]) rfl Tryd.isAgg24 (HS8.look 1 rfl) Tryd.sizeOf24 rfl rfl) ?_
  refine rs (vP b2 0) (r_fieldBox (n:=1) (o':=0) rfl Tryd.runUnderlying43 rfl Tryd.sizeOf3 (by decide) rfl) ?_
  refine rs (vI a1.vI) (r_loadBox rfl Tryd.isAgg3 (HS8.look 0 rfl) rfl) ?_
  obtain ⟨v8,H8,H⟩:=of_bind H
  refine run_eq (v:=Value.agg #[vI v8.vN,vI v8.vE]) rfl rfl (does_call_eq Tryd.call22 rfl rfl (taplineref08_Size.calls k a0 a1.vI A0_0 c0_0 HS8.sees hr0_0 hc0_0 H8)) ?_
  intro w9 hE9
  have HS9:=HS8.step hE9
  refine run_frame (by simp only [sc0,sc1];rfl) ?_
  refine run_ex rfl rfl (does_alloc (cs:=#[vI 0,vI 0]) Tryd.zeroValue49 rfl) ?_
  rintro w10 _ hE10 ⟨b3,rfl,ge3,hb3⟩
  have HS10:=HS9.new hE10 ge3 hb3
  refine run_st (i:=0) (cs:=[vI 0,vI 0]) (cs':=[vI v8.vN,vI v8.vE]) (vs:=[vI v8.vN,vI v8.vE]) (bs':=[(some b3, .cells #[vI v8.vN,vI v8.vE] 49 (0,0)),(some b2, .cells #[vI a1.vI,vS a1.vName,vL A1_2 a1.vPath.length c1_2] 43 (0,0)),(some b1, .cells #[vL A0_0 a0.vDefs.length c0_0] 24 (0,0))]) rfl rfl Tryd.sizeOf49 rfl rfl (by decide) rfl HS10 rfl (Nat.le_of_ble_eq_true rfl) rfl rfl ?_
  intro w11 HS11
  try simp only [sc0,sc1]
  refine run_nil ?_
  refine norm_then ?_
  refine wp_seq ?_
  refine region ?_
  refine rs (Value.agg #[vL A0_0 a0.vDefs.length c0_0]) (r_loadBoxAgg (n:=1) (vs:=[vL A0_0 a0.vDefs.length c0_0]) rfl Tryd.isAgg24 (HS11.look 2 rfl) Tryd.sizeOf24 rfl rfl) ?_
  refine rs (vP b2 0) (r_fieldBox (n:=1) (o':=0) rfl Tryd.runUnderlying43 rfl Tryd.sizeOf3 (by decide) rfl) ?_
  refine rs (vI a1.vI) (r_loadBox rfl Tryd.isAgg3 (HS11.look 1 rfl) rfl) ?_
  obtain ⟨v9,H9,H⟩:=of_bind H
  refine run_eq (v:=Value.agg #[vS v9.vS,vI v9.vE]) rfl rfl (does_call_eq Tryd.call23 rfl rfl (taplineref08_TextOf.calls k a0 a1.vI A0_0 c0_0 HS11.sees hr0_0 hc0_0 H9)) ?_
  intro w12 hE11
  have HS12:=HS11.step hE11
  refine run_frame (by simp only [sc0,sc1];rfl) ?_
  refine run_ex rfl rfl (does_alloc (cs:=#[vS ByteArray.empty,vI 0]) Tryd.zeroValue52 rfl) ?_
  rintro w13 _ hE12 ⟨b4,rfl,ge4,hb4⟩
  have HS13:=HS12.new hE12 ge4 hb4
  refine run_st (i:=0) (cs:=[vS ByteArray.empty,vI 0]) (cs':=[vS v9.vS,vI v9.vE]) (vs:=[vS v9.vS,vI v9.vE]) (bs':=[(some b4, .cells #[vS v9.vS,vI v9.vE] 52 (0,0)),(some b3, .cells #[vI v8.vN,vI v8.vE] 49 (0,0)),(some b2, .cells #[vI a1.vI,vS a1.vName,vL A1_2 a1.vPath.length c1_2] 43 (0,0)),(some b1, .cells #[vL A0_0 a0.vDefs.length c0_0] 24 (0,0))]) rfl rfl Tryd.sizeOf52 rfl rfl (by decide) rfl HS13 rfl (Nat.le_of_ble_eq_true rfl) rfl rfl ?_
  intro w14 HS14
  try simp only [sc0,sc1]
  refine run_nil ?_
  refine norm_then ?_
  refine wp_seq ?_
  refine region ?_
  refine rs (Value.agg #[vL A0_0 a0.vDefs.length c0_0]) (r_loadBoxAgg (n:=1) (vs:=[vL A0_0 a0.vDefs.length c0_0]) rfl Tryd.isAgg24 (HS14.look 3 rfl) Tryd.sizeOf24 rfl rfl) ?_
  refine rs (vP b2 1) (r_fieldBox (n:=1) (o':=1) rfl Tryd.runUnderlying43 rfl Tryd.sizeOf9 (by decide) rfl) ?_
  refine rs (vS a1.vName) (r_loadBox rfl Tryd.isAgg9 (HS14.look 2 rfl) rfl) ?_
  obtain ⟨v10,H10,H⟩:=of_bind H
  refine run_eq (v:=Value.agg #[vI v10.vN,vI v10.vE]) rfl rfl (does_call_eq Tryd.call24 rfl rfl (taplineref08_Lookup.calls k a0 a1.vName A0_0 c0_0 HS14.sees hr0_0 hc0_0 H10)) ?_
  intro w15 hE13
  have HS15:=HS14.step hE13
  refine run_frame (by simp only [sc0,sc1];rfl) ?_
  refine run_ex rfl rfl (does_alloc (cs:=#[vI 0,vI 0]) Tryd.zeroValue49 rfl) ?_
  rintro w16 _ hE14 ⟨b5,rfl,ge5,hb5⟩
  have HS16:=HS15.new hE14 ge5 hb5
  refine run_st (i:=0) (cs:=[vI 0,vI 0]) (cs':=[vI v10.vN,vI v10.vE]) (vs:=[vI v10.vN,vI v10.vE]) (bs':=[(some b5, .cells #[vI v10.vN,vI v10.vE] 49 (0,0)),(some b4, .cells #[vS v9.vS,vI v9.vE] 52 (0,0)),(some b3, .cells #[vI v8.vN,vI v8.vE] 49 (0,0)),(some b2, .cells #[vI a1.vI,vS a1.vName,vL A1_2 a1.vPath.length c1_2] 43 (0,0)),(some b1, .cells #[vL A0_0 a0.vDefs.length c0_0] 24 (0,0))]) rfl rfl Tryd.sizeOf49 rfl rfl (by decide) rfl HS16 rfl (Nat.le_of_ble_eq_true rfl) rfl rfl ?_
  intro w17 HS17
  try simp only [sc0,sc1]
  refine run_nil ?_
  refine norm_then ?_
  refine wp_seq ?_
  refine region ?_
  refine rs (Value.agg #[vL A0_0 a0.vDefs.length c0_0]) (r_loadBoxAgg (n:=1) (vs:=[vL A0_0 a0.vDefs.length c0_0]) rfl Tryd.isAgg24 (HS17.look 4 rfl) Tryd.sizeOf24 rfl rfl) ?_
  refine rs (vP b2 0) (r_fieldBox (n:=1) (o':=0) rfl Tryd.runUnderlying43 rfl Tryd.sizeOf3 (by decide) rfl) ?_
  refine rs (vI a1.vI) (r_loadBox rfl Tryd.isAgg3 (HS17.look 3 rfl) rfl) ?_
  obtain ⟨v11,H11,H⟩:=of_bind H
  refine run_eq (v:=Value.agg #[vI v11.vN,vI v11.vE]) rfl rfl (does_call_eq Tryd.call25 rfl rfl (taplineref08_Resolve.calls k a0 a1.vI A0_0 c0_0 HS17.sees hr0_0 hc0_0 H11)) ?_
  intro w18 hE15
  have HS18:=HS17.step hE15
  refine run_frame (by simp only [sc0,sc1];rfl) ?_
  refine run_ex rfl rfl (does_alloc (cs:=#[vI 0,vI 0]) Tryd.zeroValue49 rfl) ?_
  rintro w19 _ hE16 ⟨b6,rfl,ge6,hb6⟩
  have HS19:=HS18.new hE16 ge6 hb6
  refine run_st (i:=0) (cs:=[vI 0,vI 0]) (cs':=[vI v11.vN,vI v11.vE]) (vs:=[vI v11.vN,vI v11.vE]) (bs':=[(some b6, .cells #[vI v11.vN,vI v11.vE] 49 (0,0)),(some b5, .cells #[vI v10.vN,vI v10.vE] 49 (0,0)),(some b4, .cells #[vS v9.vS,vI v9.vE] 52 (0,0)),(some b3, .cells #[vI v8.vN,vI v8.vE] 49 (0,0)),(some b2, .cells #[vI a1.vI,vS a1.vName,vL A1_2 a1.vPath.length c1_2] 43 (0,0)),(some b1, .cells #[vL A0_0 a0.vDefs.length c0_0] 24 (0,0))]) rfl rfl Tryd.sizeOf49 rfl rfl (by decide) rfl HS19 rfl (Nat.le_of_ble_eq_true rfl) rfl rfl ?_
  intro w20 HS20
  try simp only [sc0,sc1]
  refine run_nil ?_
  refine norm_then ?_
  refine wp_seq ?_
  refine wp_seq ?_
  refine region ?_
  refine rs (vI v4.1) (r_move rfl) ?_
  refine rs (vP b3 0) (r_fieldBox (n:=1) (o':=0) rfl Tryd.runUnderlying49 rfl Tryd.sizeOf3 (by decide) rfl) ?_
  refine rs (vI v8.vN) (r_loadBox rfl Tryd.isAgg3 (HS20.look 3 rfl) rfl) ?_
  refine rs (vB (v4.1 !=v8.vN)) (r_bin rfl rfl rfl) ?_
  refine run_frame (by simp only [sc0,sc1];rfl) ?_
  refine rs (vB (v4.1 !=v8.vN)) (r_move rfl) ?_
  refine rgs (v4.1 !=v8.vN) true (vI v4.2) rfl rfl rfl rfl (fun hg=>(r_move rfl)) ?_
  refine rgs (v4.1 !=v8.vN) true (vP b3 1) rfl rfl rfl rfl (fun hg=>(r_fieldBox (n:=1) (o':=1) rfl Tryd.runUnderlying49 rfl Tryd.sizeOf27 (by decide) rfl)) ?_
  refine rgs (v4.1 !=v8.vN) true (vI v8.vE) rfl rfl rfl rfl (fun hg=>(r_loadBox (gvt (vP b3 1) hg rfl) Tryd.isAgg27 (HS20.look 3 rfl) rfl)) ?_
  refine run_frame (by simp only [sc0,sc1];rfl) ?_
  refine rgs (v4.1 !=v8.vN) true (vB (v4.2 !=v8.vE)) rfl rfl rfl rfl (fun hg=>(r_bin (gvt (vI v4.2) hg rfl) (gvt (vI v8.vE) hg rfl) rfl)) ?_
  refine rs (vB ((v4.1 !=v8.vN)||(v4.2 !=v8.vE))) (r_pick_or rfl rfl (fun hp=>(gvt (vB (v4.2 !=v8.vE)) (and_i rfl hp) rfl))) ?_
  refine rs (vB ((v4.1 !=v8.vN)||(v4.2 !=v8.vE))) (r_move rfl) ?_
  refine rgs ((v4.1 !=v8.vN)||(v4.2 !=v8.vE)) true (vS v5.1) rfl rfl rfl rfl (fun hg=>(r_move rfl)) ?_
  refine run_frame (by simp only [sc0,sc1];rfl) ?_
  refine rgs ((v4.1 !=v8.vN)||(v4.2 !=v8.vE)) true (vP b4 0) rfl rfl rfl rfl (fun hg=>(r_fieldBox (n:=1) (o':=0) rfl Tryd.runUnderlying52 rfl Tryd.sizeOf9 (by decide) rfl)) ?_
  refine rgs ((v4.1 !=v8.vN)||(v4.2 !=v8.vE)) true (vS v9.vS) rfl rfl rfl rfl (fun hg=>(r_loadBox (gvt (vP b4 0) hg rfl) Tryd.isAgg9 (HS20.look 2 rfl) rfl)) ?_
  refine rgs ((v4.1 !=v8.vN)||(v4.2 !=v8.vE)) true (vB (!(strEq v5.1 v9.vS))) rfl rfl rfl rfl (fun hg=>(r_strneq (gvt (vS v5.1) hg rfl) (gvt (vS v9.vS) hg rfl))) ?_
  refine rs (vB (((v4.1 !=v8.vN)||(v4.2 !=v8.vE))||(!(strEq v5.1 v9.vS)))) (r_pick_or rfl rfl (fun hp=>(gvt (vB (!(strEq v5.1 v9.vS))) (and_i rfl hp) rfl))) ?_
  refine run_frame (by simp only [sc0,sc1];rfl) ?_
  refine rs (vB (((v4.1 !=v8.vN)||(v4.2 !=v8.vE))||(!(strEq v5.1 v9.vS)))) (r_move rfl) ?_
  refine rgs (((v4.1 !=v8.vN)||(v4.2 !=v8.vE))||(!(strEq v5.1 v9.vS))) true (vI v5.2) rfl rfl rfl rfl (fun hg=>(r_move rfl)) ?_
  refine rgs (((v4.1 !=v8.vN)||(v4.2 !=v8.vE))||(!(strEq v5.1 v9.vS))) true (vP b4 1) rfl rfl rfl rfl (fun hg=>(r_fieldBox (n:=1) (o':=1) rfl Tryd.runUnderlying52 rfl Tryd.sizeOf27 (by decide) rfl)) ?_
  refine rgs (((v4.1 !=v8.vN)||(v4.2 !=v8.vE))||(!(strEq v5.1 v9.vS))) true (vI v9.vE) rfl rfl rfl rfl (fun hg=>(r_loadBox (gvt (vP b4 1) hg rfl) Tryd.isAgg27 (HS20.look 2 rfl) rfl)) ?_
  refine run_frame (by simp only [sc0,sc1];rfl) ?_
  refine rgs (((v4.1 !=v8.vN)||(v4.2 !=v8.vE))||(!(strEq v5.1 v9.vS))) true (vB (v5.2 !=v9.vE)) rfl rfl rfl rfl (fun hg=>(r_bin (gvt (vI v5.2) hg rfl) (gvt (vI v9.vE) hg rfl) rfl)) ?_
  refine rs (vB ((((v4.1 !=v8.vN)||(v4.2 !=v8.vE))||(!(strEq v5.1 v9.vS)))||(v5.2 !=v9.vE))) (r_pick_or rfl rfl (fun hp=>(gvt (vB (v5.2 !=v9.vE)) (and_i rfl hp) rfl))) ?_
  refine rs (vB ((((v4.1 !=v8.vN)||(v4.2 !=v8.vE))||(!(strEq v5.1 v9.vS)))||(v5.2 !=v9.vE))) (r_move rfl) ?_
  refine rgs ((((v4.1 !=v8.vN)||(v4.2 !=v8.vE))||(!(strEq v5.1 v9.vS)))||(v5.2 !=v9.vE)) true (vI v6.1) rfl rfl rfl rfl (fun hg=>(r_move rfl)) ?_
  refine run_frame (by simp only [sc0,sc1];rfl) ?_
  refine rgs ((((v4.1 !=v8.vN)||(v4.2 !=v8.vE))||(!(strEq v5.1 v9.vS)))||(v5.2 !=v9.vE)) true (vP b5 0) rfl rfl rfl rfl (fun hg=>(r_fieldBox (n:=1) (o':=0) rfl Tryd.runUnderlying49 rfl Tryd.sizeOf3 (by decide) rfl)) ?_
  refine rgs ((((v4.1 !=v8.vN)||(v4.2 !=v8.vE))||(!(strEq v5.1 v9.vS)))||(v5.2 !=v9.vE)) true (vI v10.vN) rfl rfl rfl rfl (fun hg=>(r_loadBox (gvt (vP b5 0) hg rfl) Tryd.isAgg3 (HS20.look 1 rfl) rfl)) ?_
  refine rgs ((((v4.1 !=v8.vN)||(v4.2 !=v8.vE))||(!(strEq v5.1 v9.vS)))||(v5.2 !=v9.vE)) true (vB (v6.1 !=v10.vN)) rfl rfl rfl rfl (fun hg=>(r_bin (gvt (vI v6.1) hg rfl) (gvt (vI v10.vN) hg rfl) rfl)) ?_
  refine rs (vB (((((v4.1 !=v8.vN)||(v4.2 !=v8.vE))||(!(strEq v5.1 v9.vS)))||(v5.2 !=v9.vE))||(v6.1 !=v10.vN))) (r_pick_or rfl rfl (fun hp=>(gvt (vB (v6.1 !=v10.vN)) (and_i rfl hp) rfl))) ?_
  refine run_frame (by simp only [sc0,sc1];rfl) ?_
  refine rs (vB (((((v4.1 !=v8.vN)||(v4.2 !=v8.vE))||(!(strEq v5.1 v9.vS)))||(v5.2 !=v9.vE))||(v6.1 !=v10.vN))) (r_move rfl) ?_
  refine rgs (((((v4.1 !=v8.vN)||(v4.2 !=v8.vE))||(!(strEq v5.1 v9.vS)))||(v5.2 !=v9.vE))||(v6.1 !=v10.vN)) true (vI v6.2) rfl rfl rfl rfl (fun hg=>(r_move rfl)) ?_
  refine rgs (((((v4.1 !=v8.vN)||(v4.2 !=v8.vE))||(!(strEq v5.1 v9.vS)))||(v5.2 !=v9.vE))||(v6.1 !=v10.vN)) true (vP b5 1) rfl rfl rfl rfl (fun hg=>(r_fieldBox (n:=1) (o':=1) rfl Tryd.runUnderlying49 rfl Tryd.sizeOf27 (by decide) rfl)) ?_
  refine rgs (((((v4.1 !=v8.vN)||(v4.2 !=v8.vE))||(!(strEq v5.1 v9.vS)))||(v5.2 !=v9.vE))||(v6.1 !=v10.vN)) true (vI v10.vE) rfl rfl rfl rfl (fun hg=>(r_loadBox (gvt (vP b5 1) hg rfl) Tryd.isAgg27 (HS20.look 1 rfl) rfl)) ?_
  refine run_frame (by simp only [sc0,sc1];rfl) ?_
  refine rgs (((((v4.1 !=v8.vN)||(v4.2 !=v8.vE))||(!(strEq v5.1 v9.vS)))||(v5.2 !=v9.vE))||(v6.1 !=v10.vN)) true (vB (v6.2 !=v10.vE)) rfl rfl rfl rfl (fun hg=>(r_bin (gvt (vI v6.2) hg rfl) (gvt (vI v10.vE) hg rfl) rfl)) ?_
  refine rs (vB ((((((v4.1 !=v8.vN)||(v4.2 !=v8.vE))||(!(strEq v5.1 v9.vS)))||(v5.2 !=v9.vE))||(v6.1 !=v10.vN))||(v6.2 !=v10.vE))) (r_pick_or rfl rfl (fun hp=>(gvt (vB (v6.2 !=v10.vE)) (and_i rfl hp) rfl))) ?_
  refine rs (vB ((((((v4.1 !=v8.vN)||(v4.2 !=v8.vE))||(!(strEq v5.1 v9.vS)))||(v5.2 !=v9.vE))||(v6.1 !=v10.vN))||(v6.2 !=v10.vE))) (r_move rfl) ?_
  refine rgs ((((((v4.1 !=v8.vN)||(v4.2 !=v8.vE))||(!(strEq v5.1 v9.vS)))||(v5.2 !=v9.vE))||(v6.1 !=v10.vN))||(v6.2 !=v10.vE)) true (vI v7.1) rfl rfl rfl rfl (fun hg=>(r_move rfl)) ?_
  refine run_frame (by simp only [sc0,sc1];rfl) ?_
  refine rgs ((((((v4.1 !=v8.vN)||(v4.2 !=v8.vE))||(!(strEq v5.1 v9.vS)))||(v5.2 !=v9.vE))||(v6.1 !=v10.vN))||(v6.2 !=v10.vE)) true (vP b6 0) rfl rfl rfl rfl (fun hg=>(r_fieldBox (n:=1) (o':=0) rfl Tryd.runUnderlying49 rfl Tryd.sizeOf3 (by decide) rfl)) ?_
  refine rgs ((((((v4.1 !=v8.vN)||(v4.2 !=v8.vE))||(!(strEq v5.1 v9.vS)))||(v5.2 !=v9.vE))||(v6.1 !=v10.vN))||(v6.2 !=v10.vE)) true (vI v11.vN) rfl rfl rfl rfl (fun hg=>(r_loadBox (gvt (vP b6 0) hg rfl) Tryd.isAgg3 (HS20.look 0 rfl) rfl)) ?_
  refine rgs ((((((v4.1 !=v8.vN)||(v4.2 !=v8.vE))||(!(strEq v5.1 v9.vS)))||(v5.2 !=v9.vE))||(v6.1 !=v10.vN))||(v6.2 !=v10.vE)) true (vB (v7.1 !=v11.vN)) rfl rfl rfl rfl (fun hg=>(r_bin (gvt (vI v7.1) hg rfl) (gvt (vI v11.vN) hg rfl) rfl)) ?_
  refine rs (vB (((((((v4.1 !=v8.vN)||(v4.2 !=v8.vE))||(!(strEq v5.1 v9.vS)))||(v5.2 !=v9.vE))||(v6.1 !=v10.vN))||(v6.2 !=v10.vE))||(v7.1 !=v11.vN))) (r_pick_or rfl rfl (fun hp=>(gvt (vB (v7.1 !=v11.vN)) (and_i rfl hp) rfl))) ?_
  refine run_frame (by simp only [sc0,sc1];rfl) ?_
  refine rs (vB (((((((v4.1 !=v8.vN)||(v4.2 !=v8.vE))||(!(strEq v5.1 v9.vS)))||(v5.2 !=v9.vE))||(v6.1 !=v10.vN))||(v6.2 !=v10.vE))||(v7.1 !=v11.vN))) (r_move rfl) ?_
  refine rgs (((((((v4.1 !=v8.vN)||(v4.2 !=v8.vE))||(!(strEq v5.1 v9.vS)))||(v5.2 !=v9.vE))||(v6.1 !=v10.vN))||(v6.2 !=v10.vE))||(v7.1 !=v11.vN)) true (vI v7.2) rfl rfl rfl rfl (fun hg=>(r_move rfl)) ?_
  refine rgs (((((((v4.1 !=v8.vN)||(v4.2 !=v8.vE))||(!(strEq v5.1 v9.vS)))||(v5.2 !=v9.vE))||(v6.1 !=v10.vN))||(v6.2 !=v10.vE))||(v7.1 !=v11.vN)) true (vP b6 1) rfl rfl rfl rfl (fun hg=>(r_fieldBox (n:=1) (o':=1) rfl Tryd.runUnderlying49 rfl Tryd.sizeOf27 (by decide) rfl)) ?_
  refine rgs (((((((v4.1 !=v8.vN)||(v4.2 !=v8.vE))||(!(strEq v5.1 v9.vS)))||(v5.2 !=v9.vE))||(v6.1 !=v10.vN))||(v6.2 !=v10.vE))||(v7.1 !=v11.vN)) true (vI v11.vE) rfl rfl rfl rfl (fun hg=>(r_loadBox (gvt (vP b6 1) hg rfl) Tryd.isAgg27 (HS20.look 0 rfl) rfl)) ?_
  refine run_frame (by simp only [sc0,sc1];rfl) ?_
  refine rgs (((((((v4.1 !=v8.vN)||(v4.2 !=v8.vE))||(!(strEq v5.1 v9.vS)))||(v5.2 !=v9.vE))||(v6.1 !=v10.vN))||(v6.2 !=v10.vE))||(v7.1 !=v11.vN)) true (vB (v7.2 !=v11.vE)) rfl rfl rfl rfl (fun hg=>(r_bin (gvt (vI v7.2) hg rfl) (gvt (vI v11.vE) hg rfl) rfl)) ?_
  refine rs (vB ((((((((v4.1 !=v8.vN)||(v4.2 !=v8.vE))||(!(strEq v5.1 v9.vS)))||(v5.2 !=v9.vE))||(v6.1 !=v10.vN))||(v6.2 !=v10.vE))||(v7.1 !=v11.vN))||(v7.2 !=v11.vE))) (r_pick_or rfl rfl (fun hp=>(gvt (vB (v7.2 !=v11.vE)) (and_i rfl hp) rfl))) ?_
  try simp only [sc0,sc1]
  refine run_nil ?_
  refine norm_then ?_
  refine wp_cond_split (t:=((((((((v4.1 !=v8.vN)||(v4.2 !=v8.vE))||(!(strEq v5.1 v9.vS)))||(v5.2 !=v9.vE))||(v6.1 !=v10.vN))||(v6.2 !=v10.vE))||(v7.1 !=v11.vN))||(v7.2 !=v11.vE))) rfl (fun c2=>?_) (fun c2=>?_)
  ·replace H:=of_pos H c2
   refine wp_seq ?_
   refine region ?_
   refine rs (vB false) (r_assign rfl) ?_
   try simp only [sc0,sc1]
   refine run_nil ?_
   refine norm_then ?_
   refine wp_ret ?_
   refine ret_then ?_
   obtain rfl:=Option.some.inj H
   refine bodyPost_ret (results_1 rfl (one_tmp rfl)) rfl ?_
   exact ⟨rfl,HS20.toE⟩
  ·replace H:=of_neg H (nt c2)
   refine wp_skip ?_
   refine norm_then ?_
   refine wp_seq ?_
   refine region ?_
   refine rs (Value.agg #[vL A0_0 a0.vDefs.length c0_0]) (r_loadBoxAgg (n:=1) (vs:=[vL A0_0 a0.vDefs.length c0_0]) rfl Tryd.isAgg24 (HS20.look 5 rfl) Tryd.sizeOf24 rfl rfl) ?_
   refine rs (vP b2 0) (r_fieldBox (n:=1) (o':=0) rfl Tryd.runUnderlying43 rfl Tryd.sizeOf3 (by decide) rfl) ?_
   refine rs (vI a1.vI) (r_loadBox rfl Tryd.isAgg3 (HS20.look 4 rfl) rfl) ?_
   refine rs (vP b2 1) (r_fieldBox (n:=1) (o':=1) rfl Tryd.runUnderlying43 rfl Tryd.sizeOf9 (by decide) rfl) ?_
   refine run_frame (by simp only [sc0,sc1];rfl) ?_
   refine rs (vS a1.vName) (r_loadBox rfl Tryd.isAgg9 (HS20.look 4 rfl) rfl) ?_
   obtain ⟨v12,H12,H⟩:=of_bind H
   refine run_eq (v:=Value.tuple #[Value.agg #[vS v12.1.vName,vI v12.1.vType,vI v12.1.vAt],vI v12.2]) rfl rfl (does_call_eq Tryd.call16 rfl rfl (ctf_Member.calls k a0 a1.vI a1.vName A0_0 c0_0 HS20.sees hr0_0 hc0_0 H12)) ?_
   intro w21 hE17
   have HS21:=HS20.step hE17
   refine rs (Value.tuple #[Value.agg #[vS v12.1.vName,vI v12.1.vType,vI v12.1.vAt],vI v12.2]) (r_move rfl) ?_
   refine rs (Value.agg #[vS v12.1.vName,vI v12.1.vType,vI v12.1.vAt]) (r_extract rfl rfl) ?_
   refine run_frame (by simp only [sc0,sc1];rfl) ?_
   refine rs (vI v12.2) (r_extract rfl rfl) ?_
   refine run_ex rfl rfl (does_alloc (cs:=#[vS ByteArray.empty,vI 0,vI 0]) Tryd.zeroValue36 rfl) ?_
   rintro w22 _ hE18 ⟨b7,rfl,ge7,hb7⟩
   have HS22:=HS21.new hE18 ge7 hb7
   refine run_st (i:=0) (cs:=[vS ByteArray.empty,vI 0,vI 0]) (cs':=[vS v12.1.vName,vI v12.1.vType,vI v12.1.vAt]) (vs:=[vS v12.1.vName,vI v12.1.vType,vI v12.1.vAt]) (bs':=[(some b7, .cells #[vS v12.1.vName,vI v12.1.vType,vI v12.1.vAt] 36 (0,0)),(some b6, .cells #[vI v11.vN,vI v11.vE] 49 (0,0)),(some b5, .cells #[vI v10.vN,vI v10.vE] 49 (0,0)),(some b4, .cells #[vS v9.vS,vI v9.vE] 52 (0,0)),(some b3, .cells #[vI v8.vN,vI v8.vE] 49 (0,0)),(some b2, .cells #[vI a1.vI,vS a1.vName,vL A1_2 a1.vPath.length c1_2] 43 (0,0)),(some b1, .cells #[vL A0_0 a0.vDefs.length c0_0] 24 (0,0))]) rfl rfl Tryd.sizeOf36 rfl rfl (by decide) rfl HS22 rfl (Nat.le_of_ble_eq_true rfl) rfl rfl ?_
   intro w23 HS23
   refine rs (vI v12.2) (r_assign rfl) ?_
   try simp only [sc0,sc1]
   refine run_nil ?_
   refine norm_then ?_
   refine wp_seq ?_
   refine region ?_
   refine rs (Value.agg #[vL A0_0 a0.vDefs.length c0_0]) (r_loadBoxAgg (n:=1) (vs:=[vL A0_0 a0.vDefs.length c0_0]) rfl Tryd.isAgg24 (HS23.look 6 rfl) Tryd.sizeOf24 rfl rfl) ?_
   refine rs (vP b2 0) (r_fieldBox (n:=1) (o':=0) rfl Tryd.runUnderlying43 rfl Tryd.sizeOf3 (by decide) rfl) ?_
   refine rs (vI a1.vI) (r_loadBox rfl Tryd.isAgg3 (HS23.look 5 rfl) rfl) ?_
   refine rs (vP b2 2) (r_fieldBox (n:=1) (o':=2) rfl Tryd.runUnderlying43 rfl Tryd.sizeOf25 (by decide) rfl) ?_
   refine run_frame (by simp only [sc0,sc1];rfl) ?_
   refine rs (vL A1_2 a1.vPath.length c1_2) (r_loadBox rfl Tryd.isAgg25 (HS23.look 5 rfl) rfl) ?_
   obtain ⟨v13,H13,H⟩:=of_bind H
   refine run_eq (v:=Value.tuple #[vI v13.1,vI v13.2.1,vI v13.2.2]) rfl rfl (does_call_eq Tryd.call17 rfl rfl (ctf_Path.calls k a0 a1.vI a1.vPath A0_0 c0_0 A1_2 c1_2 HS23.sees hr0_0 hc0_0 hr1_2 hc1_2 H13)) ?_
   intro w24 hE19
   have HS24:=HS23.step hE19
   refine rs (Value.tuple #[vI v13.1,vI v13.2.1,vI v13.2.2]) (r_move rfl) ?_
   refine rs (vI v13.1) (r_extract rfl rfl) ?_
   refine run_frame (by simp only [sc0,sc1];rfl) ?_
   refine rs (vI v13.2.1) (r_extract rfl rfl) ?_
   refine rs (vI v13.2.2) (r_extract rfl rfl) ?_
   refine rs (vI v13.1) (r_assign rfl) ?_
   refine rs (vI v13.2.1) (r_assign rfl) ?_
   refine run_frame (by simp only [sc0,sc1];rfl) ?_
   refine rs (vI v13.2.2) (r_assign rfl) ?_
   try simp only [sc0,sc1]
   refine run_nil ?_
   refine norm_then ?_
   refine wp_seq ?_
   refine region ?_
   refine rs (Value.agg #[vL A0_0 a0.vDefs.length c0_0]) (r_loadBoxAgg (n:=1) (vs:=[vL A0_0 a0.vDefs.length c0_0]) rfl Tryd.isAgg24 (HS24.look 6 rfl) Tryd.sizeOf24 rfl rfl) ?_
   refine rs (vP b2 0) (r_fieldBox (n:=1) (o':=0) rfl Tryd.runUnderlying43 rfl Tryd.sizeOf3 (by decide) rfl) ?_
   refine rs (vI a1.vI) (r_loadBox rfl Tryd.isAgg3 (HS24.look 5 rfl) rfl) ?_
   refine rs (vP b2 1) (r_fieldBox (n:=1) (o':=1) rfl Tryd.runUnderlying43 rfl Tryd.sizeOf9 (by decide) rfl) ?_
   refine run_frame (by simp only [sc0,sc1];rfl) ?_
   refine rs (vS a1.vName) (r_loadBox rfl Tryd.isAgg9 (HS24.look 5 rfl) rfl) ?_
   obtain ⟨v14,H14,H⟩:=of_bind H
   refine run_eq (v:=Value.agg #[vS v14.vF.vName,vI v14.vF.vType,vI v14.vF.vAt,vI v14.vE]) rfl rfl (does_call_eq Tryd.call26 rfl rfl (taplineref08_Member.calls k a0 a1.vI a1.vName A0_0 c0_0 HS24.sees hr0_0 hc0_0 H14)) ?_
   intro w25 hE20
   have HS25:=HS24.step hE20
   refine run_ex rfl rfl (does_alloc (cs:=#[vS ByteArray.empty,vI 0,vI 0,vI 0]) Tryd.zeroValue56 rfl) ?_
   rintro w26 _ hE21 ⟨b8,rfl,ge8,hb8⟩
   have HS26:=HS25.new hE21 ge8 hb8
   refine run_st (i:=0) (cs:=[vS ByteArray.empty,vI 0,vI 0,vI 0]) (cs':=[vS v14.vF.vName,vI v14.vF.vType,vI v14.vF.vAt,vI v14.vE]) (vs:=[vS v14.vF.vName,vI v14.vF.vType,vI v14.vF.vAt,vI v14.vE]) (bs':=[(some b8, .cells #[vS v14.vF.vName,vI v14.vF.vType,vI v14.vF.vAt,vI v14.vE] 56 (0,0)),(some b7, .cells #[vS v12.1.vName,vI v12.1.vType,vI v12.1.vAt] 36 (0,0)),(some b6, .cells #[vI v11.vN,vI v11.vE] 49 (0,0)),(some b5, .cells #[vI v10.vN,vI v10.vE] 49 (0,0)),(some b4, .cells #[vS v9.vS,vI v9.vE] 52 (0,0)),(some b3, .cells #[vI v8.vN,vI v8.vE] 49 (0,0)),(some b2, .cells #[vI a1.vI,vS a1.vName,vL A1_2 a1.vPath.length c1_2] 43 (0,0)),(some b1, .cells #[vL A0_0 a0.vDefs.length c0_0] 24 (0,0))]) rfl rfl Tryd.sizeOf56 rfl rfl (by decide) rfl HS26 rfl (Nat.le_of_ble_eq_true rfl) rfl rfl ?_
   intro w27 HS27
   try simp only [sc0,sc1]
   refine run_nil ?_
   refine norm_then ?_
   refine wp_seq ?_
   refine region ?_
   refine rs (Value.agg #[vL A0_0 a0.vDefs.length c0_0]) (r_loadBoxAgg (n:=1) (vs:=[vL A0_0 a0.vDefs.length c0_0]) rfl Tryd.isAgg24 (HS27.look 7 rfl) Tryd.sizeOf24 rfl rfl) ?_
   refine rs (vP b2 0) (r_fieldBox (n:=1) (o':=0) rfl Tryd.runUnderlying43 rfl Tryd.sizeOf3 (by decide) rfl) ?_
   refine rs (vI a1.vI) (r_loadBox rfl Tryd.isAgg3 (HS27.look 6 rfl) rfl) ?_
   refine rs (vP b2 2) (r_fieldBox (n:=1) (o':=2) rfl Tryd.runUnderlying43 rfl Tryd.sizeOf25 (by decide) rfl) ?_
   refine run_frame (by simp only [sc0,sc1];rfl) ?_
   refine rs (vL A1_2 a1.vPath.length c1_2) (r_loadBox rfl Tryd.isAgg25 (HS27.look 6 rfl) rfl) ?_
   obtain ⟨v15,H15,H⟩:=of_bind H
   refine run_eq (v:=Value.agg #[vI v15.vType,vI v15.vAt,vI v15.vE]) rfl rfl (does_call_eq Tryd.call27 rfl rfl (taplineref08_Path.calls k a0 a1.vI a1.vPath A0_0 c0_0 A1_2 c1_2 HS27.sees hr0_0 hc0_0 hr1_2 hc1_2 H15)) ?_
   intro w28 hE22
   have HS28:=HS27.step hE22
   refine run_ex rfl rfl (does_alloc (cs:=#[vI 0,vI 0,vI 0]) Tryd.zeroValue59 rfl) ?_
   rintro w29 _ hE23 ⟨b9,rfl,ge9,hb9⟩
   have HS29:=HS28.new hE23 ge9 hb9
   refine run_st (i:=0) (cs:=[vI 0,vI 0,vI 0]) (cs':=[vI v15.vType,vI v15.vAt,vI v15.vE]) (vs:=[vI v15.vType,vI v15.vAt,vI v15.vE]) (bs':=[(some b9, .cells #[vI v15.vType,vI v15.vAt,vI v15.vE] 59 (0,0)),(some b8, .cells #[vS v14.vF.vName,vI v14.vF.vType,vI v14.vF.vAt,vI v14.vE] 56 (0,0)),(some b7, .cells #[vS v12.1.vName,vI v12.1.vType,vI v12.1.vAt] 36 (0,0)),(some b6, .cells #[vI v11.vN,vI v11.vE] 49 (0,0)),(some b5, .cells #[vI v10.vN,vI v10.vE] 49 (0,0)),(some b4, .cells #[vS v9.vS,vI v9.vE] 52 (0,0)),(some b3, .cells #[vI v8.vN,vI v8.vE] 49 (0,0)),(some b2, .cells #[vI a1.vI,vS a1.vName,vL A1_2 a1.vPath.length c1_2] 43 (0,0)),(some b1, .cells #[vL A0_0 a0.vDefs.length c0_0] 24 (0,0))]) rfl rfl Tryd.sizeOf59 rfl rfl (by decide) rfl HS29 rfl (Nat.le_of_ble_eq_true rfl) rfl rfl ?_
   intro w30 HS30
   try simp only [sc0,sc1]
   refine run_nil ?_
   refine norm_then ?_
   refine wp_seq ?_
   refine region ?_
   refine rs (vB v1) (r_move rfl) ?_
   refine rs (vB v1) (r_move rfl) ?_
   refine rgs v1 true (Value.agg #[vS v12.1.vName,vI v12.1.vType,vI v12.1.vAt]) rfl rfl rfl rfl (fun hg=>(r_loadBoxAgg (n:=3) (vs:=[vS v12.1.vName,vI v12.1.vType,vI v12.1.vAt]) rfl Tryd.isAgg36 (HS30.look 2 rfl) Tryd.sizeOf36 rfl rfl)) ?_
   refine rgs v1 true (vP b8 0) rfl rfl rfl rfl (fun hg=>(r_fieldBox (n:=3) (o':=0) rfl Tryd.runUnderlying56 rfl Tryd.sizeOf36 (by decide) rfl)) ?_
   refine run_frame (by simp only [sc0,sc1];rfl) ?_
   refine rgs v1 true (Value.agg #[vS v14.vF.vName,vI v14.vF.vType,vI v14.vF.vAt]) rfl rfl rfl rfl (fun hg=>(r_loadBoxAgg (n:=3) (vs:=[vS v14.vF.vName,vI v14.vF.vType,vI v14.vF.vAt]) (gvt (vP b8 0) hg rfl) Tryd.isAgg36 (HS30.look 1 rfl) Tryd.sizeOf36 rfl rfl)) ?_
   refine rgs v1 true (vB ((strEq v12.1.vName v14.vF.vName)&&((v12.1.vType==v14.vF.vType)&&((v12.1.vAt==v14.vF.vAt)&&true)))) rfl rfl rfl rfl (fun hg=>(r_aggeql (gvt (Value.agg #[vS v12.1.vName,vI v12.1.vType,vI v12.1.vAt]) hg rfl) (gvt (Value.agg #[vS v14.vF.vName,vI v14.vF.vType,vI v14.vF.vAt]) hg rfl) Tryd.eqGuardType36 (eqr_agg Tryd.stoodInHeld36 Tryd.underlying36 (eqf_cons (by decide) (part_one Tryd.isAgg9 rfl) (part_one Tryd.isAgg9 rfl) (eqr_str Tryd.underlying9) (eqf_cons (by decide) (part_one Tryd.isAgg3 rfl) (part_one Tryd.isAgg3 rfl) (eqr_int Tryd.underlying3) (eqf_cons (by decide) (part_one Tryd.isAgg3 rfl) (part_one Tryd.isAgg3 rfl) (eqr_int Tryd.underlying3) eqf_nil)))))) ?_
   refine rs (vB (v1&&((strEq v12.1.vName v14.vF.vName)&&((v12.1.vType==v14.vF.vType)&&((v12.1.vAt==v14.vF.vAt)&&true))))) (r_pick_and rfl (fun hp=>(gvt (vB ((strEq v12.1.vName v14.vF.vName)&&((v12.1.vType==v14.vF.vType)&&((v12.1.vAt==v14.vF.vAt)&&true)))) (and_i rfl hp) rfl)) rfl) ?_
   refine rs (vB (v1&&((strEq v12.1.vName v14.vF.vName)&&((v12.1.vType==v14.vF.vType)&&((v12.1.vAt==v14.vF.vAt)&&true))))) (r_move rfl) ?_
   refine run_frame (by simp only [sc0,sc1];rfl) ?_
   refine rgs (v1&&((strEq v12.1.vName v14.vF.vName)&&((v12.1.vType==v14.vF.vType)&&((v12.1.vAt==v14.vF.vAt)&&true)))) true (vI v12.2) rfl rfl rfl rfl (fun hg=>(r_move rfl)) ?_
   refine rgs (v1&&((strEq v12.1.vName v14.vF.vName)&&((v12.1.vType==v14.vF.vType)&&((v12.1.vAt==v14.vF.vAt)&&true)))) true (vP b8 3) rfl rfl rfl rfl (fun hg=>(r_fieldBox (n:=1) (o':=3) rfl Tryd.runUnderlying56 rfl Tryd.sizeOf27 (by decide) rfl)) ?_
   refine rgs (v1&&((strEq v12.1.vName v14.vF.vName)&&((v12.1.vType==v14.vF.vType)&&((v12.1.vAt==v14.vF.vAt)&&true)))) true (vI v14.vE) rfl rfl rfl rfl (fun hg=>(r_loadBox (gvt (vP b8 3) hg rfl) Tryd.isAgg27 (HS30.look 1 rfl) rfl)) ?_
   refine rgs (v1&&((strEq v12.1.vName v14.vF.vName)&&((v12.1.vType==v14.vF.vType)&&((v12.1.vAt==v14.vF.vAt)&&true)))) true (vB (v12.2==v14.vE)) rfl rfl rfl rfl (fun hg=>(r_bin (gvt (vI v12.2) hg rfl) (gvt (vI v14.vE) hg rfl) rfl)) ?_
   refine run_frame (by simp only [sc0,sc1];rfl) ?_
   refine rs (vB ((v1&&((strEq v12.1.vName v14.vF.vName)&&((v12.1.vType==v14.vF.vType)&&((v12.1.vAt==v14.vF.vAt)&&true))))&&(v12.2==v14.vE))) (r_pick_and rfl (fun hp=>(gvt (vB (v12.2==v14.vE)) (and_i rfl hp) rfl)) rfl) ?_
   refine rs (vB ((v1&&((strEq v12.1.vName v14.vF.vName)&&((v12.1.vType==v14.vF.vType)&&((v12.1.vAt==v14.vF.vAt)&&true))))&&(v12.2==v14.vE))) (r_move rfl) ?_
   refine rgs ((v1&&((strEq v12.1.vName v14.vF.vName)&&((v12.1.vType==v14.vF.vType)&&((v12.1.vAt==v14.vF.vAt)&&true))))&&(v12.2==v14.vE)) true (vI v13.1) rfl rfl rfl rfl (fun hg=>(r_move rfl)) ?_
   refine rgs ((v1&&((strEq v12.1.vName v14.vF.vName)&&((v12.1.vType==v14.vF.vType)&&((v12.1.vAt==v14.vF.vAt)&&true))))&&(v12.2==v14.vE)) true (vP b9 0) rfl rfl rfl rfl (fun hg=>(r_fieldBox (n:=1) (o':=0) rfl Tryd.runUnderlying59 rfl Tryd.sizeOf3 (by decide) rfl)) ?_
   refine run_frame (by simp only [sc0,sc1];rfl) ?_
   refine rgs ((v1&&((strEq v12.1.vName v14.vF.vName)&&((v12.1.vType==v14.vF.vType)&&((v12.1.vAt==v14.vF.vAt)&&true))))&&(v12.2==v14.vE)) true (vI v15.vType) rfl rfl rfl rfl (fun hg=>(r_loadBox (gvt (vP b9 0) hg rfl) Tryd.isAgg3 (HS30.look 0 rfl) rfl)) ?_
   refine rgs ((v1&&((strEq v12.1.vName v14.vF.vName)&&((v12.1.vType==v14.vF.vType)&&((v12.1.vAt==v14.vF.vAt)&&true))))&&(v12.2==v14.vE)) true (vB (v13.1==v15.vType)) rfl rfl rfl rfl (fun hg=>(r_bin (gvt (vI v13.1) hg rfl) (gvt (vI v15.vType) hg rfl) rfl)) ?_
   refine rs (vB (((v1&&((strEq v12.1.vName v14.vF.vName)&&((v12.1.vType==v14.vF.vType)&&((v12.1.vAt==v14.vF.vAt)&&true))))&&(v12.2==v14.vE))&&(v13.1==v15.vType))) (r_pick_and rfl (fun hp=>(gvt (vB (v13.1==v15.vType)) (and_i rfl hp) rfl)) rfl) ?_
   refine rs (vB (((v1&&((strEq v12.1.vName v14.vF.vName)&&((v12.1.vType==v14.vF.vType)&&((v12.1.vAt==v14.vF.vAt)&&true))))&&(v12.2==v14.vE))&&(v13.1==v15.vType))) (r_move rfl) ?_
   refine run_frame (by simp only [sc0,sc1];rfl) ?_
   refine rgs (((v1&&((strEq v12.1.vName v14.vF.vName)&&((v12.1.vType==v14.vF.vType)&&((v12.1.vAt==v14.vF.vAt)&&true))))&&(v12.2==v14.vE))&&(v13.1==v15.vType)) true (vI v13.2.1) rfl rfl rfl rfl (fun hg=>(r_move rfl)) ?_
   refine rgs (((v1&&((strEq v12.1.vName v14.vF.vName)&&((v12.1.vType==v14.vF.vType)&&((v12.1.vAt==v14.vF.vAt)&&true))))&&(v12.2==v14.vE))&&(v13.1==v15.vType)) true (vP b9 1) rfl rfl rfl rfl (fun hg=>(r_fieldBox (n:=1) (o':=1) rfl Tryd.runUnderlying59 rfl Tryd.sizeOf3 (by decide) rfl)) ?_
   refine rgs (((v1&&((strEq v12.1.vName v14.vF.vName)&&((v12.1.vType==v14.vF.vType)&&((v12.1.vAt==v14.vF.vAt)&&true))))&&(v12.2==v14.vE))&&(v13.1==v15.vType)) true (vI v15.vAt) rfl rfl rfl rfl (fun hg=>(r_loadBox (gvt (vP b9 1) hg rfl) Tryd.isAgg3 (HS30.look 0 rfl) rfl)) ?_
   refine rgs (((v1&&((strEq v12.1.vName v14.vF.vName)&&((v12.1.vType==v14.vF.vType)&&((v12.1.vAt==v14.vF.vAt)&&true))))&&(v12.2==v14.vE))&&(v13.1==v15.vType)) true (vB (v13.2.1==v15.vAt)) rfl rfl rfl rfl (fun hg=>(r_bin (gvt (vI v13.2.1) hg rfl) (gvt (vI v15.vAt) hg rfl) rfl)) ?_
   refine run_frame (by simp only [sc0,sc1];rfl) ?_
   refine rs (vB ((((v1&&((strEq v12.1.vName v14.vF.vName)&&((v12.1.vType==v14.vF.vType)&&((v12.1.vAt==v14.vF.vAt)&&true))))&&(v12.2==v14.vE))&&(v13.1==v15.vType))&&(v13.2.1==v15.vAt))) (r_pick_and rfl (fun hp=>(gvt (vB (v13.2.1==v15.vAt)) (and_i rfl hp) rfl)) rfl) ?_
   refine rs (vB ((((v1&&((strEq v12.1.vName v14.vF.vName)&&((v12.1.vType==v14.vF.vType)&&((v12.1.vAt==v14.vF.vAt)&&true))))&&(v12.2==v14.vE))&&(v13.1==v15.vType))&&(v13.2.1==v15.vAt))) (r_move rfl) ?_
   refine rgs ((((v1&&((strEq v12.1.vName v14.vF.vName)&&((v12.1.vType==v14.vF.vType)&&((v12.1.vAt==v14.vF.vAt)&&true))))&&(v12.2==v14.vE))&&(v13.1==v15.vType))&&(v13.2.1==v15.vAt)) true (vI v13.2.2) rfl rfl rfl rfl (fun hg=>(r_move rfl)) ?_
   refine rgs ((((v1&&((strEq v12.1.vName v14.vF.vName)&&((v12.1.vType==v14.vF.vType)&&((v12.1.vAt==v14.vF.vAt)&&true))))&&(v12.2==v14.vE))&&(v13.1==v15.vType))&&(v13.2.1==v15.vAt)) true (vP b9 2) rfl rfl rfl rfl (fun hg=>(r_fieldBox (n:=1) (o':=2) rfl Tryd.runUnderlying59 rfl Tryd.sizeOf27 (by decide) rfl)) ?_
   refine run_frame (by simp only [sc0,sc1];rfl) ?_
   refine rgs ((((v1&&((strEq v12.1.vName v14.vF.vName)&&((v12.1.vType==v14.vF.vType)&&((v12.1.vAt==v14.vF.vAt)&&true))))&&(v12.2==v14.vE))&&(v13.1==v15.vType))&&(v13.2.1==v15.vAt)) true (vI v15.vE) rfl rfl rfl rfl (fun hg=>(r_loadBox (gvt (vP b9 2) hg rfl) Tryd.isAgg27 (HS30.look 0 rfl) rfl)) ?_
   refine rgs ((((v1&&((strEq v12.1.vName v14.vF.vName)&&((v12.1.vType==v14.vF.vType)&&((v12.1.vAt==v14.vF.vAt)&&true))))&&(v12.2==v14.vE))&&(v13.1==v15.vType))&&(v13.2.1==v15.vAt)) true (vB (v13.2.2==v15.vE)) rfl rfl rfl rfl (fun hg=>(r_bin (gvt (vI v13.2.2) hg rfl) (gvt (vI v15.vE) hg rfl) rfl)) ?_
   refine rs (vB (((((v1&&((strEq v12.1.vName v14.vF.vName)&&((v12.1.vType==v14.vF.vType)&&((v12.1.vAt==v14.vF.vAt)&&true))))&&(v12.2==v14.vE))&&(v13.1==v15.vType))&&(v13.2.1==v15.vAt))&&(v13.2.2==v15.vE))) (r_pick_and rfl (fun hp=>(gvt (vB (v13.2.2==v15.vE)) (and_i rfl hp) rfl)) rfl) ?_
   refine rs (vB (((((v1&&((strEq v12.1.vName v14.vF.vName)&&((v12.1.vType==v14.vF.vType)&&((v12.1.vAt==v14.vF.vAt)&&true))))&&(v12.2==v14.vE))&&(v13.1==v15.vType))&&(v13.2.1==v15.vAt))&&(v13.2.2==v15.vE))) (r_assign rfl) ?_
   try simp only [sc0,sc1]
   refine run_nil ?_
   refine norm_then ?_
   refine wp_ret ?_
   obtain rfl:=Option.some.inj H
   refine bodyPost_ret (results_1 rfl (one_tmp rfl)) rfl ?_
   exact ⟨rfl,HS30.toE⟩

end Go.Proofs.YtfjppgobidjndaaDoor
namespace Go.Proofs.YtfjppgobidjndaaDoor
open Go.RowKit Go.M
theorem byteAt_rd (s:ByteArray) (i:Int):byteAt s i=rd 0 (bytesOf s) i:=by
  unfold byteAt rd bytesOf
  rw [List.getD_eq_getElem?_getD,List.getD_eq_getElem?_getD,List.getElem?_map]
  cases s.data.toList[i.toNat]?<;>rfl
theorem rname_loop {s:ByteArray} (hl:s.size≤9223372036854775807):∀(d j m:Nat),j+d=s.size→d<m→
    taplineref08_Name.l0 s m (j:Int)=some (if okFrom j ((bytesOf s).drop j)=true then .inr () else .inl false):=by
  have hb:=bytesOf_length s
  intro d
  induction d with
  |zero=>
    intro j m hj hm
    obtain ⟨m,rfl⟩:∃q,m=q+1:=⟨m-1,by omega⟩
    rw [taplineref08_Name.l0,if_neg (by simp;omega),List.drop_eq_nil_of_le (by omega)]
    rfl
  |succ d ih=>
    intro j m hj hm
    obtain ⟨m,rfl⟩:∃q,m=q+1:=⟨m-1,by omega⟩
    have hlt:j<s.size:=by omega
    have h1:=name_loop (s:=s) (by omega) (d+1) j (m+1) (by omega) (by omega)
    rw [ctf_isName.l0,if_pos (by simp;omega),if_pos (by omega)] at h1
    rw [taplineref08_Name.l0,if_pos (by simp;omega),if_pos (by omega),byteAt_rd]
    rw [←h1]
    split
    · rfl
    · rw [wrap_nat hlt hl,ih (j+1) m (by omega) (by omega),name_loop (by omega) d (j+1) m (by omega) (by omega)]
theorem empty_iff (s:ByteArray):strEq s ByteArray.empty=decide (s.size=0):=by
  by_cases h:s.size=0
  · have:s=ByteArray.empty:=by
      cases s with|mk d=>
      have:d=#[]:=Array.size_eq_zero_iff.1 h
      subst this;rfl
    rw [decide_eq_true h];exact strEq_iff.2 this
  · rw [decide_eq_false h]
    cases hs:strEq s ByteArray.empty with
    |false=>rfl
    |true=>exact absurd (by rw [strEq_iff.1 hs];rfl) h
theorem rname_ev {s:ByteArray} (hs:s.size≤9223372036854775807):Ev (fun k=>taplineref08_Name.f k s) (nameS s):=by
  refine ⟨s.size+1,fun k hk=>?_⟩
  show taplineref08_Name.f k s=_
  unfold taplineref08_Name.f nameS
  rw [empty_iff]
  by_cases h0:s.size=0
  · rw [if_pos (by simp [h0])];simp [h0]
  · by_cases h1:(s.size:Int)≤31
    · rw [if_neg (by simp only [Bool.or_eq_true,beq_iff_eq,decide_eq_true_eq];omega),show (0:Int)=((0:Nat):Int) from rfl,rname_loop hs s.size 0 k (by omega) (by omega),List.drop_zero]
      cases okFrom 0 (bytesOf s)<;>simp [h0,h1]
    · rw [if_pos (by simp only [Bool.or_eq_true,beq_iff_eq,decide_eq_true_eq];omega)];simp [h1]
def namesS:List ByteArray→List api_Field→Bool
  |_,[]=>true
  |ns,f::r=>nameS f.vName&& !(ns.any (strEq f.vName))&&namesS (f.vName::ns) r
theorem fieldsS_eq (d:api_Def) (n:Int):∀(l:List api_Field) (ns:List ByteArray),fieldsS d n ns l=(namesS ns l&&l.all (fieldOk d n))
  |[],ns=>rfl
  |f::r,ns=>by
    simp only [fieldsS,namesS,fieldsS_eq d n r,List.all_cons]
    cases nameS f.vName<;>cases (ns.any (strEq f.vName))<;>cases (fieldOk d n f)<;>cases (namesS (f.vName::ns) r)<;>rfl
theorem seen_loop {l:List api_Field} (hl:l.length≤9223372036854775807) {i:Nat} (hi:i<l.length):∀(e j m:Nat),j+e=i→e<m→
    taplineref08_fields.l1 l (i:Int) m (j:Int)=some (if (((l.take i).drop j).any fun f=>strEq f.vName (l.getD i z_api_Field).vName)=true then .inl false else .inr ()):=by
  intro e
  induction e with
  |zero=>
    intro j m hj hm
    obtain ⟨m,rfl⟩:∃q,m=q+1:=⟨m-1,by omega⟩
    rw [taplineref08_fields.l1,if_neg (by simp;omega),List.drop_eq_nil_of_le (by simp;omega)]
    rfl
  |succ e ih=>
    intro j m hj hm
    obtain ⟨m,rfl⟩:∃q,m=q+1:=⟨m-1,by omega⟩
    have hlt:j<l.length:=by omega
    have hd:(l.take i).drop j=l.getD j z_api_Field::(l.take i).drop (j+1):=by
      rw [drop_getD z_api_Field (by simp;omega)]
      congr 1
      rw [List.getD_eq_getElem?_getD,List.getD_eq_getElem?_getD,List.getElem?_take,if_pos (by omega)]
    rw [taplineref08_fields.l1,if_pos (by simp;omega),if_pos (by omega),if_pos (by omega),rd_nat,rd_nat,hd,List.any_cons]
    by_cases h:strEq (l.getD j z_api_Field).vName (l.getD i z_api_Field).vName=true
    · rw [if_pos h,h];rfl
    · rw [if_neg h,wrap_nat hlt hl,ih (j+1) m (by omega) (by omega)]
      rw [Bool.not_eq_true] at h
      rw [h,Bool.false_or]
theorem any_rev (l:List api_Field) (s:ByteArray):((l.map (·.vName)).reverse.any (strEq s))=l.any fun f=>strEq f.vName s:=by
  rw [List.any_reverse,List.any_map]
  congr 1
  funext f
  exact strEq_comm _ _
theorem fields_loop {l:List api_Field} (hl:l.length≤9223372036854775807) (hz:∀f∈l,f.vName.size≤9223372036854775807):∀(e j:Nat),j+e=l.length→
    Ev2 (fun k m=>taplineref08_fields.l0 k l m (j:Int)) (if namesS ((l.take j).map (·.vName)).reverse (l.drop j)=true then .inr () else .inl false):=by
  intro e
  induction e with
  |zero=>
    intro j hj
    refine Ev2.pure fun k m=>?_
    rw [taplineref08_fields.l0,if_neg (by simp;omega),List.drop_eq_nil_of_le (by omega)]
    rfl
  |succ e ih=>
    intro j hj
    have hlt:j<l.length:=by omega
    have hmem:=getD_mem (z:=z_api_Field) hlt
    have h1:=rname_ev (hz _ hmem)
    have h2:=ih (j+1) (by omega)
    have ht:((l.take (j+1)).map (·.vName)).reverse=(l.getD j z_api_Field).vName::((l.take j).map (·.vName)).reverse:=by
      rw [List.take_add_one,List.map_append,List.reverse_append]
      rw [List.getD_eq_getElem?_getD,List.getElem?_eq_getElem hlt]
      rfl
    rw [ht] at h2
    rw [drop_getD z_api_Field hlt,namesS]
    refine Ev2.step h1 (r:=fun k m v1=>if (!v1)=true then (some (.inl false)) else ((taplineref08_fields.l1 l (j:Int) k 0).bind fun xx2=>(match xx2 with| .inl r=>some (.inl r)| .inr s1=>taplineref08_fields.l0 k l m ((j+1:Nat):Int)))) ?_ (fun k m=>?_)
    · rcases Bool.eq_false_or_eq_true (nameS (l.getD j z_api_Field).vName) with hn|hn
      · obtain ⟨K,hK⟩:=h2
        rw [hn]
        refine ⟨max K (j+1),fun k m hk hm=>?_⟩
        have h3:=seen_loop hl hlt j 0 k (by omega) (by omega)
        rw [List.drop_zero] at h3
        simp only [Bool.not_true,Bool.false_eq_true,if_false,Bool.true_and]
        rw [show taplineref08_fields.l1 l (j:Int) k 0=_ from h3,any_rev]
        cases ha:(l.take j).any fun f=>strEq f.vName (l.getD j z_api_Field).vName with
        |true=>simp
        |false=>simpa using hK k m (by omega) (by omega)
      · exact ⟨0,fun k m _ _=>by rw [hn];rfl⟩
    · rw [taplineref08_fields.l0,if_pos (by simp;omega),if_pos (by omega),rd_nat,wrap_nat hlt hl]
      try rfl
theorem fields_ev {l:List api_Field} (hl:l.length≤9223372036854775807) (hz:∀f∈l,f.vName.size≤9223372036854775807):
    Ev (fun k=>taplineref08_fields.f k l) (decide (0<l.length)&&decide (l.length≤32)&&namesS [] l):=by
  by_cases h:l.length=0∨32<l.length
  · refine Ev.pure fun k=>?_
    unfold taplineref08_fields.f
    rw [if_pos (by simp only [Bool.or_eq_true,beq_iff_eq,decide_eq_true_eq];omega)]
    rcases h with h|h
    · simp [h]
    · rw [decide_eq_false (p:=l.length≤32) (by omega)];simp
  · obtain ⟨K,hK⟩:=(fields_loop hl hz l.length 0 (by omega)).diag
    refine ⟨K,fun k hk=>?_⟩
    show taplineref08_fields.f k l=_
    unfold taplineref08_fields.f
    rw [if_neg (by simp only [Bool.or_eq_true,beq_iff_eq,decide_eq_true_eq];omega),show taplineref08_fields.l0 k l k 0=_ from hK k hk,decide_eq_true (p:=0<l.length) (by omega),decide_eq_true (p:=l.length≤32) (by omega)]
    simp only [List.take_zero,List.map_nil,List.reverse_nil,List.drop_zero]
    cases namesS [] l<;>rfl
theorem rshaped_loop {t:api_Types} {d:api_Def} (hl:d.vFields.length≤9223372036854775807):∀(e j m:Nat),j+e=d.vFields.length→e<m→
    taplineref08_shaped.l0 t d m (j:Int)=some (if (d.vFields.drop j).all (fieldOk d (t.vDefs.length:Int))=true then .inr () else .inl false):=by
  intro e
  induction e with
  |zero=>
    intro j m hj hm
    obtain ⟨m,rfl⟩:∃q,m=q+1:=⟨m-1,by omega⟩
    rw [taplineref08_shaped.l0,if_neg (by simp;omega),List.drop_eq_nil_of_le (by omega)]
    rfl
  |succ e ih=>
    intro j m hj hm
    obtain ⟨m,rfl⟩:∃q,m=q+1:=⟨m-1,by omega⟩
    have hlt:j<d.vFields.length:=by omega
    rw [taplineref08_shaped.l0,if_pos (by simp;omega),if_pos (by omega),rd_nat,drop_getD z_api_Field hlt,wrap_nat hlt hl,ih (j+1) m (by omega) (by omega),List.all_cons]
    generalize d.vFields.getD j z_api_Field=f
    unfold fieldOk taplineref08_Index.f
    by_cases h4:d.vKind=4
    · have h5:(d.vKind==5)=false:=by simp [h4]
      by_cases ha:f.vType<0
      · simp [h4,h5,ha]
        intro h;omega
      · by_cases hb:f.vType<(t.vDefs.length:Int)
        · have h0:(0:Int)≤f.vType:=by omega
          have h1:¬((t.vDefs.length:Int)≤f.vType):=by omega
          simp [h4,h5,ha,hb,h0,h1]
        · have h1:(t.vDefs.length:Int)≤f.vType:=by omega
          simp [h4,h5,ha,hb,h1]
    · by_cases h5:d.vKind=5
      · cases hx:((f.vType !=0)||(decide (f.vAt<(-2147483648))))||(decide (f.vAt>2147483647))<;>simp [h5,hx]
      · simp [h4,h5]
theorem all_fields_free {d:api_Def} {n:Int} (h4:d.vKind≠4) (h5:d.vKind≠5) (l:List api_Field):l.all (fieldOk d n)=true:=by
  rw [List.all_eq_true]
  intro f _
  unfold fieldOk
  simp [h4,h5]
theorem rshaped_ev {t:api_Types} {d:api_Def} (hl:d.vFields.length≤9223372036854775807) (hz:∀f∈d.vFields,f.vName.size≤9223372036854775807) (hz0:d.vName.size≤9223372036854775807):
    Ev (fun k=>taplineref08_shaped.f k t d) (shapedS d (t.vDefs.length:Int)):=by
  obtain ⟨Kn,hKn⟩:=rname_ev hz0
  obtain ⟨Kf,hKf⟩:=fields_ev hl hz
  have hw:strEq d.vName ByteArray.empty=true→nameS d.vName=false:=by
    intro h;unfold nameS;rw [h];simp
  refine ⟨max (max Kn Kf) (d.vFields.length+1),fun k hk=>?_⟩
  show taplineref08_shaped.f k t d=_
  have h1:=hKn k (by omega)
  have h2:=hKf k (by omega)
  have h3:=rshaped_loop (t:=t) (d:=d) hl d.vFields.length 0 k (by omega) (by omega)
  rw [List.drop_zero] at h3
  unfold taplineref08_shaped.f taplineref08_unused.f taplineref08_Named.f taplineref08_Index.f shapedS shp
  simp only [h1,h2,show taplineref08_shaped.l0 t d k 0=_ from h3,fieldsS_eq]
  have hlen:∀n:Nat,((n:Int)==0)=decide (n=0):=by intro n;by_cases h:n=0<;>simp [h]
  have hpos:∀n:Nat,decide (0<n)= !decide (n=0):=by intro n;by_cases h:n=0<;>simp [h];omega
  rw [hlen,hpos]
  have hnil:decide (d.vFields.length=0)=true→namesS [] d.vFields=true:=by
    intro h
    have:d.vFields=[]:=List.length_eq_zero_iff.1 (of_decide_eq_true h)
    rw [this];rfl
  have hz32:decide (d.vFields.length=0)=true→decide (d.vFields.length≤32)=true:=by
    intro h
    exact decide_eq_true (by have:=of_decide_eq_true h;omega)
  have h55:∀x:Int,(x==0)=decide (x=0):=by intro x;by_cases h:x=0<;>simp [h]
  have hcase:d.vKind<1∨d.vKind>6∨d.vKind=1∨d.vKind=2∨d.vKind=3∨d.vKind=4∨d.vKind=5∨d.vKind=6:=by omega
  have hall:=fun a b=>all_fields_free (d:=d) (n:=(t.vDefs.length:Int)) a b d.vFields
  generalize d.vFields.all (fieldOk d (t.vDefs.length:Int))=F at*
  generalize nameS d.vName=A at*
  generalize strEq d.vName ByteArray.empty=B at*
  generalize decide (d.vFields.length=0)=C at*
  generalize decide (d.vFields.length≤32)=D at*
  generalize namesS [] d.vFields=E at*
  generalize d.vKind=K at*
  generalize d.vInt=I at*
  generalize d.vN=N at*
  generalize d.vRef=R at*
  clear h1 h2 h3 hKn hKf hl hz hz0
  have hI:(I.vSigned==false)= !I.vSigned:=by cases I.vSigned<;>rfl
  have hge:decide (R≥0)=decide (0≤R):=rfl
  have hgN:decide (N≥1)=decide (1≤N):=rfl
  rcases hcase with h|h|rfl|rfl|rfl|rfl|rfl|rfl
  · simp only [show¬K=1 from by omega,show¬K=2 from by omega,show¬K=3 from by omega,show¬K=4 from by omega,show¬K=5 from by omega,show¬K=6 from by omega,if_false,decide_eq_true h]
    simp
  · simp only [show¬K=1 from by omega,show¬K=2 from by omega,show¬K=3 from by omega,show¬K=4 from by omega,show¬K=5 from by omega,show¬K=6 from by omega,if_false,decide_eq_true h]
    simp
  · rw [hall (by omega) (by omega)]
    simp only [okI,hI,hge,hgN,Int.reduceBEq,Int.reduceBNe,Int.reduceLT,Int.reduceGT,Int.reduceEq,bne,eq_self,Bool.false_eq_true,Bool.not_true,Bool.not_false,Bool.true_and,Bool.false_and,Bool.and_true,Bool.and_false,Bool.or_self,Bool.or_false,Bool.false_or,Bool.true_or,Option.bind_some,if_true,if_false,decide_true,decide_false]
    generalize (I.vSize==1||I.vSize==2||I.vSize==4||I.vSize==8)=a at*
    generalize (I.vSize==0)=a0 at*
    generalize I.vSigned=b at*
    generalize (R==0)=r at*
    generalize (N==0)=n at*
    revert hw hz32 hnil
    clear hall hlen hpos h55 hI hge hgN
    clear a0 b
    revert A B C D E a r n
    decide
  · rw [hall (by omega) (by omega)]
    simp only [okI,hI,hge,hgN,Int.reduceBEq,Int.reduceBNe,Int.reduceLT,Int.reduceGT,Int.reduceEq,bne,eq_self,Bool.false_eq_true,Bool.not_true,Bool.not_false,Bool.true_and,Bool.false_and,Bool.and_true,Bool.and_false,Bool.or_self,Bool.or_false,Bool.false_or,Bool.true_or,Option.bind_some,if_true,if_false,decide_true,decide_false]
    generalize (I.vSize==0)=a at*
    generalize I.vSigned=b at*
    generalize decide (0≤R)=r at*
    generalize decide (R<(t.vDefs.length:Int))=r2 at*
    generalize (N==0)=n at*
    revert hw hz32 hnil
    clear hall hlen hpos h55 hI hge hgN
    revert A B C D E a b r r2 n
    decide
  · rw [hall (by omega) (by omega)]
    simp only [okI,hI,hge,hgN,Int.reduceBEq,Int.reduceBNe,Int.reduceLT,Int.reduceGT,Int.reduceEq,bne,eq_self,Bool.false_eq_true,Bool.not_true,Bool.not_false,Bool.true_and,Bool.false_and,Bool.and_true,Bool.and_false,Bool.or_self,Bool.or_false,Bool.false_or,Bool.true_or,Option.bind_some,if_true,if_false,decide_true,decide_false]
    generalize (I.vSize==0)=a at*
    generalize I.vSigned=b at*
    generalize decide (0≤R)=r at*
    generalize decide (R<(t.vDefs.length:Int))=r2 at*
    generalize decide (1≤N)=n at*
    generalize decide (N≤512)=n2 at*
    revert hw hz32 hnil
    clear hall hlen hpos h55 hI hge hgN
    revert A B C D E a b r r2 n n2
    decide
  · simp only [okI,hI,hge,hgN,Int.reduceBEq,Int.reduceBNe,Int.reduceLT,Int.reduceGT,Int.reduceEq,bne,eq_self,Bool.false_eq_true,Bool.not_true,Bool.not_false,Bool.true_and,Bool.false_and,Bool.and_true,Bool.and_false,Bool.or_self,Bool.or_false,Bool.false_or,Bool.true_or,Option.bind_some,if_true,if_false,decide_true,decide_false]
    generalize (I.vSize==0)=a at*
    generalize I.vSigned=b at*
    generalize (R==0)=r at*
    generalize decide (1≤N)=n at*
    generalize decide (N≤512)=n2 at*
    revert hw hz32 hnil
    clear hall hlen hpos h55 hI hge hgN
    revert A B C D E F a b r n n2
    decide
  · simp only [okI,hI,hge,hgN,Int.reduceBEq,Int.reduceBNe,Int.reduceLT,Int.reduceGT,Int.reduceEq,bne,eq_self,Bool.false_eq_true,Bool.not_true,Bool.not_false,Bool.true_and,Bool.false_and,Bool.and_true,Bool.and_false,Bool.or_self,Bool.or_false,Bool.false_or,Bool.true_or,Option.bind_some,if_true,if_false,decide_true,decide_false]
    generalize (I.vSize==0)=a at*
    generalize I.vSigned=b at*
    generalize (R==0)=r at*
    generalize (N==0)=n at*
    generalize decide (1≤N)=n1 at*
    generalize decide (N≤512)=n2 at*
    revert hw hz32 hnil
    clear hall hlen hpos h55 hI hge hgN
    clear n1 n2
    revert A B C D E F a b r n
    decide
  · rw [hall (by omega) (by omega)]
    simp only [okI,hI,hge,hgN,Int.reduceBEq,Int.reduceBNe,Int.reduceLT,Int.reduceGT,Int.reduceEq,bne,eq_self,Bool.false_eq_true,Bool.not_true,Bool.not_false,Bool.true_and,Bool.false_and,Bool.and_true,Bool.and_false,Bool.or_self,Bool.or_false,Bool.false_or,Bool.true_or,Option.bind_some,if_true,if_false,decide_true,decide_false]
    generalize (I.vSize==0)=a at*
    generalize I.vSigned=b at*
    generalize decide (0≤R)=r at*
    generalize decide (R<(t.vDefs.length:Int))=r2 at*
    generalize (N==0)=n at*
    revert hw hz32 hnil
    clear hall hlen hpos h55 hI hge hgN
    revert A B C D E a b r r2 n
    decide
end Go.Proofs.YtfjppgobidjndaaDoor
namespace Go.Proofs.YtfjppgobidjndaaDoor
open Go.RowKit Go.M
structure GoodSz (defs:List api_Def) (g:List Int):Prop where
  len:g.length=defs.length
  ex:∃rk:Nat→Nat,∀j,j<defs.length→0<g.getD j 0∧g.getD j 0≤512∧(∀c∈cont (defs.getD j z_api_Def),rk c.toNat<rk j)∧g.getD j 0=nval (defs.getD j z_api_Def) (inner g (defs.getD j z_api_Def))
theorem GoodT.good {t:api_Types} {l:List Int} (G:GoodT t l):GoodSz t.vDefs l:=by
  refine ⟨G.len,?_⟩
  obtain ⟨rk,B,h⟩:=G.jn
  exact ⟨rk,fun j hj=>by
    obtain ⟨h1,h2,h3,h4⟩:=h j hj (G.pos j hj)
    exact ⟨G.pos j hj,h2,fun c hc=>(h3 c hc).2,h4⟩⟩
section
variable {defs:List api_Def} {g:List Int} {rk:Nat→Nat}
structure Mid (defs:List api_Def) (g:List Int) (out:List Int) (bg:List Bool) (out':List Int) (bg':List Bool):Prop where
  lo:out'.length=defs.length
  lb:bg'.length=defs.length
  val:∀j,j<defs.length→out'.getD j 0=0∨out'.getD j 0=g.getD j 0
  keep:∀j,0<out.getD j 0→out'.getD j 0=out.getD j 0
  stk:∀j,bg'.getD j false=true→out'.getD j 0=0→bg.getD j false=true∧out.getD j 0=0
theorem Mid.trans {o1 o2 o3:List Int} {b1 b2 b3:List Bool} (h:Mid defs g o1 b1 o2 b2) (k:Mid defs g o2 b2 o3 b3):Mid defs g o1 b1 o3 b3:=
  ⟨k.lo,k.lb,k.val,fun j hj=>by rw [k.keep j (by rw [h.keep j hj];exact hj),h.keep j hj],fun j hb ho=>by
    obtain ⟨h1,h2⟩:=k.stk j hb ho
    exact h.stk j h1 h2⟩
def CallG (defs:List api_Def) (g:List Int) (i:Nat) (out:List Int) (bg:List Bool):Prop:=∃out' bg',Ev (fun k=>ctf_sizes_1.f k (i:Int) out true bg defs) (g.getD i 0,out',true,bg')∧Mid defs g out bg out' bg'∧out'.getD i 0=g.getD i 0
theorem good_loop {R:Nat} (v1:List Int) (hv:∀c∈v1,0≤c∧c<(defs.length:Int)) (hvl:v1.length≤9223372036854775807) (hr:∀c∈v1,rk c.toNat<R)
    (hc:∀(i:Nat) (out:List Int) (bg:List Bool),i<defs.length→rk i<R→out.length=defs.length→bg.length=defs.length→(∀j,j<defs.length→out.getD j 0=0∨out.getD j 0=g.getD j 0)→(∀j,bg.getD j false=true→out.getD j 0=0→rk i<rk j)→CallG defs g i out bg):
    ∀(e j:Nat) (inn:Int) (out:List Int) (bg:List Bool),j+e=v1.length→out.length=defs.length→bg.length=defs.length→(∀j,j<defs.length→out.getD j 0=0∨out.getD j 0=g.getD j 0)→(∀j,bg.getD j false=true→out.getD j 0=0→R≤rk j)→
    ∃out' bg',(∃K,∀k m,K≤k→K≤m→ctf_sizes_1.l0 (ctf_sizes_1.f k) defs v1 m inn (j:Int) true out bg=some ((v1.drop j).foldl (fun _ c=>g.getD c.toNat 0) inn,true,out',bg'))∧Mid defs g out bg out' bg':=by
  intro e
  induction e with
  |zero=>
    intro j inn out bg hj h1 h2 h3 h4
    refine ⟨out,bg,⟨1,fun k m _ hm=>?_⟩,h1,h2,h3,fun _ _=>rfl,fun j a b=>⟨a,b⟩⟩
    obtain ⟨m,rfl⟩:∃q,m=q+1:=⟨m-1,by omega⟩
    rw [ctf_sizes_1.l0,if_neg (by simp;omega),List.drop_eq_nil_of_le (by omega)]
    rfl
  |succ e ih=>
    intro j inn out bg hj h1 h2 h3 h4
    have hlt:j<v1.length:=by omega
    have hmem:=getD_mem (z:=0) hlt
    have hm:=hv _ hmem
    obtain ⟨i,hi⟩:∃i:Nat,v1.getD j 0=(i:Int):=⟨(v1.getD j 0).toNat,by omega⟩
    have hri:rk i<R:=by have:=hr _ hmem;rw [hi] at this;exact this
    obtain ⟨o1,b1,⟨K1,hK1⟩,hM1,hv1⟩:=hc i out bg (by omega) hri h1 h2 h3 (fun q a b=>by have:=h4 q a b;omega)
    obtain ⟨o2,b2,⟨K2,hK2⟩,hM2⟩:=ih (j+1) (g.getD i 0) o1 b1 (by omega) hM1.lo hM1.lb hM1.val (fun q a b=>by
      obtain ⟨x,y⟩:=hM1.stk q a b
      exact h4 q x y)
    refine ⟨o2,b2,⟨max K1 K2+1,fun k m hk hm'=>?_⟩,hM1.trans hM2⟩
    obtain ⟨m,rfl⟩:∃q,m=q+1:=⟨m-1,by omega⟩
    rw [ctf_sizes_1.l0,if_pos (by simp;omega),if_pos (by omega),rd_nat,hi,show ctf_sizes_1.f k _ _ _ _ _=_ from hK1 k (by omega)]
    simp only [Option.bind_some]
    rw [wrap_nat hlt hvl,drop_getD 0 hlt,hi]
    exact hK2 k m (by omega) (by omega)
theorem cont_few {d:api_Def} {n:Nat} (hd:ShD d n):(cont d).length≤9223372036854775807:=by
  have:=hd.few
  unfold cont
  split
  · simp
  · split
    · rw [List.length_map];omega
    · simp
theorem good_call (hS:∀d∈defs,ShD d defs.length) (hg:∀j,j<defs.length→0<g.getD j 0∧g.getD j 0≤512∧(∀c∈cont (defs.getD j z_api_Def),rk c.toNat<rk j)∧g.getD j 0=nval (defs.getD j z_api_Def) (inner g (defs.getD j z_api_Def))):
    ∀(R i:Nat) (out:List Int) (bg:List Bool),rk i=R→i<defs.length→out.length=defs.length→bg.length=defs.length→(∀j,j<defs.length→out.getD j 0=0∨out.getD j 0=g.getD j 0)→(∀j,bg.getD j false=true→out.getD j 0=0→rk i<rk j)→CallG defs g i out bg:=by
  intro R
  induction R using Nat.strongRecOn with
  |_ R ihR=>
    intro i out bg hR hi h1 h2 h3 h4
    obtain ⟨g1,g2,g3,g4⟩:=hg i hi
    rcases h3 i hi with h0|h0
    · have hb:bg.getD i false=false:=by
        cases hb:bg.getD i false with
        |false=>rfl
        |true=>exact absurd (h4 i hb h0) (by omega)
      have hd:=hS _ (getD_mem (z:=z_api_Def) hi)
      obtain ⟨Kc,hKc⟩:=contained_ev (d:=defs.getD i z_api_Def) (by have:=hd.few;omega)
      obtain ⟨o1,b1,⟨K1,hK1⟩,hM⟩:=good_loop (defs:=defs) (g:=g) (rk:=rk) (R:=R) (cont (defs.getD i z_api_Def)) (cont_range hd) (cont_few hd) (fun c hc=>by have:=g3 c hc;omega)
        (fun i' o b a1 a2 a3 a4 a5 a6=>ihR (rk i') a2 i' o b rfl a1 a3 a4 a5 a6) (cont (defs.getD i z_api_Def)).length 0 0 out (bg.set i true) (by omega) h1 (by simpa using h2) h3 (fun j a b=>by
          rw [getD_set (by omega)] at a
          split at a
          · next e=>subst e;omega
          · have:=h4 j a b;omega)
      rw [List.drop_zero] at hK1
      have hset:∀j,(o1.set i (g.getD i 0)).getD j 0=if i=j then g.getD i 0 else o1.getD j 0:=fun j=>getD_set (by rw [hM.lo];exact hi)
      refine ⟨o1.set i (g.getD i 0),b1,⟨max Kc K1+1,fun k hk=>?_⟩,⟨by simp [hM.lo],hM.lb,fun j hj=>?_,fun j hj=>?_,fun j hb' ho=>?_⟩,by rw [hset,if_pos rfl]⟩
      · obtain ⟨k,rfl⟩:∃q,k=q+1:=⟨k-1,by omega⟩
        show ctf_sizes_1.f (k+1) _ _ _ _ _=_
        rw [ctf_sizes_1.f,if_pos (by omega),rd_nat,if_neg (by simp only [Bool.not_true,Bool.or_false,decide_eq_true_eq];omega),if_pos (by omega),rd_nat,if_neg (by rw [hb];simp),if_pos (by omega),if_pos (by omega),rd_nat,show ctf_contained.f k _=_ from hKc k (by omega)]
        simp only [Option.bind_some,Int.toNat_natCast]
        rw [show ctf_sizes_1.l0 (ctf_sizes_1.f k) defs _ k 0 0 true out _=_ from hK1 k k (by omega) (by omega)]
        simp only [Option.bind_some]
        rw [if_pos (by rw [hM.lo];omega)]
        simp only [nval_eq]
        rw [show nval (defs.getD i z_api_Def) (List.foldl (fun x c=>g.getD c.toNat 0) 0 (cont (defs.getD i z_api_Def)))=g.getD i 0 from g4.symm,decide_eq_true g2]
        rfl
      · rw [hset]
        split
        · next e=>subst e;exact .inr rfl
        · exact hM.val j hj
      · rw [hset,if_neg (fun e=>by subst e;omega)]
        exact hM.keep j hj
      · rw [hset] at ho
        split at ho
        · omega
        · next hne=>
          obtain ⟨x,y⟩:=hM.stk j hb' ho
          rw [getD_set (by omega),if_neg hne] at x
          exact ⟨x,y⟩
    · refine ⟨out,bg,⟨1,fun k hk=>?_⟩,⟨h1,h2,h3,fun _ _=>rfl,fun j a b=>⟨a,b⟩⟩,h0⟩
      obtain ⟨k,rfl⟩:∃q,k=q+1:=⟨k-1,by omega⟩
      show ctf_sizes_1.f (k+1) _ _ _ _ _=_
      rw [ctf_sizes_1.f,if_pos (by omega),rd_nat,if_pos (by simp only [Bool.or_eq_true,decide_eq_true_eq];exact .inl (by omega)),if_pos (by omega),h0]
end
theorem list_ext {g h:List Int} (hl:g.length=h.length) (he:∀j,j<g.length→g.getD j 0=h.getD j 0):g=h:=by
  apply List.ext_getElem hl
  intro j h1 h2
  have:=he j h1
  rw [List.getD_eq_getElem?_getD,List.getD_eq_getElem?_getD,List.getElem?_eq_getElem h1,List.getElem?_eq_getElem h2] at this
  exact this
theorem good_all {t:api_Types} {g:List Int} {rk:Nat→Nat} (hS:∀d∈t.vDefs,ShD d t.vDefs.length) (hn:t.vDefs.length≤9223372036854775807)
    (hg:∀j,j<t.vDefs.length→0<g.getD j 0∧g.getD j 0≤512∧(∀c∈cont (t.vDefs.getD j z_api_Def),rk c.toNat<rk j)∧g.getD j 0=nval (t.vDefs.getD j z_api_Def) (inner g (t.vDefs.getD j z_api_Def))):
    ∀(e j:Nat) (bg:List Bool) (out:List Int),j+e=t.vDefs.length→out.length=t.vDefs.length→bg.length=t.vDefs.length→(∀q,q<t.vDefs.length→out.getD q 0=0∨out.getD q 0=g.getD q 0)→(∀q,bg.getD q false=true→out.getD q 0=0→False)→(∀q,q<j→out.getD q 0=g.getD q 0)→
    ∃bg' out',Ev2 (fun k m=>ctf_sizes.l0 k t m (j:Int) true bg out) (true,bg',out')∧out'.length=t.vDefs.length∧∀q,q<t.vDefs.length→out'.getD q 0=g.getD q 0:=by
  intro e
  induction e with
  |zero=>
    intro j bg out hj h1 h2 h3 h4 h5
    refine ⟨bg,out,Ev2.pure (fun k m=>?_),h1,fun q hq=>h5 q (by omega)⟩
    rw [ctf_sizes.l0,if_neg (by simp;omega)]
  |succ e ih=>
    intro j bg out hj h1 h2 h3 h4 h5
    have hlt:j<t.vDefs.length:=by omega
    obtain ⟨o1,b1,hE,hM,hv⟩:=good_call hS hg (rk j) j out bg rfl hlt h1 h2 h3 (fun q a b=>(h4 q a b).elim)
    obtain ⟨bg',out',hE2,h6,h7⟩:=ih (j+1) b1 o1 (by omega) hM.lo hM.lb hM.val (fun q a b=>by
      obtain ⟨x,y⟩:=hM.stk q a b
      exact h4 q x y) (fun q hq=>by
      by_cases hqj:q=j
      · subst hqj;exact hv
      · have h8:=h5 q (by omega)
        have h9:=(hg q (by omega)).1
        rw [hM.keep q (by omega),h8])
    refine ⟨bg',out',Ev2.step hE (r:=fun k m (v1:Int×List Int×Bool×List Bool)=>ctf_sizes.l0 k t m (IntKind.wrap .i64 ((j:Int)+1)) v1.2.2.1 v1.2.2.2 v1.2.1) ?_ (fun k m=>?_),h6,h7⟩
    · simp only
      rw [wrap_nat hlt hn]
      exact hE2
    · rw [ctf_sizes.l0,if_pos (by simp;omega)]
theorem sizes_good {t:api_Types} {g:List Int} (hS:∀d∈t.vDefs,ShD d t.vDefs.length) (hn:t.vDefs.length≤200) (G:GoodSz t.vDefs g):Ev (fun k=>ctf_sizes.f k t) (g,true):=by
  obtain ⟨rk,hg⟩:=G.ex
  have hrep:∀(n q:Nat),(List.replicate n (0:Int)).getD q 0=0:=fun n q=>by
    rw [List.getD_eq_getElem?_getD,List.getElem?_replicate]
    split<;>rfl
  have hrepb:∀(n q:Nat),(List.replicate n false).getD q false=false:=fun n q=>by
    rw [List.getD_eq_getElem?_getD,List.getElem?_replicate]
    split<;>rfl
  obtain ⟨bg,out,hE,h1,h2⟩:=good_all hS (by omega) hg t.vDefs.length 0 (List.replicate t.vDefs.length false) (List.replicate t.vDefs.length 0) (by omega) (by simp) (by simp) (fun q _=> .inl (hrep _ _)) (fun q a _=>by rw [hrepb] at a;cases a) (fun q hq=>by omega)
  have hog:out=g:=list_ext (by rw [h1,G.len]) (fun j hj=>h2 j (by omega))
  subst hog
  obtain ⟨K,hK⟩:=hE.diag
  refine ⟨K,fun k hk=>?_⟩
  show ctf_sizes.f k t=_
  unfold ctf_sizes.f
  rw [if_pos (by omega),if_pos (by omega)]
  simp only [Int.toNat_natCast]
  rw [show ctf_sizes.l0 k t k 0 true _ _=_ from hK k hk]
  rfl
end Go.Proofs.YtfjppgobidjndaaDoor
namespace Go.Proofs.YtfjppgobidjndaaDoor
open Go.RowKit Go.M
def rsizeS (d:api_Def) (known:List Int):Int:=if d.vKind=4∧(d.vFields.any fun f=>rd 0 known f.vType==0)=true then 0 else nval d (inner known d)
theorem rsize_loop {d:api_Def} {known:List Int} (hl:d.vFields.length≤9223372036854775807) (ht:∀f∈d.vFields,0≤f.vType∧f.vType<known.length):∀(e j m:Nat),j+e=d.vFields.length→e<m→
    taplineref08_size.l0 d known m (j:Int)=some (if ((d.vFields.drop j).any fun f=>rd 0 known f.vType==0)=true then .inl 0 else .inr ()):=by
  intro e
  induction e with
  |zero=>
    intro j m hj hm
    obtain ⟨m,rfl⟩:∃q,m=q+1:=⟨m-1,by omega⟩
    rw [taplineref08_size.l0,if_neg (by simp;omega),List.drop_eq_nil_of_le (by omega)]
    rfl
  |succ e ih=>
    intro j m hj hm
    obtain ⟨m,rfl⟩:∃q,m=q+1:=⟨m-1,by omega⟩
    have hlt:j<d.vFields.length:=by omega
    have hf:=ht _ (getD_mem (z:=z_api_Field) hlt)
    rw [taplineref08_size.l0,if_pos (by simp;omega),if_pos (by omega),rd_nat,if_pos hf,drop_getD z_api_Field hlt,List.any_cons]
    by_cases hc:(rd 0 known (d.vFields.getD j z_api_Field).vType==0)=true
    · rw [if_pos hc,hc];rfl
    · rw [if_neg hc,wrap_nat hlt hl,ih (j+1) m (by omega) (by omega)]
      rw [Bool.not_eq_true] at hc
      rw [hc,Bool.false_or]
theorem inner_ref {d:api_Def} {known:List Int} (hk:d.vKind=3∨d.vKind=6):inner known d=rd 0 known d.vRef∧cont d=[d.vRef]:=by
  have hcd:cont d=[d.vRef]:=by
    unfold cont
    rw [if_pos (by simp only [Bool.or_eq_true,beq_iff_eq];exact hk)]
  refine ⟨?_,hcd⟩
  unfold inner
  rw [hcd]
  rfl
theorem rsize_ev {d:api_Def} {known:List Int} {n:Nat} (hd:ShD d n) (hn:known.length=n):Ev (fun k=>taplineref08_size.f k d known) (rsizeS d known):=by
  have hfew:=hd.few
  have hkind:=hd.kind
  refine ⟨d.vFields.length+1,fun k hk=>?_⟩
  show taplineref08_size.f k d known=_
  unfold taplineref08_size.f rsizeS nval
  simp only [beq_iff_eq]
  by_cases e1:d.vKind=1
  · rw [if_pos e1,if_neg (by omega),if_pos e1]
  · rw [if_neg e1]
    by_cases e2:d.vKind=2
    · rw [if_pos e2,if_neg (by omega),if_neg e1,if_pos e2]
    · rw [if_neg e2]
      by_cases e3:d.vKind=3
      · have hr:=hd.ref (by omega)
        rw [if_pos e3,if_pos (by omega),if_neg (by omega),if_neg e1,if_neg e2,if_pos e3,(inner_ref (.inl e3)).1]
      · rw [if_neg e3]
        by_cases e5:d.vKind=5
        · rw [if_pos e5,if_neg (by omega),if_neg e1,if_neg e2,if_neg e3,if_neg (by omega),if_pos e5]
        · rw [if_neg e5]
          by_cases e6:d.vKind=6
          · have hr:=hd.ref (by omega)
            rw [if_pos e6,if_pos (by omega),if_neg (by omega),if_neg e1,if_neg e2,if_neg e3,if_neg (by omega),if_neg e5,if_pos e6,(inner_ref (.inr e6)).1]
          · have e4:d.vKind=4:=by omega
            have ht:=hd.typ e4
            rw [if_neg e6,show taplineref08_size.l0 d known k 0=_ from rsize_loop (by omega) (fun f hf=>by have:=ht f hf;omega) d.vFields.length 0 k (by omega) (by omega),List.drop_zero]
            rw [if_neg e1,if_neg e2,if_neg e3,if_pos e4]
            cases hany:d.vFields.any fun f=>rd 0 known f.vType==0 with
            |true=>simp [e4]
            |false=>simp [e4]
structure Inv (defs:List api_Def) (known:List Int):Prop where
  len:known.length=defs.length
  rng:∀j,j<defs.length→0≤known.getD j 0∧known.getD j 0≤513
  ex:∃(rk:Nat→Nat) (B:Nat),∀j,j<defs.length→known.getD j 0≠0→rk j<B∧(∀c∈cont (defs.getD j z_api_Def),known.getD c.toNat 0≠0∧rk c.toNat<rk j)∧known.getD j 0=iMin (nval (defs.getD j z_api_Def) (inner known (defs.getD j z_api_Def))) 513
theorem cont_kind {d:api_Def} {c:Int} (h:c∈cont d):d.vKind=3∨d.vKind=4∨d.vKind=6:=by
  unfold cont at h
  split at h
  · next h2=>simp only [Bool.or_eq_true,beq_iff_eq] at h2;omega
  · split at h
    · next h2=>simp only [beq_iff_eq] at h2;omega
    · cases h
theorem inner_congr {d:api_Def} {a b:List Int} (h:∀c∈cont d,a.getD c.toNat 0=b.getD c.toNat 0):inner a d=inner b d:=by
  unfold inner
  have key:∀(l:List Int) (z0:Int),(∀c∈l,a.getD c.toNat 0=b.getD c.toNat 0)→l.foldl (fun _ c=>a.getD c.toNat 0) z0=l.foldl (fun _ c=>b.getD c.toNat 0) z0:=by
    intro l
    induction l with
    |nil=>intro _ _;rfl
    |cons c l ih=>
      intro z0 hc
      rw [List.foldl_cons,List.foldl_cons,hc c List.mem_cons_self]
      exact ih _ (fun c hc'=>hc c (List.mem_cons_of_mem _ hc'))
  exact key _ _ h
theorem inner_rng {d:api_Def} {a:List Int} (h:∀c∈cont d,0≤a.getD c.toNat 0∧a.getD c.toNat 0≤513):0≤inner a d∧inner a d≤513:=by
  unfold inner
  have key:∀(l:List Int) (z0:Int),0≤z0∧z0≤513→(∀c∈l,0≤a.getD c.toNat 0∧a.getD c.toNat 0≤513)→0≤l.foldl (fun _ c=>a.getD c.toNat 0) z0∧l.foldl (fun _ c=>a.getD c.toNat 0) z0≤513:=by
    intro l
    induction l with
    |nil=>intro z0 h0 _;exact h0
    |cons c l ih=>
      intro z0 h0 hc
      rw [List.foldl_cons]
      exact ih _ (hc c List.mem_cons_self) (fun c hc'=>hc c (List.mem_cons_of_mem _ hc'))
  exact key _ _ (by omega) h
theorem cont_struct {d:api_Def} (e:d.vKind=4):cont d=d.vFields.map (·.vType):=by
  unfold cont
  rw [if_neg (by simp [e]),if_pos (by simp [e])]
theorem rsize_pos {d:api_Def} {known:List Int} {n:Nat} (hd:ShD d n) (h:0<rsizeS d known):0<nval d (inner known d)∧rsizeS d known=nval d (inner known d)∧∀c∈cont d,known.getD c.toNat 0≠0:=by
  unfold rsizeS at h⊢
  split at h
  · omega
  · next hc=>
    rw [if_neg hc]
    refine ⟨h,rfl,fun c hcm=>?_⟩
    rcases cont_kind hcm with e|e|e
    · obtain ⟨h1,h2⟩:=inner_ref (known:=known) (.inl e)
      rw [h2] at hcm
      rw [List.mem_singleton.1 hcm]
      intro h0
      unfold nval at h
      rw [h1,show rd 0 known d.vRef=0 from h0,Int.mul_zero,if_neg (by omega),if_neg (by omega),if_pos e] at h
      exact absurd h (by decide)
    · have hcd:cont d=d.vFields.map (·.vType):=by
        unfold cont
        rw [if_neg (by simp [e]),if_pos (by simp [e])]
      rw [hcd] at hcm
      obtain ⟨f,hf,rfl⟩:=List.mem_map.1 hcm
      intro h0
      exact hc ⟨e,List.any_eq_true.2 ⟨f,hf,by rw [beq_iff_eq];exact h0⟩⟩
    · obtain ⟨h1,h2⟩:=inner_ref (known:=known) (.inr e)
      rw [h2] at hcm
      rw [List.mem_singleton.1 hcm]
      intro h0
      unfold nval at h
      rw [h1,show rd 0 known d.vRef=0 from h0,if_neg (by omega),if_neg (by omega),if_neg (by omega),if_neg (by omega),if_neg (by omega),if_pos e] at h
      omega
def zer (l:List Int):Nat:=(l.filter fun x=>x==0).length
theorem zer_set:∀(a:List Int) (i:Nat) (v:Int),i<a.length→a.getD i 0=0→v≠0→zer (a.set i v)+1=zer a
  |[],i,v,h,_,_=>by simp at h
  |x::a,0,v,h,hi,hv=>by
    simp only [List.getD_cons_zero] at hi
    subst hi
    simp [zer,hv]
  |x::a,i+1,v,h,hi,hv=>by
    have:=zer_set a i v (by simpa using h) (by simpa using hi) hv
    unfold zer at*
    rw [List.set_cons_succ,List.filter_cons,List.filter_cons]
    by_cases hx:(x==0)=true
    · rw [if_pos hx,if_pos hx,List.length_cons,List.length_cons];omega
    · rw [if_neg hx,if_neg hx];exact this
theorem inv_set {defs:List api_Def} {known:List Int} (hS:∀d∈defs,ShD d defs.length) (I:Inv defs known) {i:Nat} (hi:i<defs.length) (h0:known.getD i 0=0) (hp:0<rsizeS (defs.getD i z_api_Def) known):
    Inv defs (known.set i (iMin (rsizeS (defs.getD i z_api_Def) known) 513))∧iMin (rsizeS (defs.getD i z_api_Def) known) 513≠0:=by
  obtain ⟨hp1,hp2,hp3⟩:=rsize_pos (hS _ (getD_mem hi)) hp
  obtain ⟨rk,B,hB⟩:=I.ex
  have hv:0<iMin (rsizeS (defs.getD i z_api_Def) known) 513∧iMin (rsizeS (defs.getD i z_api_Def) known) 513≤513:=by
    unfold iMin
    split<;>omega
  generalize hV:iMin (rsizeS (defs.getD i z_api_Def) known) 513=V at*
  have hset:∀j,(known.set i V).getD j 0=if i=j then V else known.getD j 0:=fun j=>getD_set (by rw [I.len];exact hi)
  have hne:∀c:Int,known.getD c.toNat 0≠0→¬i=c.toNat:=fun c hc e=>by rw [←e] at hc;exact hc h0
  refine ⟨⟨by simp [I.len],fun j hj=>?_,fun j=>if i=j then B else rk j,B+1,fun j hj hj0=>?_⟩,by omega⟩
  · rw [hset]
    split
    · omega
    · exact I.rng j hj
  · show (if i=j then B else rk j)<B+1∧(∀c:Int,c∈cont (defs.getD j z_api_Def)→_∧(if i=c.toNat then B else rk c.toNat)<(if i=j then B else rk j))∧_
    by_cases hij:i=j
    · subst hij
      rw [if_pos rfl]
      refine ⟨by omega,fun c hc=>?_,?_⟩
      · have h5:=hp3 c hc
        have h6:=cont_range (hS _ (getD_mem (z:=z_api_Def) hi)) c hc
        rw [hset,if_neg (hne c h5),if_neg (hne c h5)]
        exact ⟨h5,(hB c.toNat (by omega) h5).1⟩
      · rw [hp2] at hV
        refine (hset i).trans ?_
        rw [if_pos rfl]
        refine hV.symm.trans ?_
        congr 2
        exact inner_congr (fun c hc=>by rw [hset,if_neg (hne c (hp3 c hc))])
    · rw [hset,if_neg hij] at hj0
      obtain ⟨h5,h7,h8⟩:=hB j hj hj0
      rw [if_neg hij,hset,if_neg hij]
      refine ⟨by omega,fun c hc=>?_,?_⟩
      · obtain ⟨h9,h10⟩:=h7 c hc
        rw [hset,if_neg (hne c h9),if_neg (hne c h9)]
        exact ⟨h9,h10⟩
      · rw [h8]
        congr 2
        exact inner_congr (fun c hc=>by rw [hset,if_neg (hne c (h7 c hc).1)])
theorem pass_loop {t:api_Types} (hS:∀d∈t.vDefs,ShD d t.vDefs.length) (hn:t.vDefs.length≤9223372036854775807):∀(e j:Nat) (more:Bool) (known:List Int),j+e=t.vDefs.length→Inv t.vDefs known→
    ∃more' known',Ev2 (fun k m=>taplineref08_sizes.l1 k t m more (j:Int) known) (more',known')∧Inv t.vDefs known'∧(more'=false→more=false∧known'=known∧∀q,j≤q→q<t.vDefs.length→known.getD q 0=0→rsizeS (t.vDefs.getD q z_api_Def) known≤0)∧
      zer known'≤zer known∧(more'=true→more=true∨zer known'<zer known):=by
  intro e
  induction e with
  |zero=>
    intro j more known hj I
    refine ⟨more,known,Ev2.pure (fun k m=>?_),I,fun h=>⟨h,rfl,fun q _ _=>by omega⟩,Nat.le_refl _,fun h=> .inl h⟩
    rw [taplineref08_sizes.l1,if_neg (by simp;omega)]
  |succ e ih=>
    intro j more known hj I
    have hlt:j<t.vDefs.length:=by omega
    have hd:=hS _ (getD_mem (z:=z_api_Def) hlt)
    by_cases h0:known.getD j 0=0
    · have hs:=rsize_ev hd I.len
      by_cases hp:0<rsizeS (t.vDefs.getD j z_api_Def) known
      · obtain ⟨I2,hv⟩:=inv_set hS I hlt h0 hp
        have hz:=zer_set known j _ (by rw [I.len];exact hlt) h0 hv
        obtain ⟨more',known',hE,I3,h1,h2,h3⟩:=ih (j+1) true _ (by omega) I2
        refine ⟨more',known',Ev2.step hs (r:=fun k m v1=>if (decide (v1>0))=true then (if 0≤(j:Int)∧(j:Int)<(((t.vDefs.length:Int).toNat:Nat):Int) then (taplineref08_sizes.l1 k t m true (IntKind.wrap .i64 ((j:Int)+1)) (List.set known j (iMin v1 513))) else none) else (taplineref08_sizes.l1 k t m more (IntKind.wrap .i64 ((j:Int)+1)) known)) ?_ (fun k m=>?_),I3,?_,by omega,fun _=> .inr (by omega)⟩
        · obtain ⟨K,hK⟩:=hE
          refine ⟨K,fun k m hk hm=>?_⟩
          show (if _ then _ else _)=_
          rw [if_pos (decide_eq_true hp),if_pos (by omega),wrap_nat hlt hn]
          exact hK k m hk hm
        · rw [taplineref08_sizes.l1,if_pos (by simp;omega),if_pos (by omega),rd_nat,if_neg (by rw [h0];decide),if_pos (by omega),rd_nat]
          simp only [Int.toNat_natCast]
        · intro h;have:=(h1 h).1;cases this
      · obtain ⟨more',known',hE,I3,h1,h2,h3⟩:=ih (j+1) more known (by omega) I
        refine ⟨more',known',Ev2.step hs (r:=fun k m v1=>if (decide (v1>0))=true then (if 0≤(j:Int)∧(j:Int)<(((t.vDefs.length:Int).toNat:Nat):Int) then (taplineref08_sizes.l1 k t m true (IntKind.wrap .i64 ((j:Int)+1)) (List.set known j (iMin v1 513))) else none) else (taplineref08_sizes.l1 k t m more (IntKind.wrap .i64 ((j:Int)+1)) known)) ?_ (fun k m=>?_),I3,?_,h2,h3⟩
        · obtain ⟨K,hK⟩:=hE
          refine ⟨K,fun k m hk hm=>?_⟩
          show (if _ then _ else _)=_
          rw [if_neg (by simpa using hp),wrap_nat hlt hn]
          exact hK k m hk hm
        · rw [taplineref08_sizes.l1,if_pos (by simp;omega),if_pos (by omega),rd_nat,if_neg (by rw [h0];decide),if_pos (by omega),rd_nat]
          simp only [Int.toNat_natCast]
        · intro h
          obtain ⟨a,b,c⟩:=h1 h
          refine ⟨a,b,fun q hq hq2 hq0=>?_⟩
          by_cases hqj:q=j
          · subst hqj;omega
          · exact c q (by omega) hq2 hq0
    · obtain ⟨more',known',hE,I3,h1,h2,h3⟩:=ih (j+1) more known (by omega) I
      refine ⟨more',known',Ev2.next (r:=fun k m=>taplineref08_sizes.l1 k t m more ((j+1:Nat):Int) known) hE (fun k m=>?_),I3,?_,h2,h3⟩
      · rw [taplineref08_sizes.l1,if_pos (by simp;omega),if_pos (by omega),rd_nat,if_pos (by simpa using h0),wrap_nat hlt hn]
      · intro h
        obtain ⟨a,b,c⟩:=h1 h
        refine ⟨a,b,fun q hq hq2 hq0=>?_⟩
        by_cases hqj:q=j
        · subst hqj;exact absurd hq0 h0
        · exact c q (by omega) hq2 hq0
def Fin (defs:List api_Def) (known:List Int):Prop:=∀q,q<defs.length→known.getD q 0=0→rsizeS (defs.getD q z_api_Def) known≤0
theorem rounds {t:api_Types} (hS:∀d∈t.vDefs,ShD d t.vDefs.length) (hn:t.vDefs.length≤9223372036854775807):∀(z:Nat) (known:List Int),zer known=z→Inv t.vDefs known→
    ∃known',Ev2 (fun k m=>taplineref08_sizes.l0 k t m true known) known'∧Inv t.vDefs known'∧Fin t.vDefs known':=by
  intro z
  induction z using Nat.strongRecOn with
  |_ z ih=>
    intro known hz I
    obtain ⟨more',known',hE,I2,h1,h2,h3⟩:=pass_loop hS hn t.vDefs.length 0 false known (by omega) I
    cases more' with
    |false=>
      obtain ⟨_,rfl,hf⟩:=h1 rfl
      refine ⟨known',Ev2.step hE.diag (r:=fun k m (x:Bool×List Int)=>taplineref08_sizes.l0 k t m x.1 x.2) (Ev2.pure fun k m=>?_) (fun k m=>?_),I2,fun q hq h0=>hf q (by omega) hq h0⟩
      · show taplineref08_sizes.l0 k t (m+1) false known'=_
        rw [taplineref08_sizes.l0,if_neg (by simp)]
      · rw [taplineref08_sizes.l0,if_pos rfl]
        rfl
    |true=>
      have hlt:zer known'<z:=by
        rcases h3 rfl with h|h
        · cases h
        · omega
      obtain ⟨k3,hE3,I3,F3⟩:=ih (zer known') hlt known' rfl I2
      refine ⟨k3,Ev2.step hE.diag (r:=fun k m (x:Bool×List Int)=>taplineref08_sizes.l0 k t m x.1 x.2) hE3 (fun k m=>?_),I3,F3⟩
      rw [taplineref08_sizes.l0,if_pos rfl]
      rfl
theorem rsizes_ev {t:api_Types} (hS:∀d∈t.vDefs,ShD d t.vDefs.length) (hn:t.vDefs.length≤200):∃known,Ev (fun k=>taplineref08_sizes.f k t) known∧Inv t.vDefs known∧Fin t.vDefs known:=by
  have hrep:∀(n q:Nat),(List.replicate n (0:Int)).getD q 0=0:=fun n q=>by
    rw [List.getD_eq_getElem?_getD,List.getElem?_replicate]
    split<;>rfl
  obtain ⟨known,hE,I,F⟩:=rounds hS (by omega) _ (List.replicate t.vDefs.length (0:Int)) rfl ⟨by simp,fun j hj=>by rw [hrep];omega,fun _=>0,0,fun j hj h=>absurd (hrep _ _) h⟩
  obtain ⟨K,hK⟩:=hE.diag
  refine ⟨known,⟨K,fun k hk=>?_⟩,I,F⟩
  show taplineref08_sizes.f k t=_
  unfold taplineref08_sizes.f
  rw [if_pos (by omega)]
  simp only [Int.toNat_natCast]
  rw [show taplineref08_sizes.l0 k t k true _=_ from hK k hk]
  rfl
theorem iMin_low {x:Int} (h:iMin x 513≤512):iMin x 513=x:=by
  unfold iMin at*
  split
  · next h2=>rw [if_pos h2] at h;omega
  · rfl
theorem rsizes_good {defs:List api_Def} {known g:List Int} (hS:∀d∈defs,ShD d defs.length) (I:Inv defs known) (F:Fin defs known) (G:GoodSz defs g):known=g:=by
  obtain ⟨rk,hg⟩:=G.ex
  refine list_ext (by rw [I.len,G.len]) (fun j hj=>?_)
  rw [I.len] at hj
  obtain ⟨rk2,B,hB⟩:=I.ex
  have key:∀(R q:Nat),rk q=R→q<defs.length→known.getD q 0=g.getD q 0:=by
    intro R
    induction R using Nat.strongRecOn with
    |_ R ih=>
      intro q hR hq
      obtain ⟨g1,g2,g3,g4⟩:=hg q hq
      have hd:=hS _ (getD_mem (z:=z_api_Def) hq)
      have hch:∀c∈cont (defs.getD q z_api_Def),known.getD c.toNat 0=g.getD c.toNat 0:=fun c hc=>by
        have h6:=cont_range hd c hc
        exact ih _ (by have:=g3 c hc;omega) c.toNat rfl (by omega)
      have hin:=inner_congr hch
      by_cases h0:known.getD q 0=0
      · exfalso
        have h1:=F q hq h0
        unfold rsizeS at h1
        rw [if_neg,hin,←g4] at h1
        · omega
        · rintro ⟨e4,ha⟩
          obtain ⟨f,hf,hf0⟩:=List.any_eq_true.1 ha
          have hcm:f.vType∈cont (defs.getD q z_api_Def):=by
            rw [cont_struct e4]
            exact List.mem_map.2 ⟨f,hf,rfl⟩
          have h2:=hch _ hcm
          have h6:=cont_range hd _ hcm
          have h3:=(hg f.vType.toNat (by omega)).1
          rw [beq_iff_eq] at hf0
          rw [show known.getD f.vType.toNat 0=0 from hf0] at h2
          omega
      · obtain ⟨_,_,h3⟩:=hB q hq h0
        rw [hin,←g4] at h3
        rw [h3]
        unfold iMin
        rw [if_neg (by omega)]
  exact key (rk j) j rfl hj
theorem rsizes_conv {defs:List api_Def} {known:List Int} (I:Inv defs known) (h:∀j,j<defs.length→known.getD j 0≠0∧known.getD j 0≤512):GoodSz defs known:=by
  obtain ⟨rk,B,hB⟩:=I.ex
  refine ⟨I.len,rk,fun j hj=>?_⟩
  obtain ⟨h1,h2⟩:=h j hj
  have h3:=I.rng j hj
  obtain ⟨_,h4,h5⟩:=hB j hj h1
  refine ⟨by omega,h2,fun c hc=>(h4 c hc).2,?_⟩
  rw [h5] at h2⊢
  exact iMin_low h2
end Go.Proofs.YtfjppgobidjndaaDoor
namespace Go.Proofs.YtfjppgobidjndaaDoor
open Go.RowKit Go.M
structure Wf (t:api_Types) (l:List Int):Prop where
  few:t.vDefs.length≤200
  defs:defsS t.vDefs.length [] t.vDefs=true
  sz:GoodSz t.vDefs l
  ends:∀d∈t.vDefs,lostS t.vDefs t.vDefs.length d=false
  placed:∀d∈t.vDefs,d.vKind=4→placedS d l=true
theorem GoodT.wf {t:api_Types} {l:List Int} (G:GoodT t l):Wf t l:=⟨G.few,G.defs,G.good,G.ends,G.placed⟩
theorem Wf.sh {t:api_Types} {l:List Int} (W:Wf t l):∀d∈t.vDefs,ShD d t.vDefs.length:=defs_of _ _ W.defs
theorem Wf.good {t:api_Types} {l:List Int} (W:Wf t l):GoodT t l:=by
  obtain ⟨rk,h⟩:=W.sz.ex
  have hB:∀n,∃B,∀j,j<n→rk j<B:=by
    intro n
    induction n with
    |zero=>exact ⟨0,fun j hj=>by omega⟩
    |succ n ih=>
      obtain ⟨B,hB⟩:=ih
      refine ⟨max B (rk n+1),fun j hj=>?_⟩
      by_cases e:j=n
      · subst e;omega
      · have:=hB j (by omega);omega
  obtain ⟨B,hB⟩:=hB t.vDefs.length
  refine ⟨W.few,W.sh,sizes_good W.sh W.few W.sz,W.sz.len,⟨rk,B,fun j hj _=>?_⟩,fun q hq=>(h q hq).1,W.ends,W.placed,W.defs⟩
  obtain ⟨h1,h2,h3,h4⟩:=h j hj
  refine ⟨hB j hj,h2,fun c hc=>⟨?_,h3 c hc⟩,h4⟩
  have:=cont_range (W.sh _ (getD_mem (z:=z_api_Def) hj)) c hc
  exact (h c.toNat (by omega)).1
theorem valid_wf {t:api_Types} {l:List Int} (hF:∀d∈t.vDefs,FitD d) (W:Wf t l):Ev (fun k=>ctf_valid.f k t) true:=by
  have hn:=W.few
  have hS:=W.sh
  have hcond:¬decide ((t.vDefs.length:Int)>200)=true:=by simp;omega
  obtain ⟨v,hv,hp⟩:=valid_loop hF (by omega) t.vDefs.length 0 [] [] (by omega) SeenOk.nil
  rw [List.drop_zero] at hp
  obtain ⟨K,hK⟩:=hv.diag
  obtain ⟨K2,hK2⟩:=sizes_good hS hn W.sz
  obtain ⟨K3,hK3⟩:=ends_ev hS hn
  have he:t.vDefs.any (lostS t.vDefs t.vDefs.length)=false:=List.any_eq_false.2 fun d hd=>by rw [W.ends d hd];simp
  obtain ⟨K4,hK4⟩:=contains_ev (l:=t.vDefs) (p:=fun k z0=>ctf_valid_1.f k z0 l) (q:=fun _=>false) (fun d hd=>by
    by_cases h4:d.vKind=4
    · have:=placed_ev (d:=d) (l:=l) (hF d hd).len (fun f hf=>by have:=(hS d hd).typ h4 f hf;rw [W.sz.len];exact this)
      rw [W.placed d hd h4] at this
      exact (this.bind (g:=fun k v1=>some ((d.vKind==4)&&(!v1))) (b:=false) (Ev.pure fun _=>by simp)).congr fun k=>by
        unfold ctf_valid_1.f
        rw [if_pos (by simp [h4])]
    · refine Ev.pure fun k=>?_
      unfold ctf_valid_1.f
      rw [if_neg (by simp [h4])]
      simp [h4]) (by omega)
  cases v with
  |inl b=>rw [W.defs] at hp;exact absurd hp.2 (by simp)
  |inr m=>
    refine ⟨max (max K K2) (max K3 K4),fun k hk=>?_⟩
    show ctf_valid.f k t=_
    unfold ctf_valid.f
    rw [if_neg hcond,show ctf_valid.l0 k t k 0 []=_ from hK k (by omega)]
    simp only [Option.bind_some]
    rw [show ctf_sizes.f k t=_ from hK2 k (by omega)]
    simp only [Option.bind_some]
    rw [show ctf_ends.f k t=_ from hK3 k (by omega),he]
    simp only [Bool.not_true,Bool.not_false,beq_self_eq_true,Bool.and_self,if_true,Option.bind_some,Bool.or_self,Bool.false_eq_true,if_false]
    rw [show slices_ContainsFunc_api_Def_api_Def.f k t.vDefs _=_ from hK4 k (by omega)]
    simp
theorem valid_iff {t:api_Types} (hF:∀d∈t.vDefs,FitD d):(∃l,Wf t l∧Ev (fun k=>ctf_valid.f k t) true)∨((∀l,¬Wf t l)∧Ev (fun k=>ctf_valid.f k t) false):=by
  obtain ⟨b,hE,hb⟩:=valid_ev hF
  cases b with
  |true=>
    obtain ⟨l,G⟩:=hb rfl
    exact .inl ⟨l,G.wf,hE⟩
  |false=>
    refine .inr ⟨fun l W=>?_,hE⟩
    have:=hE.uniq (valid_wf hF W)
    cases this
theorem rends_loop {t:api_Types} (hS:∀d∈t.vDefs,ShD d t.vDefs.length) (hn:t.vDefs.length≤9223372036854775000):∀(e j m:Nat) (i:Int),0≤i→i<t.vDefs.length→j+e=t.vDefs.length→e+1<m→
    ((taplineref08_ends.l0 t m i (j:Int)).bind fun xx1=>(match xx1 with| .inl r=>some r| .inr s1=>some false))=some (!lostS t.vDefs e (rd z_api_Def t.vDefs i)):=by
  intro e
  induction e with
  |zero=>
    intro j m i h0 h1 hj hm
    obtain ⟨m,rfl⟩:∃q,m=q+1:=⟨m-1,by omega⟩
    obtain ⟨m,rfl⟩:∃q,m=q+1:=⟨m-1,by omega⟩
    rw [taplineref08_ends.l0,if_pos (by simp;omega),if_pos ⟨h0,h1⟩]
    simp only [taplineref08_Named.f,Option.bind_some,lostS]
    show (Option.bind (if namedS _=true then _ else _) _)=_
    by_cases hnm:namedS (rd z_api_Def t.vDefs i)=true
    · rw [if_pos hnm,hnm];rfl
    · rw [if_neg hnm,if_pos ⟨h0,h1⟩,wrap_id (by omega) (by omega),taplineref08_ends.l0,if_neg (by simp;omega)]
      rw [Bool.not_eq_true] at hnm
      rw [hnm];rfl
  |succ e ih=>
    intro j m i h0 h1 hj hm
    obtain ⟨m,rfl⟩:∃q,m=q+1:=⟨m-1,by omega⟩
    rw [taplineref08_ends.l0,if_pos (by simp;omega),if_pos ⟨h0,h1⟩]
    simp only [taplineref08_Named.f,Option.bind_some,lostS]
    show (Option.bind (if namedS _=true then _ else _) _)=_
    by_cases hnm:namedS (rd z_api_Def t.vDefs i)=true
    · rw [if_pos hnm,if_pos hnm];rfl
    · rw [if_neg hnm,if_neg hnm,if_pos ⟨h0,h1⟩]
      have hk:(rd z_api_Def t.vDefs i).vKind=2∨(rd z_api_Def t.vDefs i).vKind=3:=by
        unfold namedS at hnm
        by_cases h2:(rd z_api_Def t.vDefs i).vKind=2
        · exact .inl h2
        · by_cases h3:(rd z_api_Def t.vDefs i).vKind=3
          · exact .inr h3
          · exact absurd (by simp [h2,h3]) hnm
      have hr:=(hS _ (rd_mem (z:=z_api_Def) h0 h1)).ref (by omega)
      rw [wrap_nat (show j<t.vDefs.length by omega) (by omega)]
      exact ih (j+1) m _ hr.1 hr.2 (by omega) (by omega)
theorem rends_ev {t:api_Types} (hS:∀d∈t.vDefs,ShD d t.vDefs.length) (hn:t.vDefs.length≤200) {i:Nat} (hi:i<t.vDefs.length):Ev (fun k=>taplineref08_ends.f k t (i:Int)) (!lostS t.vDefs t.vDefs.length (t.vDefs.getD i z_api_Def)):=
  ⟨t.vDefs.length+2,fun k hk=>by
    show taplineref08_ends.f k t _=_
    unfold taplineref08_ends.f
    have:=rends_loop hS (by omega) t.vDefs.length 0 k (i:Int) (by omega) (by omega) (by omega) (by omega)
    rw [rd_nat] at this
    exact this⟩
def rplacedAt (l:List Int) (N:Int):Int→List api_Field→Option Int
  |at_,[]=>some at_
  |at_,f::r=>if ((decide (f.vAt<at_))||(decide (f.vAt>N)))=true then none else rplacedAt l N (IntKind.wrap .i64 (f.vAt+rd 0 l f.vType)) r
def rplacedS (d:api_Def) (l:List Int):Bool:=match rplacedAt l d.vN 0 d.vFields with|none=>false|some e=>decide (e≤d.vN)
theorem rplaced_loop {d:api_Def} {l:List Int} (hl:d.vFields.length≤9223372036854775807) (ht:∀f∈d.vFields,0≤f.vType∧f.vType<l.length):∀(e j m:Nat) (at_:Int),j+e=d.vFields.length→e<m→
    taplineref08_placed.l0 d l m at_ (j:Int)=some (match rplacedAt l d.vN at_ (d.vFields.drop j) with|none=> .inl false|some a=> .inr a):=by
  intro e
  induction e with
  |zero=>
    intro j m at_ hj hm
    obtain ⟨m,rfl⟩:∃q,m=q+1:=⟨m-1,by omega⟩
    rw [taplineref08_placed.l0,if_neg (by simp;omega),List.drop_eq_nil_of_le (by omega)]
    rfl
  |succ e ih=>
    intro j m at_ hj hm
    obtain ⟨m,rfl⟩:∃q,m=q+1:=⟨m-1,by omega⟩
    have hlt:j<d.vFields.length:=by omega
    have hf:=ht _ (getD_mem (z:=z_api_Field) hlt)
    rw [taplineref08_placed.l0,if_pos (by simp;omega),if_pos (by omega),rd_nat,drop_getD z_api_Field hlt]
    simp only [rplacedAt]
    by_cases hc:((decide ((d.vFields.getD j z_api_Field).vAt<at_))||(decide ((d.vFields.getD j z_api_Field).vAt>d.vN)))=true
    · rw [if_pos hc,if_pos hc]
    · rw [if_neg hc,if_neg hc,if_pos hf,wrap_nat hlt hl,ih (j+1) m _ (by omega) (by omega)]
theorem rplaced_ev {d:api_Def} {l:List Int} (hl:d.vFields.length≤9223372036854775807) (ht:∀f∈d.vFields,0≤f.vType∧f.vType<l.length):Ev (fun k=>taplineref08_placed.f k d l) (rplacedS d l):=by
  refine ⟨d.vFields.length+1,fun k hk=>?_⟩
  show taplineref08_placed.f k d l=_
  unfold taplineref08_placed.f rplacedS
  rw [show taplineref08_placed.l0 d l k 0 0=_ from rplaced_loop hl ht d.vFields.length 0 k 0 (by omega) (by omega),List.drop_zero]
  cases rplacedAt l d.vN 0 d.vFields<;>rfl
theorem placed_over {l:List Int} {N:Int} (hN:0≤N):∀(fs:List api_Field) (a:Int),N<a→a≤1024→(∀f∈fs,0<rd 0 l f.vType∧rd 0 l f.vType≤512)→(match placedAt l a fs with|none=>false|some e=>decide (e≤N))=false:=by
  intro fs
  induction fs with
  |nil=>intro a h1 h2 _;simp only [placedAt];exact decide_eq_false (by omega)
  |cons f r ih=>
    intro a h1 h2 hf
    have h3:=hf f List.mem_cons_self
    simp only [placedAt]
    by_cases hc:((decide (f.vAt<a))||(decide (f.vAt>512)))=true
    · rw [if_pos hc]
    · rw [if_neg hc]
      simp only [Bool.or_eq_true,decide_eq_true_eq,not_or] at hc
      rw [wrap_id (by omega) (by omega)]
      exact ih _ (by omega) (by omega) (fun g hg=>hf g (List.mem_cons_of_mem _ hg))
theorem placed_same {l:List Int} {N:Int} (hN:0≤N) (hN2:N≤512):∀(fs:List api_Field) (a:Int),0≤a→(∀f∈fs,0<rd 0 l f.vType∧rd 0 l f.vType≤512)→
    (match rplacedAt l N a fs with|none=>false|some e=>decide (e≤N))=(match placedAt l a fs with|none=>false|some e=>decide (e≤N)):=by
  intro fs
  induction fs with
  |nil=>intro a _ _;rfl
  |cons f r ih=>
    intro a h0 hf
    have h3:=hf f List.mem_cons_self
    simp only [placedAt,rplacedAt]
    by_cases hc:((decide (f.vAt<a))||(decide (f.vAt>N)))=true
    · rw [if_pos hc]
      by_cases hc2:((decide (f.vAt<a))||(decide (f.vAt>512)))=true
      · rw [if_pos hc2]
      · rw [if_neg hc2]
        simp only [Bool.or_eq_true,decide_eq_true_eq,not_or] at hc hc2
        rw [wrap_id (by omega) (by omega)]
        exact (placed_over hN r _ (by omega) (by omega) (fun g hg=>hf g (List.mem_cons_of_mem _ hg))).symm
    · rw [if_neg hc,if_neg]
      · simp only [Bool.or_eq_true,decide_eq_true_eq,not_or] at hc
        rw [wrap_id (by omega) (by omega)]
        exact ih _ (by omega) (fun g hg=>hf g (List.mem_cons_of_mem _ hg))
      · simp only [Bool.or_eq_true,decide_eq_true_eq,not_or] at hc⊢
        omega
theorem rplaced_same {defs:List api_Def} {l:List Int} (G:GoodSz defs l) (hS:∀d∈defs,ShD d defs.length) {d:api_Def} (hd:d∈defs) (h4:d.vKind=4):rplacedS d l=placedS d l:=by
  obtain ⟨rk,h⟩:=G.ex
  have h1:=(hS d hd).num (.inr h4)
  have h2:=(hS d hd).typ h4
  exact placed_same (by omega) h1.2 _ _ (by omega) (fun f hf=>by
    have h3:=h2 f hf
    have:=h f.vType.toNat (by omega)
    exact ⟨this.1,this.2.1⟩)
theorem rseen_loop {t:api_Types} (hl:t.vDefs.length≤9223372036854775807) {i:Nat} (hi:i<t.vDefs.length):∀(e j m:Nat),j+e=i→e<m→
    taplineref08_Check.l1 t (i:Int) m (j:Int)=some (if (namedS (t.vDefs.getD i z_api_Def)&&(((t.vDefs.take i).drop j).any fun f=>strEq f.vName (t.vDefs.getD i z_api_Def).vName))=true then .inl 80 else .inr ()):=by
  intro e
  induction e with
  |zero=>
    intro j m hj hm
    obtain ⟨m,rfl⟩:∃q,m=q+1:=⟨m-1,by omega⟩
    rw [taplineref08_Check.l1,if_neg (by simp;omega),List.drop_eq_nil_of_le (by simp;omega)]
    simp
  |succ e ih=>
    intro j m hj hm
    obtain ⟨m,rfl⟩:∃q,m=q+1:=⟨m-1,by omega⟩
    have hlt:j<t.vDefs.length:=by omega
    have hd:(t.vDefs.take i).drop j=t.vDefs.getD j z_api_Def::(t.vDefs.take i).drop (j+1):=by
      rw [drop_getD z_api_Def (by simp;omega)]
      congr 1
      rw [List.getD_eq_getElem?_getD,List.getD_eq_getElem?_getD,List.getElem?_take,if_pos (by omega)]
    rw [taplineref08_Check.l1,if_pos (by simp;omega),if_pos (by omega),rd_nat,rd_nat,hd,List.any_cons]
    simp only [taplineref08_Named.f,Option.bind_some]
    rw [if_pos (fun _=>by omega),if_pos (fun _=>by omega),wrap_nat hlt hl,ih (j+1) m (by omega) (by omega)]
    show (if (namedS (t.vDefs.getD i z_api_Def)&&_)=true then _ else _)=_
    cases namedS (t.vDefs.getD i z_api_Def)<;>cases (strEq (t.vDefs.getD j z_api_Def).vName (t.vDefs.getD i z_api_Def).vName)<;>cases (((t.vDefs.take i).drop (j+1)).any fun f=>strEq f.vName (t.vDefs.getD i z_api_Def).vName)<;>rfl
theorem any_revD (l:List api_Def) (s:ByteArray):((l.map (·.vName)).reverse.any (strEq s))=l.any fun f=>strEq f.vName s:=by
  rw [List.any_reverse,List.any_map]
  congr 1
  funext f
  exact strEq_comm _ _
theorem rdefs_loop {t:api_Types} (hF:∀d∈t.vDefs,FitD d) (hl:t.vDefs.length≤9223372036854775807):∀(e j:Nat),j+e=t.vDefs.length→
    Ev2 (fun k m=>taplineref08_Check.l0 k t m (j:Int)) (if defsS t.vDefs.length ((t.vDefs.take j).map (·.vName)).reverse (t.vDefs.drop j)=true then .inr () else .inl 80):=by
  intro e
  induction e with
  |zero=>
    intro j hj
    refine Ev2.pure fun k m=>?_
    rw [taplineref08_Check.l0,if_neg (by simp;omega),List.drop_eq_nil_of_le (by omega)]
    rfl
  |succ e ih=>
    intro j hj
    have hlt:j<t.vDefs.length:=by omega
    have hmem:=getD_mem (z:=z_api_Def) hlt
    have hFd:=hF _ hmem
    have h1:=rshaped_ev (t:=t) hFd.len hFd.names hFd.name
    have h2:=ih (j+1) (by omega)
    have ht:((t.vDefs.take (j+1)).map (·.vName)).reverse=(t.vDefs.getD j z_api_Def).vName::((t.vDefs.take j).map (·.vName)).reverse:=by
      rw [List.take_add_one,List.map_append,List.reverse_append]
      rw [List.getD_eq_getElem?_getD,List.getElem?_eq_getElem hlt]
      rfl
    rw [ht] at h2
    rw [drop_getD z_api_Def hlt,defsS]
    refine Ev2.step h1 (r:=fun k m v1=>if (!v1)=true then (some (.inl 80)) else ((taplineref08_Check.l1 t (j:Int) k 0).bind fun xx2=>(match xx2 with| .inl r=>some (.inl r)| .inr s1=>taplineref08_Check.l0 k t m ((j+1:Nat):Int)))) ?_ (fun k m=>?_)
    · rcases Bool.eq_false_or_eq_true (shapedS (t.vDefs.getD j z_api_Def) (t.vDefs.length:Int)) with hn|hn
      · obtain ⟨K,hK⟩:=h2
        rw [hn]
        refine ⟨max K (j+1),fun k m hk hm=>?_⟩
        have h3:=rseen_loop hl hlt j 0 k (by omega) (by omega)
        rw [List.drop_zero] at h3
        simp only [Bool.not_true,Bool.false_eq_true,if_false,Bool.true_and]
        rw [show taplineref08_Check.l1 t (j:Int) k 0=_ from h3,any_revD]
        cases ha:namedS (t.vDefs.getD j z_api_Def)&&(t.vDefs.take j).any fun f=>strEq f.vName (t.vDefs.getD j z_api_Def).vName with
        |true=>simp
        |false=>simpa using hK k m (by omega) (by omega)
      · exact ⟨0,fun k m _ _=>by rw [hn];rfl⟩
    · rw [taplineref08_Check.l0,if_pos (by simp;omega),if_pos (by omega),rd_nat,wrap_nat hlt hl]
      try rfl
def CondQ (t:api_Types) (known:List Int) (q:Nat):Prop:=known.getD q 0≠0∧known.getD q 0≤512∧lostS t.vDefs t.vDefs.length (t.vDefs.getD q z_api_Def)=false∧((t.vDefs.getD q z_api_Def).vKind=4→rplacedS (t.vDefs.getD q z_api_Def) known=true)
theorem rlast_loop {t:api_Types} {known:List Int} (hF:∀d∈t.vDefs,FitD d) (hS:∀d∈t.vDefs,ShD d t.vDefs.length) (hn:t.vDefs.length≤200) (hk:known.length=t.vDefs.length):∀(e j:Nat),j+e=t.vDefs.length→
    ∃v,Ev2 (fun k m=>taplineref08_Check.l2 k t known m (j:Int)) v∧((v= .inr ()∧∀q,j≤q→q<t.vDefs.length→CondQ t known q)∨(v= .inl 80∧¬∀q,j≤q→q<t.vDefs.length→CondQ t known q)):=by
  intro e
  induction e with
  |zero=>
    intro j hj
    refine ⟨.inr (),Ev2.pure fun k m=>?_, .inl ⟨rfl,fun q _ _=>by omega⟩⟩
    rw [taplineref08_Check.l2,if_neg (by simp;omega)]
  |succ e ih=>
    intro j hj
    have hlt:j<t.vDefs.length:=by omega
    have hmem:=getD_mem (z:=z_api_Def) hlt
    have he:=rends_ev hS hn hlt
    obtain ⟨v,hv,hp⟩:=ih (j+1) (by omega)
    by_cases hc:CondQ t known j
    · obtain ⟨c1,c2,c3,c4⟩:=hc
      refine ⟨v,?_,?_⟩
      · obtain ⟨K1,hK1⟩:=he
        obtain ⟨K2,hK2⟩:=hv
        by_cases h4:(t.vDefs.getD j z_api_Def).vKind=4
        · obtain ⟨K3,hK3⟩:=rplaced_ev (d:=t.vDefs.getD j z_api_Def) (l:=known) (hF _ hmem).len (fun f hf=>by have:=(hS _ hmem).typ h4 f hf;rw [hk];exact this)
          refine ⟨max (max K1 K2) K3+1,fun k m hk1 hm1=>?_⟩
          obtain ⟨m,rfl⟩:∃q,m=q+1:=⟨m-1,by omega⟩
          show taplineref08_Check.l2 k t known (m+1) (j:Int)=_
          rw [taplineref08_Check.l2,if_pos (by simp;omega),if_pos (by omega),if_pos (fun _=>by omega),rd_nat,rd_nat,show taplineref08_ends.f k t (j:Int)=_ from hK1 k (by omega),c3]
          rw [show (known.getD j 0==0)=false from by simpa using c1,show decide (known.getD j 0>512)=false from decide_eq_false (by omega)]
          simp only [Bool.or_self,beq_self_eq_true,Bool.and_self,if_true,Bool.not_false,Option.bind_some,Bool.not_true,Bool.false_eq_true,if_false]
          rw [if_pos (by omega),if_pos (fun _=>by omega),show ((t.vDefs.getD j z_api_Def).vKind==4)=true from by simpa using h4]
          simp only [Bool.true_and,beq_self_eq_true,if_true]
          rw [show taplineref08_placed.f k _ known=_ from hK3 k (by omega),c4 h4]
          simp only [Option.bind_some,Bool.not_true,Bool.false_eq_true,if_false]
          rw [wrap_nat hlt (by omega)]
          exact hK2 k m (by omega) (by omega)
        · refine ⟨max K1 K2+1,fun k m hk1 hm1=>?_⟩
          obtain ⟨m,rfl⟩:∃q,m=q+1:=⟨m-1,by omega⟩
          show taplineref08_Check.l2 k t known (m+1) (j:Int)=_
          rw [taplineref08_Check.l2,if_pos (by simp;omega),if_pos (by omega),if_pos (fun _=>by omega),rd_nat,rd_nat,show taplineref08_ends.f k t (j:Int)=_ from hK1 k (by omega),c3]
          rw [show (known.getD j 0==0)=false from by simpa using c1,show decide (known.getD j 0>512)=false from decide_eq_false (by omega)]
          simp only [Bool.or_self,beq_self_eq_true,Bool.and_self,if_true,Bool.not_false,Option.bind_some,Bool.not_true,Bool.false_eq_true,if_false]
          rw [if_pos (by omega),if_pos (fun _=>by omega),show ((t.vDefs.getD j z_api_Def).vKind==4)=false from by simpa using h4]
          simp only [Bool.true_and,Bool.false_and,Bool.false_eq_true,if_false,Option.bind_some,show (false==true)=false from rfl]
          rw [wrap_nat hlt (by omega)]
          exact hK2 k m (by omega) (by omega)
      · rcases hp with ⟨a,b⟩|⟨a,b⟩
        · refine .inl ⟨a,fun q hq hq2=>?_⟩
          by_cases hqj:q=j
          · subst hqj;exact ⟨c1,c2,c3,c4⟩
          · exact b q (by omega) hq2
        · exact .inr ⟨a,fun h=>b (fun q hq hq2=>h q (by omega) hq2)⟩
    · refine ⟨.inl 80,?_, .inr ⟨rfl,fun h=>hc (h j (by omega) hlt)⟩⟩
      obtain ⟨K1,hK1⟩:=he
      by_cases c1:known.getD j 0=0
      · refine ⟨K1+1,fun k m hk1 hm1=>?_⟩
        obtain ⟨m,rfl⟩:∃q,m=q+1:=⟨m-1,by omega⟩
        show taplineref08_Check.l2 k t known (m+1) (j:Int)=_
        rw [taplineref08_Check.l2,if_pos (by simp;omega),if_pos (by omega),if_pos (fun _=>by omega),rd_nat,c1]
        rfl
      · by_cases c2:known.getD j 0≤512
        · cases c3:lostS t.vDefs t.vDefs.length (t.vDefs.getD j z_api_Def) with
          |true=>
            refine ⟨K1+1,fun k m hk1 hm1=>?_⟩
            obtain ⟨m,rfl⟩:∃q,m=q+1:=⟨m-1,by omega⟩
            show taplineref08_Check.l2 k t known (m+1) (j:Int)=_
            rw [taplineref08_Check.l2,if_pos (by simp;omega),if_pos (by omega),if_pos (fun _=>by omega),rd_nat,show taplineref08_ends.f k t (j:Int)=_ from hK1 k (by omega),c3]
            rw [show (known.getD j 0==0)=false from by simpa using c1,show decide (known.getD j 0>512)=false from decide_eq_false (by omega)]
            rfl
          |false=>
            have h4:(t.vDefs.getD j z_api_Def).vKind=4:=Classical.byContradiction fun h=>hc ⟨c1,c2,c3,fun h2=>absurd h2 h⟩
            have hpf:rplacedS (t.vDefs.getD j z_api_Def) known=false:=by
              cases hpp:rplacedS (t.vDefs.getD j z_api_Def) known with
              |false=>rfl
              |true=>exact absurd ⟨c1,c2,c3,fun _=>hpp⟩ hc
            obtain ⟨K3,hK3⟩:=rplaced_ev (d:=t.vDefs.getD j z_api_Def) (l:=known) (hF _ hmem).len (fun f hf=>by have:=(hS _ hmem).typ h4 f hf;rw [hk];exact this)
            refine ⟨max K1 K3+1,fun k m hk1 hm1=>?_⟩
            obtain ⟨m,rfl⟩:∃q,m=q+1:=⟨m-1,by omega⟩
            show taplineref08_Check.l2 k t known (m+1) (j:Int)=_
            rw [taplineref08_Check.l2,if_pos (by simp;omega),if_pos (by omega),if_pos (fun _=>by omega),rd_nat,rd_nat,show taplineref08_ends.f k t (j:Int)=_ from hK1 k (by omega),c3]
            rw [show (known.getD j 0==0)=false from by simpa using c1,show decide (known.getD j 0>512)=false from decide_eq_false (by omega)]
            simp only [Bool.or_self,beq_self_eq_true,Bool.and_self,if_true,Bool.not_false,Option.bind_some,Bool.not_true,Bool.false_eq_true,if_false]
            rw [if_pos (by omega),if_pos (fun _=>by omega),show ((t.vDefs.getD j z_api_Def).vKind==4)=true from by simpa using h4]
            simp only [Bool.true_and,beq_self_eq_true,if_true]
            rw [show taplineref08_placed.f k _ known=_ from hK3 k (by omega),hpf]
            rfl
        · refine ⟨K1+1,fun k m hk1 hm1=>?_⟩
          obtain ⟨m,rfl⟩:∃q,m=q+1:=⟨m-1,by omega⟩
          show taplineref08_Check.l2 k t known (m+1) (j:Int)=_
          rw [taplineref08_Check.l2,if_pos (by simp;omega),if_pos (by omega),if_pos (fun _=>by omega),rd_nat]
          rw [show (known.getD j 0==0)=false from by simpa using c1,show decide (known.getD j 0>512)=true from decide_eq_true (by omega)]
          rfl
theorem rcheck_iff {t:api_Types} (hF:∀d∈t.vDefs,FitD d):(∃l,Wf t l∧Ev (fun k=>taplineref08_sizes.f k t) l∧Ev (fun k=>taplineref08_Check.f k t) 0)∨((∀l,¬Wf t l)∧Ev (fun k=>taplineref08_Check.f k t) 80):=by
  by_cases hn:(t.vDefs.length:Int)>200
  · refine .inr ⟨fun l W=>by have:=W.few;omega,Ev.pure fun k=>?_⟩
    unfold taplineref08_Check.f
    rw [if_pos (by simpa using hn)]
  · have hn:t.vDefs.length≤200:=by omega
    have hcond:¬decide ((t.vDefs.length:Int)>200)=true:=by simp;omega
    obtain ⟨K,hK⟩:=(rdefs_loop hF (by omega) t.vDefs.length 0 (by omega)).diag
    simp only [List.take_zero,List.map_nil,List.reverse_nil,List.drop_zero] at hK
    cases hd:defsS t.vDefs.length [] t.vDefs with
    |false=>
      rw [hd] at hK
      refine .inr ⟨fun l W=>(by have:=W.defs;rw [hd] at this;cases this),⟨K,fun k hk=>?_⟩⟩
      show taplineref08_Check.f k t=_
      unfold taplineref08_Check.f
      rw [if_neg hcond,show taplineref08_Check.l0 k t k 0=_ from hK k hk]
      rfl
    |true=>
      rw [hd] at hK
      have hS:=defs_of _ _ hd
      obtain ⟨known,hsz,I,F⟩:=rsizes_ev hS hn
      obtain ⟨v,hv,hp⟩:=rlast_loop hF hS hn I.len t.vDefs.length 0 (by omega)
      obtain ⟨K2,hK2⟩:=hv.diag
      obtain ⟨K3,hK3⟩:=hsz
      rcases hp with ⟨rfl,hp⟩|⟨rfl,hp⟩
      · have hg:=rsizes_conv I (fun j hj=>⟨(hp j (by omega) hj).1,(hp j (by omega) hj).2.1⟩)
        have hidx:∀d∈t.vDefs,∃q,q<t.vDefs.length∧t.vDefs.getD q z_api_Def=d:=fun d hd=>by
          obtain ⟨q,hq,e⟩:=List.mem_iff_getElem.1 hd
          exact ⟨q,hq,by rw [List.getD_eq_getElem?_getD,List.getElem?_eq_getElem hq];exact e⟩
        refine .inl ⟨known,⟨hn,hd,hg,fun d hd=>?_,fun d hd h4=>?_⟩,⟨K3,hK3⟩,⟨max (max K K2) K3,fun k hk=>?_⟩⟩
        · obtain ⟨q,hq,rfl⟩:=hidx d hd
          exact (hp q (by omega) hq).2.2.1
        · rw [←rplaced_same hg hS hd h4]
          obtain ⟨q,hq,rfl⟩:=hidx d hd
          exact (hp q (by omega) hq).2.2.2 h4
        · show taplineref08_Check.f k t=_
          unfold taplineref08_Check.f
          rw [if_neg hcond,show taplineref08_Check.l0 k t k 0=_ from hK k (by omega)]
          simp only [if_true,Option.bind_some]
          rw [show taplineref08_sizes.f k t=_ from hK3 k (by omega)]
          simp only [Option.bind_some]
          rw [show taplineref08_Check.l2 k t known k 0=_ from hK2 k (by omega)]
          rfl
      · refine .inr ⟨fun l W=>?_,⟨max (max K K2) K3,fun k hk=>?_⟩⟩
        · have hkl:=rsizes_good hS I F W.sz
          subst hkl
          refine hp fun q _ hq=>?_
          obtain ⟨rk,h⟩:=W.sz.ex
          have hm:=getD_mem (z:=z_api_Def) hq
          refine ⟨by have:=(h q hq).1;omega,(h q hq).2.1,W.ends _ hm,fun h4=>?_⟩
          rw [rplaced_same W.sz hS hm h4]
          exact W.placed _ hm h4
        · show taplineref08_Check.f k t=_
          unfold taplineref08_Check.f
          rw [if_neg hcond,show taplineref08_Check.l0 k t k 0=_ from hK k (by omega)]
          simp only [if_true,Option.bind_some]
          rw [show taplineref08_sizes.f k t=_ from hK3 k (by omega)]
          simp only [Option.bind_some]
          rw [show taplineref08_Check.l2 k t known k 0=_ from hK2 k (by omega)]
          rfl
theorem wf_uniq {t:api_Types} {l m:List Int} (W:Wf t l) (V:Wf t m):l=m:=by
  have:=W.good.sizes.uniq V.good.sizes
  exact congrArg Prod.fst this
end Go.Proofs.YtfjppgobidjndaaDoor
namespace Go.Proofs.YtfjppgobidjndaaDoor
open Go.RowKit Go.M
def digOk (k n:Nat):Bool:=match taplineref08_Digits.f (k+4) (n:Int),strconv_Itoa.f (n:Int) with|some a,some b=>strEq a b&&decide (a.size≤3)|_,_=>false
theorem dig_all (k:Nat):(List.range 513).all (digOk k)=true:=by kernel_rfl
theorem dig_ev {n:Int} (h1:1≤n) (h2:n≤512):∃s,strconv_Itoa.f n=some s∧Ev (fun k=>taplineref08_Digits.f k n) s∧s.size≤3:=by
  obtain ⟨m,rfl⟩:∃m:Nat,n=(m:Int):=⟨n.toNat,by omega⟩
  have hat:∀k,digOk k m=true:=fun k=>List.all_eq_true.1 (dig_all k) m (List.mem_range.2 (by omega))
  have h0:=hat 0
  unfold digOk at h0
  cases hi:strconv_Itoa.f (m:Int) with
  |none=>
    rw [hi] at h0
    cases hd:taplineref08_Digits.f (0+4) (m:Int)<;>rw [hd] at h0<;>cases h0
  |some b=>
    refine ⟨b,rfl,⟨4,fun k hk=>?_⟩,?_⟩
    · obtain ⟨k,rfl⟩:∃q,k=q+4:=⟨k-4,by omega⟩
      have hk:=hat k
      unfold digOk at hk
      rw [hi] at hk
      show taplineref08_Digits.f (k+4) (m:Int)=_
      cases hd:taplineref08_Digits.f (k+4) (m:Int) with
      |none=>rw [hd] at hk;cases hk
      |some a=>
        rw [hd] at hk
        simp only [Bool.and_eq_true] at hk
        rw [strEq_iff.1 hk.1]
    · rw [hi] at h0
      cases hd:taplineref08_Digits.f (0+4) (m:Int) with
      |none=>rw [hd] at h0;cases h0
      |some a=>
        rw [hd] at h0
        simp only [Bool.and_eq_true,decide_eq_true_eq] at h0
        rw [←strEq_iff.1 h0.1];exact h0.2
theorem shaped_mem {n:Nat}:∀(ns:List ByteArray) (l:List api_Def),defsS n ns l=true→∀d∈l,shapedS d (n:Int)=true
  |_,[],_=>by simp
  |ns,d::r,h=>by
    simp only [defsS,Bool.and_eq_true] at h
    intro x hx
    rcases List.mem_cons.1 hx with rfl|hx
    · exact h.1.1
    · exact shaped_mem _ r h.2 x hx
theorem name_of {d:api_Def} {n:Int} (h:shapedS d n=true) (hn:namedS d=true):nameS d.vName=true:=by
  unfold shapedS at h
  unfold namedS at hn
  simp only [Bool.and_eq_true,bne_iff_ne,ne_eq] at hn
  cases hs:shp d.vKind with
  |none=>rw [hs] at h;cases h
  |some s=>
    rw [hs] at h
    simp only [Bool.and_eq_true] at h
    have h1:=h.1.1.1.1.1.1
    unfold shp at hs
    rw [if_neg hn.1,if_neg hn.2] at hs
    have hv:s.vname=true:=by
      repeat' split at hs
      all_goals first|(cases hs;done)|(injection hs with hs;subst hs;rfl)
    rwa [if_pos hv] at h1
theorem name_len {s:ByteArray} (h:nameS s=true):s.size≤31:=by
  unfold nameS at h
  simp only [Bool.and_eq_true,decide_eq_true_eq] at h
  omega
theorem anon_kind {d:api_Def} (hn:¬namedS d=true):d.vKind=2∨d.vKind=3:=by
  unfold namedS at hn
  by_cases h2:d.vKind=2
  · exact .inl h2
  · by_cases h3:d.vKind=3
    · exact .inr h3
    · exact absurd (by simp [h2,h3]) hn
theorem size_app (a b:ByteArray):(a++b).size=a.size+b.size:=ByteArray.size_append
theorem text_both {t:api_Types} {l:List Int} (W:Wf t l):∀(m i:Nat),m≤1000→i<t.vDefs.length→lostS t.vDefs m (t.vDefs.getD i z_api_Def)=false→
    ∃s,Ev (fun k=>ctf_text.f k t (i:Int)) s∧Ev (fun k=>taplineref08_Text.f k t (i:Int)) s∧s.size≤31+8*m:=by
  have base:∀(m i:Nat),i<t.vDefs.length→namedS (t.vDefs.getD i z_api_Def)=true→∃s,Ev (fun k=>ctf_text.f k t (i:Int)) s∧Ev (fun k=>taplineref08_Text.f k t (i:Int)) s∧s.size≤31+8*m:=by
    intro m i hi hn
    have hm:=getD_mem (z:=z_api_Def) hi
    have hsz:=name_len (name_of (shaped_mem _ _ W.defs _ hm) hn)
    have h2:¬((t.vDefs.getD i z_api_Def).vKind==2)=true:=by unfold namedS at hn;simp only [Bool.and_eq_true,bne_iff_ne,ne_eq] at hn;simpa using hn.1
    have h3:¬((t.vDefs.getD i z_api_Def).vKind==3)=true:=by unfold namedS at hn;simp only [Bool.and_eq_true,bne_iff_ne,ne_eq] at hn;simpa using hn.2
    refine ⟨(t.vDefs.getD i z_api_Def).vName,Ev.succ (Ev.pure fun k=>?_),Ev.succ (Ev.pure fun k=>?_),by omega⟩
    · rw [ctf_text.f,if_pos (by omega),rd_nat,if_neg h2,if_neg h3]
    · rw [taplineref08_Text.f,if_pos (by omega),rd_nat,if_neg h2,if_neg h3]
  intro m
  induction m with
  |zero=>
    intro i _ hi h
    simp only [lostS,Bool.not_eq_false'] at h
    exact base 0 i hi h
  |succ m ih=>
    intro i hm1 hi h
    simp only [lostS] at h
    by_cases hn:namedS (t.vDefs.getD i z_api_Def)=true
    · exact base (m+1) i hi hn
    · rw [if_neg hn] at h
      have hm:=getD_mem (z:=z_api_Def) hi
      have hk:=anon_kind hn
      have hr:=(W.sh _ hm).ref (by omega)
      obtain ⟨q,hq⟩:∃q:Nat,(t.vDefs.getD i z_api_Def).vRef=(q:Int):=⟨(t.vDefs.getD i z_api_Def).vRef.toNat,by omega⟩
      rw [hq,rd_nat] at h
      rw [hq] at hr
      obtain ⟨s,⟨K1,h1⟩,⟨K2,h2⟩,h3⟩:=ih q (by omega) (by omega) h
      have e2:ByteArray.size (⟨#[32,42]⟩:ByteArray)=2:=rfl
      have e3:ByteArray.size (⟨#[32,91]⟩:ByteArray)=2:=rfl
      have e1:ByteArray.size (⟨#[93]⟩:ByteArray)=1:=rfl
      by_cases hk2:(t.vDefs.getD i z_api_Def).vKind=2
      · refine ⟨s++(⟨#[32,42]⟩:ByteArray),⟨K1+1,fun k hk=>?_⟩,⟨K2+1,fun k hk=>?_⟩,by rw [size_app,e2];omega⟩
        · obtain ⟨k,rfl⟩:∃q,k=q+1:=⟨k-1,by omega⟩
          show ctf_text.f (k+1) t (i:Int)=_
          rw [ctf_text.f,if_pos (by omega),rd_nat,if_pos (beqT hk2),hq,show ctf_text.f k t (q:Int)=_ from h1 k (by omega)]
          simp only [Option.bind_some]
          rw [if_pos (by rw [e2];omega)]
        · obtain ⟨k,rfl⟩:∃q,k=q+1:=⟨k-1,by omega⟩
          show taplineref08_Text.f (k+1) t (i:Int)=_
          rw [taplineref08_Text.f,if_pos (by omega),rd_nat,if_pos (beqT hk2),hq,show taplineref08_Text.f k t (q:Int)=_ from h2 k (by omega)]
          simp only [Option.bind_some]
          rw [if_pos (by rw [e2];omega)]
      · have hk3:(t.vDefs.getD i z_api_Def).vKind=3:=by omega
        have hN:=(W.sh _ hm).num (.inl hk3)
        obtain ⟨dg,hd1,⟨K3,hd2⟩,hd3⟩:=dig_ev hN.1 hN.2
        refine ⟨((s++(⟨#[32,91]⟩:ByteArray))++dg)++(⟨#[93]⟩:ByteArray),⟨K1+1,fun k hk=>?_⟩,⟨max K2 K3+1,fun k hk=>?_⟩,by rw [size_app,size_app,size_app,e3,e1];omega⟩
        · obtain ⟨k,rfl⟩:∃q,k=q+1:=⟨k-1,by omega⟩
          show ctf_text.f (k+1) t (i:Int)=_
          rw [ctf_text.f,if_pos (by omega),rd_nat,if_neg (beqF hk2),if_pos (beqT hk3),hq,show ctf_text.f k t (q:Int)=_ from h1 k (by omega)]
          simp only [Option.bind_some]
          rw [if_pos (by rw [e3];omega),hd1]
          simp only [Option.bind_some]
          rw [if_pos (by rw [size_app,e3];omega),if_pos (by rw [size_app,size_app,e3,e1];omega)]
        · obtain ⟨k,rfl⟩:∃q,k=q+1:=⟨k-1,by omega⟩
          show taplineref08_Text.f (k+1) t (i:Int)=_
          rw [taplineref08_Text.f,if_pos (by omega),rd_nat,if_neg (beqF hk2),if_pos (beqT hk3),hq,show taplineref08_Text.f k t (q:Int)=_ from h2 k (by omega)]
          simp only [Option.bind_some]
          rw [if_pos (by rw [e3];omega),show taplineref08_Digits.f k _=_ from hd2 k (by omega)]
          simp only [Option.bind_some]
          rw [if_pos (by rw [size_app,e3];omega),if_pos (by rw [size_app,size_app,e3,e1];omega)]
section
variable {t:api_Types} {l:List Int}
theorem rgiven_good (hc:Ev (fun k=>taplineref08_Check.f k t) 0) (i:Int):Ev (fun k=>taplineref08_given.f k t i) (if 0≤i∧i<t.vDefs.length then 0 else 3):=by
  obtain ⟨K,hK⟩:=hc
  refine ⟨K,fun k hk=>?_⟩
  show taplineref08_given.f k t i=_
  unfold taplineref08_given.f taplineref08_Index.f
  rw [show taplineref08_Check.f k t=_ from hK k hk]
  by_cases h0:0≤i
  · by_cases h1:i<(t.vDefs.length:Int)
    · rw [if_pos ⟨h0,h1⟩];simp [h0,h1]
    · rw [if_neg (fun h=>h1 h.2)];simp [h0,h1]
  · rw [if_neg (fun h=>h0 h.1)];simp [h0]
theorem rgiven_bad (hc:Ev (fun k=>taplineref08_Check.f k t) 80) (i:Int):Ev (fun k=>taplineref08_given.f k t i) 80:=by
  obtain ⟨K,hK⟩:=hc
  refine ⟨K,fun k hk=>?_⟩
  show taplineref08_given.f k t i=_
  unfold taplineref08_given.f
  rw [show taplineref08_Check.f k t=_ from hK k hk]
  rfl
theorem given_both (hF:∀d∈t.vDefs,FitD d) (i:Int):(∃e,e≠0∧Ev (fun k=>ctf_given.f k t i) e∧Ev (fun k=>taplineref08_given.f k t i) e)∨
    (∃(n:Nat) (l:List Int),i=(n:Int)∧n<t.vDefs.length∧Wf t l∧Ev (fun k=>ctf_valid.f k t) true∧Ev (fun k=>taplineref08_sizes.f k t) l∧Ev (fun k=>ctf_given.f k t i) 0∧Ev (fun k=>taplineref08_given.f k t i) 0):=by
  rcases valid_iff hF with ⟨l,W,hv⟩|⟨hno,hv⟩
  · rcases rcheck_iff hF with ⟨l2,W2,hs,hc⟩|⟨hno,hc⟩
    · have h1:=given_good hv i
      have h2:=rgiven_good hc i
      by_cases h:0≤i∧i<t.vDefs.length
      · rw [if_pos h] at h1 h2
        exact .inr ⟨i.toNat,l2,by omega,by omega,W2,hv,hs,h1,h2⟩
      · rw [if_neg h] at h1 h2
        exact .inl ⟨3,by decide,h1,h2⟩
    · exact absurd W (hno l)
  · rcases rcheck_iff hF with ⟨l2,W2,hs,hc⟩|⟨hno,hc⟩
    · exact absurd W2 (hno l2)
    · exact .inl ⟨80,by decide,given_bad hv i,rgiven_bad hc i⟩
theorem Size_both (hF:∀d∈t.vDefs,FitD d) (i:Int):∃a e,Ev (fun k=>ctf_Size.f k t i) (a,e)∧Ev (fun k=>taplineref08_Size.f k t i) ⟨a,e⟩:=by
  rcases given_both hF i with ⟨e,he,h1,h2⟩|⟨n,l,rfl,hn,W,hv,hs,h1,h2⟩
  · refine ⟨0,e,Size_err h1 he,?_⟩
    obtain ⟨K,hK⟩:=h2
    refine ⟨K,fun k hk=>?_⟩
    show taplineref08_Size.f k t i=_
    unfold taplineref08_Size.f
    rw [show taplineref08_given.f k t i=_ from hK k hk]
    simp [he]
  · refine ⟨l.getD n 0,0,Size_ev W.good hv hn,?_⟩
    obtain ⟨K,hK⟩:=h2
    obtain ⟨K2,hK2⟩:=hs
    refine ⟨max K K2,fun k hk=>?_⟩
    show taplineref08_Size.f k t (n:Int)=_
    unfold taplineref08_Size.f
    rw [show taplineref08_given.f k t (n:Int)=_ from hK k (by omega)]
    simp only [Option.bind_some]
    rw [if_neg (by decide),show taplineref08_sizes.f k t=_ from hK2 k (by omega)]
    simp only [Option.bind_some]
    rw [if_pos (by rw [W.sz.len];omega),rd_nat]
theorem Text_both (hF:∀d∈t.vDefs,FitD d) (i:Int):∃s e,Ev (fun k=>ctf_Text.f k t i) (s,e)∧Ev (fun k=>taplineref08_TextOf.f k t i) ⟨s,e⟩:=by
  rcases given_both hF i with ⟨e,he,⟨K,hK⟩,⟨K2,hK2⟩⟩|⟨n,l,rfl,hn,W,hv,hs,⟨K,hK⟩,⟨K2,hK2⟩⟩
  · refine ⟨ByteArray.empty,e,⟨K,fun k hk=>?_⟩,⟨K2,fun k hk=>?_⟩⟩
    · show ctf_Text.f k t i=_
      unfold ctf_Text.f
      rw [show ctf_given.f k t i=_ from hK k hk]
      simp [he]
    · show taplineref08_TextOf.f k t i=_
      unfold taplineref08_TextOf.f
      rw [show taplineref08_given.f k t i=_ from hK2 k hk]
      simp [he]
  · obtain ⟨s,⟨K3,h3⟩,⟨K4,h4⟩,_⟩:=text_both W t.vDefs.length n (by have:=W.few;omega) hn (W.ends _ (getD_mem hn))
    refine ⟨s,0,⟨max K K3,fun k hk=>?_⟩,⟨max K2 K4,fun k hk=>?_⟩⟩
    · show ctf_Text.f k t (n:Int)=_
      unfold ctf_Text.f
      rw [show ctf_given.f k t (n:Int)=_ from hK k (by omega)]
      simp only [Option.bind_some]
      rw [if_neg (by decide),show ctf_text.f k t (n:Int)=_ from h3 k (by omega)]
      rfl
    · show taplineref08_TextOf.f k t (n:Int)=_
      unfold taplineref08_TextOf.f
      rw [show taplineref08_given.f k t (n:Int)=_ from hK2 k (by omega)]
      simp only [Option.bind_some]
      rw [if_neg (by decide),show taplineref08_Text.f k t (n:Int)=_ from h4 k (by omega)]
      rfl
def nameQ (name:ByteArray) (d:api_Def):Bool:=namedS d&&strEq d.vName name
def findV (t:api_Types) (name:ByteArray):Int:=if t.vDefs.any (nameQ name)=true then ((t.vDefs.findIdx (nameQ name):Nat):Int) else-1
theorem find_ev (hn:t.vDefs.length≤200) (name:ByteArray):Ev (fun k=>ctf_find.f k t name) (findV t name):=by
  refine ⟨t.vDefs.length+1,fun k hk=>?_⟩
  show ctf_find.f k t name=_
  unfold ctf_find.f slices_IndexFunc_api_Def_api_Def.f findV
  have:=index_loop (l:=t.vDefs) (p:=fun z0=>ctf_find_1.f z0 name) (q:=nameQ name) (fun z hz=>rfl) (by omega) t.vDefs.length 0 k (by omega) (by omega)
  rw [show slices_IndexFunc_api_Def_api_Def.l0 t.vDefs _ k 0=_ from this,List.drop_zero]
  cases t.vDefs.any (nameQ name)<;>simp
theorem rfind_loop {name:ByteArray} (hl:t.vDefs.length≤9223372036854775807):∀(d j m:Nat),j+d=t.vDefs.length→d<m→
    taplineref08_Find.l0 t name m (j:Int)=some (if ((t.vDefs.drop j).any (nameQ name))=true then .inl (((j+(t.vDefs.drop j).findIdx (nameQ name):Nat)):Int) else .inr ()):=by
  intro d
  induction d with
  |zero=>
    intro j m hj hm
    obtain ⟨m,rfl⟩:∃q,m=q+1:=⟨m-1,by omega⟩
    rw [taplineref08_Find.l0,if_neg (by simp;omega),List.drop_eq_nil_of_le (by omega)]
    rfl
  |succ d ih=>
    intro j m hj hm
    obtain ⟨m,rfl⟩:∃q,m=q+1:=⟨m-1,by omega⟩
    have hlt:j<t.vDefs.length:=by omega
    rw [taplineref08_Find.l0,if_pos (by simp;omega),if_pos (by omega),rd_nat,drop_getD z_api_Def hlt]
    simp only [taplineref08_Named.f,Option.bind_some]
    rw [if_pos (fun _=>by omega)]
    show (if nameQ name (t.vDefs.getD j z_api_Def)=true then _ else _)=_
    cases hb:nameQ name (t.vDefs.getD j z_api_Def) with
    |true=>
      rw [if_pos rfl]
      simp only [List.any_cons,hb,Bool.true_or,if_true,List.findIdx_cons,cond_true,Nat.add_zero]
    |false=>
      rw [if_neg (by simp),wrap_nat hlt hl,ih (j+1) m (by omega) (by omega)]
      simp only [List.any_cons,hb,Bool.false_or,List.findIdx_cons,cond_false]
      split
      · congr 2;omega
      · rfl
theorem rfind_ev (hn:t.vDefs.length≤200) (name:ByteArray):Ev (fun k=>taplineref08_Find.f k t name) (findV t name):=by
  refine ⟨t.vDefs.length+1,fun k hk=>?_⟩
  show taplineref08_Find.f k t name=_
  unfold taplineref08_Find.f findV
  have:=rfind_loop (t:=t) (name:=name) (by omega) t.vDefs.length 0 k (by omega) (by omega)
  rw [show taplineref08_Find.l0 t name k 0=_ from this,List.drop_zero]
  cases t.vDefs.any (nameQ name)<;>simp
theorem Lookup_both (hF:∀d∈t.vDefs,FitD d) (name:ByteArray):∃a e,Ev (fun k=>ctf_Lookup.f k t name) (a,e)∧Ev (fun k=>taplineref08_Lookup.f k t name) ⟨a,e⟩:=by
  rcases valid_iff hF with ⟨l,W,⟨K,hK⟩⟩|⟨hno,⟨K,hK⟩⟩
  · rcases rcheck_iff hF with ⟨l2,W2,_,⟨K2,hK2⟩⟩|⟨hno,_⟩
    · obtain ⟨K3,hK3⟩:=find_ev W.few name
      obtain ⟨K4,hK4⟩:=rfind_ev W.few name
      by_cases hneg:findV t name<0
      · refine ⟨0,3,⟨max K K3,fun k hk=>?_⟩,⟨max K2 K4,fun k hk=>?_⟩⟩
        · show ctf_Lookup.f k t name=_
          unfold ctf_Lookup.f
          rw [show ctf_valid.f k t=_ from hK k (by omega)]
          simp only [Option.bind_some]
          rw [if_neg (by decide),show ctf_find.f k t name=_ from hK3 k (by omega)]
          simp only [Option.bind_some]
          rw [if_pos (decT hneg)]
        · show taplineref08_Lookup.f k t name=_
          unfold taplineref08_Lookup.f
          rw [show taplineref08_Check.f k t=_ from hK2 k (by omega)]
          simp only [Option.bind_some]
          rw [if_neg (by decide),show taplineref08_Find.f k t name=_ from hK4 k (by omega)]
          simp only [Option.bind_some]
          rw [if_pos (decT hneg)]
      · refine ⟨findV t name,0,⟨max K K3,fun k hk=>?_⟩,⟨max K2 K4,fun k hk=>?_⟩⟩
        · show ctf_Lookup.f k t name=_
          unfold ctf_Lookup.f
          rw [show ctf_valid.f k t=_ from hK k (by omega)]
          simp only [Option.bind_some]
          rw [if_neg (by decide),show ctf_find.f k t name=_ from hK3 k (by omega)]
          simp only [Option.bind_some]
          rw [if_neg (decF hneg)]
        · show taplineref08_Lookup.f k t name=_
          unfold taplineref08_Lookup.f
          rw [show taplineref08_Check.f k t=_ from hK2 k (by omega)]
          simp only [Option.bind_some]
          rw [if_neg (by decide),show taplineref08_Find.f k t name=_ from hK4 k (by omega)]
          simp only [Option.bind_some]
          rw [if_neg (decF hneg)]
    · exact absurd W (hno l)
  · rcases rcheck_iff hF with ⟨l2,W2,_,_⟩|⟨_,⟨K2,hK2⟩⟩
    · exact absurd W2 (hno l2)
    · refine ⟨0,80,⟨K,fun k hk=>?_⟩,⟨K2,fun k hk=>?_⟩⟩
      · show ctf_Lookup.f k t name=_
        unfold ctf_Lookup.f
        rw [show ctf_valid.f k t=_ from hK k hk]
        rfl
      · show taplineref08_Lookup.f k t name=_
        unfold taplineref08_Lookup.f
        rw [show taplineref08_Check.f k t=_ from hK2 k hk]
        rfl
end
end Go.Proofs.YtfjppgobidjndaaDoor
