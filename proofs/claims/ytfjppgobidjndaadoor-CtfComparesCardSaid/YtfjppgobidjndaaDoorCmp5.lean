/- Parts of a proof, merged by program: F98 F50 F51 F52 F19 F21 F55 F22 F102 F56 F23 F57 F24 F58 F25 F26 F27 F4 Q8 Q10 Q11 Q12 F63 F64 F32. The walks (each function once) and the plain laws; no condition of their own. -/
import Derived.Test.YtfjppgobidjndaaDoorCmp4
set_option linter.unusedVariables false
set_option linter.unusedSimpArgs false
set_option maxRecDepth 20000
set_option maxHeartbeats 4000000
namespace Go.Proofs.YtfjppgobidjndaaDoor
open Go.RowKit Go.M
def taplineref08_size.l0 (a0:api_Def) (a1:List Int):Nat→Int→Option ((Int)⊕(Unit))
 |0,_=>none
 |m+1,y1_0=>if (decide (y1_0<(a0.vFields.length:Int)))=true then (if 0≤y1_0∧y1_0<a0.vFields.length then (if 0≤(rd z_api_Field a0.vFields y1_0).vType∧(rd z_api_Field a0.vFields y1_0).vType<a1.length then (if ((rd 0 a1 ((rd z_api_Field a0.vFields y1_0).vType))==0)=true then (some (.inl 0)) else (taplineref08_size.l0 a0 a1 m (IntKind.wrap .i64 (y1_0+1)))) else none) else none) else (some (.inr ()))
def taplineref08_size.f (k:Nat) (a0:api_Def) (a1:List Int):Option (Int):=if (a0.vKind==1)=true then (some a0.vInt.vSize) else (if (a0.vKind==2)=true then (some 8) else (if (a0.vKind==3)=true then (if 0≤a0.vRef∧a0.vRef<a1.length then (some (IntKind.wrap .i64 (a0.vN*(rd 0 a1 a0.vRef)))) else none) else (if (a0.vKind==5)=true then (some 4) else (if (a0.vKind==6)=true then (if 0≤a0.vRef∧a0.vRef<a1.length then (some (rd 0 a1 a0.vRef)) else none) else ((taplineref08_size.l0 a0 a1 k 0).bind fun xx1=>(match xx1 with| .inl r=>some r| .inr s1=>some a0.vN))))))
theorem taplineref08_size.calls (k:Nat) (a0:api_Def) (a1:List Int) (A0_6:Option Addr) (c0_6:Nat) (A1_0:Option Addr) (c1_0:Nat) {h0:View} {w0:World} (hv:Sees h0 w0) (hr0_6:Rd k_api_Field h0 A0_6 a0.vFields) (hc0_6:a0.vFields.length≤c0_6) (hr1_0:Rd (Kd.int .i64) h0 A1_0 a1) (hc1_0:a1.length≤c1_0) {r:Int} (H:taplineref08_size.f k a0 a1=some r):Calls Tryd.prog 98 #[Value.agg #[vI a0.vKind,vS a0.vName,vI a0.vInt.vSize,vB a0.vInt.vSigned,vI a0.vRef,vI a0.vN,vL A0_6 a0.vFields.length c0_6],vL A1_0 a1.length c1_0] w0 (fun e w1=>e= .returned (vI r)∧Ext w0 w1):=by
 unfold taplineref08_size.f at H
 have HS:St [] h0 w0 h0 [] w0:=St.init hv
 go_enter Tryd.func98,Tryd.ntmps98
 refine wp_seq<|region<|run_ex rfl rfl (does_box (cs:=#[vI a0.vKind,vS a0.vName,vI a0.vInt.vSize,vB a0.vInt.vSigned,vI a0.vRef,vI a0.vN,vL A0_6 a0.vFields.length c0_6]) rfl rfl) ?_
 rintro w1 _ hE1 ⟨b1,rfl,ge1,hb1⟩
 have HS1:=HS.new hE1 ge1 hb1
 refine rs (vI 0) (r_assign rfl) ?_
 try simp only [sc0,sc1]
 refine run_nil<|norm_then<|wp_seq<|wp_seq<|region<|rs (vP b1 0) (r_fieldBox (n:=1) (o':=0) rfl Tryd.runUnderlying34 rfl Tryd.sizeOf3 (by decide) rfl)<|rs (vI a0.vKind) (r_loadBox rfl Tryd.isAgg3 (HS1.look 0 rfl) rfl) ?_
 try simp only [sc0,sc1]
 refine run_nil<|norm_then<|wp_block<|wp_seq<|region<|rs (vB (a0.vKind==1)) (r_bin rfl rfl rfl)<|rs (vB (a0.vKind==1)) (r_assign rfl) ?_
 try simp only [sc0,sc1]
 refine run_nil<|norm_then<|wp_cond_split (t:=(a0.vKind==1)) rfl (fun c1=>?_) (fun c1=>?_)
 ·replace H:=of_pos H c1
  refine wp_seq<|region<|rs (vP b1 2) (r_fieldBox (n:=2) (o':=2) rfl Tryd.runUnderlying34 rfl Tryd.sizeOf31 (by decide) rfl)<|rs (vP b1 2) (r_fieldBox (n:=1) (o':=2) rfl Tryd.runUnderlying31 rfl Tryd.sizeOf3 (by decide) rfl)<|rs (vI a0.vInt.vSize) (r_loadBox rfl Tryd.isAgg3 (HS1.look 0 rfl) rfl)<|rs (vI a0.vInt.vSize) (r_assign rfl) ?_
  try simp only [sc0,sc1]
  refine run_nil<|norm_then<|wp_ret<|ret_block<|ret_then ?_
  obtain rfl:=Option.some.inj H
  exact bodyPost_ret (results_1 rfl (one_tmp rfl)) rfl<|⟨rfl,HS1.toE⟩
 ·replace H:=of_neg H (nt c1)
  refine wp_seq<|region<|rs (vB (a0.vKind==2)) (r_bin rfl rfl rfl)<|rs (vB (a0.vKind==2)) (r_assign rfl) ?_
  try simp only [sc0,sc1]
  refine run_nil<|norm_then<|wp_cond_split (t:=(a0.vKind==2)) rfl (fun c2=>?_) (fun c2=>?_)
  ·replace H:=of_pos H c2
   refine wp_seq<|region<|rs (vI 8) (r_assign rfl) ?_
   try simp only [sc0,sc1]
   refine run_nil<|norm_then<|wp_ret<|ret_block<|ret_then ?_
   obtain rfl:=Option.some.inj H
   exact bodyPost_ret (results_1 rfl (one_tmp rfl)) rfl<|⟨rfl,HS1.toE⟩
  ·replace H:=of_neg H (nt c2)
   refine wp_seq<|region<|rs (vB (a0.vKind==3)) (r_bin rfl rfl rfl)<|rs (vB (a0.vKind==3)) (r_assign rfl) ?_
   try simp only [sc0,sc1]
   refine run_nil<|norm_then<|wp_cond_split (t:=(a0.vKind==3)) rfl (fun c3=>?_) (fun c3=>?_)
   ·replace H:=of_pos H c3
    refine wp_seq ?_
    obtain ⟨hi1,H⟩:=of_ite H
    obtain ⟨ad1,e1,hel1⟩:=ld_int hr1_0 hi1.1 hi1.2
    refine drawn [.eq (vP b1 5), .eq (vI a0.vN), .eq (vL A1_0 a1.length c1_0), .eq (vP b1 4), .eq (vI a0.vRef), .eq (Value.pointer (some (Addr.add ad1 (a0.vRef.toNat*1)))), .eq (vI (rd 0 a1 a0.vRef)), .eq (vI (w64 (a0.vN*(rd 0 a1 a0.vRef))))] [17,18,19,20,21,22,23,24] hmix (by kernel_rfl) rfl (stable_eq (stable_eq (stable_eq (stable_eq (stable_eq (stable_eq (stable_eq (stable_eq stable_nil)))))))) ⟨ob_plain rfl (fun a' w' hE hk=>by have HSd:=HS1.step hE;exact does_eq (r_fieldBox (n:=1) (o':=5) (show _=vP b1 0 from hk 2 rfl) Tryd.runUnderlying34 rfl Tryd.sizeOf3 (by decide) rfl)),ob_plain rfl (fun a' w' hE hk=>by have HSd:=HS1.step hE;exact does_eq (r_loadBox (show _=vP b1 5 from hk 17 rfl) Tryd.isAgg3 (HSd.look 0 rfl) rfl)),ob_plain rfl (fun a' w' hE hk=>by have HSd:=HS1.step hE;exact does_eq (r_move (show _=vL A1_0 a1.length c1_0 from hk 1 rfl))),ob_plain rfl (fun a' w' hE hk=>by have HSd:=HS1.step hE;exact does_eq (r_fieldBox (n:=1) (o':=4) (show _=vP b1 0 from hk 2 rfl) Tryd.runUnderlying34 rfl Tryd.sizeOf3 (by decide) rfl)),ob_plain rfl (fun a' w' hE hk=>by have HSd:=HS1.step hE;exact does_eq (r_loadBox (show _=vP b1 4 from hk 20 rfl) Tryd.isAgg3 (HSd.look 0 rfl) rfl)),ob_plain rfl (fun a' w' hE hk=>by have HSd:=HS1.step hE;exact does_eq (r_indexA (sz:=1) (show _=vL A1_0 a1.length c1_0 from hk 19 rfl) e1 (show _=vI a0.vRef from hk 21 rfl) hi1.1 hi1.2 Tryd.runUnderlying62 Tryd.sizeOf3)),ob_plain rfl (fun a' w' hE hk=>by have HSd:=HS1.step hE;exact does_eq (r_load (show _=Value.pointer (some (Addr.add ad1 (a0.vRef.toNat*1))) from hk 22 rfl) Tryd.isAgg3 (hel1.cell0 HSd.sees rfl))),ob_plain rfl (fun a' w' hE hk=>by have HSd:=HS1.step hE;exact does_eq (r_bin (show _=vI a0.vN from hk 18 rfl) (show _=vI (rd 0 a1 a0.vRef) from hk 23 rfl) rfl)),trivial⟩ ?_
    intro w2 hE2
    simp only [List.zip_cons_cons,List.zip_nil_left,List.zip_nil_right,finL,sc0,sc1,List.length_cons,List.length_nil,List.drop_succ_cons,List.drop_zero,Nat.zero_add,Nat.reduceAdd]
    have HS2:=HS1.step hE2
    refine rs (vI (w64 (a0.vN*(rd 0 a1 a0.vRef)))) (r_assign rfl) ?_
    try simp only [sc0,sc1]
    refine run_nil<|norm_then<|wp_ret<|ret_block<|ret_then ?_
    obtain rfl:=Option.some.inj H
    exact bodyPost_ret (results_1 rfl (one_tmp rfl)) rfl<|⟨rfl,HS2.toE⟩
   ·replace H:=of_neg H (nt c3)
    refine wp_seq<|region<|rs (vB (a0.vKind==5)) (r_bin rfl rfl rfl)<|rs (vB (a0.vKind==5)) (r_assign rfl) ?_
    try simp only [sc0,sc1]
    refine run_nil<|norm_then<|wp_cond_split (t:=(a0.vKind==5)) rfl (fun c4=>?_) (fun c4=>?_)
    ·replace H:=of_pos H c4
     refine wp_seq<|region<|rs (vI 4) (r_assign rfl) ?_
     try simp only [sc0,sc1]
     refine run_nil<|norm_then<|wp_ret<|ret_block<|ret_then ?_
     obtain rfl:=Option.some.inj H
     exact bodyPost_ret (results_1 rfl (one_tmp rfl)) rfl<|⟨rfl,HS1.toE⟩
    ·replace H:=of_neg H (nt c4)
     refine wp_seq<|region<|rs (vB (a0.vKind==6)) (r_bin rfl rfl rfl)<|rs (vB (a0.vKind==6)) (r_assign rfl) ?_
     try simp only [sc0,sc1]
     refine run_nil<|norm_then<|wp_cond_split (t:=(a0.vKind==6)) rfl (fun c5=>?_) (fun c5=>?_)
     ·replace H:=of_pos H c5
      refine wp_seq<|region<|rs (vL A1_0 a1.length c1_0) (r_move rfl)<|rs (vP b1 4) (r_fieldBox (n:=1) (o':=4) rfl Tryd.runUnderlying34 rfl Tryd.sizeOf3 (by decide) rfl)<|rs (vI a0.vRef) (r_loadBox rfl Tryd.isAgg3 (HS1.look 0 rfl) rfl) ?_
      obtain ⟨hi2,H⟩:=of_ite H
      obtain ⟨ad2,e2,hel2⟩:=ld_int hr1_0 hi2.1 hi2.2
      refine rs (Value.pointer (some (Addr.add ad2 (a0.vRef.toNat*1)))) (r_indexA (sz:=1) rfl e2 rfl hi2.1 hi2.2 Tryd.runUnderlying62 Tryd.sizeOf3)<|run_frame (by simp only [sc0,sc1];rfl) ?_
      refine rs (vI (rd 0 a1 a0.vRef)) (r_load rfl Tryd.isAgg3 (hel2.cell0 HS1.sees rfl))<|rs (vI (rd 0 a1 a0.vRef)) (r_assign rfl) ?_
      try simp only [sc0,sc1]
      refine run_nil<|norm_then<|wp_ret<|ret_block<|ret_then ?_
      obtain rfl:=Option.some.inj H
      exact bodyPost_ret (results_1 rfl (one_tmp rfl)) rfl<|⟨rfl,HS1.toE⟩
     ·replace H:=of_neg H (nt c5)
      refine wp_skip<|norm_block<|norm_then<|wp_seq<|wp_seq<|region<|rs (vI 0) (r_assign rfl) ?_
      try simp only [sc0,sc1]
      refine run_nil<|norm_then ?_
      obtain ⟨xx1,H,G1⟩:=of_bind H
      refine loop_j [4,5,34,35,36,37,38,39,40,41,42,43,44,45,46,47,48,49,50] (fun m us w'=>∃(y1_0:Int),Fit us (fun uy1=>[(uy1 0),vI y1_0,(uy1 2),(uy1 3),(uy1 4),(uy1 5),(uy1 6),(uy1 7),(uy1 8),(uy1 9),(uy1 10),(uy1 11),(uy1 12),(uy1 13),(uy1 14),(uy1 15),(uy1 16),(uy1 17),(uy1 18)])∧taplineref08_size.l0 a0 a1 m y1_0=some xx1∧St [] h0 w0 h0 [(some b1, .cells #[vI a0.vKind,vS a0.vName,vI a0.vInt.vSize,vB a0.vInt.vSigned,vI a0.vRef,vI a0.vN,vL A0_6 a0.vFields.length c0_6] 34 (0,0))] w') (fun us w'=>∃(s1:Unit),xx1= .inr s1∧Fit us (fun uo1=>[(uo1 0),(uo1 1),(uo1 2),(uo1 3),(uo1 4),(uo1 5),(uo1 6),(uo1 7),(uo1 8),(uo1 9),(uo1 10),(uo1 11),(uo1 12),(uo1 13),(uo1 14),(uo1 15),(uo1 16),(uo1 17),(uo1 18)])∧St [] h0 w0 h0 [(some b1, .cells #[vI a0.vKind,vS a0.vName,vI a0.vInt.vSize,vB a0.vInt.vSigned,vI a0.vRef,vI a0.vN,vL A0_6 a0.vFields.length c0_6] 34 (0,0))] w') k ⟨0,(fit rfl),H,HS1⟩ ?_ ?_
      ·rintro m us w3 ⟨y1_0,huy1,H,HS3⟩
       obtain ⟨uy1,rfl⟩:=unj huy1
       cases m with
       |zero=>exact absurd H (by simp [taplineref08_size.l0])
       |succ m=>
        rw [taplineref08_size.l0] at H
        try simp only [patch,sc0,sc1]
        refine wp_seq<|wp_seq<|region<|rs (vI y1_0) (r_move rfl)<|rs (vP b1 6) (r_fieldBox (n:=1) (o':=6) rfl Tryd.runUnderlying34 rfl Tryd.sizeOf32 (by decide) rfl)<|rs (vL A0_6 a0.vFields.length c0_6) (r_loadBox rfl Tryd.isAgg32 (HS3.look 0 rfl) rfl)<|rs (vI (a0.vFields.length:Int)) (r_len rfl Tryd.runUnderlying32)<|run_frame (by simp only [sc0,sc1];rfl) ?_
        refine rs (vB (decide (y1_0<(a0.vFields.length:Int)))) (r_bin rfl rfl rfl) ?_
        try simp only [sc0,sc1]
        refine run_nil<|norm_then<|wp_cond_split (t:=(decide (y1_0<(a0.vFields.length:Int)))) rfl (fun c6=>?_) (fun c6=>?_)
        ·replace H:=of_pos H c6
         refine wp_skip<|norm_then<|wp_seq<|wp_block<|wp_seq<|region<|rs (vL A1_0 a1.length c1_0) (r_move rfl)<|rs (vP b1 6) (r_fieldBox (n:=1) (o':=6) rfl Tryd.runUnderlying34 rfl Tryd.sizeOf32 (by decide) rfl)<|rs (vL A0_6 a0.vFields.length c0_6) (r_loadBox rfl Tryd.isAgg32 (HS3.look 0 rfl) rfl)<|rs (vI y1_0) (r_move rfl)<|run_frame (by simp only [sc0,sc1];rfl) ?_
         obtain ⟨hi3,H⟩:=of_ite H
         obtain ⟨ad3,e3,hel3⟩:=ld_api_Field hr0_6 hi3.1 hi3.2
         refine rs (Value.pointer (some (Addr.add ad3 (y1_0.toNat*3)))) (r_indexA (sz:=3) rfl e3 rfl hi3.1 hi3.2 Tryd.runUnderlying32 Tryd.sizeOf36)<|rs (Value.pointer (some (Addr.add (Addr.add ad3 (y1_0.toNat*3)) 1))) (r_fieldEl (n:=1) (o':=1) rfl Tryd.runUnderlying36 rfl Tryd.sizeOf3 (by decide) rfl)<|rs (vI ((rd z_api_Field a0.vFields y1_0).vType)) (r_load rfl Tryd.isAgg3 (hel3.cell HS3.sees 1 rfl)) ?_
         obtain ⟨hi4,H⟩:=of_ite H
         obtain ⟨ad4,e4,hel4⟩:=ld_int hr1_0 hi4.1 hi4.2
         refine rs (Value.pointer (some (Addr.add ad4 (((rd z_api_Field a0.vFields y1_0).vType).toNat*1)))) (r_indexA (sz:=1) rfl e4 rfl hi4.1 hi4.2 Tryd.runUnderlying62 Tryd.sizeOf3)<|run_frame (by simp only [sc0,sc1];rfl) ?_
         refine rs (vI (rd 0 a1 ((rd z_api_Field a0.vFields y1_0).vType))) (r_load rfl Tryd.isAgg3 (hel4.cell0 HS3.sees rfl))<|rs (vB ((rd 0 a1 ((rd z_api_Field a0.vFields y1_0).vType))==0)) (r_bin rfl rfl rfl) ?_
         try simp only [sc0,sc1]
         refine run_nil<|norm_then<|wp_cond_split (t:=((rd 0 a1 ((rd z_api_Field a0.vFields y1_0).vType))==0)) rfl (fun c7=>?_) (fun c7=>?_)
         ·replace H:=of_pos H c7
          refine wp_seq<|region<|rs (vI 0) (r_assign rfl) ?_
          try simp only [sc0,sc1]
          refine run_nil<|norm_then<|wp_ret<|ret_block<|ret_then<|ret_loop<|ret_then ?_
          obtain rfl:=Option.some.inj H
          obtain rfl:=Option.some.inj G1
          exact bodyPost_ret (results_1 rfl (one_tmp rfl)) rfl<|⟨rfl,HS3.toE⟩
         ·replace H:=of_neg H (nt c7)
          refine wp_skip<|norm_block<|norm_then<|region<|rs (vI y1_0) (r_move rfl)<|rs (vI (w64 (y1_0+1))) (r_bin rfl rfl rfl)<|rs (vI (w64 (y1_0+1))) (r_assign rfl) ?_
          try simp only [sc0,sc1]
          refine run_nil<|again_j m (Nat.lt_succ_self m) rfl ⟨(w64 (y1_0+1)),(fit rfl),H,HS3⟩
        ·replace H:=of_neg H (nt c6)
         refine wp_exit<|exit_then ?_
         obtain rfl:=Option.some.inj H
         refine leave_j rfl ⟨_,rfl,(fit rfl),HS3⟩
      ·rintro us w4 ⟨s1,rfl,huo1,HS4⟩
       obtain ⟨uo1,rfl⟩:=unj huo1
       replace H:=G1
       clear G1
       try simp only [patch,sc0,sc1]
       refine norm_then<|wp_seq<|region<|rs (vP b1 5) (r_fieldBox (n:=1) (o':=5) rfl Tryd.runUnderlying34 rfl Tryd.sizeOf3 (by decide) rfl)<|rs (vI a0.vN) (r_loadBox rfl Tryd.isAgg3 (HS4.look 0 rfl) rfl)<|rs (vI a0.vN) (r_assign rfl) ?_
       try simp only [sc0,sc1]
       refine run_nil<|norm_then<|wp_ret ?_
       obtain rfl:=Option.some.inj H
       exact bodyPost_ret (results_1 rfl (one_tmp rfl)) rfl<|⟨rfl,HS4.toE⟩
def taplineref08_sizes.l1 (k:Nat) (a0:api_Types):Nat→Bool→Int→(List Int)→Option (Bool×(List Int))
 |0,_,_,_=>none
 |m+1,y2_0,y2_1,y2_2=>if (decide (y2_1<(a0.vDefs.length:Int)))=true then (if 0≤y2_1∧y2_1<(((a0.vDefs.length:Int).toNat:Nat):Int) then (if ((rd 0 y2_2 y2_1) !=0)=true then (taplineref08_sizes.l1 k a0 m y2_0 (IntKind.wrap .i64 (y2_1+1)) y2_2) else (if 0≤y2_1∧y2_1<a0.vDefs.length then ((taplineref08_size.f k (rd z_api_Def a0.vDefs y2_1) y2_2).bind fun v1=>(if (decide (v1>0))=true then (if 0≤y2_1∧y2_1<(((a0.vDefs.length:Int).toNat:Nat):Int) then (taplineref08_sizes.l1 k a0 m true (IntKind.wrap .i64 (y2_1+1)) (List.set y2_2 y2_1.toNat (iMin v1 513))) else none) else (taplineref08_sizes.l1 k a0 m y2_0 (IntKind.wrap .i64 (y2_1+1)) y2_2))) else none)) else none) else (some (y2_0,y2_2))
def taplineref08_sizes.l0 (k:Nat) (a0:api_Types):Nat→Bool→(List Int)→Option ((List Int))
 |0,_,_=>none
 |m+1,y1_0,y1_1=>if y1_0=true then ((taplineref08_sizes.l1 k a0 k false 0 y1_1).bind fun xx2=>(taplineref08_sizes.l0 k a0 m xx2.1 xx2.2)) else (some y1_1)
def taplineref08_sizes.f (k:Nat) (a0:api_Types):Option ((List Int)):=if 0≤(a0.vDefs.length:Int)∧(a0.vDefs.length:Int)≤4294967296 then ((taplineref08_sizes.l0 k a0 k true (List.replicate (a0.vDefs.length:Int).toNat (0:Int))).bind fun xx1=>(some xx1)) else none
theorem taplineref08_sizes.calls (k:Nat) (a0:api_Types) (A0_0:Option Addr) (c0_0:Nat) {h0:View} {w0:World} (hv:Sees h0 w0) (hr0_0:Rd k_api_Def h0 A0_0 a0.vDefs) (hc0_0:a0.vDefs.length≤c0_0) {r:(List Int)} (H:taplineref08_sizes.f k a0=some r):Calls Tryd.prog 50 #[Value.agg #[vL A0_0 a0.vDefs.length c0_0]] w0 (fun e w1=>∃(h1:View) (A0_0:Option Addr) (c0_0:Nat),e= .returned (vL A0_0 r.length c0_0)∧r.length≤c0_0∧Rd (Kd.int .i64) h1 A0_0 r∧Gr w0.heap.size h0 h1∧Sees h1 w1∧Ext w0 w1):=by
 unfold taplineref08_sizes.f at H
 have HS:St [] h0 w0 h0 [] w0:=St.init hv
 go_enter Tryd.func50,Tryd.ntmps50
 refine wp_seq<|region<|run_ex rfl rfl (does_box (cs:=#[vL A0_0 a0.vDefs.length c0_0]) rfl rfl) ?_
 rintro w1 _ hE1 ⟨b1,rfl,ge1,hb1⟩
 have HS1:=HS.new hE1 ge1 hb1
 refine rs (vL none 0 0) (r_assign rfl) ?_
 try simp only [sc0,sc1]
 refine run_nil<|norm_then<|wp_seq<|region<|rs (vP b1 0) (r_fieldBox (n:=1) (o':=0) rfl Tryd.runUnderlying24 rfl Tryd.sizeOf22 (by decide) rfl)<|rs (vL A0_0 a0.vDefs.length c0_0) (r_loadBox rfl Tryd.isAgg22 (HS1.look 0 rfl) rfl)<|rs (vI (a0.vDefs.length:Int)) (r_len rfl Tryd.runUnderlying22) ?_
 obtain ⟨hk1,H⟩:=of_ite H
 refine run_mk (Kd.int .i64) 0 (zs:=[vI 0]) rfl rfl hk1 Tryd.runUnderlying62 Tryd.typeInfo3 (by decide) rfl Tryd.zeroValue3 rfl rfl HS1 ?_
 intro w2 b2 cs1 HS2 ho1
 refine run_frame (by simp only [sc0,sc1];rfl) ?_
 refine rs (vL (rowA (some b2)) ((a0.vDefs.length:Int).toNat) ((a0.vDefs.length:Int).toNat)) (r_assign rfl) ?_
 try simp only [sc0,sc1]
 refine run_nil<|norm_then<|wp_seq<|wp_seq<|region<|rs (vB true) (r_assign rfl) ?_
 try simp only [sc0,sc1]
 refine run_nil<|norm_then ?_
 obtain ⟨xx1,H,G1⟩:=of_bind H
 refine loop_j [4,5,6,11,12,13,14,15,16,17,18,19,20,21,22,23,24,25,26,27,28,29,30,31,32,33,34,35,36,37] (fun m us w'=>∃y1_0:Bool,∃y1_1:List Int,∃csy1_1:List Value,Fit us (fun uy1=>[vB y1_0,(uy1 1),(uy1 2),(uy1 3),(uy1 4),(uy1 5),(uy1 6),(uy1 7),(uy1 8),(uy1 9),(uy1 10),(uy1 11),(uy1 12),(uy1 13),(uy1 14),(uy1 15),(uy1 16),(uy1 17),(uy1 18),(uy1 19),(uy1 20),(uy1 21),(uy1 22),(uy1 23),(uy1 24),(uy1 25),(uy1 26),(uy1 27),(uy1 28),(uy1 29)])∧taplineref08_sizes.l0 k a0 m y1_0 y1_1=some xx1∧RowOk (Kd.int .i64) h0 y1_1 (some b2) ((a0.vDefs.length:Int).toNat) ((a0.vDefs.length:Int).toNat) csy1_1∧St [] h0 w0 h0 [((some b2), .cells (csy1_1).toArray 3 (0,0)),(some b1, .cells #[vL A0_0 a0.vDefs.length c0_0] 24 (0,0))] w') (fun us w'=>∃(cso2_0:List Value),Fit us (fun uo2=>[(uo2 0),(uo2 1),(uo2 2),(uo2 3),(uo2 4),(uo2 5),(uo2 6),(uo2 7),(uo2 8),(uo2 9),(uo2 10),(uo2 11),(uo2 12),(uo2 13),(uo2 14),(uo2 15),(uo2 16),(uo2 17),(uo2 18),(uo2 19),(uo2 20),(uo2 21),(uo2 22),(uo2 23),(uo2 24),(uo2 25),(uo2 26),(uo2 27),(uo2 28),(uo2 29)])∧RowOk (Kd.int .i64) h0 xx1 (some b2) ((a0.vDefs.length:Int).toNat) ((a0.vDefs.length:Int).toNat) cso2_0∧St [] h0 w0 h0 [((some b2), .cells (cso2_0).toArray 3 (0,0)),(some b1, .cells #[vL A0_0 a0.vDefs.length c0_0] 24 (0,0))] w') k ⟨true,(List.replicate (a0.vDefs.length:Int).toNat (0:Int)),cs1,(fit rfl),H,ho1,HS2⟩ ?_ ?_
 ·rintro m us w3 ⟨y1_0,y1_1,csy1_1,huy1,H,hoy1_1,HS3⟩
  obtain ⟨uy1,rfl⟩:=unj huy1
  cases m with
  |zero=>exact absurd H (by simp [taplineref08_sizes.l0])
  |succ m=>
   rw [taplineref08_sizes.l0] at H
   try simp only [patch,sc0,sc1]
   refine wp_seq<|wp_seq<|region<|rs (vB y1_0) (r_move rfl) ?_
   try simp only [sc0,sc1]
   refine run_nil<|norm_then<|wp_cond_split (t:=y1_0) rfl (fun c1=>?_) (fun c1=>?_)
   ·replace H:=of_pos H c1
    refine wp_skip<|norm_then<|wp_block<|wp_seq<|region<|rs (vB false) (r_assign rfl) ?_
    try simp only [sc0,sc1]
    refine run_nil<|norm_then<|wp_seq<|region<|rs (vI 0) (r_assign rfl) ?_
    try simp only [sc0,sc1]
    refine run_nil<|norm_then ?_
    obtain ⟨xx2,H,G2⟩:=of_bind H
    refine loop_j [4,5,6,12,13,14,15,16,17,18,19,20,21,22,23,24,25,26,27,28,29,30,31,32,33,34,35,36,37] (fun m us w'=>∃y2_0:Bool,∃y2_1:Int,∃y2_2:List Int,∃csy2_2:List Value,Fit us (fun uy2=>[vB y2_0,vI y2_1,(uy2 2),(uy2 3),(uy2 4),(uy2 5),(uy2 6),(uy2 7),(uy2 8),(uy2 9),(uy2 10),(uy2 11),(uy2 12),(uy2 13),(uy2 14),(uy2 15),(uy2 16),(uy2 17),(uy2 18),(uy2 19),(uy2 20),(uy2 21),(uy2 22),(uy2 23),(uy2 24),(uy2 25),(uy2 26),(uy2 27),(uy2 28)])∧taplineref08_sizes.l1 k a0 m y2_0 y2_1 y2_2=some xx2∧RowOk (Kd.int .i64) h0 y2_2 (some b2) ((a0.vDefs.length:Int).toNat) ((a0.vDefs.length:Int).toNat) csy2_2∧St [] h0 w0 h0 [((some b2), .cells (csy2_2).toArray 3 (0,0)),(some b1, .cells #[vL A0_0 a0.vDefs.length c0_0] 24 (0,0))] w') (fun us w'=>∃(cso1_1:List Value),Fit us (fun uo1=>[vB xx2.1,(uo1 1),(uo1 2),(uo1 3),(uo1 4),(uo1 5),(uo1 6),(uo1 7),(uo1 8),(uo1 9),(uo1 10),(uo1 11),(uo1 12),(uo1 13),(uo1 14),(uo1 15),(uo1 16),(uo1 17),(uo1 18),(uo1 19),(uo1 20),(uo1 21),(uo1 22),(uo1 23),(uo1 24),(uo1 25),(uo1 26),(uo1 27),(uo1 28)])∧RowOk (Kd.int .i64) h0 xx2.2 (some b2) ((a0.vDefs.length:Int).toNat) ((a0.vDefs.length:Int).toNat) cso1_1∧St [] h0 w0 h0 [((some b2), .cells (cso1_1).toArray 3 (0,0)),(some b1, .cells #[vL A0_0 a0.vDefs.length c0_0] 24 (0,0))] w') k ⟨false,0,y1_1,csy1_1,(fit rfl),H,hoy1_1,HS3⟩ ?_ ?_
    ·rintro m us w4 ⟨y2_0,y2_1,y2_2,csy2_2,huy2,H,hoy2_2,HS4⟩
     obtain ⟨uy2,rfl⟩:=unj huy2
     cases m with
     |zero=>exact absurd H (by simp [taplineref08_sizes.l1])
     |succ m=>
      rw [taplineref08_sizes.l1] at H
      try simp only [patch,sc0,sc1]
      refine wp_seq<|wp_seq<|region<|rs (vI y2_1) (r_move rfl)<|rs (vP b1 0) (r_fieldBox (n:=1) (o':=0) rfl Tryd.runUnderlying24 rfl Tryd.sizeOf22 (by decide) rfl)<|rs (vL A0_0 a0.vDefs.length c0_0) (r_loadBox rfl Tryd.isAgg22 (HS4.look 1 rfl) rfl)<|rs (vI (a0.vDefs.length:Int)) (r_len rfl Tryd.runUnderlying22)<|run_frame (by simp only [sc0,sc1];rfl) ?_
      refine rs (vB (decide (y2_1<(a0.vDefs.length:Int)))) (r_bin rfl rfl rfl) ?_
      try simp only [sc0,sc1]
      refine run_nil<|norm_then<|wp_cond_split (t:=(decide (y2_1<(a0.vDefs.length:Int)))) rfl (fun c2=>?_) (fun c2=>?_)
      ·replace H:=of_pos H c2
       refine wp_skip<|norm_then<|wp_seq<|wp_block<|wp_seq<|wp_seq<|region<|rs (vL (rowA (some b2)) ((a0.vDefs.length:Int).toNat) ((a0.vDefs.length:Int).toNat)) (r_move rfl)<|rs (vI y2_1) (r_move rfl) ?_
       obtain ⟨hi1,H⟩:=of_ite H
       obtain ⟨rb1,_,hrb1,rfl,hp1⟩:=hoy2_2.at 0 hi1.1 hi1.2
       refine rs (Value.pointer (some ⟨rb1,y2_1.toNat*1+0,none⟩)) (r_indexRow (sz:=1) rfl hrb1 rfl hi1.1 hi1.2 Tryd.runUnderlying62 Tryd.sizeOf3)<|rs (vI (rd 0 y2_2 y2_1)) (r_loadBox (cs:=csy2_2) rfl Tryd.isAgg3 (HS4.lookr 0 rfl hrb1) (hp1 0 _ rfl))<|run_frame (by simp only [sc0,sc1];rfl) ?_
       refine rs (vB ((rd 0 y2_2 y2_1) !=0)) (r_bin rfl rfl rfl) ?_
       try simp only [sc0,sc1]
       refine run_nil<|norm_then<|wp_cond_split (t:=((rd 0 y2_2 y2_1) !=0)) rfl (fun c3=>?_) (fun c3=>?_)
       ·replace H:=of_pos H c3
        refine wp_exit<|exit_then<|exit_block<|norm_then<|region<|rs (vI y2_1) (r_move rfl)<|rs (vI (w64 (y2_1+1))) (r_bin rfl rfl rfl)<|rs (vI (w64 (y2_1+1))) (r_assign rfl) ?_
        try simp only [sc0,sc1]
        refine run_nil<|again_j m (Nat.lt_succ_self m) rfl ⟨y2_0,(w64 (y2_1+1)),y2_2,csy2_2,(fit rfl),H,hoy2_2,HS4⟩
       ·replace H:=of_neg H (nt c3)
        refine wp_skip<|norm_then<|wp_seq<|region<|rs (vP b1 0) (r_fieldBox (n:=1) (o':=0) rfl Tryd.runUnderlying24 rfl Tryd.sizeOf22 (by decide) rfl)<|rs (vL A0_0 a0.vDefs.length c0_0) (r_loadBox rfl Tryd.isAgg22 (HS4.look 1 rfl) rfl)<|rs (vI y2_1) (r_move rfl) ?_
        obtain ⟨hi2,H⟩:=of_ite H
        obtain ⟨ad1,Aad1_6,cad1_6,e1,hel1,hcad1_6,hrad1_6⟩:=ld_api_Def hr0_0 hi2.1 hi2.2
        refine rs (Value.pointer (some (Addr.add ad1 (y2_1.toNat*7)))) (r_indexA (sz:=7) rfl e1 rfl hi2.1 hi2.2 Tryd.runUnderlying22 Tryd.sizeOf34)<|run_frame (by simp only [sc0,sc1];rfl) ?_
        refine rs (Value.agg #[vI ((rd z_api_Def a0.vDefs y2_1).vKind),vS ((rd z_api_Def a0.vDefs y2_1).vName),vI ((rd z_api_Def a0.vDefs y2_1).vInt.vSize),vB ((rd z_api_Def a0.vDefs y2_1).vInt.vSigned),vI ((rd z_api_Def a0.vDefs y2_1).vRef),vI ((rd z_api_Def a0.vDefs y2_1).vN),vL Aad1_6 ((rd z_api_Def a0.vDefs y2_1).vFields).length cad1_6]) (r_loadAgg rfl Tryd.isAgg34 (hel1.sees HS4.sees) Tryd.sizeOf34)<|rs (vL (rowA (some b2)) ((a0.vDefs.length:Int).toNat) ((a0.vDefs.length:Int).toNat)) (r_move rfl) ?_
        obtain ⟨v1,H1,H⟩:=of_bind H
        obtain ⟨hl1,hs1,se1,rdl1⟩:=row_lend HS4 (i:=0) rfl hoy2_2
        refine run_eq (v:=vI v1) rfl rfl (does_call_eq Tryd.call98 rfl (map2 rfl (show _=vL (rowA (some b2)) y2_2.length ((a0.vDefs.length:Int).toNat) from by rw [hoy2_2.len];exact rfl)) (taplineref08_size.calls k (rd z_api_Def a0.vDefs y2_1) y2_2 Aad1_6 cad1_6 (rowA (some b2)) ((a0.vDefs.length:Int).toNat) se1 (hrad1_6.ext hs1) hcad1_6 rdl1 hoy2_2.cap H1)) ?_
        intro w5 hE2
        have HS5:=HS4.step hE2
        refine rs (vI v1) (r_assign rfl) ?_
        try simp only [sc0,sc1]
        refine run_nil<|norm_then<|wp_seq<|region<|rs (vI v1) (r_move rfl)<|rs (vB (decide (v1>0))) (r_bin rfl rfl rfl) ?_
        try simp only [sc0,sc1]
        refine run_nil<|norm_then<|wp_cond_split (t:=(decide (v1>0))) rfl (fun c4=>?_) (fun c4=>?_)
        ·replace H:=of_pos H c4
         refine wp_seq<|region<|rs (vL (rowA (some b2)) ((a0.vDefs.length:Int).toNat) ((a0.vDefs.length:Int).toNat)) (r_move rfl)<|rs (vI y2_1) (r_move rfl)<|rs (vI v1) (r_move rfl)<|rs (vI (iMin v1 513)) (r_min rfl rfl)<|run_frame (by simp only [sc0,sc1];rfl) ?_
         obtain ⟨hi3,H⟩:=of_ite H
         obtain ⟨rb2,_,hrb2,rfl,hp2⟩:=hoy2_2.at 0 hi3.1 hi3.2
         refine rs (Value.pointer (some ⟨rb2,y2_1.toNat*1+0,none⟩)) (r_indexRow (sz:=1) rfl hrb2 rfl hi3.1 hi3.2 Tryd.runUnderlying62 Tryd.sizeOf3)<|run_str (i:=0) (cs:=csy2_2) (v:=vI (iMin v1 513)) hrb2 rfl rfl Tryd.sizeOf3 rfl rfl HS5 rfl (hoy2_2.inb hi3.1 hi3.2 (m:=1) (by decide)) ?_
         intro w6 HS6
         have ho2:=hoy2_2.set (o:=0) (v:=vI (iMin v1 513)) (x':=(iMin v1 513)) hi3.1 hi3.2 hp2 rfl (Nat.le_of_ble_eq_true rfl)
         try simp only [sc0,sc1]
         refine run_nil<|norm_then<|region<|rs (vB true) (r_assign rfl) ?_
         try simp only [sc0,sc1]
         refine run_nil<|norm_block<|norm_then<|region<|rs (vI y2_1) (r_move rfl)<|rs (vI (w64 (y2_1+1))) (r_bin rfl rfl rfl)<|rs (vI (w64 (y2_1+1))) (r_assign rfl) ?_
         try simp only [sc0,sc1]
         refine run_nil<|again_j m (Nat.lt_succ_self m) rfl ⟨true,(w64 (y2_1+1)),(List.set y2_2 y2_1.toNat (iMin v1 513)),(List.set csy2_2 (y2_1.toNat*1+0) (vI (iMin v1 513))),(fit rfl),H,ho2,HS6⟩
        ·replace H:=of_neg H (nt c4)
         refine wp_skip<|norm_block<|norm_then<|region<|rs (vI y2_1) (r_move rfl)<|rs (vI (w64 (y2_1+1))) (r_bin rfl rfl rfl)<|rs (vI (w64 (y2_1+1))) (r_assign rfl) ?_
         try simp only [sc0,sc1]
         refine run_nil<|again_j m (Nat.lt_succ_self m) rfl ⟨y2_0,(w64 (y2_1+1)),y2_2,csy2_2,(fit rfl),H,hoy2_2,HS5⟩
      ·replace H:=of_neg H (nt c2)
       refine wp_exit<|exit_then ?_
       obtain rfl:=Option.some.inj H
       refine leave_j rfl ⟨csy2_2,(fit rfl),hoy2_2,HS4⟩
    ·rintro us w7 ⟨cso1_1,huo1,hoo1_1,HS7⟩
     obtain ⟨uo1,rfl⟩:=unj huo1
     replace H:=G2
     clear G2
     try simp only [patch,sc0,sc1]
     refine norm_block<|again_j m (Nat.lt_succ_self m) rfl ⟨xx2.1,xx2.2,cso1_1,(fit rfl),H,hoo1_1,HS7⟩
   ·replace H:=of_neg H (nt c1)
    refine wp_exit<|exit_then ?_
    obtain rfl:=Option.some.inj H
    refine leave_j rfl ⟨csy1_1,(fit rfl),hoy1_1,HS3⟩
 ·rintro us w8 ⟨cso2_0,huo2,hoo2_0,HS8⟩
  obtain ⟨uo2,rfl⟩:=unj huo2
  replace H:=G1
  clear G1
  try simp only [patch,sc0,sc1]
  refine norm_then<|wp_seq<|region<|rs (vL (rowA (some b2)) ((a0.vDefs.length:Int).toNat) ((a0.vDefs.length:Int).toNat)) (r_move rfl)<|rs (vL (rowA (some b2)) ((a0.vDefs.length:Int).toNat) ((a0.vDefs.length:Int).toNat)) (r_assign rfl) ?_
  try simp only [sc0,sc1]
  refine run_nil<|norm_then<|wp_ret ?_
  obtain rfl:=Option.some.inj H
  refine bodyPost_ret (results_1 rfl (one_tmp rfl)) rfl ?_
  obtain ⟨h1,HS9,hs2,rdp1⟩:=row_pub HS8 (i:=0) rfl hoo2_0
  exact ⟨h1,(rowA (some b2)),(a0.vDefs.length:Int).toNat,(by first|rfl|(rw [hoo2_0.len];done)|(rw [hoo2_0.len];rfl)),hoo2_0.cap,rdp1,HS9.gr,HS9.sees,HS9.toE⟩
def taplineref08_ends.l0 (a0:api_Types):Nat→Int→Int→Option ((Bool)⊕(Unit))
 |0,_,_=>none
 |m+1,y1_0,y1_1=>if (decide (y1_1≤(a0.vDefs.length:Int)))=true then (if 0≤y1_0∧y1_0<a0.vDefs.length then ((taplineref08_Named.f (rd z_api_Def a0.vDefs y1_0)).bind fun v1=>(if v1=true then (some (.inl true)) else (if 0≤y1_0∧y1_0<a0.vDefs.length then (taplineref08_ends.l0 a0 m ((rd z_api_Def a0.vDefs y1_0).vRef) (IntKind.wrap .i64 (y1_1+1))) else none))) else none) else (some (.inr ()))
def taplineref08_ends.f (k:Nat) (a0:api_Types) (a1:Int):Option (Bool):=(taplineref08_ends.l0 a0 k a1 0).bind fun xx1=>(match xx1 with| .inl r=>some r| .inr s1=>some false)
theorem taplineref08_ends.calls (k:Nat) (a0:api_Types) (a1:Int) (A0_0:Option Addr) (c0_0:Nat) {h0:View} {w0:World} (hv:Sees h0 w0) (hr0_0:Rd k_api_Def h0 A0_0 a0.vDefs) (hc0_0:a0.vDefs.length≤c0_0) {r:Bool} (H:taplineref08_ends.f k a0 a1=some r):Calls Tryd.prog 51 #[Value.agg #[vL A0_0 a0.vDefs.length c0_0],vI a1] w0 (fun e w1=>e= .returned (vB r)∧Ext w0 w1):=by
 unfold taplineref08_ends.f at H
 have HS:St [] h0 w0 h0 [] w0:=St.init hv
 go_enter Tryd.func51,Tryd.ntmps51
 refine wp_seq<|region<|run_ex rfl rfl (does_box (cs:=#[vL A0_0 a0.vDefs.length c0_0]) rfl rfl) ?_
 rintro w1 _ hE1 ⟨b1,rfl,ge1,hb1⟩
 have HS1:=HS.new hE1 ge1 hb1
 refine rs (vB false) (r_assign rfl) ?_
 try simp only [sc0,sc1]
 refine run_nil<|norm_then<|wp_seq<|wp_seq<|region<|rs (vI 0) (r_assign rfl) ?_
 try simp only [sc0,sc1]
 refine run_nil<|norm_then ?_
 obtain ⟨xx1,H,G1⟩:=of_bind H
 refine loop_j [1,4,5,6,7,8,9,10,11,12,13,14,15,16,17,18,19,20,21,22,23,24] (fun m us w'=>∃y1_0 y1_1:Int,Fit us (fun uy1=>[vI y1_0,(uy1 1),vI y1_1,(uy1 3),(uy1 4),(uy1 5),(uy1 6),(uy1 7),(uy1 8),(uy1 9),(uy1 10),(uy1 11),(uy1 12),(uy1 13),(uy1 14),(uy1 15),(uy1 16),(uy1 17),(uy1 18),(uy1 19),(uy1 20),(uy1 21)])∧taplineref08_ends.l0 a0 m y1_0 y1_1=some xx1∧St [] h0 w0 h0 [(some b1, .cells #[vL A0_0 a0.vDefs.length c0_0] 24 (0,0))] w') (fun us w'=>∃(s1:Unit),xx1= .inr s1∧Fit us (fun uo1=>[(uo1 0),(uo1 1),(uo1 2),(uo1 3),(uo1 4),(uo1 5),(uo1 6),(uo1 7),(uo1 8),(uo1 9),(uo1 10),(uo1 11),(uo1 12),(uo1 13),(uo1 14),(uo1 15),(uo1 16),(uo1 17),(uo1 18),(uo1 19),(uo1 20),(uo1 21)])∧St [] h0 w0 h0 [(some b1, .cells #[vL A0_0 a0.vDefs.length c0_0] 24 (0,0))] w') k ⟨a1,0,(fit rfl),H,HS1⟩ ?_ ?_
 ·rintro m us w2 ⟨y1_0,y1_1,huy1,H,HS2⟩
  obtain ⟨uy1,rfl⟩:=unj huy1
  cases m with
  |zero=>exact absurd H (by simp [taplineref08_ends.l0])
  |succ m=>
   rw [taplineref08_ends.l0] at H
   try simp only [patch,sc0,sc1]
   refine wp_seq<|wp_seq<|region<|rs (vI y1_1) (r_move rfl)<|rs (vP b1 0) (r_fieldBox (n:=1) (o':=0) rfl Tryd.runUnderlying24 rfl Tryd.sizeOf22 (by decide) rfl)<|rs (vL A0_0 a0.vDefs.length c0_0) (r_loadBox rfl Tryd.isAgg22 (HS2.look 0 rfl) rfl)<|rs (vI (a0.vDefs.length:Int)) (r_len rfl Tryd.runUnderlying22)<|run_frame (by simp only [sc0,sc1];rfl) ?_
   refine rs (vB (decide (y1_1≤(a0.vDefs.length:Int)))) (r_bin rfl rfl rfl) ?_
   try simp only [sc0,sc1]
   refine run_nil<|norm_then<|wp_cond_split (t:=(decide (y1_1≤(a0.vDefs.length:Int)))) rfl (fun c1=>?_) (fun c1=>?_)
   ·replace H:=of_pos H c1
    refine wp_skip<|norm_then<|wp_seq<|wp_block<|wp_seq<|wp_seq<|region<|rs (vP b1 0) (r_fieldBox (n:=1) (o':=0) rfl Tryd.runUnderlying24 rfl Tryd.sizeOf22 (by decide) rfl)<|rs (vL A0_0 a0.vDefs.length c0_0) (r_loadBox rfl Tryd.isAgg22 (HS2.look 0 rfl) rfl)<|rs (vI y1_0) (r_move rfl) ?_
    obtain ⟨hi1,H⟩:=of_ite H
    obtain ⟨ad1,Aad1_6,cad1_6,e1,hel1,hcad1_6,hrad1_6⟩:=ld_api_Def hr0_0 hi1.1 hi1.2
    refine rs (Value.pointer (some (Addr.add ad1 (y1_0.toNat*7)))) (r_indexA (sz:=7) rfl e1 rfl hi1.1 hi1.2 Tryd.runUnderlying22 Tryd.sizeOf34)<|run_frame (by simp only [sc0,sc1];rfl) ?_
    refine rs (Value.agg #[vI ((rd z_api_Def a0.vDefs y1_0).vKind),vS ((rd z_api_Def a0.vDefs y1_0).vName),vI ((rd z_api_Def a0.vDefs y1_0).vInt.vSize),vB ((rd z_api_Def a0.vDefs y1_0).vInt.vSigned),vI ((rd z_api_Def a0.vDefs y1_0).vRef),vI ((rd z_api_Def a0.vDefs y1_0).vN),vL Aad1_6 ((rd z_api_Def a0.vDefs y1_0).vFields).length cad1_6]) (r_loadAgg rfl Tryd.isAgg34 (hel1.sees HS2.sees) Tryd.sizeOf34) ?_
    obtain ⟨v1,H1,H⟩:=of_bind H
    refine run_eq (v:=vB v1) rfl rfl (does_call_eq Tryd.call49 rfl rfl (taplineref08_Named.calls (rd z_api_Def a0.vDefs y1_0) Aad1_6 cad1_6 HS2.sees hrad1_6 hcad1_6 H1)) ?_
    intro w3 hE2
    have HS3:=HS2.step hE2
    try simp only [sc0,sc1]
    refine run_nil<|norm_then<|wp_cond_split (t:=v1) rfl (fun c2=>?_) (fun c2=>?_)
    ·replace H:=of_pos H c2
     refine wp_seq<|region<|rs (vB true) (r_assign rfl) ?_
     try simp only [sc0,sc1]
     refine run_nil<|norm_then<|wp_ret<|ret_then<|ret_block<|ret_then<|ret_loop<|ret_then ?_
     obtain rfl:=Option.some.inj H
     obtain rfl:=Option.some.inj G1
     exact bodyPost_ret (results_1 rfl (one_tmp rfl)) rfl<|⟨rfl,HS3.toE⟩
    ·replace H:=of_neg H (nt c2)
     refine wp_skip<|norm_then<|region<|rs (vP b1 0) (r_fieldBox (n:=1) (o':=0) rfl Tryd.runUnderlying24 rfl Tryd.sizeOf22 (by decide) rfl)<|rs (vL A0_0 a0.vDefs.length c0_0) (r_loadBox rfl Tryd.isAgg22 (HS3.look 0 rfl) rfl)<|rs (vI y1_0) (r_move rfl) ?_
     obtain ⟨hi2,H⟩:=of_ite H
     obtain ⟨ad2,Aad2_6,cad2_6,e2,hel2,hcad2_6,hrad2_6⟩:=ld_api_Def hr0_0 hi2.1 hi2.2
     refine rs (Value.pointer (some (Addr.add ad2 (y1_0.toNat*7)))) (r_indexA (sz:=7) rfl e2 rfl hi2.1 hi2.2 Tryd.runUnderlying22 Tryd.sizeOf34)<|run_frame (by simp only [sc0,sc1];rfl) ?_
     refine rs (Value.pointer (some (Addr.add (Addr.add ad2 (y1_0.toNat*7)) 4))) (r_fieldEl (n:=1) (o':=4) rfl Tryd.runUnderlying34 rfl Tryd.sizeOf3 (by decide) rfl)<|rs (vI ((rd z_api_Def a0.vDefs y1_0).vRef)) (r_load rfl Tryd.isAgg3 (hel2.cell HS3.sees 4 rfl))<|rs (vI ((rd z_api_Def a0.vDefs y1_0).vRef)) (r_assign rfl) ?_
     try simp only [sc0,sc1]
     refine run_nil<|norm_block<|norm_then<|region<|rs (vI y1_1) (r_move rfl)<|rs (vI (w64 (y1_1+1))) (r_bin rfl rfl rfl)<|rs (vI (w64 (y1_1+1))) (r_assign rfl) ?_
     try simp only [sc0,sc1]
     refine run_nil<|again_j m (Nat.lt_succ_self m) rfl ⟨(rd z_api_Def a0.vDefs y1_0).vRef,(w64 (y1_1+1)),(fit rfl),H,HS3⟩
   ·replace H:=of_neg H (nt c1)
    refine wp_exit<|exit_then ?_
    obtain rfl:=Option.some.inj H
    refine leave_j rfl ⟨_,rfl,(fit rfl),HS2⟩
 ·rintro us w4 ⟨s1,rfl,huo1,HS4⟩
  obtain ⟨uo1,rfl⟩:=unj huo1
  replace H:=G1
  clear G1
  try simp only [patch,sc0,sc1]
  refine norm_then<|wp_seq<|region<|rs (vB false) (r_assign rfl) ?_
  try simp only [sc0,sc1]
  refine run_nil<|norm_then<|wp_ret ?_
  obtain rfl:=Option.some.inj H
  exact bodyPost_ret (results_1 rfl (one_tmp rfl)) rfl<|⟨rfl,HS4.toE⟩
def taplineref08_placed.l0 (a0:api_Def) (a1:List Int):Nat→Int→Int→Option ((Bool)⊕(Int))
 |0,_,_=>none
 |m+1,y1_0,y1_1=>if (decide (y1_1<(a0.vFields.length:Int)))=true then (if 0≤y1_1∧y1_1<a0.vFields.length then (if ((decide ((rd z_api_Field a0.vFields y1_1).vAt<y1_0))||(decide ((rd z_api_Field a0.vFields y1_1).vAt>a0.vN)))=true then (some (.inl false)) else (if 0≤(rd z_api_Field a0.vFields y1_1).vType∧(rd z_api_Field a0.vFields y1_1).vType<a1.length then (taplineref08_placed.l0 a0 a1 m (IntKind.wrap .i64 ((rd z_api_Field a0.vFields y1_1).vAt+(rd 0 a1 ((rd z_api_Field a0.vFields y1_1).vType)))) (IntKind.wrap .i64 (y1_1+1))) else none)) else none) else (some (.inr y1_0))
def taplineref08_placed.f (k:Nat) (a0:api_Def) (a1:List Int):Option (Bool):=(taplineref08_placed.l0 a0 a1 k 0 0).bind fun xx1=>(match xx1 with| .inl r=>some r| .inr s1=>some (decide (s1≤a0.vN)))
theorem taplineref08_placed.calls (k:Nat) (a0:api_Def) (a1:List Int) (A0_6:Option Addr) (c0_6:Nat) (A1_0:Option Addr) (c1_0:Nat) {h0:View} {w0:World} (hv:Sees h0 w0) (hr0_6:Rd k_api_Field h0 A0_6 a0.vFields) (hc0_6:a0.vFields.length≤c0_6) (hr1_0:Rd (Kd.int .i64) h0 A1_0 a1) (hc1_0:a1.length≤c1_0) {r:Bool} (H:taplineref08_placed.f k a0 a1=some r):Calls Tryd.prog 52 #[Value.agg #[vI a0.vKind,vS a0.vName,vI a0.vInt.vSize,vB a0.vInt.vSigned,vI a0.vRef,vI a0.vN,vL A0_6 a0.vFields.length c0_6],vL A1_0 a1.length c1_0] w0 (fun e w1=>e= .returned (vB r)∧Ext w0 w1):=by
 unfold taplineref08_placed.f at H
 have HS:St [] h0 w0 h0 [] w0:=St.init hv
 go_enter Tryd.func52,Tryd.ntmps52
 refine wp_seq<|region<|run_ex rfl rfl (does_box (cs:=#[vI a0.vKind,vS a0.vName,vI a0.vInt.vSize,vB a0.vInt.vSigned,vI a0.vRef,vI a0.vN,vL A0_6 a0.vFields.length c0_6]) rfl rfl) ?_
 rintro w1 _ hE1 ⟨b1,rfl,ge1,hb1⟩
 have HS1:=HS.new hE1 ge1 hb1
 refine rs (vB false) (r_assign rfl) ?_
 try simp only [sc0,sc1]
 refine run_nil<|norm_then<|wp_seq<|region<|rs (vI 0) (r_assign rfl) ?_
 try simp only [sc0,sc1]
 refine run_nil<|norm_then<|wp_seq<|wp_seq<|region<|rs (vI 0) (r_assign rfl) ?_
 try simp only [sc0,sc1]
 refine run_nil<|norm_then ?_
 obtain ⟨xx1,H,G1⟩:=of_bind H
 refine loop_j [4,5,6,7,8,9,10,11,12,13,14,15,16,17,18,19,20,21,22,23,24,25,26,27,28,29,30,31,32,33,34,35,36,37,38] (fun m us w'=>∃y1_0 y1_1:Int,Fit us (fun uy1=>[(uy1 0),vI y1_0,vI y1_1,(uy1 3),(uy1 4),(uy1 5),(uy1 6),(uy1 7),(uy1 8),(uy1 9),(uy1 10),(uy1 11),(uy1 12),(uy1 13),(uy1 14),(uy1 15),(uy1 16),(uy1 17),(uy1 18),(uy1 19),(uy1 20),(uy1 21),(uy1 22),(uy1 23),(uy1 24),(uy1 25),(uy1 26),(uy1 27),(uy1 28),(uy1 29),(uy1 30),(uy1 31),(uy1 32),(uy1 33),(uy1 34)])∧taplineref08_placed.l0 a0 a1 m y1_0 y1_1=some xx1∧St [] h0 w0 h0 [(some b1, .cells #[vI a0.vKind,vS a0.vName,vI a0.vInt.vSize,vB a0.vInt.vSigned,vI a0.vRef,vI a0.vN,vL A0_6 a0.vFields.length c0_6] 34 (0,0))] w') (fun us w'=>∃(s1:Int),xx1= .inr s1∧Fit us (fun uo1=>[(uo1 0),vI s1,(uo1 2),(uo1 3),(uo1 4),(uo1 5),(uo1 6),(uo1 7),(uo1 8),(uo1 9),(uo1 10),(uo1 11),(uo1 12),(uo1 13),(uo1 14),(uo1 15),(uo1 16),(uo1 17),(uo1 18),(uo1 19),(uo1 20),(uo1 21),(uo1 22),(uo1 23),(uo1 24),(uo1 25),(uo1 26),(uo1 27),(uo1 28),(uo1 29),(uo1 30),(uo1 31),(uo1 32),(uo1 33),(uo1 34)])∧St [] h0 w0 h0 [(some b1, .cells #[vI a0.vKind,vS a0.vName,vI a0.vInt.vSize,vB a0.vInt.vSigned,vI a0.vRef,vI a0.vN,vL A0_6 a0.vFields.length c0_6] 34 (0,0))] w') k ⟨0,0,(fit rfl),H,HS1⟩ ?_ ?_
 ·rintro m us w2 ⟨y1_0,y1_1,huy1,H,HS2⟩
  obtain ⟨uy1,rfl⟩:=unj huy1
  cases m with
  |zero=>exact absurd H (by simp [taplineref08_placed.l0])
  |succ m=>
   rw [taplineref08_placed.l0] at H
   try simp only [patch,sc0,sc1]
   refine wp_seq<|wp_seq<|region<|rs (vI y1_1) (r_move rfl)<|rs (vP b1 6) (r_fieldBox (n:=1) (o':=6) rfl Tryd.runUnderlying34 rfl Tryd.sizeOf32 (by decide) rfl)<|rs (vL A0_6 a0.vFields.length c0_6) (r_loadBox rfl Tryd.isAgg32 (HS2.look 0 rfl) rfl)<|rs (vI (a0.vFields.length:Int)) (r_len rfl Tryd.runUnderlying32)<|run_frame (by simp only [sc0,sc1];rfl) ?_
   refine rs (vB (decide (y1_1<(a0.vFields.length:Int)))) (r_bin rfl rfl rfl) ?_
   try simp only [sc0,sc1]
   refine run_nil<|norm_then<|wp_cond_split (t:=(decide (y1_1<(a0.vFields.length:Int)))) rfl (fun c1=>?_) (fun c1=>?_)
   ·replace H:=of_pos H c1
    refine wp_skip<|norm_then<|wp_seq<|wp_block<|wp_seq<|region<|rs (vP b1 6) (r_fieldBox (n:=1) (o':=6) rfl Tryd.runUnderlying34 rfl Tryd.sizeOf32 (by decide) rfl)<|rs (vL A0_6 a0.vFields.length c0_6) (r_loadBox rfl Tryd.isAgg32 (HS2.look 0 rfl) rfl)<|rs (vI y1_1) (r_move rfl) ?_
    obtain ⟨hi1,H⟩:=of_ite H
    obtain ⟨ad1,e1,hel1⟩:=ld_api_Field hr0_6 hi1.1 hi1.2
    refine rs (Value.pointer (some (Addr.add ad1 (y1_1.toNat*3)))) (r_indexA (sz:=3) rfl e1 rfl hi1.1 hi1.2 Tryd.runUnderlying32 Tryd.sizeOf36)<|run_frame (by simp only [sc0,sc1];rfl) ?_
    refine rs (Value.agg #[vS ((rd z_api_Field a0.vFields y1_1).vName),vI ((rd z_api_Field a0.vFields y1_1).vType),vI ((rd z_api_Field a0.vFields y1_1).vAt)]) (r_loadAgg rfl Tryd.isAgg36 (hel1.sees HS2.sees) Tryd.sizeOf36)<|run_ex rfl rfl (does_alloc (cs:=#[vS ByteArray.empty,vI 0,vI 0]) Tryd.zeroValue36 rfl) ?_
    rintro w3 _ hE2 ⟨b2,rfl,ge2,hb2⟩
    have HS3:=HS2.new hE2 ge2 hb2
    refine run_st (i:=0) (cs:=[vS ByteArray.empty,vI 0,vI 0]) (cs':=[vS ((rd z_api_Field a0.vFields y1_1).vName),vI ((rd z_api_Field a0.vFields y1_1).vType),vI ((rd z_api_Field a0.vFields y1_1).vAt)]) (vs:=[vS ((rd z_api_Field a0.vFields y1_1).vName),vI ((rd z_api_Field a0.vFields y1_1).vType),vI ((rd z_api_Field a0.vFields y1_1).vAt)]) (bs':=[(some b2, .cells #[vS ((rd z_api_Field a0.vFields y1_1).vName),vI ((rd z_api_Field a0.vFields y1_1).vType),vI ((rd z_api_Field a0.vFields y1_1).vAt)] 36 (0,0)),(some b1, .cells #[vI a0.vKind,vS a0.vName,vI a0.vInt.vSize,vB a0.vInt.vSigned,vI a0.vRef,vI a0.vN,vL A0_6 a0.vFields.length c0_6] 34 (0,0))]) rfl rfl Tryd.sizeOf36 rfl rfl (by decide) rfl HS3 rfl (Nat.le_of_ble_eq_true rfl) rfl rfl ?_
    intro w4 HS4
    try simp only [sc0,sc1]
    refine run_nil<|norm_then<|wp_seq<|wp_seq<|region<|rs (vP b2 2) (r_fieldBox (n:=1) (o':=2) rfl Tryd.runUnderlying36 rfl Tryd.sizeOf3 (by decide) rfl)<|rs (vI ((rd z_api_Field a0.vFields y1_1).vAt)) (r_loadBox rfl Tryd.isAgg3 (HS4.look 0 rfl) rfl)<|rs (vI y1_0) (r_move rfl)<|rs (vB (decide ((rd z_api_Field a0.vFields y1_1).vAt<y1_0))) (r_bin rfl rfl rfl)<|run_frame (by simp only [sc0,sc1];rfl) ?_
    refine rs (vB (decide ((rd z_api_Field a0.vFields y1_1).vAt<y1_0))) (r_move rfl)<|rgs (decide ((rd z_api_Field a0.vFields y1_1).vAt<y1_0)) true (vP b2 2) rfl rfl rfl rfl (fun hg=>(r_fieldBox (n:=1) (o':=2) rfl Tryd.runUnderlying36 rfl Tryd.sizeOf3 (by decide) rfl))<|rgs (decide ((rd z_api_Field a0.vFields y1_1).vAt<y1_0)) true (vI ((rd z_api_Field a0.vFields y1_1).vAt)) rfl rfl rfl rfl (fun hg=>(r_loadBox (gvt (vP b2 2) hg rfl) Tryd.isAgg3 (HS4.look 0 rfl) rfl))<|rgs (decide ((rd z_api_Field a0.vFields y1_1).vAt<y1_0)) true (vP b1 5) rfl rfl rfl rfl (fun hg=>(r_fieldBox (n:=1) (o':=5) rfl Tryd.runUnderlying34 rfl Tryd.sizeOf3 (by decide) rfl))<|run_frame (by simp only [sc0,sc1];rfl) ?_
    refine rgs (decide ((rd z_api_Field a0.vFields y1_1).vAt<y1_0)) true (vI a0.vN) rfl rfl rfl rfl (fun hg=>(r_loadBox (gvt (vP b1 5) hg rfl) Tryd.isAgg3 (HS4.look 1 rfl) rfl))<|rgs (decide ((rd z_api_Field a0.vFields y1_1).vAt<y1_0)) true (vB (decide ((rd z_api_Field a0.vFields y1_1).vAt>a0.vN))) rfl rfl rfl rfl (fun hg=>(r_bin (gvt (vI ((rd z_api_Field a0.vFields y1_1).vAt)) hg rfl) (gvt (vI a0.vN) hg rfl) rfl))<|rs (vB ((decide ((rd z_api_Field a0.vFields y1_1).vAt<y1_0))||(decide ((rd z_api_Field a0.vFields y1_1).vAt>a0.vN)))) (r_pick_or rfl rfl (fun hp=>(gvt (vB (decide ((rd z_api_Field a0.vFields y1_1).vAt>a0.vN))) (and_i rfl hp) rfl))) ?_
    try simp only [sc0,sc1]
    refine run_nil<|norm_then<|wp_cond_split (t:=((decide ((rd z_api_Field a0.vFields y1_1).vAt<y1_0))||(decide ((rd z_api_Field a0.vFields y1_1).vAt>a0.vN)))) rfl (fun c2=>?_) (fun c2=>?_)
    ·replace H:=of_pos H c2
     refine wp_seq<|region<|rs (vB false) (r_assign rfl) ?_
     try simp only [sc0,sc1]
     refine run_nil<|norm_then<|wp_ret<|ret_then<|ret_block<|ret_then<|ret_loop<|ret_then ?_
     obtain rfl:=Option.some.inj H
     obtain rfl:=Option.some.inj G1
     exact bodyPost_ret (results_1 rfl (one_tmp rfl)) rfl<|⟨rfl,HS4.toE⟩
    ·replace H:=of_neg H (nt c2)
     refine wp_skip<|norm_then ?_
     obtain ⟨hi2,H⟩:=of_ite H
     obtain ⟨ad2,e2,hel2⟩:=ld_int hr1_0 hi2.1 hi2.2
     refine drawn [.eq (vP b2 2), .eq (vI ((rd z_api_Field a0.vFields y1_1).vAt)), .eq (vL A1_0 a1.length c1_0), .eq (vP b2 1), .eq (vI ((rd z_api_Field a0.vFields y1_1).vType)), .eq (Value.pointer (some (Addr.add ad2 (((rd z_api_Field a0.vFields y1_1).vType).toNat*1)))), .eq (vI (rd 0 a1 ((rd z_api_Field a0.vFields y1_1).vType))), .eq (vI (w64 ((rd z_api_Field a0.vFields y1_1).vAt+(rd 0 a1 ((rd z_api_Field a0.vFields y1_1).vType)))))] [31,32,33,34,35,36,37,38] hmix (by kernel_rfl) rfl (stable_eq (stable_eq (stable_eq (stable_eq (stable_eq (stable_eq (stable_eq (stable_eq stable_nil)))))))) ⟨ob_plain rfl (fun a' w' hE hk=>by have HSd:=HS4.step hE;exact does_eq (r_fieldBox (n:=1) (o':=2) (show _=vP b2 0 from hk 7 rfl) Tryd.runUnderlying36 rfl Tryd.sizeOf3 (by decide) rfl)),ob_plain rfl (fun a' w' hE hk=>by have HSd:=HS4.step hE;exact does_eq (r_loadBox (show _=vP b2 2 from hk 31 rfl) Tryd.isAgg3 (HSd.look 0 rfl) rfl)),ob_plain rfl (fun a' w' hE hk=>by have HSd:=HS4.step hE;exact does_eq (r_move (show _=vL A1_0 a1.length c1_0 from hk 1 rfl))),ob_plain rfl (fun a' w' hE hk=>by have HSd:=HS4.step hE;exact does_eq (r_fieldBox (n:=1) (o':=1) (show _=vP b2 0 from hk 7 rfl) Tryd.runUnderlying36 rfl Tryd.sizeOf3 (by decide) rfl)),ob_plain rfl (fun a' w' hE hk=>by have HSd:=HS4.step hE;exact does_eq (r_loadBox (show _=vP b2 1 from hk 34 rfl) Tryd.isAgg3 (HSd.look 0 rfl) rfl)),ob_plain rfl (fun a' w' hE hk=>by have HSd:=HS4.step hE;exact does_eq (r_indexA (sz:=1) (show _=vL A1_0 a1.length c1_0 from hk 33 rfl) e2 (show _=vI ((rd z_api_Field a0.vFields y1_1).vType) from hk 35 rfl) hi2.1 hi2.2 Tryd.runUnderlying62 Tryd.sizeOf3)),ob_plain rfl (fun a' w' hE hk=>by have HSd:=HS4.step hE;exact does_eq (r_load (show _=Value.pointer (some (Addr.add ad2 (((rd z_api_Field a0.vFields y1_1).vType).toNat*1))) from hk 36 rfl) Tryd.isAgg3 (hel2.cell0 HSd.sees rfl))),ob_plain rfl (fun a' w' hE hk=>by have HSd:=HS4.step hE;exact does_eq (r_bin (show _=vI ((rd z_api_Field a0.vFields y1_1).vAt) from hk 32 rfl) (show _=vI (rd 0 a1 ((rd z_api_Field a0.vFields y1_1).vType)) from hk 37 rfl) rfl)),trivial⟩ ?_
     intro w5 hE3
     simp only [List.zip_cons_cons,List.zip_nil_left,List.zip_nil_right,finL,sc0,sc1,List.length_cons,List.length_nil,List.drop_succ_cons,List.drop_zero,Nat.zero_add,Nat.reduceAdd]
     have HS5:=HS4.step hE3
     refine rs (vI (w64 ((rd z_api_Field a0.vFields y1_1).vAt+(rd 0 a1 ((rd z_api_Field a0.vFields y1_1).vType))))) (r_assign rfl) ?_
     try simp only [sc0,sc1]
     refine run_nil<|norm_block<|norm_then<|region<|rs (vI y1_1) (r_move rfl)<|rs (vI (w64 (y1_1+1))) (r_bin rfl rfl rfl)<|rs (vI (w64 (y1_1+1))) (r_assign rfl) ?_
     try simp only [sc0,sc1]
     refine run_nil<|again_j m (Nat.lt_succ_self m) rfl ⟨(w64 ((rd z_api_Field a0.vFields y1_1).vAt+(rd 0 a1 ((rd z_api_Field a0.vFields y1_1).vType)))),(w64 (y1_1+1)),(fit rfl),H,HS5.tail⟩
   ·replace H:=of_neg H (nt c1)
    refine wp_exit<|exit_then ?_
    obtain rfl:=Option.some.inj H
    refine leave_j rfl ⟨_,rfl,(fit rfl),HS2⟩
 ·rintro us w6 ⟨s1,rfl,huo1,HS6⟩
  obtain ⟨uo1,rfl⟩:=unj huo1
  replace H:=G1
  clear G1
  try simp only [patch,sc0,sc1]
  refine norm_then<|wp_seq<|region<|rs (vI s1) (r_move rfl)<|rs (vP b1 5) (r_fieldBox (n:=1) (o':=5) rfl Tryd.runUnderlying34 rfl Tryd.sizeOf3 (by decide) rfl)<|rs (vI a0.vN) (r_loadBox rfl Tryd.isAgg3 (HS6.look 0 rfl) rfl)<|rs (vB (decide (s1≤a0.vN))) (r_bin rfl rfl rfl)<|run_frame (by simp only [sc0,sc1];rfl) ?_
  refine rs (vB (decide (s1≤a0.vN))) (r_assign rfl) ?_
  try simp only [sc0,sc1]
  refine run_nil<|norm_then<|wp_ret ?_
  obtain rfl:=Option.some.inj H
  exact bodyPost_ret (results_1 rfl (one_tmp rfl)) rfl<|⟨rfl,HS6.toE⟩
def taplineref08_Check.l1 (a0:api_Types) (y1_0:Int):Nat→Int→Option ((Int)⊕(Unit))
 |0,_=>none
 |m+1,y2_0=>if (decide (y2_0<y1_0))=true then (if 0≤y1_0∧y1_0<a0.vDefs.length then ((taplineref08_Named.f (rd z_api_Def a0.vDefs y1_0)).bind fun v2=>(if (true&&(v2==true))=true→(0≤y2_0∧y2_0<a0.vDefs.length) then (if (true&&(v2==true))=true→(0≤y1_0∧y1_0<a0.vDefs.length) then (if (v2&&(strEq ((rd z_api_Def a0.vDefs y2_0).vName) ((rd z_api_Def a0.vDefs y1_0).vName)))=true then (some (.inl 80)) else (taplineref08_Check.l1 a0 y1_0 m (IntKind.wrap .i64 (y2_0+1)))) else none) else none)) else none) else (some (.inr ()))
def taplineref08_Check.l0 (k:Nat) (a0:api_Types):Nat→Int→Option ((Int)⊕(Unit))
 |0,_=>none
 |m+1,y1_0=>if (decide (y1_0<(a0.vDefs.length:Int)))=true then (if 0≤y1_0∧y1_0<a0.vDefs.length then ((taplineref08_shaped.f k a0 (rd z_api_Def a0.vDefs y1_0)).bind fun v1=>(if (!v1)=true then (some (.inl 80)) else ((taplineref08_Check.l1 a0 y1_0 k 0).bind fun xx2=>(match xx2 with| .inl r=>some (.inl r)| .inr s1=>taplineref08_Check.l0 k a0 m (IntKind.wrap .i64 (y1_0+1)))))) else none) else (some (.inr ()))
def taplineref08_Check.l2 (k:Nat) (a0:api_Types) (v3:(List Int)):Nat→Int→Option ((Int)⊕(Unit))
 |0,_=>none
 |m+1,y3_0=>if (decide (y3_0<(a0.vDefs.length:Int)))=true then (if 0≤y3_0∧y3_0<v3.length then (if (true&&(((rd 0 v3 y3_0)==0)==false))=true→(0≤y3_0∧y3_0<v3.length) then ((if (true&&((((rd 0 v3 y3_0)==0)||(decide ((rd 0 v3 y3_0)>512)))==false))=true then taplineref08_ends.f k a0 y3_0 else some false).bind fun v4=>(if ((((rd 0 v3 y3_0)==0)||(decide ((rd 0 v3 y3_0)>512)))||(!v4))=true then (some (.inl 80)) else (if 0≤y3_0∧y3_0<a0.vDefs.length then (if (true&&(((rd z_api_Def a0.vDefs y3_0).vKind==4)==true))=true→(0≤y3_0∧y3_0<a0.vDefs.length) then ((if (true&&(((rd z_api_Def a0.vDefs y3_0).vKind==4)==true))=true then taplineref08_placed.f k (rd z_api_Def a0.vDefs y3_0) v3 else some false).bind fun v5=>(if (((rd z_api_Def a0.vDefs y3_0).vKind==4)&&(!v5))=true then (some (.inl 80)) else (taplineref08_Check.l2 k a0 v3 m (IntKind.wrap .i64 (y3_0+1))))) else none) else none))) else none) else none) else (some (.inr ()))
def taplineref08_Check.f (k:Nat) (a0:api_Types):Option (Int):=if (decide ((a0.vDefs.length:Int)>200))=true then (some 80) else ((taplineref08_Check.l0 k a0 k 0).bind fun xx1=>(match xx1 with| .inl r=>some r| .inr s2=>(taplineref08_sizes.f k a0).bind fun v3=>((taplineref08_Check.l2 k a0 v3 k 0).bind fun xx3=>(match xx3 with| .inl r=>some r| .inr s3=>some 0))))
theorem taplineref08_Check.calls (k:Nat) (a0:api_Types) (A0_0:Option Addr) (c0_0:Nat) {h0:View} {w0:World} (hv:Sees h0 w0) (hr0_0:Rd k_api_Def h0 A0_0 a0.vDefs) (hc0_0:a0.vDefs.length≤c0_0) {r:Int} (H:taplineref08_Check.f k a0=some r):Calls Tryd.prog 19 #[Value.agg #[vL A0_0 a0.vDefs.length c0_0]] w0 (fun e w1=>e= .returned (vI r)∧Ext w0 w1):=by
 unfold taplineref08_Check.f at H
 have HS:St [] h0 w0 h0 [] w0:=St.init hv
 go_enter Tryd.func19,Tryd.ntmps19
 refine wp_seq<|region<|run_ex rfl rfl (does_box (cs:=#[vL A0_0 a0.vDefs.length c0_0]) rfl rfl) ?_
 rintro w1 _ hE1 ⟨b1,rfl,ge1,hb1⟩
 have HS1:=HS.new hE1 ge1 hb1
 refine rs (vI 0) (r_assign rfl) ?_
 try simp only [sc0,sc1]
 refine run_nil<|norm_then<|wp_seq<|wp_seq<|region<|rs (vP b1 0) (r_fieldBox (n:=1) (o':=0) rfl Tryd.runUnderlying24 rfl Tryd.sizeOf22 (by decide) rfl)<|rs (vL A0_0 a0.vDefs.length c0_0) (r_loadBox rfl Tryd.isAgg22 (HS1.look 0 rfl) rfl)<|rs (vI (a0.vDefs.length:Int)) (r_len rfl Tryd.runUnderlying22)<|rs (vB (decide ((a0.vDefs.length:Int)>200))) (r_bin rfl rfl rfl) ?_
 try simp only [sc0,sc1]
 refine run_nil<|norm_then<|wp_cond_split (t:=(decide ((a0.vDefs.length:Int)>200))) rfl (fun c1=>?_) (fun c1=>?_)
 ·replace H:=of_pos H c1
  refine wp_seq<|region<|rs (vI 80) (r_assign rfl) ?_
  try simp only [sc0,sc1]
  refine run_nil<|norm_then<|wp_ret<|ret_then ?_
  obtain rfl:=Option.some.inj H
  exact bodyPost_ret (results_1 rfl (one_tmp rfl)) rfl<|⟨rfl,HS1.toE⟩
 ·replace H:=of_neg H (nt c1)
  refine wp_skip<|norm_then<|wp_seq<|wp_seq<|region<|rs (vI 0) (r_assign rfl) ?_
  try simp only [sc0,sc1]
  refine run_nil<|norm_then ?_
  obtain ⟨xx1,H,G1⟩:=of_bind H
  refine loop_j [2,3,4,11,12,13,14,15,16,17,18,19,20,21,22,23,24,25,26,27,28,29,30,31,32,33,34,35,36,37,38,39,40,41,42,43,44,45,46,47,48,49,50,51] (fun m us w'=>∃(y1_0:Int),Fit us (fun uy1=>[(uy1 0),vI y1_0,(uy1 2),(uy1 3),(uy1 4),(uy1 5),(uy1 6),(uy1 7),(uy1 8),(uy1 9),(uy1 10),(uy1 11),(uy1 12),(uy1 13),(uy1 14),(uy1 15),(uy1 16),(uy1 17),(uy1 18),(uy1 19),(uy1 20),(uy1 21),(uy1 22),(uy1 23),(uy1 24),(uy1 25),(uy1 26),(uy1 27),(uy1 28),(uy1 29),(uy1 30),(uy1 31),(uy1 32),(uy1 33),(uy1 34),(uy1 35),(uy1 36),(uy1 37),(uy1 38),(uy1 39),(uy1 40),(uy1 41),(uy1 42),(uy1 43)])∧taplineref08_Check.l0 k a0 m y1_0=some xx1∧St [] h0 w0 h0 [(some b1, .cells #[vL A0_0 a0.vDefs.length c0_0] 24 (0,0))] w') (fun us w'=>∃(s2:Unit),xx1= .inr s2∧Fit us (fun uo2=>[(uo2 0),(uo2 1),(uo2 2),(uo2 3),(uo2 4),(uo2 5),(uo2 6),(uo2 7),(uo2 8),(uo2 9),(uo2 10),(uo2 11),(uo2 12),(uo2 13),(uo2 14),(uo2 15),(uo2 16),(uo2 17),(uo2 18),(uo2 19),(uo2 20),(uo2 21),(uo2 22),(uo2 23),(uo2 24),(uo2 25),(uo2 26),(uo2 27),(uo2 28),(uo2 29),(uo2 30),(uo2 31),(uo2 32),(uo2 33),(uo2 34),(uo2 35),(uo2 36),(uo2 37),(uo2 38),(uo2 39),(uo2 40),(uo2 41),(uo2 42),(uo2 43)])∧St [] h0 w0 h0 [(some b1, .cells #[vL A0_0 a0.vDefs.length c0_0] 24 (0,0))] w') k ⟨0,(fit rfl),H,HS1⟩ ?_ ?_
  ·rintro m us w2 ⟨y1_0,huy1,H,HS2⟩
   obtain ⟨uy1,rfl⟩:=unj huy1
   cases m with
   |zero=>exact absurd H (by simp [taplineref08_Check.l0])
   |succ m=>
    rw [taplineref08_Check.l0] at H
    try simp only [patch,sc0,sc1]
    refine wp_seq<|wp_seq<|region<|rs (vI y1_0) (r_move rfl)<|rs (vP b1 0) (r_fieldBox (n:=1) (o':=0) rfl Tryd.runUnderlying24 rfl Tryd.sizeOf22 (by decide) rfl)<|rs (vL A0_0 a0.vDefs.length c0_0) (r_loadBox rfl Tryd.isAgg22 (HS2.look 0 rfl) rfl)<|rs (vI (a0.vDefs.length:Int)) (r_len rfl Tryd.runUnderlying22)<|run_frame (by simp only [sc0,sc1];rfl) ?_
    refine rs (vB (decide (y1_0<(a0.vDefs.length:Int)))) (r_bin rfl rfl rfl) ?_
    try simp only [sc0,sc1]
    refine run_nil<|norm_then<|wp_cond_split (t:=(decide (y1_0<(a0.vDefs.length:Int)))) rfl (fun c2=>?_) (fun c2=>?_)
    ·replace H:=of_pos H c2
     refine wp_skip<|norm_then<|wp_seq<|wp_block<|wp_seq<|wp_seq ?_
     obtain ⟨hi1,H⟩:=of_ite H
     obtain ⟨ad1,Aad1_6,cad1_6,e1,hel1,hcad1_6,hrad1_6⟩:=ld_api_Def hr0_0 hi1.1 hi1.2
     obtain ⟨v1,H1,H⟩:=of_bind H
     refine drawn [.eq (Value.agg #[vL A0_0 a0.vDefs.length c0_0]), .eq (vP b1 0), .eq (vL A0_0 a0.vDefs.length c0_0), .eq (vI y1_0), .eq (Value.pointer (some (Addr.add ad1 (y1_0.toNat*7)))), .eq (Value.agg #[vI ((rd z_api_Def a0.vDefs y1_0).vKind),vS ((rd z_api_Def a0.vDefs y1_0).vName),vI ((rd z_api_Def a0.vDefs y1_0).vInt.vSize),vB ((rd z_api_Def a0.vDefs y1_0).vInt.vSigned),vI ((rd z_api_Def a0.vDefs y1_0).vRef),vI ((rd z_api_Def a0.vDefs y1_0).vN),vL Aad1_6 ((rd z_api_Def a0.vDefs y1_0).vFields).length cad1_6]), .eq (vB v1), .eq (vB (!v1))] [18,19,20,21,22,23,24,25] hmix (by kernel_rfl) rfl (stable_eq (stable_eq (stable_eq (stable_eq (stable_eq (stable_eq (stable_eq (stable_eq stable_nil)))))))) ⟨ob_plain rfl (fun a' w' hE hk=>by have HSd:=HS2.step hE;exact does_eq (r_loadBoxAgg (n:=1) (vs:=[vL A0_0 a0.vDefs.length c0_0]) (show _=vP b1 0 from hk 1 rfl) Tryd.isAgg24 (HSd.look 0 rfl) Tryd.sizeOf24 rfl rfl)),ob_plain rfl (fun a' w' hE hk=>by have HSd:=HS2.step hE;exact does_eq (r_fieldBox (n:=1) (o':=0) (show _=vP b1 0 from hk 1 rfl) Tryd.runUnderlying24 rfl Tryd.sizeOf22 (by decide) rfl)),ob_plain rfl (fun a' w' hE hk=>by have HSd:=HS2.step hE;exact does_eq (r_loadBox (show _=vP b1 0 from hk 19 rfl) Tryd.isAgg22 (HSd.look 0 rfl) rfl)),ob_plain rfl (fun a' w' hE hk=>by have HSd:=HS2.step hE;exact does_eq (r_move (show _=vI y1_0 from hk 3 rfl))),ob_plain rfl (fun a' w' hE hk=>by have HSd:=HS2.step hE;exact does_eq (r_indexA (sz:=7) (show _=vL A0_0 a0.vDefs.length c0_0 from hk 20 rfl) e1 (show _=vI y1_0 from hk 21 rfl) hi1.1 hi1.2 Tryd.runUnderlying22 Tryd.sizeOf34)),ob_plain rfl (fun a' w' hE hk=>by have HSd:=HS2.step hE;exact does_eq (r_loadAgg (show _=Value.pointer (some (Addr.add ad1 (y1_0.toNat*7))) from hk 22 rfl) Tryd.isAgg34 (hel1.sees HSd.sees) Tryd.sizeOf34)),ob_plain rfl (fun a' w' hE hk=>by have HSd:=HS2.step hE;exact (does_call_eq Tryd.call48 rfl (map2 (show _=Value.agg #[vL A0_0 a0.vDefs.length c0_0] from hk 18 rfl) (show _=Value.agg #[vI ((rd z_api_Def a0.vDefs y1_0).vKind),vS ((rd z_api_Def a0.vDefs y1_0).vName),vI ((rd z_api_Def a0.vDefs y1_0).vInt.vSize),vB ((rd z_api_Def a0.vDefs y1_0).vInt.vSigned),vI ((rd z_api_Def a0.vDefs y1_0).vRef),vI ((rd z_api_Def a0.vDefs y1_0).vN),vL Aad1_6 ((rd z_api_Def a0.vDefs y1_0).vFields).length cad1_6] from hk 23 rfl)) (taplineref08_shaped.calls k a0 (rd z_api_Def a0.vDefs y1_0) A0_0 c0_0 Aad1_6 cad1_6 HSd.sees hr0_0 hc0_0 hrad1_6 hcad1_6 H1))),ob_plain rfl (fun a' w' hE hk=>by have HSd:=HS2.step hE;exact does_eq (r_not (show _=vB v1 from hk 24 rfl))),trivial⟩ ?_
     intro w3 hE2
     simp only [List.zip_cons_cons,List.zip_nil_left,List.zip_nil_right,finL,sc0,sc1,List.length_cons,List.length_nil,List.drop_succ_cons,List.drop_zero,Nat.zero_add,Nat.reduceAdd]
     have HS3:=HS2.step hE2
     refine run_nil<|norm_then<|wp_cond_split (t:=(!v1)) rfl (fun c3=>?_) (fun c3=>?_)
     ·replace H:=of_pos H c3
      refine wp_seq<|region<|rs (vI 80) (r_assign rfl) ?_
      try simp only [sc0,sc1]
      refine run_nil<|norm_then<|wp_ret<|ret_then<|ret_block<|ret_then<|ret_loop<|ret_then ?_
      obtain rfl:=Option.some.inj H
      obtain rfl:=Option.some.inj G1
      exact bodyPost_ret (results_1 rfl (one_tmp rfl)) rfl<|⟨rfl,HS3.toE⟩
     ·replace H:=of_neg H (nt c3)
      refine wp_skip<|norm_then<|wp_seq<|region<|rs (vI 0) (r_assign rfl) ?_
      try simp only [sc0,sc1]
      refine run_nil<|norm_then ?_
      obtain ⟨xx2,H,G2⟩:=of_bind H
      refine loop_j [2,4,26,27,28,29,30,31,32,33,34,35,36,37,38,39,40,41,42,43,44,45,46,47,48,49,50,51] (fun m us w'=>∃(y2_0:Int),Fit us (fun uy2=>[(uy2 0),vI y2_0,(uy2 2),(uy2 3),(uy2 4),(uy2 5),(uy2 6),(uy2 7),(uy2 8),(uy2 9),(uy2 10),(uy2 11),(uy2 12),(uy2 13),(uy2 14),(uy2 15),(uy2 16),(uy2 17),(uy2 18),(uy2 19),(uy2 20),(uy2 21),(uy2 22),(uy2 23),(uy2 24),(uy2 25),(uy2 26),(uy2 27)])∧taplineref08_Check.l1 a0 y1_0 m y2_0=some xx2∧St [] h0 w0 h0 [(some b1, .cells #[vL A0_0 a0.vDefs.length c0_0] 24 (0,0))] w') (fun us w'=>∃(s1:Unit),xx2= .inr s1∧Fit us (fun uo1=>[(uo1 0),(uo1 1),(uo1 2),(uo1 3),(uo1 4),(uo1 5),(uo1 6),(uo1 7),(uo1 8),(uo1 9),(uo1 10),(uo1 11),(uo1 12),(uo1 13),(uo1 14),(uo1 15),(uo1 16),(uo1 17),(uo1 18),(uo1 19),(uo1 20),(uo1 21),(uo1 22),(uo1 23),(uo1 24),(uo1 25),(uo1 26),(uo1 27)])∧St [] h0 w0 h0 [(some b1, .cells #[vL A0_0 a0.vDefs.length c0_0] 24 (0,0))] w') k ⟨0,(fit rfl),H,HS3⟩ ?_ ?_
      ·rintro m us w4 ⟨y2_0,huy2,H,HS4⟩
       obtain ⟨uy2,rfl⟩:=unj huy2
       cases m with
       |zero=>exact absurd H (by simp [taplineref08_Check.l1])
       |succ m=>
        rw [taplineref08_Check.l1] at H
        try simp only [patch,sc0,sc1]
        refine wp_seq<|wp_seq<|region<|rs (vI y2_0) (r_move rfl)<|rs (vI y1_0) (r_move rfl)<|rs (vB (decide (y2_0<y1_0))) (r_bin rfl rfl rfl) ?_
        try simp only [sc0,sc1]
        refine run_nil<|norm_then<|wp_cond_split (t:=(decide (y2_0<y1_0))) rfl (fun c4=>?_) (fun c4=>?_)
        ·replace H:=of_pos H c4
         refine wp_skip<|norm_then<|wp_seq<|wp_block<|wp_seq ?_
         obtain ⟨hi2,H⟩:=of_ite H
         obtain ⟨ad2,Aad2_6,cad2_6,e2,hel2,hcad2_6,hrad2_6⟩:=ld_api_Def hr0_0 hi2.1 hi2.2
         obtain ⟨v2,H2,H⟩:=of_bind H
         obtain ⟨hi3,H⟩:=of_ite H
         obtain ⟨ad3,Aad3_6,cad3_6,hq1⟩:=gx3 (fun hC:(true&&(v2==true))=true=>ld_api_Def hr0_0 (hi3 hC).1 (hi3 hC).2)
         obtain ⟨hi4,H⟩:=of_ite H
         obtain ⟨ad4,Aad4_6,cad4_6,hq2⟩:=gx3 (fun hC:(true&&(v2==true))=true=>ld_api_Def hr0_0 (hi4 hC).1 (hi4 hC).2)
         refine drawn [.eq (vP b1 0), .eq (vL A0_0 a0.vDefs.length c0_0), .eq (vI y1_0), .eq (Value.pointer (some (Addr.add ad2 (y1_0.toNat*7)))), .eq (Value.agg #[vI ((rd z_api_Def a0.vDefs y1_0).vKind),vS ((rd z_api_Def a0.vDefs y1_0).vName),vI ((rd z_api_Def a0.vDefs y1_0).vInt.vSize),vB ((rd z_api_Def a0.vDefs y1_0).vInt.vSigned),vI ((rd z_api_Def a0.vDefs y1_0).vRef),vI ((rd z_api_Def a0.vDefs y1_0).vN),vL Aad2_6 ((rd z_api_Def a0.vDefs y1_0).vFields).length cad2_6]), .eq (vB v2), .eq (vB v2), .eq (gv (true&&(v2==true)) (vP b1 0)), .eq (gv (true&&(v2==true)) (vL A0_0 a0.vDefs.length c0_0)), .eq (gv (true&&(v2==true)) (vI y2_0)), .eq (gv (true&&(v2==true)) (Value.pointer (some (Addr.add ad3 (y2_0.toNat*7))))), .eq (gv (true&&(v2==true)) (Value.pointer (some (Addr.add (Addr.add ad3 (y2_0.toNat*7)) 1)))), .eq (gv (true&&(v2==true)) (vS ((rd z_api_Def a0.vDefs y2_0).vName))), .eq (gv (true&&(v2==true)) (vP b1 0)), .eq (gv (true&&(v2==true)) (vL A0_0 a0.vDefs.length c0_0)), .eq (gv (true&&(v2==true)) (vI y1_0)), .eq (gv (true&&(v2==true)) (Value.pointer (some (Addr.add ad4 (y1_0.toNat*7))))), .eq (gv (true&&(v2==true)) (Value.pointer (some (Addr.add (Addr.add ad4 (y1_0.toNat*7)) 1)))), .eq (gv (true&&(v2==true)) (vS ((rd z_api_Def a0.vDefs y1_0).vName))), .eq (gv (true&&(v2==true)) (vB (strEq ((rd z_api_Def a0.vDefs y2_0).vName) ((rd z_api_Def a0.vDefs y1_0).vName)))), .eq (vB (v2&&(strEq ((rd z_api_Def a0.vDefs y2_0).vName) ((rd z_api_Def a0.vDefs y1_0).vName))))] [31,32,33,34,35,36,37,38,39,40,41,42,43,44,45,46,47,48,49,50,51] hmix (by kernel_rfl) rfl (stable_eq (stable_eq (stable_eq (stable_eq (stable_eq (stable_eq (stable_eq (stable_eq (stable_eq (stable_eq (stable_eq (stable_eq (stable_eq (stable_eq (stable_eq (stable_eq (stable_eq (stable_eq (stable_eq (stable_eq (stable_eq stable_nil))))))))))))))))))))) ⟨ob_plain rfl (fun a' w' hE hk=>by have HSd:=HS4.step hE;exact does_eq (r_fieldBox (n:=1) (o':=0) (show _=vP b1 0 from hk 1 rfl) Tryd.runUnderlying24 rfl Tryd.sizeOf22 (by decide) rfl)),ob_plain rfl (fun a' w' hE hk=>by have HSd:=HS4.step hE;exact does_eq (r_loadBox (show _=vP b1 0 from hk 31 rfl) Tryd.isAgg22 (HSd.look 0 rfl) rfl)),ob_plain rfl (fun a' w' hE hk=>by have HSd:=HS4.step hE;exact does_eq (r_move (show _=vI y1_0 from hk 3 rfl))),ob_plain rfl (fun a' w' hE hk=>by have HSd:=HS4.step hE;exact does_eq (r_indexA (sz:=7) (show _=vL A0_0 a0.vDefs.length c0_0 from hk 32 rfl) e2 (show _=vI y1_0 from hk 33 rfl) hi2.1 hi2.2 Tryd.runUnderlying22 Tryd.sizeOf34)),ob_plain rfl (fun a' w' hE hk=>by have HSd:=HS4.step hE;exact does_eq (r_loadAgg (show _=Value.pointer (some (Addr.add ad2 (y1_0.toNat*7))) from hk 34 rfl) Tryd.isAgg34 (hel2.sees HSd.sees) Tryd.sizeOf34)),ob_plain rfl (fun a' w' hE hk=>by have HSd:=HS4.step hE;exact (does_call_eq Tryd.call49 rfl (map1 (show _=Value.agg #[vI ((rd z_api_Def a0.vDefs y1_0).vKind),vS ((rd z_api_Def a0.vDefs y1_0).vName),vI ((rd z_api_Def a0.vDefs y1_0).vInt.vSize),vB ((rd z_api_Def a0.vDefs y1_0).vInt.vSigned),vI ((rd z_api_Def a0.vDefs y1_0).vRef),vI ((rd z_api_Def a0.vDefs y1_0).vN),vL Aad2_6 ((rd z_api_Def a0.vDefs y1_0).vFields).length cad2_6] from hk 35 rfl)) (taplineref08_Named.calls (rd z_api_Def a0.vDefs y1_0) Aad2_6 cad2_6 HSd.sees hrad2_6 hcad2_6 H2))),ob_plain rfl (fun a' w' hE hk=>by have HSd:=HS4.step hE;exact does_eq (r_move (show _=vB v2 from hk 36 rfl))),ob_guard (b:=v2) (c:=true) rfl rfl (by decide) (fun w' u hu=>hu) (fun a' w' hE hk hg=>by have HSd:=HS4.step hE;exact does_eq (r_fieldBox (n:=1) (o':=0) (show _=vP b1 0 from hk 1 rfl) Tryd.runUnderlying24 rfl Tryd.sizeOf22 (by decide) rfl)),ob_guard (b:=v2) (c:=true) rfl rfl (by decide) (fun w' u hu=>hu) (fun a' w' hE hk hg=>by have HSd:=HS4.step hE;exact does_eq (r_loadBox ((show _=gv (true&&(v2==true)) (vP b1 0) from (show _=gv (true&&(v2==true)) (vP b1 0) from hk 38 rfl)).trans (gv_t hg)) Tryd.isAgg22 (HSd.look 0 rfl) rfl)),ob_guard (b:=v2) (c:=true) rfl rfl (by decide) (fun w' u hu=>hu) (fun a' w' hE hk hg=>by have HSd:=HS4.step hE;exact does_eq (r_move (show _=vI y2_0 from hk 4 rfl))),ob_guard (b:=v2) (c:=true) rfl rfl (by decide) (fun w' u hu=>hu) (fun a' w' hE hk hg=>by have HSd:=HS4.step hE;exact does_eq (r_indexA (sz:=7) ((show _=gv (true&&(v2==true)) (vL A0_0 a0.vDefs.length c0_0) from (show _=gv (true&&(v2==true)) (vL A0_0 a0.vDefs.length c0_0) from hk 39 rfl)).trans (gv_t hg)) (hq1 hg).1 ((show _=gv (true&&(v2==true)) (vI y2_0) from (show _=gv (true&&(v2==true)) (vI y2_0) from hk 40 rfl)).trans (gv_t hg)) (hi3 hg).1 (hi3 hg).2 Tryd.runUnderlying22 Tryd.sizeOf34)),ob_guard (b:=v2) (c:=true) rfl rfl (by decide) (fun w' u hu=>hu) (fun a' w' hE hk hg=>by have HSd:=HS4.step hE;exact does_eq (r_fieldEl (n:=1) (o':=1) ((show _=gv (true&&(v2==true)) (Value.pointer (some (Addr.add ad3 (y2_0.toNat*7)))) from (show _=gv (true&&(v2==true)) (Value.pointer (some (Addr.add ad3 (y2_0.toNat*7)))) from hk 41 rfl)).trans (gv_t hg)) Tryd.runUnderlying34 rfl Tryd.sizeOf9 (by decide) rfl)),ob_guard (b:=v2) (c:=true) rfl rfl (by decide) (fun w' u hu=>hu) (fun a' w' hE hk hg=>by have HSd:=HS4.step hE;exact does_eq (r_load ((show _=gv (true&&(v2==true)) (Value.pointer (some (Addr.add (Addr.add ad3 (y2_0.toNat*7)) 1))) from (show _=gv (true&&(v2==true)) (Value.pointer (some (Addr.add (Addr.add ad3 (y2_0.toNat*7)) 1))) from hk 42 rfl)).trans (gv_t hg)) Tryd.isAgg9 (((hq1 hg).2.1).cell HSd.sees 1 rfl))),ob_guard (b:=v2) (c:=true) rfl rfl (by decide) (fun w' u hu=>hu) (fun a' w' hE hk hg=>by have HSd:=HS4.step hE;exact does_eq (r_fieldBox (n:=1) (o':=0) (show _=vP b1 0 from hk 1 rfl) Tryd.runUnderlying24 rfl Tryd.sizeOf22 (by decide) rfl)),ob_guard (b:=v2) (c:=true) rfl rfl (by decide) (fun w' u hu=>hu) (fun a' w' hE hk hg=>by have HSd:=HS4.step hE;exact does_eq (r_loadBox ((show _=gv (true&&(v2==true)) (vP b1 0) from (show _=gv (true&&(v2==true)) (vP b1 0) from hk 44 rfl)).trans (gv_t hg)) Tryd.isAgg22 (HSd.look 0 rfl) rfl)),ob_guard (b:=v2) (c:=true) rfl rfl (by decide) (fun w' u hu=>hu) (fun a' w' hE hk hg=>by have HSd:=HS4.step hE;exact does_eq (r_move (show _=vI y1_0 from hk 3 rfl))),ob_guard (b:=v2) (c:=true) rfl rfl (by decide) (fun w' u hu=>hu) (fun a' w' hE hk hg=>by have HSd:=HS4.step hE;exact does_eq (r_indexA (sz:=7) ((show _=gv (true&&(v2==true)) (vL A0_0 a0.vDefs.length c0_0) from (show _=gv (true&&(v2==true)) (vL A0_0 a0.vDefs.length c0_0) from hk 45 rfl)).trans (gv_t hg)) (hq2 hg).1 ((show _=gv (true&&(v2==true)) (vI y1_0) from (show _=gv (true&&(v2==true)) (vI y1_0) from hk 46 rfl)).trans (gv_t hg)) (hi4 hg).1 (hi4 hg).2 Tryd.runUnderlying22 Tryd.sizeOf34)),ob_guard (b:=v2) (c:=true) rfl rfl (by decide) (fun w' u hu=>hu) (fun a' w' hE hk hg=>by have HSd:=HS4.step hE;exact does_eq (r_fieldEl (n:=1) (o':=1) ((show _=gv (true&&(v2==true)) (Value.pointer (some (Addr.add ad4 (y1_0.toNat*7)))) from (show _=gv (true&&(v2==true)) (Value.pointer (some (Addr.add ad4 (y1_0.toNat*7)))) from hk 47 rfl)).trans (gv_t hg)) Tryd.runUnderlying34 rfl Tryd.sizeOf9 (by decide) rfl)),ob_guard (b:=v2) (c:=true) rfl rfl (by decide) (fun w' u hu=>hu) (fun a' w' hE hk hg=>by have HSd:=HS4.step hE;exact does_eq (r_load ((show _=gv (true&&(v2==true)) (Value.pointer (some (Addr.add (Addr.add ad4 (y1_0.toNat*7)) 1))) from (show _=gv (true&&(v2==true)) (Value.pointer (some (Addr.add (Addr.add ad4 (y1_0.toNat*7)) 1))) from hk 48 rfl)).trans (gv_t hg)) Tryd.isAgg9 (((hq2 hg).2.1).cell HSd.sees 1 rfl))),ob_guard (b:=v2) (c:=true) rfl rfl (by decide) (fun w' u hu=>hu) (fun a' w' hE hk hg=>by have HSd:=HS4.step hE;exact does_eq (r_streql ((show _=gv (true&&(v2==true)) (vS ((rd z_api_Def a0.vDefs y2_0).vName)) from (show _=gv (true&&(v2==true)) (vS ((rd z_api_Def a0.vDefs y2_0).vName)) from hk 43 rfl)).trans (gv_t hg)) ((show _=gv (true&&(v2==true)) (vS ((rd z_api_Def a0.vDefs y1_0).vName)) from (show _=gv (true&&(v2==true)) (vS ((rd z_api_Def a0.vDefs y1_0).vName)) from hk 49 rfl)).trans (gv_t hg)))),ob_plain rfl (fun a' w' hE hk=>by have HSd:=HS4.step hE;exact does_eq (r_pick_and (show _=vB v2 from hk 37 rfl) (fun hp=>((show _=gv (true&&(v2==true)) (vB (strEq ((rd z_api_Def a0.vDefs y2_0).vName) ((rd z_api_Def a0.vDefs y1_0).vName))) from (show _=gv (true&&(v2==true)) (vB (strEq ((rd z_api_Def a0.vDefs y2_0).vName) ((rd z_api_Def a0.vDefs y1_0).vName))) from hk 50 rfl)).trans (gv_t (and_i rfl hp)))) rfl)),trivial⟩ ?_
         intro w5 hE3
         simp only [List.zip_cons_cons,List.zip_nil_left,List.zip_nil_right,finL,sc0,sc1,List.length_cons,List.length_nil,List.drop_succ_cons,List.drop_zero,Nat.zero_add,Nat.reduceAdd]
         have HS5:=HS4.step hE3
         refine run_nil<|norm_then<|wp_cond_split (t:=(v2&&(strEq ((rd z_api_Def a0.vDefs y2_0).vName) ((rd z_api_Def a0.vDefs y1_0).vName)))) rfl (fun c5=>?_) (fun c5=>?_)
         ·replace H:=of_pos H c5
          refine wp_seq<|region<|rs (vI 80) (r_assign rfl) ?_
          try simp only [sc0,sc1]
          refine run_nil<|norm_then<|wp_ret<|ret_block<|ret_then<|ret_loop<|ret_block<|ret_then<|ret_loop<|ret_then ?_
          obtain rfl:=Option.some.inj H
          obtain rfl:=Option.some.inj G2
          obtain rfl:=Option.some.inj G1
          exact bodyPost_ret (results_1 rfl (one_tmp rfl)) rfl<|⟨rfl,HS5.toE⟩
         ·replace H:=of_neg H (nt c5)
          refine wp_skip<|norm_block<|norm_then<|region<|rs (vI y2_0) (r_move rfl)<|rs (vI (w64 (y2_0+1))) (r_bin rfl rfl rfl)<|rs (vI (w64 (y2_0+1))) (r_assign rfl) ?_
          try simp only [sc0,sc1]
          refine run_nil<|again_j m (Nat.lt_succ_self m) rfl ⟨(w64 (y2_0+1)),(fit rfl),H,HS5⟩
        ·replace H:=of_neg H (nt c4)
         refine wp_exit<|exit_then ?_
         obtain rfl:=Option.some.inj H
         refine leave_j rfl ⟨_,rfl,(fit rfl),HS4⟩
      ·rintro us w6 ⟨s1,rfl,huo1,HS6⟩
       obtain ⟨uo1,rfl⟩:=unj huo1
       replace H:=G2
       clear G2
       try simp only [patch,sc0,sc1]
       refine norm_block<|norm_then<|region<|rs (vI y1_0) (r_move rfl)<|rs (vI (w64 (y1_0+1))) (r_bin rfl rfl rfl)<|rs (vI (w64 (y1_0+1))) (r_assign rfl) ?_
       try simp only [sc0,sc1]
       refine run_nil<|again_j m (Nat.lt_succ_self m) rfl ⟨(w64 (y1_0+1)),(fit rfl),H,HS6⟩
    ·replace H:=of_neg H (nt c2)
     refine wp_exit<|exit_then ?_
     obtain rfl:=Option.some.inj H
     refine leave_j rfl ⟨_,rfl,(fit rfl),HS2⟩
  ·rintro us w7 ⟨s2,rfl,huo2,HS7⟩
   obtain ⟨uo2,rfl⟩:=unj huo2
   replace H:=G1
   clear G1
   try simp only [patch,sc0,sc1]
   refine norm_then<|wp_seq<|region<|rs (Value.agg #[vL A0_0 a0.vDefs.length c0_0]) (r_loadBoxAgg (n:=1) (vs:=[vL A0_0 a0.vDefs.length c0_0]) rfl Tryd.isAgg24 (HS7.look 0 rfl) Tryd.sizeOf24 rfl rfl) ?_
   obtain ⟨v3,H3,H⟩:=of_bind H
   refine run_ex rfl rfl (does_call Tryd.call50 rfl (gives_in (h:=h0) (R:=(fun hx u=>∃(Av3_0_0:Option Addr) (cv3_0_0:Nat),u=vL Av3_0_0 v3.length cv3_0_0∧v3.length≤cv3_0_0∧Rd (Kd.int .i64) hx Av3_0_0 v3)) (Ext.rfl' w7) ((taplineref08_sizes.calls k a0 A0_0 c0_0 HS7.sees hr0_0 hc0_0 H3).mono ?_)) rfl) ?_
   ·rintro _ _ ⟨h1,Av3_0_0,cv3_0_0,rfl,hcv3_0_0,hrv3_0_0,g,ss,x⟩
    exact ⟨h1,_,rfl,⟨Av3_0_0,cv3_0_0,rfl,hcv3_0_0,hrv3_0_0⟩,g,ss,x⟩
   rintro w8 _ hE4 ⟨h1,⟨Av3_0_0,cv3_0_0,rfl,hcv3_0_0,hrv3_0_0⟩,gr1,se1⟩
   have HS8:=HS7.view hE4 gr1 se1
   refine rs (vL Av3_0_0 v3.length cv3_0_0) (r_assign rfl) ?_
   try simp only [sc0,sc1]
   refine run_nil<|norm_then<|wp_seq<|wp_seq<|region<|rs (vI 0) (r_assign rfl) ?_
   try simp only [sc0,sc1]
   refine run_nil<|norm_then ?_
   obtain ⟨xx3,H,G3⟩:=of_bind H
   refine loop_j [2,6,54,55,56,57,58,59,60,61,62,63,64,65,66,67,68,69,70,71,72,73,74,75,76,77,78,79,80,81,82,83,84,85,86,87,88,89,90,91,92,93,94,95] (fun m us w'=>∃(y3_0:Int),Fit us (fun uy3=>[(uy3 0),vI y3_0,(uy3 2),(uy3 3),(uy3 4),(uy3 5),(uy3 6),(uy3 7),(uy3 8),(uy3 9),(uy3 10),(uy3 11),(uy3 12),(uy3 13),(uy3 14),(uy3 15),(uy3 16),(uy3 17),(uy3 18),(uy3 19),(uy3 20),(uy3 21),(uy3 22),(uy3 23),(uy3 24),(uy3 25),(uy3 26),(uy3 27),(uy3 28),(uy3 29),(uy3 30),(uy3 31),(uy3 32),(uy3 33),(uy3 34),(uy3 35),(uy3 36),(uy3 37),(uy3 38),(uy3 39),(uy3 40),(uy3 41),(uy3 42),(uy3 43)])∧taplineref08_Check.l2 k a0 v3 m y3_0=some xx3∧St [] h0 w0 h1 [(some b1, .cells #[vL A0_0 a0.vDefs.length c0_0] 24 (0,0))] w') (fun us w'=>∃(s3:Unit),xx3= .inr s3∧Fit us (fun uo3=>[(uo3 0),(uo3 1),(uo3 2),(uo3 3),(uo3 4),(uo3 5),(uo3 6),(uo3 7),(uo3 8),(uo3 9),(uo3 10),(uo3 11),(uo3 12),(uo3 13),(uo3 14),(uo3 15),(uo3 16),(uo3 17),(uo3 18),(uo3 19),(uo3 20),(uo3 21),(uo3 22),(uo3 23),(uo3 24),(uo3 25),(uo3 26),(uo3 27),(uo3 28),(uo3 29),(uo3 30),(uo3 31),(uo3 32),(uo3 33),(uo3 34),(uo3 35),(uo3 36),(uo3 37),(uo3 38),(uo3 39),(uo3 40),(uo3 41),(uo3 42),(uo3 43)])∧St [] h0 w0 h1 [(some b1, .cells #[vL A0_0 a0.vDefs.length c0_0] 24 (0,0))] w') k ⟨0,(fit rfl),H,HS8⟩ ?_ ?_
   ·rintro m us w9 ⟨y3_0,huy3,H,HS9⟩
    obtain ⟨uy3,rfl⟩:=unj huy3
    cases m with
    |zero=>exact absurd H (by simp [taplineref08_Check.l2])
    |succ m=>
     rw [taplineref08_Check.l2] at H
     try simp only [patch,sc0,sc1]
     refine wp_seq<|wp_seq<|region<|rs (vI y3_0) (r_move rfl)<|rs (vP b1 0) (r_fieldBox (n:=1) (o':=0) rfl Tryd.runUnderlying24 rfl Tryd.sizeOf22 (by decide) rfl)<|rs (vL A0_0 a0.vDefs.length c0_0) (r_loadBox rfl Tryd.isAgg22 (HS9.look 0 rfl) rfl)<|rs (vI (a0.vDefs.length:Int)) (r_len rfl Tryd.runUnderlying22)<|run_frame (by simp only [sc0,sc1];rfl) ?_
     refine rs (vB (decide (y3_0<(a0.vDefs.length:Int)))) (r_bin rfl rfl rfl) ?_
     try simp only [sc0,sc1]
     refine run_nil<|norm_then<|wp_cond_split (t:=(decide (y3_0<(a0.vDefs.length:Int)))) rfl (fun c6=>?_) (fun c6=>?_)
     ·replace H:=of_pos H c6
      refine wp_skip<|norm_then<|wp_seq<|wp_block<|wp_seq<|wp_seq<|region<|rs (vL Av3_0_0 v3.length cv3_0_0) (r_move rfl)<|rs (vI y3_0) (r_move rfl) ?_
      obtain ⟨hi5,H⟩:=of_ite H
      obtain ⟨ad5,e5,hel5⟩:=ld_int hrv3_0_0 hi5.1 hi5.2
      refine rs (Value.pointer (some (Addr.add ad5 (y3_0.toNat*1)))) (r_indexA (sz:=1) rfl e5 rfl hi5.1 hi5.2 Tryd.runUnderlying62 Tryd.sizeOf3)<|rs (vI (rd 0 v3 y3_0)) (r_load rfl Tryd.isAgg3 (hel5.cell0 HS9.sees rfl))<|run_frame (by simp only [sc0,sc1];rfl) ?_
      refine rs (vB ((rd 0 v3 y3_0)==0)) (r_bin rfl rfl rfl)<|rs (vB ((rd 0 v3 y3_0)==0)) (r_move rfl)<|rgs ((rd 0 v3 y3_0)==0) true (vL Av3_0_0 v3.length cv3_0_0) rfl rfl rfl rfl (fun hg=>(r_move rfl))<|rgs ((rd 0 v3 y3_0)==0) true (vI y3_0) rfl rfl rfl rfl (fun hg=>(r_move rfl))<|run_frame (by simp only [sc0,sc1];rfl) ?_
      obtain ⟨hi6,H⟩:=of_ite H
      obtain ⟨ad6,hq3⟩:=gx1 (fun hC:(true&&(((rd 0 v3 y3_0)==0)==false))=true=>ld_int hrv3_0_0 (hi6 hC).1 (hi6 hC).2)
      refine rgs ((rd 0 v3 y3_0)==0) true (Value.pointer (some (Addr.add ad6 (y3_0.toNat*1)))) rfl rfl rfl rfl (fun hg=>(r_indexA (sz:=1) (gvt (vL Av3_0_0 v3.length cv3_0_0) hg rfl) (hq3 hg).1 (gvt (vI y3_0) hg rfl) (hi6 hg).1 (hi6 hg).2 Tryd.runUnderlying62 Tryd.sizeOf3))<|rgs ((rd 0 v3 y3_0)==0) true (vI (rd 0 v3 y3_0)) rfl rfl rfl rfl (fun hg=>(r_load (gvt (Value.pointer (some (Addr.add ad6 (y3_0.toNat*1)))) hg rfl) Tryd.isAgg3 (((hq3 hg).2).cell0 HS9.sees rfl)))<|rgs ((rd 0 v3 y3_0)==0) true (vB (decide ((rd 0 v3 y3_0)>512))) rfl rfl rfl rfl (fun hg=>(r_bin (gvt (vI (rd 0 v3 y3_0)) hg rfl) rfl rfl))<|rs (vB (((rd 0 v3 y3_0)==0)||(decide ((rd 0 v3 y3_0)>512)))) (r_pick_or rfl rfl (fun hp=>(gvt (vB (decide ((rd 0 v3 y3_0)>512))) (and_i rfl hp) rfl)))<|run_frame (by simp only [sc0,sc1];rfl) ?_
      refine rs (vB (((rd 0 v3 y3_0)==0)||(decide ((rd 0 v3 y3_0)>512)))) (r_move rfl)<|rgs (((rd 0 v3 y3_0)==0)||(decide ((rd 0 v3 y3_0)>512))) true (Value.agg #[vL A0_0 a0.vDefs.length c0_0]) rfl rfl rfl rfl (fun hg=>(r_loadBoxAgg (n:=1) (vs:=[vL A0_0 a0.vDefs.length c0_0]) rfl Tryd.isAgg24 (HS9.look 0 rfl) Tryd.sizeOf24 rfl rfl))<|rgs (((rd 0 v3 y3_0)==0)||(decide ((rd 0 v3 y3_0)>512))) true (vI y3_0) rfl rfl rfl rfl (fun hg=>(r_move rfl)) ?_
      obtain ⟨v4,H4,H⟩:=of_bind H
      refine run_g (b:=(((rd 0 v3 y3_0)==0)||(decide ((rd 0 v3 y3_0)>512)))) (c:=true) (v:=vB v4) rfl rfl rfl rfl (fun hg=>(does_call_eq Tryd.call51 rfl (map2 (gvt (Value.agg #[vL A0_0 a0.vDefs.length c0_0]) hg rfl) (gvt (vI y3_0) hg rfl)) (taplineref08_ends.calls k a0 y3_0 A0_0 c0_0 HS9.sees (hr0_0.ext HS9.sub) hc0_0 (of_pos H4 hg)))) ?_
      intro w10 hE5
      have HS10:=HS9.step hE5
      refine run_frame (by simp only [sc0,sc1];rfl) ?_
      refine rgs (((rd 0 v3 y3_0)==0)||(decide ((rd 0 v3 y3_0)>512))) true (vB (!v4)) rfl rfl rfl rfl (fun hg=>(r_not (gvt (vB v4) hg rfl)))<|rs (vB ((((rd 0 v3 y3_0)==0)||(decide ((rd 0 v3 y3_0)>512)))||(!v4))) (r_pick_or rfl rfl (fun hp=>(gvt (vB (!v4)) (and_i rfl hp) rfl))) ?_
      try simp only [sc0,sc1]
      refine run_nil<|norm_then<|wp_cond_split (t:=((((rd 0 v3 y3_0)==0)||(decide ((rd 0 v3 y3_0)>512)))||(!v4))) rfl (fun c7=>?_) (fun c7=>?_)
      ·replace H:=of_pos H c7
       refine wp_seq<|region<|rs (vI 80) (r_assign rfl) ?_
       try simp only [sc0,sc1]
       refine run_nil<|norm_then<|wp_ret<|ret_then<|ret_block<|ret_then<|ret_loop<|ret_then ?_
       obtain rfl:=Option.some.inj H
       obtain rfl:=Option.some.inj G3
       exact bodyPost_ret (results_1 rfl (one_tmp rfl)) rfl<|⟨rfl,HS10.toE⟩
      ·replace H:=of_neg H (nt c7)
       refine wp_skip<|norm_then<|wp_seq<|region<|rs (vP b1 0) (r_fieldBox (n:=1) (o':=0) rfl Tryd.runUnderlying24 rfl Tryd.sizeOf22 (by decide) rfl)<|rs (vL A0_0 a0.vDefs.length c0_0) (r_loadBox rfl Tryd.isAgg22 (HS10.look 0 rfl) rfl)<|rs (vI y3_0) (r_move rfl) ?_
       obtain ⟨hi7,H⟩:=of_ite H
       obtain ⟨ad7,Aad7_6,cad7_6,e7,hel7,hcad7_6,hrad7_6⟩:=ld_api_Def (hr0_0.ext HS10.sub) hi7.1 hi7.2
       refine rs (Value.pointer (some (Addr.add ad7 (y3_0.toNat*7)))) (r_indexA (sz:=7) rfl e7 rfl hi7.1 hi7.2 Tryd.runUnderlying22 Tryd.sizeOf34)<|run_frame (by simp only [sc0,sc1];rfl) ?_
       refine rs (Value.pointer (some (Addr.add (Addr.add ad7 (y3_0.toNat*7)) 0))) (r_fieldEl (n:=1) (o':=0) rfl Tryd.runUnderlying34 rfl Tryd.sizeOf3 (by decide) rfl)<|rs (vI ((rd z_api_Def a0.vDefs y3_0).vKind)) (r_load rfl Tryd.isAgg3 (hel7.cell HS10.sees 0 rfl))<|rs (vB ((rd z_api_Def a0.vDefs y3_0).vKind==4)) (r_bin rfl rfl rfl)<|rs (vB ((rd z_api_Def a0.vDefs y3_0).vKind==4)) (r_move rfl)<|run_frame (by simp only [sc0,sc1];rfl) ?_
       refine rgs ((rd z_api_Def a0.vDefs y3_0).vKind==4) true (vP b1 0) rfl rfl rfl rfl (fun hg=>(r_fieldBox (n:=1) (o':=0) rfl Tryd.runUnderlying24 rfl Tryd.sizeOf22 (by decide) rfl))<|rgs ((rd z_api_Def a0.vDefs y3_0).vKind==4) true (vL A0_0 a0.vDefs.length c0_0) rfl rfl rfl rfl (fun hg=>(r_loadBox (gvt (vP b1 0) hg rfl) Tryd.isAgg22 (HS10.look 0 rfl) rfl))<|rgs ((rd z_api_Def a0.vDefs y3_0).vKind==4) true (vI y3_0) rfl rfl rfl rfl (fun hg=>(r_move rfl)) ?_
       obtain ⟨hi8,H⟩:=of_ite H
       obtain ⟨ad8,Aad8_6,cad8_6,hq4⟩:=gx3 (fun hC:(true&&(((rd z_api_Def a0.vDefs y3_0).vKind==4)==true))=true=>ld_api_Def (hr0_0.ext HS10.sub) (hi8 hC).1 (hi8 hC).2)
       refine rgs ((rd z_api_Def a0.vDefs y3_0).vKind==4) true (Value.pointer (some (Addr.add ad8 (y3_0.toNat*7)))) rfl rfl rfl rfl (fun hg=>(r_indexA (sz:=7) (gvt (vL A0_0 a0.vDefs.length c0_0) hg rfl) (hq4 hg).1 (gvt (vI y3_0) hg rfl) (hi8 hg).1 (hi8 hg).2 Tryd.runUnderlying22 Tryd.sizeOf34))<|run_frame (by simp only [sc0,sc1];rfl) ?_
       refine rgs ((rd z_api_Def a0.vDefs y3_0).vKind==4) true (Value.agg #[vI ((rd z_api_Def a0.vDefs y3_0).vKind),vS ((rd z_api_Def a0.vDefs y3_0).vName),vI ((rd z_api_Def a0.vDefs y3_0).vInt.vSize),vB ((rd z_api_Def a0.vDefs y3_0).vInt.vSigned),vI ((rd z_api_Def a0.vDefs y3_0).vRef),vI ((rd z_api_Def a0.vDefs y3_0).vN),vL Aad8_6 ((rd z_api_Def a0.vDefs y3_0).vFields).length cad8_6]) rfl rfl rfl rfl (fun hg=>(r_loadAgg (gvt (Value.pointer (some (Addr.add ad8 (y3_0.toNat*7)))) hg rfl) Tryd.isAgg34 (((hq4 hg).2.1).sees HS10.sees) Tryd.sizeOf34))<|rgs ((rd z_api_Def a0.vDefs y3_0).vKind==4) true (vL Av3_0_0 v3.length cv3_0_0) rfl rfl rfl rfl (fun hg=>(r_move rfl)) ?_
       obtain ⟨v5,H5,H⟩:=of_bind H
       refine run_g (b:=((rd z_api_Def a0.vDefs y3_0).vKind==4)) (c:=true) (v:=vB v5) rfl rfl rfl rfl (fun hg=>(does_call_eq Tryd.call52 rfl (map2 (gvt (Value.agg #[vI ((rd z_api_Def a0.vDefs y3_0).vKind),vS ((rd z_api_Def a0.vDefs y3_0).vName),vI ((rd z_api_Def a0.vDefs y3_0).vInt.vSize),vB ((rd z_api_Def a0.vDefs y3_0).vInt.vSigned),vI ((rd z_api_Def a0.vDefs y3_0).vRef),vI ((rd z_api_Def a0.vDefs y3_0).vN),vL Aad8_6 ((rd z_api_Def a0.vDefs y3_0).vFields).length cad8_6]) hg rfl) (gvt (vL Av3_0_0 v3.length cv3_0_0) hg rfl)) (taplineref08_placed.calls k (rd z_api_Def a0.vDefs y3_0) v3 Aad8_6 cad8_6 Av3_0_0 cv3_0_0 HS10.sees ((hq4 hg).2.2.2) ((hq4 hg).2.2.1) hrv3_0_0 hcv3_0_0 (of_pos H5 hg)))) ?_
       intro w11 hE6
       have HS11:=HS10.step hE6
       refine rgs ((rd z_api_Def a0.vDefs y3_0).vKind==4) true (vB (!v5)) rfl rfl rfl rfl (fun hg=>(r_not (gvt (vB v5) hg rfl)))<|run_frame (by simp only [sc0,sc1];rfl) ?_
       refine rs (vB (((rd z_api_Def a0.vDefs y3_0).vKind==4)&&(!v5))) (r_pick_and rfl (fun hp=>(gvt (vB (!v5)) (and_i rfl hp) rfl)) rfl) ?_
       try simp only [sc0,sc1]
       refine run_nil<|norm_then<|wp_cond_split (t:=(((rd z_api_Def a0.vDefs y3_0).vKind==4)&&(!v5))) rfl (fun c8=>?_) (fun c8=>?_)
       ·replace H:=of_pos H c8
        refine wp_seq<|region<|rs (vI 80) (r_assign rfl) ?_
        try simp only [sc0,sc1]
        refine run_nil<|norm_then<|wp_ret<|ret_block<|ret_then<|ret_loop<|ret_then ?_
        obtain rfl:=Option.some.inj H
        obtain rfl:=Option.some.inj G3
        exact bodyPost_ret (results_1 rfl (one_tmp rfl)) rfl<|⟨rfl,HS11.toE⟩
       ·replace H:=of_neg H (nt c8)
        refine wp_skip<|norm_block<|norm_then<|region<|rs (vI y3_0) (r_move rfl)<|rs (vI (w64 (y3_0+1))) (r_bin rfl rfl rfl)<|rs (vI (w64 (y3_0+1))) (r_assign rfl) ?_
        try simp only [sc0,sc1]
        refine run_nil<|again_j m (Nat.lt_succ_self m) rfl ⟨(w64 (y3_0+1)),(fit rfl),H,HS11⟩
     ·replace H:=of_neg H (nt c6)
      refine wp_exit<|exit_then ?_
      obtain rfl:=Option.some.inj H
      refine leave_j rfl ⟨_,rfl,(fit rfl),HS9⟩
   ·rintro us w12 ⟨s3,rfl,huo3,HS12⟩
    obtain ⟨uo3,rfl⟩:=unj huo3
    replace H:=G3
    clear G3
    try simp only [patch,sc0,sc1]
    refine norm_then<|wp_seq<|region<|rs (vI 0) (r_assign rfl) ?_
    try simp only [sc0,sc1]
    refine run_nil<|norm_then<|wp_ret ?_
    obtain rfl:=Option.some.inj H
    exact bodyPost_ret (results_1 rfl (one_tmp rfl)) rfl<|⟨rfl,HS12.toE⟩
def taplineref08_given.f (k:Nat) (a0:api_Types) (a1:Int):Option (Int):=(taplineref08_Check.f k a0).bind fun v1=>((if (true&&((v1==0)==true))=true then taplineref08_Index.f a0 a1 else some false).bind fun v2=>(((if ((v1==0)&&(!v2))=true then (some 3) else (some v1)):Option (Int)).bind fun xx1=>(some xx1)))
theorem taplineref08_given.calls (k:Nat) (a0:api_Types) (a1:Int) (A0_0:Option Addr) (c0_0:Nat) {h0:View} {w0:World} (hv:Sees h0 w0) (hr0_0:Rd k_api_Def h0 A0_0 a0.vDefs) (hc0_0:a0.vDefs.length≤c0_0) {r:Int} (H:taplineref08_given.f k a0 a1=some r):Calls Tryd.prog 55 #[Value.agg #[vL A0_0 a0.vDefs.length c0_0],vI a1] w0 (fun e w1=>e= .returned (vI r)∧Ext w0 w1):=by
 unfold taplineref08_given.f at H
 have HS:St [] h0 w0 h0 [] w0:=St.init hv
 go_enter Tryd.func55,Tryd.ntmps55
 refine wp_seq<|region<|run_ex rfl rfl (does_box (cs:=#[vL A0_0 a0.vDefs.length c0_0]) rfl rfl) ?_
 rintro w1 _ hE1 ⟨b1,rfl,ge1,hb1⟩
 have HS1:=HS.new hE1 ge1 hb1
 refine rs (vI 0) (r_assign rfl) ?_
 try simp only [sc0,sc1]
 refine run_nil<|norm_then<|wp_seq<|region<|rs (Value.agg #[vL A0_0 a0.vDefs.length c0_0]) (r_loadBoxAgg (n:=1) (vs:=[vL A0_0 a0.vDefs.length c0_0]) rfl Tryd.isAgg24 (HS1.look 0 rfl) Tryd.sizeOf24 rfl rfl) ?_
 obtain ⟨v1,H1,H⟩:=of_bind H
 refine run_eq (v:=vI v1) rfl rfl (does_call_eq Tryd.call19 rfl rfl (taplineref08_Check.calls k a0 A0_0 c0_0 HS1.sees hr0_0 hc0_0 H1)) ?_
 intro w2 hE2
 have HS2:=HS1.step hE2
 refine rs (vI v1) (r_assign rfl) ?_
 try simp only [sc0,sc1]
 refine run_nil<|norm_then<|wp_seq<|wp_seq<|region<|rs (vI v1) (r_move rfl)<|rs (vB (v1==0)) (r_bin rfl rfl rfl)<|rs (vB (v1==0)) (r_move rfl)<|rgs (v1==0) true (Value.agg #[vL A0_0 a0.vDefs.length c0_0]) rfl rfl rfl rfl (fun hg=>(r_loadBoxAgg (n:=1) (vs:=[vL A0_0 a0.vDefs.length c0_0]) rfl Tryd.isAgg24 (HS2.look 0 rfl) Tryd.sizeOf24 rfl rfl))<|run_frame (by simp only [sc0,sc1];rfl) ?_
 refine rgs (v1==0) true (vI a1) rfl rfl rfl rfl (fun hg=>(r_move rfl)) ?_
 obtain ⟨v2,H2,H⟩:=of_bind H
 refine run_g (b:=(v1==0)) (c:=true) (v:=vB v2) rfl rfl rfl rfl (fun hg=>(does_call_eq Tryd.call96 rfl (map2 (gvt (Value.agg #[vL A0_0 a0.vDefs.length c0_0]) hg rfl) (gvt (vI a1) hg rfl)) (taplineref08_Index.calls a0 a1 A0_0 c0_0 HS2.sees hr0_0 hc0_0 (of_pos H2 hg)))) ?_
 intro w3 hE3
 have HS3:=HS2.step hE3
 refine rgs (v1==0) true (vB (!v2)) rfl rfl rfl rfl (fun hg=>(r_not (gvt (vB v2) hg rfl)))<|rs (vB ((v1==0)&&(!v2))) (r_pick_and rfl (fun hp=>(gvt (vB (!v2)) (and_i rfl hp) rfl)) rfl) ?_
 try simp only [sc0,sc1]
 refine run_nil<|norm_then ?_
 obtain ⟨xx1,H,G1⟩:=of_bind H
 refine cut_patch [5] (fun us w'=>Fit us (fun uj1=>[vI xx1])∧St [] h0 w0 h0 [(some b1, .cells #[vL A0_0 a0.vDefs.length c0_0] 24 (0,0))] w') ?_ ?_
 ·refine wp_cond_split (t:=((v1==0)&&(!v2))) rfl (fun c1=>?_) (fun c1=>?_)
  ·replace H:=of_pos H c1
   refine region<|rs (vI 3) (r_assign rfl) ?_
   try simp only [sc0,sc1]
   refine run_nil ?_
   obtain rfl:=Option.some.inj H
   refine met_j rfl ⟨(fit rfl),HS3⟩
  ·replace H:=of_neg H (nt c1)
   refine wp_skip ?_
   obtain rfl:=Option.some.inj H
   refine met_j rfl ⟨(fit rfl),HS3⟩
 ·rintro us w4 ⟨huj1,HS4⟩
  obtain ⟨uj1,rfl⟩:=unj huj1
  replace H:=G1
  clear G1
  try simp only [patch,sc0,sc1]
  refine wp_seq<|region<|rs (vI xx1) (r_move rfl)<|rs (vI xx1) (r_assign rfl) ?_
  try simp only [sc0,sc1]
  refine run_nil<|norm_then<|wp_ret ?_
  obtain rfl:=Option.some.inj H
  exact bodyPost_ret (results_1 rfl (one_tmp rfl)) rfl<|⟨rfl,HS4.toE⟩
def taplineref08_Digits.f:Nat→Int→Option (ByteArray)
 |0,_=>none
 |k+1,a0=>if (decide (a0<10))=true then (if 0≤a0∧a0≤(IntKind.wrap .i64 (a0+1))∧(IntKind.wrap .i64 (a0+1))≤((⟨#[48,49,50,51,52,53,54,55,56,57]⟩:ByteArray).size:Int) then (some (subStr (⟨#[48,49,50,51,52,53,54,55,56,57]⟩:ByteArray) a0 (IntKind.wrap .i64 (a0+1)))) else none) else ((taplineref08_Digits.f k (iQuo .i64 a0 10)).bind fun v1=>((taplineref08_Digits.f k (iRem a0 10)).bind fun v2=>(if v1.size+v2.size≤9223372036854775807 then (some (v1++v2)) else none)))
theorem taplineref08_Digits.calls:∀(k:Nat) (a0:Int) {h0:View} {w0:World} (hv:Sees h0 w0) {r:ByteArray} (H:taplineref08_Digits.f k a0=some r),Calls Tryd.prog 102 #[vI a0] w0 (fun e w1=>e= .returned (vS r)∧Ext w0 w1):=by
 intro k
 induction k with
 |zero=>
  intros
  rename_i H
  exact absurd H (by simp [taplineref08_Digits.f])
 |succ k ih=>
  intro a0 h0 w0 hv r H
  rw [taplineref08_Digits.f] at H
  have HS:St [] h0 w0 h0 [] w0:=St.init hv
  go_enter Tryd.func102,Tryd.ntmps102
  refine wp_seq<|region<|rs (vS ByteArray.empty) (r_assign rfl) ?_
  try simp only [sc0,sc1]
  refine run_nil<|norm_then<|wp_seq<|wp_seq<|region<|rs (vI a0) (r_move rfl)<|rs (vB (decide (a0<10))) (r_bin rfl rfl rfl) ?_
  try simp only [sc0,sc1]
  refine run_nil<|norm_then<|wp_cond_split (t:=(decide (a0<10))) rfl (fun c1=>?_) (fun c1=>?_)
  ·replace H:=of_pos H c1
   refine wp_seq<|region<|rs (vI a0) (r_move rfl)<|rs (vI a0) (r_move rfl)<|rs (vI (w64 (a0+1))) (r_bin rfl rfl rfl) ?_
   obtain ⟨hk1,H⟩:=of_ite H
   refine rs (vS (subStr (⟨#[48,49,50,51,52,53,54,55,56,57]⟩:ByteArray) a0 (w64 (a0+1)))) (r_subStr rfl Tryd.runUnderlying9 rfl rfl hk1)<|run_frame (by simp only [sc0,sc1];rfl) ?_
   refine rs (vS (subStr (⟨#[48,49,50,51,52,53,54,55,56,57]⟩:ByteArray) a0 (w64 (a0+1)))) (r_assign rfl) ?_
   try simp only [sc0,sc1]
   refine run_nil<|norm_then<|wp_ret<|ret_then ?_
   obtain rfl:=Option.some.inj H
   exact bodyPost_ret (results_1 rfl (one_tmp rfl)) rfl<|⟨rfl,HS.toE⟩
  ·replace H:=of_neg H (nt c1)
   refine wp_skip<|norm_then<|wp_seq<|region<|rs (vI a0) (r_move rfl)<|rs (vI (iQuo .i64 a0 10)) (r_quo rfl rfl (by decide)) ?_
   obtain ⟨v1,H1,H⟩:=of_bind H
   refine run_eq (v:=vS v1) rfl rfl (does_call_eq Tryd.call102 rfl rfl (ih (iQuo .i64 a0 10) HS.sees H1)) ?_
   intro w1 hE1
   have HS1:=HS.step hE1
   refine rs (vI a0) (r_move rfl)<|run_frame (by simp only [sc0,sc1];rfl) ?_
   refine rs (vI (iRem a0 10)) (r_rem rfl rfl (by decide)) ?_
   obtain ⟨v2,H2,H⟩:=of_bind H
   refine run_eq (v:=vS v2) rfl rfl (does_call_eq Tryd.call102 rfl rfl (ih (iRem a0 10) HS1.sees H2)) ?_
   intro w2 hE2
   have HS2:=HS1.step hE2
   obtain ⟨hb3,H⟩:=of_ite H
   refine rs (vS (v1++v2)) (r_stradd rfl rfl hb3)<|rs (vS (v1++v2)) (r_assign rfl) ?_
   try simp only [sc0,sc1]
   refine run_nil<|norm_then<|wp_ret ?_
   obtain rfl:=Option.some.inj H
   exact bodyPost_ret (results_1 rfl (one_tmp rfl)) rfl<|⟨rfl,HS2.toE⟩
def taplineref08_Text.f:Nat→api_Types→Int→Option (ByteArray)
 |0,_,_=>none
 |k+1,a0,a1=>if 0≤a1∧a1<a0.vDefs.length then (if ((rd z_api_Def a0.vDefs a1).vKind==2)=true then ((taplineref08_Text.f k a0 ((rd z_api_Def a0.vDefs a1).vRef)).bind fun v1=>(if v1.size+(⟨#[32,42]⟩:ByteArray).size≤9223372036854775807 then (some (v1++(⟨#[32,42]⟩:ByteArray))) else none)) else (if ((rd z_api_Def a0.vDefs a1).vKind==3)=true then ((taplineref08_Text.f k a0 ((rd z_api_Def a0.vDefs a1).vRef)).bind fun v2=>(if v2.size+(⟨#[32,91]⟩:ByteArray).size≤9223372036854775807 then ((taplineref08_Digits.f k ((rd z_api_Def a0.vDefs a1).vN)).bind fun v3=>(if (v2++(⟨#[32,91]⟩:ByteArray)).size+v3.size≤9223372036854775807 then (if ((v2++(⟨#[32,91]⟩:ByteArray))++v3).size+(⟨#[93]⟩:ByteArray).size≤9223372036854775807 then (some (((v2++(⟨#[32,91]⟩:ByteArray))++v3)++(⟨#[93]⟩:ByteArray))) else none) else none)) else none)) else (some ((rd z_api_Def a0.vDefs a1).vName)))) else none
theorem taplineref08_Text.calls:∀(k:Nat) (a0:api_Types) (a1:Int) (A0_0:Option Addr) (c0_0:Nat) {h0:View} {w0:World} (hv:Sees h0 w0) (hr0_0:Rd k_api_Def h0 A0_0 a0.vDefs) (hc0_0:a0.vDefs.length≤c0_0) {r:ByteArray} (H:taplineref08_Text.f k a0 a1=some r),Calls Tryd.prog 56 #[Value.agg #[vL A0_0 a0.vDefs.length c0_0],vI a1] w0 (fun e w1=>e= .returned (vS r)∧Ext w0 w1):=by
 intro k
 induction k with
 |zero=>
  intros
  rename_i H
  exact absurd H (by simp [taplineref08_Text.f])
 |succ k ih=>
  intro a0 a1 A0_0 c0_0 h0 w0 hv hr0_0 hc0_0 r H
  rw [taplineref08_Text.f] at H
  have HS:St [] h0 w0 h0 [] w0:=St.init hv
  go_enter Tryd.func56,Tryd.ntmps56
  refine wp_seq<|region<|run_ex rfl rfl (does_box (cs:=#[vL A0_0 a0.vDefs.length c0_0]) rfl rfl) ?_
  rintro w1 _ hE1 ⟨b1,rfl,ge1,hb1⟩
  have HS1:=HS.new hE1 ge1 hb1
  refine rs (vS ByteArray.empty) (r_assign rfl) ?_
  try simp only [sc0,sc1]
  refine run_nil<|norm_then<|wp_seq<|region<|rs (vP b1 0) (r_fieldBox (n:=1) (o':=0) rfl Tryd.runUnderlying24 rfl Tryd.sizeOf22 (by decide) rfl)<|rs (vL A0_0 a0.vDefs.length c0_0) (r_loadBox rfl Tryd.isAgg22 (HS1.look 0 rfl) rfl)<|rs (vI a1) (r_move rfl) ?_
  obtain ⟨hi1,H⟩:=of_ite H
  obtain ⟨ad1,Aad1_6,cad1_6,e1,hel1,hcad1_6,hrad1_6⟩:=ld_api_Def hr0_0 hi1.1 hi1.2
  refine rs (Value.pointer (some (Addr.add ad1 (a1.toNat*7)))) (r_indexA (sz:=7) rfl e1 rfl hi1.1 hi1.2 Tryd.runUnderlying22 Tryd.sizeOf34)<|run_frame (by simp only [sc0,sc1];rfl) ?_
  refine rs (Value.agg #[vI ((rd z_api_Def a0.vDefs a1).vKind),vS ((rd z_api_Def a0.vDefs a1).vName),vI ((rd z_api_Def a0.vDefs a1).vInt.vSize),vB ((rd z_api_Def a0.vDefs a1).vInt.vSigned),vI ((rd z_api_Def a0.vDefs a1).vRef),vI ((rd z_api_Def a0.vDefs a1).vN),vL Aad1_6 ((rd z_api_Def a0.vDefs a1).vFields).length cad1_6]) (r_loadAgg rfl Tryd.isAgg34 (hel1.sees HS1.sees) Tryd.sizeOf34)<|run_ex rfl rfl (does_alloc (cs:=#[vI 0,vS ByteArray.empty,vI 0,vB false,vI 0,vI 0,vL none 0 0]) Tryd.zeroValue34 rfl) ?_
  rintro w2 _ hE2 ⟨b2,rfl,ge2,hb2⟩
  have HS2:=HS1.new hE2 ge2 hb2
  refine run_st (i:=0) (cs:=[vI 0,vS ByteArray.empty,vI 0,vB false,vI 0,vI 0,vL none 0 0]) (cs':=[vI ((rd z_api_Def a0.vDefs a1).vKind),vS ((rd z_api_Def a0.vDefs a1).vName),vI ((rd z_api_Def a0.vDefs a1).vInt.vSize),vB ((rd z_api_Def a0.vDefs a1).vInt.vSigned),vI ((rd z_api_Def a0.vDefs a1).vRef),vI ((rd z_api_Def a0.vDefs a1).vN),vL Aad1_6 ((rd z_api_Def a0.vDefs a1).vFields).length cad1_6]) (vs:=[vI ((rd z_api_Def a0.vDefs a1).vKind),vS ((rd z_api_Def a0.vDefs a1).vName),vI ((rd z_api_Def a0.vDefs a1).vInt.vSize),vB ((rd z_api_Def a0.vDefs a1).vInt.vSigned),vI ((rd z_api_Def a0.vDefs a1).vRef),vI ((rd z_api_Def a0.vDefs a1).vN),vL Aad1_6 ((rd z_api_Def a0.vDefs a1).vFields).length cad1_6]) (bs':=[(some b2, .cells #[vI ((rd z_api_Def a0.vDefs a1).vKind),vS ((rd z_api_Def a0.vDefs a1).vName),vI ((rd z_api_Def a0.vDefs a1).vInt.vSize),vB ((rd z_api_Def a0.vDefs a1).vInt.vSigned),vI ((rd z_api_Def a0.vDefs a1).vRef),vI ((rd z_api_Def a0.vDefs a1).vN),vL Aad1_6 ((rd z_api_Def a0.vDefs a1).vFields).length cad1_6] 34 (0,0)),(some b1, .cells #[vL A0_0 a0.vDefs.length c0_0] 24 (0,0))]) rfl rfl Tryd.sizeOf34 rfl rfl (by decide) rfl HS2 rfl (Nat.le_of_ble_eq_true rfl) rfl rfl ?_
  intro w3 HS3
  try simp only [sc0,sc1]
  refine run_nil<|norm_then<|wp_seq<|wp_seq<|region<|rs (vP b2 0) (r_fieldBox (n:=1) (o':=0) rfl Tryd.runUnderlying34 rfl Tryd.sizeOf3 (by decide) rfl)<|rs (vI ((rd z_api_Def a0.vDefs a1).vKind)) (r_loadBox rfl Tryd.isAgg3 (HS3.look 0 rfl) rfl) ?_
  try simp only [sc0,sc1]
  refine run_nil<|norm_then<|wp_block<|wp_seq<|region<|rs (vB ((rd z_api_Def a0.vDefs a1).vKind==2)) (r_bin rfl rfl rfl)<|rs (vB ((rd z_api_Def a0.vDefs a1).vKind==2)) (r_assign rfl) ?_
  try simp only [sc0,sc1]
  refine run_nil<|norm_then<|wp_cond_split (t:=((rd z_api_Def a0.vDefs a1).vKind==2)) rfl (fun c1=>?_) (fun c1=>?_)
  ·replace H:=of_pos H c1
   refine wp_seq<|region<|rs (Value.agg #[vL A0_0 a0.vDefs.length c0_0]) (r_loadBoxAgg (n:=1) (vs:=[vL A0_0 a0.vDefs.length c0_0]) rfl Tryd.isAgg24 (HS3.look 1 rfl) Tryd.sizeOf24 rfl rfl)<|rs (vP b2 4) (r_fieldBox (n:=1) (o':=4) rfl Tryd.runUnderlying34 rfl Tryd.sizeOf3 (by decide) rfl)<|rs (vI ((rd z_api_Def a0.vDefs a1).vRef)) (r_loadBox rfl Tryd.isAgg3 (HS3.look 0 rfl) rfl) ?_
   obtain ⟨v1,H1,H⟩:=of_bind H
   refine run_eq (v:=vS v1) rfl rfl (does_call_eq Tryd.call56 rfl rfl (ih a0 ((rd z_api_Def a0.vDefs a1).vRef) A0_0 c0_0 HS3.sees hr0_0 hc0_0 H1)) ?_
   intro w4 hE3
   have HS4:=HS3.step hE3
   refine run_frame (by simp only [sc0,sc1];rfl) ?_
   obtain ⟨hb3,H⟩:=of_ite H
   refine rs (vS (v1++(⟨#[32,42]⟩:ByteArray))) (r_stradd rfl rfl hb3)<|rs (vS (v1++(⟨#[32,42]⟩:ByteArray))) (r_assign rfl) ?_
   try simp only [sc0,sc1]
   refine run_nil<|norm_then<|wp_ret<|ret_block<|ret_then ?_
   obtain rfl:=Option.some.inj H
   exact bodyPost_ret (results_1 rfl (one_tmp rfl)) rfl<|⟨rfl,HS4.toE⟩
  ·replace H:=of_neg H (nt c1)
   refine wp_seq<|region<|rs (vB ((rd z_api_Def a0.vDefs a1).vKind==3)) (r_bin rfl rfl rfl)<|rs (vB ((rd z_api_Def a0.vDefs a1).vKind==3)) (r_assign rfl) ?_
   try simp only [sc0,sc1]
   refine run_nil<|norm_then<|wp_cond_split (t:=((rd z_api_Def a0.vDefs a1).vKind==3)) rfl (fun c2=>?_) (fun c2=>?_)
   ·replace H:=of_pos H c2
    refine wp_seq ?_
    obtain ⟨v2,H2,H⟩:=of_bind H
    obtain ⟨hb4,H⟩:=of_ite H
    obtain ⟨v3,H3,H⟩:=of_bind H
    obtain ⟨hb5,H⟩:=of_ite H
    obtain ⟨hb6,H⟩:=of_ite H
    refine drawn [.eq (Value.agg #[vL A0_0 a0.vDefs.length c0_0]), .eq (vP b2 4), .eq (vI ((rd z_api_Def a0.vDefs a1).vRef)), .eq (vS v2), .eq (vS (v2++(⟨#[32,91]⟩:ByteArray))), .eq (vP b2 5), .eq (vI ((rd z_api_Def a0.vDefs a1).vN)), .eq (vS v3), .eq (vS ((v2++(⟨#[32,91]⟩:ByteArray))++v3)), .eq (vS (((v2++(⟨#[32,91]⟩:ByteArray))++v3)++(⟨#[93]⟩:ByteArray)))] [22,23,24,25,26,27,28,29,30,31] hmix (by kernel_rfl) rfl (stable_eq (stable_eq (stable_eq (stable_eq (stable_eq (stable_eq (stable_eq (stable_eq (stable_eq (stable_eq stable_nil)))))))))) ⟨ob_plain rfl (fun a' w' hE hk=>by have HSd:=HS3.step hE;exact does_eq (r_loadBoxAgg (n:=1) (vs:=[vL A0_0 a0.vDefs.length c0_0]) (show _=vP b1 0 from hk 2 rfl) Tryd.isAgg24 (HSd.look 1 rfl) Tryd.sizeOf24 rfl rfl)),ob_plain rfl (fun a' w' hE hk=>by have HSd:=HS3.step hE;exact does_eq (r_fieldBox (n:=1) (o':=4) (show _=vP b2 0 from hk 5 rfl) Tryd.runUnderlying34 rfl Tryd.sizeOf3 (by decide) rfl)),ob_plain rfl (fun a' w' hE hk=>by have HSd:=HS3.step hE;exact does_eq (r_loadBox (show _=vP b2 4 from hk 23 rfl) Tryd.isAgg3 (HSd.look 0 rfl) rfl)),ob_plain rfl (fun a' w' hE hk=>by have HSd:=HS3.step hE;exact (does_call_eq Tryd.call56 rfl (map2 (show _=Value.agg #[vL A0_0 a0.vDefs.length c0_0] from hk 22 rfl) (show _=vI ((rd z_api_Def a0.vDefs a1).vRef) from hk 24 rfl)) (ih a0 ((rd z_api_Def a0.vDefs a1).vRef) A0_0 c0_0 HSd.sees hr0_0 hc0_0 H2))),ob_plain rfl (fun a' w' hE hk=>by have HSd:=HS3.step hE;exact does_eq (r_stradd (show _=vS v2 from hk 25 rfl) rfl hb4)),ob_plain rfl (fun a' w' hE hk=>by have HSd:=HS3.step hE;exact does_eq (r_fieldBox (n:=1) (o':=5) (show _=vP b2 0 from hk 5 rfl) Tryd.runUnderlying34 rfl Tryd.sizeOf3 (by decide) rfl)),ob_plain rfl (fun a' w' hE hk=>by have HSd:=HS3.step hE;exact does_eq (r_loadBox (show _=vP b2 5 from hk 27 rfl) Tryd.isAgg3 (HSd.look 0 rfl) rfl)),ob_plain rfl (fun a' w' hE hk=>by have HSd:=HS3.step hE;exact (does_call_eq Tryd.call102 rfl (map1 (show _=vI ((rd z_api_Def a0.vDefs a1).vN) from hk 28 rfl)) (taplineref08_Digits.calls k ((rd z_api_Def a0.vDefs a1).vN) HSd.sees H3))),ob_plain rfl (fun a' w' hE hk=>by have HSd:=HS3.step hE;exact does_eq (r_stradd (show _=vS (v2++(⟨#[32,91]⟩:ByteArray)) from hk 26 rfl) (show _=vS v3 from hk 29 rfl) hb5)),ob_plain rfl (fun a' w' hE hk=>by have HSd:=HS3.step hE;exact does_eq (r_stradd (show _=vS ((v2++(⟨#[32,91]⟩:ByteArray))++v3) from hk 30 rfl) rfl hb6)),trivial⟩ ?_
    intro w5 hE4
    simp only [List.zip_cons_cons,List.zip_nil_left,List.zip_nil_right,finL,sc0,sc1,List.length_cons,List.length_nil,List.drop_succ_cons,List.drop_zero,Nat.zero_add,Nat.reduceAdd]
    have HS5:=HS3.step hE4
    refine rs (vS (((v2++(⟨#[32,91]⟩:ByteArray))++v3)++(⟨#[93]⟩:ByteArray))) (r_assign rfl) ?_
    try simp only [sc0,sc1]
    refine run_nil<|norm_then<|wp_ret<|ret_block<|ret_then ?_
    obtain rfl:=Option.some.inj H
    exact bodyPost_ret (results_1 rfl (one_tmp rfl)) rfl<|⟨rfl,HS5.toE⟩
   ·replace H:=of_neg H (nt c2)
    refine wp_skip<|norm_block<|norm_then<|wp_seq<|region<|rs (vP b2 1) (r_fieldBox (n:=1) (o':=1) rfl Tryd.runUnderlying34 rfl Tryd.sizeOf9 (by decide) rfl)<|rs (vS ((rd z_api_Def a0.vDefs a1).vName)) (r_loadBox rfl Tryd.isAgg9 (HS3.look 0 rfl) rfl)<|rs (vS ((rd z_api_Def a0.vDefs a1).vName)) (r_assign rfl) ?_
    try simp only [sc0,sc1]
    refine run_nil<|norm_then<|wp_ret ?_
    obtain rfl:=Option.some.inj H
    exact bodyPost_ret (results_1 rfl (one_tmp rfl)) rfl<|⟨rfl,HS3.toE⟩
def taplineref08_Find.l0 (a0:api_Types) (a1:ByteArray):Nat→Int→Option ((Int)⊕(Unit))
 |0,_=>none
 |m+1,y1_0=>if (decide (y1_0<(a0.vDefs.length:Int)))=true then (if 0≤y1_0∧y1_0<a0.vDefs.length then ((taplineref08_Named.f (rd z_api_Def a0.vDefs y1_0)).bind fun v1=>(if (true&&(v1==true))=true→(0≤y1_0∧y1_0<a0.vDefs.length) then (if (v1&&(strEq ((rd z_api_Def a0.vDefs y1_0).vName) a1))=true then (some (.inl y1_0)) else (taplineref08_Find.l0 a0 a1 m (IntKind.wrap .i64 (y1_0+1)))) else none)) else none) else (some (.inr ()))
def taplineref08_Find.f (k:Nat) (a0:api_Types) (a1:ByteArray):Option (Int):=(taplineref08_Find.l0 a0 a1 k 0).bind fun xx1=>(match xx1 with| .inl r=>some r| .inr s1=>some (-1))
theorem taplineref08_Find.calls (k:Nat) (a0:api_Types) (a1:ByteArray) (A0_0:Option Addr) (c0_0:Nat) {h0:View} {w0:World} (hv:Sees h0 w0) (hr0_0:Rd k_api_Def h0 A0_0 a0.vDefs) (hc0_0:a0.vDefs.length≤c0_0) {r:Int} (H:taplineref08_Find.f k a0 a1=some r):Calls Tryd.prog 57 #[Value.agg #[vL A0_0 a0.vDefs.length c0_0],vS a1] w0 (fun e w1=>e= .returned (vI r)∧Ext w0 w1):=by
 unfold taplineref08_Find.f at H
 have HS:St [] h0 w0 h0 [] w0:=St.init hv
 go_enter Tryd.func57,Tryd.ntmps57
 refine wp_seq<|region<|run_ex rfl rfl (does_box (cs:=#[vL A0_0 a0.vDefs.length c0_0]) rfl rfl) ?_
 rintro w1 _ hE1 ⟨b1,rfl,ge1,hb1⟩
 have HS1:=HS.new hE1 ge1 hb1
 refine rs (vI 0) (r_assign rfl) ?_
 try simp only [sc0,sc1]
 refine run_nil<|norm_then<|wp_seq<|wp_seq<|region<|rs (vI 0) (r_assign rfl) ?_
 try simp only [sc0,sc1]
 refine run_nil<|norm_then ?_
 obtain ⟨xx1,H,G1⟩:=of_bind H
 refine loop_j [4,5,6,7,8,9,10,11,12,13,14,15,16,17,18,19,20,21,22,23,24,25,26,27,28,29] (fun m us w'=>∃(y1_0:Int),Fit us (fun uy1=>[(uy1 0),vI y1_0,(uy1 2),(uy1 3),(uy1 4),(uy1 5),(uy1 6),(uy1 7),(uy1 8),(uy1 9),(uy1 10),(uy1 11),(uy1 12),(uy1 13),(uy1 14),(uy1 15),(uy1 16),(uy1 17),(uy1 18),(uy1 19),(uy1 20),(uy1 21),(uy1 22),(uy1 23),(uy1 24),(uy1 25)])∧taplineref08_Find.l0 a0 a1 m y1_0=some xx1∧St [] h0 w0 h0 [(some b1, .cells #[vL A0_0 a0.vDefs.length c0_0] 24 (0,0))] w') (fun us w'=>∃(s1:Unit),xx1= .inr s1∧Fit us (fun uo1=>[(uo1 0),(uo1 1),(uo1 2),(uo1 3),(uo1 4),(uo1 5),(uo1 6),(uo1 7),(uo1 8),(uo1 9),(uo1 10),(uo1 11),(uo1 12),(uo1 13),(uo1 14),(uo1 15),(uo1 16),(uo1 17),(uo1 18),(uo1 19),(uo1 20),(uo1 21),(uo1 22),(uo1 23),(uo1 24),(uo1 25)])∧St [] h0 w0 h0 [(some b1, .cells #[vL A0_0 a0.vDefs.length c0_0] 24 (0,0))] w') k ⟨0,(fit rfl),H,HS1⟩ ?_ ?_
 ·rintro m us w2 ⟨y1_0,huy1,H,HS2⟩
  obtain ⟨uy1,rfl⟩:=unj huy1
  cases m with
  |zero=>exact absurd H (by simp [taplineref08_Find.l0])
  |succ m=>
   rw [taplineref08_Find.l0] at H
   try simp only [patch,sc0,sc1]
   refine wp_seq<|wp_seq<|region<|rs (vI y1_0) (r_move rfl)<|rs (vP b1 0) (r_fieldBox (n:=1) (o':=0) rfl Tryd.runUnderlying24 rfl Tryd.sizeOf22 (by decide) rfl)<|rs (vL A0_0 a0.vDefs.length c0_0) (r_loadBox rfl Tryd.isAgg22 (HS2.look 0 rfl) rfl)<|rs (vI (a0.vDefs.length:Int)) (r_len rfl Tryd.runUnderlying22)<|run_frame (by simp only [sc0,sc1];rfl) ?_
   refine rs (vB (decide (y1_0<(a0.vDefs.length:Int)))) (r_bin rfl rfl rfl) ?_
   try simp only [sc0,sc1]
   refine run_nil<|norm_then<|wp_cond_split (t:=(decide (y1_0<(a0.vDefs.length:Int)))) rfl (fun c1=>?_) (fun c1=>?_)
   ·replace H:=of_pos H c1
    refine wp_skip<|norm_then<|wp_seq<|wp_block<|wp_seq<|region<|rs (vP b1 0) (r_fieldBox (n:=1) (o':=0) rfl Tryd.runUnderlying24 rfl Tryd.sizeOf22 (by decide) rfl)<|rs (vL A0_0 a0.vDefs.length c0_0) (r_loadBox rfl Tryd.isAgg22 (HS2.look 0 rfl) rfl)<|rs (vI y1_0) (r_move rfl) ?_
    obtain ⟨hi1,H⟩:=of_ite H
    obtain ⟨ad1,Aad1_6,cad1_6,e1,hel1,hcad1_6,hrad1_6⟩:=ld_api_Def hr0_0 hi1.1 hi1.2
    refine rs (Value.pointer (some (Addr.add ad1 (y1_0.toNat*7)))) (r_indexA (sz:=7) rfl e1 rfl hi1.1 hi1.2 Tryd.runUnderlying22 Tryd.sizeOf34)<|run_frame (by simp only [sc0,sc1];rfl) ?_
    refine rs (Value.agg #[vI ((rd z_api_Def a0.vDefs y1_0).vKind),vS ((rd z_api_Def a0.vDefs y1_0).vName),vI ((rd z_api_Def a0.vDefs y1_0).vInt.vSize),vB ((rd z_api_Def a0.vDefs y1_0).vInt.vSigned),vI ((rd z_api_Def a0.vDefs y1_0).vRef),vI ((rd z_api_Def a0.vDefs y1_0).vN),vL Aad1_6 ((rd z_api_Def a0.vDefs y1_0).vFields).length cad1_6]) (r_loadAgg rfl Tryd.isAgg34 (hel1.sees HS2.sees) Tryd.sizeOf34) ?_
    obtain ⟨v1,H1,H⟩:=of_bind H
    refine run_eq (v:=vB v1) rfl rfl (does_call_eq Tryd.call49 rfl rfl (taplineref08_Named.calls (rd z_api_Def a0.vDefs y1_0) Aad1_6 cad1_6 HS2.sees hrad1_6 hcad1_6 H1)) ?_
    intro w3 hE2
    have HS3:=HS2.step hE2
    refine rs (vB v1) (r_move rfl)<|rgs v1 true (vP b1 0) rfl rfl rfl rfl (fun hg=>(r_fieldBox (n:=1) (o':=0) rfl Tryd.runUnderlying24 rfl Tryd.sizeOf22 (by decide) rfl))<|run_frame (by simp only [sc0,sc1];rfl) ?_
    refine rgs v1 true (vL A0_0 a0.vDefs.length c0_0) rfl rfl rfl rfl (fun hg=>(r_loadBox (gvt (vP b1 0) hg rfl) Tryd.isAgg22 (HS3.look 0 rfl) rfl))<|rgs v1 true (vI y1_0) rfl rfl rfl rfl (fun hg=>(r_move rfl)) ?_
    obtain ⟨hi2,H⟩:=of_ite H
    obtain ⟨ad2,Aad2_6,cad2_6,hq1⟩:=gx3 (fun hC:(true&&(v1==true))=true=>ld_api_Def hr0_0 (hi2 hC).1 (hi2 hC).2)
    refine rgs v1 true (Value.pointer (some (Addr.add ad2 (y1_0.toNat*7)))) rfl rfl rfl rfl (fun hg=>(r_indexA (sz:=7) (gvt (vL A0_0 a0.vDefs.length c0_0) hg rfl) (hq1 hg).1 (gvt (vI y1_0) hg rfl) (hi2 hg).1 (hi2 hg).2 Tryd.runUnderlying22 Tryd.sizeOf34))<|rgs v1 true (Value.pointer (some (Addr.add (Addr.add ad2 (y1_0.toNat*7)) 1))) rfl rfl rfl rfl (fun hg=>(r_fieldEl (n:=1) (o':=1) (gvt (Value.pointer (some (Addr.add ad2 (y1_0.toNat*7)))) hg rfl) Tryd.runUnderlying34 rfl Tryd.sizeOf9 (by decide) rfl))<|run_frame (by simp only [sc0,sc1];rfl) ?_
    refine rgs v1 true (vS ((rd z_api_Def a0.vDefs y1_0).vName)) rfl rfl rfl rfl (fun hg=>(r_load (gvt (Value.pointer (some (Addr.add (Addr.add ad2 (y1_0.toNat*7)) 1))) hg rfl) Tryd.isAgg9 (((hq1 hg).2.1).cell HS3.sees 1 rfl)))<|rgs v1 true (vS a1) rfl rfl rfl rfl (fun hg=>(r_move rfl))<|rgs v1 true (vB (strEq ((rd z_api_Def a0.vDefs y1_0).vName) a1)) rfl rfl rfl rfl (fun hg=>(r_streql (gvt (vS ((rd z_api_Def a0.vDefs y1_0).vName)) hg rfl) (gvt (vS a1) hg rfl)))<|rs (vB (v1&&(strEq ((rd z_api_Def a0.vDefs y1_0).vName) a1))) (r_pick_and rfl (fun hp=>(gvt (vB (strEq ((rd z_api_Def a0.vDefs y1_0).vName) a1)) (and_i rfl hp) rfl)) rfl) ?_
    try simp only [sc0,sc1]
    refine run_nil<|norm_then<|wp_cond_split (t:=(v1&&(strEq ((rd z_api_Def a0.vDefs y1_0).vName) a1))) rfl (fun c2=>?_) (fun c2=>?_)
    ·replace H:=of_pos H c2
     refine wp_seq<|region<|rs (vI y1_0) (r_move rfl)<|rs (vI y1_0) (r_assign rfl) ?_
     try simp only [sc0,sc1]
     refine run_nil<|norm_then<|wp_ret<|ret_block<|ret_then<|ret_loop<|ret_then ?_
     obtain rfl:=Option.some.inj H
     obtain rfl:=Option.some.inj G1
     exact bodyPost_ret (results_1 rfl (one_tmp rfl)) rfl<|⟨rfl,HS3.toE⟩
    ·replace H:=of_neg H (nt c2)
     refine wp_skip<|norm_block<|norm_then<|region<|rs (vI y1_0) (r_move rfl)<|rs (vI (w64 (y1_0+1))) (r_bin rfl rfl rfl)<|rs (vI (w64 (y1_0+1))) (r_assign rfl) ?_
     try simp only [sc0,sc1]
     refine run_nil<|again_j m (Nat.lt_succ_self m) rfl ⟨(w64 (y1_0+1)),(fit rfl),H,HS3⟩
   ·replace H:=of_neg H (nt c1)
    refine wp_exit<|exit_then ?_
    obtain rfl:=Option.some.inj H
    refine leave_j rfl ⟨_,rfl,(fit rfl),HS2⟩
 ·rintro us w4 ⟨s1,rfl,huo1,HS4⟩
  obtain ⟨uo1,rfl⟩:=unj huo1
  replace H:=G1
  clear G1
  try simp only [patch,sc0,sc1]
  refine norm_then<|wp_seq<|region<|rs (vI (-1)) (r_assign rfl) ?_
  try simp only [sc0,sc1]
  refine run_nil<|norm_then<|wp_ret ?_
  obtain rfl:=Option.some.inj H
  exact bodyPost_ret (results_1 rfl (one_tmp rfl)) rfl<|⟨rfl,HS4.toE⟩
theorem byteAt_rd (s:ByteArray) (i:Int):byteAt s i=rd 0 (bytesOf s) i:=by
 unfold byteAt rd bytesOf
 rw [List.getD_eq_getElem?_getD,List.getD_eq_getElem?_getD,List.getElem?_map]
 cases s.data.toList[i.toNat]?<;>rfl
theorem rname_loop {s:ByteArray} (hl:s.size≤9223372036854775807):∀(d j m:Nat),j+d=s.size→d<m→
    taplineref08_Name.l0 s m (j:Int)=some (if okFrom j ((bytesOf s).drop j)=true then .inr () else .inl false):=by
  have hb:=bytesOf_length s
  intro d
  induction d with
  | zero =>
    intro j m hj hm
    obtain ⟨m,rfl⟩:∃q,m=q+1:=⟨m-1,by omega⟩
    rw [taplineref08_Name.l0,if_neg (by simp;omega),List.drop_eq_nil_of_le (by omega)]
    rfl
  | succ d ih =>
    intro j m hj hm
    obtain ⟨m,rfl⟩:∃q,m=q+1:=⟨m-1,by omega⟩
    have hlt:j<s.size:=by omega
    have h1:=name_loop (s:=s) (by omega) (d+1) j (m+1) (by omega) (by omega)
    rw [ctf_isName.l0,if_pos (by simp;omega),if_pos (by omega)] at h1
    rw [taplineref08_Name.l0,if_pos (by simp;omega),if_pos (by omega),byteAt_rd]
    rw [←h1]
    split
    · rfl
    · rw [wrap_nat hlt hl,ih (j+1) m (by omega) (by omega),name_loop (by omega) d (j+1) m (by omega) (by omega)]
theorem empty_iff (s:ByteArray):strEq s ByteArray.empty=decide (s.size=0):=by
 by_cases h:s.size=0
 ·have:s=ByteArray.empty:=by
   cases s with|mk d=>
   have:d=#[]:=Array.size_eq_zero_iff.1 h
   subst this;rfl
  rw [decide_eq_true h];exact strEq_iff.2 this
 ·rw [decide_eq_false h]
  cases hs:strEq s ByteArray.empty with
  |false=>rfl
  |true=>exact absurd (by rw [strEq_iff.1 hs];rfl) h
theorem rname_ev {s:ByteArray} (hs:s.size≤9223372036854775807):Ev (fun k=>taplineref08_Name.f k s) (nameS s):=by
 refine ⟨s.size+1,fun k hk=>?_⟩
 show taplineref08_Name.f k s=_
 unfold taplineref08_Name.f nameS
 rw [empty_iff]
 by_cases h0:s.size=0
 ·rw [if_pos (by simp [h0])];simp [h0]
 ·by_cases h1:(s.size:Int)≤31
  ·rw [if_neg (by simp only [Bool.or_eq_true,beq_iff_eq,decide_eq_true_eq];omega),show (0:Int)=((0:Nat):Int) from rfl,rname_loop hs s.size 0 k (by omega) (by omega),List.drop_zero]
   cases okFrom 0 (bytesOf s)<;>simp [h0,h1]
  ·rw [if_pos (by simp only [Bool.or_eq_true,beq_iff_eq,decide_eq_true_eq];omega)];simp [h1]
def namesS:List ByteArray→List api_Field→Bool
 |_,[]=>true
 |ns,f::r=>nameS f.vName&& !(ns.any (strEq f.vName))&&namesS (f.vName::ns) r
theorem fieldsS_eq (d:api_Def) (n:Int):∀(l:List api_Field) (ns:List ByteArray),fieldsS d n ns l=(namesS ns l&&l.all (fieldOk d n))
  |[],ns=>rfl
  | f :: r, ns => by
    simp only [fieldsS,namesS,fieldsS_eq d n r,List.all_cons]
    cases nameS f.vName<;>cases (ns.any (strEq f.vName))<;>cases (fieldOk d n f)<;>cases (namesS (f.vName::ns) r)<;>rfl
theorem seen_loop {l:List api_Field} (hl:l.length≤9223372036854775807) {i:Nat} (hi:i<l.length):∀(e j m:Nat),j+e=i→e<m→
    taplineref08_fields.l1 l (i:Int) m (j:Int)=some (if (((l.take i).drop j).any fun f=>strEq f.vName (l.getD i z_api_Field).vName)=true then .inl false else .inr ()):=by
  intro e
  induction e with
  | zero =>
    intro j m hj hm
    obtain ⟨m,rfl⟩:∃q,m=q+1:=⟨m-1,by omega⟩
    rw [taplineref08_fields.l1,if_neg (by simp;omega),List.drop_eq_nil_of_le (by simp;omega)]
    rfl
  | succ e ih =>
    intro j m hj hm
    obtain ⟨m,rfl⟩:∃q,m=q+1:=⟨m-1,by omega⟩
    have hlt:j<l.length:=by omega
    have hd:(l.take i).drop j=l.getD j z_api_Field::(l.take i).drop (j+1):=by
      rw [drop_getD z_api_Field (by simp;omega)]
      congr 1
      rw [List.getD_eq_getElem?_getD,List.getD_eq_getElem?_getD,List.getElem?_take,if_pos (by omega)]
    rw [taplineref08_fields.l1,if_pos (by simp;omega),if_pos (by omega),if_pos (by omega),rd_nat,rd_nat,hd,List.any_cons]
    by_cases h:strEq (l.getD j z_api_Field).vName (l.getD i z_api_Field).vName=true
    · rw [if_pos h,h];rfl
    · rw [if_neg h,wrap_nat hlt hl,ih (j+1) m (by omega) (by omega)]
      rw [Bool.not_eq_true] at h
      rw [h,Bool.false_or]
theorem any_rev (l:List api_Field) (s:ByteArray):((l.map (·.vName)).reverse.any (strEq s))=l.any fun f=>strEq f.vName s:=by
 rw [List.any_reverse,List.any_map]
 congr 1
 funext f
 exact strEq_comm _ _
theorem fields_loop {l : List api_Field} (hl : l.length ≤ 9223372036854775807) (hz : ∀ f ∈ l, f.vName.size ≤ 9223372036854775807) : ∀ (e j : Nat), j + e = l.length →
    Ev2 (fun k m=>taplineref08_fields.l0 k l m (j:Int)) (if namesS ((l.take j).map (·.vName)).reverse (l.drop j)=true then .inr () else .inl false):=by
  intro e
  induction e with
  | zero =>
    intro j hj
    refine Ev2.pure fun k m=>?_
    rw [taplineref08_fields.l0,if_neg (by simp;omega),List.drop_eq_nil_of_le (by omega)]
    rfl
  | succ e ih =>
    intro j hj
    have hlt:j<l.length:=by omega
    have hmem:=getD_mem (z:=z_api_Field) hlt
    have h1:=rname_ev (hz _ hmem)
    have h2:=ih (j+1) (by omega)
    have ht:((l.take (j+1)).map (·.vName)).reverse=(l.getD j z_api_Field).vName::((l.take j).map (·.vName)).reverse:=by
      rw [List.take_add_one,List.map_append,List.reverse_append]
      rw [List.getD_eq_getElem?_getD,List.getElem?_eq_getElem hlt]
      rfl
    rw [ht] at h2
    rw [drop_getD z_api_Field hlt,namesS]
    refine Ev2.step h1 (r:=fun k m v1=>if (!v1)=true then (some (.inl false)) else ((taplineref08_fields.l1 l (j:Int) k 0).bind fun xx2=>(match xx2 with| .inl r=>some (.inl r)| .inr s1=>taplineref08_fields.l0 k l m ((j+1:Nat):Int)))) ?_ (fun k m=>?_)
    · rcases Bool.eq_false_or_eq_true (nameS (l.getD j z_api_Field).vName) with hn|hn
      · obtain ⟨K,hK⟩:=h2
        rw [hn]
        refine ⟨max K (j+1),fun k m hk hm=>?_⟩
        have h3:=seen_loop hl hlt j 0 k (by omega) (by omega)
        rw [List.drop_zero] at h3
        simp only [Bool.not_true,Bool.false_eq_true,if_false,Bool.true_and]
        rw [show taplineref08_fields.l1 l (j:Int) k 0=_ from h3,any_rev]
        cases ha:(l.take j).any fun f=>strEq f.vName (l.getD j z_api_Field).vName with
        |true=>simp
        |false=>simpa using hK k m (by omega) (by omega)
      · exact ⟨0,fun k m _ _=>by rw [hn];rfl⟩
    · rw [taplineref08_fields.l0,if_pos (by simp;omega),if_pos (by omega),rd_nat,wrap_nat hlt hl]
      try rfl
theorem fields_ev {l:List api_Field} (hl:l.length≤9223372036854775807) (hz:∀f∈l,f.vName.size≤9223372036854775807):
  Ev (fun k=>taplineref08_fields.f k l) (decide (0<l.length)&&decide (l.length≤32)&&namesS [] l):=by
 by_cases h:l.length=0∨32<l.length
 ·refine Ev.pure fun k=>?_
  unfold taplineref08_fields.f
  rw [if_pos (by simp only [Bool.or_eq_true,beq_iff_eq,decide_eq_true_eq];omega)]
  rcases h with h|h
  ·simp [h]
  ·rw [decide_eq_false (p:=l.length≤32) (by omega)];simp
 ·obtain ⟨K,hK⟩:=(fields_loop hl hz l.length 0 (by omega)).diag
  refine ⟨K,fun k hk=>?_⟩
  show taplineref08_fields.f k l=_
  unfold taplineref08_fields.f
  rw [if_neg (by simp only [Bool.or_eq_true,beq_iff_eq,decide_eq_true_eq];omega),show taplineref08_fields.l0 k l k 0=_ from hK k hk,decide_eq_true (p:=0<l.length) (by omega),decide_eq_true (p:=l.length≤32) (by omega)]
  simp only [List.take_zero,List.map_nil,List.reverse_nil,List.drop_zero]
  cases namesS [] l<;>rfl
theorem rshaped_loop {t : api_Types} {d : api_Def} (hl : d.vFields.length ≤ 9223372036854775807) : ∀ (e j m : Nat), j + e = d.vFields.length → e < m →
    taplineref08_shaped.l0 t d m (j:Int)=some (if (d.vFields.drop j).all (fieldOk d (t.vDefs.length:Int))=true then .inr () else .inl false):=by
  intro e
  induction e with
  | zero =>
    intro j m hj hm
    obtain ⟨m,rfl⟩:∃q,m=q+1:=⟨m-1,by omega⟩
    rw [taplineref08_shaped.l0,if_neg (by simp;omega),List.drop_eq_nil_of_le (by omega)]
    rfl
  | succ e ih =>
    intro j m hj hm
    obtain ⟨m,rfl⟩:∃q,m=q+1:=⟨m-1,by omega⟩
    have hlt:j<d.vFields.length:=by omega
    rw [taplineref08_shaped.l0,if_pos (by simp;omega),if_pos (by omega),rd_nat,drop_getD z_api_Field hlt,wrap_nat hlt hl,ih (j+1) m (by omega) (by omega),List.all_cons]
    generalize d.vFields.getD j z_api_Field=f
    unfold fieldOk taplineref08_Index.f
    by_cases h4:d.vKind=4
    · have h5:(d.vKind==5)=false:=by simp [h4]
      by_cases ha:f.vType<0
      · simp [h4,h5,ha]
        intro h;omega
      · by_cases hb:f.vType<(t.vDefs.length:Int)
        · have h0:(0:Int)≤f.vType:=by omega
          have h1:¬((t.vDefs.length:Int)≤f.vType):=by omega
          simp [h4,h5,ha,hb,h0,h1]
        · have h1:(t.vDefs.length:Int)≤f.vType:=by omega
          simp [h4,h5,ha,hb,h1]
    · by_cases h5:d.vKind=5
      · cases hx:((f.vType !=0)||(decide (f.vAt<(-2147483648))))||(decide (f.vAt>2147483647))<;>simp [h5,hx]
      · simp [h4,h5]
theorem all_fields_free {d:api_Def} {n:Int} (h4:d.vKind≠4) (h5:d.vKind≠5) (l:List api_Field):l.all (fieldOk d n)=true:=by
 rw [List.all_eq_true]
 intro f _
 unfold fieldOk
 simp [h4,h5]
theorem rshaped_ev {t:api_Types} {d:api_Def} (hl:d.vFields.length≤9223372036854775807) (hz:∀f∈d.vFields,f.vName.size≤9223372036854775807) (hz0:d.vName.size≤9223372036854775807):
  Ev (fun k=>taplineref08_shaped.f k t d) (shapedS d (t.vDefs.length:Int)):=by
 obtain ⟨Kn,hKn⟩:=rname_ev hz0
 obtain ⟨Kf,hKf⟩:=fields_ev hl hz
 have hw:strEq d.vName ByteArray.empty=true→nameS d.vName=false:=by
  intro h;unfold nameS;rw [h];simp
 refine ⟨max (max Kn Kf) (d.vFields.length+1),fun k hk=>?_⟩
 show taplineref08_shaped.f k t d=_
 have h1:=hKn k (by omega)
 have h2:=hKf k (by omega)
 have h3:=rshaped_loop (t:=t) (d:=d) hl d.vFields.length 0 k (by omega) (by omega)
 rw [List.drop_zero] at h3
 unfold taplineref08_shaped.f taplineref08_unused.f taplineref08_Named.f taplineref08_Index.f shapedS shp
 simp only [h1,h2,show taplineref08_shaped.l0 t d k 0=_ from h3,fieldsS_eq]
 have hlen:∀n:Nat,((n:Int)==0)=decide (n=0):=by intro n;by_cases h:n=0<;>simp [h]
 have hpos:∀n:Nat,decide (0<n)= !decide (n=0):=by intro n;by_cases h:n=0<;>simp [h];omega
 rw [hlen,hpos]
 have hnil:decide (d.vFields.length=0)=true→namesS [] d.vFields=true:=by
  intro h
  have:d.vFields=[]:=List.length_eq_zero_iff.1 (of_decide_eq_true h)
  rw [this];rfl
 have hz32:decide (d.vFields.length=0)=true→decide (d.vFields.length≤32)=true:=by
  intro h
  exact decide_eq_true (by have:=of_decide_eq_true h;omega)
 have h55:∀x:Int,(x==0)=decide (x=0):=by intro x;by_cases h:x=0<;>simp [h]
 have hcase:d.vKind<1∨d.vKind>6∨d.vKind=1∨d.vKind=2∨d.vKind=3∨d.vKind=4∨d.vKind=5∨d.vKind=6:=by omega
 have hall:=fun a b=>all_fields_free (d:=d) (n:=(t.vDefs.length:Int)) a b d.vFields
 generalize d.vFields.all (fieldOk d (t.vDefs.length:Int))=F at*
 generalize nameS d.vName=A at*
 generalize strEq d.vName ByteArray.empty=B at*
 generalize decide (d.vFields.length=0)=C at*
 generalize decide (d.vFields.length≤32)=D at*
 generalize namesS [] d.vFields=E at*
 generalize d.vKind=K at*
 generalize d.vInt=I at*
 generalize d.vN=N at*
 generalize d.vRef=R at*
 clear h1 h2 h3 hKn hKf hl hz hz0
 have hI:(I.vSigned==false)= !I.vSigned:=by cases I.vSigned<;>rfl
 have hge:decide (R≥0)=decide (0≤R):=rfl
 have hgN:decide (N≥1)=decide (1≤N):=rfl
 rcases hcase with h|h|rfl|rfl|rfl|rfl|rfl|rfl
 ·simp only [show¬K=1 from by omega,show¬K=2 from by omega,show¬K=3 from by omega,show¬K=4 from by omega,show¬K=5 from by omega,show¬K=6 from by omega,if_false,decide_eq_true h]
  simp
 ·simp only [show¬K=1 from by omega,show¬K=2 from by omega,show¬K=3 from by omega,show¬K=4 from by omega,show¬K=5 from by omega,show¬K=6 from by omega,if_false,decide_eq_true h]
  simp
 ·rw [hall (by omega) (by omega)]
  simp only [okI,hI,hge,hgN,Int.reduceBEq,Int.reduceBNe,Int.reduceLT,Int.reduceGT,Int.reduceEq,bne,eq_self,Bool.false_eq_true,Bool.not_true,Bool.not_false,Bool.true_and,Bool.false_and,Bool.and_true,Bool.and_false,Bool.or_self,Bool.or_false,Bool.false_or,Bool.true_or,Option.bind_some,if_true,if_false,decide_true,decide_false]
  generalize (I.vSize==1||I.vSize==2||I.vSize==4||I.vSize==8)=a at*
  generalize (I.vSize==0)=a0 at*
  generalize I.vSigned=b at*
  generalize (R==0)=r at*
  generalize (N==0)=n at*
  revert hw hz32 hnil
  clear hall hlen hpos h55 hI hge hgN
  clear a0 b
  revert A B C D E a r n
  decide
 ·rw [hall (by omega) (by omega)]
  simp only [okI,hI,hge,hgN,Int.reduceBEq,Int.reduceBNe,Int.reduceLT,Int.reduceGT,Int.reduceEq,bne,eq_self,Bool.false_eq_true,Bool.not_true,Bool.not_false,Bool.true_and,Bool.false_and,Bool.and_true,Bool.and_false,Bool.or_self,Bool.or_false,Bool.false_or,Bool.true_or,Option.bind_some,if_true,if_false,decide_true,decide_false]
  generalize (I.vSize==0)=a at*
  generalize I.vSigned=b at*
  generalize decide (0≤R)=r at*
  generalize decide (R<(t.vDefs.length:Int))=r2 at*
  generalize (N==0)=n at*
  revert hw hz32 hnil
  clear hall hlen hpos h55 hI hge hgN
  revert A B C D E a b r r2 n
  decide
 ·rw [hall (by omega) (by omega)]
  simp only [okI,hI,hge,hgN,Int.reduceBEq,Int.reduceBNe,Int.reduceLT,Int.reduceGT,Int.reduceEq,bne,eq_self,Bool.false_eq_true,Bool.not_true,Bool.not_false,Bool.true_and,Bool.false_and,Bool.and_true,Bool.and_false,Bool.or_self,Bool.or_false,Bool.false_or,Bool.true_or,Option.bind_some,if_true,if_false,decide_true,decide_false]
  generalize (I.vSize==0)=a at*
  generalize I.vSigned=b at*
  generalize decide (0≤R)=r at*
  generalize decide (R<(t.vDefs.length:Int))=r2 at*
  generalize decide (1≤N)=n at*
  generalize decide (N≤512)=n2 at*
  revert hw hz32 hnil
  clear hall hlen hpos h55 hI hge hgN
  revert A B C D E a b r r2 n n2
  decide
 ·simp only [okI,hI,hge,hgN,Int.reduceBEq,Int.reduceBNe,Int.reduceLT,Int.reduceGT,Int.reduceEq,bne,eq_self,Bool.false_eq_true,Bool.not_true,Bool.not_false,Bool.true_and,Bool.false_and,Bool.and_true,Bool.and_false,Bool.or_self,Bool.or_false,Bool.false_or,Bool.true_or,Option.bind_some,if_true,if_false,decide_true,decide_false]
  generalize (I.vSize==0)=a at*
  generalize I.vSigned=b at*
  generalize (R==0)=r at*
  generalize decide (1≤N)=n at*
  generalize decide (N≤512)=n2 at*
  revert hw hz32 hnil
  clear hall hlen hpos h55 hI hge hgN
  revert A B C D E F a b r n n2
  decide
 ·simp only [okI,hI,hge,hgN,Int.reduceBEq,Int.reduceBNe,Int.reduceLT,Int.reduceGT,Int.reduceEq,bne,eq_self,Bool.false_eq_true,Bool.not_true,Bool.not_false,Bool.true_and,Bool.false_and,Bool.and_true,Bool.and_false,Bool.or_self,Bool.or_false,Bool.false_or,Bool.true_or,Option.bind_some,if_true,if_false,decide_true,decide_false]
  generalize (I.vSize==0)=a at*
  generalize I.vSigned=b at*
  generalize (R==0)=r at*
  generalize (N==0)=n at*
  generalize decide (1≤N)=n1 at*
  generalize decide (N≤512)=n2 at*
  revert hw hz32 hnil
  clear hall hlen hpos h55 hI hge hgN
  clear n1 n2
  revert A B C D E F a b r n
  decide
 ·rw [hall (by omega) (by omega)]
  simp only [okI,hI,hge,hgN,Int.reduceBEq,Int.reduceBNe,Int.reduceLT,Int.reduceGT,Int.reduceEq,bne,eq_self,Bool.false_eq_true,Bool.not_true,Bool.not_false,Bool.true_and,Bool.false_and,Bool.and_true,Bool.and_false,Bool.or_self,Bool.or_false,Bool.false_or,Bool.true_or,Option.bind_some,if_true,if_false,decide_true,decide_false]
  generalize (I.vSize==0)=a at*
  generalize I.vSigned=b at*
  generalize decide (0≤R)=r at*
  generalize decide (R<(t.vDefs.length:Int))=r2 at*
  generalize (N==0)=n at*
  revert hw hz32 hnil
  clear hall hlen hpos h55 hI hge hgN
  revert A B C D E a b r r2 n
  decide
def rsizeS (d:api_Def) (known:List Int):Int:=if d.vKind=4∧(d.vFields.any fun f=>rd 0 known f.vType==0)=true then 0 else nval d (inner known d)
theorem rsize_loop {d:api_Def} {known:List Int} (hl:d.vFields.length≤9223372036854775807) (ht:∀f∈d.vFields,0≤f.vType∧f.vType<known.length):∀(e j m:Nat),j+e=d.vFields.length→e<m→
    taplineref08_size.l0 d known m (j:Int)=some (if ((d.vFields.drop j).any fun f=>rd 0 known f.vType==0)=true then .inl 0 else .inr ()):=by
  intro e
  induction e with
  | zero =>
    intro j m hj hm
    obtain ⟨m,rfl⟩:∃q,m=q+1:=⟨m-1,by omega⟩
    rw [taplineref08_size.l0,if_neg (by simp;omega),List.drop_eq_nil_of_le (by omega)]
    rfl
  | succ e ih =>
    intro j m hj hm
    obtain ⟨m,rfl⟩:∃q,m=q+1:=⟨m-1,by omega⟩
    have hlt:j<d.vFields.length:=by omega
    have hf:=ht _ (getD_mem (z:=z_api_Field) hlt)
    rw [taplineref08_size.l0,if_pos (by simp;omega),if_pos (by omega),rd_nat,if_pos hf,drop_getD z_api_Field hlt,List.any_cons]
    by_cases hc:(rd 0 known (d.vFields.getD j z_api_Field).vType==0)=true
    · rw [if_pos hc,hc];rfl
    · rw [if_neg hc,wrap_nat hlt hl,ih (j+1) m (by omega) (by omega)]
      rw [Bool.not_eq_true] at hc
      rw [hc,Bool.false_or]
theorem rsize_ev {d : api_Def} {known : List Int} {n : Nat} (hd : ShD d n) (hn : known.length = n) : Ev (fun k => taplineref08_size.f k d known) (rsizeS d known) := by
  have hfew:=hd.few
  have hkind:=hd.kind
  refine ⟨d.vFields.length+1,fun k hk=>?_⟩
  show taplineref08_size.f k d known=_
  unfold taplineref08_size.f rsizeS nval
  simp only [beq_iff_eq]
  by_cases e1:d.vKind=1
  · rw [if_pos e1,if_neg (by omega),if_pos e1]
  · rw [if_neg e1]
    by_cases e2:d.vKind=2
    · rw [if_pos e2,if_neg (by omega),if_neg e1,if_pos e2]
    · rw [if_neg e2]
      by_cases e3:d.vKind=3
      · have hr:=hd.ref (by omega)
        rw [if_pos e3,if_pos (by omega),if_neg (by omega),if_neg e1,if_neg e2,if_pos e3,(inner_ref (.inl e3)).1]
      · rw [if_neg e3]
        by_cases e5:d.vKind=5
        · rw [if_pos e5,if_neg (by omega),if_neg e1,if_neg e2,if_neg e3,if_neg (by omega),if_pos e5]
        · rw [if_neg e5]
          by_cases e6:d.vKind=6
          · have hr:=hd.ref (by omega)
            rw [if_pos e6,if_pos (by omega),if_neg (by omega),if_neg e1,if_neg e2,if_neg e3,if_neg (by omega),if_neg e5,if_pos e6,(inner_ref (.inr e6)).1]
          · have e4:d.vKind=4:=by omega
            have ht:=hd.typ e4
            rw [if_neg e6,show taplineref08_size.l0 d known k 0=_ from rsize_loop (by omega) (fun f hf=>by have:=ht f hf;omega) d.vFields.length 0 k (by omega) (by omega),List.drop_zero]
            rw [if_neg e1,if_neg e2,if_neg e3,if_pos e4]
            cases hany:d.vFields.any fun f=>rd 0 known f.vType==0 with
            |true=>simp [e4]
            |false=>simp [e4]
structure Inv (defs:List api_Def) (known:List Int):Prop where
 len:known.length=defs.length
 rng:∀j,j<defs.length→0≤known.getD j 0∧known.getD j 0≤513
 ex:∃(rk:Nat→Nat) (B:Nat),∀j,j<defs.length→known.getD j 0≠0→rk j<B∧(∀c∈cont (defs.getD j z_api_Def),known.getD c.toNat 0≠0∧rk c.toNat<rk j)∧known.getD j 0=iMin (nval (defs.getD j z_api_Def) (inner known (defs.getD j z_api_Def))) 513
theorem rsize_pos {d : api_Def} {known : List Int} {n : Nat} (hd : ShD d n) (h : 0 < rsizeS d known) : 0 < nval d (inner known d) ∧ rsizeS d known = nval d (inner known d) ∧ ∀ c ∈ cont d, known.getD c.toNat 0 ≠ 0 := by
  unfold rsizeS at h⊢
  split at h
  · omega
  · next hc=>
    rw [if_neg hc]
    refine ⟨h,rfl,fun c hcm=>?_⟩
    rcases cont_kind hcm with e|e|e
    · obtain ⟨h1,h2⟩:=inner_ref (known:=known) (.inl e)
      rw [h2] at hcm
      rw [List.mem_singleton.1 hcm]
      intro h0
      unfold nval at h
      rw [h1,show rd 0 known d.vRef=0 from h0,Int.mul_zero,if_neg (by omega),if_neg (by omega),if_pos e] at h
      exact absurd h (by decide)
    · have hcd:cont d=d.vFields.map (·.vType):=by
        unfold cont
        rw [if_neg (by simp [e]),if_pos (by simp [e])]
      rw [hcd] at hcm
      obtain ⟨f,hf,rfl⟩:=List.mem_map.1 hcm
      intro h0
      exact hc ⟨e,List.any_eq_true.2 ⟨f,hf,by rw [beq_iff_eq];exact h0⟩⟩
    · obtain ⟨h1,h2⟩:=inner_ref (known:=known) (.inr e)
      rw [h2] at hcm
      rw [List.mem_singleton.1 hcm]
      intro h0
      unfold nval at h
      rw [h1,show rd 0 known d.vRef=0 from h0,if_neg (by omega),if_neg (by omega),if_neg (by omega),if_neg (by omega),if_neg (by omega),if_pos e] at h
      omega
def zer (l:List Int):Nat:=(l.filter fun x=>x==0).length
theorem zer_set:∀(a:List Int) (i:Nat) (v:Int),i<a.length→a.getD i 0=0→v≠0→zer (a.set i v)+1=zer a
  |[],i,v,h,_,_=>by simp at h
  | x :: a, 0, v, h, hi, hv => by
    simp only [List.getD_cons_zero] at hi
    subst hi
    simp [zer,hv]
  | x :: a, i + 1, v, h, hi, hv => by
    have:=zer_set a i v (by simpa using h) (by simpa using hi) hv
    unfold zer at*
    rw [List.set_cons_succ,List.filter_cons,List.filter_cons]
    by_cases hx:(x==0)=true
    · rw [if_pos hx,if_pos hx,List.length_cons,List.length_cons];omega
    · rw [if_neg hx,if_neg hx];exact this
theorem inv_set {defs : List api_Def} {known : List Int} (hS : ∀ d ∈ defs, ShD d defs.length) (I : Inv defs known) {i : Nat} (hi : i < defs.length) (h0 : known.getD i 0 = 0) (hp : 0 < rsizeS (defs.getD i z_api_Def) known) :
    Inv defs (known.set i (iMin (rsizeS (defs.getD i z_api_Def) known) 513))∧iMin (rsizeS (defs.getD i z_api_Def) known) 513≠0:=by
  obtain ⟨hp1,hp2,hp3⟩:=rsize_pos (hS _ (getD_mem hi)) hp
  obtain ⟨rk,B,hB⟩:=I.ex
  have hv:0<iMin (rsizeS (defs.getD i z_api_Def) known) 513∧iMin (rsizeS (defs.getD i z_api_Def) known) 513≤513:=by
    unfold iMin
    split<;>omega
  generalize hV:iMin (rsizeS (defs.getD i z_api_Def) known) 513=V at*
  have hset:∀j,(known.set i V).getD j 0=if i=j then V else known.getD j 0:=fun j=>getD_set (by rw [I.len];exact hi)
  have hne:∀c:Int,known.getD c.toNat 0≠0→¬i=c.toNat:=fun c hc e=>by rw [←e] at hc;exact hc h0
  refine ⟨⟨by simp [I.len],fun j hj=>?_,fun j=>if i=j then B else rk j,B+1,fun j hj hj0=>?_⟩,by omega⟩
  · rw [hset]
    split
    · omega
    · exact I.rng j hj
  · show (if i=j then B else rk j)<B+1∧(∀c:Int,c∈cont (defs.getD j z_api_Def)→_∧(if i=c.toNat then B else rk c.toNat)<(if i=j then B else rk j))∧_
    by_cases hij:i=j
    · subst hij
      rw [if_pos rfl]
      refine ⟨by omega,fun c hc=>?_,?_⟩
      · have h5:=hp3 c hc
        have h6:=cont_range (hS _ (getD_mem (z:=z_api_Def) hi)) c hc
        rw [hset,if_neg (hne c h5),if_neg (hne c h5)]
        exact ⟨h5,(hB c.toNat (by omega) h5).1⟩
      · rw [hp2] at hV
        refine (hset i).trans ?_
        rw [if_pos rfl]
        refine hV.symm.trans ?_
        congr 2
        exact inner_congr (fun c hc=>by rw [hset,if_neg (hne c (hp3 c hc))])
    · rw [hset,if_neg hij] at hj0
      obtain ⟨h5,h7,h8⟩:=hB j hj hj0
      rw [if_neg hij,hset,if_neg hij]
      refine ⟨by omega,fun c hc=>?_,?_⟩
      · obtain ⟨h9,h10⟩:=h7 c hc
        rw [hset,if_neg (hne c h9),if_neg (hne c h9)]
        exact ⟨h9,h10⟩
      · rw [h8]
        congr 2
        exact inner_congr (fun c hc=>by rw [hset,if_neg (hne c (h7 c hc).1)])
theorem pass_loop {t : api_Types} (hS : ∀ d ∈ t.vDefs, ShD d t.vDefs.length) (hn : t.vDefs.length ≤ 9223372036854775807) : ∀ (e j : Nat) (more : Bool) (known : List Int), j + e = t.vDefs.length → Inv t.vDefs known →
    ∃ more' known', Ev2 (fun k m => taplineref08_sizes.l1 k t m more (j : Int) known) (more', known') ∧ Inv t.vDefs known' ∧ (more' = false → more = false ∧ known' = known ∧ ∀ q, j ≤ q → q < t.vDefs.length → known.getD q 0 = 0 → rsizeS (t.vDefs.getD q z_api_Def) known ≤ 0) ∧
      zer known'≤zer known∧(more'=true→more=true∨zer known'<zer known):=by
  intro e
  induction e with
  | zero =>
    intro j more known hj I
    refine ⟨more,known,Ev2.pure (fun k m=>?_),I,fun h=>⟨h,rfl,fun q _ _=>by omega⟩,Nat.le_refl _,fun h=> .inl h⟩
    rw [taplineref08_sizes.l1,if_neg (by simp;omega)]
  | succ e ih =>
    intro j more known hj I
    have hlt:j<t.vDefs.length:=by omega
    have hd:=hS _ (getD_mem (z:=z_api_Def) hlt)
    by_cases h0:known.getD j 0=0
    · have hs:=rsize_ev hd I.len
      by_cases hp:0<rsizeS (t.vDefs.getD j z_api_Def) known
      · obtain ⟨I2,hv⟩:=inv_set hS I hlt h0 hp
        have hz:=zer_set known j _ (by rw [I.len];exact hlt) h0 hv
        obtain ⟨more',known',hE,I3,h1,h2,h3⟩:=ih (j+1) true _ (by omega) I2
        refine ⟨more',known',Ev2.step hs (r:=fun k m v1=>if (decide (v1>0))=true then (if 0≤(j:Int)∧(j:Int)<(((t.vDefs.length:Int).toNat:Nat):Int) then (taplineref08_sizes.l1 k t m true (IntKind.wrap .i64 ((j:Int)+1)) (List.set known j (iMin v1 513))) else none) else (taplineref08_sizes.l1 k t m more (IntKind.wrap .i64 ((j:Int)+1)) known)) ?_ (fun k m=>?_),I3,?_,by omega,fun _=> .inr (by omega)⟩
        · obtain ⟨K,hK⟩:=hE
          refine ⟨K,fun k m hk hm=>?_⟩
          show (if _ then _ else _)=_
          rw [if_pos (decide_eq_true hp),if_pos (by omega),wrap_nat hlt hn]
          exact hK k m hk hm
        · rw [taplineref08_sizes.l1,if_pos (by simp;omega),if_pos (by omega),rd_nat,if_neg (by rw [h0];decide),if_pos (by omega),rd_nat]
          simp only [Int.toNat_natCast]
        · intro h;have:=(h1 h).1;cases this
      · obtain ⟨more',known',hE,I3,h1,h2,h3⟩:=ih (j+1) more known (by omega) I
        refine ⟨more',known',Ev2.step hs (r:=fun k m v1=>if (decide (v1>0))=true then (if 0≤(j:Int)∧(j:Int)<(((t.vDefs.length:Int).toNat:Nat):Int) then (taplineref08_sizes.l1 k t m true (IntKind.wrap .i64 ((j:Int)+1)) (List.set known j (iMin v1 513))) else none) else (taplineref08_sizes.l1 k t m more (IntKind.wrap .i64 ((j:Int)+1)) known)) ?_ (fun k m=>?_),I3,?_,h2,h3⟩
        · obtain ⟨K,hK⟩:=hE
          refine ⟨K,fun k m hk hm=>?_⟩
          show (if _ then _ else _)=_
          rw [if_neg (by simpa using hp),wrap_nat hlt hn]
          exact hK k m hk hm
        · rw [taplineref08_sizes.l1,if_pos (by simp;omega),if_pos (by omega),rd_nat,if_neg (by rw [h0];decide),if_pos (by omega),rd_nat]
          simp only [Int.toNat_natCast]
        · intro h
          obtain ⟨a,b,c⟩:=h1 h
          refine ⟨a,b,fun q hq hq2 hq0=>?_⟩
          by_cases hqj:q=j
          · subst hqj;omega
          · exact c q (by omega) hq2 hq0
    · obtain ⟨more',known',hE,I3,h1,h2,h3⟩:=ih (j+1) more known (by omega) I
      refine ⟨more',known',Ev2.next (r:=fun k m=>taplineref08_sizes.l1 k t m more ((j+1:Nat):Int) known) hE (fun k m=>?_),I3,?_,h2,h3⟩
      · rw [taplineref08_sizes.l1,if_pos (by simp;omega),if_pos (by omega),rd_nat,if_pos (by simpa using h0),wrap_nat hlt hn]
      · intro h
        obtain ⟨a,b,c⟩:=h1 h
        refine ⟨a,b,fun q hq hq2 hq0=>?_⟩
        by_cases hqj:q=j
        · subst hqj;exact absurd hq0 h0
        · exact c q (by omega) hq2 hq0
def Fin (defs:List api_Def) (known:List Int):Prop:=∀q,q<defs.length→known.getD q 0=0→rsizeS (defs.getD q z_api_Def) known≤0
theorem rounds {t : api_Types} (hS : ∀ d ∈ t.vDefs, ShD d t.vDefs.length) (hn : t.vDefs.length ≤ 9223372036854775807) : ∀ (z : Nat) (known : List Int), zer known = z → Inv t.vDefs known →
    ∃known',Ev2 (fun k m=>taplineref08_sizes.l0 k t m true known) known'∧Inv t.vDefs known'∧Fin t.vDefs known':=by
  intro z
  induction z using Nat.strongRecOn with
  | _ z ih =>
    intro known hz I
    obtain ⟨more',known',hE,I2,h1,h2,h3⟩:=pass_loop hS hn t.vDefs.length 0 false known (by omega) I
    cases more' with
    | false =>
      obtain ⟨_,rfl,hf⟩:=h1 rfl
      refine ⟨known',Ev2.step hE.diag (r:=fun k m (x:Bool×List Int)=>taplineref08_sizes.l0 k t m x.1 x.2) (Ev2.pure fun k m=>?_) (fun k m=>?_),I2,fun q hq h0=>hf q (by omega) hq h0⟩
      · show taplineref08_sizes.l0 k t (m+1) false known'=_
        rw [taplineref08_sizes.l0,if_neg (by simp)]
      · rw [taplineref08_sizes.l0,if_pos rfl]
        rfl
    | true =>
      have hlt:zer known'<z:=by
        rcases h3 rfl with h|h
        · cases h
        · omega
      obtain ⟨k3,hE3,I3,F3⟩:=ih (zer known') hlt known' rfl I2
      refine ⟨k3,Ev2.step hE.diag (r:=fun k m (x:Bool×List Int)=>taplineref08_sizes.l0 k t m x.1 x.2) hE3 (fun k m=>?_),I3,F3⟩
      rw [taplineref08_sizes.l0,if_pos rfl]
      rfl
theorem rsizes_ev {t:api_Types} (hS:∀d∈t.vDefs,ShD d t.vDefs.length) (hn:t.vDefs.length≤200):∃known,Ev (fun k=>taplineref08_sizes.f k t) known∧Inv t.vDefs known∧Fin t.vDefs known:=by
 have hrep:∀(n q:Nat),(List.replicate n (0:Int)).getD q 0=0:=fun n q=>by
  rw [List.getD_eq_getElem?_getD,List.getElem?_replicate]
  split<;>rfl
 obtain ⟨known,hE,I,F⟩:=rounds hS (by omega) _ (List.replicate t.vDefs.length (0:Int)) rfl ⟨by simp,fun j hj=>by rw [hrep];omega,fun _=>0,0,fun j hj h=>absurd (hrep _ _) h⟩
 obtain ⟨K,hK⟩:=hE.diag
 refine ⟨known,⟨K,fun k hk=>?_⟩,I,F⟩
 show taplineref08_sizes.f k t=_
 unfold taplineref08_sizes.f
 rw [if_pos (by omega)]
 simp only [Int.toNat_natCast]
 rw [show taplineref08_sizes.l0 k t k true _=_ from hK k hk]
 rfl
theorem iMin_low {x:Int} (h:iMin x 513≤512):iMin x 513=x:=by
 unfold iMin at*
 split
 ·next h2=>rw [if_pos h2] at h;omega
 ·rfl
theorem rsizes_good {defs : List api_Def} {known g : List Int} (hS : ∀ d ∈ defs, ShD d defs.length) (I : Inv defs known) (F : Fin defs known) (G : GoodSz defs g) : known = g := by
  obtain ⟨rk,hg⟩:=G.ex
  refine list_ext (by rw [I.len,G.len]) (fun j hj=>?_)
  rw [I.len] at hj
  obtain ⟨rk2,B,hB⟩:=I.ex
  have key:∀(R q:Nat),rk q=R→q<defs.length→known.getD q 0=g.getD q 0:=by
    intro R
    induction R using Nat.strongRecOn with
    | _ R ih =>
      intro q hR hq
      obtain ⟨g1,g2,g3,g4⟩:=hg q hq
      have hd:=hS _ (getD_mem (z:=z_api_Def) hq)
      have hch:∀c∈cont (defs.getD q z_api_Def),known.getD c.toNat 0=g.getD c.toNat 0:=fun c hc=>by
        have h6:=cont_range hd c hc
        exact ih _ (by have:=g3 c hc;omega) c.toNat rfl (by omega)
      have hin:=inner_congr hch
      by_cases h0:known.getD q 0=0
      · exfalso
        have h1:=F q hq h0
        unfold rsizeS at h1
        rw [if_neg,hin,←g4] at h1
        · omega
        · rintro ⟨e4,ha⟩
          obtain ⟨f,hf,hf0⟩:=List.any_eq_true.1 ha
          have hcm:f.vType∈cont (defs.getD q z_api_Def):=by
            rw [cont_struct e4]
            exact List.mem_map.2 ⟨f,hf,rfl⟩
          have h2:=hch _ hcm
          have h6:=cont_range hd _ hcm
          have h3:=(hg f.vType.toNat (by omega)).1
          rw [beq_iff_eq] at hf0
          rw [show known.getD f.vType.toNat 0=0 from hf0] at h2
          omega
      · obtain ⟨_,_,h3⟩:=hB q hq h0
        rw [hin,←g4] at h3
        rw [h3]
        unfold iMin
        rw [if_neg (by omega)]
  exact key (rk j) j rfl hj
theorem rsizes_conv {defs:List api_Def} {known:List Int} (I:Inv defs known) (h:∀j,j<defs.length→known.getD j 0≠0∧known.getD j 0≤512):GoodSz defs known:=by
 obtain ⟨rk,B,hB⟩:=I.ex
 refine ⟨I.len,rk,fun j hj=>?_⟩
 obtain ⟨h1,h2⟩:=h j hj
 have h3:=I.rng j hj
 obtain ⟨_,h4,h5⟩:=hB j hj h1
 refine ⟨by omega,h2,fun c hc=>(h4 c hc).2,?_⟩
 rw [h5] at h2⊢
 exact iMin_low h2
theorem rends_loop {t : api_Types} (hS : ∀ d ∈ t.vDefs, ShD d t.vDefs.length) (hn : t.vDefs.length ≤ 9223372036854775000) : ∀ (e j m : Nat) (i : Int), 0 ≤ i → i < t.vDefs.length → j + e = t.vDefs.length → e + 1 < m →
    ((taplineref08_ends.l0 t m i (j:Int)).bind fun xx1=>(match xx1 with| .inl r=>some r| .inr s1=>some false))=some (!lostS t.vDefs e (rd z_api_Def t.vDefs i)):=by
  intro e
  induction e with
  | zero =>
    intro j m i h0 h1 hj hm
    obtain ⟨m,rfl⟩:∃q,m=q+1:=⟨m-1,by omega⟩
    obtain ⟨m,rfl⟩:∃q,m=q+1:=⟨m-1,by omega⟩
    rw [taplineref08_ends.l0,if_pos (by simp;omega),if_pos ⟨h0,h1⟩]
    simp only [taplineref08_Named.f,Option.bind_some,lostS]
    show (Option.bind (if namedS _=true then _ else _) _)=_
    by_cases hnm:namedS (rd z_api_Def t.vDefs i)=true
    · rw [if_pos hnm,hnm];rfl
    · rw [if_neg hnm,if_pos ⟨h0,h1⟩,wrap_id (by omega) (by omega),taplineref08_ends.l0,if_neg (by simp;omega)]
      rw [Bool.not_eq_true] at hnm
      rw [hnm];rfl
  | succ e ih =>
    intro j m i h0 h1 hj hm
    obtain ⟨m,rfl⟩:∃q,m=q+1:=⟨m-1,by omega⟩
    rw [taplineref08_ends.l0,if_pos (by simp;omega),if_pos ⟨h0,h1⟩]
    simp only [taplineref08_Named.f,Option.bind_some,lostS]
    show (Option.bind (if namedS _=true then _ else _) _)=_
    by_cases hnm:namedS (rd z_api_Def t.vDefs i)=true
    · rw [if_pos hnm,if_pos hnm];rfl
    · rw [if_neg hnm,if_neg hnm,if_pos ⟨h0,h1⟩]
      have hk:(rd z_api_Def t.vDefs i).vKind=2∨(rd z_api_Def t.vDefs i).vKind=3:=by
        unfold namedS at hnm
        by_cases h2:(rd z_api_Def t.vDefs i).vKind=2
        · exact .inl h2
        · by_cases h3:(rd z_api_Def t.vDefs i).vKind=3
          · exact .inr h3
          · exact absurd (by simp [h2,h3]) hnm
      have hr:=(hS _ (rd_mem (z:=z_api_Def) h0 h1)).ref (by omega)
      rw [wrap_nat (show j<t.vDefs.length by omega) (by omega)]
      exact ih (j+1) m _ hr.1 hr.2 (by omega) (by omega)
theorem rends_ev {t:api_Types} (hS:∀d∈t.vDefs,ShD d t.vDefs.length) (hn:t.vDefs.length≤200) {i:Nat} (hi:i<t.vDefs.length):Ev (fun k=>taplineref08_ends.f k t (i:Int)) (!lostS t.vDefs t.vDefs.length (t.vDefs.getD i z_api_Def)):=
 ⟨t.vDefs.length + 2, fun k hk => by
  show taplineref08_ends.f k t _=_
  unfold taplineref08_ends.f
  have:=rends_loop hS (by omega) t.vDefs.length 0 k (i:Int) (by omega) (by omega) (by omega) (by omega)
  rw [rd_nat] at this
  exact this⟩
def rplacedAt (l:List Int) (N:Int):Int→List api_Field→Option Int
 |at_,[]=>some at_
 |at_,f::r=>if ((decide (f.vAt<at_))||(decide (f.vAt>N)))=true then none else rplacedAt l N (IntKind.wrap .i64 (f.vAt+rd 0 l f.vType)) r
def rplacedS (d:api_Def) (l:List Int):Bool:=match rplacedAt l d.vN 0 d.vFields with|none=>false|some e=>decide (e≤d.vN)
theorem rplaced_loop {d:api_Def} {l:List Int} (hl:d.vFields.length≤9223372036854775807) (ht:∀f∈d.vFields,0≤f.vType∧f.vType<l.length):∀(e j m:Nat) (at_:Int),j+e=d.vFields.length→e<m→
    taplineref08_placed.l0 d l m at_ (j:Int)=some (match rplacedAt l d.vN at_ (d.vFields.drop j) with|none=> .inl false|some a=> .inr a):=by
  intro e
  induction e with
  | zero =>
    intro j m at_ hj hm
    obtain ⟨m,rfl⟩:∃q,m=q+1:=⟨m-1,by omega⟩
    rw [taplineref08_placed.l0,if_neg (by simp;omega),List.drop_eq_nil_of_le (by omega)]
    rfl
  | succ e ih =>
    intro j m at_ hj hm
    obtain ⟨m,rfl⟩:∃q,m=q+1:=⟨m-1,by omega⟩
    have hlt:j<d.vFields.length:=by omega
    have hf:=ht _ (getD_mem (z:=z_api_Field) hlt)
    rw [taplineref08_placed.l0,if_pos (by simp;omega),if_pos (by omega),rd_nat,drop_getD z_api_Field hlt]
    simp only [rplacedAt]
    by_cases hc:((decide ((d.vFields.getD j z_api_Field).vAt<at_))||(decide ((d.vFields.getD j z_api_Field).vAt>d.vN)))=true
    · rw [if_pos hc,if_pos hc]
    · rw [if_neg hc,if_neg hc,if_pos hf,wrap_nat hlt hl,ih (j+1) m _ (by omega) (by omega)]
theorem rplaced_ev {d:api_Def} {l:List Int} (hl:d.vFields.length≤9223372036854775807) (ht:∀f∈d.vFields,0≤f.vType∧f.vType<l.length):Ev (fun k=>taplineref08_placed.f k d l) (rplacedS d l):=by
 refine ⟨d.vFields.length+1,fun k hk=>?_⟩
 show taplineref08_placed.f k d l=_
 unfold taplineref08_placed.f rplacedS
 rw [show taplineref08_placed.l0 d l k 0 0=_ from rplaced_loop hl ht d.vFields.length 0 k 0 (by omega) (by omega),List.drop_zero]
 cases rplacedAt l d.vN 0 d.vFields<;>rfl
theorem placed_over {l:List Int} {N:Int} (hN:0≤N):∀(fs:List api_Field) (a:Int),N<a→a≤1024→(∀f∈fs,0<rd 0 l f.vType∧rd 0 l f.vType≤512)→(match placedAt l a fs with|none=>false|some e=>decide (e≤N))=false:=by
  intro fs
  induction fs with
  |nil=>intro a h1 h2 _;simp only [placedAt];exact decide_eq_false (by omega)
  | cons f r ih =>
    intro a h1 h2 hf
    have h3:=hf f List.mem_cons_self
    simp only [placedAt]
    by_cases hc:((decide (f.vAt<a))||(decide (f.vAt>512)))=true
    · rw [if_pos hc]
    · rw [if_neg hc]
      simp only [Bool.or_eq_true,decide_eq_true_eq,not_or] at hc
      rw [wrap_id (by omega) (by omega)]
      exact ih _ (by omega) (by omega) (fun g hg=>hf g (List.mem_cons_of_mem _ hg))
theorem placed_same {l : List Int} {N : Int} (hN : 0 ≤ N) (hN2 : N ≤ 512) : ∀ (fs : List api_Field) (a : Int), 0 ≤ a → (∀ f ∈ fs, 0 < rd 0 l f.vType ∧ rd 0 l f.vType ≤ 512) →
    (match rplacedAt l N a fs with|none=>false|some e=>decide (e≤N))=(match placedAt l a fs with|none=>false|some e=>decide (e≤N)):=by
  intro fs
  induction fs with
  |nil=>intro a _ _;rfl
  | cons f r ih =>
    intro a h0 hf
    have h3:=hf f List.mem_cons_self
    simp only [placedAt,rplacedAt]
    by_cases hc:((decide (f.vAt<a))||(decide (f.vAt>N)))=true
    · rw [if_pos hc]
      by_cases hc2:((decide (f.vAt<a))||(decide (f.vAt>512)))=true
      · rw [if_pos hc2]
      · rw [if_neg hc2]
        simp only [Bool.or_eq_true,decide_eq_true_eq,not_or] at hc hc2
        rw [wrap_id (by omega) (by omega)]
        exact (placed_over hN r _ (by omega) (by omega) (fun g hg=>hf g (List.mem_cons_of_mem _ hg))).symm
    · rw [if_neg hc,if_neg]
      · simp only [Bool.or_eq_true,decide_eq_true_eq,not_or] at hc
        rw [wrap_id (by omega) (by omega)]
        exact ih _ (by omega) (fun g hg=>hf g (List.mem_cons_of_mem _ hg))
      · simp only [Bool.or_eq_true,decide_eq_true_eq,not_or] at hc⊢
        omega
theorem rplaced_same {defs:List api_Def} {l:List Int} (G:GoodSz defs l) (hS:∀d∈defs,ShD d defs.length) {d:api_Def} (hd:d∈defs) (h4:d.vKind=4):rplacedS d l=placedS d l:=by
 obtain ⟨rk,h⟩:=G.ex
 have h1:=(hS d hd).num (.inr h4)
 have h2:=(hS d hd).typ h4
 exact placed_same (by omega) h1.2 _ _ (by omega) (fun f hf => by
  have h3:=h2 f hf
  have:=h f.vType.toNat (by omega)
  exact ⟨this.1, this.2.1⟩)
theorem rseen_loop {t:api_Types} (hl:t.vDefs.length≤9223372036854775807) {i:Nat} (hi:i<t.vDefs.length):∀(e j m:Nat),j+e=i→e<m→
    taplineref08_Check.l1 t (i:Int) m (j:Int)=some (if (namedS (t.vDefs.getD i z_api_Def)&&(((t.vDefs.take i).drop j).any fun f=>strEq f.vName (t.vDefs.getD i z_api_Def).vName))=true then .inl 80 else .inr ()):=by
  intro e
  induction e with
  | zero =>
    intro j m hj hm
    obtain ⟨m,rfl⟩:∃q,m=q+1:=⟨m-1,by omega⟩
    rw [taplineref08_Check.l1,if_neg (by simp;omega),List.drop_eq_nil_of_le (by simp;omega)]
    simp
  | succ e ih =>
    intro j m hj hm
    obtain ⟨m,rfl⟩:∃q,m=q+1:=⟨m-1,by omega⟩
    have hlt:j<t.vDefs.length:=by omega
    have hd:(t.vDefs.take i).drop j=t.vDefs.getD j z_api_Def::(t.vDefs.take i).drop (j+1):=by
      rw [drop_getD z_api_Def (by simp;omega)]
      congr 1
      rw [List.getD_eq_getElem?_getD,List.getD_eq_getElem?_getD,List.getElem?_take,if_pos (by omega)]
    rw [taplineref08_Check.l1,if_pos (by simp;omega),if_pos (by omega),rd_nat,rd_nat,hd,List.any_cons]
    simp only [taplineref08_Named.f,Option.bind_some]
    rw [if_pos (fun _=>by omega),if_pos (fun _=>by omega),wrap_nat hlt hl,ih (j+1) m (by omega) (by omega)]
    show (if (namedS (t.vDefs.getD i z_api_Def)&&_)=true then _ else _)=_
    cases namedS (t.vDefs.getD i z_api_Def)<;>cases (strEq (t.vDefs.getD j z_api_Def).vName (t.vDefs.getD i z_api_Def).vName)<;>cases (((t.vDefs.take i).drop (j+1)).any fun f=>strEq f.vName (t.vDefs.getD i z_api_Def).vName)<;>rfl
theorem any_revD (l:List api_Def) (s:ByteArray):((l.map (·.vName)).reverse.any (strEq s))=l.any fun f=>strEq f.vName s:=by
 rw [List.any_reverse,List.any_map]
 congr 1
 funext f
 exact strEq_comm _ _
theorem rdefs_loop {t : api_Types} (hF : ∀ d ∈ t.vDefs, FitD d) (hl : t.vDefs.length ≤ 9223372036854775807) : ∀ (e j : Nat), j + e = t.vDefs.length →
    Ev2 (fun k m=>taplineref08_Check.l0 k t m (j:Int)) (if defsS t.vDefs.length ((t.vDefs.take j).map (·.vName)).reverse (t.vDefs.drop j)=true then .inr () else .inl 80):=by
  intro e
  induction e with
  | zero =>
    intro j hj
    refine Ev2.pure fun k m=>?_
    rw [taplineref08_Check.l0,if_neg (by simp;omega),List.drop_eq_nil_of_le (by omega)]
    rfl
  | succ e ih =>
    intro j hj
    have hlt:j<t.vDefs.length:=by omega
    have hmem:=getD_mem (z:=z_api_Def) hlt
    have hFd:=hF _ hmem
    have h1:=rshaped_ev (t:=t) hFd.len hFd.names hFd.name
    have h2:=ih (j+1) (by omega)
    have ht:((t.vDefs.take (j+1)).map (·.vName)).reverse=(t.vDefs.getD j z_api_Def).vName::((t.vDefs.take j).map (·.vName)).reverse:=by
      rw [List.take_add_one,List.map_append,List.reverse_append]
      rw [List.getD_eq_getElem?_getD,List.getElem?_eq_getElem hlt]
      rfl
    rw [ht] at h2
    rw [drop_getD z_api_Def hlt,defsS]
    refine Ev2.step h1 (r:=fun k m v1=>if (!v1)=true then (some (.inl 80)) else ((taplineref08_Check.l1 t (j:Int) k 0).bind fun xx2=>(match xx2 with| .inl r=>some (.inl r)| .inr s1=>taplineref08_Check.l0 k t m ((j+1:Nat):Int)))) ?_ (fun k m=>?_)
    · rcases Bool.eq_false_or_eq_true (shapedS (t.vDefs.getD j z_api_Def) (t.vDefs.length:Int)) with hn|hn
      · obtain ⟨K,hK⟩:=h2
        rw [hn]
        refine ⟨max K (j+1),fun k m hk hm=>?_⟩
        have h3:=rseen_loop hl hlt j 0 k (by omega) (by omega)
        rw [List.drop_zero] at h3
        simp only [Bool.not_true,Bool.false_eq_true,if_false,Bool.true_and]
        rw [show taplineref08_Check.l1 t (j:Int) k 0=_ from h3,any_revD]
        cases ha:namedS (t.vDefs.getD j z_api_Def)&&(t.vDefs.take j).any fun f=>strEq f.vName (t.vDefs.getD j z_api_Def).vName with
        |true=>simp
        |false=>simpa using hK k m (by omega) (by omega)
      · exact ⟨0,fun k m _ _=>by rw [hn];rfl⟩
    · rw [taplineref08_Check.l0,if_pos (by simp;omega),if_pos (by omega),rd_nat,wrap_nat hlt hl]
      try rfl
def CondQ (t:api_Types) (known:List Int) (q:Nat):Prop:=known.getD q 0≠0∧known.getD q 0≤512∧lostS t.vDefs t.vDefs.length (t.vDefs.getD q z_api_Def)=false∧((t.vDefs.getD q z_api_Def).vKind=4→rplacedS (t.vDefs.getD q z_api_Def) known=true)
theorem rlast_loop {t : api_Types} {known : List Int} (hF : ∀ d ∈ t.vDefs, FitD d) (hS : ∀ d ∈ t.vDefs, ShD d t.vDefs.length) (hn : t.vDefs.length ≤ 200) (hk : known.length = t.vDefs.length) : ∀ (e j : Nat), j + e = t.vDefs.length →
    ∃v,Ev2 (fun k m=>taplineref08_Check.l2 k t known m (j:Int)) v∧((v= .inr ()∧∀q,j≤q→q<t.vDefs.length→CondQ t known q)∨(v= .inl 80∧¬∀q,j≤q→q<t.vDefs.length→CondQ t known q)):=by
  intro e
  induction e with
  | zero =>
    intro j hj
    refine ⟨.inr (),Ev2.pure fun k m=>?_, .inl ⟨rfl,fun q _ _=>by omega⟩⟩
    rw [taplineref08_Check.l2,if_neg (by simp;omega)]
  | succ e ih =>
    intro j hj
    have hlt:j<t.vDefs.length:=by omega
    have hmem:=getD_mem (z:=z_api_Def) hlt
    have he:=rends_ev hS hn hlt
    obtain ⟨v,hv,hp⟩:=ih (j+1) (by omega)
    by_cases hc:CondQ t known j
    · obtain ⟨c1,c2,c3,c4⟩:=hc
      refine ⟨v,?_,?_⟩
      · obtain ⟨K1,hK1⟩:=he
        obtain ⟨K2,hK2⟩:=hv
        by_cases h4:(t.vDefs.getD j z_api_Def).vKind=4
        · obtain ⟨K3,hK3⟩:=rplaced_ev (d:=t.vDefs.getD j z_api_Def) (l:=known) (hF _ hmem).len (fun f hf=>by have:=(hS _ hmem).typ h4 f hf;rw [hk];exact this)
          refine ⟨max (max K1 K2) K3+1,fun k m hk1 hm1=>?_⟩
          obtain ⟨m,rfl⟩:∃q,m=q+1:=⟨m-1,by omega⟩
          show taplineref08_Check.l2 k t known (m+1) (j:Int)=_
          rw [taplineref08_Check.l2,if_pos (by simp;omega),if_pos (by omega),if_pos (fun _=>by omega),rd_nat,rd_nat,show taplineref08_ends.f k t (j:Int)=_ from hK1 k (by omega),c3]
          rw [show (known.getD j 0==0)=false from by simpa using c1,show decide (known.getD j 0>512)=false from decide_eq_false (by omega)]
          simp only [Bool.or_self,beq_self_eq_true,Bool.and_self,if_true,Bool.not_false,Option.bind_some,Bool.not_true,Bool.false_eq_true,if_false]
          rw [if_pos (by omega),if_pos (fun _=>by omega),show ((t.vDefs.getD j z_api_Def).vKind==4)=true from by simpa using h4]
          simp only [Bool.true_and,beq_self_eq_true,if_true]
          rw [show taplineref08_placed.f k _ known=_ from hK3 k (by omega),c4 h4]
          simp only [Option.bind_some,Bool.not_true,Bool.false_eq_true,if_false]
          rw [wrap_nat hlt (by omega)]
          exact hK2 k m (by omega) (by omega)
        · refine ⟨max K1 K2+1,fun k m hk1 hm1=>?_⟩
          obtain ⟨m,rfl⟩:∃q,m=q+1:=⟨m-1,by omega⟩
          show taplineref08_Check.l2 k t known (m+1) (j:Int)=_
          rw [taplineref08_Check.l2,if_pos (by simp;omega),if_pos (by omega),if_pos (fun _=>by omega),rd_nat,rd_nat,show taplineref08_ends.f k t (j:Int)=_ from hK1 k (by omega),c3]
          rw [show (known.getD j 0==0)=false from by simpa using c1,show decide (known.getD j 0>512)=false from decide_eq_false (by omega)]
          simp only [Bool.or_self,beq_self_eq_true,Bool.and_self,if_true,Bool.not_false,Option.bind_some,Bool.not_true,Bool.false_eq_true,if_false]
          rw [if_pos (by omega),if_pos (fun _=>by omega),show ((t.vDefs.getD j z_api_Def).vKind==4)=false from by simpa using h4]
          simp only [Bool.true_and,Bool.false_and,Bool.false_eq_true,if_false,Option.bind_some,show (false==true)=false from rfl]
          rw [wrap_nat hlt (by omega)]
          exact hK2 k m (by omega) (by omega)
      · rcases hp with ⟨a,b⟩|⟨a,b⟩
        · refine .inl ⟨a,fun q hq hq2=>?_⟩
          by_cases hqj:q=j
          · subst hqj;exact ⟨c1,c2,c3,c4⟩
          · exact b q (by omega) hq2
        · exact .inr ⟨a,fun h=>b (fun q hq hq2=>h q (by omega) hq2)⟩
    · refine ⟨.inl 80,?_, .inr ⟨rfl,fun h=>hc (h j (by omega) hlt)⟩⟩
      obtain ⟨K1,hK1⟩:=he
      by_cases c1:known.getD j 0=0
      · refine ⟨K1+1,fun k m hk1 hm1=>?_⟩
        obtain ⟨m,rfl⟩:∃q,m=q+1:=⟨m-1,by omega⟩
        show taplineref08_Check.l2 k t known (m+1) (j:Int)=_
        rw [taplineref08_Check.l2,if_pos (by simp;omega),if_pos (by omega),if_pos (fun _=>by omega),rd_nat,c1]
        rfl
      · by_cases c2:known.getD j 0≤512
        · cases c3:lostS t.vDefs t.vDefs.length (t.vDefs.getD j z_api_Def) with
          | true =>
            refine ⟨K1+1,fun k m hk1 hm1=>?_⟩
            obtain ⟨m,rfl⟩:∃q,m=q+1:=⟨m-1,by omega⟩
            show taplineref08_Check.l2 k t known (m+1) (j:Int)=_
            rw [taplineref08_Check.l2,if_pos (by simp;omega),if_pos (by omega),if_pos (fun _=>by omega),rd_nat,show taplineref08_ends.f k t (j:Int)=_ from hK1 k (by omega),c3]
            rw [show (known.getD j 0==0)=false from by simpa using c1,show decide (known.getD j 0>512)=false from decide_eq_false (by omega)]
            rfl
          | false =>
            have h4:(t.vDefs.getD j z_api_Def).vKind=4:=Classical.byContradiction fun h=>hc ⟨c1,c2,c3,fun h2=>absurd h2 h⟩
            have hpf:rplacedS (t.vDefs.getD j z_api_Def) known=false:=by
              cases hpp:rplacedS (t.vDefs.getD j z_api_Def) known with
              |false=>rfl
              |true=>exact absurd ⟨c1,c2,c3,fun _=>hpp⟩ hc
            obtain ⟨K3,hK3⟩:=rplaced_ev (d:=t.vDefs.getD j z_api_Def) (l:=known) (hF _ hmem).len (fun f hf=>by have:=(hS _ hmem).typ h4 f hf;rw [hk];exact this)
            refine ⟨max K1 K3+1,fun k m hk1 hm1=>?_⟩
            obtain ⟨m,rfl⟩:∃q,m=q+1:=⟨m-1,by omega⟩
            show taplineref08_Check.l2 k t known (m+1) (j:Int)=_
            rw [taplineref08_Check.l2,if_pos (by simp;omega),if_pos (by omega),if_pos (fun _=>by omega),rd_nat,rd_nat,show taplineref08_ends.f k t (j:Int)=_ from hK1 k (by omega),c3]
            rw [show (known.getD j 0==0)=false from by simpa using c1,show decide (known.getD j 0>512)=false from decide_eq_false (by omega)]
            simp only [Bool.or_self,beq_self_eq_true,Bool.and_self,if_true,Bool.not_false,Option.bind_some,Bool.not_true,Bool.false_eq_true,if_false]
            rw [if_pos (by omega),if_pos (fun _=>by omega),show ((t.vDefs.getD j z_api_Def).vKind==4)=true from by simpa using h4]
            simp only [Bool.true_and,beq_self_eq_true,if_true]
            rw [show taplineref08_placed.f k _ known=_ from hK3 k (by omega),hpf]
            rfl
        · refine ⟨K1+1,fun k m hk1 hm1=>?_⟩
          obtain ⟨m,rfl⟩:∃q,m=q+1:=⟨m-1,by omega⟩
          show taplineref08_Check.l2 k t known (m+1) (j:Int)=_
          rw [taplineref08_Check.l2,if_pos (by simp;omega),if_pos (by omega),if_pos (fun _=>by omega),rd_nat]
          rw [show (known.getD j 0==0)=false from by simpa using c1,show decide (known.getD j 0>512)=true from decide_eq_true (by omega)]
          rfl
theorem rcheck_iff {t : api_Types} (hF : ∀ d ∈ t.vDefs, FitD d) : (∃ l, Wf t l ∧ Ev (fun k => taplineref08_sizes.f k t) l ∧ Ev (fun k => taplineref08_Check.f k t) 0) ∨ ((∀ l, ¬ Wf t l) ∧ Ev (fun k => taplineref08_Check.f k t) 80) := by
  by_cases hn:(t.vDefs.length:Int)>200
  · refine .inr ⟨fun l W=>by have:=W.few;omega,Ev.pure fun k=>?_⟩
    unfold taplineref08_Check.f
    rw [if_pos (by simpa using hn)]
  · have hn:t.vDefs.length≤200:=by omega
    have hcond:¬decide ((t.vDefs.length:Int)>200)=true:=by simp;omega
    obtain ⟨K,hK⟩:=(rdefs_loop hF (by omega) t.vDefs.length 0 (by omega)).diag
    simp only [List.take_zero,List.map_nil,List.reverse_nil,List.drop_zero] at hK
    cases hd:defsS t.vDefs.length [] t.vDefs with
    | false =>
      rw [hd] at hK
      refine .inr ⟨fun l W=>(by have:=W.defs;rw [hd] at this;cases this),⟨K,fun k hk=>?_⟩⟩
      show taplineref08_Check.f k t=_
      unfold taplineref08_Check.f
      rw [if_neg hcond,show taplineref08_Check.l0 k t k 0=_ from hK k hk]
      rfl
    | true =>
      rw [hd] at hK
      have hS:=defs_of _ _ hd
      obtain ⟨known,hsz,I,F⟩:=rsizes_ev hS hn
      obtain ⟨v,hv,hp⟩:=rlast_loop hF hS hn I.len t.vDefs.length 0 (by omega)
      obtain ⟨K2,hK2⟩:=hv.diag
      obtain ⟨K3,hK3⟩:=hsz
      rcases hp with ⟨rfl,hp⟩|⟨rfl,hp⟩
      · have hg:=rsizes_conv I (fun j hj=>⟨(hp j (by omega) hj).1,(hp j (by omega) hj).2.1⟩)
        have hidx:∀d∈t.vDefs,∃q,q<t.vDefs.length∧t.vDefs.getD q z_api_Def=d:=fun d hd=>by
          obtain ⟨q,hq,e⟩:=List.mem_iff_getElem.1 hd
          exact ⟨q,hq,by rw [List.getD_eq_getElem?_getD,List.getElem?_eq_getElem hq];exact e⟩
        refine .inl ⟨known,⟨hn,hd,hg,fun d hd=>?_,fun d hd h4=>?_⟩,⟨K3,hK3⟩,⟨max (max K K2) K3,fun k hk=>?_⟩⟩
        · obtain ⟨q,hq,rfl⟩:=hidx d hd
          exact (hp q (by omega) hq).2.2.1
        · rw [←rplaced_same hg hS hd h4]
          obtain ⟨q,hq,rfl⟩:=hidx d hd
          exact (hp q (by omega) hq).2.2.2 h4
        · show taplineref08_Check.f k t=_
          unfold taplineref08_Check.f
          rw [if_neg hcond,show taplineref08_Check.l0 k t k 0=_ from hK k (by omega)]
          simp only [if_true,Option.bind_some]
          rw [show taplineref08_sizes.f k t=_ from hK3 k (by omega)]
          simp only [Option.bind_some]
          rw [show taplineref08_Check.l2 k t known k 0=_ from hK2 k (by omega)]
          rfl
      · refine .inr ⟨fun l W=>?_,⟨max (max K K2) K3,fun k hk=>?_⟩⟩
        · have hkl:=rsizes_good hS I F W.sz
          subst hkl
          refine hp fun q _ hq=>?_
          obtain ⟨rk,h⟩:=W.sz.ex
          have hm:=getD_mem (z:=z_api_Def) hq
          refine ⟨by have:=(h q hq).1;omega,(h q hq).2.1,W.ends _ hm,fun h4=>?_⟩
          rw [rplaced_same W.sz hS hm h4]
          exact W.placed _ hm h4
        · show taplineref08_Check.f k t=_
          unfold taplineref08_Check.f
          rw [if_neg hcond,show taplineref08_Check.l0 k t k 0=_ from hK k (by omega)]
          simp only [if_true,Option.bind_some]
          rw [show taplineref08_sizes.f k t=_ from hK3 k (by omega)]
          simp only [Option.bind_some]
          rw [show taplineref08_Check.l2 k t known k 0=_ from hK2 k (by omega)]
          rfl
def digOk (k n:Nat):Bool:=match taplineref08_Digits.f (k+4) (n:Int),strconv_Itoa.f (n:Int) with|some a,some b=>strEq a b&&decide (a.size≤3)|_,_=>false
theorem dig_all (k:Nat):(List.range 513).all (digOk k)=true:=by kernel_rfl
theorem dig_ev {n : Int} (h1 : 1 ≤ n) (h2 : n ≤ 512) : ∃ s, strconv_Itoa.f n = some s ∧ Ev (fun k => taplineref08_Digits.f k n) s ∧ s.size ≤ 3 := by
  obtain ⟨m,rfl⟩:∃m:Nat,n=(m:Int):=⟨n.toNat,by omega⟩
  have hat:∀k,digOk k m=true:=fun k=>List.all_eq_true.1 (dig_all k) m (List.mem_range.2 (by omega))
  have h0:=hat 0
  unfold digOk at h0
  cases hi:strconv_Itoa.f (m:Int) with
  | none =>
    rw [hi] at h0
    cases hd:taplineref08_Digits.f (0+4) (m:Int)<;>rw [hd] at h0<;>cases h0
  | some b =>
    refine ⟨b,rfl,⟨4,fun k hk=>?_⟩,?_⟩
    · obtain ⟨k,rfl⟩:∃q,k=q+4:=⟨k-4,by omega⟩
      have hk:=hat k
      unfold digOk at hk
      rw [hi] at hk
      show taplineref08_Digits.f (k+4) (m:Int)=_
      cases hd:taplineref08_Digits.f (k+4) (m:Int) with
      |none=>rw [hd] at hk;cases hk
      | some a =>
        rw [hd] at hk
        simp only [Bool.and_eq_true] at hk
        rw [strEq_iff.1 hk.1]
    · rw [hi] at h0
      cases hd:taplineref08_Digits.f (0+4) (m:Int) with
      |none=>rw [hd] at h0;cases h0
      | some a =>
        rw [hd] at h0
        simp only [Bool.and_eq_true,decide_eq_true_eq] at h0
        rw [←strEq_iff.1 h0.1];exact h0.2
theorem text_both {t : api_Types} {l : List Int} (W : Wf t l) : ∀ (m i : Nat), m ≤ 1000 → i < t.vDefs.length → lostS t.vDefs m (t.vDefs.getD i z_api_Def) = false →
    ∃s,Ev (fun k=>ctf_text.f k t (i:Int)) s∧Ev (fun k=>taplineref08_Text.f k t (i:Int)) s∧s.size≤31+8*m:=by
  have base:∀(m i:Nat),i<t.vDefs.length→namedS (t.vDefs.getD i z_api_Def)=true→∃s,Ev (fun k=>ctf_text.f k t (i:Int)) s∧Ev (fun k=>taplineref08_Text.f k t (i:Int)) s∧s.size≤31+8*m:=by
    intro m i hi hn
    have hm:=getD_mem (z:=z_api_Def) hi
    have hsz:=name_len (name_of (shaped_mem _ _ W.defs _ hm) hn)
    have h2:¬((t.vDefs.getD i z_api_Def).vKind==2)=true:=by unfold namedS at hn;simp only [Bool.and_eq_true,bne_iff_ne,ne_eq] at hn;simpa using hn.1
    have h3:¬((t.vDefs.getD i z_api_Def).vKind==3)=true:=by unfold namedS at hn;simp only [Bool.and_eq_true,bne_iff_ne,ne_eq] at hn;simpa using hn.2
    refine ⟨(t.vDefs.getD i z_api_Def).vName,Ev.succ (Ev.pure fun k=>?_),Ev.succ (Ev.pure fun k=>?_),by omega⟩
    · rw [ctf_text.f,if_pos (by omega),rd_nat,if_neg h2,if_neg h3]
    · rw [taplineref08_Text.f,if_pos (by omega),rd_nat,if_neg h2,if_neg h3]
  intro m
  induction m with
  | zero =>
    intro i _ hi h
    simp only [lostS,Bool.not_eq_false'] at h
    exact base 0 i hi h
  | succ m ih =>
    intro i hm1 hi h
    simp only [lostS] at h
    by_cases hn:namedS (t.vDefs.getD i z_api_Def)=true
    · exact base (m+1) i hi hn
    · rw [if_neg hn] at h
      have hm:=getD_mem (z:=z_api_Def) hi
      have hk:=anon_kind hn
      have hr:=(W.sh _ hm).ref (by omega)
      obtain ⟨q,hq⟩:∃q:Nat,(t.vDefs.getD i z_api_Def).vRef=(q:Int):=⟨(t.vDefs.getD i z_api_Def).vRef.toNat,by omega⟩
      rw [hq,rd_nat] at h
      rw [hq] at hr
      obtain ⟨s,⟨K1,h1⟩,⟨K2,h2⟩,h3⟩:=ih q (by omega) (by omega) h
      have e2:ByteArray.size (⟨#[32,42]⟩:ByteArray)=2:=rfl
      have e3:ByteArray.size (⟨#[32,91]⟩:ByteArray)=2:=rfl
      have e1:ByteArray.size (⟨#[93]⟩:ByteArray)=1:=rfl
      by_cases hk2:(t.vDefs.getD i z_api_Def).vKind=2
      · refine ⟨s++(⟨#[32,42]⟩:ByteArray),⟨K1+1,fun k hk=>?_⟩,⟨K2+1,fun k hk=>?_⟩,by rw [size_app,e2];omega⟩
        · obtain ⟨k,rfl⟩:∃q,k=q+1:=⟨k-1,by omega⟩
          show ctf_text.f (k+1) t (i:Int)=_
          rw [ctf_text.f,if_pos (by omega),rd_nat,if_pos (beqT hk2),hq,show ctf_text.f k t (q:Int)=_ from h1 k (by omega)]
          simp only [Option.bind_some]
          rw [if_pos (by rw [e2];omega)]
        · obtain ⟨k,rfl⟩:∃q,k=q+1:=⟨k-1,by omega⟩
          show taplineref08_Text.f (k+1) t (i:Int)=_
          rw [taplineref08_Text.f,if_pos (by omega),rd_nat,if_pos (beqT hk2),hq,show taplineref08_Text.f k t (q:Int)=_ from h2 k (by omega)]
          simp only [Option.bind_some]
          rw [if_pos (by rw [e2];omega)]
      · have hk3:(t.vDefs.getD i z_api_Def).vKind=3:=by omega
        have hN:=(W.sh _ hm).num (.inl hk3)
        obtain ⟨dg,hd1,⟨K3,hd2⟩,hd3⟩:=dig_ev hN.1 hN.2
        refine ⟨((s++(⟨#[32,91]⟩:ByteArray))++dg)++(⟨#[93]⟩:ByteArray),⟨K1+1,fun k hk=>?_⟩,⟨max K2 K3+1,fun k hk=>?_⟩,by rw [size_app,size_app,size_app,e3,e1];omega⟩
        · obtain ⟨k,rfl⟩:∃q,k=q+1:=⟨k-1,by omega⟩
          show ctf_text.f (k+1) t (i:Int)=_
          rw [ctf_text.f,if_pos (by omega),rd_nat,if_neg (beqF hk2),if_pos (beqT hk3),hq,show ctf_text.f k t (q:Int)=_ from h1 k (by omega)]
          simp only [Option.bind_some]
          rw [if_pos (by rw [e3];omega),hd1]
          simp only [Option.bind_some]
          rw [if_pos (by rw [size_app,e3];omega),if_pos (by rw [size_app,size_app,e3,e1];omega)]
        · obtain ⟨k,rfl⟩:∃q,k=q+1:=⟨k-1,by omega⟩
          show taplineref08_Text.f (k+1) t (i:Int)=_
          rw [taplineref08_Text.f,if_pos (by omega),rd_nat,if_neg (beqF hk2),if_pos (beqT hk3),hq,show taplineref08_Text.f k t (q:Int)=_ from h2 k (by omega)]
          simp only [Option.bind_some]
          rw [if_pos (by rw [e3];omega),show taplineref08_Digits.f k _=_ from hd2 k (by omega)]
          simp only [Option.bind_some]
          rw [if_pos (by rw [size_app,e3];omega),if_pos (by rw [size_app,size_app,e3,e1];omega)]
section
variable {t:api_Types} {l:List Int}
theorem rgiven_good (hc:Ev (fun k=>taplineref08_Check.f k t) 0) (i:Int):Ev (fun k=>taplineref08_given.f k t i) (if 0≤i∧i<t.vDefs.length then 0 else 3):=by
 obtain ⟨K,hK⟩:=hc
 refine ⟨K,fun k hk=>?_⟩
 show taplineref08_given.f k t i=_
 unfold taplineref08_given.f taplineref08_Index.f
 rw [show taplineref08_Check.f k t=_ from hK k hk]
 by_cases h0:0≤i
 ·by_cases h1:i<(t.vDefs.length:Int)
  ·rw [if_pos ⟨h0,h1⟩];simp [h0,h1]
  ·rw [if_neg (fun h=>h1 h.2)];simp [h0,h1]
 ·rw [if_neg (fun h=>h0 h.1)];simp [h0]
theorem rgiven_bad (hc:Ev (fun k=>taplineref08_Check.f k t) 80) (i:Int):Ev (fun k=>taplineref08_given.f k t i) 80:=by
 obtain ⟨K,hK⟩:=hc
 refine ⟨K,fun k hk=>?_⟩
 show taplineref08_given.f k t i=_
 unfold taplineref08_given.f
 rw [show taplineref08_Check.f k t=_ from hK k hk]
 rfl
theorem given_both (hF : ∀ d ∈ t.vDefs, FitD d) (i : Int) : (∃ e, e ≠ 0 ∧ Ev (fun k => ctf_given.f k t i) e ∧ Ev (fun k => taplineref08_given.f k t i) e) ∨
    (∃(n:Nat) (l:List Int),i=(n:Int)∧n<t.vDefs.length∧Wf t l∧Ev (fun k=>ctf_valid.f k t) true∧Ev (fun k=>taplineref08_sizes.f k t) l∧Ev (fun k=>ctf_given.f k t i) 0∧Ev (fun k=>taplineref08_given.f k t i) 0):=by
  rcases valid_iff hF with ⟨l,W,hv⟩|⟨hno,hv⟩
  · rcases rcheck_iff hF with ⟨l2,W2,hs,hc⟩|⟨hno,hc⟩
    · have h1:=given_good hv i
      have h2:=rgiven_good hc i
      by_cases h:0≤i∧i<t.vDefs.length
      · rw [if_pos h] at h1 h2
        exact .inr ⟨i.toNat,l2,by omega,by omega,W2,hv,hs,h1,h2⟩
      · rw [if_neg h] at h1 h2
        exact .inl ⟨3,by decide,h1,h2⟩
    · exact absurd W (hno l)
  · rcases rcheck_iff hF with ⟨l2,W2,hs,hc⟩|⟨hno,hc⟩
    · exact absurd W2 (hno l2)
    · exact .inl ⟨80,by decide,given_bad hv i,rgiven_bad hc i⟩
theorem rfind_loop {name:ByteArray} (hl:t.vDefs.length≤9223372036854775807):∀(d j m:Nat),j+d=t.vDefs.length→d<m→
    taplineref08_Find.l0 t name m (j:Int)=some (if ((t.vDefs.drop j).any (nameQ name))=true then .inl (((j+(t.vDefs.drop j).findIdx (nameQ name):Nat)):Int) else .inr ()):=by
  intro d
  induction d with
  | zero =>
    intro j m hj hm
    obtain ⟨m,rfl⟩:∃q,m=q+1:=⟨m-1,by omega⟩
    rw [taplineref08_Find.l0,if_neg (by simp;omega),List.drop_eq_nil_of_le (by omega)]
    rfl
  | succ d ih =>
    intro j m hj hm
    obtain ⟨m,rfl⟩:∃q,m=q+1:=⟨m-1,by omega⟩
    have hlt:j<t.vDefs.length:=by omega
    rw [taplineref08_Find.l0,if_pos (by simp;omega),if_pos (by omega),rd_nat,drop_getD z_api_Def hlt]
    simp only [taplineref08_Named.f,Option.bind_some]
    rw [if_pos (fun _=>by omega)]
    show (if nameQ name (t.vDefs.getD j z_api_Def)=true then _ else _)=_
    cases hb:nameQ name (t.vDefs.getD j z_api_Def) with
    | true =>
      rw [if_pos rfl]
      simp only [List.any_cons,hb,Bool.true_or,if_true,List.findIdx_cons,cond_true,Nat.add_zero]
    | false =>
      rw [if_neg (by simp),wrap_nat hlt hl,ih (j+1) m (by omega) (by omega)]
      simp only [List.any_cons,hb,Bool.false_or,List.findIdx_cons,cond_false]
      split
      · congr 2;omega
      · rfl
theorem rfind_ev (hn:t.vDefs.length≤200) (name:ByteArray):Ev (fun k=>taplineref08_Find.f k t name) (findV t name):=by
 refine ⟨t.vDefs.length+1,fun k hk=>?_⟩
 show taplineref08_Find.f k t name=_
 unfold taplineref08_Find.f findV
 have:=rfind_loop (t:=t) (name:=name) (by omega) t.vDefs.length 0 k (by omega) (by omega)
 rw [show taplineref08_Find.l0 t name k 0=_ from this,List.drop_zero]
 cases t.vDefs.any (nameQ name)<;>simp
end
end Go.Proofs.YtfjppgobidjndaaDoor
/-taplineref08.Reach:a list that is cut at its front and appended to. -/
namespace Go.Proofs.YtfjppgobidjndaaDoor
open Go.RowKit Go.M
/-- a row of numbers of one's own, that may begin within its block -/
def RowA (h:View) (xs:List Int) (A:Option Addr) (ob:Option Nat) (c:Nat) (cs:List Value):Prop:=∃pre body,cs=pre++body∧OffA A ob pre.length c∧RowOk (Kd.int .i64) h xs ob xs.length c body
theorem RowA.cap {h:View} {xs:List Int} {A:Option Addr} {ob:Option Nat} {c:Nat} {cs:List Value} (ho:RowA h xs A ob c cs):xs.length≤c:=by
 obtain ⟨pre,body,_,_,h⟩:=ho;exact h.le
theorem RowA.view {h h':View} {xs:List Int} {A:Option Addr} {ob:Option Nat} {c:Nat} {cs:List Value} (ho:RowA h xs A ob c cs) (hs:Sub h h'):RowA h' xs A ob c cs:=by
 obtain ⟨pre,body,h1,h2,h3⟩:=ho;exact ⟨pre,body,h1,h2,h3.view hs⟩
theorem RowA.of {h:View} {xs:List Int} {ob:Option Nat} {n c:Nat} {cs:List Value} (ho:RowOk (Kd.int .i64) h xs ob n c cs):RowA h xs (rowA ob) ob c cs:=by
 refine ⟨[],cs,rfl,?_,ho.norm⟩
 cases ob with
 |none=>exact .inl (ho.nil rfl)
 |some b=>exact .inr ⟨b,rfl,rfl⟩
theorem RowA.at0 {h:View} {xs:List Int} {A:Option Addr} {ob:Option Nat} {c:Nat} {cs:List Value} (ho:RowA h xs A ob c cs) (h1:0<xs.length):∃b o,A=some ⟨b,o,none⟩∧ob=some b∧cs[o]?=some (.int .i64 (rd 0 xs 0)):=by
 obtain ⟨pre,body,rfl,h2|⟨b,rfl,rfl⟩,h3⟩:=ho
 ·have:=h3.le;omega
 ·refine ⟨b,pre.length,rfl,rfl,?_⟩
  obtain ⟨_,_,_,rfl,hp⟩:=h3.at 0 (i:=0) (by omega) (by omega)
  have:=hp 0 _ rfl
  rw [List.getElem?_append_right (by omega),Nat.sub_self]
  exact this
theorem RowA.cut {h:View} {xs:List Int} {A:Option Addr} {ob:Option Nat} {c:Nat} {cs:List Value} (ho:RowA h xs A ob c cs) (h1:0<xs.length):RowA h (xs.drop 1) (partA A c 1 1) ob (c-1) cs:=by
 obtain ⟨pre,body,rfl,h2,h3⟩:=ho
 have hle:=h3.le
 have hsz:body.length=c:=h3.size.trans (Nat.mul_one c)
 obtain ⟨v,body,rfl⟩:∃v b,body=v::b:=by
  cases body with
  |nil=>simp at hsz;omega
  |cons v b=>exact ⟨v,b,rfl⟩
 refine ⟨pre++[v],body,by simp,?_,?_⟩
 ·by_cases hc:c=1
  ·exact .inl (by omega)
  ·rcases h2 with h2|⟨b,rfl,rfl⟩
   ·omega
   ·refine .inr ⟨b,rfl,?_⟩
    unfold partA
    rw [if_neg hc]
    simp [Addr.add]
 ·refine ⟨rfl,by rw [List.length_drop];omega,?_,fun hn=>?_,by have:=h3.small;rw [List.length_drop];omega,fun i x hx=>?_⟩
  ·simp only [List.length_cons] at hsz
   show body.length=(c-1)*1
   omega
  ·have:=h3.nil hn;omega
  ·rw [List.getElem?_drop] at hx
   obtain ⟨ps,hK,hp⟩:=h3.elem (1+i) x hx
   refine ⟨ps,hK,fun j u hj=>?_⟩
   have:=hp j u hj
   have e:(1+i)*(Kd.int .i64).sz+j=(i*(Kd.int .i64).sz+j)+1:=by
    show (1+i)*1+j=(i*1+j)+1
    omega
   rw [e,List.getElem?_cons_succ] at this
   exact this
section
variable {P:Program} {ops:Array Oper} {Q:Exit→Act→World→Prop} {l:List Value} {df:List Deferred} {w:World} {os:List Oper} {M:List Nat} {h0 h:View} {w0:World} {bs:List Res} {dst:Tmp} {ty:TypeId} {pos:String} {after:Array Edge}
theorem run_appA {t tx e:TypeId} {x y:Operand} {A:Option Addr} {ob:Option Nat} {c m q:Nat} {xs ys:List Int} {cs news:List Value} {yv zv:Value} {i:TypeInfo}
  (hx:ev l x= .slice A xs.length c) (hy:ev l y=yv) (hu:∀w,(underlying t).run P w= .ok (.slice e) w) (hi:∀w,(typeInfo e).run P w= .ok i w) (hz:∀w,(zeroValue e).run P w= .ok zv w)
  (hsz:i.size=1) (hby:i.bytes≤4096) (hzl:zv.cells.size=1) (hs:Src P 1 tx yv m news w) (hm:ys.length=m)
  (hyK:∀(i:Nat) z,ys[i]?=some z→∃qs,(Kd.int .i64).K h z qs∧∀j v,qs[j]?=some v→news[i*1+j]?=some v) (hm1:0<m) (hlim:xs.length+m≤4294967296) (HS:St M h0 w0 h bs w)
  (hq:bs[q]?=some (ob, .cells cs.toArray e (0,0))) (ho:RowA h xs A ob c cs)
  (kk:∀w' A' ob' c' cs',St M h0 w0 h (bs.set q (ob', .cells cs'.toArray e (0,0))) w'→RowA h (xs++ys) A' ob' c' cs'→run P ops Q df os (l.set dst (.slice A' (xs++ys).length c')) w'):
  run P ops Q df (⟨some dst, .call {callee:= .builtin .append,args:=#[x,y],argTypes:=#[t,tx]},ty,pos,after,none⟩::os) l w:=by
 obtain ⟨pre,body,rfl,h2,h3⟩:=ho
 refine run_appo (Kd.int .i64) hx h2 hy hu hi hz hsz hby hzl hs hm hyK hm1 hlim HS hq h3 ?_
 intro w' A' ob' pre' c' cs' hA' HS' ho'
 have:=kk w' A' ob' c' (pre'++cs') HS' ⟨pre',cs',rfl,hA',ho'.norm⟩
 rw [List.length_append,hm] at this
 exact this
theorem r_index0 {ρ:Operand→Value} {dst:Option Tmp} {guard:Option (Nat×Bool)} {t e:TypeId} {x i:Operand} {A:Option Addr} {b o n c sz:Nat} {k:IntKind} (hx:ρ x= .slice A n c) (hA:A=some ⟨b,o,none⟩) (hi:ρ i= .int k 0) (h1:0<n)
  (hu:∀w,(underlying t).run P w= .ok (.slice e) w) (hs:∀w,(sizeOf e).run P w= .ok sz w):
  (execOp ρ ⟨dst, .indexAddr t x i,ty,pos,after,guard⟩).run P w= .ok (.value (.pointer (some ⟨b,o,none⟩))) w:=by
 subst hA
 have:=r_index (P:=P) (w:=w) (dst:=dst) (ty:=ty) (pos:=pos) (after:=after) (guard:=guard) (a:=⟨b,o,none⟩) hx hi (Int.le_refl 0) (by omega) hu hs
 simpa [Addr.add] using this
end
set_option maxRecDepth 20000
set_option maxHeartbeats 4000000
def taplineref08_Reach.l1 (a0:api_Types) (y1_0:List Int):Nat→Int→(List Int)→Option ((List Int))
 |0,_,_=>none
 |m+1,y2_0,y2_1=>if ((decide (y2_0<(((rd z_api_Def a0.vDefs (rd 0 y1_0 0)).vFields).length:Int)))&&((rd z_api_Def a0.vDefs (rd 0 y1_0 0)).vKind==4))=true then (if 0≤y2_0∧y2_0<((rd z_api_Def a0.vDefs (rd 0 y1_0 0)).vFields).length then (if y2_1.length+1≤4294967296 then (taplineref08_Reach.l1 a0 y1_0 m (IntKind.wrap .i64 (y2_0+1)) (y2_1++([(rd z_api_Field ((rd z_api_Def a0.vDefs (rd 0 y1_0 0)).vFields) y2_0).vType]:List Int))) else none) else none) else (some y2_1)
def taplineref08_Reach.l0 (k:Nat) (a0:api_Types):Nat→(List Int)→(List Bool)→Option ((List Int)×(List Bool))
 |0,_,_=>none
 |m+1,y1_0,y1_1=>if (decide (((y1_0.length:Nat):Int)>0))=true then (if 0≤0∧0<((y1_0.length:Nat):Int) then (if 0≤(rd 0 y1_0 0)∧(rd 0 y1_0 0)<(((a0.vDefs.length:Int).toNat:Nat):Int) then (if (rd false y1_1 (rd 0 y1_0 0))=true then (taplineref08_Reach.l0 k a0 m (y1_0.drop 1) y1_1) else (if 0≤(rd 0 y1_0 0)∧(rd 0 y1_0 0)<(((a0.vDefs.length:Int).toNat:Nat):Int) then (if 0≤(rd 0 y1_0 0)∧(rd 0 y1_0 0)<a0.vDefs.length then (((if ((((rd z_api_Def a0.vDefs (rd 0 y1_0 0)).vKind==2)||((rd z_api_Def a0.vDefs (rd 0 y1_0 0)).vKind==3))||((rd z_api_Def a0.vDefs (rd 0 y1_0 0)).vKind==6))=true then (if (y1_0.drop 1).length+1≤4294967296 then (some ((y1_0.drop 1)++([(rd z_api_Def a0.vDefs (rd 0 y1_0 0)).vRef]:List Int))) else none) else (some (y1_0.drop 1))):Option ((List Int))).bind fun xx2=>((taplineref08_Reach.l1 a0 y1_0 k 0 xx2).bind fun xx3=>(taplineref08_Reach.l0 k a0 m xx3 (List.set y1_1 (rd 0 y1_0 0).toNat true)))) else none) else none)) else none) else none) else (some (y1_0,y1_1))
def taplineref08_Reach.f (k:Nat) (a0:api_Types) (a1:List Int):Option ((List Bool)):=if 0≤(a0.vDefs.length:Int)∧(a0.vDefs.length:Int)≤4294967296 then (if 0+a1.length≤4294967296 then ((taplineref08_Reach.l0 k a0 k (([]:List Int)++a1) (List.replicate (a0.vDefs.length:Int).toNat (false:Bool))).bind fun xx1=>(some xx1.2)) else none) else none
theorem taplineref08_Reach.calls (k:Nat) (a0:api_Types) (a1:List Int) (A0_0:Option Addr) (c0_0:Nat) (A1_0:Option Addr) (c1_0:Nat) {h0:View} {w0:World} (hv:Sees h0 w0) (hr0_0:Rd k_api_Def h0 A0_0 a0.vDefs) (hc0_0:a0.vDefs.length≤c0_0) (hr1_0:Rd (Kd.int .i64) h0 A1_0 a1) (hc1_0:a1.length≤c1_0) {r:(List Bool)} (H:taplineref08_Reach.f k a0 a1=some r):Calls Tryd.prog 63 #[Value.agg #[vL A0_0 a0.vDefs.length c0_0],vL A1_0 a1.length c1_0] w0 (fun e w1=>∃(h1:View) (A0_0:Option Addr) (c0_0:Nat),e= .returned (vL A0_0 r.length c0_0)∧r.length≤c0_0∧Rd Kd.bool h1 A0_0 r∧Gr w0.heap.size h0 h1∧Sees h1 w1∧Ext w0 w1):=by
 unfold taplineref08_Reach.f at H
 have HS:St [] h0 w0 h0 [] w0:=St.init hv
 go_enter Tryd.func63,Tryd.ntmps63
 refine wp_seq<|region<|run_ex rfl rfl (does_box (cs:=#[vL A0_0 a0.vDefs.length c0_0]) rfl rfl) ?_
 rintro w1 _ hE1 ⟨b1,rfl,ge1,hb1⟩
 have HS1:=HS.new hE1 ge1 hb1
 refine rs (vL none 0 0) (r_assign rfl) ?_
 try simp only [sc0,sc1]
 refine run_nil<|norm_then<|wp_seq<|region<|rs (vP b1 0) (r_fieldBox (n:=1) (o':=0) rfl Tryd.runUnderlying24 rfl Tryd.sizeOf22 (by decide) rfl)<|rs (vL A0_0 a0.vDefs.length c0_0) (r_loadBox rfl Tryd.isAgg22 (HS1.look 0 rfl) rfl)<|rs (vI (a0.vDefs.length:Int)) (r_len rfl Tryd.runUnderlying22) ?_
 obtain ⟨hk1,H⟩:=of_ite H
 refine run_mk Kd.bool false (zs:=[vB false]) rfl rfl hk1 Tryd.runUnderlying112 Tryd.typeInfo4 (by decide) rfl Tryd.zeroValue4 rfl rfl HS1 ?_
 intro w2 b2 cs1 HS2 ho1
 refine run_frame (by simp only [sc0,sc1];rfl) ?_
 refine rs (vL (rowA (some b2)) ((a0.vDefs.length:Int).toNat) ((a0.vDefs.length:Int).toNat)) (r_assign rfl) ?_
 try simp only [sc0,sc1]
 refine run_nil<|norm_then<|wp_seq<|region<|run_bs0 (Kd.int .i64) Tryd.runUnderlying62 Tryd.typeInfo3 HS2 ?_
 intro w3 b3 HS3 ho2
 refine rs (vL A1_0 a1.length c1_0) (r_move rfl) ?_
 obtain ⟨nw1,sr1,hn1⟩:=src_rd (c:=c1_0) one_int Tryd.runUnderlying62 HS3.sees hr1_0
 obtain ⟨hl1,H⟩:=of_ite H
 refine run_app (Kd.int .i64) (q:=0) (cs:=([]:List Value)) rfl rfl Tryd.runUnderlying62 Tryd.typeInfo3 Tryd.zeroValue3 rfl (by decide) rfl sr1 rfl hn1 hl1 HS3 rfl ho2 ?_
 intro w4 ob1 c1 cs2 HS4 ho3
 refine rs (vL (rowA ob1) (0+a1.length) c1) (r_assign rfl) ?_
 try simp only [sc0,sc1]
 refine run_nil<|norm_then<|wp_seq ?_
 obtain ⟨xx1,H,G1⟩:=of_bind H
 refine loop_j [6,7,8,9,17,18,19,20,21,22,23,24,25,26,27,28,29,30,31,32,33,34,35,36,37,38,39,40,41,42,43,44,45,46,47,48,49,50,51,52,53,54,55,56,57,58,59,60,61,62,63,64,65,66,67,68,69,70,71,72,73,74,75] (fun m us w'=>∃y1_0:List Int,∃y1_1:List Bool,∃(Ay1_0:Option Addr) (oby1_0:Option Nat) (cy1_0:Nat),∃csy1_0 csy1_1:List Value,Fit us (fun uy1=>[vL Ay1_0 y1_0.length cy1_0,(uy1 1),(uy1 2),(uy1 3),(uy1 4),(uy1 5),(uy1 6),(uy1 7),(uy1 8),(uy1 9),(uy1 10),(uy1 11),(uy1 12),(uy1 13),(uy1 14),(uy1 15),(uy1 16),(uy1 17),(uy1 18),(uy1 19),(uy1 20),(uy1 21),(uy1 22),(uy1 23),(uy1 24),(uy1 25),(uy1 26),(uy1 27),(uy1 28),(uy1 29),(uy1 30),(uy1 31),(uy1 32),(uy1 33),(uy1 34),(uy1 35),(uy1 36),(uy1 37),(uy1 38),(uy1 39),(uy1 40),(uy1 41),(uy1 42),(uy1 43),(uy1 44),(uy1 45),(uy1 46),(uy1 47),(uy1 48),(uy1 49),(uy1 50),(uy1 51),(uy1 52),(uy1 53),(uy1 54),(uy1 55),(uy1 56),(uy1 57),(uy1 58),(uy1 59),(uy1 60),(uy1 61),(uy1 62)])∧taplineref08_Reach.l0 k a0 m y1_0 y1_1=some xx1∧RowA h0 y1_0 Ay1_0 oby1_0 cy1_0 csy1_0∧RowOk Kd.bool h0 y1_1 (some b2) ((a0.vDefs.length:Int).toNat) ((a0.vDefs.length:Int).toNat) csy1_1∧St [] h0 w0 h0 [(oby1_0, .cells (csy1_0).toArray 3 (0,0)),((some b2), .cells (csy1_1).toArray 4 (0,0)),(some b1, .cells #[vL A0_0 a0.vDefs.length c0_0] 24 (0,0))] w') (fun us w'=>∃(Ao2_0:Option Addr) (obo2_0:Option Nat) (co2_0:Nat),∃cso2_0 cso2_1:List Value,Fit us (fun uo2=>[(uo2 0),(uo2 1),(uo2 2),(uo2 3),(uo2 4),(uo2 5),(uo2 6),(uo2 7),(uo2 8),(uo2 9),(uo2 10),(uo2 11),(uo2 12),(uo2 13),(uo2 14),(uo2 15),(uo2 16),(uo2 17),(uo2 18),(uo2 19),(uo2 20),(uo2 21),(uo2 22),(uo2 23),(uo2 24),(uo2 25),(uo2 26),(uo2 27),(uo2 28),(uo2 29),(uo2 30),(uo2 31),(uo2 32),(uo2 33),(uo2 34),(uo2 35),(uo2 36),(uo2 37),(uo2 38),(uo2 39),(uo2 40),(uo2 41),(uo2 42),(uo2 43),(uo2 44),(uo2 45),(uo2 46),(uo2 47),(uo2 48),(uo2 49),(uo2 50),(uo2 51),(uo2 52),(uo2 53),(uo2 54),(uo2 55),(uo2 56),(uo2 57),(uo2 58),(uo2 59),(uo2 60),(uo2 61),(uo2 62)])∧RowA h0 xx1.1 Ao2_0 obo2_0 co2_0 cso2_0∧RowOk Kd.bool h0 xx1.2 (some b2) ((a0.vDefs.length:Int).toNat) ((a0.vDefs.length:Int).toNat) cso2_1∧St [] h0 w0 h0 [(obo2_0, .cells (cso2_0).toArray 3 (0,0)),((some b2), .cells (cso2_1).toArray 4 (0,0)),(some b1, .cells #[vL A0_0 a0.vDefs.length c0_0] 24 (0,0))] w') k ⟨(([]:List Int)++a1),(List.replicate (a0.vDefs.length:Int).toNat (false:Bool)),(rowA ob1),ob1,c1,cs2,cs1,(fit (by first|rfl|(rw [ho3.len];done)|(rw [ho3.len];rfl))),H,RowA.of ho3,ho1,HS4⟩ ?_ ?_
 ·rintro m us w5 ⟨y1_0,y1_1,Ay1_0,oby1_0,cy1_0,csy1_0,csy1_1,huy1,H,hoy1_0,hoy1_1,HS5⟩
  obtain ⟨uy1,rfl⟩:=unj huy1
  cases m with
  |zero=>exact absurd H (by simp [taplineref08_Reach.l0])
  |succ m=>
   rw [taplineref08_Reach.l0] at H
   try simp only [patch,sc0,sc1]
   refine wp_seq<|wp_seq<|region<|rs (vL Ay1_0 y1_0.length cy1_0) (r_move rfl)<|rs (vI ((y1_0.length:Nat):Int)) (r_len rfl Tryd.runUnderlying62)<|rs (vB (decide (((y1_0.length:Nat):Int)>0))) (r_bin rfl rfl rfl) ?_
   try simp only [sc0,sc1]
   refine run_nil<|norm_then<|wp_cond_split (t:=(decide (((y1_0.length:Nat):Int)>0))) rfl (fun c2=>?_) (fun c2=>?_)
   ·replace H:=of_pos H c2
    refine wp_skip<|norm_then<|wp_block<|wp_seq<|region<|rs (vL Ay1_0 y1_0.length cy1_0) (r_move rfl) ?_
    obtain ⟨hi1,H⟩:=of_ite H
    have hpos:0<y1_0.length:=by omega
    obtain ⟨rb1,ro1,hA1,hrb1,hp1⟩:=hoy1_0.at0 hpos
    refine rs (vP rb1 ro1) (r_index0 rfl hA1 rfl hpos Tryd.runUnderlying62 Tryd.sizeOf3)<|rs (vI (rd 0 y1_0 0)) (r_loadBox (cs:=csy1_0) rfl Tryd.isAgg3 (HS5.lookr 0 rfl hrb1) hp1)<|rs (vI (rd 0 y1_0 0)) (r_assign rfl) ?_
    try simp only [sc0,sc1]
    refine run_nil<|norm_then<|wp_seq<|region<|rs (vL Ay1_0 y1_0.length cy1_0) (r_move rfl)<|rs (vL (partA Ay1_0 cy1_0 1 1) (y1_0.drop 1).length (cy1_0-1)) (r_partLo (sz:=1) (lo:=1) (xs:=y1_0) rfl hoy1_0.cap Tryd.runUnderlying62 Tryd.sizeOf3 rfl (by omega)) ?_
    have hcut:=hoy1_0.cut hpos
    refine rs (vL (partA Ay1_0 cy1_0 1 1) (y1_0.drop 1).length (cy1_0-1)) (r_assign rfl) ?_
    try simp only [sc0,sc1]
    refine run_nil<|norm_then<|wp_seq<|wp_seq<|region<|rs (vL (rowA (some b2)) ((a0.vDefs.length:Int).toNat) ((a0.vDefs.length:Int).toNat)) (r_move rfl)<|rs (vI (rd 0 y1_0 0)) (r_move rfl) ?_
    obtain ⟨hi2,H⟩:=of_ite H
    obtain ⟨rb2,_,hrb2,rfl,hp2⟩:=hoy1_1.at false hi2.1 hi2.2
    refine rs (Value.pointer (some ⟨rb2,(rd 0 y1_0 0).toNat*1+0,none⟩)) (r_indexRow (sz:=1) rfl hrb2 rfl hi2.1 hi2.2 Tryd.runUnderlying112 Tryd.sizeOf4)<|rs (vB (rd false y1_1 (rd 0 y1_0 0))) (r_loadBox (cs:=csy1_1) rfl Tryd.isAgg4 (HS5.lookr 1 rfl hrb2) (hp2 0 _ rfl)) ?_
    try simp only [sc0,sc1]
    refine run_nil<|norm_then<|wp_cond_split (t:=(rd false y1_1 (rd 0 y1_0 0))) rfl (fun c3=>?_) (fun c3=>?_)
    ·replace H:=of_pos H c3
     refine wp_exit<|exit_then<|exit_block<|again_j m (Nat.lt_succ_self m) rfl ⟨(y1_0.drop 1),y1_1,(partA Ay1_0 cy1_0 1 1),oby1_0,(cy1_0-1),csy1_0,csy1_1,(fit rfl),H,hcut,hoy1_1,HS5⟩
    ·replace H:=of_neg H (nt c3)
     refine wp_skip<|norm_then<|wp_seq<|region<|rs (vL (rowA (some b2)) ((a0.vDefs.length:Int).toNat) ((a0.vDefs.length:Int).toNat)) (r_move rfl)<|rs (vI (rd 0 y1_0 0)) (r_move rfl) ?_
     obtain ⟨hi3,H⟩:=of_ite H
     obtain ⟨rb3,_,hrb3,rfl,hp3⟩:=hoy1_1.at false hi3.1 hi3.2
     refine rs (Value.pointer (some ⟨rb3,(rd 0 y1_0 0).toNat*1+0,none⟩)) (r_indexRow (sz:=1) rfl hrb3 rfl hi3.1 hi3.2 Tryd.runUnderlying112 Tryd.sizeOf4)<|run_str (i:=1) (cs:=csy1_1) (v:=vB true) hrb3 rfl rfl Tryd.sizeOf4 rfl rfl HS5 rfl (hoy1_1.inb hi3.1 hi3.2 (m:=1) (by decide)) ?_
     intro w6 HS6
     have ho4:=hoy1_1.set (o:=0) (v:=vB true) (x':=true) hi3.1 hi3.2 hp3 rfl (Nat.le_of_ble_eq_true rfl)
     try simp only [sc0,sc1]
     refine run_nil<|norm_then<|wp_seq<|region<|rs (vP b1 0) (r_fieldBox (n:=1) (o':=0) rfl Tryd.runUnderlying24 rfl Tryd.sizeOf22 (by decide) rfl)<|rs (vL A0_0 a0.vDefs.length c0_0) (r_loadBox rfl Tryd.isAgg22 (HS6.look 2 rfl) rfl)<|rs (vI (rd 0 y1_0 0)) (r_move rfl) ?_
     obtain ⟨hi4,H⟩:=of_ite H
     obtain ⟨ad1,Aad1_6,cad1_6,e1,hel1,hcad1_6,hrad1_6⟩:=ld_api_Def hr0_0 hi4.1 hi4.2
     refine rs (Value.pointer (some (Addr.add ad1 ((rd 0 y1_0 0).toNat*7)))) (r_indexA (sz:=7) rfl e1 rfl hi4.1 hi4.2 Tryd.runUnderlying22 Tryd.sizeOf34)<|run_frame (by simp only [sc0,sc1];rfl) ?_
     refine rs (Value.agg #[vI ((rd z_api_Def a0.vDefs (rd 0 y1_0 0)).vKind),vS ((rd z_api_Def a0.vDefs (rd 0 y1_0 0)).vName),vI ((rd z_api_Def a0.vDefs (rd 0 y1_0 0)).vInt.vSize),vB ((rd z_api_Def a0.vDefs (rd 0 y1_0 0)).vInt.vSigned),vI ((rd z_api_Def a0.vDefs (rd 0 y1_0 0)).vRef),vI ((rd z_api_Def a0.vDefs (rd 0 y1_0 0)).vN),vL Aad1_6 ((rd z_api_Def a0.vDefs (rd 0 y1_0 0)).vFields).length cad1_6]) (r_loadAgg rfl Tryd.isAgg34 (hel1.sees HS6.sees) Tryd.sizeOf34)<|run_ex rfl rfl (does_alloc (cs:=#[vI 0,vS ByteArray.empty,vI 0,vB false,vI 0,vI 0,vL none 0 0]) Tryd.zeroValue34 rfl) ?_
     rintro w7 _ hE2 ⟨b4,rfl,ge2,hb2⟩
     have HS7:=HS6.new hE2 ge2 hb2
     refine run_st (i:=0) (cs:=[vI 0,vS ByteArray.empty,vI 0,vB false,vI 0,vI 0,vL none 0 0]) (cs':=[vI ((rd z_api_Def a0.vDefs (rd 0 y1_0 0)).vKind),vS ((rd z_api_Def a0.vDefs (rd 0 y1_0 0)).vName),vI ((rd z_api_Def a0.vDefs (rd 0 y1_0 0)).vInt.vSize),vB ((rd z_api_Def a0.vDefs (rd 0 y1_0 0)).vInt.vSigned),vI ((rd z_api_Def a0.vDefs (rd 0 y1_0 0)).vRef),vI ((rd z_api_Def a0.vDefs (rd 0 y1_0 0)).vN),vL Aad1_6 ((rd z_api_Def a0.vDefs (rd 0 y1_0 0)).vFields).length cad1_6]) (vs:=[vI ((rd z_api_Def a0.vDefs (rd 0 y1_0 0)).vKind),vS ((rd z_api_Def a0.vDefs (rd 0 y1_0 0)).vName),vI ((rd z_api_Def a0.vDefs (rd 0 y1_0 0)).vInt.vSize),vB ((rd z_api_Def a0.vDefs (rd 0 y1_0 0)).vInt.vSigned),vI ((rd z_api_Def a0.vDefs (rd 0 y1_0 0)).vRef),vI ((rd z_api_Def a0.vDefs (rd 0 y1_0 0)).vN),vL Aad1_6 ((rd z_api_Def a0.vDefs (rd 0 y1_0 0)).vFields).length cad1_6]) (bs':=[(some b4, .cells #[vI ((rd z_api_Def a0.vDefs (rd 0 y1_0 0)).vKind),vS ((rd z_api_Def a0.vDefs (rd 0 y1_0 0)).vName),vI ((rd z_api_Def a0.vDefs (rd 0 y1_0 0)).vInt.vSize),vB ((rd z_api_Def a0.vDefs (rd 0 y1_0 0)).vInt.vSigned),vI ((rd z_api_Def a0.vDefs (rd 0 y1_0 0)).vRef),vI ((rd z_api_Def a0.vDefs (rd 0 y1_0 0)).vN),vL Aad1_6 ((rd z_api_Def a0.vDefs (rd 0 y1_0 0)).vFields).length cad1_6] 34 (0,0)),(oby1_0, .cells (csy1_0).toArray 3 (0,0)),((some b2), .cells ((List.set csy1_1 ((rd 0 y1_0 0).toNat*1+0) (vB true))).toArray 4 (0,0)),(some b1, .cells #[vL A0_0 a0.vDefs.length c0_0] 24 (0,0))]) rfl rfl Tryd.sizeOf34 rfl rfl (by decide) rfl HS7 rfl (Nat.le_of_ble_eq_true rfl) rfl rfl ?_
     intro w8 HS8
     try simp only [sc0,sc1]
     refine run_nil<|norm_then<|wp_seq<|wp_seq<|region<|rs (vP b4 0) (r_fieldBox (n:=1) (o':=0) rfl Tryd.runUnderlying34 rfl Tryd.sizeOf3 (by decide) rfl)<|rs (vI ((rd z_api_Def a0.vDefs (rd 0 y1_0 0)).vKind)) (r_loadBox rfl Tryd.isAgg3 (HS8.look 0 rfl) rfl)<|rs (vB ((rd z_api_Def a0.vDefs (rd 0 y1_0 0)).vKind==2)) (r_bin rfl rfl rfl)<|rs (vB ((rd z_api_Def a0.vDefs (rd 0 y1_0 0)).vKind==2)) (r_move rfl)<|run_frame (by simp only [sc0,sc1];rfl) ?_
     refine rgs ((rd z_api_Def a0.vDefs (rd 0 y1_0 0)).vKind==2) true (vP b4 0) rfl rfl rfl rfl (fun hg=>(r_fieldBox (n:=1) (o':=0) rfl Tryd.runUnderlying34 rfl Tryd.sizeOf3 (by decide) rfl))<|rgs ((rd z_api_Def a0.vDefs (rd 0 y1_0 0)).vKind==2) true (vI ((rd z_api_Def a0.vDefs (rd 0 y1_0 0)).vKind)) rfl rfl rfl rfl (fun hg=>(r_loadBox (gvt (vP b4 0) hg rfl) Tryd.isAgg3 (HS8.look 0 rfl) rfl))<|rgs ((rd z_api_Def a0.vDefs (rd 0 y1_0 0)).vKind==2) true (vB ((rd z_api_Def a0.vDefs (rd 0 y1_0 0)).vKind==3)) rfl rfl rfl rfl (fun hg=>(r_bin (gvt (vI ((rd z_api_Def a0.vDefs (rd 0 y1_0 0)).vKind)) hg rfl) rfl rfl))<|rs (vB (((rd z_api_Def a0.vDefs (rd 0 y1_0 0)).vKind==2)||((rd z_api_Def a0.vDefs (rd 0 y1_0 0)).vKind==3))) (r_pick_or rfl rfl (fun hp=>(gvt (vB ((rd z_api_Def a0.vDefs (rd 0 y1_0 0)).vKind==3)) (and_i rfl hp) rfl)))<|run_frame (by simp only [sc0,sc1];rfl) ?_
     refine rs (vB (((rd z_api_Def a0.vDefs (rd 0 y1_0 0)).vKind==2)||((rd z_api_Def a0.vDefs (rd 0 y1_0 0)).vKind==3))) (r_move rfl)<|rgs (((rd z_api_Def a0.vDefs (rd 0 y1_0 0)).vKind==2)||((rd z_api_Def a0.vDefs (rd 0 y1_0 0)).vKind==3)) true (vP b4 0) rfl rfl rfl rfl (fun hg=>(r_fieldBox (n:=1) (o':=0) rfl Tryd.runUnderlying34 rfl Tryd.sizeOf3 (by decide) rfl))<|rgs (((rd z_api_Def a0.vDefs (rd 0 y1_0 0)).vKind==2)||((rd z_api_Def a0.vDefs (rd 0 y1_0 0)).vKind==3)) true (vI ((rd z_api_Def a0.vDefs (rd 0 y1_0 0)).vKind)) rfl rfl rfl rfl (fun hg=>(r_loadBox (gvt (vP b4 0) hg rfl) Tryd.isAgg3 (HS8.look 0 rfl) rfl))<|rgs (((rd z_api_Def a0.vDefs (rd 0 y1_0 0)).vKind==2)||((rd z_api_Def a0.vDefs (rd 0 y1_0 0)).vKind==3)) true (vB ((rd z_api_Def a0.vDefs (rd 0 y1_0 0)).vKind==6)) rfl rfl rfl rfl (fun hg=>(r_bin (gvt (vI ((rd z_api_Def a0.vDefs (rd 0 y1_0 0)).vKind)) hg rfl) rfl rfl))<|run_frame (by simp only [sc0,sc1];rfl) ?_
     refine rs (vB ((((rd z_api_Def a0.vDefs (rd 0 y1_0 0)).vKind==2)||((rd z_api_Def a0.vDefs (rd 0 y1_0 0)).vKind==3))||((rd z_api_Def a0.vDefs (rd 0 y1_0 0)).vKind==6))) (r_pick_or rfl rfl (fun hp=>(gvt (vB ((rd z_api_Def a0.vDefs (rd 0 y1_0 0)).vKind==6)) (and_i rfl hp) rfl))) ?_
     try simp only [sc0,sc1]
     refine run_nil<|norm_then ?_
     obtain ⟨xx2,H,G2⟩:=of_bind H
     refine cut_patch [6,50,51,52,53,54] (fun us w'=>∃(Aj1_0:Option Addr) (obj1_0:Option Nat) (cj1_0:Nat),∃(csj1_0:List Value),Fit us (fun uj1=>[vL Aj1_0 xx2.length cj1_0,(uj1 1),(uj1 2),(uj1 3),(uj1 4),(uj1 5)])∧RowA h0 xx2 Aj1_0 obj1_0 cj1_0 csj1_0∧St [] h0 w0 h0 [(some b4, .cells #[vI ((rd z_api_Def a0.vDefs (rd 0 y1_0 0)).vKind),vS ((rd z_api_Def a0.vDefs (rd 0 y1_0 0)).vName),vI ((rd z_api_Def a0.vDefs (rd 0 y1_0 0)).vInt.vSize),vB ((rd z_api_Def a0.vDefs (rd 0 y1_0 0)).vInt.vSigned),vI ((rd z_api_Def a0.vDefs (rd 0 y1_0 0)).vRef),vI ((rd z_api_Def a0.vDefs (rd 0 y1_0 0)).vN),vL Aad1_6 ((rd z_api_Def a0.vDefs (rd 0 y1_0 0)).vFields).length cad1_6] 34 (0,0)),(obj1_0, .cells (csj1_0).toArray 3 (0,0)),((some b2), .cells ((List.set csy1_1 ((rd 0 y1_0 0).toNat*1+0) (vB true))).toArray 4 (0,0)),(some b1, .cells #[vL A0_0 a0.vDefs.length c0_0] 24 (0,0))] w') ?_ ?_
     ·refine wp_cond_split (t:=((((rd z_api_Def a0.vDefs (rd 0 y1_0 0)).vKind==2)||((rd z_api_Def a0.vDefs (rd 0 y1_0 0)).vKind==3))||((rd z_api_Def a0.vDefs (rd 0 y1_0 0)).vKind==6))) rfl (fun c4=>?_) (fun c4=>?_)
      ·replace H:=of_pos H c4
       refine region<|rs (vL (partA Ay1_0 cy1_0 1 1) (y1_0.drop 1).length (cy1_0-1)) (r_move rfl)<|rs (vP b4 4) (r_fieldBox (n:=1) (o':=4) rfl Tryd.runUnderlying34 rfl Tryd.sizeOf3 (by decide) rfl)<|rs (vI ((rd z_api_Def a0.vDefs (rd 0 y1_0 0)).vRef)) (r_loadBox rfl Tryd.isAgg3 (HS8.look 0 rfl) rfl)<|run_bs (Kd.int .i64) (xs:=([(rd z_api_Def a0.vDefs (rd 0 y1_0 0)).vRef]:List Int)) (n:=1) (cs:=[vI ((rd z_api_Def a0.vDefs (rd 0 y1_0 0)).vRef)]) Tryd.runUnderlying62 Tryd.typeInfo3 Tryd.zeroValue3 rfl rfl (by decide) (by decide) (by decide) [vI ((rd z_api_Def a0.vDefs (rd 0 y1_0 0)).vRef)] (parts_any.trans rfl) rfl rfl rfl rfl (elems_cons (qs:=[vI ((rd z_api_Def a0.vDefs (rd 0 y1_0 0)).vRef)]) rfl (elems_nil (cs:=[]))) HS8 ?_
       intro w9 b5 HS9 ho5
       refine run_frame (by simp only [sc0,sc1];rfl) ?_
       obtain ⟨hl2,H⟩:=of_ite H
       refine run_appA (q:=2) (cs:=csy1_0) rfl rfl Tryd.runUnderlying62 Tryd.typeInfo3 Tryd.zeroValue3 rfl (by decide) rfl (src_row Tryd.runUnderlying62 HS9 (i:=0) rfl ho5 rfl) ho5.len (src_row_elems ho5) (by decide) hl2 HS9 rfl hcut ?_
       intro w10 A2 ob2 c5 cs3 HS10 ho6
       refine rs (vL A2 ((y1_0.drop 1)++([(rd z_api_Def a0.vDefs (rd 0 y1_0 0)).vRef]:List Int)).length c5) (r_assign rfl) ?_
       try simp only [sc0,sc1]
       refine run_nil ?_
       obtain rfl:=Option.some.inj H
       refine met_j rfl ⟨A2,ob2,c5,cs3,(fit rfl),ho6,HS10.tail⟩
      ·replace H:=of_neg H (nt c4)
       refine wp_skip ?_
       obtain rfl:=Option.some.inj H
       refine met_j rfl ⟨(partA Ay1_0 cy1_0 1 1),oby1_0,(cy1_0-1),csy1_0,(fit rfl),hcut,HS8⟩
     ·rintro us w11 ⟨Aj1_0,obj1_0,cj1_0,csj1_0,huj1,hoj1_0,HS11⟩
      obtain ⟨uj1,rfl⟩:=unj huj1
      replace H:=G2
      clear G2
      try simp only [patch,sc0,sc1]
      refine wp_seq<|region<|rs (vI 0) (r_assign rfl) ?_
      try simp only [sc0,sc1]
      refine run_nil<|norm_then ?_
      obtain ⟨xx3,H,G3⟩:=of_bind H
      refine loop_j [6,9,55,56,57,58,59,60,61,62,63,64,65,66,67,68,69,70,71,72,73,74,75] (fun m us w'=>∃y2_0:Int,∃y2_1:List Int,∃(Ay2_1:Option Addr) (oby2_1:Option Nat) (cy2_1:Nat),∃(csy2_1:List Value),Fit us (fun uy2=>[vL Ay2_1 y2_1.length cy2_1,vI y2_0,(uy2 2),(uy2 3),(uy2 4),(uy2 5),(uy2 6),(uy2 7),(uy2 8),(uy2 9),(uy2 10),(uy2 11),(uy2 12),(uy2 13),(uy2 14),(uy2 15),(uy2 16),(uy2 17),(uy2 18),(uy2 19),(uy2 20),(uy2 21),(uy2 22)])∧taplineref08_Reach.l1 a0 y1_0 m y2_0 y2_1=some xx3∧RowA h0 y2_1 Ay2_1 oby2_1 cy2_1 csy2_1∧St [] h0 w0 h0 [(some b4, .cells #[vI ((rd z_api_Def a0.vDefs (rd 0 y1_0 0)).vKind),vS ((rd z_api_Def a0.vDefs (rd 0 y1_0 0)).vName),vI ((rd z_api_Def a0.vDefs (rd 0 y1_0 0)).vInt.vSize),vB ((rd z_api_Def a0.vDefs (rd 0 y1_0 0)).vInt.vSigned),vI ((rd z_api_Def a0.vDefs (rd 0 y1_0 0)).vRef),vI ((rd z_api_Def a0.vDefs (rd 0 y1_0 0)).vN),vL Aad1_6 ((rd z_api_Def a0.vDefs (rd 0 y1_0 0)).vFields).length cad1_6] 34 (0,0)),(oby2_1, .cells (csy2_1).toArray 3 (0,0)),((some b2), .cells ((List.set csy1_1 ((rd 0 y1_0 0).toNat*1+0) (vB true))).toArray 4 (0,0)),(some b1, .cells #[vL A0_0 a0.vDefs.length c0_0] 24 (0,0))] w') (fun us w'=>∃(Ao1_0:Option Addr) (obo1_0:Option Nat) (co1_0:Nat),∃(cso1_0:List Value),Fit us (fun uo1=>[vL Ao1_0 xx3.length co1_0,(uo1 1),(uo1 2),(uo1 3),(uo1 4),(uo1 5),(uo1 6),(uo1 7),(uo1 8),(uo1 9),(uo1 10),(uo1 11),(uo1 12),(uo1 13),(uo1 14),(uo1 15),(uo1 16),(uo1 17),(uo1 18),(uo1 19),(uo1 20),(uo1 21),(uo1 22)])∧RowA h0 xx3 Ao1_0 obo1_0 co1_0 cso1_0∧St [] h0 w0 h0 [(some b4, .cells #[vI ((rd z_api_Def a0.vDefs (rd 0 y1_0 0)).vKind),vS ((rd z_api_Def a0.vDefs (rd 0 y1_0 0)).vName),vI ((rd z_api_Def a0.vDefs (rd 0 y1_0 0)).vInt.vSize),vB ((rd z_api_Def a0.vDefs (rd 0 y1_0 0)).vInt.vSigned),vI ((rd z_api_Def a0.vDefs (rd 0 y1_0 0)).vRef),vI ((rd z_api_Def a0.vDefs (rd 0 y1_0 0)).vN),vL Aad1_6 ((rd z_api_Def a0.vDefs (rd 0 y1_0 0)).vFields).length cad1_6] 34 (0,0)),(obo1_0, .cells (cso1_0).toArray 3 (0,0)),((some b2), .cells ((List.set csy1_1 ((rd 0 y1_0 0).toNat*1+0) (vB true))).toArray 4 (0,0)),(some b1, .cells #[vL A0_0 a0.vDefs.length c0_0] 24 (0,0))] w') k ⟨0,xx2,Aj1_0,obj1_0,cj1_0,csj1_0,(fit rfl),H,hoj1_0,HS11⟩ ?_ ?_
      ·rintro m us w12 ⟨y2_0,y2_1,Ay2_1,oby2_1,cy2_1,csy2_1,huy2,H,hoy2_1,HS12⟩
       obtain ⟨uy2,rfl⟩:=unj huy2
       cases m with
       |zero=>exact absurd H (by simp [taplineref08_Reach.l1])
       |succ m=>
        rw [taplineref08_Reach.l1] at H
        try simp only [patch,sc0,sc1]
        refine wp_seq<|wp_seq<|region<|rs (vI y2_0) (r_move rfl)<|rs (vP b4 6) (r_fieldBox (n:=1) (o':=6) rfl Tryd.runUnderlying34 rfl Tryd.sizeOf32 (by decide) rfl)<|rs (vL Aad1_6 ((rd z_api_Def a0.vDefs (rd 0 y1_0 0)).vFields).length cad1_6) (r_loadBox rfl Tryd.isAgg32 (HS12.look 0 rfl) rfl)<|rs (vI (((rd z_api_Def a0.vDefs (rd 0 y1_0 0)).vFields).length:Int)) (r_len rfl Tryd.runUnderlying32)<|run_frame (by simp only [sc0,sc1];rfl) ?_
        refine rs (vB (decide (y2_0<(((rd z_api_Def a0.vDefs (rd 0 y1_0 0)).vFields).length:Int)))) (r_bin rfl rfl rfl)<|rs (vB (decide (y2_0<(((rd z_api_Def a0.vDefs (rd 0 y1_0 0)).vFields).length:Int)))) (r_move rfl)<|rgs (decide (y2_0<(((rd z_api_Def a0.vDefs (rd 0 y1_0 0)).vFields).length:Int))) true (vP b4 0) rfl rfl rfl rfl (fun hg=>(r_fieldBox (n:=1) (o':=0) rfl Tryd.runUnderlying34 rfl Tryd.sizeOf3 (by decide) rfl))<|rgs (decide (y2_0<(((rd z_api_Def a0.vDefs (rd 0 y1_0 0)).vFields).length:Int))) true (vI ((rd z_api_Def a0.vDefs (rd 0 y1_0 0)).vKind)) rfl rfl rfl rfl (fun hg=>(r_loadBox (gvt (vP b4 0) hg rfl) Tryd.isAgg3 (HS12.look 0 rfl) rfl))<|run_frame (by simp only [sc0,sc1];rfl) ?_
        refine rgs (decide (y2_0<(((rd z_api_Def a0.vDefs (rd 0 y1_0 0)).vFields).length:Int))) true (vB ((rd z_api_Def a0.vDefs (rd 0 y1_0 0)).vKind==4)) rfl rfl rfl rfl (fun hg=>(r_bin (gvt (vI ((rd z_api_Def a0.vDefs (rd 0 y1_0 0)).vKind)) hg rfl) rfl rfl))<|rs (vB ((decide (y2_0<(((rd z_api_Def a0.vDefs (rd 0 y1_0 0)).vFields).length:Int)))&&((rd z_api_Def a0.vDefs (rd 0 y1_0 0)).vKind==4))) (r_pick_and rfl (fun hp=>(gvt (vB ((rd z_api_Def a0.vDefs (rd 0 y1_0 0)).vKind==4)) (and_i rfl hp) rfl)) rfl) ?_
        try simp only [sc0,sc1]
        refine run_nil<|norm_then<|wp_cond_split (t:=((decide (y2_0<(((rd z_api_Def a0.vDefs (rd 0 y1_0 0)).vFields).length:Int)))&&((rd z_api_Def a0.vDefs (rd 0 y1_0 0)).vKind==4))) rfl (fun c6=>?_) (fun c6=>?_)
        ·replace H:=of_pos H c6
         refine wp_skip<|norm_then<|wp_seq<|wp_block<|region<|rs (vL Ay2_1 y2_1.length cy2_1) (r_move rfl)<|rs (vP b4 6) (r_fieldBox (n:=1) (o':=6) rfl Tryd.runUnderlying34 rfl Tryd.sizeOf32 (by decide) rfl)<|rs (vL Aad1_6 ((rd z_api_Def a0.vDefs (rd 0 y1_0 0)).vFields).length cad1_6) (r_loadBox rfl Tryd.isAgg32 (HS12.look 0 rfl) rfl)<|rs (vI y2_0) (r_move rfl)<|run_frame (by simp only [sc0,sc1];rfl) ?_
         obtain ⟨hi5,H⟩:=of_ite H
         obtain ⟨ad2,e2,hel2⟩:=ld_api_Field hrad1_6 hi5.1 hi5.2
         refine rs (Value.pointer (some (Addr.add ad2 (y2_0.toNat*3)))) (r_indexA (sz:=3) rfl e2 rfl hi5.1 hi5.2 Tryd.runUnderlying32 Tryd.sizeOf36)<|rs (Value.pointer (some (Addr.add (Addr.add ad2 (y2_0.toNat*3)) 1))) (r_fieldEl (n:=1) (o':=1) rfl Tryd.runUnderlying36 rfl Tryd.sizeOf3 (by decide) rfl)<|rs (vI ((rd z_api_Field ((rd z_api_Def a0.vDefs (rd 0 y1_0 0)).vFields) y2_0).vType)) (r_load rfl Tryd.isAgg3 (hel2.cell HS12.sees 1 rfl))<|run_bs (Kd.int .i64) (xs:=([(rd z_api_Field ((rd z_api_Def a0.vDefs (rd 0 y1_0 0)).vFields) y2_0).vType]:List Int)) (n:=1) (cs:=[vI ((rd z_api_Field ((rd z_api_Def a0.vDefs (rd 0 y1_0 0)).vFields) y2_0).vType)]) Tryd.runUnderlying62 Tryd.typeInfo3 Tryd.zeroValue3 rfl rfl (by decide) (by decide) (by decide) [vI ((rd z_api_Field ((rd z_api_Def a0.vDefs (rd 0 y1_0 0)).vFields) y2_0).vType)] (parts_any.trans rfl) rfl rfl rfl rfl (elems_cons (qs:=[vI ((rd z_api_Field ((rd z_api_Def a0.vDefs (rd 0 y1_0 0)).vFields) y2_0).vType)]) rfl (elems_nil (cs:=[]))) HS12 ?_
         intro w13 b6 HS13 ho7
         refine run_frame (by simp only [sc0,sc1];rfl) ?_
         obtain ⟨hl3,H⟩:=of_ite H
         refine run_appA (q:=2) (cs:=csy2_1) rfl rfl Tryd.runUnderlying62 Tryd.typeInfo3 Tryd.zeroValue3 rfl (by decide) rfl (src_row Tryd.runUnderlying62 HS13 (i:=0) rfl ho7 rfl) ho7.len (src_row_elems ho7) (by decide) hl3 HS13 rfl hoy2_1 ?_
         intro w14 A3 ob3 c7 cs4 HS14 ho8
         refine rs (vL A3 (y2_1++([(rd z_api_Field ((rd z_api_Def a0.vDefs (rd 0 y1_0 0)).vFields) y2_0).vType]:List Int)).length c7) (r_assign rfl) ?_
         try simp only [sc0,sc1]
         refine run_nil<|norm_block<|norm_then<|region<|rs (vI y2_0) (r_move rfl)<|rs (vI (w64 (y2_0+1))) (r_bin rfl rfl rfl)<|rs (vI (w64 (y2_0+1))) (r_assign rfl) ?_
         try simp only [sc0,sc1]
         refine run_nil<|again_j m (Nat.lt_succ_self m) rfl ⟨(w64 (y2_0+1)),(y2_1++([(rd z_api_Field ((rd z_api_Def a0.vDefs (rd 0 y1_0 0)).vFields) y2_0).vType]:List Int)),A3,ob3,c7,cs4,(fit rfl),H,ho8,HS14.tail⟩
        ·replace H:=of_neg H (nt c6)
         refine wp_exit<|exit_then ?_
         obtain rfl:=Option.some.inj H
         refine leave_j rfl ⟨Ay2_1,oby2_1,cy2_1,csy2_1,(fit rfl),hoy2_1,HS12⟩
      ·rintro us w15 ⟨Ao1_0,obo1_0,co1_0,cso1_0,huo1,hoo1_0,HS15⟩
       obtain ⟨uo1,rfl⟩:=unj huo1
       replace H:=G3
       clear G3
       try simp only [patch,sc0,sc1]
       refine norm_block<|again_j m (Nat.lt_succ_self m) rfl ⟨xx3,(List.set y1_1 (rd 0 y1_0 0).toNat true),Ao1_0,obo1_0,co1_0,cso1_0,(List.set csy1_1 ((rd 0 y1_0 0).toNat*1+0) (vB true)),(fit rfl),H,hoo1_0,ho4,HS15.tail⟩
   ·replace H:=of_neg H (nt c2)
    refine wp_exit<|exit_then ?_
    obtain rfl:=Option.some.inj H
    refine leave_j rfl ⟨Ay1_0,oby1_0,cy1_0,csy1_0,csy1_1,(fit rfl),hoy1_0,hoy1_1,HS5⟩
 ·rintro us w16 ⟨Ao2_0,obo2_0,co2_0,cso2_0,cso2_1,huo2,hoo2_0,hoo2_1,HS16⟩
  obtain ⟨uo2,rfl⟩:=unj huo2
  replace H:=G1
  clear G1
  try simp only [patch,sc0,sc1]
  refine norm_then<|wp_seq<|region<|rs (vL (rowA (some b2)) ((a0.vDefs.length:Int).toNat) ((a0.vDefs.length:Int).toNat)) (r_move rfl)<|rs (vL (rowA (some b2)) ((a0.vDefs.length:Int).toNat) ((a0.vDefs.length:Int).toNat)) (r_assign rfl) ?_
  try simp only [sc0,sc1]
  refine run_nil<|norm_then<|wp_ret ?_
  obtain rfl:=Option.some.inj H
  refine bodyPost_ret (results_1 rfl (one_tmp rfl)) rfl ?_
  obtain ⟨h1,HS17,hs1,rdp1⟩:=row_pub HS16 (i:=1) rfl hoo2_1
  replace hoo2_0:=hoo2_0.view hs1
  exact ⟨h1,(rowA (some b2)),(a0.vDefs.length:Int).toNat,(by first|rfl|(rw [hoo2_1.len];done)|(rw [hoo2_1.len];rfl)),hoo2_1.cap,rdp1,HS17.gr,HS17.sees,HS17.toE⟩
end Go.Proofs.YtfjppgobidjndaaDoor
namespace Go.Proofs.YtfjppgobidjndaaDoor
open Go.RowKit Go.M
def taplineref08_alike.l0 (k:Nat) (a0:api_Types) (a1:api_Def) (a2:api_Types) (a3:api_Def):Nat→Int→Option ((Bool)⊕(Unit))
 |0,_=>none
 |m+1,y1_0=>if (decide (y1_0<(a1.vFields.length:Int)))=true then (if 0≤y1_0∧y1_0<a1.vFields.length then (if 0≤y1_0∧y1_0<a3.vFields.length then ((if ((true&&(((!(strEq ((rd z_api_Field a1.vFields y1_0).vName) ((rd z_api_Field a3.vFields y1_0).vName)))||((rd z_api_Field a1.vFields y1_0).vAt !=(rd z_api_Field a3.vFields y1_0).vAt))==false))&&((a1.vKind==4)==true))=true then taplineref08_Text.f k a0 ((rd z_api_Field a1.vFields y1_0).vType) else some ByteArray.empty).bind fun v3=>((if ((true&&(((!(strEq ((rd z_api_Field a1.vFields y1_0).vName) ((rd z_api_Field a3.vFields y1_0).vName)))||((rd z_api_Field a1.vFields y1_0).vAt !=(rd z_api_Field a3.vFields y1_0).vAt))==false))&&((a1.vKind==4)==true))=true then taplineref08_Text.f k a2 ((rd z_api_Field a3.vFields y1_0).vType) else some ByteArray.empty).bind fun v4=>(if (((!(strEq ((rd z_api_Field a1.vFields y1_0).vName) ((rd z_api_Field a3.vFields y1_0).vName)))||((rd z_api_Field a1.vFields y1_0).vAt !=(rd z_api_Field a3.vFields y1_0).vAt))||((a1.vKind==4)&&(!(strEq v3 v4))))=true then (some (.inl false)) else (taplineref08_alike.l0 k a0 a1 a2 a3 m (IntKind.wrap .i64 (y1_0+1)))))) else none) else none) else (some (.inr ()))
def taplineref08_alike.f (k:Nat) (a0:api_Types) (a1:api_Def) (a2:api_Types) (a3:api_Def):Option (Bool):=if (((((a1.vKind !=a3.vKind)||(!(strEq a1.vName a3.vName)))||(!((a1.vInt.vSize==a3.vInt.vSize)&&((a1.vInt.vSigned==a3.vInt.vSigned)&&true))))||(a1.vN !=a3.vN))||((a1.vFields.length:Int) !=(a3.vFields.length:Int)))=true then (some false) else ((if (true&&((a1.vKind==6)==true))=true then taplineref08_Text.f k a0 a1.vRef else some ByteArray.empty).bind fun v1=>((if (true&&((a1.vKind==6)==true))=true then taplineref08_Text.f k a2 a3.vRef else some ByteArray.empty).bind fun v2=>(if ((a1.vKind==6)&&(!(strEq v1 v2)))=true then (some false) else ((taplineref08_alike.l0 k a0 a1 a2 a3 k 0).bind fun xx1=>(match xx1 with| .inl r=>some r| .inr s1=>some true)))))
theorem taplineref08_alike.calls (k:Nat) (a0:api_Types) (a1:api_Def) (a2:api_Types) (a3:api_Def) (A0_0:Option Addr) (c0_0:Nat) (A1_6:Option Addr) (c1_6:Nat) (A2_0:Option Addr) (c2_0:Nat) (A3_6:Option Addr) (c3_6:Nat) {h0:View} {w0:World} (hv:Sees h0 w0) (hr0_0:Rd k_api_Def h0 A0_0 a0.vDefs) (hc0_0:a0.vDefs.length≤c0_0) (hr1_6:Rd k_api_Field h0 A1_6 a1.vFields) (hc1_6:a1.vFields.length≤c1_6) (hr2_0:Rd k_api_Def h0 A2_0 a2.vDefs) (hc2_0:a2.vDefs.length≤c2_0) (hr3_6:Rd k_api_Field h0 A3_6 a3.vFields) (hc3_6:a3.vFields.length≤c3_6) {r:Bool} (H:taplineref08_alike.f k a0 a1 a2 a3=some r):Calls Tryd.prog 64 #[Value.agg #[vL A0_0 a0.vDefs.length c0_0],Value.agg #[vI a1.vKind,vS a1.vName,vI a1.vInt.vSize,vB a1.vInt.vSigned,vI a1.vRef,vI a1.vN,vL A1_6 a1.vFields.length c1_6],Value.agg #[vL A2_0 a2.vDefs.length c2_0],Value.agg #[vI a3.vKind,vS a3.vName,vI a3.vInt.vSize,vB a3.vInt.vSigned,vI a3.vRef,vI a3.vN,vL A3_6 a3.vFields.length c3_6]] w0 (fun e w1=>e= .returned (vB r)∧Ext w0 w1):=by
 unfold taplineref08_alike.f at H
 have HS:St [] h0 w0 h0 [] w0:=St.init hv
 go_enter Tryd.func64,Tryd.ntmps64
 refine wp_seq<|region<|run_ex rfl rfl (does_box (cs:=#[vL A0_0 a0.vDefs.length c0_0]) rfl rfl) ?_
 rintro w1 _ hE1 ⟨b1,rfl,ge1,hb1⟩
 have HS1:=HS.new hE1 ge1 hb1
 refine run_ex rfl rfl (does_box (cs:=#[vI a1.vKind,vS a1.vName,vI a1.vInt.vSize,vB a1.vInt.vSigned,vI a1.vRef,vI a1.vN,vL A1_6 a1.vFields.length c1_6]) rfl rfl) ?_
 rintro w2 _ hE2 ⟨b2,rfl,ge2,hb2⟩
 have HS2:=HS1.new hE2 ge2 hb2
 refine run_ex rfl rfl (does_box (cs:=#[vL A2_0 a2.vDefs.length c2_0]) rfl rfl) ?_
 rintro w3 _ hE3 ⟨b3,rfl,ge3,hb3⟩
 have HS3:=HS2.new hE3 ge3 hb3
 refine run_ex rfl rfl (does_box (cs:=#[vI a3.vKind,vS a3.vName,vI a3.vInt.vSize,vB a3.vInt.vSigned,vI a3.vRef,vI a3.vN,vL A3_6 a3.vFields.length c3_6]) rfl rfl) ?_
 rintro w4 _ hE4 ⟨b4,rfl,ge4,hb4⟩
 have HS4:=HS3.new hE4 ge4 hb4
 refine run_frame (by simp only [sc0,sc1];rfl) ?_
 refine rs (vB false) (r_assign rfl) ?_
 try simp only [sc0,sc1]
 refine run_nil<|norm_then<|wp_seq<|wp_seq<|region<|rs (vP b2 0) (r_fieldBox (n:=1) (o':=0) rfl Tryd.runUnderlying34 rfl Tryd.sizeOf3 (by decide) rfl)<|rs (vI a1.vKind) (r_loadBox rfl Tryd.isAgg3 (HS4.look 2 rfl) rfl)<|rs (vP b4 0) (r_fieldBox (n:=1) (o':=0) rfl Tryd.runUnderlying34 rfl Tryd.sizeOf3 (by decide) rfl)<|rs (vI a3.vKind) (r_loadBox rfl Tryd.isAgg3 (HS4.look 0 rfl) rfl)<|run_frame (by simp only [sc0,sc1];rfl) ?_
 refine rs (vB (a1.vKind !=a3.vKind)) (r_bin rfl rfl rfl)<|rs (vB (a1.vKind !=a3.vKind)) (r_move rfl)<|rgs (a1.vKind !=a3.vKind) true (vP b2 1) rfl rfl rfl rfl (fun hg=>(r_fieldBox (n:=1) (o':=1) rfl Tryd.runUnderlying34 rfl Tryd.sizeOf9 (by decide) rfl))<|rgs (a1.vKind !=a3.vKind) true (vS a1.vName) rfl rfl rfl rfl (fun hg=>(r_loadBox (gvt (vP b2 1) hg rfl) Tryd.isAgg9 (HS4.look 2 rfl) rfl))<|run_frame (by simp only [sc0,sc1];rfl) ?_
 refine rgs (a1.vKind !=a3.vKind) true (vP b4 1) rfl rfl rfl rfl (fun hg=>(r_fieldBox (n:=1) (o':=1) rfl Tryd.runUnderlying34 rfl Tryd.sizeOf9 (by decide) rfl))<|rgs (a1.vKind !=a3.vKind) true (vS a3.vName) rfl rfl rfl rfl (fun hg=>(r_loadBox (gvt (vP b4 1) hg rfl) Tryd.isAgg9 (HS4.look 0 rfl) rfl))<|rgs (a1.vKind !=a3.vKind) true (vB (!(strEq a1.vName a3.vName))) rfl rfl rfl rfl (fun hg=>(r_strneq (gvt (vS a1.vName) hg rfl) (gvt (vS a3.vName) hg rfl)))<|rs (vB ((a1.vKind !=a3.vKind)||(!(strEq a1.vName a3.vName)))) (r_pick_or rfl rfl (fun hp=>(gvt (vB (!(strEq a1.vName a3.vName))) (and_i rfl hp) rfl)))<|run_frame (by simp only [sc0,sc1];rfl) ?_
 refine rs (vB ((a1.vKind !=a3.vKind)||(!(strEq a1.vName a3.vName)))) (r_move rfl)<|rgs ((a1.vKind !=a3.vKind)||(!(strEq a1.vName a3.vName))) true (vP b2 2) rfl rfl rfl rfl (fun hg=>(r_fieldBox (n:=2) (o':=2) rfl Tryd.runUnderlying34 rfl Tryd.sizeOf31 (by decide) rfl))<|rgs ((a1.vKind !=a3.vKind)||(!(strEq a1.vName a3.vName))) true (Value.agg #[vI a1.vInt.vSize,vB a1.vInt.vSigned]) rfl rfl rfl rfl (fun hg=>(r_loadBoxAgg (n:=2) (vs:=[vI a1.vInt.vSize,vB a1.vInt.vSigned]) (gvt (vP b2 2) hg rfl) Tryd.isAgg31 (HS4.look 2 rfl) Tryd.sizeOf31 rfl rfl))<|rgs ((a1.vKind !=a3.vKind)||(!(strEq a1.vName a3.vName))) true (vP b4 2) rfl rfl rfl rfl (fun hg=>(r_fieldBox (n:=2) (o':=2) rfl Tryd.runUnderlying34 rfl Tryd.sizeOf31 (by decide) rfl))<|run_frame (by simp only [sc0,sc1];rfl) ?_
 refine rgs ((a1.vKind !=a3.vKind)||(!(strEq a1.vName a3.vName))) true (Value.agg #[vI a3.vInt.vSize,vB a3.vInt.vSigned]) rfl rfl rfl rfl (fun hg=>(r_loadBoxAgg (n:=2) (vs:=[vI a3.vInt.vSize,vB a3.vInt.vSigned]) (gvt (vP b4 2) hg rfl) Tryd.isAgg31 (HS4.look 0 rfl) Tryd.sizeOf31 rfl rfl))<|rgs ((a1.vKind !=a3.vKind)||(!(strEq a1.vName a3.vName))) true (vB (!((a1.vInt.vSize==a3.vInt.vSize)&&((a1.vInt.vSigned==a3.vInt.vSigned)&&true)))) rfl rfl rfl rfl (fun hg=>(r_aggneq (gvt (Value.agg #[vI a1.vInt.vSize,vB a1.vInt.vSigned]) hg rfl) (gvt (Value.agg #[vI a3.vInt.vSize,vB a3.vInt.vSigned]) hg rfl) Tryd.eqGuardType31 (eqr_agg Tryd.stoodInHeld31 Tryd.underlying31 (eqf_cons (by decide) (part_one Tryd.isAgg3 rfl) (part_one Tryd.isAgg3 rfl) (eqr_int Tryd.underlying3) (eqf_cons (by decide) (part_one Tryd.isAgg4 rfl) (part_one Tryd.isAgg4 rfl) (eqr_bool Tryd.underlying4) eqf_nil)))))<|rs (vB (((a1.vKind !=a3.vKind)||(!(strEq a1.vName a3.vName)))||(!((a1.vInt.vSize==a3.vInt.vSize)&&((a1.vInt.vSigned==a3.vInt.vSigned)&&true))))) (r_pick_or rfl rfl (fun hp=>(gvt (vB (!((a1.vInt.vSize==a3.vInt.vSize)&&((a1.vInt.vSigned==a3.vInt.vSigned)&&true)))) (and_i rfl hp) rfl)))<|rs (vB (((a1.vKind !=a3.vKind)||(!(strEq a1.vName a3.vName)))||(!((a1.vInt.vSize==a3.vInt.vSize)&&((a1.vInt.vSigned==a3.vInt.vSigned)&&true))))) (r_move rfl)<|run_frame (by simp only [sc0,sc1];rfl) ?_
 refine rgs (((a1.vKind !=a3.vKind)||(!(strEq a1.vName a3.vName)))||(!((a1.vInt.vSize==a3.vInt.vSize)&&((a1.vInt.vSigned==a3.vInt.vSigned)&&true)))) true (vP b2 5) rfl rfl rfl rfl (fun hg=>(r_fieldBox (n:=1) (o':=5) rfl Tryd.runUnderlying34 rfl Tryd.sizeOf3 (by decide) rfl))<|rgs (((a1.vKind !=a3.vKind)||(!(strEq a1.vName a3.vName)))||(!((a1.vInt.vSize==a3.vInt.vSize)&&((a1.vInt.vSigned==a3.vInt.vSigned)&&true)))) true (vI a1.vN) rfl rfl rfl rfl (fun hg=>(r_loadBox (gvt (vP b2 5) hg rfl) Tryd.isAgg3 (HS4.look 2 rfl) rfl))<|rgs (((a1.vKind !=a3.vKind)||(!(strEq a1.vName a3.vName)))||(!((a1.vInt.vSize==a3.vInt.vSize)&&((a1.vInt.vSigned==a3.vInt.vSigned)&&true)))) true (vP b4 5) rfl rfl rfl rfl (fun hg=>(r_fieldBox (n:=1) (o':=5) rfl Tryd.runUnderlying34 rfl Tryd.sizeOf3 (by decide) rfl))<|rgs (((a1.vKind !=a3.vKind)||(!(strEq a1.vName a3.vName)))||(!((a1.vInt.vSize==a3.vInt.vSize)&&((a1.vInt.vSigned==a3.vInt.vSigned)&&true)))) true (vI a3.vN) rfl rfl rfl rfl (fun hg=>(r_loadBox (gvt (vP b4 5) hg rfl) Tryd.isAgg3 (HS4.look 0 rfl) rfl))<|run_frame (by simp only [sc0,sc1];rfl) ?_
 refine rgs (((a1.vKind !=a3.vKind)||(!(strEq a1.vName a3.vName)))||(!((a1.vInt.vSize==a3.vInt.vSize)&&((a1.vInt.vSigned==a3.vInt.vSigned)&&true)))) true (vB (a1.vN !=a3.vN)) rfl rfl rfl rfl (fun hg=>(r_bin (gvt (vI a1.vN) hg rfl) (gvt (vI a3.vN) hg rfl) rfl))<|rs (vB ((((a1.vKind !=a3.vKind)||(!(strEq a1.vName a3.vName)))||(!((a1.vInt.vSize==a3.vInt.vSize)&&((a1.vInt.vSigned==a3.vInt.vSigned)&&true))))||(a1.vN !=a3.vN))) (r_pick_or rfl rfl (fun hp=>(gvt (vB (a1.vN !=a3.vN)) (and_i rfl hp) rfl)))<|rs (vB ((((a1.vKind !=a3.vKind)||(!(strEq a1.vName a3.vName)))||(!((a1.vInt.vSize==a3.vInt.vSize)&&((a1.vInt.vSigned==a3.vInt.vSigned)&&true))))||(a1.vN !=a3.vN))) (r_move rfl)<|rgs ((((a1.vKind !=a3.vKind)||(!(strEq a1.vName a3.vName)))||(!((a1.vInt.vSize==a3.vInt.vSize)&&((a1.vInt.vSigned==a3.vInt.vSigned)&&true))))||(a1.vN !=a3.vN)) true (vP b2 6) rfl rfl rfl rfl (fun hg=>(r_fieldBox (n:=1) (o':=6) rfl Tryd.runUnderlying34 rfl Tryd.sizeOf32 (by decide) rfl))<|run_frame (by simp only [sc0,sc1];rfl) ?_
 refine rgs ((((a1.vKind !=a3.vKind)||(!(strEq a1.vName a3.vName)))||(!((a1.vInt.vSize==a3.vInt.vSize)&&((a1.vInt.vSigned==a3.vInt.vSigned)&&true))))||(a1.vN !=a3.vN)) true (vL A1_6 a1.vFields.length c1_6) rfl rfl rfl rfl (fun hg=>(r_loadBox (gvt (vP b2 6) hg rfl) Tryd.isAgg32 (HS4.look 2 rfl) rfl))<|rgs ((((a1.vKind !=a3.vKind)||(!(strEq a1.vName a3.vName)))||(!((a1.vInt.vSize==a3.vInt.vSize)&&((a1.vInt.vSigned==a3.vInt.vSigned)&&true))))||(a1.vN !=a3.vN)) true (vI (a1.vFields.length:Int)) rfl rfl rfl rfl (fun hg=>(r_len (gvt (vL A1_6 a1.vFields.length c1_6) hg rfl) Tryd.runUnderlying32))<|rgs ((((a1.vKind !=a3.vKind)||(!(strEq a1.vName a3.vName)))||(!((a1.vInt.vSize==a3.vInt.vSize)&&((a1.vInt.vSigned==a3.vInt.vSigned)&&true))))||(a1.vN !=a3.vN)) true (vP b4 6) rfl rfl rfl rfl (fun hg=>(r_fieldBox (n:=1) (o':=6) rfl Tryd.runUnderlying34 rfl Tryd.sizeOf32 (by decide) rfl))<|rgs ((((a1.vKind !=a3.vKind)||(!(strEq a1.vName a3.vName)))||(!((a1.vInt.vSize==a3.vInt.vSize)&&((a1.vInt.vSigned==a3.vInt.vSigned)&&true))))||(a1.vN !=a3.vN)) true (vL A3_6 a3.vFields.length c3_6) rfl rfl rfl rfl (fun hg=>(r_loadBox (gvt (vP b4 6) hg rfl) Tryd.isAgg32 (HS4.look 0 rfl) rfl))<|run_frame (by simp only [sc0,sc1];rfl) ?_
 refine rgs ((((a1.vKind !=a3.vKind)||(!(strEq a1.vName a3.vName)))||(!((a1.vInt.vSize==a3.vInt.vSize)&&((a1.vInt.vSigned==a3.vInt.vSigned)&&true))))||(a1.vN !=a3.vN)) true (vI (a3.vFields.length:Int)) rfl rfl rfl rfl (fun hg=>(r_len (gvt (vL A3_6 a3.vFields.length c3_6) hg rfl) Tryd.runUnderlying32))<|rgs ((((a1.vKind !=a3.vKind)||(!(strEq a1.vName a3.vName)))||(!((a1.vInt.vSize==a3.vInt.vSize)&&((a1.vInt.vSigned==a3.vInt.vSigned)&&true))))||(a1.vN !=a3.vN)) true (vB ((a1.vFields.length:Int) !=(a3.vFields.length:Int))) rfl rfl rfl rfl (fun hg=>(r_bin (gvt (vI (a1.vFields.length:Int)) hg rfl) (gvt (vI (a3.vFields.length:Int)) hg rfl) rfl))<|rs (vB (((((a1.vKind !=a3.vKind)||(!(strEq a1.vName a3.vName)))||(!((a1.vInt.vSize==a3.vInt.vSize)&&((a1.vInt.vSigned==a3.vInt.vSigned)&&true))))||(a1.vN !=a3.vN))||((a1.vFields.length:Int) !=(a3.vFields.length:Int)))) (r_pick_or rfl rfl (fun hp=>(gvt (vB ((a1.vFields.length:Int) !=(a3.vFields.length:Int))) (and_i rfl hp) rfl))) ?_
 try simp only [sc0,sc1]
 refine run_nil<|norm_then<|wp_cond_split (t:=(((((a1.vKind !=a3.vKind)||(!(strEq a1.vName a3.vName)))||(!((a1.vInt.vSize==a3.vInt.vSize)&&((a1.vInt.vSigned==a3.vInt.vSigned)&&true))))||(a1.vN !=a3.vN))||((a1.vFields.length:Int) !=(a3.vFields.length:Int)))) rfl (fun c1=>?_) (fun c1=>?_)
 ·replace H:=of_pos H c1
  refine wp_seq<|region<|rs (vB false) (r_assign rfl) ?_
  try simp only [sc0,sc1]
  refine run_nil<|norm_then<|wp_ret<|ret_then ?_
  obtain rfl:=Option.some.inj H
  exact bodyPost_ret (results_1 rfl (one_tmp rfl)) rfl<|⟨rfl,HS4.toE⟩
 ·replace H:=of_neg H (nt c1)
  refine wp_skip<|norm_then<|wp_seq<|wp_seq ?_
  obtain ⟨v1,H1,H⟩:=of_bind H
  obtain ⟨v2,H2,H⟩:=of_bind H
  refine drawn [.eq (vP b2 0), .eq (vI a1.vKind), .eq (vB (a1.vKind==6)), .eq (vB (a1.vKind==6)), .eq (gv (true&&((a1.vKind==6)==true)) (Value.agg #[vL A0_0 a0.vDefs.length c0_0])), .eq (gv (true&&((a1.vKind==6)==true)) (vP b2 4)), .eq (gv (true&&((a1.vKind==6)==true)) (vI a1.vRef)), .eq (gv (true&&((a1.vKind==6)==true)) (vS v1)), .eq (gv (true&&((a1.vKind==6)==true)) (Value.agg #[vL A2_0 a2.vDefs.length c2_0])), .eq (gv (true&&((a1.vKind==6)==true)) (vP b4 4)), .eq (gv (true&&((a1.vKind==6)==true)) (vI a3.vRef)), .eq (gv (true&&((a1.vKind==6)==true)) (vS v2)), .eq (gv (true&&((a1.vKind==6)==true)) (vB (!(strEq v1 v2)))), .eq (vB ((a1.vKind==6)&&(!(strEq v1 v2))))] [47,48,49,50,51,52,53,54,55,56,57,58,59,60] hmix (by kernel_rfl) rfl (stable_eq (stable_eq (stable_eq (stable_eq (stable_eq (stable_eq (stable_eq (stable_eq (stable_eq (stable_eq (stable_eq (stable_eq (stable_eq (stable_eq stable_nil)))))))))))))) ⟨ob_plain rfl (fun a' w' hE hk=>by have HSd:=HS4.step hE;exact does_eq (r_fieldBox (n:=1) (o':=0) (show _=vP b2 0 from hk 5 rfl) Tryd.runUnderlying34 rfl Tryd.sizeOf3 (by decide) rfl)),ob_plain rfl (fun a' w' hE hk=>by have HSd:=HS4.step hE;exact does_eq (r_loadBox (show _=vP b2 0 from hk 47 rfl) Tryd.isAgg3 (HSd.look 2 rfl) rfl)),ob_plain rfl (fun a' w' hE hk=>by have HSd:=HS4.step hE;exact does_eq (r_bin (show _=vI a1.vKind from hk 48 rfl) rfl rfl)),ob_plain rfl (fun a' w' hE hk=>by have HSd:=HS4.step hE;exact does_eq (r_move (show _=vB (a1.vKind==6) from hk 49 rfl))),ob_guard (b:=(a1.vKind==6)) (c:=true) rfl rfl (by decide) (fun w' u hu=>hu) (fun a' w' hE hk hg=>by have HSd:=HS4.step hE;exact does_eq (r_loadBoxAgg (n:=1) (vs:=[vL A0_0 a0.vDefs.length c0_0]) (show _=vP b1 0 from hk 4 rfl) Tryd.isAgg24 (HSd.look 3 rfl) Tryd.sizeOf24 rfl rfl)),ob_guard (b:=(a1.vKind==6)) (c:=true) rfl rfl (by decide) (fun w' u hu=>hu) (fun a' w' hE hk hg=>by have HSd:=HS4.step hE;exact does_eq (r_fieldBox (n:=1) (o':=4) (show _=vP b2 0 from hk 5 rfl) Tryd.runUnderlying34 rfl Tryd.sizeOf3 (by decide) rfl)),ob_guard (b:=(a1.vKind==6)) (c:=true) rfl rfl (by decide) (fun w' u hu=>hu) (fun a' w' hE hk hg=>by have HSd:=HS4.step hE;exact does_eq (r_loadBox ((show _=gv (true&&((a1.vKind==6)==true)) (vP b2 4) from (show _=gv (true&&((a1.vKind==6)==true)) (vP b2 4) from hk 52 rfl)).trans (gv_t hg)) Tryd.isAgg3 (HSd.look 2 rfl) rfl)),ob_guard (b:=(a1.vKind==6)) (c:=true) rfl rfl (by decide) (fun w' u hu=>hu) (fun a' w' hE hk hg=>by have HSd:=HS4.step hE;exact (does_call_eq Tryd.call56 rfl (map2 ((show _=gv (true&&((a1.vKind==6)==true)) (Value.agg #[vL A0_0 a0.vDefs.length c0_0]) from (show _=gv (true&&((a1.vKind==6)==true)) (Value.agg #[vL A0_0 a0.vDefs.length c0_0]) from hk 51 rfl)).trans (gv_t hg)) ((show _=gv (true&&((a1.vKind==6)==true)) (vI a1.vRef) from (show _=gv (true&&((a1.vKind==6)==true)) (vI a1.vRef) from hk 53 rfl)).trans (gv_t hg))) (taplineref08_Text.calls k a0 a1.vRef A0_0 c0_0 HSd.sees hr0_0 hc0_0 (of_pos H1 hg)))),ob_guard (b:=(a1.vKind==6)) (c:=true) rfl rfl (by decide) (fun w' u hu=>hu) (fun a' w' hE hk hg=>by have HSd:=HS4.step hE;exact does_eq (r_loadBoxAgg (n:=1) (vs:=[vL A2_0 a2.vDefs.length c2_0]) (show _=vP b3 0 from hk 6 rfl) Tryd.isAgg24 (HSd.look 1 rfl) Tryd.sizeOf24 rfl rfl)),ob_guard (b:=(a1.vKind==6)) (c:=true) rfl rfl (by decide) (fun w' u hu=>hu) (fun a' w' hE hk hg=>by have HSd:=HS4.step hE;exact does_eq (r_fieldBox (n:=1) (o':=4) (show _=vP b4 0 from hk 7 rfl) Tryd.runUnderlying34 rfl Tryd.sizeOf3 (by decide) rfl)),ob_guard (b:=(a1.vKind==6)) (c:=true) rfl rfl (by decide) (fun w' u hu=>hu) (fun a' w' hE hk hg=>by have HSd:=HS4.step hE;exact does_eq (r_loadBox ((show _=gv (true&&((a1.vKind==6)==true)) (vP b4 4) from (show _=gv (true&&((a1.vKind==6)==true)) (vP b4 4) from hk 56 rfl)).trans (gv_t hg)) Tryd.isAgg3 (HSd.look 0 rfl) rfl)),ob_guard (b:=(a1.vKind==6)) (c:=true) rfl rfl (by decide) (fun w' u hu=>hu) (fun a' w' hE hk hg=>by have HSd:=HS4.step hE;exact (does_call_eq Tryd.call56 rfl (map2 ((show _=gv (true&&((a1.vKind==6)==true)) (Value.agg #[vL A2_0 a2.vDefs.length c2_0]) from (show _=gv (true&&((a1.vKind==6)==true)) (Value.agg #[vL A2_0 a2.vDefs.length c2_0]) from hk 55 rfl)).trans (gv_t hg)) ((show _=gv (true&&((a1.vKind==6)==true)) (vI a3.vRef) from (show _=gv (true&&((a1.vKind==6)==true)) (vI a3.vRef) from hk 57 rfl)).trans (gv_t hg))) (taplineref08_Text.calls k a2 a3.vRef A2_0 c2_0 HSd.sees hr2_0 hc2_0 (of_pos H2 hg)))),ob_guard (b:=(a1.vKind==6)) (c:=true) rfl rfl (by decide) (fun w' u hu=>hu) (fun a' w' hE hk hg=>by have HSd:=HS4.step hE;exact does_eq (r_strneq ((show _=gv (true&&((a1.vKind==6)==true)) (vS v1) from (show _=gv (true&&((a1.vKind==6)==true)) (vS v1) from hk 54 rfl)).trans (gv_t hg)) ((show _=gv (true&&((a1.vKind==6)==true)) (vS v2) from (show _=gv (true&&((a1.vKind==6)==true)) (vS v2) from hk 58 rfl)).trans (gv_t hg)))),ob_plain rfl (fun a' w' hE hk=>by have HSd:=HS4.step hE;exact does_eq (r_pick_and (show _=vB (a1.vKind==6) from hk 50 rfl) (fun hp=>((show _=gv (true&&((a1.vKind==6)==true)) (vB (!(strEq v1 v2))) from (show _=gv (true&&((a1.vKind==6)==true)) (vB (!(strEq v1 v2))) from hk 59 rfl)).trans (gv_t (and_i rfl hp)))) rfl)),trivial⟩ ?_
  intro w5 hE5
  simp only [List.zip_cons_cons,List.zip_nil_left,List.zip_nil_right,finL,sc0,sc1,List.length_cons,List.length_nil,List.drop_succ_cons,List.drop_zero,Nat.zero_add,Nat.reduceAdd]
  have HS5:=HS4.step hE5
  refine run_nil<|norm_then<|wp_cond_split (t:=((a1.vKind==6)&&(!(strEq v1 v2)))) rfl (fun c2=>?_) (fun c2=>?_)
  ·replace H:=of_pos H c2
   refine wp_seq<|region<|rs (vB false) (r_assign rfl) ?_
   try simp only [sc0,sc1]
   refine run_nil<|norm_then<|wp_ret<|ret_then ?_
   obtain rfl:=Option.some.inj H
   exact bodyPost_ret (results_1 rfl (one_tmp rfl)) rfl<|⟨rfl,HS5.toE⟩
  ·replace H:=of_neg H (nt c2)
   refine wp_skip<|norm_then<|wp_seq<|wp_seq<|region<|rs (vI 0) (r_assign rfl) ?_
   try simp only [sc0,sc1]
   refine run_nil<|norm_then ?_
   obtain ⟨xx1,H,G1⟩:=of_bind H
   refine loop_j [8,9,10,11,61,62,63,64,65,66,67,68,69,70,71,72,73,74,75,76,77,78,79,80,81,82,83,84,85,86,87,88,89,90,91,92,93,94,95,96,97,98,99,100,101,102,103,104,105] (fun m us w'=>∃(y1_0:Int),Fit us (fun uy1=>[(uy1 0),vI y1_0,(uy1 2),(uy1 3),(uy1 4),(uy1 5),(uy1 6),(uy1 7),(uy1 8),(uy1 9),(uy1 10),(uy1 11),(uy1 12),(uy1 13),(uy1 14),(uy1 15),(uy1 16),(uy1 17),(uy1 18),(uy1 19),(uy1 20),(uy1 21),(uy1 22),(uy1 23),(uy1 24),(uy1 25),(uy1 26),(uy1 27),(uy1 28),(uy1 29),(uy1 30),(uy1 31),(uy1 32),(uy1 33),(uy1 34),(uy1 35),(uy1 36),(uy1 37),(uy1 38),(uy1 39),(uy1 40),(uy1 41),(uy1 42),(uy1 43),(uy1 44),(uy1 45),(uy1 46),(uy1 47),(uy1 48)])∧taplineref08_alike.l0 k a0 a1 a2 a3 m y1_0=some xx1∧St [] h0 w0 h0 [(some b4, .cells #[vI a3.vKind,vS a3.vName,vI a3.vInt.vSize,vB a3.vInt.vSigned,vI a3.vRef,vI a3.vN,vL A3_6 a3.vFields.length c3_6] 34 (0,0)),(some b3, .cells #[vL A2_0 a2.vDefs.length c2_0] 24 (0,0)),(some b2, .cells #[vI a1.vKind,vS a1.vName,vI a1.vInt.vSize,vB a1.vInt.vSigned,vI a1.vRef,vI a1.vN,vL A1_6 a1.vFields.length c1_6] 34 (0,0)),(some b1, .cells #[vL A0_0 a0.vDefs.length c0_0] 24 (0,0))] w') (fun us w'=>∃(s1:Unit),xx1= .inr s1∧Fit us (fun uo1=>[(uo1 0),(uo1 1),(uo1 2),(uo1 3),(uo1 4),(uo1 5),(uo1 6),(uo1 7),(uo1 8),(uo1 9),(uo1 10),(uo1 11),(uo1 12),(uo1 13),(uo1 14),(uo1 15),(uo1 16),(uo1 17),(uo1 18),(uo1 19),(uo1 20),(uo1 21),(uo1 22),(uo1 23),(uo1 24),(uo1 25),(uo1 26),(uo1 27),(uo1 28),(uo1 29),(uo1 30),(uo1 31),(uo1 32),(uo1 33),(uo1 34),(uo1 35),(uo1 36),(uo1 37),(uo1 38),(uo1 39),(uo1 40),(uo1 41),(uo1 42),(uo1 43),(uo1 44),(uo1 45),(uo1 46),(uo1 47),(uo1 48)])∧St [] h0 w0 h0 [(some b4, .cells #[vI a3.vKind,vS a3.vName,vI a3.vInt.vSize,vB a3.vInt.vSigned,vI a3.vRef,vI a3.vN,vL A3_6 a3.vFields.length c3_6] 34 (0,0)),(some b3, .cells #[vL A2_0 a2.vDefs.length c2_0] 24 (0,0)),(some b2, .cells #[vI a1.vKind,vS a1.vName,vI a1.vInt.vSize,vB a1.vInt.vSigned,vI a1.vRef,vI a1.vN,vL A1_6 a1.vFields.length c1_6] 34 (0,0)),(some b1, .cells #[vL A0_0 a0.vDefs.length c0_0] 24 (0,0))] w') k ⟨0,(fit rfl),H,HS5⟩ ?_ ?_
   ·rintro m us w6 ⟨y1_0,huy1,H,HS6⟩
    obtain ⟨uy1,rfl⟩:=unj huy1
    cases m with
    |zero=>exact absurd H (by simp [taplineref08_alike.l0])
    |succ m=>
     rw [taplineref08_alike.l0] at H
     try simp only [patch,sc0,sc1]
     refine wp_seq<|wp_seq<|region<|rs (vI y1_0) (r_move rfl)<|rs (vP b2 6) (r_fieldBox (n:=1) (o':=6) rfl Tryd.runUnderlying34 rfl Tryd.sizeOf32 (by decide) rfl)<|rs (vL A1_6 a1.vFields.length c1_6) (r_loadBox rfl Tryd.isAgg32 (HS6.look 2 rfl) rfl)<|rs (vI (a1.vFields.length:Int)) (r_len rfl Tryd.runUnderlying32)<|run_frame (by simp only [sc0,sc1];rfl) ?_
     refine rs (vB (decide (y1_0<(a1.vFields.length:Int)))) (r_bin rfl rfl rfl) ?_
     try simp only [sc0,sc1]
     refine run_nil<|norm_then<|wp_cond_split (t:=(decide (y1_0<(a1.vFields.length:Int)))) rfl (fun c3=>?_) (fun c3=>?_)
     ·replace H:=of_pos H c3
      refine wp_skip<|norm_then<|wp_seq<|wp_block<|wp_seq<|region<|rs (vP b2 6) (r_fieldBox (n:=1) (o':=6) rfl Tryd.runUnderlying34 rfl Tryd.sizeOf32 (by decide) rfl)<|rs (vL A1_6 a1.vFields.length c1_6) (r_loadBox rfl Tryd.isAgg32 (HS6.look 2 rfl) rfl)<|rs (vI y1_0) (r_move rfl) ?_
      obtain ⟨hi1,H⟩:=of_ite H
      obtain ⟨ad1,e1,hel1⟩:=ld_api_Field hr1_6 hi1.1 hi1.2
      refine rs (Value.pointer (some (Addr.add ad1 (y1_0.toNat*3)))) (r_indexA (sz:=3) rfl e1 rfl hi1.1 hi1.2 Tryd.runUnderlying32 Tryd.sizeOf36)<|run_frame (by simp only [sc0,sc1];rfl) ?_
      refine rs (Value.agg #[vS ((rd z_api_Field a1.vFields y1_0).vName),vI ((rd z_api_Field a1.vFields y1_0).vType),vI ((rd z_api_Field a1.vFields y1_0).vAt)]) (r_loadAgg rfl Tryd.isAgg36 (hel1.sees HS6.sees) Tryd.sizeOf36)<|run_ex rfl rfl (does_alloc (cs:=#[vS ByteArray.empty,vI 0,vI 0]) Tryd.zeroValue36 rfl) ?_
      rintro w7 _ hE6 ⟨b5,rfl,ge5,hb5⟩
      have HS7:=HS6.new hE6 ge5 hb5
      refine run_st (i:=0) (cs:=[vS ByteArray.empty,vI 0,vI 0]) (cs':=[vS ((rd z_api_Field a1.vFields y1_0).vName),vI ((rd z_api_Field a1.vFields y1_0).vType),vI ((rd z_api_Field a1.vFields y1_0).vAt)]) (vs:=[vS ((rd z_api_Field a1.vFields y1_0).vName),vI ((rd z_api_Field a1.vFields y1_0).vType),vI ((rd z_api_Field a1.vFields y1_0).vAt)]) (bs':=[(some b5, .cells #[vS ((rd z_api_Field a1.vFields y1_0).vName),vI ((rd z_api_Field a1.vFields y1_0).vType),vI ((rd z_api_Field a1.vFields y1_0).vAt)] 36 (0,0)),(some b4, .cells #[vI a3.vKind,vS a3.vName,vI a3.vInt.vSize,vB a3.vInt.vSigned,vI a3.vRef,vI a3.vN,vL A3_6 a3.vFields.length c3_6] 34 (0,0)),(some b3, .cells #[vL A2_0 a2.vDefs.length c2_0] 24 (0,0)),(some b2, .cells #[vI a1.vKind,vS a1.vName,vI a1.vInt.vSize,vB a1.vInt.vSigned,vI a1.vRef,vI a1.vN,vL A1_6 a1.vFields.length c1_6] 34 (0,0)),(some b1, .cells #[vL A0_0 a0.vDefs.length c0_0] 24 (0,0))]) rfl rfl Tryd.sizeOf36 rfl rfl (by decide) rfl HS7 rfl (Nat.le_of_ble_eq_true rfl) rfl rfl ?_
      intro w8 HS8
      try simp only [sc0,sc1]
      refine run_nil<|norm_then<|wp_seq<|region<|rs (vP b4 6) (r_fieldBox (n:=1) (o':=6) rfl Tryd.runUnderlying34 rfl Tryd.sizeOf32 (by decide) rfl)<|rs (vL A3_6 a3.vFields.length c3_6) (r_loadBox rfl Tryd.isAgg32 (HS8.look 1 rfl) rfl)<|rs (vI y1_0) (r_move rfl) ?_
      obtain ⟨hi2,H⟩:=of_ite H
      obtain ⟨ad2,e2,hel2⟩:=ld_api_Field hr3_6 hi2.1 hi2.2
      refine rs (Value.pointer (some (Addr.add ad2 (y1_0.toNat*3)))) (r_indexA (sz:=3) rfl e2 rfl hi2.1 hi2.2 Tryd.runUnderlying32 Tryd.sizeOf36)<|run_frame (by simp only [sc0,sc1];rfl) ?_
      refine rs (Value.agg #[vS ((rd z_api_Field a3.vFields y1_0).vName),vI ((rd z_api_Field a3.vFields y1_0).vType),vI ((rd z_api_Field a3.vFields y1_0).vAt)]) (r_loadAgg rfl Tryd.isAgg36 (hel2.sees HS8.sees) Tryd.sizeOf36)<|run_ex rfl rfl (does_alloc (cs:=#[vS ByteArray.empty,vI 0,vI 0]) Tryd.zeroValue36 rfl) ?_
      rintro w9 _ hE7 ⟨b6,rfl,ge6,hb6⟩
      have HS9:=HS8.new hE7 ge6 hb6
      refine run_st (i:=0) (cs:=[vS ByteArray.empty,vI 0,vI 0]) (cs':=[vS ((rd z_api_Field a3.vFields y1_0).vName),vI ((rd z_api_Field a3.vFields y1_0).vType),vI ((rd z_api_Field a3.vFields y1_0).vAt)]) (vs:=[vS ((rd z_api_Field a3.vFields y1_0).vName),vI ((rd z_api_Field a3.vFields y1_0).vType),vI ((rd z_api_Field a3.vFields y1_0).vAt)]) (bs':=[(some b6, .cells #[vS ((rd z_api_Field a3.vFields y1_0).vName),vI ((rd z_api_Field a3.vFields y1_0).vType),vI ((rd z_api_Field a3.vFields y1_0).vAt)] 36 (0,0)),(some b5, .cells #[vS ((rd z_api_Field a1.vFields y1_0).vName),vI ((rd z_api_Field a1.vFields y1_0).vType),vI ((rd z_api_Field a1.vFields y1_0).vAt)] 36 (0,0)),(some b4, .cells #[vI a3.vKind,vS a3.vName,vI a3.vInt.vSize,vB a3.vInt.vSigned,vI a3.vRef,vI a3.vN,vL A3_6 a3.vFields.length c3_6] 34 (0,0)),(some b3, .cells #[vL A2_0 a2.vDefs.length c2_0] 24 (0,0)),(some b2, .cells #[vI a1.vKind,vS a1.vName,vI a1.vInt.vSize,vB a1.vInt.vSigned,vI a1.vRef,vI a1.vN,vL A1_6 a1.vFields.length c1_6] 34 (0,0)),(some b1, .cells #[vL A0_0 a0.vDefs.length c0_0] 24 (0,0))]) rfl rfl Tryd.sizeOf36 rfl rfl (by decide) rfl HS9 rfl (Nat.le_of_ble_eq_true rfl) rfl rfl ?_
      intro w10 HS10
      try simp only [sc0,sc1]
      refine run_nil<|norm_then<|wp_seq ?_
      obtain ⟨v3,H3,H⟩:=of_bind H
      obtain ⟨v4,H4,H⟩:=of_bind H
      refine drawn [.eq (vP b5 0), .eq (vS ((rd z_api_Field a1.vFields y1_0).vName)), .eq (vP b6 0), .eq (vS ((rd z_api_Field a3.vFields y1_0).vName)), .eq (vB (!(strEq ((rd z_api_Field a1.vFields y1_0).vName) ((rd z_api_Field a3.vFields y1_0).vName)))), .eq (vB (!(strEq ((rd z_api_Field a1.vFields y1_0).vName) ((rd z_api_Field a3.vFields y1_0).vName)))), .eq (gv (true&&((!(strEq ((rd z_api_Field a1.vFields y1_0).vName) ((rd z_api_Field a3.vFields y1_0).vName)))==false)) (vP b5 2)), .eq (gv (true&&((!(strEq ((rd z_api_Field a1.vFields y1_0).vName) ((rd z_api_Field a3.vFields y1_0).vName)))==false)) (vI ((rd z_api_Field a1.vFields y1_0).vAt))), .eq (gv (true&&((!(strEq ((rd z_api_Field a1.vFields y1_0).vName) ((rd z_api_Field a3.vFields y1_0).vName)))==false)) (vP b6 2)), .eq (gv (true&&((!(strEq ((rd z_api_Field a1.vFields y1_0).vName) ((rd z_api_Field a3.vFields y1_0).vName)))==false)) (vI ((rd z_api_Field a3.vFields y1_0).vAt))), .eq (gv (true&&((!(strEq ((rd z_api_Field a1.vFields y1_0).vName) ((rd z_api_Field a3.vFields y1_0).vName)))==false)) (vB ((rd z_api_Field a1.vFields y1_0).vAt !=(rd z_api_Field a3.vFields y1_0).vAt))), .eq (vB ((!(strEq ((rd z_api_Field a1.vFields y1_0).vName) ((rd z_api_Field a3.vFields y1_0).vName)))||((rd z_api_Field a1.vFields y1_0).vAt !=(rd z_api_Field a3.vFields y1_0).vAt))), .eq (vB ((!(strEq ((rd z_api_Field a1.vFields y1_0).vName) ((rd z_api_Field a3.vFields y1_0).vName)))||((rd z_api_Field a1.vFields y1_0).vAt !=(rd z_api_Field a3.vFields y1_0).vAt))), .eq (gv (true&&(((!(strEq ((rd z_api_Field a1.vFields y1_0).vName) ((rd z_api_Field a3.vFields y1_0).vName)))||((rd z_api_Field a1.vFields y1_0).vAt !=(rd z_api_Field a3.vFields y1_0).vAt))==false)) (vP b2 0)), .eq (gv (true&&(((!(strEq ((rd z_api_Field a1.vFields y1_0).vName) ((rd z_api_Field a3.vFields y1_0).vName)))||((rd z_api_Field a1.vFields y1_0).vAt !=(rd z_api_Field a3.vFields y1_0).vAt))==false)) (vI a1.vKind)), .eq (gv (true&&(((!(strEq ((rd z_api_Field a1.vFields y1_0).vName) ((rd z_api_Field a3.vFields y1_0).vName)))||((rd z_api_Field a1.vFields y1_0).vAt !=(rd z_api_Field a3.vFields y1_0).vAt))==false)) (vB (a1.vKind==4))), .eq (gv (true&&(((!(strEq ((rd z_api_Field a1.vFields y1_0).vName) ((rd z_api_Field a3.vFields y1_0).vName)))||((rd z_api_Field a1.vFields y1_0).vAt !=(rd z_api_Field a3.vFields y1_0).vAt))==false)) (vB (a1.vKind==4))), .eq (gv ((true&&(((!(strEq ((rd z_api_Field a1.vFields y1_0).vName) ((rd z_api_Field a3.vFields y1_0).vName)))||((rd z_api_Field a1.vFields y1_0).vAt !=(rd z_api_Field a3.vFields y1_0).vAt))==false))&&((a1.vKind==4)==true)) (Value.agg #[vL A0_0 a0.vDefs.length c0_0])), .eq (gv ((true&&(((!(strEq ((rd z_api_Field a1.vFields y1_0).vName) ((rd z_api_Field a3.vFields y1_0).vName)))||((rd z_api_Field a1.vFields y1_0).vAt !=(rd z_api_Field a3.vFields y1_0).vAt))==false))&&((a1.vKind==4)==true)) (vP b5 1)), .eq (gv ((true&&(((!(strEq ((rd z_api_Field a1.vFields y1_0).vName) ((rd z_api_Field a3.vFields y1_0).vName)))||((rd z_api_Field a1.vFields y1_0).vAt !=(rd z_api_Field a3.vFields y1_0).vAt))==false))&&((a1.vKind==4)==true)) (vI ((rd z_api_Field a1.vFields y1_0).vType))), .eq (gv ((true&&(((!(strEq ((rd z_api_Field a1.vFields y1_0).vName) ((rd z_api_Field a3.vFields y1_0).vName)))||((rd z_api_Field a1.vFields y1_0).vAt !=(rd z_api_Field a3.vFields y1_0).vAt))==false))&&((a1.vKind==4)==true)) (vS v3)), .eq (gv ((true&&(((!(strEq ((rd z_api_Field a1.vFields y1_0).vName) ((rd z_api_Field a3.vFields y1_0).vName)))||((rd z_api_Field a1.vFields y1_0).vAt !=(rd z_api_Field a3.vFields y1_0).vAt))==false))&&((a1.vKind==4)==true)) (Value.agg #[vL A2_0 a2.vDefs.length c2_0])), .eq (gv ((true&&(((!(strEq ((rd z_api_Field a1.vFields y1_0).vName) ((rd z_api_Field a3.vFields y1_0).vName)))||((rd z_api_Field a1.vFields y1_0).vAt !=(rd z_api_Field a3.vFields y1_0).vAt))==false))&&((a1.vKind==4)==true)) (vP b6 1)), .eq (gv ((true&&(((!(strEq ((rd z_api_Field a1.vFields y1_0).vName) ((rd z_api_Field a3.vFields y1_0).vName)))||((rd z_api_Field a1.vFields y1_0).vAt !=(rd z_api_Field a3.vFields y1_0).vAt))==false))&&((a1.vKind==4)==true)) (vI ((rd z_api_Field a3.vFields y1_0).vType))), .eq (gv ((true&&(((!(strEq ((rd z_api_Field a1.vFields y1_0).vName) ((rd z_api_Field a3.vFields y1_0).vName)))||((rd z_api_Field a1.vFields y1_0).vAt !=(rd z_api_Field a3.vFields y1_0).vAt))==false))&&((a1.vKind==4)==true)) (vS v4)), .eq (gv ((true&&(((!(strEq ((rd z_api_Field a1.vFields y1_0).vName) ((rd z_api_Field a3.vFields y1_0).vName)))||((rd z_api_Field a1.vFields y1_0).vAt !=(rd z_api_Field a3.vFields y1_0).vAt))==false))&&((a1.vKind==4)==true)) (vB (!(strEq v3 v4)))), .eq (gv (true&&(((!(strEq ((rd z_api_Field a1.vFields y1_0).vName) ((rd z_api_Field a3.vFields y1_0).vName)))||((rd z_api_Field a1.vFields y1_0).vAt !=(rd z_api_Field a3.vFields y1_0).vAt))==false)) (vB ((a1.vKind==4)&&(!(strEq v3 v4))))), .eq (vB (((!(strEq ((rd z_api_Field a1.vFields y1_0).vName) ((rd z_api_Field a3.vFields y1_0).vName)))||((rd z_api_Field a1.vFields y1_0).vAt !=(rd z_api_Field a3.vFields y1_0).vAt))||((a1.vKind==4)&&(!(strEq v3 v4)))))] [78,79,80,81,82,83,84,85,86,87,88,89,90,91,92,93,94,95,96,97,98,99,100,101,102,103,104,105] hmix (by kernel_rfl) rfl (stable_eq (stable_eq (stable_eq (stable_eq (stable_eq (stable_eq (stable_eq (stable_eq (stable_eq (stable_eq (stable_eq (stable_eq (stable_eq (stable_eq (stable_eq (stable_eq (stable_eq (stable_eq (stable_eq (stable_eq (stable_eq (stable_eq (stable_eq (stable_eq (stable_eq (stable_eq (stable_eq (stable_eq stable_nil)))))))))))))))))))))))))))) ⟨ob_plain rfl (fun a' w' hE hk=>by have HSd:=HS10.step hE;exact does_eq (r_fieldBox (n:=1) (o':=0) (show _=vP b5 0 from hk 10 rfl) Tryd.runUnderlying36 rfl Tryd.sizeOf9 (by decide) rfl)),ob_plain rfl (fun a' w' hE hk=>by have HSd:=HS10.step hE;exact does_eq (r_loadBox (show _=vP b5 0 from hk 78 rfl) Tryd.isAgg9 (HSd.look 1 rfl) rfl)),ob_plain rfl (fun a' w' hE hk=>by have HSd:=HS10.step hE;exact does_eq (r_fieldBox (n:=1) (o':=0) (show _=vP b6 0 from hk 11 rfl) Tryd.runUnderlying36 rfl Tryd.sizeOf9 (by decide) rfl)),ob_plain rfl (fun a' w' hE hk=>by have HSd:=HS10.step hE;exact does_eq (r_loadBox (show _=vP b6 0 from hk 80 rfl) Tryd.isAgg9 (HSd.look 0 rfl) rfl)),ob_plain rfl (fun a' w' hE hk=>by have HSd:=HS10.step hE;exact does_eq (r_strneq (show _=vS ((rd z_api_Field a1.vFields y1_0).vName) from hk 79 rfl) (show _=vS ((rd z_api_Field a3.vFields y1_0).vName) from hk 81 rfl))),ob_plain rfl (fun a' w' hE hk=>by have HSd:=HS10.step hE;exact does_eq (r_move (show _=vB (!(strEq ((rd z_api_Field a1.vFields y1_0).vName) ((rd z_api_Field a3.vFields y1_0).vName))) from hk 82 rfl))),ob_guard (b:=(!(strEq ((rd z_api_Field a1.vFields y1_0).vName) ((rd z_api_Field a3.vFields y1_0).vName)))) (c:=true) rfl rfl (by decide) (fun w' u hu=>hu) (fun a' w' hE hk hg=>by have HSd:=HS10.step hE;exact does_eq (r_fieldBox (n:=1) (o':=2) (show _=vP b5 0 from hk 10 rfl) Tryd.runUnderlying36 rfl Tryd.sizeOf3 (by decide) rfl)),ob_guard (b:=(!(strEq ((rd z_api_Field a1.vFields y1_0).vName) ((rd z_api_Field a3.vFields y1_0).vName)))) (c:=true) rfl rfl (by decide) (fun w' u hu=>hu) (fun a' w' hE hk hg=>by have HSd:=HS10.step hE;exact does_eq (r_loadBox ((show _=gv (true&&((!(strEq ((rd z_api_Field a1.vFields y1_0).vName) ((rd z_api_Field a3.vFields y1_0).vName)))==false)) (vP b5 2) from (show _=gv (true&&((!(strEq ((rd z_api_Field a1.vFields y1_0).vName) ((rd z_api_Field a3.vFields y1_0).vName)))==false)) (vP b5 2) from hk 84 rfl)).trans (gv_t hg)) Tryd.isAgg3 (HSd.look 1 rfl) rfl)),ob_guard (b:=(!(strEq ((rd z_api_Field a1.vFields y1_0).vName) ((rd z_api_Field a3.vFields y1_0).vName)))) (c:=true) rfl rfl (by decide) (fun w' u hu=>hu) (fun a' w' hE hk hg=>by have HSd:=HS10.step hE;exact does_eq (r_fieldBox (n:=1) (o':=2) (show _=vP b6 0 from hk 11 rfl) Tryd.runUnderlying36 rfl Tryd.sizeOf3 (by decide) rfl)),ob_guard (b:=(!(strEq ((rd z_api_Field a1.vFields y1_0).vName) ((rd z_api_Field a3.vFields y1_0).vName)))) (c:=true) rfl rfl (by decide) (fun w' u hu=>hu) (fun a' w' hE hk hg=>by have HSd:=HS10.step hE;exact does_eq (r_loadBox ((show _=gv (true&&((!(strEq ((rd z_api_Field a1.vFields y1_0).vName) ((rd z_api_Field a3.vFields y1_0).vName)))==false)) (vP b6 2) from (show _=gv (true&&((!(strEq ((rd z_api_Field a1.vFields y1_0).vName) ((rd z_api_Field a3.vFields y1_0).vName)))==false)) (vP b6 2) from hk 86 rfl)).trans (gv_t hg)) Tryd.isAgg3 (HSd.look 0 rfl) rfl)),ob_guard (b:=(!(strEq ((rd z_api_Field a1.vFields y1_0).vName) ((rd z_api_Field a3.vFields y1_0).vName)))) (c:=true) rfl rfl (by decide) (fun w' u hu=>hu) (fun a' w' hE hk hg=>by have HSd:=HS10.step hE;exact does_eq (r_bin ((show _=gv (true&&((!(strEq ((rd z_api_Field a1.vFields y1_0).vName) ((rd z_api_Field a3.vFields y1_0).vName)))==false)) (vI ((rd z_api_Field a1.vFields y1_0).vAt)) from (show _=gv (true&&((!(strEq ((rd z_api_Field a1.vFields y1_0).vName) ((rd z_api_Field a3.vFields y1_0).vName)))==false)) (vI ((rd z_api_Field a1.vFields y1_0).vAt)) from hk 85 rfl)).trans (gv_t hg)) ((show _=gv (true&&((!(strEq ((rd z_api_Field a1.vFields y1_0).vName) ((rd z_api_Field a3.vFields y1_0).vName)))==false)) (vI ((rd z_api_Field a3.vFields y1_0).vAt)) from (show _=gv (true&&((!(strEq ((rd z_api_Field a1.vFields y1_0).vName) ((rd z_api_Field a3.vFields y1_0).vName)))==false)) (vI ((rd z_api_Field a3.vFields y1_0).vAt)) from hk 87 rfl)).trans (gv_t hg)) rfl)),ob_plain rfl (fun a' w' hE hk=>by have HSd:=HS10.step hE;exact does_eq (r_pick_or (show _=vB (!(strEq ((rd z_api_Field a1.vFields y1_0).vName) ((rd z_api_Field a3.vFields y1_0).vName))) from hk 83 rfl) rfl (fun hp=>((show _=gv (true&&((!(strEq ((rd z_api_Field a1.vFields y1_0).vName) ((rd z_api_Field a3.vFields y1_0).vName)))==false)) (vB ((rd z_api_Field a1.vFields y1_0).vAt !=(rd z_api_Field a3.vFields y1_0).vAt)) from (show _=gv (true&&((!(strEq ((rd z_api_Field a1.vFields y1_0).vName) ((rd z_api_Field a3.vFields y1_0).vName)))==false)) (vB ((rd z_api_Field a1.vFields y1_0).vAt !=(rd z_api_Field a3.vFields y1_0).vAt)) from hk 88 rfl)).trans (gv_t (and_i rfl hp)))))),ob_plain rfl (fun a' w' hE hk=>by have HSd:=HS10.step hE;exact does_eq (r_move (show _=vB ((!(strEq ((rd z_api_Field a1.vFields y1_0).vName) ((rd z_api_Field a3.vFields y1_0).vName)))||((rd z_api_Field a1.vFields y1_0).vAt !=(rd z_api_Field a3.vFields y1_0).vAt)) from hk 89 rfl))),ob_guard (b:=((!(strEq ((rd z_api_Field a1.vFields y1_0).vName) ((rd z_api_Field a3.vFields y1_0).vName)))||((rd z_api_Field a1.vFields y1_0).vAt !=(rd z_api_Field a3.vFields y1_0).vAt))) (c:=true) rfl rfl (by decide) (fun w' u hu=>hu) (fun a' w' hE hk hg=>by have HSd:=HS10.step hE;exact does_eq (r_fieldBox (n:=1) (o':=0) (show _=vP b2 0 from hk 5 rfl) Tryd.runUnderlying34 rfl Tryd.sizeOf3 (by decide) rfl)),ob_guard (b:=((!(strEq ((rd z_api_Field a1.vFields y1_0).vName) ((rd z_api_Field a3.vFields y1_0).vName)))||((rd z_api_Field a1.vFields y1_0).vAt !=(rd z_api_Field a3.vFields y1_0).vAt))) (c:=true) rfl rfl (by decide) (fun w' u hu=>hu) (fun a' w' hE hk hg=>by have HSd:=HS10.step hE;exact does_eq (r_loadBox ((show _=gv (true&&(((!(strEq ((rd z_api_Field a1.vFields y1_0).vName) ((rd z_api_Field a3.vFields y1_0).vName)))||((rd z_api_Field a1.vFields y1_0).vAt !=(rd z_api_Field a3.vFields y1_0).vAt))==false)) (vP b2 0) from (show _=gv (true&&(((!(strEq ((rd z_api_Field a1.vFields y1_0).vName) ((rd z_api_Field a3.vFields y1_0).vName)))||((rd z_api_Field a1.vFields y1_0).vAt !=(rd z_api_Field a3.vFields y1_0).vAt))==false)) (vP b2 0) from hk 91 rfl)).trans (gv_t hg)) Tryd.isAgg3 (HSd.look 4 rfl) rfl)),ob_guard (b:=((!(strEq ((rd z_api_Field a1.vFields y1_0).vName) ((rd z_api_Field a3.vFields y1_0).vName)))||((rd z_api_Field a1.vFields y1_0).vAt !=(rd z_api_Field a3.vFields y1_0).vAt))) (c:=true) rfl rfl (by decide) (fun w' u hu=>hu) (fun a' w' hE hk hg=>by have HSd:=HS10.step hE;exact does_eq (r_bin ((show _=gv (true&&(((!(strEq ((rd z_api_Field a1.vFields y1_0).vName) ((rd z_api_Field a3.vFields y1_0).vName)))||((rd z_api_Field a1.vFields y1_0).vAt !=(rd z_api_Field a3.vFields y1_0).vAt))==false)) (vI a1.vKind) from (show _=gv (true&&(((!(strEq ((rd z_api_Field a1.vFields y1_0).vName) ((rd z_api_Field a3.vFields y1_0).vName)))||((rd z_api_Field a1.vFields y1_0).vAt !=(rd z_api_Field a3.vFields y1_0).vAt))==false)) (vI a1.vKind) from hk 92 rfl)).trans (gv_t hg)) rfl rfl)),ob_guard (b:=((!(strEq ((rd z_api_Field a1.vFields y1_0).vName) ((rd z_api_Field a3.vFields y1_0).vName)))||((rd z_api_Field a1.vFields y1_0).vAt !=(rd z_api_Field a3.vFields y1_0).vAt))) (c:=true) rfl rfl (by decide) (fun w' u hu=>hu) (fun a' w' hE hk hg=>by have HSd:=HS10.step hE;exact does_eq (r_move ((show _=gv (true&&(((!(strEq ((rd z_api_Field a1.vFields y1_0).vName) ((rd z_api_Field a3.vFields y1_0).vName)))||((rd z_api_Field a1.vFields y1_0).vAt !=(rd z_api_Field a3.vFields y1_0).vAt))==false)) (vB (a1.vKind==4)) from (show _=gv (true&&(((!(strEq ((rd z_api_Field a1.vFields y1_0).vName) ((rd z_api_Field a3.vFields y1_0).vName)))||((rd z_api_Field a1.vFields y1_0).vAt !=(rd z_api_Field a3.vFields y1_0).vAt))==false)) (vB (a1.vKind==4)) from hk 93 rfl)).trans (gv_t hg)))),ob_guard (b:=(a1.vKind==4)) (c:=(true&&(((!(strEq ((rd z_api_Field a1.vFields y1_0).vName) ((rd z_api_Field a3.vFields y1_0).vName)))||((rd z_api_Field a1.vFields y1_0).vAt !=(rd z_api_Field a3.vFields y1_0).vAt))==false))) rfl rfl (by decide) (fun w' u hu=>hu) (fun a' w' hE hk hg=>by have HSd:=HS10.step hE;exact does_eq (r_loadBoxAgg (n:=1) (vs:=[vL A0_0 a0.vDefs.length c0_0]) (show _=vP b1 0 from hk 4 rfl) Tryd.isAgg24 (HSd.look 5 rfl) Tryd.sizeOf24 rfl rfl)),ob_guard (b:=(a1.vKind==4)) (c:=(true&&(((!(strEq ((rd z_api_Field a1.vFields y1_0).vName) ((rd z_api_Field a3.vFields y1_0).vName)))||((rd z_api_Field a1.vFields y1_0).vAt !=(rd z_api_Field a3.vFields y1_0).vAt))==false))) rfl rfl (by decide) (fun w' u hu=>hu) (fun a' w' hE hk hg=>by have HSd:=HS10.step hE;exact does_eq (r_fieldBox (n:=1) (o':=1) (show _=vP b5 0 from hk 10 rfl) Tryd.runUnderlying36 rfl Tryd.sizeOf3 (by decide) rfl)),ob_guard (b:=(a1.vKind==4)) (c:=(true&&(((!(strEq ((rd z_api_Field a1.vFields y1_0).vName) ((rd z_api_Field a3.vFields y1_0).vName)))||((rd z_api_Field a1.vFields y1_0).vAt !=(rd z_api_Field a3.vFields y1_0).vAt))==false))) rfl rfl (by decide) (fun w' u hu=>hu) (fun a' w' hE hk hg=>by have HSd:=HS10.step hE;exact does_eq (r_loadBox ((show _=gv ((true&&(((!(strEq ((rd z_api_Field a1.vFields y1_0).vName) ((rd z_api_Field a3.vFields y1_0).vName)))||((rd z_api_Field a1.vFields y1_0).vAt !=(rd z_api_Field a3.vFields y1_0).vAt))==false))&&((a1.vKind==4)==true)) (vP b5 1) from (show _=gv ((true&&(((!(strEq ((rd z_api_Field a1.vFields y1_0).vName) ((rd z_api_Field a3.vFields y1_0).vName)))||((rd z_api_Field a1.vFields y1_0).vAt !=(rd z_api_Field a3.vFields y1_0).vAt))==false))&&((a1.vKind==4)==true)) (vP b5 1) from hk 96 rfl)).trans (gv_t hg)) Tryd.isAgg3 (HSd.look 1 rfl) rfl)),ob_guard (b:=(a1.vKind==4)) (c:=(true&&(((!(strEq ((rd z_api_Field a1.vFields y1_0).vName) ((rd z_api_Field a3.vFields y1_0).vName)))||((rd z_api_Field a1.vFields y1_0).vAt !=(rd z_api_Field a3.vFields y1_0).vAt))==false))) rfl rfl (by decide) (fun w' u hu=>hu) (fun a' w' hE hk hg=>by have HSd:=HS10.step hE;exact (does_call_eq Tryd.call56 rfl (map2 ((show _=gv ((true&&(((!(strEq ((rd z_api_Field a1.vFields y1_0).vName) ((rd z_api_Field a3.vFields y1_0).vName)))||((rd z_api_Field a1.vFields y1_0).vAt !=(rd z_api_Field a3.vFields y1_0).vAt))==false))&&((a1.vKind==4)==true)) (Value.agg #[vL A0_0 a0.vDefs.length c0_0]) from (show _=gv ((true&&(((!(strEq ((rd z_api_Field a1.vFields y1_0).vName) ((rd z_api_Field a3.vFields y1_0).vName)))||((rd z_api_Field a1.vFields y1_0).vAt !=(rd z_api_Field a3.vFields y1_0).vAt))==false))&&((a1.vKind==4)==true)) (Value.agg #[vL A0_0 a0.vDefs.length c0_0]) from hk 95 rfl)).trans (gv_t hg)) ((show _=gv ((true&&(((!(strEq ((rd z_api_Field a1.vFields y1_0).vName) ((rd z_api_Field a3.vFields y1_0).vName)))||((rd z_api_Field a1.vFields y1_0).vAt !=(rd z_api_Field a3.vFields y1_0).vAt))==false))&&((a1.vKind==4)==true)) (vI ((rd z_api_Field a1.vFields y1_0).vType)) from (show _=gv ((true&&(((!(strEq ((rd z_api_Field a1.vFields y1_0).vName) ((rd z_api_Field a3.vFields y1_0).vName)))||((rd z_api_Field a1.vFields y1_0).vAt !=(rd z_api_Field a3.vFields y1_0).vAt))==false))&&((a1.vKind==4)==true)) (vI ((rd z_api_Field a1.vFields y1_0).vType)) from hk 97 rfl)).trans (gv_t hg))) (taplineref08_Text.calls k a0 ((rd z_api_Field a1.vFields y1_0).vType) A0_0 c0_0 HSd.sees hr0_0 hc0_0 (of_pos H3 hg)))),ob_guard (b:=(a1.vKind==4)) (c:=(true&&(((!(strEq ((rd z_api_Field a1.vFields y1_0).vName) ((rd z_api_Field a3.vFields y1_0).vName)))||((rd z_api_Field a1.vFields y1_0).vAt !=(rd z_api_Field a3.vFields y1_0).vAt))==false))) rfl rfl (by decide) (fun w' u hu=>hu) (fun a' w' hE hk hg=>by have HSd:=HS10.step hE;exact does_eq (r_loadBoxAgg (n:=1) (vs:=[vL A2_0 a2.vDefs.length c2_0]) (show _=vP b3 0 from hk 6 rfl) Tryd.isAgg24 (HSd.look 3 rfl) Tryd.sizeOf24 rfl rfl)),ob_guard (b:=(a1.vKind==4)) (c:=(true&&(((!(strEq ((rd z_api_Field a1.vFields y1_0).vName) ((rd z_api_Field a3.vFields y1_0).vName)))||((rd z_api_Field a1.vFields y1_0).vAt !=(rd z_api_Field a3.vFields y1_0).vAt))==false))) rfl rfl (by decide) (fun w' u hu=>hu) (fun a' w' hE hk hg=>by have HSd:=HS10.step hE;exact does_eq (r_fieldBox (n:=1) (o':=1) (show _=vP b6 0 from hk 11 rfl) Tryd.runUnderlying36 rfl Tryd.sizeOf3 (by decide) rfl)),ob_guard (b:=(a1.vKind==4)) (c:=(true&&(((!(strEq ((rd z_api_Field a1.vFields y1_0).vName) ((rd z_api_Field a3.vFields y1_0).vName)))||((rd z_api_Field a1.vFields y1_0).vAt !=(rd z_api_Field a3.vFields y1_0).vAt))==false))) rfl rfl (by decide) (fun w' u hu=>hu) (fun a' w' hE hk hg=>by have HSd:=HS10.step hE;exact does_eq (r_loadBox ((show _=gv ((true&&(((!(strEq ((rd z_api_Field a1.vFields y1_0).vName) ((rd z_api_Field a3.vFields y1_0).vName)))||((rd z_api_Field a1.vFields y1_0).vAt !=(rd z_api_Field a3.vFields y1_0).vAt))==false))&&((a1.vKind==4)==true)) (vP b6 1) from (show _=gv ((true&&(((!(strEq ((rd z_api_Field a1.vFields y1_0).vName) ((rd z_api_Field a3.vFields y1_0).vName)))||((rd z_api_Field a1.vFields y1_0).vAt !=(rd z_api_Field a3.vFields y1_0).vAt))==false))&&((a1.vKind==4)==true)) (vP b6 1) from hk 100 rfl)).trans (gv_t hg)) Tryd.isAgg3 (HSd.look 0 rfl) rfl)),ob_guard (b:=(a1.vKind==4)) (c:=(true&&(((!(strEq ((rd z_api_Field a1.vFields y1_0).vName) ((rd z_api_Field a3.vFields y1_0).vName)))||((rd z_api_Field a1.vFields y1_0).vAt !=(rd z_api_Field a3.vFields y1_0).vAt))==false))) rfl rfl (by decide) (fun w' u hu=>hu) (fun a' w' hE hk hg=>by have HSd:=HS10.step hE;exact (does_call_eq Tryd.call56 rfl (map2 ((show _=gv ((true&&(((!(strEq ((rd z_api_Field a1.vFields y1_0).vName) ((rd z_api_Field a3.vFields y1_0).vName)))||((rd z_api_Field a1.vFields y1_0).vAt !=(rd z_api_Field a3.vFields y1_0).vAt))==false))&&((a1.vKind==4)==true)) (Value.agg #[vL A2_0 a2.vDefs.length c2_0]) from (show _=gv ((true&&(((!(strEq ((rd z_api_Field a1.vFields y1_0).vName) ((rd z_api_Field a3.vFields y1_0).vName)))||((rd z_api_Field a1.vFields y1_0).vAt !=(rd z_api_Field a3.vFields y1_0).vAt))==false))&&((a1.vKind==4)==true)) (Value.agg #[vL A2_0 a2.vDefs.length c2_0]) from hk 99 rfl)).trans (gv_t hg)) ((show _=gv ((true&&(((!(strEq ((rd z_api_Field a1.vFields y1_0).vName) ((rd z_api_Field a3.vFields y1_0).vName)))||((rd z_api_Field a1.vFields y1_0).vAt !=(rd z_api_Field a3.vFields y1_0).vAt))==false))&&((a1.vKind==4)==true)) (vI ((rd z_api_Field a3.vFields y1_0).vType)) from (show _=gv ((true&&(((!(strEq ((rd z_api_Field a1.vFields y1_0).vName) ((rd z_api_Field a3.vFields y1_0).vName)))||((rd z_api_Field a1.vFields y1_0).vAt !=(rd z_api_Field a3.vFields y1_0).vAt))==false))&&((a1.vKind==4)==true)) (vI ((rd z_api_Field a3.vFields y1_0).vType)) from hk 101 rfl)).trans (gv_t hg))) (taplineref08_Text.calls k a2 ((rd z_api_Field a3.vFields y1_0).vType) A2_0 c2_0 HSd.sees hr2_0 hc2_0 (of_pos H4 hg)))),ob_guard (b:=(a1.vKind==4)) (c:=(true&&(((!(strEq ((rd z_api_Field a1.vFields y1_0).vName) ((rd z_api_Field a3.vFields y1_0).vName)))||((rd z_api_Field a1.vFields y1_0).vAt !=(rd z_api_Field a3.vFields y1_0).vAt))==false))) rfl rfl (by decide) (fun w' u hu=>hu) (fun a' w' hE hk hg=>by have HSd:=HS10.step hE;exact does_eq (r_strneq ((show _=gv ((true&&(((!(strEq ((rd z_api_Field a1.vFields y1_0).vName) ((rd z_api_Field a3.vFields y1_0).vName)))||((rd z_api_Field a1.vFields y1_0).vAt !=(rd z_api_Field a3.vFields y1_0).vAt))==false))&&((a1.vKind==4)==true)) (vS v3) from (show _=gv ((true&&(((!(strEq ((rd z_api_Field a1.vFields y1_0).vName) ((rd z_api_Field a3.vFields y1_0).vName)))||((rd z_api_Field a1.vFields y1_0).vAt !=(rd z_api_Field a3.vFields y1_0).vAt))==false))&&((a1.vKind==4)==true)) (vS v3) from hk 98 rfl)).trans (gv_t hg)) ((show _=gv ((true&&(((!(strEq ((rd z_api_Field a1.vFields y1_0).vName) ((rd z_api_Field a3.vFields y1_0).vName)))||((rd z_api_Field a1.vFields y1_0).vAt !=(rd z_api_Field a3.vFields y1_0).vAt))==false))&&((a1.vKind==4)==true)) (vS v4) from (show _=gv ((true&&(((!(strEq ((rd z_api_Field a1.vFields y1_0).vName) ((rd z_api_Field a3.vFields y1_0).vName)))||((rd z_api_Field a1.vFields y1_0).vAt !=(rd z_api_Field a3.vFields y1_0).vAt))==false))&&((a1.vKind==4)==true)) (vS v4) from hk 102 rfl)).trans (gv_t hg)))),ob_guard (b:=((!(strEq ((rd z_api_Field a1.vFields y1_0).vName) ((rd z_api_Field a3.vFields y1_0).vName)))||((rd z_api_Field a1.vFields y1_0).vAt !=(rd z_api_Field a3.vFields y1_0).vAt))) (c:=true) rfl rfl (by decide) (fun w' u hu=>hu) (fun a' w' hE hk hg=>by have HSd:=HS10.step hE;exact does_eq (r_pick_and ((show _=gv (true&&(((!(strEq ((rd z_api_Field a1.vFields y1_0).vName) ((rd z_api_Field a3.vFields y1_0).vName)))||((rd z_api_Field a1.vFields y1_0).vAt !=(rd z_api_Field a3.vFields y1_0).vAt))==false)) (vB (a1.vKind==4)) from (show _=gv (true&&(((!(strEq ((rd z_api_Field a1.vFields y1_0).vName) ((rd z_api_Field a3.vFields y1_0).vName)))||((rd z_api_Field a1.vFields y1_0).vAt !=(rd z_api_Field a3.vFields y1_0).vAt))==false)) (vB (a1.vKind==4)) from hk 94 rfl)).trans (gv_t hg)) (fun hp=>((show _=gv ((true&&(((!(strEq ((rd z_api_Field a1.vFields y1_0).vName) ((rd z_api_Field a3.vFields y1_0).vName)))||((rd z_api_Field a1.vFields y1_0).vAt !=(rd z_api_Field a3.vFields y1_0).vAt))==false))&&((a1.vKind==4)==true)) (vB (!(strEq v3 v4))) from (show _=gv ((true&&(((!(strEq ((rd z_api_Field a1.vFields y1_0).vName) ((rd z_api_Field a3.vFields y1_0).vName)))||((rd z_api_Field a1.vFields y1_0).vAt !=(rd z_api_Field a3.vFields y1_0).vAt))==false))&&((a1.vKind==4)==true)) (vB (!(strEq v3 v4))) from hk 103 rfl)).trans (gv_t (and_i hg hp)))) rfl)),ob_plain rfl (fun a' w' hE hk=>by have HSd:=HS10.step hE;exact does_eq (r_pick_or (show _=vB ((!(strEq ((rd z_api_Field a1.vFields y1_0).vName) ((rd z_api_Field a3.vFields y1_0).vName)))||((rd z_api_Field a1.vFields y1_0).vAt !=(rd z_api_Field a3.vFields y1_0).vAt)) from hk 90 rfl) rfl (fun hp=>((show _=gv (true&&(((!(strEq ((rd z_api_Field a1.vFields y1_0).vName) ((rd z_api_Field a3.vFields y1_0).vName)))||((rd z_api_Field a1.vFields y1_0).vAt !=(rd z_api_Field a3.vFields y1_0).vAt))==false)) (vB ((a1.vKind==4)&&(!(strEq v3 v4)))) from (show _=gv (true&&(((!(strEq ((rd z_api_Field a1.vFields y1_0).vName) ((rd z_api_Field a3.vFields y1_0).vName)))||((rd z_api_Field a1.vFields y1_0).vAt !=(rd z_api_Field a3.vFields y1_0).vAt))==false)) (vB ((a1.vKind==4)&&(!(strEq v3 v4)))) from hk 104 rfl)).trans (gv_t (and_i rfl hp)))))),trivial⟩ ?_
      intro w11 hE8
      simp only [List.zip_cons_cons,List.zip_nil_left,List.zip_nil_right,finL,sc0,sc1,List.length_cons,List.length_nil,List.drop_succ_cons,List.drop_zero,Nat.zero_add,Nat.reduceAdd]
      have HS11:=HS10.step hE8
      refine run_nil<|norm_then<|wp_cond_split (t:=(((!(strEq ((rd z_api_Field a1.vFields y1_0).vName) ((rd z_api_Field a3.vFields y1_0).vName)))||((rd z_api_Field a1.vFields y1_0).vAt !=(rd z_api_Field a3.vFields y1_0).vAt))||((a1.vKind==4)&&(!(strEq v3 v4))))) rfl (fun c4=>?_) (fun c4=>?_)
      ·replace H:=of_pos H c4
       refine wp_seq<|region<|rs (vB false) (r_assign rfl) ?_
       try simp only [sc0,sc1]
       refine run_nil<|norm_then<|wp_ret<|ret_block<|ret_then<|ret_loop<|ret_then ?_
       obtain rfl:=Option.some.inj H
       obtain rfl:=Option.some.inj G1
       exact bodyPost_ret (results_1 rfl (one_tmp rfl)) rfl<|⟨rfl,HS11.toE⟩
      ·replace H:=of_neg H (nt c4)
       refine wp_skip<|norm_block<|norm_then<|region<|rs (vI y1_0) (r_move rfl)<|rs (vI (w64 (y1_0+1))) (r_bin rfl rfl rfl)<|rs (vI (w64 (y1_0+1))) (r_assign rfl) ?_
       try simp only [sc0,sc1]
       refine run_nil<|again_j m (Nat.lt_succ_self m) rfl ⟨(w64 (y1_0+1)),(fit rfl),H,HS11.tail.tail⟩
     ·replace H:=of_neg H (nt c3)
      refine wp_exit<|exit_then ?_
      obtain rfl:=Option.some.inj H
      refine leave_j rfl ⟨_,rfl,(fit rfl),HS6⟩
   ·rintro us w12 ⟨s1,rfl,huo1,HS12⟩
    obtain ⟨uo1,rfl⟩:=unj huo1
    replace H:=G1
    clear G1
    try simp only [patch,sc0,sc1]
    refine norm_then<|wp_seq<|region<|rs (vB true) (r_assign rfl) ?_
    try simp only [sc0,sc1]
    refine run_nil<|norm_then<|wp_ret ?_
    obtain rfl:=Option.some.inj H
    exact bodyPost_ret (results_1 rfl (one_tmp rfl)) rfl<|⟨rfl,HS12.toE⟩
def taplineref08_Equal.l0 (k:Nat) (a0:api_Types) (a2:api_Types) (v5:(List Bool)):Nat→Int→Option ((Bool)⊕(Unit))
 |0,_=>none
 |m+1,y1_0=>if (decide (y1_0<(a0.vDefs.length:Int)))=true then (if 0≤y1_0∧y1_0<v5.length then (if (true&&((!(rd false v5 y1_0))==false))=true→(0≤y1_0∧y1_0<a0.vDefs.length) then ((if (true&&((!(rd false v5 y1_0))==false))=true then taplineref08_Named.f (rd z_api_Def a0.vDefs y1_0) else some false).bind fun v6=>(if ((!(rd false v5 y1_0))||(!v6))=true then (taplineref08_Equal.l0 k a0 a2 v5 m (IntKind.wrap .i64 (y1_0+1))) else (if 0≤y1_0∧y1_0<a0.vDefs.length then ((taplineref08_Find.f k a2 ((rd z_api_Def a0.vDefs y1_0).vName)).bind fun v7=>(if (true&&((decide (v7<0))==false))=true→(0≤y1_0∧y1_0<a0.vDefs.length) then (if (true&&((decide (v7<0))==false))=true→(0≤v7∧v7<a2.vDefs.length) then ((if (true&&((decide (v7<0))==false))=true then taplineref08_alike.f k a0 (rd z_api_Def a0.vDefs y1_0) a2 (rd z_api_Def a2.vDefs v7) else some false).bind fun v8=>(if ((decide (v7<0))||(!v8))=true then (some (.inl false)) else (taplineref08_Equal.l0 k a0 a2 v5 m (IntKind.wrap .i64 (y1_0+1))))) else none) else none)) else none))) else none) else none) else (some (.inr ()))
def taplineref08_Equal.f (k:Nat) (a0:api_Types) (a1:Int) (a2:api_Types) (a3:Int):Option (Bool):=(taplineref08_given.f k a0 a1).bind fun v1=>((if (true&&((v1 !=0)==false))=true then taplineref08_given.f k a2 a3 else some 0).bind fun v2=>((if (true&&(((v1 !=0)||(v2 !=0))==false))=true then taplineref08_Text.f k a0 a1 else some ByteArray.empty).bind fun v3=>((if (true&&(((v1 !=0)||(v2 !=0))==false))=true then taplineref08_Text.f k a2 a3 else some ByteArray.empty).bind fun v4=>(if (((v1 !=0)||(v2 !=0))||(!(strEq v3 v4)))=true then (some false) else ((taplineref08_Reach.f k a0 ([a1]:List Int)).bind fun v5=>((taplineref08_Equal.l0 k a0 a2 v5 k 0).bind fun xx1=>(match xx1 with| .inl r=>some r| .inr s1=>some true)))))))
theorem taplineref08_Equal.calls (k:Nat) (a0:api_Types) (a1:Int) (a2:api_Types) (a3:Int) (A0_0:Option Addr) (c0_0:Nat) (A2_0:Option Addr) (c2_0:Nat) {h0:View} {w0:World} (hv:Sees h0 w0) (hr0_0:Rd k_api_Def h0 A0_0 a0.vDefs) (hc0_0:a0.vDefs.length≤c0_0) (hr2_0:Rd k_api_Def h0 A2_0 a2.vDefs) (hc2_0:a2.vDefs.length≤c2_0) {r:Bool} (H:taplineref08_Equal.f k a0 a1 a2 a3=some r):Calls Tryd.prog 32 #[Value.agg #[vL A0_0 a0.vDefs.length c0_0],vI a1,Value.agg #[vL A2_0 a2.vDefs.length c2_0],vI a3] w0 (fun e w1=>e= .returned (vB r)∧Ext w0 w1):=by
 unfold taplineref08_Equal.f at H
 have HS:St [] h0 w0 h0 [] w0:=St.init hv
 go_enter Tryd.func32,Tryd.ntmps32
 refine wp_seq<|region<|run_ex rfl rfl (does_box (cs:=#[vL A0_0 a0.vDefs.length c0_0]) rfl rfl) ?_
 rintro w1 _ hE1 ⟨b1,rfl,ge1,hb1⟩
 have HS1:=HS.new hE1 ge1 hb1
 refine run_ex rfl rfl (does_box (cs:=#[vL A2_0 a2.vDefs.length c2_0]) rfl rfl) ?_
 rintro w2 _ hE2 ⟨b2,rfl,ge2,hb2⟩
 have HS2:=HS1.new hE2 ge2 hb2
 refine rs (vB false) (r_assign rfl) ?_
 try simp only [sc0,sc1]
 refine run_nil<|norm_then<|wp_seq<|wp_seq ?_
 obtain ⟨v1,H1,H⟩:=of_bind H
 obtain ⟨v2,H2,H⟩:=of_bind H
 obtain ⟨v3,H3,H⟩:=of_bind H
 obtain ⟨v4,H4,H⟩:=of_bind H
 refine drawn [.eq (Value.agg #[vL A0_0 a0.vDefs.length c0_0]), .eq (vI a1), .eq (vI v1), .eq (vB (v1 !=0)), .eq (vB (v1 !=0)), .eq (gv (true&&((v1 !=0)==false)) (Value.agg #[vL A2_0 a2.vDefs.length c2_0])), .eq (gv (true&&((v1 !=0)==false)) (vI a3)), .eq (gv (true&&((v1 !=0)==false)) (vI v2)), .eq (gv (true&&((v1 !=0)==false)) (vB (v2 !=0))), .eq (vB ((v1 !=0)||(v2 !=0))), .eq (vB ((v1 !=0)||(v2 !=0))), .eq (gv (true&&(((v1 !=0)||(v2 !=0))==false)) (Value.agg #[vL A0_0 a0.vDefs.length c0_0])), .eq (gv (true&&(((v1 !=0)||(v2 !=0))==false)) (vI a1)), .eq (gv (true&&(((v1 !=0)||(v2 !=0))==false)) (vS v3)), .eq (gv (true&&(((v1 !=0)||(v2 !=0))==false)) (Value.agg #[vL A2_0 a2.vDefs.length c2_0])), .eq (gv (true&&(((v1 !=0)||(v2 !=0))==false)) (vI a3)), .eq (gv (true&&(((v1 !=0)||(v2 !=0))==false)) (vS v4)), .eq (gv (true&&(((v1 !=0)||(v2 !=0))==false)) (vB (!(strEq v3 v4)))), .eq (vB (((v1 !=0)||(v2 !=0))||(!(strEq v3 v4))))] [12,13,14,15,16,17,18,19,20,21,22,23,24,25,26,27,28,29,30] hmix (by kernel_rfl) rfl (stable_eq (stable_eq (stable_eq (stable_eq (stable_eq (stable_eq (stable_eq (stable_eq (stable_eq (stable_eq (stable_eq (stable_eq (stable_eq (stable_eq (stable_eq (stable_eq (stable_eq (stable_eq (stable_eq stable_nil))))))))))))))))))) ⟨ob_plain rfl (fun a' w' hE hk=>by have HSd:=HS2.step hE;exact does_eq (r_loadBoxAgg (n:=1) (vs:=[vL A0_0 a0.vDefs.length c0_0]) (show _=vP b1 0 from hk 4 rfl) Tryd.isAgg24 (HSd.look 1 rfl) Tryd.sizeOf24 rfl rfl)),ob_plain rfl (fun a' w' hE hk=>by have HSd:=HS2.step hE;exact does_eq (r_move (show _=vI a1 from hk 1 rfl))),ob_plain rfl (fun a' w' hE hk=>by have HSd:=HS2.step hE;exact (does_call_eq Tryd.call55 rfl (map2 (show _=Value.agg #[vL A0_0 a0.vDefs.length c0_0] from hk 12 rfl) (show _=vI a1 from hk 13 rfl)) (taplineref08_given.calls k a0 a1 A0_0 c0_0 HSd.sees hr0_0 hc0_0 H1))),ob_plain rfl (fun a' w' hE hk=>by have HSd:=HS2.step hE;exact does_eq (r_bin (show _=vI v1 from hk 14 rfl) rfl rfl)),ob_plain rfl (fun a' w' hE hk=>by have HSd:=HS2.step hE;exact does_eq (r_move (show _=vB (v1 !=0) from hk 15 rfl))),ob_guard (b:=(v1 !=0)) (c:=true) rfl rfl (by decide) (fun w' u hu=>hu) (fun a' w' hE hk hg=>by have HSd:=HS2.step hE;exact does_eq (r_loadBoxAgg (n:=1) (vs:=[vL A2_0 a2.vDefs.length c2_0]) (show _=vP b2 0 from hk 6 rfl) Tryd.isAgg24 (HSd.look 0 rfl) Tryd.sizeOf24 rfl rfl)),ob_guard (b:=(v1 !=0)) (c:=true) rfl rfl (by decide) (fun w' u hu=>hu) (fun a' w' hE hk hg=>by have HSd:=HS2.step hE;exact does_eq (r_move (show _=vI a3 from hk 3 rfl))),ob_guard (b:=(v1 !=0)) (c:=true) rfl rfl (by decide) (fun w' u hu=>hu) (fun a' w' hE hk hg=>by have HSd:=HS2.step hE;exact (does_call_eq Tryd.call55 rfl (map2 ((show _=gv (true&&((v1 !=0)==false)) (Value.agg #[vL A2_0 a2.vDefs.length c2_0]) from (show _=gv (true&&((v1 !=0)==false)) (Value.agg #[vL A2_0 a2.vDefs.length c2_0]) from hk 17 rfl)).trans (gv_t hg)) ((show _=gv (true&&((v1 !=0)==false)) (vI a3) from (show _=gv (true&&((v1 !=0)==false)) (vI a3) from hk 18 rfl)).trans (gv_t hg))) (taplineref08_given.calls k a2 a3 A2_0 c2_0 HSd.sees hr2_0 hc2_0 (of_pos H2 hg)))),ob_guard (b:=(v1 !=0)) (c:=true) rfl rfl (by decide) (fun w' u hu=>hu) (fun a' w' hE hk hg=>by have HSd:=HS2.step hE;exact does_eq (r_bin ((show _=gv (true&&((v1 !=0)==false)) (vI v2) from (show _=gv (true&&((v1 !=0)==false)) (vI v2) from hk 19 rfl)).trans (gv_t hg)) rfl rfl)),ob_plain rfl (fun a' w' hE hk=>by have HSd:=HS2.step hE;exact does_eq (r_pick_or (show _=vB (v1 !=0) from hk 16 rfl) rfl (fun hp=>((show _=gv (true&&((v1 !=0)==false)) (vB (v2 !=0)) from (show _=gv (true&&((v1 !=0)==false)) (vB (v2 !=0)) from hk 20 rfl)).trans (gv_t (and_i rfl hp)))))),ob_plain rfl (fun a' w' hE hk=>by have HSd:=HS2.step hE;exact does_eq (r_move (show _=vB ((v1 !=0)||(v2 !=0)) from hk 21 rfl))),ob_guard (b:=((v1 !=0)||(v2 !=0))) (c:=true) rfl rfl (by decide) (fun w' u hu=>hu) (fun a' w' hE hk hg=>by have HSd:=HS2.step hE;exact does_eq (r_loadBoxAgg (n:=1) (vs:=[vL A0_0 a0.vDefs.length c0_0]) (show _=vP b1 0 from hk 4 rfl) Tryd.isAgg24 (HSd.look 1 rfl) Tryd.sizeOf24 rfl rfl)),ob_guard (b:=((v1 !=0)||(v2 !=0))) (c:=true) rfl rfl (by decide) (fun w' u hu=>hu) (fun a' w' hE hk hg=>by have HSd:=HS2.step hE;exact does_eq (r_move (show _=vI a1 from hk 1 rfl))),ob_guard (b:=((v1 !=0)||(v2 !=0))) (c:=true) rfl rfl (by decide) (fun w' u hu=>hu) (fun a' w' hE hk hg=>by have HSd:=HS2.step hE;exact (does_call_eq Tryd.call56 rfl (map2 ((show _=gv (true&&(((v1 !=0)||(v2 !=0))==false)) (Value.agg #[vL A0_0 a0.vDefs.length c0_0]) from (show _=gv (true&&(((v1 !=0)||(v2 !=0))==false)) (Value.agg #[vL A0_0 a0.vDefs.length c0_0]) from hk 23 rfl)).trans (gv_t hg)) ((show _=gv (true&&(((v1 !=0)||(v2 !=0))==false)) (vI a1) from (show _=gv (true&&(((v1 !=0)||(v2 !=0))==false)) (vI a1) from hk 24 rfl)).trans (gv_t hg))) (taplineref08_Text.calls k a0 a1 A0_0 c0_0 HSd.sees hr0_0 hc0_0 (of_pos H3 hg)))),ob_guard (b:=((v1 !=0)||(v2 !=0))) (c:=true) rfl rfl (by decide) (fun w' u hu=>hu) (fun a' w' hE hk hg=>by have HSd:=HS2.step hE;exact does_eq (r_loadBoxAgg (n:=1) (vs:=[vL A2_0 a2.vDefs.length c2_0]) (show _=vP b2 0 from hk 6 rfl) Tryd.isAgg24 (HSd.look 0 rfl) Tryd.sizeOf24 rfl rfl)),ob_guard (b:=((v1 !=0)||(v2 !=0))) (c:=true) rfl rfl (by decide) (fun w' u hu=>hu) (fun a' w' hE hk hg=>by have HSd:=HS2.step hE;exact does_eq (r_move (show _=vI a3 from hk 3 rfl))),ob_guard (b:=((v1 !=0)||(v2 !=0))) (c:=true) rfl rfl (by decide) (fun w' u hu=>hu) (fun a' w' hE hk hg=>by have HSd:=HS2.step hE;exact (does_call_eq Tryd.call56 rfl (map2 ((show _=gv (true&&(((v1 !=0)||(v2 !=0))==false)) (Value.agg #[vL A2_0 a2.vDefs.length c2_0]) from (show _=gv (true&&(((v1 !=0)||(v2 !=0))==false)) (Value.agg #[vL A2_0 a2.vDefs.length c2_0]) from hk 26 rfl)).trans (gv_t hg)) ((show _=gv (true&&(((v1 !=0)||(v2 !=0))==false)) (vI a3) from (show _=gv (true&&(((v1 !=0)||(v2 !=0))==false)) (vI a3) from hk 27 rfl)).trans (gv_t hg))) (taplineref08_Text.calls k a2 a3 A2_0 c2_0 HSd.sees hr2_0 hc2_0 (of_pos H4 hg)))),ob_guard (b:=((v1 !=0)||(v2 !=0))) (c:=true) rfl rfl (by decide) (fun w' u hu=>hu) (fun a' w' hE hk hg=>by have HSd:=HS2.step hE;exact does_eq (r_strneq ((show _=gv (true&&(((v1 !=0)||(v2 !=0))==false)) (vS v3) from (show _=gv (true&&(((v1 !=0)||(v2 !=0))==false)) (vS v3) from hk 25 rfl)).trans (gv_t hg)) ((show _=gv (true&&(((v1 !=0)||(v2 !=0))==false)) (vS v4) from (show _=gv (true&&(((v1 !=0)||(v2 !=0))==false)) (vS v4) from hk 28 rfl)).trans (gv_t hg)))),ob_plain rfl (fun a' w' hE hk=>by have HSd:=HS2.step hE;exact does_eq (r_pick_or (show _=vB ((v1 !=0)||(v2 !=0)) from hk 22 rfl) rfl (fun hp=>((show _=gv (true&&(((v1 !=0)||(v2 !=0))==false)) (vB (!(strEq v3 v4))) from (show _=gv (true&&(((v1 !=0)||(v2 !=0))==false)) (vB (!(strEq v3 v4))) from hk 29 rfl)).trans (gv_t (and_i rfl hp)))))),trivial⟩ ?_
 intro w3 hE3
 simp only [List.zip_cons_cons,List.zip_nil_left,List.zip_nil_right,finL,sc0,sc1,List.length_cons,List.length_nil,List.drop_succ_cons,List.drop_zero,Nat.zero_add,Nat.reduceAdd]
 have HS3:=HS2.step hE3
 refine run_nil<|norm_then<|wp_cond_split (t:=(((v1 !=0)||(v2 !=0))||(!(strEq v3 v4)))) rfl (fun c1=>?_) (fun c1=>?_)
 ·replace H:=of_pos H c1
  refine wp_seq<|region<|rs (vB false) (r_assign rfl) ?_
  try simp only [sc0,sc1]
  refine run_nil<|norm_then<|wp_ret<|ret_then ?_
  obtain rfl:=Option.some.inj H
  exact bodyPost_ret (results_1 rfl (one_tmp rfl)) rfl<|⟨rfl,HS3.toE⟩
 ·replace H:=of_neg H (nt c1)
  refine wp_skip<|norm_then<|wp_seq<|region<|rs (Value.agg #[vL A0_0 a0.vDefs.length c0_0]) (r_loadBoxAgg (n:=1) (vs:=[vL A0_0 a0.vDefs.length c0_0]) rfl Tryd.isAgg24 (HS3.look 1 rfl) Tryd.sizeOf24 rfl rfl)<|rs (vI a1) (r_move rfl)<|run_bs (Kd.int .i64) (xs:=([a1]:List Int)) (n:=1) (cs:=[vI a1]) Tryd.runUnderlying62 Tryd.typeInfo3 Tryd.zeroValue3 rfl rfl (by decide) (by decide) (by decide) [vI a1] (parts_any.trans rfl) rfl rfl rfl rfl (elems_cons (qs:=[vI a1]) rfl (elems_nil (cs:=[]))) HS3 ?_
  intro w4 b3 HS4 ho1
  have ho2:=ho1.norm
  obtain ⟨h1,HS5,hs1,rdp1⟩:=row_pub HS4 (i:=0) rfl ho2
  have HS6:St [] h0 w0 h1 [(some b2, .cells #[vL A2_0 a2.vDefs.length c2_0] 24 (0,0)),(some b1, .cells #[vL A0_0 a0.vDefs.length c0_0] 24 (0,0))] w4:=HS5
  obtain ⟨v5,H5,H⟩:=of_bind H
  refine run_ex rfl rfl (does_call Tryd.call63 rfl (gives_in (h:=h1) (R:=(fun hx u=>∃(Av5_0_0:Option Addr) (cv5_0_0:Nat),u=vL Av5_0_0 v5.length cv5_0_0∧v5.length≤cv5_0_0∧Rd Kd.bool hx Av5_0_0 v5)) (Ext.rfl' w4) ((taplineref08_Reach.calls k a0 ([a1]:List Int) A0_0 c0_0 (rowA (some b3)) 1 HS6.sees (hr0_0.ext HS6.sub) hc0_0 rdp1 ho2.cap H5).mono ?_)) rfl) ?_
  ·rintro _ _ ⟨h1,Av5_0_0,cv5_0_0,rfl,hcv5_0_0,hrv5_0_0,g,ss,x⟩
   exact ⟨h1,_,rfl,⟨Av5_0_0,cv5_0_0,rfl,hcv5_0_0,hrv5_0_0⟩,g,ss,x⟩
  rintro w5 _ hE4 ⟨h2,⟨Av5_0_0,cv5_0_0,rfl,hcv5_0_0,hrv5_0_0⟩,gr1,se1⟩
  have HS7:=HS6.view hE4 gr1 se1
  replace rdp1:Rd (Kd.int .i64) h2 (rowA (some b3)) ([a1]:List Int):=rdp1.ext gr1.1
  refine run_frame (by simp only [sc0,sc1];rfl) ?_
  refine rs (vL Av5_0_0 v5.length cv5_0_0) (r_assign rfl) ?_
  try simp only [sc0,sc1]
  refine run_nil<|norm_then<|wp_seq<|wp_seq<|region<|rs (vI 0) (r_assign rfl) ?_
  try simp only [sc0,sc1]
  refine run_nil<|norm_then ?_
  obtain ⟨xx1,H,G1⟩:=of_bind H
  refine loop_j [8,10,11,35,36,37,38,39,40,41,42,43,44,45,46,47,48,49,50,51,52,53,54,55,56,57,58,59,60,61,62,63,64,65,66,67,68,69,70,71,72,73,74,75,76,77,78,79,80,81] (fun m us w'=>∃(y1_0:Int),Fit us (fun uy1=>[(uy1 0),vI y1_0,(uy1 2),(uy1 3),(uy1 4),(uy1 5),(uy1 6),(uy1 7),(uy1 8),(uy1 9),(uy1 10),(uy1 11),(uy1 12),(uy1 13),(uy1 14),(uy1 15),(uy1 16),(uy1 17),(uy1 18),(uy1 19),(uy1 20),(uy1 21),(uy1 22),(uy1 23),(uy1 24),(uy1 25),(uy1 26),(uy1 27),(uy1 28),(uy1 29),(uy1 30),(uy1 31),(uy1 32),(uy1 33),(uy1 34),(uy1 35),(uy1 36),(uy1 37),(uy1 38),(uy1 39),(uy1 40),(uy1 41),(uy1 42),(uy1 43),(uy1 44),(uy1 45),(uy1 46),(uy1 47),(uy1 48),(uy1 49)])∧taplineref08_Equal.l0 k a0 a2 v5 m y1_0=some xx1∧St [] h0 w0 h2 [(some b2, .cells #[vL A2_0 a2.vDefs.length c2_0] 24 (0,0)),(some b1, .cells #[vL A0_0 a0.vDefs.length c0_0] 24 (0,0))] w') (fun us w'=>∃(s1:Unit),xx1= .inr s1∧Fit us (fun uo1=>[(uo1 0),(uo1 1),(uo1 2),(uo1 3),(uo1 4),(uo1 5),(uo1 6),(uo1 7),(uo1 8),(uo1 9),(uo1 10),(uo1 11),(uo1 12),(uo1 13),(uo1 14),(uo1 15),(uo1 16),(uo1 17),(uo1 18),(uo1 19),(uo1 20),(uo1 21),(uo1 22),(uo1 23),(uo1 24),(uo1 25),(uo1 26),(uo1 27),(uo1 28),(uo1 29),(uo1 30),(uo1 31),(uo1 32),(uo1 33),(uo1 34),(uo1 35),(uo1 36),(uo1 37),(uo1 38),(uo1 39),(uo1 40),(uo1 41),(uo1 42),(uo1 43),(uo1 44),(uo1 45),(uo1 46),(uo1 47),(uo1 48),(uo1 49)])∧St [] h0 w0 h2 [(some b2, .cells #[vL A2_0 a2.vDefs.length c2_0] 24 (0,0)),(some b1, .cells #[vL A0_0 a0.vDefs.length c0_0] 24 (0,0))] w') k ⟨0,(fit rfl),H,HS7⟩ ?_ ?_
  ·rintro m us w6 ⟨y1_0,huy1,H,HS8⟩
   obtain ⟨uy1,rfl⟩:=unj huy1
   cases m with
   |zero=>exact absurd H (by simp [taplineref08_Equal.l0])
   |succ m=>
    rw [taplineref08_Equal.l0] at H
    try simp only [patch,sc0,sc1]
    refine wp_seq<|wp_seq<|region<|rs (vI y1_0) (r_move rfl)<|rs (vP b1 0) (r_fieldBox (n:=1) (o':=0) rfl Tryd.runUnderlying24 rfl Tryd.sizeOf22 (by decide) rfl)<|rs (vL A0_0 a0.vDefs.length c0_0) (r_loadBox rfl Tryd.isAgg22 (HS8.look 1 rfl) rfl)<|rs (vI (a0.vDefs.length:Int)) (r_len rfl Tryd.runUnderlying22)<|run_frame (by simp only [sc0,sc1];rfl) ?_
    refine rs (vB (decide (y1_0<(a0.vDefs.length:Int)))) (r_bin rfl rfl rfl) ?_
    try simp only [sc0,sc1]
    refine run_nil<|norm_then<|wp_cond_split (t:=(decide (y1_0<(a0.vDefs.length:Int)))) rfl (fun c2=>?_) (fun c2=>?_)
    ·replace H:=of_pos H c2
     refine wp_skip<|norm_then<|wp_seq<|wp_block<|wp_seq<|wp_seq<|region<|rs (vL Av5_0_0 v5.length cv5_0_0) (r_move rfl)<|rs (vI y1_0) (r_move rfl) ?_
     obtain ⟨hi1,H⟩:=of_ite H
     obtain ⟨ad1,e1,hel1⟩:=ld_bool hrv5_0_0 hi1.1 hi1.2
     refine rs (Value.pointer (some (Addr.add ad1 (y1_0.toNat*1)))) (r_indexA (sz:=1) rfl e1 rfl hi1.1 hi1.2 Tryd.runUnderlying112 Tryd.sizeOf4)<|rs (vB (rd false v5 y1_0)) (r_load rfl Tryd.isAgg4 (hel1.cell0 HS8.sees rfl))<|run_frame (by simp only [sc0,sc1];rfl) ?_
     refine rs (vB (!(rd false v5 y1_0))) (r_not rfl)<|rs (vB (!(rd false v5 y1_0))) (r_move rfl)<|rgs (!(rd false v5 y1_0)) true (vP b1 0) rfl rfl rfl rfl (fun hg=>(r_fieldBox (n:=1) (o':=0) rfl Tryd.runUnderlying24 rfl Tryd.sizeOf22 (by decide) rfl))<|rgs (!(rd false v5 y1_0)) true (vL A0_0 a0.vDefs.length c0_0) rfl rfl rfl rfl (fun hg=>(r_loadBox (gvt (vP b1 0) hg rfl) Tryd.isAgg22 (HS8.look 1 rfl) rfl))<|run_frame (by simp only [sc0,sc1];rfl) ?_
     refine rgs (!(rd false v5 y1_0)) true (vI y1_0) rfl rfl rfl rfl (fun hg=>(r_move rfl)) ?_
     obtain ⟨hi2,H⟩:=of_ite H
     obtain ⟨ad2,Aad2_6,cad2_6,hq1⟩:=gx3 (fun hC:(true&&((!(rd false v5 y1_0))==false))=true=>ld_api_Def (hr0_0.ext HS8.sub) (hi2 hC).1 (hi2 hC).2)
     refine rgs (!(rd false v5 y1_0)) true (Value.pointer (some (Addr.add ad2 (y1_0.toNat*7)))) rfl rfl rfl rfl (fun hg=>(r_indexA (sz:=7) (gvt (vL A0_0 a0.vDefs.length c0_0) hg rfl) (hq1 hg).1 (gvt (vI y1_0) hg rfl) (hi2 hg).1 (hi2 hg).2 Tryd.runUnderlying22 Tryd.sizeOf34))<|rgs (!(rd false v5 y1_0)) true (Value.agg #[vI ((rd z_api_Def a0.vDefs y1_0).vKind),vS ((rd z_api_Def a0.vDefs y1_0).vName),vI ((rd z_api_Def a0.vDefs y1_0).vInt.vSize),vB ((rd z_api_Def a0.vDefs y1_0).vInt.vSigned),vI ((rd z_api_Def a0.vDefs y1_0).vRef),vI ((rd z_api_Def a0.vDefs y1_0).vN),vL Aad2_6 ((rd z_api_Def a0.vDefs y1_0).vFields).length cad2_6]) rfl rfl rfl rfl (fun hg=>(r_loadAgg (gvt (Value.pointer (some (Addr.add ad2 (y1_0.toNat*7)))) hg rfl) Tryd.isAgg34 (((hq1 hg).2.1).sees HS8.sees) Tryd.sizeOf34)) ?_
     obtain ⟨v6,H6,H⟩:=of_bind H
     refine run_g (b:=(!(rd false v5 y1_0))) (c:=true) (v:=vB v6) rfl rfl rfl rfl (fun hg=>(does_call_eq Tryd.call49 rfl (map1 (gvt (Value.agg #[vI ((rd z_api_Def a0.vDefs y1_0).vKind),vS ((rd z_api_Def a0.vDefs y1_0).vName),vI ((rd z_api_Def a0.vDefs y1_0).vInt.vSize),vB ((rd z_api_Def a0.vDefs y1_0).vInt.vSigned),vI ((rd z_api_Def a0.vDefs y1_0).vRef),vI ((rd z_api_Def a0.vDefs y1_0).vN),vL Aad2_6 ((rd z_api_Def a0.vDefs y1_0).vFields).length cad2_6]) hg rfl)) (taplineref08_Named.calls (rd z_api_Def a0.vDefs y1_0) Aad2_6 cad2_6 HS8.sees ((hq1 hg).2.2.2) ((hq1 hg).2.2.1) (of_pos H6 hg)))) ?_
     intro w7 hE5
     have HS9:=HS8.step hE5
     refine run_frame (by simp only [sc0,sc1];rfl) ?_
     refine rgs (!(rd false v5 y1_0)) true (vB (!v6)) rfl rfl rfl rfl (fun hg=>(r_not (gvt (vB v6) hg rfl)))<|rs (vB ((!(rd false v5 y1_0))||(!v6))) (r_pick_or rfl rfl (fun hp=>(gvt (vB (!v6)) (and_i rfl hp) rfl))) ?_
     try simp only [sc0,sc1]
     refine run_nil<|norm_then<|wp_cond_split (t:=((!(rd false v5 y1_0))||(!v6))) rfl (fun c3=>?_) (fun c3=>?_)
     ·replace H:=of_pos H c3
      refine wp_exit<|exit_then<|exit_block<|norm_then<|region<|rs (vI y1_0) (r_move rfl)<|rs (vI (w64 (y1_0+1))) (r_bin rfl rfl rfl)<|rs (vI (w64 (y1_0+1))) (r_assign rfl) ?_
      try simp only [sc0,sc1]
      refine run_nil<|again_j m (Nat.lt_succ_self m) rfl ⟨(w64 (y1_0+1)),(fit rfl),H,HS9⟩
     ·replace H:=of_neg H (nt c3)
      refine wp_skip<|norm_then<|wp_seq ?_
      obtain ⟨hi3,H⟩:=of_ite H
      obtain ⟨ad3,Aad3_6,cad3_6,e3,hel3,hcad3_6,hrad3_6⟩:=ld_api_Def (hr0_0.ext HS9.sub) hi3.1 hi3.2
      obtain ⟨v7,H7,H⟩:=of_bind H
      refine drawn [.eq (Value.agg #[vL A2_0 a2.vDefs.length c2_0]), .eq (vP b1 0), .eq (vL A0_0 a0.vDefs.length c0_0), .eq (vI y1_0), .eq (Value.pointer (some (Addr.add ad3 (y1_0.toNat*7)))), .eq (Value.pointer (some (Addr.add (Addr.add ad3 (y1_0.toNat*7)) 1))), .eq (vS ((rd z_api_Def a0.vDefs y1_0).vName)), .eq (vI v7)] [56,57,58,59,60,61,62,63] hmix (by kernel_rfl) rfl (stable_eq (stable_eq (stable_eq (stable_eq (stable_eq (stable_eq (stable_eq (stable_eq stable_nil)))))))) ⟨ob_plain rfl (fun a' w' hE hk=>by have HSd:=HS9.step hE;exact does_eq (r_loadBoxAgg (n:=1) (vs:=[vL A2_0 a2.vDefs.length c2_0]) (show _=vP b2 0 from hk 6 rfl) Tryd.isAgg24 (HSd.look 0 rfl) Tryd.sizeOf24 rfl rfl)),ob_plain rfl (fun a' w' hE hk=>by have HSd:=HS9.step hE;exact does_eq (r_fieldBox (n:=1) (o':=0) (show _=vP b1 0 from hk 4 rfl) Tryd.runUnderlying24 rfl Tryd.sizeOf22 (by decide) rfl)),ob_plain rfl (fun a' w' hE hk=>by have HSd:=HS9.step hE;exact does_eq (r_loadBox (show _=vP b1 0 from hk 57 rfl) Tryd.isAgg22 (HSd.look 1 rfl) rfl)),ob_plain rfl (fun a' w' hE hk=>by have HSd:=HS9.step hE;exact does_eq (r_move (show _=vI y1_0 from hk 10 rfl))),ob_plain rfl (fun a' w' hE hk=>by have HSd:=HS9.step hE;exact does_eq (r_indexA (sz:=7) (show _=vL A0_0 a0.vDefs.length c0_0 from hk 58 rfl) e3 (show _=vI y1_0 from hk 59 rfl) hi3.1 hi3.2 Tryd.runUnderlying22 Tryd.sizeOf34)),ob_plain rfl (fun a' w' hE hk=>by have HSd:=HS9.step hE;exact does_eq (r_fieldEl (n:=1) (o':=1) (show _=Value.pointer (some (Addr.add ad3 (y1_0.toNat*7))) from hk 60 rfl) Tryd.runUnderlying34 rfl Tryd.sizeOf9 (by decide) rfl)),ob_plain rfl (fun a' w' hE hk=>by have HSd:=HS9.step hE;exact does_eq (r_load (show _=Value.pointer (some (Addr.add (Addr.add ad3 (y1_0.toNat*7)) 1)) from hk 61 rfl) Tryd.isAgg9 (hel3.cell HSd.sees 1 rfl))),ob_plain rfl (fun a' w' hE hk=>by have HSd:=HS9.step hE;exact (does_call_eq Tryd.call57 rfl (map2 (show _=Value.agg #[vL A2_0 a2.vDefs.length c2_0] from hk 56 rfl) (show _=vS ((rd z_api_Def a0.vDefs y1_0).vName) from hk 62 rfl)) (taplineref08_Find.calls k a2 ((rd z_api_Def a0.vDefs y1_0).vName) A2_0 c2_0 HSd.sees (hr2_0.ext HS9.sub) hc2_0 H7))),trivial⟩ ?_
      intro w8 hE6
      simp only [List.zip_cons_cons,List.zip_nil_left,List.zip_nil_right,finL,sc0,sc1,List.length_cons,List.length_nil,List.drop_succ_cons,List.drop_zero,Nat.zero_add,Nat.reduceAdd]
      have HS10:=HS9.step hE6
      refine rs (vI v7) (r_assign rfl) ?_
      try simp only [sc0,sc1]
      refine run_nil<|norm_then<|wp_seq ?_
      obtain ⟨hi4,H⟩:=of_ite H
      obtain ⟨ad4,Aad4_6,cad4_6,hq2⟩:=gx3 (fun hC:(true&&((decide (v7<0))==false))=true=>ld_api_Def (hr0_0.ext HS10.sub) (hi4 hC).1 (hi4 hC).2)
      obtain ⟨hi5,H⟩:=of_ite H
      obtain ⟨ad5,Aad5_6,cad5_6,hq3⟩:=gx3 (fun hC:(true&&((decide (v7<0))==false))=true=>ld_api_Def (hr2_0.ext HS10.sub) (hi5 hC).1 (hi5 hC).2)
      obtain ⟨v8,H8,H⟩:=of_bind H
      refine drawn [.eq (vI v7), .eq (vB (decide (v7<0))), .eq (vB (decide (v7<0))), .eq (gv (true&&((decide (v7<0))==false)) (Value.agg #[vL A0_0 a0.vDefs.length c0_0])), .eq (gv (true&&((decide (v7<0))==false)) (vP b1 0)), .eq (gv (true&&((decide (v7<0))==false)) (vL A0_0 a0.vDefs.length c0_0)), .eq (gv (true&&((decide (v7<0))==false)) (vI y1_0)), .eq (gv (true&&((decide (v7<0))==false)) (Value.pointer (some (Addr.add ad4 (y1_0.toNat*7))))), .eq (gv (true&&((decide (v7<0))==false)) (Value.agg #[vI ((rd z_api_Def a0.vDefs y1_0).vKind),vS ((rd z_api_Def a0.vDefs y1_0).vName),vI ((rd z_api_Def a0.vDefs y1_0).vInt.vSize),vB ((rd z_api_Def a0.vDefs y1_0).vInt.vSigned),vI ((rd z_api_Def a0.vDefs y1_0).vRef),vI ((rd z_api_Def a0.vDefs y1_0).vN),vL Aad4_6 ((rd z_api_Def a0.vDefs y1_0).vFields).length cad4_6])), .eq (gv (true&&((decide (v7<0))==false)) (Value.agg #[vL A2_0 a2.vDefs.length c2_0])), .eq (gv (true&&((decide (v7<0))==false)) (vP b2 0)), .eq (gv (true&&((decide (v7<0))==false)) (vL A2_0 a2.vDefs.length c2_0)), .eq (gv (true&&((decide (v7<0))==false)) (vI v7)), .eq (gv (true&&((decide (v7<0))==false)) (Value.pointer (some (Addr.add ad5 (v7.toNat*7))))), .eq (gv (true&&((decide (v7<0))==false)) (Value.agg #[vI ((rd z_api_Def a2.vDefs v7).vKind),vS ((rd z_api_Def a2.vDefs v7).vName),vI ((rd z_api_Def a2.vDefs v7).vInt.vSize),vB ((rd z_api_Def a2.vDefs v7).vInt.vSigned),vI ((rd z_api_Def a2.vDefs v7).vRef),vI ((rd z_api_Def a2.vDefs v7).vN),vL Aad5_6 ((rd z_api_Def a2.vDefs v7).vFields).length cad5_6])), .eq (gv (true&&((decide (v7<0))==false)) (vB v8)), .eq (gv (true&&((decide (v7<0))==false)) (vB (!v8))), .eq (vB ((decide (v7<0))||(!v8)))] [64,65,66,67,68,69,70,71,72,73,74,75,76,77,78,79,80,81] hmix (by kernel_rfl) rfl (stable_eq (stable_eq (stable_eq (stable_eq (stable_eq (stable_eq (stable_eq (stable_eq (stable_eq (stable_eq (stable_eq (stable_eq (stable_eq (stable_eq (stable_eq (stable_eq (stable_eq (stable_eq stable_nil)))))))))))))))))) ⟨ob_plain rfl (fun a' w' hE hk=>by have HSd:=HS10.step hE;exact does_eq (r_move (show _=vI v7 from hk 11 rfl))),ob_plain rfl (fun a' w' hE hk=>by have HSd:=HS10.step hE;exact does_eq (r_bin (show _=vI v7 from hk 64 rfl) rfl rfl)),ob_plain rfl (fun a' w' hE hk=>by have HSd:=HS10.step hE;exact does_eq (r_move (show _=vB (decide (v7<0)) from hk 65 rfl))),ob_guard (b:=(decide (v7<0))) (c:=true) rfl rfl (by decide) (fun w' u hu=>hu) (fun a' w' hE hk hg=>by have HSd:=HS10.step hE;exact does_eq (r_loadBoxAgg (n:=1) (vs:=[vL A0_0 a0.vDefs.length c0_0]) (show _=vP b1 0 from hk 4 rfl) Tryd.isAgg24 (HSd.look 1 rfl) Tryd.sizeOf24 rfl rfl)),ob_guard (b:=(decide (v7<0))) (c:=true) rfl rfl (by decide) (fun w' u hu=>hu) (fun a' w' hE hk hg=>by have HSd:=HS10.step hE;exact does_eq (r_fieldBox (n:=1) (o':=0) (show _=vP b1 0 from hk 4 rfl) Tryd.runUnderlying24 rfl Tryd.sizeOf22 (by decide) rfl)),ob_guard (b:=(decide (v7<0))) (c:=true) rfl rfl (by decide) (fun w' u hu=>hu) (fun a' w' hE hk hg=>by have HSd:=HS10.step hE;exact does_eq (r_loadBox ((show _=gv (true&&((decide (v7<0))==false)) (vP b1 0) from (show _=gv (true&&((decide (v7<0))==false)) (vP b1 0) from hk 68 rfl)).trans (gv_t hg)) Tryd.isAgg22 (HSd.look 1 rfl) rfl)),ob_guard (b:=(decide (v7<0))) (c:=true) rfl rfl (by decide) (fun w' u hu=>hu) (fun a' w' hE hk hg=>by have HSd:=HS10.step hE;exact does_eq (r_move (show _=vI y1_0 from hk 10 rfl))),ob_guard (b:=(decide (v7<0))) (c:=true) rfl rfl (by decide) (fun w' u hu=>hu) (fun a' w' hE hk hg=>by have HSd:=HS10.step hE;exact does_eq (r_indexA (sz:=7) ((show _=gv (true&&((decide (v7<0))==false)) (vL A0_0 a0.vDefs.length c0_0) from (show _=gv (true&&((decide (v7<0))==false)) (vL A0_0 a0.vDefs.length c0_0) from hk 69 rfl)).trans (gv_t hg)) (hq2 hg).1 ((show _=gv (true&&((decide (v7<0))==false)) (vI y1_0) from (show _=gv (true&&((decide (v7<0))==false)) (vI y1_0) from hk 70 rfl)).trans (gv_t hg)) (hi4 hg).1 (hi4 hg).2 Tryd.runUnderlying22 Tryd.sizeOf34)),ob_guard (b:=(decide (v7<0))) (c:=true) rfl rfl (by decide) (fun w' u hu=>hu) (fun a' w' hE hk hg=>by have HSd:=HS10.step hE;exact does_eq (r_loadAgg ((show _=gv (true&&((decide (v7<0))==false)) (Value.pointer (some (Addr.add ad4 (y1_0.toNat*7)))) from (show _=gv (true&&((decide (v7<0))==false)) (Value.pointer (some (Addr.add ad4 (y1_0.toNat*7)))) from hk 71 rfl)).trans (gv_t hg)) Tryd.isAgg34 (((hq2 hg).2.1).sees HSd.sees) Tryd.sizeOf34)),ob_guard (b:=(decide (v7<0))) (c:=true) rfl rfl (by decide) (fun w' u hu=>hu) (fun a' w' hE hk hg=>by have HSd:=HS10.step hE;exact does_eq (r_loadBoxAgg (n:=1) (vs:=[vL A2_0 a2.vDefs.length c2_0]) (show _=vP b2 0 from hk 6 rfl) Tryd.isAgg24 (HSd.look 0 rfl) Tryd.sizeOf24 rfl rfl)),ob_guard (b:=(decide (v7<0))) (c:=true) rfl rfl (by decide) (fun w' u hu=>hu) (fun a' w' hE hk hg=>by have HSd:=HS10.step hE;exact does_eq (r_fieldBox (n:=1) (o':=0) (show _=vP b2 0 from hk 6 rfl) Tryd.runUnderlying24 rfl Tryd.sizeOf22 (by decide) rfl)),ob_guard (b:=(decide (v7<0))) (c:=true) rfl rfl (by decide) (fun w' u hu=>hu) (fun a' w' hE hk hg=>by have HSd:=HS10.step hE;exact does_eq (r_loadBox ((show _=gv (true&&((decide (v7<0))==false)) (vP b2 0) from (show _=gv (true&&((decide (v7<0))==false)) (vP b2 0) from hk 74 rfl)).trans (gv_t hg)) Tryd.isAgg22 (HSd.look 0 rfl) rfl)),ob_guard (b:=(decide (v7<0))) (c:=true) rfl rfl (by decide) (fun w' u hu=>hu) (fun a' w' hE hk hg=>by have HSd:=HS10.step hE;exact does_eq (r_move (show _=vI v7 from hk 11 rfl))),ob_guard (b:=(decide (v7<0))) (c:=true) rfl rfl (by decide) (fun w' u hu=>hu) (fun a' w' hE hk hg=>by have HSd:=HS10.step hE;exact does_eq (r_indexA (sz:=7) ((show _=gv (true&&((decide (v7<0))==false)) (vL A2_0 a2.vDefs.length c2_0) from (show _=gv (true&&((decide (v7<0))==false)) (vL A2_0 a2.vDefs.length c2_0) from hk 75 rfl)).trans (gv_t hg)) (hq3 hg).1 ((show _=gv (true&&((decide (v7<0))==false)) (vI v7) from (show _=gv (true&&((decide (v7<0))==false)) (vI v7) from hk 76 rfl)).trans (gv_t hg)) (hi5 hg).1 (hi5 hg).2 Tryd.runUnderlying22 Tryd.sizeOf34)),ob_guard (b:=(decide (v7<0))) (c:=true) rfl rfl (by decide) (fun w' u hu=>hu) (fun a' w' hE hk hg=>by have HSd:=HS10.step hE;exact does_eq (r_loadAgg ((show _=gv (true&&((decide (v7<0))==false)) (Value.pointer (some (Addr.add ad5 (v7.toNat*7)))) from (show _=gv (true&&((decide (v7<0))==false)) (Value.pointer (some (Addr.add ad5 (v7.toNat*7)))) from hk 77 rfl)).trans (gv_t hg)) Tryd.isAgg34 (((hq3 hg).2.1).sees HSd.sees) Tryd.sizeOf34)),ob_guard (b:=(decide (v7<0))) (c:=true) rfl rfl (by decide) (fun w' u hu=>hu) (fun a' w' hE hk hg=>by have HSd:=HS10.step hE;exact (does_call_eq Tryd.call64 rfl (map4 ((show _=gv (true&&((decide (v7<0))==false)) (Value.agg #[vL A0_0 a0.vDefs.length c0_0]) from (show _=gv (true&&((decide (v7<0))==false)) (Value.agg #[vL A0_0 a0.vDefs.length c0_0]) from hk 67 rfl)).trans (gv_t hg)) ((show _=gv (true&&((decide (v7<0))==false)) (Value.agg #[vI ((rd z_api_Def a0.vDefs y1_0).vKind),vS ((rd z_api_Def a0.vDefs y1_0).vName),vI ((rd z_api_Def a0.vDefs y1_0).vInt.vSize),vB ((rd z_api_Def a0.vDefs y1_0).vInt.vSigned),vI ((rd z_api_Def a0.vDefs y1_0).vRef),vI ((rd z_api_Def a0.vDefs y1_0).vN),vL Aad4_6 ((rd z_api_Def a0.vDefs y1_0).vFields).length cad4_6]) from (show _=gv (true&&((decide (v7<0))==false)) (Value.agg #[vI ((rd z_api_Def a0.vDefs y1_0).vKind),vS ((rd z_api_Def a0.vDefs y1_0).vName),vI ((rd z_api_Def a0.vDefs y1_0).vInt.vSize),vB ((rd z_api_Def a0.vDefs y1_0).vInt.vSigned),vI ((rd z_api_Def a0.vDefs y1_0).vRef),vI ((rd z_api_Def a0.vDefs y1_0).vN),vL Aad4_6 ((rd z_api_Def a0.vDefs y1_0).vFields).length cad4_6]) from hk 72 rfl)).trans (gv_t hg)) ((show _=gv (true&&((decide (v7<0))==false)) (Value.agg #[vL A2_0 a2.vDefs.length c2_0]) from (show _=gv (true&&((decide (v7<0))==false)) (Value.agg #[vL A2_0 a2.vDefs.length c2_0]) from hk 73 rfl)).trans (gv_t hg)) ((show _=gv (true&&((decide (v7<0))==false)) (Value.agg #[vI ((rd z_api_Def a2.vDefs v7).vKind),vS ((rd z_api_Def a2.vDefs v7).vName),vI ((rd z_api_Def a2.vDefs v7).vInt.vSize),vB ((rd z_api_Def a2.vDefs v7).vInt.vSigned),vI ((rd z_api_Def a2.vDefs v7).vRef),vI ((rd z_api_Def a2.vDefs v7).vN),vL Aad5_6 ((rd z_api_Def a2.vDefs v7).vFields).length cad5_6]) from (show _=gv (true&&((decide (v7<0))==false)) (Value.agg #[vI ((rd z_api_Def a2.vDefs v7).vKind),vS ((rd z_api_Def a2.vDefs v7).vName),vI ((rd z_api_Def a2.vDefs v7).vInt.vSize),vB ((rd z_api_Def a2.vDefs v7).vInt.vSigned),vI ((rd z_api_Def a2.vDefs v7).vRef),vI ((rd z_api_Def a2.vDefs v7).vN),vL Aad5_6 ((rd z_api_Def a2.vDefs v7).vFields).length cad5_6]) from hk 78 rfl)).trans (gv_t hg))) (taplineref08_alike.calls k a0 (rd z_api_Def a0.vDefs y1_0) a2 (rd z_api_Def a2.vDefs v7) A0_0 c0_0 Aad4_6 cad4_6 A2_0 c2_0 Aad5_6 cad5_6 HSd.sees (hr0_0.ext HS10.sub) hc0_0 ((hq2 hg).2.2.2) ((hq2 hg).2.2.1) (hr2_0.ext HS10.sub) hc2_0 ((hq3 hg).2.2.2) ((hq3 hg).2.2.1) (of_pos H8 hg)))),ob_guard (b:=(decide (v7<0))) (c:=true) rfl rfl (by decide) (fun w' u hu=>hu) (fun a' w' hE hk hg=>by have HSd:=HS10.step hE;exact does_eq (r_not ((show _=gv (true&&((decide (v7<0))==false)) (vB v8) from (show _=gv (true&&((decide (v7<0))==false)) (vB v8) from hk 79 rfl)).trans (gv_t hg)))),ob_plain rfl (fun a' w' hE hk=>by have HSd:=HS10.step hE;exact does_eq (r_pick_or (show _=vB (decide (v7<0)) from hk 66 rfl) rfl (fun hp=>((show _=gv (true&&((decide (v7<0))==false)) (vB (!v8)) from (show _=gv (true&&((decide (v7<0))==false)) (vB (!v8)) from hk 80 rfl)).trans (gv_t (and_i rfl hp)))))),trivial⟩ ?_
      intro w9 hE7
      simp only [List.zip_cons_cons,List.zip_nil_left,List.zip_nil_right,finL,sc0,sc1,List.length_cons,List.length_nil,List.drop_succ_cons,List.drop_zero,Nat.zero_add,Nat.reduceAdd]
      have HS11:=HS10.step hE7
      refine run_nil<|norm_then<|wp_cond_split (t:=((decide (v7<0))||(!v8))) rfl (fun c4=>?_) (fun c4=>?_)
      ·replace H:=of_pos H c4
       refine wp_seq<|region<|rs (vB false) (r_assign rfl) ?_
       try simp only [sc0,sc1]
       refine run_nil<|norm_then<|wp_ret<|ret_block<|ret_then<|ret_loop<|ret_then ?_
       obtain rfl:=Option.some.inj H
       obtain rfl:=Option.some.inj G1
       exact bodyPost_ret (results_1 rfl (one_tmp rfl)) rfl<|⟨rfl,HS11.toE⟩
      ·replace H:=of_neg H (nt c4)
       refine wp_skip<|norm_block<|norm_then<|region<|rs (vI y1_0) (r_move rfl)<|rs (vI (w64 (y1_0+1))) (r_bin rfl rfl rfl)<|rs (vI (w64 (y1_0+1))) (r_assign rfl) ?_
       try simp only [sc0,sc1]
       refine run_nil<|again_j m (Nat.lt_succ_self m) rfl ⟨(w64 (y1_0+1)),(fit rfl),H,HS11⟩
    ·replace H:=of_neg H (nt c2)
     refine wp_exit<|exit_then ?_
     obtain rfl:=Option.some.inj H
     refine leave_j rfl ⟨_,rfl,(fit rfl),HS8⟩
  ·rintro us w10 ⟨s1,rfl,huo1,HS12⟩
   obtain ⟨uo1,rfl⟩:=unj huo1
   replace H:=G1
   clear G1
   try simp only [patch,sc0,sc1]
   refine norm_then<|wp_seq<|region<|rs (vB true) (r_assign rfl) ?_
   try simp only [sc0,sc1]
   refine run_nil<|norm_then<|wp_ret ?_
   obtain rfl:=Option.some.inj H
   exact bodyPost_ret (results_1 rfl (one_tmp rfl)) rfl<|⟨rfl,HS12.toE⟩
end Go.Proofs.YtfjppgobidjndaaDoor
