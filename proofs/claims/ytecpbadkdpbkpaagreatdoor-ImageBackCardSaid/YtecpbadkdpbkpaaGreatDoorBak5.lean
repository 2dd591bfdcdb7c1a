/- Parts of a proof, merged by program: F55 F20 F34 F72 F36 F78 F123 F124 F125 F126 F77 F127 F79 F80 F81 F38 F82 F83 F40 F42 F44 GA P1 P2 P3 P4 P5 P8 PN1 P10 P11 P12 P13 F135 F136 F137 F138 F139 F140 F141 F142 F57 L0 S1 F143 F92 F93 F59 F65 F30 F25. The walks (each function once) and the plain laws; no condition of their own. -/
import Derived.Test.YtecpbadkdpbkpaaGreatDoorBak4
set_option linter.unusedVariables false
set_option linter.unusedSimpArgs false
set_option maxRecDepth 20000
set_option maxHeartbeats 4000000
namespace Go.Proofs.YtecpbadkdpbkpaaGreatDoor
open Go.RowKit Go.M
def taplineref08_Resolved.l0 (a0:api_Types):Nat→Int→Option (Int)
 |0,_=>none
 |m+1,y1_0=>if 0≤y1_0∧y1_0<a0.vDefs.length then (if ((rd z_api_Def a0.vDefs y1_0).vKind==6)=true then (if 0≤y1_0∧y1_0<a0.vDefs.length then (taplineref08_Resolved.l0 a0 m ((rd z_api_Def a0.vDefs y1_0).vRef)) else none) else (some y1_0)) else none
def taplineref08_Resolved.f (k:Nat) (a0:api_Types) (a1:Int):Option (Int):=(taplineref08_Resolved.l0 a0 k a1).bind fun xx1=>(some xx1)
theorem taplineref08_Resolved.calls (k:Nat) (a0:api_Types) (a1:Int) (A0_0:Option Addr) (c0_0:Nat) {h0:View} {w0:World} (hv:Sees h0 w0) (hr0_0:Rd k_api_Def h0 A0_0 a0.vDefs) (hc0_0:a0.vDefs.length≤c0_0) {r:Int} (H:taplineref08_Resolved.f k a0 a1=some r):Calls Tryz.prog 55 #[Value.agg #[vL A0_0 a0.vDefs.length c0_0],vI a1] w0 (fun e w1=>e= .returned (vI r)∧Ext w0 w1):=by
 unfold taplineref08_Resolved.f at H
 have HS:St [] h0 w0 h0 [] w0:=St.init hv
 go_enter Tryz.func55,Tryz.ntmps55
 refine wp_seq<|region<|run_ex rfl rfl (does_box (cs:=#[vL A0_0 a0.vDefs.length c0_0]) rfl rfl) ?_
 rintro w1 _ hE1 ⟨b1,rfl,ge1,hb1⟩
 have HS1:=HS.new hE1 ge1 hb1
 refine rs (vI 0) (r_assign rfl) ?_
 try simp only [sc0,sc1]
 refine run_nil<|norm_then<|wp_seq ?_
 obtain ⟨xx1,H,G1⟩:=of_bind H
 refine loop_j [1,5,6,7,8,9,10,11,12,13,14,15,16,17] (fun m us w'=>∃(y1_0:Int),Fit us (fun uy1=>[vI y1_0,(uy1 1),(uy1 2),(uy1 3),(uy1 4),(uy1 5),(uy1 6),(uy1 7),(uy1 8),(uy1 9),(uy1 10),(uy1 11),(uy1 12),(uy1 13)])∧taplineref08_Resolved.l0 a0 m y1_0=some xx1∧St [] h0 w0 h0 [(some b1, .cells #[vL A0_0 a0.vDefs.length c0_0] 24 (0,0))] w') (fun us w'=>Fit us (fun uo1=>[vI xx1,(uo1 1),(uo1 2),(uo1 3),(uo1 4),(uo1 5),(uo1 6),(uo1 7),(uo1 8),(uo1 9),(uo1 10),(uo1 11),(uo1 12),(uo1 13)])∧St [] h0 w0 h0 [(some b1, .cells #[vL A0_0 a0.vDefs.length c0_0] 24 (0,0))] w') k ⟨a1,(fit rfl),H,HS1⟩ ?_ ?_
 ·rintro m us w2 ⟨y1_0,huy1,H,HS2⟩
  obtain ⟨uy1,rfl⟩:=unj huy1
  cases m with
  |zero=>exact absurd H (by simp [taplineref08_Resolved.l0])
  |succ m=>
   rw [taplineref08_Resolved.l0] at H
   try simp only [patch,sc0,sc1]
   refine wp_seq<|wp_seq<|region<|rs (vP b1 0) (r_fieldBox (n:=1) (o':=0) rfl Tryz.runUnderlying24 rfl Tryz.sizeOf22 (by decide) rfl)<|rs (vL A0_0 a0.vDefs.length c0_0) (r_loadBox rfl Tryz.isAgg22 (HS2.look 0 rfl) rfl)<|rs (vI y1_0) (r_move rfl) ?_
   obtain ⟨hi1,H⟩:=of_ite H
   obtain ⟨ad1,Aad1_6,cad1_6,e1,hel1,hcad1_6,hrad1_6⟩:=ld_api_Def hr0_0 hi1.1 hi1.2
   refine rs (Value.pointer (some (Addr.add ad1 (y1_0.toNat*7)))) (r_indexA (sz:=7) rfl e1 rfl hi1.1 hi1.2 Tryz.runUnderlying22 Tryz.sizeOf56)<|run_frame (by simp only [sc0,sc1];rfl) ?_
   refine rs (Value.pointer (some (Addr.add (Addr.add ad1 (y1_0.toNat*7)) 0))) (r_fieldEl (n:=1) (o':=0) rfl Tryz.runUnderlying56 rfl Tryz.sizeOf3 (by decide) rfl)<|rs (vI ((rd z_api_Def a0.vDefs y1_0).vKind)) (r_load rfl Tryz.isAgg3 (hel1.cell HS2.sees 0 rfl))<|rs (vB ((rd z_api_Def a0.vDefs y1_0).vKind==6)) (r_bin rfl rfl rfl) ?_
   try simp only [sc0,sc1]
   refine run_nil<|norm_then<|wp_cond_split (t:=((rd z_api_Def a0.vDefs y1_0).vKind==6)) rfl (fun c1=>?_) (fun c1=>?_)
   ·replace H:=of_pos H c1
    refine wp_skip<|norm_then<|wp_block<|region<|rs (vP b1 0) (r_fieldBox (n:=1) (o':=0) rfl Tryz.runUnderlying24 rfl Tryz.sizeOf22 (by decide) rfl)<|rs (vL A0_0 a0.vDefs.length c0_0) (r_loadBox rfl Tryz.isAgg22 (HS2.look 0 rfl) rfl)<|rs (vI y1_0) (r_move rfl) ?_
    obtain ⟨hi2,H⟩:=of_ite H
    obtain ⟨ad2,Aad2_6,cad2_6,e2,hel2,hcad2_6,hrad2_6⟩:=ld_api_Def hr0_0 hi2.1 hi2.2
    refine rs (Value.pointer (some (Addr.add ad2 (y1_0.toNat*7)))) (r_indexA (sz:=7) rfl e2 rfl hi2.1 hi2.2 Tryz.runUnderlying22 Tryz.sizeOf56)<|run_frame (by simp only [sc0,sc1];rfl) ?_
    refine rs (Value.pointer (some (Addr.add (Addr.add ad2 (y1_0.toNat*7)) 4))) (r_fieldEl (n:=1) (o':=4) rfl Tryz.runUnderlying56 rfl Tryz.sizeOf3 (by decide) rfl)<|rs (vI ((rd z_api_Def a0.vDefs y1_0).vRef)) (r_load rfl Tryz.isAgg3 (hel2.cell HS2.sees 4 rfl))<|rs (vI ((rd z_api_Def a0.vDefs y1_0).vRef)) (r_assign rfl) ?_
    try simp only [sc0,sc1]
    refine run_nil<|norm_block<|again_j m (Nat.lt_succ_self m) rfl ⟨(rd z_api_Def a0.vDefs y1_0).vRef,(fit rfl),H,HS2⟩
   ·replace H:=of_neg H (nt c1)
    refine wp_exit<|exit_then ?_
    obtain rfl:=Option.some.inj H
    refine leave_j rfl ⟨(fit rfl),HS2⟩
 ·rintro us w3 ⟨huo1,HS3⟩
  obtain ⟨uo1,rfl⟩:=unj huo1
  replace H:=G1
  clear G1
  try simp only [patch,sc0,sc1]
  refine norm_then<|wp_seq<|region<|rs (vI xx1) (r_move rfl)<|rs (vI xx1) (r_assign rfl) ?_
  try simp only [sc0,sc1]
  refine run_nil<|norm_then<|wp_ret ?_
  obtain rfl:=Option.some.inj H
  exact bodyPost_ret (results_1 rfl (one_tmp rfl)) rfl<|⟨rfl,HS3.toE⟩
def taplineref09_Scalar.f (k:Nat) (a0:api_Types) (a1:Int):Option (api_Int×Bool):=(taplineref08_Resolved.f k a0 a1).bind fun v1=>(if 0≤v1∧v1<a0.vDefs.length then (if ((rd z_api_Def a0.vDefs v1).vKind==1)=true then (some ((rd z_api_Def a0.vDefs v1).vInt,true)) else (if ((rd z_api_Def a0.vDefs v1).vKind==5)=true then (some ((⟨4,true⟩:api_Int),true)) else (if ((rd z_api_Def a0.vDefs v1).vKind==2)=true then (some ((⟨8,false⟩:api_Int),true)) else (some ((⟨0,false⟩:api_Int),false))))) else none)
theorem taplineref09_Scalar.calls (k:Nat) (a0:api_Types) (a1:Int) (A0_0:Option Addr) (c0_0:Nat) {h0:View} {w0:World} (hv:Sees h0 w0) (hr0_0:Rd k_api_Def h0 A0_0 a0.vDefs) (hc0_0:a0.vDefs.length≤c0_0) {r:api_Int×Bool} (H:taplineref09_Scalar.f k a0 a1=some r):Calls Tryz.prog 20 #[Value.agg #[vL A0_0 a0.vDefs.length c0_0],vI a1] w0 (fun e w1=>e= .returned (Value.tuple #[Value.agg #[vI r.1.vSize,vB r.1.vSigned],vB r.2])∧Ext w0 w1):=by
 unfold taplineref09_Scalar.f at H
 have HS:St [] h0 w0 h0 [] w0:=St.init hv
 go_enter Tryz.func20,Tryz.ntmps20
 refine wp_seq<|region<|run_ex rfl rfl (does_box (cs:=#[vL A0_0 a0.vDefs.length c0_0]) rfl rfl) ?_
 rintro w1 _ hE1 ⟨b1,rfl,ge1,hb1⟩
 have HS1:=HS.new hE1 ge1 hb1
 refine run_ex rfl rfl (does_alloc (cs:=#[vI 0,vB false]) Tryz.zeroValue29 rfl) ?_
 rintro w2 _ hE2 ⟨b2,rfl,ge2,hb2⟩
 have HS2:=HS1.new hE2 ge2 hb2
 refine rs (vB false) (r_assign rfl) ?_
 try simp only [sc0,sc1]
 refine run_nil<|norm_then<|wp_seq ?_
 obtain ⟨v1,H1,H⟩:=of_bind H
 obtain ⟨hi1,H⟩:=of_ite H
 obtain ⟨ad1,Aad1_6,cad1_6,e1,hel1,hcad1_6,hrad1_6⟩:=ld_api_Def hr0_0 hi1.1 hi1.2
 refine drawn [.eq (vP b1 0), .eq (vL A0_0 a0.vDefs.length c0_0), .eq (Value.agg #[vL A0_0 a0.vDefs.length c0_0]), .eq (vI a1), .eq (vI v1), .eq (Value.pointer (some (Addr.add ad1 (v1.toNat*7)))), .eq (Value.agg #[vI ((rd z_api_Def a0.vDefs v1).vKind),vS ((rd z_api_Def a0.vDefs v1).vName),vI ((rd z_api_Def a0.vDefs v1).vInt.vSize),vB ((rd z_api_Def a0.vDefs v1).vInt.vSigned),vI ((rd z_api_Def a0.vDefs v1).vRef),vI ((rd z_api_Def a0.vDefs v1).vN),vL Aad1_6 ((rd z_api_Def a0.vDefs v1).vFields).length cad1_6]), .ex (NewBox w2 #[vI 0,vS ByteArray.empty,vI 0,vB false,vI 0,vI 0,vL none 0 0] 56)] [7,8,9,10,11,12,13,6] hmix (by kernel_rfl) rfl (stable_eq (stable_eq (stable_eq (stable_eq (stable_eq (stable_eq (stable_eq (stable_ex NewBox.stable stable_nil)))))))) ⟨ob_plain rfl (fun a' w' hE hk=>by have HSd:=HS2.step hE;exact does_eq (r_fieldBox (n:=1) (o':=0) (show _=vP b1 0 from hk 2 rfl) Tryz.runUnderlying24 rfl Tryz.sizeOf22 (by decide) rfl)),ob_plain rfl (fun a' w' hE hk=>by have HSd:=HS2.step hE;exact does_eq (r_loadBox (show _=vP b1 0 from hk 7 rfl) Tryz.isAgg22 (HSd.look 1 rfl) rfl)),ob_plain rfl (fun a' w' hE hk=>by have HSd:=HS2.step hE;exact does_eq (r_loadBoxAgg (n:=1) (vs:=[vL A0_0 a0.vDefs.length c0_0]) (show _=vP b1 0 from hk 2 rfl) Tryz.isAgg24 (HSd.look 1 rfl) Tryz.sizeOf24 rfl rfl)),ob_plain rfl (fun a' w' hE hk=>by have HSd:=HS2.step hE;exact does_eq (r_move (show _=vI a1 from hk 1 rfl))),ob_plain rfl (fun a' w' hE hk=>by have HSd:=HS2.step hE;exact (does_call_eq Tryz.call55 rfl (map2 (show _=Value.agg #[vL A0_0 a0.vDefs.length c0_0] from hk 9 rfl) (show _=vI a1 from hk 10 rfl)) (taplineref08_Resolved.calls k a0 a1 A0_0 c0_0 HSd.sees hr0_0 hc0_0 H1))),ob_plain rfl (fun a' w' hE hk=>by have HSd:=HS2.step hE;exact does_eq (r_indexA (sz:=7) (show _=vL A0_0 a0.vDefs.length c0_0 from hk 8 rfl) e1 (show _=vI v1 from hk 11 rfl) hi1.1 hi1.2 Tryz.runUnderlying22 Tryz.sizeOf56)),ob_plain rfl (fun a' w' hE hk=>by have HSd:=HS2.step hE;exact does_eq (r_loadAgg (show _=Value.pointer (some (Addr.add ad1 (v1.toNat*7))) from hk 12 rfl) Tryz.isAgg56 (hel1.sees HSd.sees) Tryz.sizeOf56)),ob_plain rfl (fun a' w' hE hk=>(alloc_in hE (cs:=#[vI 0,vS ByteArray.empty,vI 0,vB false,vI 0,vI 0,vL none 0 0]) Tryz.zeroValue56 rfl)),trivial⟩ ?_
 intro w3 hE3
 simp only [List.zip_cons_cons,List.zip_nil_left,List.zip_nil_right,finL,sc0,sc1,List.length_cons,List.length_nil,List.drop_succ_cons,List.drop_zero,Nat.zero_add,Nat.reduceAdd]
 rintro _ ⟨b3,rfl,ge3,hb3⟩
 have HS3:=HS2.new hE3 ge3 hb3
 refine run_st (i:=0) (cs:=[vI 0,vS ByteArray.empty,vI 0,vB false,vI 0,vI 0,vL none 0 0]) (cs':=[vI ((rd z_api_Def a0.vDefs v1).vKind),vS ((rd z_api_Def a0.vDefs v1).vName),vI ((rd z_api_Def a0.vDefs v1).vInt.vSize),vB ((rd z_api_Def a0.vDefs v1).vInt.vSigned),vI ((rd z_api_Def a0.vDefs v1).vRef),vI ((rd z_api_Def a0.vDefs v1).vN),vL Aad1_6 ((rd z_api_Def a0.vDefs v1).vFields).length cad1_6]) (vs:=[vI ((rd z_api_Def a0.vDefs v1).vKind),vS ((rd z_api_Def a0.vDefs v1).vName),vI ((rd z_api_Def a0.vDefs v1).vInt.vSize),vB ((rd z_api_Def a0.vDefs v1).vInt.vSigned),vI ((rd z_api_Def a0.vDefs v1).vRef),vI ((rd z_api_Def a0.vDefs v1).vN),vL Aad1_6 ((rd z_api_Def a0.vDefs v1).vFields).length cad1_6]) (bs':=[(some b3, .cells #[vI ((rd z_api_Def a0.vDefs v1).vKind),vS ((rd z_api_Def a0.vDefs v1).vName),vI ((rd z_api_Def a0.vDefs v1).vInt.vSize),vB ((rd z_api_Def a0.vDefs v1).vInt.vSigned),vI ((rd z_api_Def a0.vDefs v1).vRef),vI ((rd z_api_Def a0.vDefs v1).vN),vL Aad1_6 ((rd z_api_Def a0.vDefs v1).vFields).length cad1_6] 56 (0,0)),(some b2, .cells #[vI 0,vB false] 29 (0,0)),(some b1, .cells #[vL A0_0 a0.vDefs.length c0_0] 24 (0,0))]) rfl rfl Tryz.sizeOf56 rfl rfl (by decide) rfl HS3 rfl (Nat.le_of_ble_eq_true rfl) rfl rfl ?_
 intro w4 HS4
 try simp only [sc0,sc1]
 refine run_nil<|norm_then<|wp_seq<|wp_seq<|region<|rs (vP b3 0) (r_fieldBox (n:=1) (o':=0) rfl Tryz.runUnderlying56 rfl Tryz.sizeOf3 (by decide) rfl)<|rs (vI ((rd z_api_Def a0.vDefs v1).vKind)) (r_loadBox rfl Tryz.isAgg3 (HS4.look 0 rfl) rfl) ?_
 try simp only [sc0,sc1]
 refine run_nil<|norm_then<|wp_block<|wp_seq<|region<|rs (vB ((rd z_api_Def a0.vDefs v1).vKind==1)) (r_bin rfl rfl rfl)<|rs (vB ((rd z_api_Def a0.vDefs v1).vKind==1)) (r_assign rfl) ?_
 try simp only [sc0,sc1]
 refine run_nil<|norm_then<|wp_cond_split (t:=((rd z_api_Def a0.vDefs v1).vKind==1)) rfl (fun c1=>?_) (fun c1=>?_)
 ·replace H:=of_pos H c1
  refine wp_seq<|region<|rs (vP b3 2) (r_fieldBox (n:=2) (o':=2) rfl Tryz.runUnderlying56 rfl Tryz.sizeOf29 (by decide) rfl)<|rs (Value.agg #[vI ((rd z_api_Def a0.vDefs v1).vInt.vSize),vB ((rd z_api_Def a0.vDefs v1).vInt.vSigned)]) (r_loadBoxAgg (n:=2) (vs:=[vI ((rd z_api_Def a0.vDefs v1).vInt.vSize),vB ((rd z_api_Def a0.vDefs v1).vInt.vSigned)]) rfl Tryz.isAgg29 (HS4.look 0 rfl) Tryz.sizeOf29 rfl rfl)<|run_st (i:=1) (cs:=[vI 0,vB false]) (cs':=[vI ((rd z_api_Def a0.vDefs v1).vInt.vSize),vB ((rd z_api_Def a0.vDefs v1).vInt.vSigned)]) (vs:=[vI ((rd z_api_Def a0.vDefs v1).vInt.vSize),vB ((rd z_api_Def a0.vDefs v1).vInt.vSigned)]) (bs':=[(some b3, .cells #[vI ((rd z_api_Def a0.vDefs v1).vKind),vS ((rd z_api_Def a0.vDefs v1).vName),vI ((rd z_api_Def a0.vDefs v1).vInt.vSize),vB ((rd z_api_Def a0.vDefs v1).vInt.vSigned),vI ((rd z_api_Def a0.vDefs v1).vRef),vI ((rd z_api_Def a0.vDefs v1).vN),vL Aad1_6 ((rd z_api_Def a0.vDefs v1).vFields).length cad1_6] 56 (0,0)),(some b2, .cells #[vI ((rd z_api_Def a0.vDefs v1).vInt.vSize),vB ((rd z_api_Def a0.vDefs v1).vInt.vSigned)] 29 (0,0)),(some b1, .cells #[vL A0_0 a0.vDefs.length c0_0] 24 (0,0))]) rfl rfl Tryz.sizeOf29 rfl rfl (by decide) rfl HS4 rfl (Nat.le_of_ble_eq_true rfl) rfl rfl ?_
  intro w5 HS5
  refine rs (vB true) (r_assign rfl) ?_
  try simp only [sc0,sc1]
  refine run_nil<|norm_then<|wp_ret<|ret_block<|ret_then ?_
  obtain rfl:=Option.some.inj H
  exact bodyPost_ret (results_2 rfl (one_agg rfl Tryz.isAgg29 (HS5.look 1 rfl) Tryz.sizeOf29 rfl) (one_tmp rfl)) rfl<|⟨rfl,HS5.toE⟩
 ·replace H:=of_neg H (nt c1)
  refine wp_seq<|region<|rs (vB ((rd z_api_Def a0.vDefs v1).vKind==5)) (r_bin rfl rfl rfl)<|rs (vB ((rd z_api_Def a0.vDefs v1).vKind==5)) (r_assign rfl) ?_
  try simp only [sc0,sc1]
  refine run_nil<|norm_then<|wp_cond_split (t:=((rd z_api_Def a0.vDefs v1).vKind==5)) rfl (fun c2=>?_) (fun c2=>?_)
  ·replace H:=of_pos H c2
   refine wp_seq<|region<|rs (Value.agg #[vI 4,vB true]) (r_build (cs:=[vI 4,vB true]) (ps:=[(0,vI 4),(1,vB true)]) Tryz.zeroValue29 Tryz.runUnderlying29 (pl:=#[(0,1),(1,1)]) (fun w=>by simp [Tryz.sizeOf3,Tryz.sizeOf4]) (parts_2 (show _=vI 4 from rfl) (show _=vB true from rfl)) rfl) ?_
   refine run_st (i:=1) (cs:=[vI 0,vB false]) (cs':=[vI 4,vB true]) (vs:=[vI 4,vB true]) (bs':=[(some b3, .cells #[vI ((rd z_api_Def a0.vDefs v1).vKind),vS ((rd z_api_Def a0.vDefs v1).vName),vI ((rd z_api_Def a0.vDefs v1).vInt.vSize),vB ((rd z_api_Def a0.vDefs v1).vInt.vSigned),vI ((rd z_api_Def a0.vDefs v1).vRef),vI ((rd z_api_Def a0.vDefs v1).vN),vL Aad1_6 ((rd z_api_Def a0.vDefs v1).vFields).length cad1_6] 56 (0,0)),(some b2, .cells #[vI 4,vB true] 29 (0,0)),(some b1, .cells #[vL A0_0 a0.vDefs.length c0_0] 24 (0,0))]) rfl rfl Tryz.sizeOf29 rfl rfl (by decide) rfl HS4 rfl (Nat.le_of_ble_eq_true rfl) rfl rfl ?_
   intro w6 HS6
   refine rs (vB true) (r_assign rfl) ?_
   try simp only [sc0,sc1]
   refine run_nil<|norm_then<|wp_ret<|ret_block<|ret_then ?_
   obtain rfl:=Option.some.inj H
   exact bodyPost_ret (results_2 rfl (one_agg rfl Tryz.isAgg29 (HS6.look 1 rfl) Tryz.sizeOf29 rfl) (one_tmp rfl)) rfl<|⟨rfl,HS6.toE⟩
  ·replace H:=of_neg H (nt c2)
   refine wp_seq<|region<|rs (vB ((rd z_api_Def a0.vDefs v1).vKind==2)) (r_bin rfl rfl rfl)<|rs (vB ((rd z_api_Def a0.vDefs v1).vKind==2)) (r_assign rfl) ?_
   try simp only [sc0,sc1]
   refine run_nil<|norm_then<|wp_cond_split (t:=((rd z_api_Def a0.vDefs v1).vKind==2)) rfl (fun c3=>?_) (fun c3=>?_)
   ·replace H:=of_pos H c3
    refine wp_seq<|region<|rs (Value.agg #[vI 8,vB false]) (r_build (cs:=[vI 8,vB false]) (ps:=[(0,vI 8)]) Tryz.zeroValue29 Tryz.runUnderlying29 (pl:=#[(0,1),(1,1)]) (fun w=>by simp [Tryz.sizeOf3,Tryz.sizeOf4]) (parts_1 (show _=vI 8 from rfl)) rfl) ?_
    refine run_st (i:=1) (cs:=[vI 0,vB false]) (cs':=[vI 8,vB false]) (vs:=[vI 8,vB false]) (bs':=[(some b3, .cells #[vI ((rd z_api_Def a0.vDefs v1).vKind),vS ((rd z_api_Def a0.vDefs v1).vName),vI ((rd z_api_Def a0.vDefs v1).vInt.vSize),vB ((rd z_api_Def a0.vDefs v1).vInt.vSigned),vI ((rd z_api_Def a0.vDefs v1).vRef),vI ((rd z_api_Def a0.vDefs v1).vN),vL Aad1_6 ((rd z_api_Def a0.vDefs v1).vFields).length cad1_6] 56 (0,0)),(some b2, .cells #[vI 8,vB false] 29 (0,0)),(some b1, .cells #[vL A0_0 a0.vDefs.length c0_0] 24 (0,0))]) rfl rfl Tryz.sizeOf29 rfl rfl (by decide) rfl HS4 rfl (Nat.le_of_ble_eq_true rfl) rfl rfl ?_
    intro w7 HS7
    refine rs (vB true) (r_assign rfl) ?_
    try simp only [sc0,sc1]
    refine run_nil<|norm_then<|wp_ret<|ret_block<|ret_then ?_
    obtain rfl:=Option.some.inj H
    exact bodyPost_ret (results_2 rfl (one_agg rfl Tryz.isAgg29 (HS7.look 1 rfl) Tryz.sizeOf29 rfl) (one_tmp rfl)) rfl<|⟨rfl,HS7.toE⟩
   ·replace H:=of_neg H (nt c3)
    refine wp_skip<|norm_block<|norm_then<|wp_seq<|region<|rs (Value.agg #[vI 0,vB false]) (r_build0 (cs:=[vI 0,vB false]) Tryz.zeroValue29 Tryz.runUnderlying29 (pl:=#[(0,1),(1,1)]) (fun w=>by simp [Tryz.sizeOf3,Tryz.sizeOf4]) rfl) ?_
    refine run_st (i:=1) (cs:=[vI 0,vB false]) (cs':=[vI 0,vB false]) (vs:=[vI 0,vB false]) (bs':=[(some b3, .cells #[vI ((rd z_api_Def a0.vDefs v1).vKind),vS ((rd z_api_Def a0.vDefs v1).vName),vI ((rd z_api_Def a0.vDefs v1).vInt.vSize),vB ((rd z_api_Def a0.vDefs v1).vInt.vSigned),vI ((rd z_api_Def a0.vDefs v1).vRef),vI ((rd z_api_Def a0.vDefs v1).vN),vL Aad1_6 ((rd z_api_Def a0.vDefs v1).vFields).length cad1_6] 56 (0,0)),(some b2, .cells #[vI 0,vB false] 29 (0,0)),(some b1, .cells #[vL A0_0 a0.vDefs.length c0_0] 24 (0,0))]) rfl rfl Tryz.sizeOf29 rfl rfl (by decide) rfl HS4 rfl (Nat.le_of_ble_eq_true rfl) rfl rfl ?_
    intro w8 HS8
    refine rs (vB false) (r_assign rfl) ?_
    try simp only [sc0,sc1]
    refine run_nil<|norm_then<|wp_ret ?_
    obtain rfl:=Option.some.inj H
    exact bodyPost_ret (results_2 rfl (one_agg rfl Tryz.isAgg29 (HS8.look 1 rfl) Tryz.sizeOf29 rfl) (one_tmp rfl)) rfl<|⟨rfl,HS8.toE⟩
def ctf_Check.f (k:Nat) (a0:api_Types):Option (Int):=(ctf_valid.f k a0).bind fun v1=>(if (!v1)=true then (some 80) else (some 0))
theorem ctf_Check.calls (k:Nat) (a0:api_Types) (A0_0:Option Addr) (c0_0:Nat) {h0:View} {w0:World} (hv:Sees h0 w0) (hr0_0:Rd k_api_Def h0 A0_0 a0.vDefs) (hc0_0:a0.vDefs.length≤c0_0) {r:Int} (H:ctf_Check.f k a0=some r):Calls Tryz.prog 34 #[Value.agg #[vL A0_0 a0.vDefs.length c0_0]] w0 (fun e w1=>e= .returned (vI r)∧Ext w0 w1):=by
 unfold ctf_Check.f at H
 have HS:St [] h0 w0 h0 [] w0:=St.init hv
 go_enter Tryz.func34,Tryz.ntmps34
 refine wp_seq<|region<|run_ex rfl rfl (does_box (cs:=#[vL A0_0 a0.vDefs.length c0_0]) rfl rfl) ?_
 rintro w1 _ hE1 ⟨b1,rfl,ge1,hb1⟩
 have HS1:=HS.new hE1 ge1 hb1
 refine rs (vI 0) (r_assign rfl) ?_
 try simp only [sc0,sc1]
 refine run_nil<|norm_then<|wp_seq<|wp_seq<|region<|rs (Value.agg #[vL A0_0 a0.vDefs.length c0_0]) (r_loadBoxAgg (n:=1) (vs:=[vL A0_0 a0.vDefs.length c0_0]) rfl Tryz.isAgg24 (HS1.look 0 rfl) Tryz.sizeOf24 rfl rfl) ?_
 obtain ⟨v1,H1,H⟩:=of_bind H
 refine run_eq (v:=vB v1) rfl rfl (does_call_eq Tryz.call74 rfl rfl (ctf_valid.calls k a0 A0_0 c0_0 HS1.sees hr0_0 hc0_0 H1)) ?_
 intro w2 hE2
 have HS2:=HS1.step hE2
 refine rs (vB (!v1)) (r_not rfl) ?_
 try simp only [sc0,sc1]
 refine run_nil<|norm_then<|wp_cond_split (t:=(!v1)) rfl (fun c1=>?_) (fun c1=>?_)
 ·replace H:=of_pos H c1
  refine wp_seq<|region<|rs (vI 80) (r_assign rfl) ?_
  try simp only [sc0,sc1]
  refine run_nil<|norm_then<|wp_ret<|ret_then ?_
  obtain rfl:=Option.some.inj H
  exact bodyPost_ret (results_1 rfl (one_tmp rfl)) rfl<|⟨rfl,HS2.toE⟩
 ·replace H:=of_neg H (nt c1)
  refine wp_skip<|norm_then<|wp_seq<|region<|rs (vI 0) (r_assign rfl) ?_
  try simp only [sc0,sc1]
  refine run_nil<|norm_then<|wp_ret ?_
  obtain rfl:=Option.some.inj H
  exact bodyPost_ret (results_1 rfl (one_tmp rfl)) rfl<|⟨rfl,HS2.toE⟩
def ctf_Resolve.f (k:Nat) (a0:api_Types) (a1:Int):Option (Int×Int):=(ctf_given.f k a0 a1).bind fun v1=>(if (v1 !=0)=true then (some (0,v1)) else ((ctf_resolved.f k a0 a1).bind fun v2=>(some (v2,0))))
theorem ctf_Resolve.calls (k:Nat) (a0:api_Types) (a1:Int) (A0_0:Option Addr) (c0_0:Nat) {h0:View} {w0:World} (hv:Sees h0 w0) (hr0_0:Rd k_api_Def h0 A0_0 a0.vDefs) (hc0_0:a0.vDefs.length≤c0_0) {r:Int×Int} (H:ctf_Resolve.f k a0 a1=some r):Calls Tryz.prog 72 #[Value.agg #[vL A0_0 a0.vDefs.length c0_0],vI a1] w0 (fun e w1=>e= .returned (Value.tuple #[vI r.1,vI r.2])∧Ext w0 w1):=by
 unfold ctf_Resolve.f at H
 have HS:St [] h0 w0 h0 [] w0:=St.init hv
 go_enter Tryz.func72,Tryz.ntmps72
 refine wp_seq<|region<|run_ex rfl rfl (does_box (cs:=#[vL A0_0 a0.vDefs.length c0_0]) rfl rfl) ?_
 rintro w1 _ hE1 ⟨b1,rfl,ge1,hb1⟩
 have HS1:=HS.new hE1 ge1 hb1
 refine rs (vI 0) (r_assign rfl)<|rs (vI 0) (r_assign rfl) ?_
 try simp only [sc0,sc1]
 refine run_nil<|norm_then<|wp_seq<|wp_seq<|region<|rs (Value.agg #[vL A0_0 a0.vDefs.length c0_0]) (r_loadBoxAgg (n:=1) (vs:=[vL A0_0 a0.vDefs.length c0_0]) rfl Tryz.isAgg24 (HS1.look 0 rfl) Tryz.sizeOf24 rfl rfl)<|rs (vI a1) (r_move rfl) ?_
 obtain ⟨v1,H1,H⟩:=of_bind H
 refine run_eq (v:=vI v1) rfl rfl (does_call_eq Tryz.call53 rfl rfl (ctf_given.calls k a0 a1 A0_0 c0_0 HS1.sees hr0_0 hc0_0 H1)) ?_
 intro w2 hE2
 have HS2:=HS1.step hE2
 refine rs (vI v1) (r_assign rfl) ?_
 try simp only [sc0,sc1]
 refine run_nil<|norm_then<|wp_seq<|region<|rs (vI v1) (r_move rfl)<|rs (vB (v1 !=0)) (r_bin rfl rfl rfl) ?_
 try simp only [sc0,sc1]
 refine run_nil<|norm_then<|wp_cond_split (t:=(v1 !=0)) rfl (fun c1=>?_) (fun c1=>?_)
 ·replace H:=of_pos H c1
  refine wp_seq<|region<|rs (vI v1) (r_move rfl)<|rs (vI 0) (r_assign rfl)<|rs (vI v1) (r_assign rfl) ?_
  try simp only [sc0,sc1]
  refine run_nil<|norm_then<|wp_ret<|ret_then ?_
  obtain rfl:=Option.some.inj H
  exact bodyPost_ret (results_2 rfl (one_tmp rfl) (one_tmp rfl)) rfl<|⟨rfl,HS2.toE⟩
 ·replace H:=of_neg H (nt c1)
  refine wp_skip<|norm_then<|wp_seq<|region<|rs (Value.agg #[vL A0_0 a0.vDefs.length c0_0]) (r_loadBoxAgg (n:=1) (vs:=[vL A0_0 a0.vDefs.length c0_0]) rfl Tryz.isAgg24 (HS2.look 0 rfl) Tryz.sizeOf24 rfl rfl)<|rs (vI a1) (r_move rfl) ?_
  obtain ⟨v2,H2,H⟩:=of_bind H
  refine run_eq (v:=vI v2) rfl rfl (does_call_eq Tryz.call89 rfl rfl (ctf_resolved.calls k a0 a1 A0_0 c0_0 HS2.sees hr0_0 hc0_0 H2)) ?_
  intro w3 hE3
  have HS3:=HS2.step hE3
  refine rs (vI v2) (r_assign rfl)<|run_frame (by simp only [sc0,sc1];rfl) ?_
  refine rs (vI 0) (r_assign rfl) ?_
  try simp only [sc0,sc1]
  refine run_nil<|norm_then<|wp_ret ?_
  obtain rfl:=Option.some.inj H
  exact bodyPost_ret (results_2 rfl (one_tmp rfl) (one_tmp rfl)) rfl<|⟨rfl,HS3.toE⟩
def image_scalar.f (k:Nat) (a0:api_Types) (a1:Int):Option (api_Int×Bool):=(ctf_Resolve.f k a0 a1).bind fun v1=>(if (v1.2 !=0)=true then (some ((⟨0,false⟩:api_Int),false)) else (if 0≤v1.1∧v1.1<a0.vDefs.length then (if ((rd z_api_Def a0.vDefs v1.1).vKind==1)=true then (some ((rd z_api_Def a0.vDefs v1.1).vInt,true)) else (if ((rd z_api_Def a0.vDefs v1.1).vKind==5)=true then (some ((⟨4,true⟩:api_Int),true)) else (if ((rd z_api_Def a0.vDefs v1.1).vKind==2)=true then (some ((⟨8,false⟩:api_Int),true)) else (some ((⟨0,false⟩:api_Int),false))))) else none))
theorem image_scalar.calls (k:Nat) (a0:api_Types) (a1:Int) (A0_0:Option Addr) (c0_0:Nat) {h0:View} {w0:World} (hv:Sees h0 w0) (hr0_0:Rd k_api_Def h0 A0_0 a0.vDefs) (hc0_0:a0.vDefs.length≤c0_0) {r:api_Int×Bool} (H:image_scalar.f k a0 a1=some r):Calls Tryz.prog 36 #[Value.agg #[vL A0_0 a0.vDefs.length c0_0],vI a1] w0 (fun e w1=>e= .returned (Value.tuple #[Value.agg #[vI r.1.vSize,vB r.1.vSigned],vB r.2])∧Ext w0 w1):=by
 unfold image_scalar.f at H
 have HS:St [] h0 w0 h0 [] w0:=St.init hv
 go_enter Tryz.func36,Tryz.ntmps36
 refine wp_seq<|region<|run_ex rfl rfl (does_box (cs:=#[vL A0_0 a0.vDefs.length c0_0]) rfl rfl) ?_
 rintro w1 _ hE1 ⟨b1,rfl,ge1,hb1⟩
 have HS1:=HS.new hE1 ge1 hb1
 refine run_ex rfl rfl (does_alloc (cs:=#[vI 0,vB false]) Tryz.zeroValue29 rfl) ?_
 rintro w2 _ hE2 ⟨b2,rfl,ge2,hb2⟩
 have HS2:=HS1.new hE2 ge2 hb2
 refine rs (vB false) (r_assign rfl) ?_
 try simp only [sc0,sc1]
 refine run_nil<|norm_then<|wp_seq<|region<|rs (Value.agg #[vL A0_0 a0.vDefs.length c0_0]) (r_loadBoxAgg (n:=1) (vs:=[vL A0_0 a0.vDefs.length c0_0]) rfl Tryz.isAgg24 (HS2.look 1 rfl) Tryz.sizeOf24 rfl rfl)<|rs (vI a1) (r_move rfl) ?_
 obtain ⟨v1,H1,H⟩:=of_bind H
 refine run_eq (v:=Value.tuple #[vI v1.1,vI v1.2]) rfl rfl (does_call_eq Tryz.call72 rfl rfl (ctf_Resolve.calls k a0 a1 A0_0 c0_0 HS2.sees hr0_0 hc0_0 H1)) ?_
 intro w3 hE3
 have HS3:=HS2.step hE3
 refine rs (Value.tuple #[vI v1.1,vI v1.2]) (r_move rfl)<|run_frame (by simp only [sc0,sc1];rfl) ?_
 refine rs (vI v1.1) (r_extract rfl rfl)<|rs (vI v1.2) (r_extract rfl rfl)<|rs (vI v1.1) (r_assign rfl)<|rs (vI v1.2) (r_assign rfl) ?_
 try simp only [sc0,sc1]
 refine run_nil<|norm_then<|wp_seq<|wp_seq<|region<|rs (vI v1.2) (r_move rfl)<|rs (vB (v1.2 !=0)) (r_bin rfl rfl rfl) ?_
 try simp only [sc0,sc1]
 refine run_nil<|norm_then<|wp_cond_split (t:=(v1.2 !=0)) rfl (fun c1=>?_) (fun c1=>?_)
 ·replace H:=of_pos H c1
  refine wp_seq<|region<|rs (Value.agg #[vI 0,vB false]) (r_build0 (cs:=[vI 0,vB false]) Tryz.zeroValue29 Tryz.runUnderlying29 (pl:=#[(0,1),(1,1)]) (fun w=>by simp [Tryz.sizeOf3,Tryz.sizeOf4]) rfl) ?_
  refine run_st (i:=0) (cs:=[vI 0,vB false]) (cs':=[vI 0,vB false]) (vs:=[vI 0,vB false]) (bs':=[(some b2, .cells #[vI 0,vB false] 29 (0,0)),(some b1, .cells #[vL A0_0 a0.vDefs.length c0_0] 24 (0,0))]) rfl rfl Tryz.sizeOf29 rfl rfl (by decide) rfl HS3 rfl (Nat.le_of_ble_eq_true rfl) rfl rfl ?_
  intro w4 HS4
  refine rs (vB false) (r_assign rfl) ?_
  try simp only [sc0,sc1]
  refine run_nil<|norm_then<|wp_ret<|ret_then ?_
  obtain rfl:=Option.some.inj H
  exact bodyPost_ret (results_2 rfl (one_agg rfl Tryz.isAgg29 (HS4.look 0 rfl) Tryz.sizeOf29 rfl) (one_tmp rfl)) rfl<|⟨rfl,HS4.toE⟩
 ·replace H:=of_neg H (nt c1)
  refine wp_skip<|norm_then<|wp_seq<|wp_seq<|region<|rs (vP b1 0) (r_fieldBox (n:=1) (o':=0) rfl Tryz.runUnderlying24 rfl Tryz.sizeOf22 (by decide) rfl)<|rs (vL A0_0 a0.vDefs.length c0_0) (r_loadBox rfl Tryz.isAgg22 (HS3.look 1 rfl) rfl)<|rs (vI v1.1) (r_move rfl) ?_
  obtain ⟨hi1,H⟩:=of_ite H
  obtain ⟨ad1,Aad1_6,cad1_6,e1,hel1,hcad1_6,hrad1_6⟩:=ld_api_Def hr0_0 hi1.1 hi1.2
  refine rs (Value.pointer (some (Addr.add ad1 (v1.1.toNat*7)))) (r_indexA (sz:=7) rfl e1 rfl hi1.1 hi1.2 Tryz.runUnderlying22 Tryz.sizeOf56)<|run_frame (by simp only [sc0,sc1];rfl) ?_
  refine rs (Value.agg #[vI ((rd z_api_Def a0.vDefs v1.1).vKind),vS ((rd z_api_Def a0.vDefs v1.1).vName),vI ((rd z_api_Def a0.vDefs v1.1).vInt.vSize),vB ((rd z_api_Def a0.vDefs v1.1).vInt.vSigned),vI ((rd z_api_Def a0.vDefs v1.1).vRef),vI ((rd z_api_Def a0.vDefs v1.1).vN),vL Aad1_6 ((rd z_api_Def a0.vDefs v1.1).vFields).length cad1_6]) (r_loadAgg rfl Tryz.isAgg56 (hel1.sees HS3.sees) Tryz.sizeOf56)<|run_ex rfl rfl (does_alloc (cs:=#[vI 0,vS ByteArray.empty,vI 0,vB false,vI 0,vI 0,vL none 0 0]) Tryz.zeroValue56 rfl) ?_
  rintro w5 _ hE4 ⟨b3,rfl,ge3,hb3⟩
  have HS5:=HS3.new hE4 ge3 hb3
  refine run_st (i:=0) (cs:=[vI 0,vS ByteArray.empty,vI 0,vB false,vI 0,vI 0,vL none 0 0]) (cs':=[vI ((rd z_api_Def a0.vDefs v1.1).vKind),vS ((rd z_api_Def a0.vDefs v1.1).vName),vI ((rd z_api_Def a0.vDefs v1.1).vInt.vSize),vB ((rd z_api_Def a0.vDefs v1.1).vInt.vSigned),vI ((rd z_api_Def a0.vDefs v1.1).vRef),vI ((rd z_api_Def a0.vDefs v1.1).vN),vL Aad1_6 ((rd z_api_Def a0.vDefs v1.1).vFields).length cad1_6]) (vs:=[vI ((rd z_api_Def a0.vDefs v1.1).vKind),vS ((rd z_api_Def a0.vDefs v1.1).vName),vI ((rd z_api_Def a0.vDefs v1.1).vInt.vSize),vB ((rd z_api_Def a0.vDefs v1.1).vInt.vSigned),vI ((rd z_api_Def a0.vDefs v1.1).vRef),vI ((rd z_api_Def a0.vDefs v1.1).vN),vL Aad1_6 ((rd z_api_Def a0.vDefs v1.1).vFields).length cad1_6]) (bs':=[(some b3, .cells #[vI ((rd z_api_Def a0.vDefs v1.1).vKind),vS ((rd z_api_Def a0.vDefs v1.1).vName),vI ((rd z_api_Def a0.vDefs v1.1).vInt.vSize),vB ((rd z_api_Def a0.vDefs v1.1).vInt.vSigned),vI ((rd z_api_Def a0.vDefs v1.1).vRef),vI ((rd z_api_Def a0.vDefs v1.1).vN),vL Aad1_6 ((rd z_api_Def a0.vDefs v1.1).vFields).length cad1_6] 56 (0,0)),(some b2, .cells #[vI 0,vB false] 29 (0,0)),(some b1, .cells #[vL A0_0 a0.vDefs.length c0_0] 24 (0,0))]) rfl rfl Tryz.sizeOf56 rfl rfl (by decide) rfl HS5 rfl (Nat.le_of_ble_eq_true rfl) rfl rfl ?_
  intro w6 HS6
  try simp only [sc0,sc1]
  refine run_nil<|norm_then<|wp_seq<|region<|rs (vP b3 0) (r_fieldBox (n:=1) (o':=0) rfl Tryz.runUnderlying56 rfl Tryz.sizeOf3 (by decide) rfl)<|rs (vI ((rd z_api_Def a0.vDefs v1.1).vKind)) (r_loadBox rfl Tryz.isAgg3 (HS6.look 0 rfl) rfl) ?_
  try simp only [sc0,sc1]
  refine run_nil<|norm_then<|wp_block<|wp_seq<|region<|rs (vB ((rd z_api_Def a0.vDefs v1.1).vKind==1)) (r_bin rfl rfl rfl)<|rs (vB ((rd z_api_Def a0.vDefs v1.1).vKind==1)) (r_assign rfl) ?_
  try simp only [sc0,sc1]
  refine run_nil<|norm_then<|wp_cond_split (t:=((rd z_api_Def a0.vDefs v1.1).vKind==1)) rfl (fun c2=>?_) (fun c2=>?_)
  ·replace H:=of_pos H c2
   refine wp_seq<|region<|rs (vP b3 2) (r_fieldBox (n:=2) (o':=2) rfl Tryz.runUnderlying56 rfl Tryz.sizeOf29 (by decide) rfl)<|rs (Value.agg #[vI ((rd z_api_Def a0.vDefs v1.1).vInt.vSize),vB ((rd z_api_Def a0.vDefs v1.1).vInt.vSigned)]) (r_loadBoxAgg (n:=2) (vs:=[vI ((rd z_api_Def a0.vDefs v1.1).vInt.vSize),vB ((rd z_api_Def a0.vDefs v1.1).vInt.vSigned)]) rfl Tryz.isAgg29 (HS6.look 0 rfl) Tryz.sizeOf29 rfl rfl)<|run_st (i:=1) (cs:=[vI 0,vB false]) (cs':=[vI ((rd z_api_Def a0.vDefs v1.1).vInt.vSize),vB ((rd z_api_Def a0.vDefs v1.1).vInt.vSigned)]) (vs:=[vI ((rd z_api_Def a0.vDefs v1.1).vInt.vSize),vB ((rd z_api_Def a0.vDefs v1.1).vInt.vSigned)]) (bs':=[(some b3, .cells #[vI ((rd z_api_Def a0.vDefs v1.1).vKind),vS ((rd z_api_Def a0.vDefs v1.1).vName),vI ((rd z_api_Def a0.vDefs v1.1).vInt.vSize),vB ((rd z_api_Def a0.vDefs v1.1).vInt.vSigned),vI ((rd z_api_Def a0.vDefs v1.1).vRef),vI ((rd z_api_Def a0.vDefs v1.1).vN),vL Aad1_6 ((rd z_api_Def a0.vDefs v1.1).vFields).length cad1_6] 56 (0,0)),(some b2, .cells #[vI ((rd z_api_Def a0.vDefs v1.1).vInt.vSize),vB ((rd z_api_Def a0.vDefs v1.1).vInt.vSigned)] 29 (0,0)),(some b1, .cells #[vL A0_0 a0.vDefs.length c0_0] 24 (0,0))]) rfl rfl Tryz.sizeOf29 rfl rfl (by decide) rfl HS6 rfl (Nat.le_of_ble_eq_true rfl) rfl rfl ?_
   intro w7 HS7
   refine rs (vB true) (r_assign rfl) ?_
   try simp only [sc0,sc1]
   refine run_nil<|norm_then<|wp_ret<|ret_block<|ret_then ?_
   obtain rfl:=Option.some.inj H
   exact bodyPost_ret (results_2 rfl (one_agg rfl Tryz.isAgg29 (HS7.look 1 rfl) Tryz.sizeOf29 rfl) (one_tmp rfl)) rfl<|⟨rfl,HS7.toE⟩
  ·replace H:=of_neg H (nt c2)
   refine wp_seq<|region<|rs (vB ((rd z_api_Def a0.vDefs v1.1).vKind==5)) (r_bin rfl rfl rfl)<|rs (vB ((rd z_api_Def a0.vDefs v1.1).vKind==5)) (r_assign rfl) ?_
   try simp only [sc0,sc1]
   refine run_nil<|norm_then<|wp_cond_split (t:=((rd z_api_Def a0.vDefs v1.1).vKind==5)) rfl (fun c3=>?_) (fun c3=>?_)
   ·replace H:=of_pos H c3
    refine wp_seq<|region<|rs (Value.agg #[vI 4,vB true]) (r_build (cs:=[vI 4,vB true]) (ps:=[(0,vI 4),(1,vB true)]) Tryz.zeroValue29 Tryz.runUnderlying29 (pl:=#[(0,1),(1,1)]) (fun w=>by simp [Tryz.sizeOf3,Tryz.sizeOf4]) (parts_2 (show _=vI 4 from rfl) (show _=vB true from rfl)) rfl) ?_
    refine run_st (i:=1) (cs:=[vI 0,vB false]) (cs':=[vI 4,vB true]) (vs:=[vI 4,vB true]) (bs':=[(some b3, .cells #[vI ((rd z_api_Def a0.vDefs v1.1).vKind),vS ((rd z_api_Def a0.vDefs v1.1).vName),vI ((rd z_api_Def a0.vDefs v1.1).vInt.vSize),vB ((rd z_api_Def a0.vDefs v1.1).vInt.vSigned),vI ((rd z_api_Def a0.vDefs v1.1).vRef),vI ((rd z_api_Def a0.vDefs v1.1).vN),vL Aad1_6 ((rd z_api_Def a0.vDefs v1.1).vFields).length cad1_6] 56 (0,0)),(some b2, .cells #[vI 4,vB true] 29 (0,0)),(some b1, .cells #[vL A0_0 a0.vDefs.length c0_0] 24 (0,0))]) rfl rfl Tryz.sizeOf29 rfl rfl (by decide) rfl HS6 rfl (Nat.le_of_ble_eq_true rfl) rfl rfl ?_
    intro w8 HS8
    refine rs (vB true) (r_assign rfl) ?_
    try simp only [sc0,sc1]
    refine run_nil<|norm_then<|wp_ret<|ret_block<|ret_then ?_
    obtain rfl:=Option.some.inj H
    exact bodyPost_ret (results_2 rfl (one_agg rfl Tryz.isAgg29 (HS8.look 1 rfl) Tryz.sizeOf29 rfl) (one_tmp rfl)) rfl<|⟨rfl,HS8.toE⟩
   ·replace H:=of_neg H (nt c3)
    refine wp_seq<|region<|rs (vB ((rd z_api_Def a0.vDefs v1.1).vKind==2)) (r_bin rfl rfl rfl)<|rs (vB ((rd z_api_Def a0.vDefs v1.1).vKind==2)) (r_assign rfl) ?_
    try simp only [sc0,sc1]
    refine run_nil<|norm_then<|wp_cond_split (t:=((rd z_api_Def a0.vDefs v1.1).vKind==2)) rfl (fun c4=>?_) (fun c4=>?_)
    ·replace H:=of_pos H c4
     refine wp_seq<|region<|rs (Value.agg #[vI 8,vB false]) (r_build (cs:=[vI 8,vB false]) (ps:=[(0,vI 8)]) Tryz.zeroValue29 Tryz.runUnderlying29 (pl:=#[(0,1),(1,1)]) (fun w=>by simp [Tryz.sizeOf3,Tryz.sizeOf4]) (parts_1 (show _=vI 8 from rfl)) rfl) ?_
     refine run_st (i:=1) (cs:=[vI 0,vB false]) (cs':=[vI 8,vB false]) (vs:=[vI 8,vB false]) (bs':=[(some b3, .cells #[vI ((rd z_api_Def a0.vDefs v1.1).vKind),vS ((rd z_api_Def a0.vDefs v1.1).vName),vI ((rd z_api_Def a0.vDefs v1.1).vInt.vSize),vB ((rd z_api_Def a0.vDefs v1.1).vInt.vSigned),vI ((rd z_api_Def a0.vDefs v1.1).vRef),vI ((rd z_api_Def a0.vDefs v1.1).vN),vL Aad1_6 ((rd z_api_Def a0.vDefs v1.1).vFields).length cad1_6] 56 (0,0)),(some b2, .cells #[vI 8,vB false] 29 (0,0)),(some b1, .cells #[vL A0_0 a0.vDefs.length c0_0] 24 (0,0))]) rfl rfl Tryz.sizeOf29 rfl rfl (by decide) rfl HS6 rfl (Nat.le_of_ble_eq_true rfl) rfl rfl ?_
     intro w9 HS9
     refine rs (vB true) (r_assign rfl) ?_
     try simp only [sc0,sc1]
     refine run_nil<|norm_then<|wp_ret<|ret_block<|ret_then ?_
     obtain rfl:=Option.some.inj H
     exact bodyPost_ret (results_2 rfl (one_agg rfl Tryz.isAgg29 (HS9.look 1 rfl) Tryz.sizeOf29 rfl) (one_tmp rfl)) rfl<|⟨rfl,HS9.toE⟩
    ·replace H:=of_neg H (nt c4)
     refine wp_skip<|norm_block<|norm_then<|wp_seq<|region<|rs (Value.agg #[vI 0,vB false]) (r_build0 (cs:=[vI 0,vB false]) Tryz.zeroValue29 Tryz.runUnderlying29 (pl:=#[(0,1),(1,1)]) (fun w=>by simp [Tryz.sizeOf3,Tryz.sizeOf4]) rfl) ?_
     refine run_st (i:=1) (cs:=[vI 0,vB false]) (cs':=[vI 0,vB false]) (vs:=[vI 0,vB false]) (bs':=[(some b3, .cells #[vI ((rd z_api_Def a0.vDefs v1.1).vKind),vS ((rd z_api_Def a0.vDefs v1.1).vName),vI ((rd z_api_Def a0.vDefs v1.1).vInt.vSize),vB ((rd z_api_Def a0.vDefs v1.1).vInt.vSigned),vI ((rd z_api_Def a0.vDefs v1.1).vRef),vI ((rd z_api_Def a0.vDefs v1.1).vN),vL Aad1_6 ((rd z_api_Def a0.vDefs v1.1).vFields).length cad1_6] 56 (0,0)),(some b2, .cells #[vI 0,vB false] 29 (0,0)),(some b1, .cells #[vL A0_0 a0.vDefs.length c0_0] 24 (0,0))]) rfl rfl Tryz.sizeOf29 rfl rfl (by decide) rfl HS6 rfl (Nat.le_of_ble_eq_true rfl) rfl rfl ?_
     intro w10 HS10
     refine rs (vB false) (r_assign rfl) ?_
     try simp only [sc0,sc1]
     refine run_nil<|norm_then<|wp_ret ?_
     obtain rfl:=Option.some.inj H
     exact bodyPost_ret (results_2 rfl (one_agg rfl Tryz.isAgg29 (HS10.look 1 rfl) Tryz.sizeOf29 rfl) (one_tmp rfl)) rfl<|⟨rfl,HS10.toE⟩
def taplineref08_Named.f (a0:api_Def):Option (Bool):=some ((a0.vKind !=2)&&(a0.vKind !=3))
def taplineref08_unused.f (a0:api_Def):Option (Bool):=(taplineref08_Named.f a0).bind fun v1=>(if (v1 !=(!(strEq a0.vName ByteArray.empty)))=true then (some false) else (if ((a0.vKind !=1)&&((a0.vInt.vSize !=0)||a0.vInt.vSigned))=true then (some false) else (if ((((a0.vKind !=2)&&(a0.vKind !=3))&&(a0.vKind !=6))&&(a0.vRef !=0))=true then (some false) else (if (((a0.vKind !=3)&&(a0.vKind !=4))&&(a0.vN !=0))=true then (some false) else (some (((a0.vKind==4)||(a0.vKind==5))||((a0.vFields.length:Int)==0)))))))
def taplineref08_Name.l0 (a0:ByteArray):Nat→Int→Option ((Bool)⊕(Unit))
 |0,_=>none
 |m+1,y1_0=>if (decide (y1_0<(a0.size:Int)))=true then (if 0≤y1_0∧y1_0<(a0.size:Int) then (if ((!((((decide ((byteAt a0 y1_0)≥97))&&(decide ((byteAt a0 y1_0)≤122)))||((decide ((byteAt a0 y1_0)≥65))&&(decide ((byteAt a0 y1_0)≤90))))||((byteAt a0 y1_0)==95)))&&(((y1_0==0)||(decide ((byteAt a0 y1_0)<48)))||(decide ((byteAt a0 y1_0)>57))))=true then (some (.inl false)) else (taplineref08_Name.l0 a0 m (IntKind.wrap .i64 (y1_0+1)))) else none) else (some (.inr ()))
def taplineref08_Name.f (k:Nat) (a0:ByteArray):Option (Bool):=if (((a0.size:Int)==0)||(decide ((a0.size:Int)>31)))=true then (some false) else ((taplineref08_Name.l0 a0 k 0).bind fun xx1=>(match xx1 with| .inl r=>some r| .inr s1=>some true))
def taplineref08_Index.f (a0:api_Types) (a1:Int):Option (Bool):=some ((decide (a1≥0))&&(decide (a1<(a0.vDefs.length:Int))))
def taplineref08_fields.l1 (a0:List api_Field) (y1_0:Int):Nat→Int→Option ((Bool)⊕(Unit))
 |0,_=>none
 |m+1,y2_0=>if (decide (y2_0<y1_0))=true then (if 0≤y2_0∧y2_0<a0.length then (if 0≤y1_0∧y1_0<a0.length then (if (strEq ((rd z_api_Field a0 y2_0).vName) ((rd z_api_Field a0 y1_0).vName))=true then (some (.inl false)) else (taplineref08_fields.l1 a0 y1_0 m (IntKind.wrap .i64 (y2_0+1)))) else none) else none) else (some (.inr ()))
def taplineref08_fields.l0 (k:Nat) (a0:List api_Field):Nat→Int→Option ((Bool)⊕(Unit))
 |0,_=>none
 |m+1,y1_0=>if (decide (y1_0<(a0.length:Int)))=true then (if 0≤y1_0∧y1_0<a0.length then ((taplineref08_Name.f k ((rd z_api_Field a0 y1_0).vName)).bind fun v1=>(if (!v1)=true then (some (.inl false)) else ((taplineref08_fields.l1 a0 y1_0 k 0).bind fun xx2=>(match xx2 with| .inl r=>some (.inl r)| .inr s1=>taplineref08_fields.l0 k a0 m (IntKind.wrap .i64 (y1_0+1)))))) else none) else (some (.inr ()))
def taplineref08_fields.f (k:Nat) (a0:List api_Field):Option (Bool):=if (((a0.length:Int)==0)||(decide ((a0.length:Int)>32)))=true then (some false) else ((taplineref08_fields.l0 k a0 k 0).bind fun xx1=>(match xx1 with| .inl r=>some r| .inr s2=>some true))
def taplineref08_shaped.l0 (a0:api_Types) (a1:api_Def):Nat→Int→Option ((Bool)⊕(Unit))
 |0,_=>none
 |m+1,y1_0=>if (decide (y1_0<(a1.vFields.length:Int)))=true then (if 0≤y1_0∧y1_0<a1.vFields.length then ((if (true&&((a1.vKind==4)==true))=true then taplineref08_Index.f a0 ((rd z_api_Field a1.vFields y1_0).vType) else some false).bind fun v7=>(if ((a1.vKind==4)&&(!v7))=true then (some (.inl false)) else (if ((a1.vKind==5)&&((((rd z_api_Field a1.vFields y1_0).vType !=0)||(decide ((rd z_api_Field a1.vFields y1_0).vAt<(-2147483648))))||(decide ((rd z_api_Field a1.vFields y1_0).vAt>2147483647))))=true then (some (.inl false)) else (taplineref08_shaped.l0 a0 a1 m (IntKind.wrap .i64 (y1_0+1)))))) else none) else (some (.inr ()))
def taplineref08_shaped.f (k:Nat) (a0:api_Types) (a1:api_Def):Option (Bool):=(if (true&&(((decide (a1.vKind<1))||(decide (a1.vKind>6)))==false))=true then taplineref08_unused.f a1 else some false).bind fun v1=>((if (true&&((((decide (a1.vKind<1))||(decide (a1.vKind>6)))||(!v1))==false))=true then taplineref08_Named.f a1 else some false).bind fun v2=>((if ((true&&((((decide (a1.vKind<1))||(decide (a1.vKind>6)))||(!v1))==false))&&(v2==true))=true then taplineref08_Name.f k a1.vName else some false).bind fun v3=>(if ((((decide (a1.vKind<1))||(decide (a1.vKind>6)))||(!v1))||(v2&&(!v3)))=true then (some false) else (if (a1.vKind==1)=true then (some ((((a1.vInt.vSize==1)||(a1.vInt.vSize==2))||(a1.vInt.vSize==4))||(a1.vInt.vSize==8))) else (((if (a1.vKind==2)=true then (some (a1.vKind==2)) else (some (a1.vKind==6))):Option (Bool)).bind fun xx1=>(if xx1=true then ((taplineref08_Index.f a0 a1.vRef).bind fun v4=>(some v4)) else (if (a1.vKind==3)=true then ((taplineref08_Index.f a0 a1.vRef).bind fun v5=>(some ((v5&&(decide (a1.vN≥1)))&&(decide (a1.vN≤512))))) else ((taplineref08_fields.f k a1.vFields).bind fun v6=>(if (!v6)=true then (some false) else ((taplineref08_shaped.l0 a0 a1 k 0).bind fun xx2=>(match xx2 with| .inl r=>some r| .inr s1=>some ((a1.vKind==5)||((decide (a1.vN≥1))&&(decide (a1.vN≤512)))))))))))))))
def taplineref08_size.l0 (a0:api_Def) (a1:List Int):Nat→Int→Option ((Int)⊕(Unit))
 |0,_=>none
 |m+1,y1_0=>if (decide (y1_0<(a0.vFields.length:Int)))=true then (if 0≤y1_0∧y1_0<a0.vFields.length then (if 0≤(rd z_api_Field a0.vFields y1_0).vType∧(rd z_api_Field a0.vFields y1_0).vType<a1.length then (if ((rd 0 a1 ((rd z_api_Field a0.vFields y1_0).vType))==0)=true then (some (.inl 0)) else (taplineref08_size.l0 a0 a1 m (IntKind.wrap .i64 (y1_0+1)))) else none) else none) else (some (.inr ()))
def taplineref08_size.f (k:Nat) (a0:api_Def) (a1:List Int):Option (Int):=if (a0.vKind==1)=true then (some a0.vInt.vSize) else (if (a0.vKind==2)=true then (some 8) else (if (a0.vKind==3)=true then (if 0≤a0.vRef∧a0.vRef<a1.length then (some (IntKind.wrap .i64 (a0.vN*(rd 0 a1 a0.vRef)))) else none) else (if (a0.vKind==5)=true then (some 4) else (if (a0.vKind==6)=true then (if 0≤a0.vRef∧a0.vRef<a1.length then (some (rd 0 a1 a0.vRef)) else none) else ((taplineref08_size.l0 a0 a1 k 0).bind fun xx1=>(match xx1 with| .inl r=>some r| .inr s1=>some a0.vN))))))
def taplineref08_sizes.l1 (k:Nat) (a0:api_Types):Nat→Bool→Int→(List Int)→Option (Bool×(List Int))
 |0,_,_,_=>none
 |m+1,y2_0,y2_1,y2_2=>if (decide (y2_1<(a0.vDefs.length:Int)))=true then (if 0≤y2_1∧y2_1<(((a0.vDefs.length:Int).toNat:Nat):Int) then (if ((rd 0 y2_2 y2_1) !=0)=true then (taplineref08_sizes.l1 k a0 m y2_0 (IntKind.wrap .i64 (y2_1+1)) y2_2) else (if 0≤y2_1∧y2_1<a0.vDefs.length then ((taplineref08_size.f k (rd z_api_Def a0.vDefs y2_1) y2_2).bind fun v1=>(if (decide (v1>0))=true then (if 0≤y2_1∧y2_1<(((a0.vDefs.length:Int).toNat:Nat):Int) then (taplineref08_sizes.l1 k a0 m true (IntKind.wrap .i64 (y2_1+1)) (List.set y2_2 y2_1.toNat (iMin v1 513))) else none) else (taplineref08_sizes.l1 k a0 m y2_0 (IntKind.wrap .i64 (y2_1+1)) y2_2))) else none)) else none) else (some (y2_0,y2_2))
def taplineref08_sizes.l0 (k:Nat) (a0:api_Types):Nat→Bool→(List Int)→Option ((List Int))
 |0,_,_=>none
 |m+1,y1_0,y1_1=>if y1_0=true then ((taplineref08_sizes.l1 k a0 k false 0 y1_1).bind fun xx2=>(taplineref08_sizes.l0 k a0 m xx2.1 xx2.2)) else (some y1_1)
def taplineref08_sizes.f (k:Nat) (a0:api_Types):Option ((List Int)):=if 0≤(a0.vDefs.length:Int)∧(a0.vDefs.length:Int)≤4294967296 then ((taplineref08_sizes.l0 k a0 k true (List.replicate (a0.vDefs.length:Int).toNat (0:Int))).bind fun xx1=>(some xx1)) else none
def taplineref08_ends.l0 (a0:api_Types):Nat→Int→Int→Option ((Bool)⊕(Unit))
 |0,_,_=>none
 |m+1,y1_0,y1_1=>if (decide (y1_1≤(a0.vDefs.length:Int)))=true then (if 0≤y1_0∧y1_0<a0.vDefs.length then ((taplineref08_Named.f (rd z_api_Def a0.vDefs y1_0)).bind fun v1=>(if v1=true then (some (.inl true)) else (if 0≤y1_0∧y1_0<a0.vDefs.length then (taplineref08_ends.l0 a0 m ((rd z_api_Def a0.vDefs y1_0).vRef) (IntKind.wrap .i64 (y1_1+1))) else none))) else none) else (some (.inr ()))
def taplineref08_ends.f (k:Nat) (a0:api_Types) (a1:Int):Option (Bool):=(taplineref08_ends.l0 a0 k a1 0).bind fun xx1=>(match xx1 with| .inl r=>some r| .inr s1=>some false)
def taplineref08_placed.l0 (a0:api_Def) (a1:List Int):Nat→Int→Int→Option ((Bool)⊕(Int))
 |0,_,_=>none
 |m+1,y1_0,y1_1=>if (decide (y1_1<(a0.vFields.length:Int)))=true then (if 0≤y1_1∧y1_1<a0.vFields.length then (if ((decide ((rd z_api_Field a0.vFields y1_1).vAt<y1_0))||(decide ((rd z_api_Field a0.vFields y1_1).vAt>a0.vN)))=true then (some (.inl false)) else (if 0≤(rd z_api_Field a0.vFields y1_1).vType∧(rd z_api_Field a0.vFields y1_1).vType<a1.length then (taplineref08_placed.l0 a0 a1 m (IntKind.wrap .i64 ((rd z_api_Field a0.vFields y1_1).vAt+(rd 0 a1 ((rd z_api_Field a0.vFields y1_1).vType)))) (IntKind.wrap .i64 (y1_1+1))) else none)) else none) else (some (.inr y1_0))
def taplineref08_placed.f (k:Nat) (a0:api_Def) (a1:List Int):Option (Bool):=(taplineref08_placed.l0 a0 a1 k 0 0).bind fun xx1=>(match xx1 with| .inl r=>some r| .inr s1=>some (decide (s1≤a0.vN)))
def taplineref08_Check.l1 (a0:api_Types) (y1_0:Int):Nat→Int→Option ((Int)⊕(Unit))
 |0,_=>none
 |m+1,y2_0=>if (decide (y2_0<y1_0))=true then (if 0≤y1_0∧y1_0<a0.vDefs.length then ((taplineref08_Named.f (rd z_api_Def a0.vDefs y1_0)).bind fun v2=>(if (true&&(v2==true))=true→(0≤y2_0∧y2_0<a0.vDefs.length) then (if (true&&(v2==true))=true→(0≤y1_0∧y1_0<a0.vDefs.length) then (if (v2&&(strEq ((rd z_api_Def a0.vDefs y2_0).vName) ((rd z_api_Def a0.vDefs y1_0).vName)))=true then (some (.inl 80)) else (taplineref08_Check.l1 a0 y1_0 m (IntKind.wrap .i64 (y2_0+1)))) else none) else none)) else none) else (some (.inr ()))
def taplineref08_Check.l0 (k:Nat) (a0:api_Types):Nat→Int→Option ((Int)⊕(Unit))
 |0,_=>none
 |m+1,y1_0=>if (decide (y1_0<(a0.vDefs.length:Int)))=true then (if 0≤y1_0∧y1_0<a0.vDefs.length then ((taplineref08_shaped.f k a0 (rd z_api_Def a0.vDefs y1_0)).bind fun v1=>(if (!v1)=true then (some (.inl 80)) else ((taplineref08_Check.l1 a0 y1_0 k 0).bind fun xx2=>(match xx2 with| .inl r=>some (.inl r)| .inr s1=>taplineref08_Check.l0 k a0 m (IntKind.wrap .i64 (y1_0+1)))))) else none) else (some (.inr ()))
def taplineref08_Check.l2 (k:Nat) (a0:api_Types) (v3:(List Int)):Nat→Int→Option ((Int)⊕(Unit))
 |0,_=>none
 |m+1,y3_0=>if (decide (y3_0<(a0.vDefs.length:Int)))=true then (if 0≤y3_0∧y3_0<v3.length then (if (true&&(((rd 0 v3 y3_0)==0)==false))=true→(0≤y3_0∧y3_0<v3.length) then ((if (true&&((((rd 0 v3 y3_0)==0)||(decide ((rd 0 v3 y3_0)>512)))==false))=true then taplineref08_ends.f k a0 y3_0 else some false).bind fun v4=>(if ((((rd 0 v3 y3_0)==0)||(decide ((rd 0 v3 y3_0)>512)))||(!v4))=true then (some (.inl 80)) else (if 0≤y3_0∧y3_0<a0.vDefs.length then (if (true&&(((rd z_api_Def a0.vDefs y3_0).vKind==4)==true))=true→(0≤y3_0∧y3_0<a0.vDefs.length) then ((if (true&&(((rd z_api_Def a0.vDefs y3_0).vKind==4)==true))=true then taplineref08_placed.f k (rd z_api_Def a0.vDefs y3_0) v3 else some false).bind fun v5=>(if (((rd z_api_Def a0.vDefs y3_0).vKind==4)&&(!v5))=true then (some (.inl 80)) else (taplineref08_Check.l2 k a0 v3 m (IntKind.wrap .i64 (y3_0+1))))) else none) else none))) else none) else none) else (some (.inr ()))
def taplineref08_Check.f (k:Nat) (a0:api_Types):Option (Int):=if (decide ((a0.vDefs.length:Int)>200))=true then (some 80) else ((taplineref08_Check.l0 k a0 k 0).bind fun xx1=>(match xx1 with| .inl r=>some r| .inr s2=>(taplineref08_sizes.f k a0).bind fun v3=>((taplineref08_Check.l2 k a0 v3 k 0).bind fun xx3=>(match xx3 with| .inl r=>some r| .inr s3=>some 0))))
def taplineref08_given.f (k:Nat) (a0:api_Types) (a1:Int):Option (Int):=(taplineref08_Check.f k a0).bind fun v1=>((if (true&&((v1==0)==true))=true then taplineref08_Index.f a0 a1 else some false).bind fun v2=>(((if ((v1==0)&&(!v2))=true then (some 3) else (some v1)):Option (Int)).bind fun xx1=>(some xx1)))
def taplineref08_Member.l0 (a0:api_Types) (a2:ByteArray) (v2:Int):Nat→Int→Option ((taplineref08_Part)⊕(Unit))
 |0,_=>none
 |m+1,y1_0=>if (decide (y1_0<(((rd z_api_Def a0.vDefs v2).vFields).length:Int)))=true then (if 0≤y1_0∧y1_0<((rd z_api_Def a0.vDefs v2).vFields).length then (if (strEq ((rd z_api_Field ((rd z_api_Def a0.vDefs v2).vFields) y1_0).vName) a2)=true then (if 0≤y1_0∧y1_0<((rd z_api_Def a0.vDefs v2).vFields).length then (some (.inl (⟨(⟨(rd z_api_Field ((rd z_api_Def a0.vDefs v2).vFields) y1_0).vName,(rd z_api_Field ((rd z_api_Def a0.vDefs v2).vFields) y1_0).vType,(rd z_api_Field ((rd z_api_Def a0.vDefs v2).vFields) y1_0).vAt⟩:api_Field),0⟩:taplineref08_Part))) else none) else (taplineref08_Member.l0 a0 a2 v2 m (IntKind.wrap .i64 (y1_0+1)))) else none) else (some (.inr ()))
def taplineref08_Member.f (k:Nat) (a0:api_Types) (a1:Int) (a2:ByteArray):Option (taplineref08_Part):=(taplineref08_given.f k a0 a1).bind fun v1=>(if (v1 !=0)=true then (some (⟨(⟨ByteArray.empty,0,0⟩:api_Field),v1⟩:taplineref08_Part)) else ((taplineref08_Resolved.f k a0 a1).bind fun v2=>(if 0≤v2∧v2<a0.vDefs.length then (if ((rd z_api_Def a0.vDefs v2).vKind !=4)=true then (some (⟨(⟨ByteArray.empty,0,0⟩:api_Field),5⟩:taplineref08_Part)) else ((taplineref08_Member.l0 a0 a2 v2 k 0).bind fun xx1=>(match xx1 with| .inl r=>some r| .inr s1=>some (⟨(⟨ByteArray.empty,0,0⟩:api_Field),3⟩:taplineref08_Part)))) else none)))
def taplineref08_Path.l0 (k:Nat) (a0:api_Types) (a2:List ByteArray):Nat→Int→Int→Int→Option ((taplineref08_Reached)⊕(Int×Int))
 |0,_,_,_=>none
 |m+1,y1_0,y1_1,y1_2=>if (decide (y1_2<(a2.length:Int)))=true then (if 0≤y1_2∧y1_2<a2.length then ((taplineref08_Member.f k a0 y1_0 (rd ByteArray.empty a2 y1_2)).bind fun v2=>(if (v2.vE !=0)=true then (some (.inl (⟨0,0,v2.vE⟩:taplineref08_Reached))) else (taplineref08_Path.l0 k a0 a2 m v2.vF.vType (IntKind.wrap .i64 (y1_1+v2.vF.vAt)) (IntKind.wrap .i64 (y1_2+1))))) else none) else (some (.inr (y1_0,y1_1)))
def taplineref08_Path.f (k:Nat) (a0:api_Types) (a1:Int) (a2:List ByteArray):Option (taplineref08_Reached):=(taplineref08_given.f k a0 a1).bind fun v1=>(((if ((v1==0)&&(decide ((a2.length:Int)>16)))=true then (some 2) else (some v1)):Option (Int)).bind fun xx1=>(if (xx1 !=0)=true then (some (⟨0,0,xx1⟩:taplineref08_Reached)) else ((taplineref08_Path.l0 k a0 a2 k a1 0 0).bind fun xx2=>(match xx2 with| .inl r=>some r| .inr s1=>some (⟨s1.1,s1.2,0⟩:taplineref08_Reached)))))
def ctf_Size.f (k:Nat) (a0:api_Types) (a1:Int):Option (Int×Int):=(ctf_given.f k a0 a1).bind fun v1=>(if (v1 !=0)=true then (some (0,v1)) else ((ctf_sizes.f k a0).bind fun v2=>(if 0≤a1∧a1<v2.1.length then (some ((rd 0 v2.1 a1),0)) else none)))
theorem ctf_Size.calls (k:Nat) (a0:api_Types) (a1:Int) (A0_0:Option Addr) (c0_0:Nat) {h0:View} {w0:World} (hv:Sees h0 w0) (hr0_0:Rd k_api_Def h0 A0_0 a0.vDefs) (hc0_0:a0.vDefs.length≤c0_0) {r:Int×Int} (H:ctf_Size.f k a0 a1=some r):Calls Tryz.prog 42 #[Value.agg #[vL A0_0 a0.vDefs.length c0_0],vI a1] w0 (fun e w1=>e= .returned (Value.tuple #[vI r.1,vI r.2])∧Ext w0 w1):=by
 unfold ctf_Size.f at H
 have HS:St [] h0 w0 h0 [] w0:=St.init hv
 go_enter Tryz.func42,Tryz.ntmps42
 refine wp_seq<|region<|run_ex rfl rfl (does_box (cs:=#[vL A0_0 a0.vDefs.length c0_0]) rfl rfl) ?_
 rintro w1 _ hE1 ⟨b1,rfl,ge1,hb1⟩
 have HS1:=HS.new hE1 ge1 hb1
 refine rs (vI 0) (r_assign rfl)<|rs (vI 0) (r_assign rfl) ?_
 try simp only [sc0,sc1]
 refine run_nil<|norm_then<|wp_seq<|wp_seq<|region<|rs (Value.agg #[vL A0_0 a0.vDefs.length c0_0]) (r_loadBoxAgg (n:=1) (vs:=[vL A0_0 a0.vDefs.length c0_0]) rfl Tryz.isAgg24 (HS1.look 0 rfl) Tryz.sizeOf24 rfl rfl)<|rs (vI a1) (r_move rfl) ?_
 obtain ⟨v1,H1,H⟩:=of_bind H
 refine run_eq (v:=vI v1) rfl rfl (does_call_eq Tryz.call53 rfl rfl (ctf_given.calls k a0 a1 A0_0 c0_0 HS1.sees hr0_0 hc0_0 H1)) ?_
 intro w2 hE2
 have HS2:=HS1.step hE2
 refine rs (vI v1) (r_assign rfl) ?_
 try simp only [sc0,sc1]
 refine run_nil<|norm_then<|wp_seq<|region<|rs (vI v1) (r_move rfl)<|rs (vB (v1 !=0)) (r_bin rfl rfl rfl) ?_
 try simp only [sc0,sc1]
 refine run_nil<|norm_then<|wp_cond_split (t:=(v1 !=0)) rfl (fun c1=>?_) (fun c1=>?_)
 ·replace H:=of_pos H c1
  refine wp_seq<|region<|rs (vI v1) (r_move rfl)<|rs (vI 0) (r_assign rfl)<|rs (vI v1) (r_assign rfl) ?_
  try simp only [sc0,sc1]
  refine run_nil<|norm_then<|wp_ret<|ret_then ?_
  obtain rfl:=Option.some.inj H
  exact bodyPost_ret (results_2 rfl (one_tmp rfl) (one_tmp rfl)) rfl<|⟨rfl,HS2.toE⟩
 ·replace H:=of_neg H (nt c1)
  refine wp_skip<|norm_then<|wp_seq<|region<|rs (Value.agg #[vL A0_0 a0.vDefs.length c0_0]) (r_loadBoxAgg (n:=1) (vs:=[vL A0_0 a0.vDefs.length c0_0]) rfl Tryz.isAgg24 (HS2.look 0 rfl) Tryz.sizeOf24 rfl rfl) ?_
  obtain ⟨v2,H2,H⟩:=of_bind H
  refine run_ex rfl rfl (does_call Tryz.call85 rfl (gives_in (h:=h0) (R:=(fun hx u=>∃(Av2_0_0:Option Addr) (cv2_0_0:Nat),u=Value.tuple #[vL Av2_0_0 v2.1.length cv2_0_0,vB v2.2]∧v2.1.length≤cv2_0_0∧Rd (Kd.int .i64) hx Av2_0_0 v2.1)) (Ext.rfl' w2) ((ctf_sizes.calls k a0 A0_0 c0_0 HS2.sees hr0_0 hc0_0 H2).mono ?_)) rfl) ?_
  ·rintro _ _ ⟨h1,Av2_0_0,cv2_0_0,rfl,hcv2_0_0,hrv2_0_0,g,ss,x⟩
   exact ⟨h1,_,rfl,⟨Av2_0_0,cv2_0_0,rfl,hcv2_0_0,hrv2_0_0⟩,g,ss,x⟩
  rintro w3 _ hE3 ⟨h1,⟨Av2_0_0,cv2_0_0,rfl,hcv2_0_0,hrv2_0_0⟩,gr1,se1⟩
  have HS3:=HS2.view hE3 gr1 se1
  refine rs (Value.tuple #[vL Av2_0_0 v2.1.length cv2_0_0,vB v2.2]) (r_move rfl)<|rs (vL Av2_0_0 v2.1.length cv2_0_0) (r_extract rfl rfl)<|run_frame (by simp only [sc0,sc1];rfl) ?_
  refine rs (vB v2.2) (r_extract rfl rfl)<|rs (vL Av2_0_0 v2.1.length cv2_0_0) (r_assign rfl)<|rs (vB v2.2) (r_assign rfl) ?_
  try simp only [sc0,sc1]
  refine run_nil<|norm_then<|wp_seq<|region<|rs (vL Av2_0_0 v2.1.length cv2_0_0) (r_move rfl)<|rs (vI a1) (r_move rfl) ?_
  obtain ⟨hi1,H⟩:=of_ite H
  obtain ⟨ad1,e1,hel1⟩:=ld_int hrv2_0_0 hi1.1 hi1.2
  refine rs (Value.pointer (some (Addr.add ad1 (a1.toNat*1)))) (r_indexA (sz:=1) rfl e1 rfl hi1.1 hi1.2 Tryz.runUnderlying81 Tryz.sizeOf3)<|rs (vI (rd 0 v2.1 a1)) (r_load rfl Tryz.isAgg3 (hel1.cell0 HS3.sees rfl))<|run_frame (by simp only [sc0,sc1];rfl) ?_
  refine rs (vI (rd 0 v2.1 a1)) (r_assign rfl)<|rs (vI 0) (r_assign rfl) ?_
  try simp only [sc0,sc1]
  refine run_nil<|norm_then<|wp_ret ?_
  obtain rfl:=Option.some.inj H
  exact bodyPost_ret (results_2 rfl (one_tmp rfl) (one_tmp rfl)) rfl<|⟨rfl,HS3.toE⟩
def taplineref08_Size.f (k:Nat) (a0:api_Types) (a1:Int):Option (taplineref08_Number):=(taplineref08_given.f k a0 a1).bind fun v1=>(if (v1 !=0)=true then (some (⟨0,v1⟩:taplineref08_Number)) else ((taplineref08_sizes.f k a0).bind fun v2=>(if 0≤a1∧a1<v2.length then (some (⟨(rd 0 v2 a1),0⟩:taplineref08_Number)) else none)))
end Go.Proofs.YtecpbadkdpbkpaaGreatDoor
namespace Go.Proofs.YtecpbadkdpbkpaaGreatDoor
open Go.RowKit Go.M
theorem index_loop {l:List api_Def} {p:api_Def→Option Bool} {q:api_Def→Bool} (hp:∀z∈l,p z=some (q z)) (hl:l.length≤9223372036854775807):
    ∀(d j m:Nat),j+d=l.length→d<m→slices_IndexFunc_api_Def_api_Def.l0 l p m (j:Int)=some (if ((l.drop j).any q)=true then .inl (((j+(l.drop j).findIdx q:Nat)):Int) else .inr ()):=by
  intro d
  induction d with
  | zero =>
    intro j m hj hm
    obtain ⟨m,rfl⟩:∃q,m=q+1:=⟨m-1,by omega⟩
    rw [slices_IndexFunc_api_Def_api_Def.l0,if_neg (by simp;omega)]
    have:l.drop j=[]:=List.drop_eq_nil_of_le (by omega)
    rw [this]
    rfl
  | succ d ih =>
    intro j m hj hm
    obtain ⟨m,rfl⟩:∃q,m=q+1:=⟨m-1,by omega⟩
    have hlt:j<l.length:=by omega
    rw [slices_IndexFunc_api_Def_api_Def.l0,if_pos (by simp;omega),if_pos (by omega),rd_nat,hp _ (getD_mem hlt)]
    have hd:l.drop j=l.getD j z_api_Def::l.drop (j+1):=by
      rw [List.drop_eq_getElem_cons hlt,List.getD_eq_getElem?_getD,List.getElem?_eq_getElem hlt];rfl
    simp only [Option.bind_some]
    cases hb:q (l.getD j z_api_Def) with
    | true =>
      rw [if_pos rfl,hd]
      simp only [List.any_cons,hb,Bool.true_or,if_true,List.findIdx_cons,cond_true,Nat.add_zero]
    | false =>
      rw [if_neg (by simp),wrap_nat hlt hl,ih (j+1) m (by omega) (by omega),hd]
      simp only [List.any_cons,hb,Bool.false_or,List.findIdx_cons,cond_false]
      split
      · congr 2;omega
      · rfl
theorem contains_ev {l:List api_Def} {p:Nat→api_Def→Option Bool} {q:api_Def→Bool} (hp:∀z∈l,Ev (fun k=>p k z) (q z)) (hl:l.length≤9223372036854775807):
  Ev (fun k=>slices_ContainsFunc_api_Def_api_Def.f k l (p k)) (l.any q):=by
 obtain ⟨K,hK⟩:=Ev.all (f:=fun z k=>p k z) l hp
 refine ⟨max K (l.length+1),fun k hk=>?_⟩
 unfold slices_ContainsFunc_api_Def_api_Def.f slices_IndexFunc_api_Def_api_Def.f
 have:=index_loop (l:=l) (p:=p k) (q:=q) (fun z hz=>hK k (by omega) z hz) hl l.length 0 k (by omega) (by omega)
 rw [show ((0:Nat):Int)=0 from rfl] at this
 simp only []
 rw [this,List.drop_zero]
 cases h:l.any q with
 |true=>simp
 |false=>simp
theorem drop_getD {α:Type} {l:List α} {j:Nat} (z:α) (h:j<l.length):l.drop j=l.getD j z::l.drop (j+1):=by
 rw [List.drop_eq_getElem_cons h,List.getD_eq_getElem?_getD,List.getElem?_eq_getElem h];rfl
def okByte (i:Nat) (c:Int):Bool:=((decide (c≥97)&&decide (c≤122))||(decide (c≥65)&&decide (c≤90))||(c==95))||(!(i==0)&&decide (c≥48)&&decide (c≤57))
def okFrom:Nat→List Int→Bool
 |_,[]=>true
 |i,c::r=>okByte i c&&okFrom (i+1) r
def nameS (s:ByteArray):Bool:=okFrom 0 (bytesOf s)&& !(strEq s ByteArray.empty)&&decide ((s.size:Int)≤31)
theorem name_loop {s:ByteArray} (hl:(bytesOf s).length≤9223372036854775807):∀(d j m:Nat),j+d=(bytesOf s).length→d<m→
    ctf_isName.l0 s m (j:Int)=some (if okFrom j ((bytesOf s).drop j)=true then .inr () else .inl false):=by
  intro d
  induction d with
  | zero =>
    intro j m hj hm
    obtain ⟨m,rfl⟩:∃q,m=q+1:=⟨m-1,by omega⟩
    rw [ctf_isName.l0,if_neg (by simp;omega),List.drop_eq_nil_of_le (by omega)]
    rfl
  | succ d ih =>
    intro j m hj hm
    obtain ⟨m,rfl⟩:∃q,m=q+1:=⟨m-1,by omega⟩
    have hlt:j<(bytesOf s).length:=by omega
    rw [ctf_isName.l0,if_pos (by simp;omega),if_pos (by omega),rd_nat,drop_getD 0 hlt,wrap_nat hlt hl,ih (j+1) m (by omega) (by omega)]
    have hb:∀c:Int,((!((((decide (c≥97))&&(decide (c≤122)))||((decide (c≥65))&&(decide (c≤90))))||(c==95)))&&(((((j:Nat):Int)==0)||(decide (c<48)))||(decide (c>57))))= !(okByte j c):=by
      intro c
      unfold okByte
      have h1:(((j:Nat):Int)==0)=(j==0):=by cases j<;>simp;omega
      have h2:decide (c<48)= !(decide (c≥48)):=by by_cases h:c<48<;>simp [h]<;>omega
      have h3:decide (c>57)= !(decide (c≤57)):=by by_cases h:c>57<;>simp [h]<;>omega
      rw [h1,h2,h3]
      cases decide (c≥97)<;>cases decide (c≤122)<;>cases decide (c≥65)<;>cases decide (c≤90)<;>cases (c==95)<;>cases (j==0)<;>cases decide (c≥48)<;>cases decide (c≤57)<;>rfl
    rw [hb]
    by_cases h9:okByte j ((bytesOf s).getD j 0)=true
    · simp only [okFrom,h9,Bool.not_true,Bool.false_eq_true,if_false,Bool.true_and]
    · rw [Bool.not_eq_true] at h9
      simp only [okFrom,h9,Bool.not_false,if_true,Bool.false_and,Bool.false_eq_true,if_false]
theorem name_ev {s:ByteArray} (hs:s.size≤9223372036854775807):Ev (fun k=>ctf_isName.f k s) (nameS s):=by
 have hl:=bytesOf_length s
 refine ⟨s.size+1,fun k hk=>?_⟩
 show ctf_isName.f k s=_
 unfold ctf_isName.f
 rw [if_pos hs,show (0:Int)=((0:Nat):Int) from rfl,name_loop (by omega) (bytesOf s).length 0 k (by omega) (by omega),List.drop_zero]
 unfold nameS
 cases okFrom 0 (bytesOf s)<;>simp
def cont (d:api_Def):List Int:=if d.vKind==3||d.vKind==6 then [d.vRef] else if d.vKind==4 then d.vFields.map (·.vType) else []
theorem contained_loop {d:api_Def} (hl:d.vFields.length≤4294967295):∀(e j m:Nat),j+e=d.vFields.length→e<m→
    ctf_contained.l0 d m (j:Int) ((d.vFields.take j).map (·.vType))=some (d.vFields.map (·.vType)):=by
  intro e
  induction e with
  | zero =>
    intro j m hj hm
    obtain ⟨m,rfl⟩:∃q,m=q+1:=⟨m-1,by omega⟩
    rw [ctf_contained.l0,if_neg (by simp;omega),List.take_of_length_le (by omega)]
  | succ e ih =>
    intro j m hj hm
    obtain ⟨m,rfl⟩:∃q,m=q+1:=⟨m-1,by omega⟩
    have hlt:j<d.vFields.length:=by omega
    rw [ctf_contained.l0,if_pos (by simp;omega),if_pos (by omega),if_pos (by simp;omega),rd_nat,wrap_nat hlt (by omega)]
    have:(d.vFields.take j).map (·.vType)++[(d.vFields.getD j z_api_Field).vType]=(d.vFields.take (j+1)).map (·.vType):=by
      rw [List.take_add_one,List.map_append,List.getD_eq_getElem?_getD,List.getElem?_eq_getElem hlt];rfl
    rw [this]
    exact ih (j+1) m (by omega) (by omega)
theorem contained_ev {d:api_Def} (hl:d.vFields.length≤4294967295):Ev (fun k=>ctf_contained.f k d) (cont d):=by
 refine ⟨d.vFields.length+1,fun k hk=>?_⟩
 show ctf_contained.f k d=_
 unfold ctf_contained.f cont
 have:=contained_loop hl d.vFields.length 0 k (by omega) (by omega)
 simp only [List.take_zero,List.map_nil] at this
 rw [show ((0:Nat):Int)=0 from rfl] at this
 rw [this]
 by_cases h3:d.vKind=3
 ·simp [h3]
 ·by_cases h6:d.vKind=6
  ·simp [h6]
  ·by_cases h4:d.vKind=4
   ·simp [h4]
   ·simp [h3,h6,h4]
def shp (k:Int):Option ctf_shape:=
 if k=1 then some ⟨true,true,false,false,false⟩ else if k=2 then some ⟨false,false,true,false,false⟩ else if k=3 then some ⟨false,false,true,true,false⟩
 else if k=4 then some ⟨true,false,false,true,true⟩ else if k=5 then some ⟨true,false,false,false,true⟩ else if k=6 then some ⟨true,false,true,false,false⟩ else none
theorem shapes_find (k:Int):∃m,ctf_shapes.f=some m∧mfind ieq m k=shp k:=by
 refine ⟨_,rfl,?_⟩
 simp only [mput,ieq,Int.reduceBEq,Bool.false_eq_true,if_false,mfind,beq_iff_eq,shp]
def SeenOk (m:List (ByteArray×Bool)) (ns:List ByteArray):Prop:=∀s,(mfind strEq m s).getD false=ns.any (strEq s)
theorem SeenOk.nil:SeenOk [] []:=fun s=>rfl
theorem strEq_comm (a b:ByteArray):strEq a b=strEq b a:=by
  cases h:strEq a b with
  |true=>rw [strEq_iff] at h;subst h;exact (strEq_iff.2 rfl).symm
  | false =>
    cases h2:strEq b a with
    |false=>rfl
    |true=>rw [strEq_iff] at h2;subst h2;rw [strEq_iff.2 rfl] at h;cases h
theorem mfind_mput (m : List (ByteArray × Bool)) (k s : ByteArray) (v : Bool) : mfind strEq (mput strEq m k v) s = if strEq s k = true then some v else mfind strEq m s := by
  induction m with
  |nil=>simp [mput,mfind]
  | cons p m ih =>
    simp only [mput]
    by_cases hk:strEq k p.1=true
    · rw [if_pos hk]
      have:=strEq_iff.1 hk
      simp only [mfind]
      by_cases hs:strEq s k=true
      · rw [if_pos hs,if_pos hs]
      · rw [if_neg hs,if_neg hs,if_neg (by rw [←this];exact hs)]
    · rw [if_neg hk]
      simp only [mfind]
      by_cases hs:strEq s p.1=true
      · rw [if_pos hs]
        have h1:=strEq_iff.1 hs
        subst h1
        rw [if_neg (by rw [strEq_comm];exact hk),if_pos (strEq_iff.2 rfl)]
      · rw [if_neg hs,ih]
        by_cases hsk:strEq s k=true
        · rw [if_pos hsk,if_pos hsk]
        · rw [if_neg hsk,if_neg hsk,if_neg hs]
theorem SeenOk.put {m:List (ByteArray×Bool)} {ns:List ByteArray} (h:SeenOk m ns) (k:ByteArray):SeenOk (mput strEq m k true) (k::ns):=fun s=>by
 rw [mfind_mput,List.any_cons]
 by_cases hs:strEq s k=true
 ·rw [if_pos hs,hs];rfl
 ·rw [if_neg hs,h s]
  have:strEq s k=false:=by simpa using hs
  rw [this];rfl
def fieldOk (d:api_Def) (n:Int) (f:api_Field):Bool:=
 !(((d.vKind==5)&&(((f.vType !=0)||decide (f.vAt<(-2147483648)))||decide (f.vAt>2147483647)))||((d.vKind==4)&&(decide (f.vType<0)||decide (f.vType≥n))))
def fieldsS (d:api_Def) (n:Int):List ByteArray→List api_Field→Bool
 |_,[]=>true
 |ns,f::r=>nameS f.vName&& !(ns.any (strEq f.vName))&&fieldOk d n f&&fieldsS d n (f.vName::ns) r
theorem shaped_loop {d : api_Def} {n : Int} (hl : d.vFields.length ≤ 9223372036854775807) (hz : ∀ f ∈ d.vFields, f.vName.size ≤ 9223372036854775807) : ∀ (e j : Nat) (m : List (ByteArray × Bool)) (ns : List ByteArray), j + e = d.vFields.length → SeenOk m ns →
    ∃v,Ev2 (fun k q=>ctf_shaped.l0 k d n q (j:Int) m) v∧(match v with| .inl b=>b=false∧fieldsS d n ns (d.vFields.drop j)=false| .inr _=>fieldsS d n ns (d.vFields.drop j)=true):=by
  intro e
  induction e with
  | zero =>
    intro j m ns hj hm
    refine ⟨.inr m,Ev2.pure (fun k q=>?_),?_⟩
    · rw [ctf_shaped.l0,if_neg (by simp;omega)]
    · rw [List.drop_eq_nil_of_le (by omega)];rfl
  | succ e ih =>
    intro j m ns hj hm
    have hlt:j<d.vFields.length:=by omega
    have hmem:=getD_mem (z:=z_api_Field) hlt
    obtain ⟨v,hv,hp⟩:=ih (j+1) (mput strEq m (d.vFields.getD j z_api_Field).vName true) ((d.vFields.getD j z_api_Field).vName::ns) (by omega) (hm.put _)
    have hn:=name_ev (hz _ hmem)
    rw [drop_getD z_api_Field hlt]
    have hstep:∀k q,ctf_shaped.l0 k d n (q+1) (j:Int) m=(ctf_isName.f k (d.vFields.getD j z_api_Field).vName).bind fun v4=>if ((!v4)||ns.any (strEq (d.vFields.getD j z_api_Field).vName))=true then some (.inl false) else
        if fieldOk d n (d.vFields.getD j z_api_Field)=false then some (.inl false) else ctf_shaped.l0 k d n q ((j+1:Nat):Int) (mput strEq m (d.vFields.getD j z_api_Field).vName true):=by
      intro k q
      rw [ctf_shaped.l0,if_pos (by simp;omega),if_pos (by omega),rd_nat,wrap_nat hlt hl,hm]
      unfold fieldOk
      simp only [Bool.not_eq_false']
    simp only [fieldsS]
    generalize hf:d.vFields.getD j z_api_Field=f at*
    cases h1:nameS f.vName with
    | false => exact ⟨.inl false, Ev2.step hn (r := fun k q b => if ((!b) || ns.any (strEq f.vName)) = true then some (.inl false) else
        if fieldOk d n f = false then some (.inl false) else ctf_shaped.l0 k d n q ((j + 1 : Nat) : Int) (mput strEq m f.vName true)) ⟨0, fun _ _ _ _ => by simp [h1]⟩ hstep, rfl, by simp⟩
    | true =>
      cases h2:ns.any (strEq f.vName) with
      | true => exact ⟨.inl false, Ev2.step hn (r := fun k q b => if ((!b) || ns.any (strEq f.vName)) = true then some (.inl false) else
        if fieldOk d n f = false then some (.inl false) else ctf_shaped.l0 k d n q ((j + 1 : Nat) : Int) (mput strEq m f.vName true)) ⟨0, fun _ _ _ _ => by simp [h2]⟩ hstep, rfl, by simp⟩
      | false =>
        cases h3:fieldOk d n f with
        | false => exact ⟨.inl false, Ev2.step hn (r := fun k q b => if ((!b) || ns.any (strEq f.vName)) = true then some (.inl false) else
        if fieldOk d n f = false then some (.inl false) else ctf_shaped.l0 k d n q ((j + 1 : Nat) : Int) (mput strEq m f.vName true)) ⟨0, fun _ _ _ _ => by simp [h1, h2, h3]⟩ hstep, rfl, by simp⟩
        | true =>
          refine ⟨v, Ev2.step hn (r := fun k q b => if ((!b) || ns.any (strEq f.vName)) = true then some (.inl false) else
            if fieldOk d n f = false then some (.inl false) else ctf_shaped.l0 k d n q ((j + 1 : Nat) : Int) (mput strEq m f.vName true)) ?_ hstep, ?_⟩
          · obtain ⟨K,hK⟩:=hv
            exact ⟨K,fun k q hk hq=>by simp only [h1,h2,h3];simpa using hK k q hk hq⟩
          · cases v with
            |inl b=>simpa using hp
            |inr b=>simpa using hp
def shapedS (d:api_Def) (n:Int):Bool:=
 match shp d.vKind with
 |none=>false
 |some s=>(if s.vname=true then nameS d.vName else strEq d.vName ByteArray.empty)&&(if s.vint=true then okI d.vInt else ((d.vInt.vSize==0)&&(d.vInt.vSigned==false)))&&
   (if s.vref=true then (decide (0≤d.vRef)&&decide (d.vRef<n)) else (d.vRef==0))&&(if s.vn=true then (decide (1≤d.vN)&&decide (d.vN≤512)) else (d.vN==0))&&
   (s.vfields==decide (0<d.vFields.length))&&decide (d.vFields.length≤32)&&fieldsS d n [] d.vFields
theorem shaped_ev {d : api_Def} {n : Int} (hl : d.vFields.length ≤ 9223372036854775807) (hz : ∀ f ∈ d.vFields, f.vName.size ≤ 9223372036854775807) (hz0 : d.vName.size ≤ 9223372036854775807) :
    Ev (fun k=>ctf_shaped.f k d n) (shapedS d n):=by
  obtain ⟨m,hm,hf⟩:=shapes_find d.vKind
  obtain ⟨Kn,hKn⟩:=name_ev hz0
  obtain ⟨v,hv,hp⟩:=shaped_loop (n:=n) hl hz d.vFields.length 0 [] [] (by omega) SeenOk.nil
  obtain ⟨Kl,hKl⟩:=hv.diag
  refine ⟨max Kn Kl,fun k hk=>?_⟩
  show ctf_shaped.f k d n=_
  have h1:=hKn k (by omega)
  have h2:ctf_shaped.l0 k d n k 0 []=some v:=hKl k (by omega)
  rw [List.drop_zero] at hp
  clear hKl hv
  rcases v with b|b
  · obtain ⟨rfl,hp⟩:=hp
    have h1:ctf_isName.f k d.vName=some (nameS d.vName):=h1
    unfold ctf_shaped.f
    simp only [hm,Option.bind_some,hf,h1,h2,bits_Check.f]
    unfold shapedS
    cases hs:shp d.vKind with
    |none=>simp
    | some s =>
      simp only [Option.isSome_some,Option.getD_some]
      obtain ⟨b1,b2,b3,b4,b5⟩:=s
      have e1:decide (d.vRef<0)= !(decide (0≤d.vRef)):=by by_cases h:d.vRef<0<;>simp [h]<;>omega
      have e2:decide (d.vRef≥n)= !(decide (d.vRef<n)):=by by_cases h:d.vRef<n<;>simp [h]<;>omega
      have e3:decide (d.vN<1)= !(decide (1≤d.vN)):=by by_cases h:d.vN<1<;>simp [h]<;>omega
      have e4:decide (d.vN>512)= !(decide (d.vN≤512)):=by by_cases h:d.vN>512<;>simp [h]<;>omega
      have e5:decide ((d.vFields.length:Int)>0)=decide (0<d.vFields.length):=by by_cases h:0<d.vFields.length<;>simp [h]
      have e6:decide ((d.vFields.length:Int)>32)= !(decide (d.vFields.length≤32)):=by by_cases h:d.vFields.length≤32<;>simp [h]<;>omega
      have e7:(d.vRef !=0)= !(d.vRef==0):=rfl
      have e8:(d.vN !=0)= !(d.vN==0):=rfl
      have e9:∀x:Bool,((if x=true then 0 else 10:Int) !=0)= !x:=fun x=>by cases x<;>rfl
      simp only [e1,e2,e3,e4,e5,e6,e7,e8]
      rw [hp]
      generalize nameS d.vName=c1
      generalize strEq d.vName ByteArray.empty=c2
      generalize okI d.vInt=c3
      generalize (d.vInt.vSize==0)=c4
      generalize (d.vInt.vSigned==false)=c5
      generalize decide (0≤d.vRef)=c6
      generalize decide (d.vRef<n)=c7
      generalize (d.vRef==0)=c8
      generalize decide (1≤d.vN)=c9
      generalize decide (d.vN≤512)=c10
      generalize (d.vN==0)=c11
      generalize decide (0<d.vFields.length)=c12
      generalize decide (d.vFields.length≤32)=c13
      have f1:∀(b c1 c2:Bool) (K:Option Bool),((if (!true)=true then some (!true) else ((if (true&&(b==true))=true then some c1 else some false).bind fun v2=>if (b&& !v2)=true then some (b&& !v2) else some (!b&& !c2)):Option Bool).bind fun xx1=>if xx1=true then some false else K)=if (if b=true then c1 else c2)=true then K else some false:=by
        intro b c1 c2 K;cases b<;>cases c1<;>cases c2<;>rfl
      have f2:∀(b:Bool) (x:Int) (hx:(x !=0)= !c3) (K:Option Bool),((if (true&&(b==true))=true then some x else some 0).bind fun v3=>(((if (b&&(v3 !=0))=true then some (b&&(v3 !=0)) else some (!b&& !(c4&&(c5&&true)))):Option Bool).bind fun xx2=>if xx2=true then some false else K))=if (if b=true then c3 else (c4&&c5))=true then K else some false:=by
        intro b x hx K;cases b
        · cases c4<;>cases c5<;>rfl
        · simp only [Bool.true_and,beq_self_eq_true,if_true,Option.bind_some,hx]
          cases c3<;>rfl
      have f3:∀(b x y z:Bool) (K:Option Bool),(((if (b&&(!x|| !y))=true then some (b&&(!x|| !y)) else some (!b&& !z)):Option Bool).bind fun xx=>if xx=true then some false else K)=if (if b=true then (x&&y) else z)=true then K else some false:=by
        intro b x y z K;cases b<;>cases x<;>cases y<;>cases z<;>rfl
      have f5:∀(b x y:Bool) (K:Option Bool),(((if (b !=x)=true then some (b !=x) else some (!y)):Option Bool).bind fun xx=>if xx=true then some false else K)=if (b==x&&y)=true then K else some false:=by
        intro b x y K;cases b<;>cases x<;>cases y<;>rfl
      rw [f1,f2 _ _ (e9 c3),f3,f3,f5]
      generalize (if b1=true then c1 else c2)=t1
      generalize (if b2=true then c3 else (c4&&c5))=t2
      generalize (if b3=true then (c6&&c7) else c8)=t3
      generalize (if b4=true then (c9&&c10) else c11)=t4
      generalize (b5==c12)=t5
      cases t1<;>cases t2<;>cases t3<;>cases t4<;>cases t5<;>cases c13<;>rfl
  · simp only at hp
    have h1:ctf_isName.f k d.vName=some (nameS d.vName):=h1
    unfold ctf_shaped.f
    simp only [hm,Option.bind_some,hf,h1,h2,bits_Check.f]
    unfold shapedS
    cases hs:shp d.vKind with
    |none=>simp
    | some s =>
      simp only [Option.isSome_some,Option.getD_some]
      obtain ⟨b1,b2,b3,b4,b5⟩:=s
      have e1:decide (d.vRef<0)= !(decide (0≤d.vRef)):=by by_cases h:d.vRef<0<;>simp [h]<;>omega
      have e2:decide (d.vRef≥n)= !(decide (d.vRef<n)):=by by_cases h:d.vRef<n<;>simp [h]<;>omega
      have e3:decide (d.vN<1)= !(decide (1≤d.vN)):=by by_cases h:d.vN<1<;>simp [h]<;>omega
      have e4:decide (d.vN>512)= !(decide (d.vN≤512)):=by by_cases h:d.vN>512<;>simp [h]<;>omega
      have e5:decide ((d.vFields.length:Int)>0)=decide (0<d.vFields.length):=by by_cases h:0<d.vFields.length<;>simp [h]
      have e6:decide ((d.vFields.length:Int)>32)= !(decide (d.vFields.length≤32)):=by by_cases h:d.vFields.length≤32<;>simp [h]<;>omega
      have e7:(d.vRef !=0)= !(d.vRef==0):=rfl
      have e8:(d.vN !=0)= !(d.vN==0):=rfl
      have e9:∀x:Bool,((if x=true then 0 else 10:Int) !=0)= !x:=fun x=>by cases x<;>rfl
      simp only [e1,e2,e3,e4,e5,e6,e7,e8]
      rw [hp]
      generalize nameS d.vName=c1
      generalize strEq d.vName ByteArray.empty=c2
      generalize okI d.vInt=c3
      generalize (d.vInt.vSize==0)=c4
      generalize (d.vInt.vSigned==false)=c5
      generalize decide (0≤d.vRef)=c6
      generalize decide (d.vRef<n)=c7
      generalize (d.vRef==0)=c8
      generalize decide (1≤d.vN)=c9
      generalize decide (d.vN≤512)=c10
      generalize (d.vN==0)=c11
      generalize decide (0<d.vFields.length)=c12
      generalize decide (d.vFields.length≤32)=c13
      have f1:∀(b c1 c2:Bool) (K:Option Bool),((if (!true)=true then some (!true) else ((if (true&&(b==true))=true then some c1 else some false).bind fun v2=>if (b&& !v2)=true then some (b&& !v2) else some (!b&& !c2)):Option Bool).bind fun xx1=>if xx1=true then some false else K)=if (if b=true then c1 else c2)=true then K else some false:=by
        intro b c1 c2 K;cases b<;>cases c1<;>cases c2<;>rfl
      have f2:∀(b:Bool) (x:Int) (hx:(x !=0)= !c3) (K:Option Bool),((if (true&&(b==true))=true then some x else some 0).bind fun v3=>(((if (b&&(v3 !=0))=true then some (b&&(v3 !=0)) else some (!b&& !(c4&&(c5&&true)))):Option Bool).bind fun xx2=>if xx2=true then some false else K))=if (if b=true then c3 else (c4&&c5))=true then K else some false:=by
        intro b x hx K;cases b
        · cases c4<;>cases c5<;>rfl
        · simp only [Bool.true_and,beq_self_eq_true,if_true,Option.bind_some,hx]
          cases c3<;>rfl
      have f3:∀(b x y z:Bool) (K:Option Bool),(((if (b&&(!x|| !y))=true then some (b&&(!x|| !y)) else some (!b&& !z)):Option Bool).bind fun xx=>if xx=true then some false else K)=if (if b=true then (x&&y) else z)=true then K else some false:=by
        intro b x y z K;cases b<;>cases x<;>cases y<;>cases z<;>rfl
      have f5:∀(b x y:Bool) (K:Option Bool),(((if (b !=x)=true then some (b !=x) else some (!y)):Option Bool).bind fun xx=>if xx=true then some false else K)=if (b==x&&y)=true then K else some false:=by
        intro b x y K;cases b<;>cases x<;>cases y<;>rfl
      rw [f1,f2 _ _ (e9 c3),f3,f3,f5]
      generalize (if b1=true then c1 else c2)=t1
      generalize (if b2=true then c3 else (c4&&c5))=t2
      generalize (if b3=true then (c6&&c7) else c8)=t3
      generalize (if b4=true then (c9&&c10) else c11)=t4
      generalize (b5==c12)=t5
      cases t1<;>cases t2<;>cases t3<;>cases t4<;>cases t5<;>cases c13<;>rfl
def nval (d:api_Def) (inner:Int):Int:=
 if d.vKind=1 then d.vInt.vSize else if d.vKind=2 then 8 else if d.vKind=3 then IntKind.wrap .i64 (d.vN*inner) else if d.vKind=4 then d.vN else if d.vKind=5 then 4 else if d.vKind=6 then inner else 0
theorem nval_eq (d:api_Def) (inner:Int):((mfind ieq (mput ieq (mput ieq (mput ieq (mput ieq (mput ieq (mput ieq ([]:List (Int×Int)) 1 d.vInt.vSize) 2 8) 3 (IntKind.wrap .i64 (d.vN*inner))) 4 d.vN) 5 4) 6 inner) d.vKind).getD 0)=nval d inner:=by
 simp only [mput,ieq,Int.reduceBEq,Bool.false_eq_true,if_false,mfind,beq_iff_eq,nval]
 repeat' split
 all_goals rfl
structure ShD (d:api_Def) (n:Nat):Prop where
 kind:1≤d.vKind∧d.vKind≤6
 ref:d.vKind=2∨d.vKind=3∨d.vKind=6→0≤d.vRef∧d.vRef<n
 num:d.vKind=3∨d.vKind=4→1≤d.vN∧d.vN≤512
 int:d.vKind=1→d.vInt.vSize=1∨d.vInt.vSize=2∨d.vInt.vSize=4∨d.vInt.vSize=8
 few:d.vFields.length≤32
 typ:d.vKind=4→∀f∈d.vFields,0≤f.vType∧f.vType<n
 names:(d.vFields.map (·.vName)).Nodup
theorem fields_of {d : api_Def} {n : Int} : ∀ (ns : List ByteArray) (l : List api_Field), fieldsS d n ns l = true → (∀ f ∈ l, nameS f.vName = true ∧ fieldOk d n f = true ∧ f.vName ∉ ns) ∧ (l.map (·.vName)).Nodup
  |_,[],_=>⟨by simp,by simp⟩
  | ns, f :: r, h => by
    simp only [fieldsS,Bool.and_eq_true,Bool.not_eq_true'] at h
    obtain ⟨⟨⟨h1,h2⟩,h3⟩,h4⟩:=h
    obtain ⟨h5,h6⟩:=fields_of _ r h4
    have hn:f.vName∉ns:=fun hm=>by
      have:=List.any_eq_false.1 h2 f.vName hm
      exact this (strEq_iff.2 rfl)
    refine ⟨fun g hg=>?_,?_⟩
    · rcases List.mem_cons.1 hg with rfl|hg
      · exact ⟨h1,h3,hn⟩
      · obtain ⟨a,b,c⟩:=h5 g hg
        exact ⟨a,b,fun hm=>c (List.mem_cons_of_mem _ hm)⟩
    · rw [List.map_cons,List.nodup_cons]
      refine ⟨fun hm=>?_,h6⟩
      obtain ⟨g,hg,e⟩:=List.mem_map.1 hm
      exact (h5 g hg).2.2 (by rw [e];exact List.mem_cons_self)
theorem shaped_of {d:api_Def} {n:Nat} (h:shapedS d (n:Int)=true):ShD d n:=by
  unfold shapedS at h
  cases hs:shp d.vKind with
  |none=>rw [hs] at h;cases h
  | some s =>
    rw [hs] at h
    simp only [Bool.and_eq_true,decide_eq_true_eq] at h
    obtain ⟨⟨⟨⟨⟨⟨h1,h2⟩,h3⟩,h4⟩,h5⟩,h6⟩,h7⟩:=h
    obtain ⟨h8,h9⟩:=fields_of _ _ h7
    unfold shp at hs
    refine ⟨?_,?_,?_,?_,h6,?_,h9⟩
    · repeat' split at hs
      all_goals first|(cases hs;done)|omega
    · intro hk
      repeat' split at hs
      all_goals first|(cases hs;done)|(injection hs with hs;subst hs;simp at h3;omega)|omega
    · intro hk
      repeat' split at hs
      all_goals first|(cases hs;done)|(injection hs with hs;subst hs;simp at h4;omega)|omega
    · intro hk
      rw [if_pos hk] at hs
      injection hs with hs
      subst hs
      simp only [if_true] at h2
      simp only [okI,Bool.or_eq_true,beq_iff_eq] at h2
      omega
    · intro hk f hf
      have:=(h8 f hf).2.1
      simp only [fieldOk,hk] at this
      simp at this
      omega
theorem cont_range {d:api_Def} {n:Nat} (h:ShD d n):∀c∈cont d,0≤c∧c<n:=by
 intro c hc
 unfold cont at hc
 split at hc
 ·rename_i hk
  simp only [Bool.or_eq_true,beq_iff_eq] at hk
  obtain rfl:=List.mem_singleton.1 hc
  exact h.ref (by omega)
 ·split at hc
  ·rename_i hk
   simp only [beq_iff_eq] at hk
   obtain ⟨f,hf,rfl⟩:=List.mem_map.1 hc
   exact h.typ hk f hf
  ·cases hc
def cnt (l:List Bool):Nat:=(l.filter fun b=> !b).length
theorem cnt_le:∀(a b:List Bool),a.length=b.length→(∀j,a.getD j false=true→b.getD j false=true)→cnt b≤cnt a
  |[],[],_,_=>Nat.le_refl _
  |[],_::_,h,_=>by simp at h
  |_::_,[],h,_=>by simp at h
  | x :: a, y :: b, h, hj => by
    have h1:=cnt_le a b (by simpa using h) (fun j hh=>by simpa using hj (j+1) (by simpa using hh))
    have h2:=hj 0
    simp only [List.getD_cons_zero] at h2
    unfold cnt at*
    cases x<;>cases y<;>simp_all<;>omega
theorem cnt_set:∀(a:List Bool) (i:Nat),i<a.length→a.getD i false=false→cnt (a.set i true)+1=cnt a
  |[],i,h,_=>by simp at h
  | x :: a, 0, h, hi => by
    simp only [List.getD_cons_zero] at hi
    subst hi
    simp [cnt]
  | x :: a, i + 1, h, hi => by
    have:=cnt_set a i (by simpa using h) (by simpa using hi)
    unfold cnt at*
    cases x<;>simp_all<;>omega
theorem getD_set {α:Type} {z v:α} {l:List α} {i j:Nat} (hi:i<l.length):(l.set i v).getD j z=if i=j then v else l.getD j z:=by
 by_cases h:i=j
 ·subst h;simp [List.getD_eq_getElem?_getD,hi]
 ·simp [List.getD_eq_getElem?_getD,List.getElem?_set_ne h,h]
section
variable (defs:List api_Def)
def inner (out:List Int) (d:api_Def):Int:=(cont d).foldl (fun _ c=>out.getD c.toNat 0) 0
def Jn (out:List Int):Prop:=∃(rk:Nat→Nat) (B:Nat),∀j,j<defs.length→0<out.getD j 0→
 rk j<B∧out.getD j 0≤512∧(∀c∈cont (defs.getD j z_api_Def),0<out.getD c.toNat 0∧rk c.toNat<rk j)∧out.getD j 0=nval (defs.getD j z_api_Def) (inner out (defs.getD j z_api_Def))
structure Post (out:List Int) (ok:Bool) (bg:List Bool) (out':List Int) (ok':Bool) (bg':List Bool):Prop where
 lo:out'.length=defs.length
 lb:bg'.length=defs.length
 bgm:∀j,bg.getD j false=true→bg'.getD j false=true
 okm:ok'=true→ok=true
 keep:ok'=true→∀j,0<out.getD j 0→out'.getD j 0=out.getD j 0
 stack:ok'=true→∀j,bg.getD j false=true→out.getD j 0≤0→out'.getD j 0≤0
 jn:ok'=true→Jn defs out→Jn defs out'
variable {defs}
theorem Post.rfl' {out:List Int} {ok:Bool} {bg:List Bool} (h1:out.length=defs.length) (h2:bg.length=defs.length):Post defs out ok bg out ok bg:=
 ⟨h1,h2,fun _ h=>h,fun h=>h,fun _ _ _=>rfl,fun _ _ _ h=>h,fun _ h=>h⟩
theorem Post.trans {o1 o2 o3:List Int} {k1 k2 k3:Bool} {b1 b2 b3:List Bool} (h:Post defs o1 k1 b1 o2 k2 b2) (g:Post defs o2 k2 b2 o3 k3 b3):Post defs o1 k1 b1 o3 k3 b3:=by
 refine ⟨g.lo,g.lb,fun j hj=>g.bgm j (h.bgm j hj),fun hk=>h.okm (g.okm hk),fun hk j hj=>?_,fun hk j hb ho=>?_,fun hk hJ=>g.jn hk (h.jn (g.okm hk) hJ)⟩
 ·have:=h.keep (g.okm hk) j hj
  rw [g.keep hk j (by rw [this];exact hj),this]
 ·exact g.stack hk j (h.bgm j hb) (h.stack (g.okm hk) j hb ho)
def CallT (i:Nat) (out:List Int) (ok:Bool) (bg:List Bool):Prop:=∃r out' ok' bg',Ev (fun k=>ctf_sizes_1.f k (i:Int) out ok bg defs) (r,out',ok',bg')∧Post defs out ok bg out' ok' bg'∧(ok'=true→Jn defs out→0<r∧r=out'.getD i 0)
theorem sizes_loop {c0 : Nat} (v1 : List Int) (hv : ∀ c ∈ v1, 0 ≤ c ∧ c < (defs.length : Int)) (hvl : v1.length ≤ 9223372036854775807)
    (hc:∀i out ok bg,i<defs.length→out.length=defs.length→bg.length=defs.length→cnt bg<c0→CallT (defs:=defs) i out ok bg):
    ∀(e j:Nat) (inn:Int) (out:List Int) (ok:Bool) (bg:List Bool),j+e=v1.length→out.length=defs.length→bg.length=defs.length→cnt bg<c0→
    ∃ inn' out' ok' bg', (∃ K, ∀ k m, K ≤ k → K ≤ m → ctf_sizes_1.l0 (ctf_sizes_1.f k) defs v1 m inn (j : Int) ok out bg = some (inn', ok', out', bg')) ∧ Post defs out ok bg out' ok' bg' ∧
      (ok'=true→Jn defs out→(∀c∈v1.drop j,0<out'.getD c.toNat 0)∧inn'=(v1.drop j).foldl (fun _ c=>out'.getD c.toNat 0) inn):=by
  intro e
  induction e with
  | zero =>
    intro j inn out ok bg hj h1 h2 h3
    refine ⟨inn,out,ok,bg,⟨1,fun k m _ hm=>?_⟩,Post.rfl' h1 h2,fun _ _=>?_⟩
    · obtain ⟨m,rfl⟩:∃q,m=q+1:=⟨m-1,by omega⟩
      rw [ctf_sizes_1.l0,if_neg (by simp;omega)]
    · rw [List.drop_eq_nil_of_le (by omega)];simp
  | succ e ih =>
    intro j inn out ok bg hj h1 h2 h3
    have hlt:j<v1.length:=by omega
    have hm:=hv _ (getD_mem (z:=0) hlt)
    obtain ⟨i,hi⟩:∃i:Nat,v1.getD j 0=(i:Int):=⟨(v1.getD j 0).toNat,by omega⟩
    obtain ⟨r,o1,k1,b1,⟨K1,hK1⟩,hP1,hr1⟩:=hc i out ok bg (by omega) h1 h2 h3
    have hcl:=cnt_le bg b1 (by rw [h2,hP1.lb]) hP1.bgm
    obtain ⟨inn',o2,k2,b2,⟨K2,hK2⟩,hP2,hr2⟩:=ih (j+1) r o1 k1 b1 (by omega) hP1.lo hP1.lb (by omega)
    refine ⟨inn',o2,k2,b2,⟨max K1 K2+1,fun k m hk hm'=>?_⟩,hP1.trans hP2,fun hok hJ=>?_⟩
    · obtain ⟨m,rfl⟩:∃q,m=q+1:=⟨m-1,by omega⟩
      rw [ctf_sizes_1.l0,if_pos (by simp;omega),if_pos (by omega),rd_nat,hi,show ctf_sizes_1.f k _ _ _ _ _=_ from hK1 k (by omega)]
      simp only [Option.bind_some]
      rw [wrap_nat hlt hvl]
      exact hK2 k m (by omega) (by omega)
    · obtain ⟨h5,h6⟩:=hr2 hok (hP1.jn (hP2.okm hok) hJ)
      obtain ⟨h7,h8⟩:=hr1 (hP2.okm hok) hJ
      have h9:=hP2.keep hok i (by rw [←h8];exact h7)
      rw [drop_getD 0 hlt,hi]
      refine ⟨fun c hc'=>?_,?_⟩
      · rcases List.mem_cons.1 hc' with rfl|hc'
        · simp only [Int.toNat_natCast]
          rw [h9,←h8];exact h7
        · exact h5 c hc'
      · rw [List.foldl_cons,h6]
        simp only [Int.toNat_natCast]
        rw [h9,←h8]
theorem sizes_call (hS : ∀ d ∈ defs, ShD d defs.length) : ∀ (c : Nat) (i : Nat) (out : List Int) (ok : Bool) (bg : List Bool), i < defs.length → out.length = defs.length → bg.length = defs.length → cnt bg = c → CallT (defs := defs) i out ok bg := by
  intro c
  induction c using Nat.strongRecOn with
  | _ c ihc =>
    intro i out ok bg hi h1 h2 hcnt
    by_cases hA:0<out.getD i 0∨ok=false
    · refine ⟨out.getD i 0,out,ok,bg,⟨1,fun k hk=>?_⟩,Post.rfl' h1 h2,fun hk _=>?_⟩
      · obtain ⟨k,rfl⟩:∃q,k=q+1:=⟨k-1,by omega⟩
        show ctf_sizes_1.f (k+1) _ _ _ _ _=_
        rw [ctf_sizes_1.f, if_pos (by omega), rd_nat, if_pos (by
          rcases hA with h|h
          · simp only [Bool.or_eq_true,decide_eq_true_eq];exact .inl h
          · simp [h]), if_pos (by omega)]
      · rcases hA with h|h
        · exact ⟨h,rfl⟩
        · rw [h] at hk;cases hk
    · have hA1:¬0<out.getD i 0:=fun h=>hA (.inl h)
      have hok:ok=true:=by cases ok with
        |true=>rfl
        |false=>exact absurd (.inr rfl) hA
      subst hok
      cases hb:bg.getD i false with
      | true =>
        refine ⟨0,out,false,bg,⟨1,fun k hk=>?_⟩,⟨h1,h2,fun _ h=>h,(fun h=>by cases h),(fun h=>by cases h),(fun h=>by cases h),(fun h=>by cases h)⟩,(fun h _=>by cases h)⟩
        obtain ⟨k,rfl⟩:∃q,k=q+1:=⟨k-1,by omega⟩
        show ctf_sizes_1.f (k+1) _ _ _ _ _=_
        rw [ctf_sizes_1.f,if_pos (by omega),rd_nat,if_neg (by simp only [Bool.not_true,Bool.or_false,decide_eq_true_eq];exact hA1),if_pos (by omega),rd_nat,if_pos hb]
      | false =>
        have hd:=hS _ (getD_mem (z:=z_api_Def) hi)
        have hcr:=cont_range hd
        have hcs:=cnt_set bg i (by omega) hb
        have hlenc:(cont (defs.getD i z_api_Def)).length≤9223372036854775807:=by
          have:=hd.few
          unfold cont
          split
          · simp
          · split
            · rw [List.length_map];omega
            · simp
        obtain ⟨Kc,hKc⟩:=contained_ev (d:=defs.getD i z_api_Def) (by have:=hd.few;omega)
        obtain ⟨inn,o1,k1,b1,⟨K1,hK1⟩,hP,hr⟩:=sizes_loop (defs:=defs) (c0:=c) (cont (defs.getD i z_api_Def)) hcr hlenc (fun i' out' ok' bg' a b c' d=>ihc (cnt bg') d i' out' ok' bg' a b c' rfl)
          (cont (defs.getD i z_api_Def)).length 0 0 out true (bg.set i true) (by omega) h1 (by simpa using h2) (by omega)
        rw [List.drop_zero] at hr
        have hb1:(bg.set i true).getD i false=true:=by rw [getD_set (by omega),if_pos rfl]
        have hbm:∀j,bg.getD j false=true→(bg.set i true).getD j false=true:=fun j hj=>by
          rw [getD_set (by omega)]
          split
          · rfl
          · exact hj
        have fin : Jn defs out → (k1 && decide (nval (defs.getD i z_api_Def) inn ≤ 512)) = true → 0 < nval (defs.getD i z_api_Def) inn ∧ Jn defs (o1.set i (nval (defs.getD i z_api_Def) inn)) := by
          intro hJ hk
          simp only [Bool.and_eq_true,decide_eq_true_eq] at hk
          obtain ⟨hk1,hn512⟩:=hk
          obtain ⟨hr1,hr2⟩:=hr hk1 hJ
          have hi0:=hP.stack hk1 i hb1 (by omega)
          have hJ1:=hP.jn hk1 hJ
          have hinn:inn=inner o1 (defs.getD i z_api_Def):=hr2
          have hnpos:0<nval (defs.getD i z_api_Def) inn:=by
            obtain ⟨rk,B,hB⟩:=hJ1
            have href:(defs.getD i z_api_Def).vKind=3∨(defs.getD i z_api_Def).vKind=6→0<inn∧inn≤512:=by
              intro hk
              have hcd:cont (defs.getD i z_api_Def)=[(defs.getD i z_api_Def).vRef]:=by
                unfold cont
                rw [if_pos (by simp only [Bool.or_eq_true,beq_iff_eq];exact hk)]
              rw [hcd] at hr1 hcr
              have h5:=hr1 _ (List.mem_singleton.2 rfl)
              have h6:=hcr _ (List.mem_singleton.2 rfl)
              have h7:=hB (defs.getD i z_api_Def).vRef.toNat (by omega) h5
              rw [hinn]
              unfold inner
              rw [hcd]
              simp only [List.foldl_cons,List.foldl_nil]
              exact ⟨h5,h7.2.1⟩
            have hkd:=hd.kind
            have hnum:=hd.num
            have hint:=hd.int
            unfold nval
            by_cases e1:(defs.getD i z_api_Def).vKind=1
            · rw [if_pos e1];have:=hint e1;omega
            · rw [if_neg e1]
              by_cases e2:(defs.getD i z_api_Def).vKind=2
              · rw [if_pos e2];decide
              · rw [if_neg e2]
                by_cases e3:(defs.getD i z_api_Def).vKind=3
                · rw [if_pos e3]
                  obtain ⟨h5,h6⟩:=href (.inl e3)
                  obtain ⟨h7,h8⟩:=hnum (.inl e3)
                  have h9:(defs.getD i z_api_Def).vN*inn≤512*512:=Int.mul_le_mul h8 h6 (by omega) (by omega)
                  have h10:0<(defs.getD i z_api_Def).vN*inn:=Int.mul_pos (by omega) h5
                  rw [wrap_id (by omega) (by omega)]
                  exact h10
                · rw [if_neg e3]
                  by_cases e4:(defs.getD i z_api_Def).vKind=4
                  · rw [if_pos e4];have:=hnum (.inr e4);omega
                  · rw [if_neg e4]
                    by_cases e5:(defs.getD i z_api_Def).vKind=5
                    · rw [if_pos e5];decide
                    · rw [if_neg e5,if_pos (by omega)]
                      exact (href (.inr (by omega))).1
          refine ⟨hnpos,?_⟩
          obtain ⟨rk,B,hB⟩:=hJ1
          have hne:∀c:Int,0<o1.getD c.toNat 0→¬i=c.toNat:=fun c hc e=>by rw [←e] at hc;omega
          have hset:∀j,¬i=j→(o1.set i (nval (defs.getD i z_api_Def) inn)).getD j 0=o1.getD j 0:=fun j hj=>by rw [getD_set (by rw [hP.lo];exact hi),if_neg hj]
          have hin:∀d:api_Def,(∀c∈cont d,0<o1.getD c.toNat 0)→inner (o1.set i (nval (defs.getD i z_api_Def) inn)) d=inner o1 d:=by
            intro d hcd
            have key:∀(l:List Int) (z0:Int),(∀c∈l,0<o1.getD c.toNat 0)→l.foldl (fun _ c=>(o1.set i (nval (defs.getD i z_api_Def) inn)).getD c.toNat 0) z0=l.foldl (fun _ c=>o1.getD c.toNat 0) z0:=by
              intro l
              induction l with
              |nil=>intro _ _;rfl
              | cons c l ihl =>
                intro z0 hcd
                rw [List.foldl_cons,List.foldl_cons,hset _ (hne c (hcd c List.mem_cons_self))]
                exact ihl _ (fun c hc=>hcd c (List.mem_cons_of_mem _ hc))
            exact key _ _ hcd
          refine ⟨fun j=>if i=j then B else rk j,B+1,fun j hj hpos=>?_⟩
          show (if i=j then B else rk j)<B+1∧_∧(∀c:Int,c∈cont (defs.getD j z_api_Def)→_∧(if i=c.toNat then B else rk c.toNat)<(if i=j then B else rk j))∧_
          by_cases hij:i=j
          · subst hij
            rw [getD_set (by rw [hP.lo];exact hi),if_pos rfl,if_pos rfl]
            refine ⟨by omega,hn512,fun c hc=>?_,?_⟩
            · have h5:=hr1 c hc
              have h6:=hcr c hc
              rw [hset _ (hne c h5),if_neg (hne c h5)]
              exact ⟨h5,(hB c.toNat (by omega) h5).1⟩
            · rw [hin _ hr1,←hinn]
          · rw [hset j hij] at hpos⊢
            obtain ⟨h5,h6,h7,h8⟩:=hB j hj hpos
            rw [if_neg hij]
            refine ⟨by omega,h6,fun c hc=>?_,?_⟩
            · obtain ⟨h9,h10⟩:=h7 c hc
              rw [hset _ (hne c h9),if_neg (hne c h9)]
              exact ⟨h9,h10⟩
            · rw [hin _ (fun c hc=>(h7 c hc).1)];exact h8
        refine ⟨nval (defs.getD i z_api_Def) inn,o1.set i (nval (defs.getD i z_api_Def) inn),k1&&decide (nval (defs.getD i z_api_Def) inn≤512),b1,⟨max Kc K1+1,fun k hk=>?_⟩,?_,?_⟩
        · obtain ⟨k,rfl⟩:∃q,k=q+1:=⟨k-1,by omega⟩
          show ctf_sizes_1.f (k+1) _ _ _ _ _=_
          rw [ctf_sizes_1.f,if_pos (by omega),rd_nat,if_neg (by simp only [Bool.not_true,Bool.or_false,decide_eq_true_eq];exact hA1),if_pos (by omega),rd_nat,if_neg (by rw [hb];simp),if_pos (by omega),if_pos (by omega),rd_nat,show ctf_contained.f k _=_ from hKc k (by omega)]
          simp only [Option.bind_some,Int.toNat_natCast]
          rw [show ctf_sizes_1.l0 (ctf_sizes_1.f k) defs _ k 0 0 true out _=_ from hK1 k k (by omega) (by omega)]
          simp only [Option.bind_some]
          rw [if_pos (by rw [hP.lo];omega)]
          simp only [nval_eq]
        · refine ⟨by simp [hP.lo],hP.lb,fun j hj=>hP.bgm j (hbm j hj),fun _=>rfl,fun hk j hj=>?_,fun hk j hj ho=>?_,fun hk hJ=>?_⟩
          · have hk1:k1=true:=by simp only [Bool.and_eq_true] at hk;exact hk.1
            rw [getD_set (by rw [hP.lo];exact hi),if_neg (fun e=>hA1 (by subst e;exact hj))]
            exact hP.keep hk1 j hj
          · have hk1:k1=true:=by simp only [Bool.and_eq_true] at hk;exact hk.1
            rw [getD_set (by rw [hP.lo];exact hi),if_neg (fun e=>by subst e;rw [hb] at hj;cases hj)]
            exact hP.stack hk1 j (hbm j hj) ho
          · exact (fin hJ hk).2
        · intro hk hJ
          refine ⟨(fin hJ hk).1,?_⟩
          rw [getD_set (by rw [hP.lo];exact hi),if_pos rfl]
end
theorem Jn.zero {defs : List api_Def} {n : Nat} : Jn defs (List.replicate n 0) := ⟨fun _ => 0, 0, fun j hj h => by
 exfalso
 rw [List.getD_eq_getElem?_getD,List.getElem?_replicate] at h
 split at h <;> simp at h⟩
theorem all_loop {t : api_Types} (hS : ∀ d ∈ t.vDefs, ShD d t.vDefs.length) (hn : t.vDefs.length ≤ 9223372036854775807) : ∀ (e j : Nat) (ok : Bool) (bg : List Bool) (out : List Int), j + e = t.vDefs.length → out.length = t.vDefs.length → bg.length = t.vDefs.length →
    ∃ok' bg' out',Ev2 (fun k m=>ctf_sizes.l0 k t m (j:Int) ok bg out) (ok',bg',out')∧Post t.vDefs out ok bg out' ok' bg'∧(ok'=true→Jn t.vDefs out→∀q,j≤q→q<t.vDefs.length→0<out'.getD q 0):=by
  intro e
  induction e with
  | zero =>
    intro j ok bg out hj h1 h2
    refine ⟨ok,bg,out,Ev2.pure (fun k m=>?_),Post.rfl' h1 h2,fun _ _ q hq hq2=>by omega⟩
    rw [ctf_sizes.l0,if_neg (by simp;omega)]
  | succ e ih =>
    intro j ok bg out hj h1 h2
    have hlt:j<t.vDefs.length:=by omega
    obtain ⟨r,o1,k1,b1,hE,hP1,hr1⟩:=sizes_call hS (cnt bg) j out ok bg hlt h1 h2 rfl
    obtain ⟨ok',bg',out',hE2,hP2,hr2⟩:=ih (j+1) k1 b1 o1 (by omega) hP1.lo hP1.lb
    refine ⟨ok',bg',out',Ev2.step hE (r:=fun k m (v1:Int×List Int×Bool×List Bool)=>ctf_sizes.l0 k t m (IntKind.wrap .i64 ((j:Int)+1)) v1.2.2.1 v1.2.2.2 v1.2.1) ?_ (fun k m=>?_),hP1.trans hP2,fun hok hJ q hq hq2=>?_⟩
    · simp only
      rw [wrap_nat hlt hn]
      exact hE2
    · rw [ctf_sizes.l0,if_pos (by simp;omega)]
    · by_cases hqj:q=j
      · subst hqj
        obtain ⟨h3,h4⟩:=hr1 (hP2.okm hok) hJ
        rw [hP2.keep hok q (by rw [←h4];exact h3),←h4]
        exact h3
      · exact hr2 hok (hP1.jn (hP2.okm hok) hJ) q (by omega) hq2
theorem sizes_ev {t:api_Types} (hS:∀d∈t.vDefs,ShD d t.vDefs.length) (hn:t.vDefs.length≤200):∃out ok,Ev (fun k=>ctf_sizes.f k t) (out,ok)∧out.length=t.vDefs.length∧(ok=true→Jn t.vDefs out∧∀q,q<t.vDefs.length→0<out.getD q 0):=by
 obtain ⟨ok,bg,out,hE,hP,hr⟩:=all_loop hS (by omega) t.vDefs.length 0 true (List.replicate t.vDefs.length false) (List.replicate t.vDefs.length 0) (by omega) (by simp) (by simp)
 obtain ⟨K,hK⟩:=hE.diag
 refine ⟨out,ok,⟨K,fun k hk=>?_⟩,hP.lo,fun hok=>⟨hP.jn hok Jn.zero,fun q hq=>hr hok Jn.zero q (by omega) hq⟩⟩
 show ctf_sizes.f k t=_
 unfold ctf_sizes.f
 rw [if_pos (by omega),if_pos (by omega)]
 simp only [Int.toNat_natCast]
 rw [show ctf_sizes.l0 k t k 0 true _ _=_ from hK k hk]
 rfl
def placedAt (l:List Int):Int→List api_Field→Option Int
 |at_,[]=>some at_
 |at_,f::r=>if ((decide (f.vAt<at_))||(decide (f.vAt>512)))=true then none else placedAt l (IntKind.wrap .i64 (f.vAt+rd 0 l f.vType)) r
def placedS (d:api_Def) (l:List Int):Bool:=match placedAt l 0 d.vFields with|none=>false|some e=>decide (e≤d.vN)
theorem placed_loop {d:api_Def} {l:List Int} (hl:d.vFields.length≤9223372036854775807) (ht:∀f∈d.vFields,0≤f.vType∧f.vType<l.length):∀(e j m:Nat) (at_:Int),j+e=d.vFields.length→e<m→
    ctf_placed.l0 d l m at_ (j:Int)=some (match placedAt l at_ (d.vFields.drop j) with|none=> .inl false|some a=> .inr a):=by
  intro e
  induction e with
  | zero =>
    intro j m at_ hj hm
    obtain ⟨m,rfl⟩:∃q,m=q+1:=⟨m-1,by omega⟩
    rw [ctf_placed.l0,if_neg (by simp;omega),List.drop_eq_nil_of_le (by omega)]
    rfl
  | succ e ih =>
    intro j m at_ hj hm
    obtain ⟨m,rfl⟩:∃q,m=q+1:=⟨m-1,by omega⟩
    have hlt:j<d.vFields.length:=by omega
    have hf:=ht _ (getD_mem (z:=z_api_Field) hlt)
    rw [ctf_placed.l0,if_pos (by simp;omega),if_pos (by omega),rd_nat,drop_getD z_api_Field hlt]
    simp only [placedAt]
    by_cases hc:((decide ((d.vFields.getD j z_api_Field).vAt<at_))||(decide ((d.vFields.getD j z_api_Field).vAt>512)))=true
    · rw [if_pos hc,if_pos hc]
    · rw [if_neg hc,if_neg hc,if_pos hf,wrap_nat hlt hl,ih (j+1) m _ (by omega) (by omega)]
theorem placed_ev {d:api_Def} {l:List Int} (hl:d.vFields.length≤9223372036854775807) (ht:∀f∈d.vFields,0≤f.vType∧f.vType<l.length):Ev (fun k=>ctf_placed.f k d l) (placedS d l):=by
 refine ⟨d.vFields.length+1,fun k hk=>?_⟩
 show ctf_placed.f k d l=_
 unfold ctf_placed.f placedS
 rw [show ctf_placed.l0 d l k 0 0=_ from placed_loop hl ht d.vFields.length 0 k 0 (by omega) (by omega),List.drop_zero]
 cases placedAt l 0 d.vFields<;>rfl
def namedS (d:api_Def):Bool:=(d.vKind !=2)&&(d.vKind !=3)
def lostS (defs:List api_Def):Nat→api_Def→Bool
 |0,d=> !namedS d
 |m+1,d=>if namedS d=true then false else lostS defs m (rd z_api_Def defs d.vRef)
theorem ends_loop {t : api_Types} (hS : ∀ d ∈ t.vDefs, ShD d t.vDefs.length) (hn : t.vDefs.length ≤ 9223372036854775807) : ∀ (e j m : Nat) (d : api_Def), d ∈ t.vDefs → j + e = t.vDefs.length → e < m →
    ((ctf_ends_1.l0 t m (j:Int) d.vKind d.vName d.vInt.vSize d.vInt.vSigned d.vRef d.vN d.vFields).bind fun xx1=>(match xx1 with| .inl r=>some r| .inr s1=>(ctf_named.f (⟨s1.1,s1.2.1,(⟨s1.2.2.1,s1.2.2.2.1⟩:api_Int),s1.2.2.2.2.1,s1.2.2.2.2.2.1,s1.2.2.2.2.2.2⟩:api_Def)).bind fun v2=>(some (!v2))))=some (lostS t.vDefs e d):=by
  intro e
  induction e with
  | zero =>
    intro j m d hd hj hm
    obtain ⟨m,rfl⟩:∃q,m=q+1:=⟨m-1,by omega⟩
    rw [ctf_ends_1.l0,if_neg (by simp;omega)]
    rfl
  | succ e ih =>
    intro j m d hd hj hm
    obtain ⟨m,rfl⟩:∃q,m=q+1:=⟨m-1,by omega⟩
    rw [ctf_ends_1.l0,if_pos (by simp;omega)]
    simp only [ctf_named.f,Option.bind_some,lostS]
    show (Option.bind (if namedS d=true then _ else _) _)=_
    by_cases hnm:namedS d=true
    · rw [if_pos hnm,if_pos hnm];rfl
    · rw [if_neg hnm,if_neg hnm]
      have hk:d.vKind=2∨d.vKind=3:=by
        unfold namedS at hnm
        by_cases h2:d.vKind=2
        · exact .inl h2
        · by_cases h3:d.vKind=3
          · exact .inr h3
          · exact absurd (by simp [h2,h3]) hnm
      have hr:=(hS d hd).ref (by omega)
      rw [if_pos hr,wrap_nat (show j<t.vDefs.length by omega) hn]
      have:=ih (j+1) m (rd z_api_Def t.vDefs d.vRef) (rd_mem hr.1 hr.2) (by omega) (by omega)
      simp only [ctf_named.f,Option.bind_some] at this
      exact this
theorem ends_ev {t:api_Types} (hS:∀d∈t.vDefs,ShD d t.vDefs.length) (hn:t.vDefs.length≤200):Ev (fun k=>ctf_ends.f k t) (!(t.vDefs.any (lostS t.vDefs t.vDefs.length))):=by
 have h := contains_ev (l := t.vDefs) (p := fun k z0 => ctf_ends_1.f k z0 t) (q := lostS t.vDefs t.vDefs.length) (fun z hz => ⟨t.vDefs.length + 1, fun k hk => by
  show ctf_ends_1.f k z t=_
  unfold ctf_ends_1.f
  exact ends_loop hS (by omega) t.vDefs.length 0 k z hz (by omega) (by omega)⟩) (by omega)
 exact (h.bind (g:=fun k v1=>some (!v1)) (Ev.pure fun _=>rfl)).congr fun k=>rfl
def defsS (n:Nat):List ByteArray→List api_Def→Bool
 |_,[]=>true
 |ns,d::r=>shapedS d (n:Int)&& !(namedS d&&ns.any (strEq d.vName))&&defsS n (d.vName::ns) r
structure FitD (d:api_Def):Prop where
 name:d.vName.size≤9223372036854775807
 len:d.vFields.length≤9223372036854775807
 names:∀f∈d.vFields,f.vName.size≤9223372036854775807
theorem valid_loop {t : api_Types} (hF : ∀ d ∈ t.vDefs, FitD d) (hn : t.vDefs.length ≤ 9223372036854775807) : ∀ (e j : Nat) (m : List (ByteArray × Bool)) (ns : List ByteArray), j + e = t.vDefs.length → SeenOk m ns →
    ∃v,Ev2 (fun k q=>ctf_valid.l0 k t q (j:Int) m) v∧(match v with| .inl b=>b=false∧defsS t.vDefs.length ns (t.vDefs.drop j)=false| .inr _=>defsS t.vDefs.length ns (t.vDefs.drop j)=true):=by
  intro e
  induction e with
  | zero =>
    intro j m ns hj hm
    refine ⟨.inr m,Ev2.pure (fun k q=>?_),?_⟩
    · rw [ctf_valid.l0,if_neg (by simp;omega)]
    · rw [List.drop_eq_nil_of_le (by omega)];rfl
  | succ e ih =>
    intro j m ns hj hm
    have hlt:j<t.vDefs.length:=by omega
    have hmem:=getD_mem (z:=z_api_Def) hlt
    have hFd:=hF _ hmem
    obtain ⟨v,hv,hp⟩:=ih (j+1) (mput strEq m (t.vDefs.getD j z_api_Def).vName true) ((t.vDefs.getD j z_api_Def).vName::ns) (by omega) (hm.put _)
    have hs:=shaped_ev (n:=(t.vDefs.length:Int)) hFd.len hFd.names hFd.name
    rw [drop_getD z_api_Def hlt]
    have hstep:∀k q,ctf_valid.l0 k t (q+1) (j:Int) m=(ctf_shaped.f k (t.vDefs.getD j z_api_Def) (t.vDefs.length:Int)).bind fun v1=>
        if ((!v1)||(namedS (t.vDefs.getD j z_api_Def)&&ns.any (strEq (t.vDefs.getD j z_api_Def).vName)))=true then some (.inl false) else ctf_valid.l0 k t q ((j+1:Nat):Int) (mput strEq m (t.vDefs.getD j z_api_Def).vName true):=by
      intro k q
      rw [ctf_valid.l0,if_pos (by simp;omega),if_pos (by omega),rd_nat,wrap_nat hlt hn,hm]
      congr 1
      funext v1
      simp only [ctf_named.f]
      cases v1 with
      |false=>simp
      |true=>rfl
    simp only [defsS]
    generalize hf:t.vDefs.getD j z_api_Def=d at*
    by_cases hc:(shapedS d (t.vDefs.length:Int)&& !(namedS d&&ns.any (strEq d.vName)))=true
    · refine ⟨v,Ev2.step hs (r:=fun k q v1=>if ((!v1)||(namedS d&&ns.any (strEq d.vName)))=true then some (.inl false) else ctf_valid.l0 k t q ((j+1:Nat):Int) (mput strEq m d.vName true)) ?_ hstep,?_⟩
      · obtain ⟨K,hK⟩:=hv
        refine ⟨K,fun k q hk hq=>?_⟩
        simp only [Bool.and_eq_true,Bool.not_eq_true'] at hc
        show (if _ then _ else _)=_
        rw [hc.1,hc.2]
        simpa using hK k q hk hq
      · rw [hc]
        cases v with
        |inl b=>simpa using hp
        |inr b=>simpa using hp
    · rw [Bool.not_eq_true] at hc
      refine ⟨.inl false,Ev2.step hs (r:=fun k q v1=>if ((!v1)||(namedS d&&ns.any (strEq d.vName)))=true then some (.inl false) else ctf_valid.l0 k t q ((j+1:Nat):Int) (mput strEq m d.vName true)) ⟨0,fun k q _ _=>?_⟩ hstep,rfl,by rw [hc];rfl⟩
      show (if _ then _ else _)=_
      rw [if_pos]
      cases h1:shapedS d (t.vDefs.length:Int) with
      |false=>rfl
      |true=>rw [h1] at hc;simpa using hc
theorem defs_of {n:Nat}:∀(ns:List ByteArray) (l:List api_Def),defsS n ns l=true→∀d∈l,ShD d n
  |_,[],_=>by simp
  | ns, d :: r, h => by
    simp only [defsS,Bool.and_eq_true] at h
    intro x hx
    rcases List.mem_cons.1 hx with rfl|hx
    · exact shaped_of h.1.1
    · exact defs_of _ r h.2 x hx
structure GoodT (t:api_Types) (l:List Int):Prop where
 few:t.vDefs.length≤200
 sh:∀d∈t.vDefs,ShD d t.vDefs.length
 sizes:Ev (fun k=>ctf_sizes.f k t) (l,true)
 len:l.length=t.vDefs.length
 jn:Jn t.vDefs l
 pos:∀q,q<t.vDefs.length→0<l.getD q 0
 ends:∀d∈t.vDefs,lostS t.vDefs t.vDefs.length d=false
 placed:∀d∈t.vDefs,d.vKind=4→placedS d l=true
 defs:defsS t.vDefs.length [] t.vDefs=true
theorem valid_ev {t : api_Types} (hF : ∀ d ∈ t.vDefs, FitD d) : ∃ b, Ev (fun k => ctf_valid.f k t) b ∧ (b = true → ∃ l, GoodT t l) := by
  by_cases hn:(t.vDefs.length:Int)>200
  · refine ⟨false,Ev.pure (fun k=>?_),fun h=>by cases h⟩
    unfold ctf_valid.f
    rw [if_pos (by simpa using hn)]
  · have hn : t.vDefs.length ≤ 200 := by omega
    have hcond:¬decide ((t.vDefs.length:Int)>200)=true:=by simp;omega
    obtain ⟨v,hv,hp⟩:=valid_loop hF (by omega) t.vDefs.length 0 [] [] (by omega) SeenOk.nil
    rw [List.drop_zero] at hp
    cases v with
    | inl b =>
      simp only at hp
      obtain ⟨rfl,hp⟩:=hp
      obtain ⟨K,hK⟩:=hv.diag
      refine ⟨false,⟨K,fun k hk=>?_⟩,fun h=>by cases h⟩
      show ctf_valid.f k t=_
      unfold ctf_valid.f
      rw [if_neg hcond,show ctf_valid.l0 k t k 0 []=_ from hK k hk]
      rfl
    | inr m =>
      simp only at hp
      have hS:=defs_of _ _ hp
      obtain ⟨out,ok,hsz,hlen,hok⟩:=sizes_ev hS hn
      obtain ⟨K,hK⟩:=hv.diag
      obtain ⟨K2,hK2⟩:=hsz
      cases ok with
      | false =>
        refine ⟨false,⟨max K K2,fun k hk=>?_⟩,fun h=>by cases h⟩
        show ctf_valid.f k t=_
        unfold ctf_valid.f
        rw [if_neg hcond,show ctf_valid.l0 k t k 0 []=_ from hK k (by omega)]
        simp only [Option.bind_some]
        rw [show ctf_sizes.f k t=_ from hK2 k (by omega)]
        simp
      | true =>
        obtain ⟨hJ,hpos⟩:=hok rfl
        obtain ⟨K3,hK3⟩:=ends_ev hS hn
        obtain ⟨K4, hK4⟩ := contains_ev (l := t.vDefs) (p := fun k z0 => ctf_valid_1.f k z0 out) (q := fun d => (d.vKind == 4) && !(placedS d out)) (fun d hd => by
          by_cases h4:d.vKind=4
          · have:=placed_ev (d:=d) (l:=out) (hF d hd).len (fun f hf=>by have:=(hS d hd).typ h4 f hf;rw [hlen];exact this)
            exact (this.bind (g:=fun k v1=>some ((d.vKind==4)&&(!v1))) (Ev.pure fun _=>rfl)).congr fun k=>by
              unfold ctf_valid_1.f
              rw [if_pos (by simp [h4])]
          · refine Ev.pure fun k=>?_
            unfold ctf_valid_1.f
            rw [if_neg (by simp [h4])]
            simp [h4]) (by omega)
        cases he:t.vDefs.any (lostS t.vDefs t.vDefs.length) with
        | true =>
          refine ⟨false,⟨max (max K K2) K3,fun k hk=>?_⟩,fun h=>by cases h⟩
          show ctf_valid.f k t=_
          unfold ctf_valid.f
          rw [if_neg hcond,show ctf_valid.l0 k t k 0 []=_ from hK k (by omega)]
          simp only [Option.bind_some]
          rw [show ctf_sizes.f k t=_ from hK2 k (by omega)]
          simp only [Option.bind_some]
          rw [show ctf_ends.f k t=_ from hK3 k (by omega),he]
          simp
        | false =>
          refine ⟨!(t.vDefs.any fun d=>(d.vKind==4)&& !(placedS d out)),⟨max (max K K2) (max K3 K4),fun k hk=>?_⟩,fun h=>⟨out,hn,hS,⟨K2,hK2⟩,hlen,hJ,hpos,fun d hd=>?_,fun d hd h4=>?_,hp⟩⟩
          · show ctf_valid.f k t=_
            unfold ctf_valid.f
            rw [if_neg hcond,show ctf_valid.l0 k t k 0 []=_ from hK k (by omega)]
            simp only [Option.bind_some]
            rw [show ctf_sizes.f k t=_ from hK2 k (by omega)]
            simp only [Option.bind_some]
            rw [show ctf_ends.f k t=_ from hK3 k (by omega),he]
            simp only [Bool.not_true,Bool.not_false,beq_self_eq_true,Bool.and_self,if_true,Option.bind_some,Bool.or_self,Bool.false_eq_true,if_false]
            rw [show slices_ContainsFunc_api_Def_api_Def.f k t.vDefs _=_ from hK4 k (by omega)]
            rfl
          · have:=List.any_eq_false.1 he d hd
            simpa using this
          · simp only [Bool.not_eq_true'] at h
            have:=List.any_eq_false.1 h d hd
            simpa [h4] using this
theorem beqT {x y:Int} (h:x=y):(x==y)=true:=beq_iff_eq.2 h
theorem beqF {x y:Int} (h:x≠y):¬(x==y)=true:=fun e=>h (beq_iff_eq.1 e)
theorem bneT {x y:Int} (h:x≠y):(x !=y)=true:=by simpa using h
theorem bneF {x y:Int} (h:x=y):¬(x !=y)=true:=by simp [h]
theorem decT {p:Prop} [Decidable p] (h:p):decide p=true:=decide_eq_true h
theorem decF {p:Prop} [Decidable p] (h:¬p):¬decide p=true:=fun e=>h (of_decide_eq_true e)
section
variable {t:api_Types} {l:List Int}
theorem cont_alias {d:api_Def} (h:d.vKind=6):cont d=[d.vRef]:=by
 unfold cont
 rw [if_pos (by simp [h])]
theorem resolved_ev (G : GoodT t l) : ∀ i, i < t.vDefs.length → ∃ r, r < t.vDefs.length ∧ Ev (fun k => ctf_resolved.f k t (i : Int)) (r : Int) ∧ (t.vDefs.getD r z_api_Def).vKind ≠ 6 ∧ l.getD r 0 = l.getD i 0 := by
  obtain ⟨rk,B,hB⟩:=G.jn
  suffices h:∀(c i:Nat),rk i=c→i<t.vDefs.length→∃r,r<t.vDefs.length∧(∃K,∀m,K≤m→ctf_resolved.l0 t m (i:Int)=some (r:Int))∧(t.vDefs.getD r z_api_Def).vKind≠6∧l.getD r 0=l.getD i 0 by
    intro i hi
    obtain ⟨r,h1,⟨K,hK⟩,h3,h4⟩:=h _ i rfl hi
    refine ⟨r,h1,⟨K,fun k hk=>?_⟩,h3,h4⟩
    show ctf_resolved.f k t (i:Int)=_
    unfold ctf_resolved.f
    rw [hK k hk]
    rfl
  intro c
  induction c using Nat.strongRecOn with
  | _ c ih =>
    intro i hc hi
    by_cases h6:(t.vDefs.getD i z_api_Def).vKind=6
    · have hd:=G.sh _ (getD_mem (z:=z_api_Def) hi)
      obtain ⟨h7,h8,h9,h10⟩:=hB i hi (G.pos i hi)
      rw [cont_alias h6] at h9
      have hr:=hd.ref (.inr (.inr h6))
      obtain ⟨h11,h12⟩:=h9 _ (List.mem_singleton.2 rfl)
      obtain ⟨r,h1,⟨K,hK⟩,h3,h4⟩:=ih _ (by rw [←hc];exact h12) (t.vDefs.getD i z_api_Def).vRef.toNat rfl (by omega)
      refine ⟨r,h1,⟨K+1,fun m hm=>?_⟩,h3,?_⟩
      · obtain ⟨m,rfl⟩:∃q,m=q+1:=⟨m-1,by omega⟩
        rw [ctf_resolved.l0,if_pos (by omega),rd_nat,if_pos (beqT h6)]
        rw [if_pos (by omega)]
        have:=hK m (by omega)
        rwa [show (((t.vDefs.getD i z_api_Def).vRef.toNat:Nat):Int)=(t.vDefs.getD i z_api_Def).vRef by omega] at this
      · rw [h4,h10]
        unfold nval inner
        rw [cont_alias h6,if_neg (by omega),if_neg (by omega),if_neg (by omega),if_neg (by omega),if_neg (by omega),if_pos h6]
        rfl
    · refine ⟨i,hi,⟨1,fun m hm=>?_⟩,h6,rfl⟩
      obtain ⟨m,rfl⟩:∃q,m=q+1:=⟨m-1,by omega⟩
      rw [ctf_resolved.l0,if_pos (by omega),rd_nat,if_neg (beqF h6)]
def memS (d:api_Def) (name:ByteArray):api_Field×Int:=
 if d.vKind≠4 then (⟨ByteArray.empty,0,0⟩,5) else match d.vFields.find? fun f=>strEq f.vName name with|some f=>(f,0)|none=>(⟨ByteArray.empty,0,0⟩,3)
theorem member_loop {name:ByteArray} {r:Nat} (hl:(t.vDefs.getD r z_api_Def).vFields.length≤9223372036854775807):∀(e j m:Nat),j+e=(t.vDefs.getD r z_api_Def).vFields.length→e<m→
    ctf_member.l0 t name (r:Int) m (j:Int)=some (match ((t.vDefs.getD r z_api_Def).vFields.drop j).find? fun f=>strEq f.vName name with|some f=> .inl (f,0)|none=> .inr ()):=by
  intro e
  induction e with
  | zero =>
    intro j m hj hm
    obtain ⟨m,rfl⟩:∃q,m=q+1:=⟨m-1,by omega⟩
    rw [ctf_member.l0,rd_nat,if_neg (decF (by omega)),List.drop_eq_nil_of_le (by omega)]
    rfl
  | succ e ih =>
    intro j m hj hm
    obtain ⟨m,rfl⟩:∃q,m=q+1:=⟨m-1,by omega⟩
    have hlt:j<(t.vDefs.getD r z_api_Def).vFields.length:=by omega
    rw [ctf_member.l0,rd_nat,if_pos (decT (by omega)),if_pos (by omega),rd_nat,drop_getD z_api_Field hlt,List.find?_cons]
    cases hb:strEq ((t.vDefs.getD r z_api_Def).vFields.getD j z_api_Field).vName name with
    |true=>rw [if_pos rfl]
    |false=>rw [if_neg (by simp),wrap_nat hlt hl];exact ih (j+1) m (by omega) (by omega)
theorem member_ev {i r:Nat} {name:ByteArray} (G:GoodT t l) (hr:r<t.vDefs.length) (he:Ev (fun k=>ctf_resolved.f k t (i:Int)) (r:Int)):Ev (fun k=>ctf_member.f k t (i:Int) name) (memS (t.vDefs.getD r z_api_Def) name):=by
 have hd:=G.sh _ (getD_mem (z:=z_api_Def) hr)
 obtain ⟨K,hK⟩:=he
 refine ⟨max K ((t.vDefs.getD r z_api_Def).vFields.length+1),fun k hk=>?_⟩
 show ctf_member.f k t (i:Int) name=_
 unfold ctf_member.f memS
 rw [show ctf_resolved.f k t (i:Int)=_ from hK k (by omega)]
 simp only [Option.bind_some]
 rw [if_pos (by omega),rd_nat]
 by_cases h4:(t.vDefs.getD r z_api_Def).vKind=4
 ·rw [if_neg (bneF h4),if_neg (fun h=>h h4),show ctf_member.l0 t name (r:Int) k 0=_ from member_loop (by have:=hd.few;omega) _ 0 k (Nat.zero_add _) (by omega),List.drop_zero]
  cases (t.vDefs.getD r z_api_Def).vFields.find? fun f=>strEq f.vName name<;>rfl
 ·rw [if_pos (bneT h4),if_pos h4]
theorem given_good (hv:Ev (fun k=>ctf_valid.f k t) true) (i:Int):Ev (fun k=>ctf_given.f k t i) (if 0≤i∧i<t.vDefs.length then 0 else 3):=by
 obtain ⟨K,hK⟩:=hv
 refine ⟨K,fun k hk=>?_⟩
 show ctf_given.f k t i=_
 unfold ctf_given.f
 rw [show ctf_valid.f k t=_ from hK k hk]
 simp only [Option.bind_some,Bool.not_true,Bool.false_eq_true,if_false]
 by_cases h:0≤i∧i<t.vDefs.length
 ·rw [if_pos h,if_neg (by simp;omega)]
 ·rw [if_neg h,if_pos (by simp;omega)]
theorem given_bad (hv:Ev (fun k=>ctf_valid.f k t) false) (i:Int):Ev (fun k=>ctf_given.f k t i) 80:=by
 obtain ⟨K,hK⟩:=hv
 refine ⟨K,fun k hk=>?_⟩
 show ctf_given.f k t i=_
 unfold ctf_given.f
 rw [show ctf_valid.f k t=_ from hK k hk]
 rfl
theorem Size_err {i e:Int} (h:Ev (fun k=>ctf_given.f k t i) e) (he:e≠0):Ev (fun k=>ctf_Size.f k t i) (0,e):=by
 obtain ⟨K,hK⟩:=h
 refine ⟨K,fun k hk=>?_⟩
 show ctf_Size.f k t i=_
 unfold ctf_Size.f
 rw [show ctf_given.f k t i=_ from hK k hk]
 simp [he]
theorem given_in (hv:Ev (fun k=>ctf_valid.f k t) true) {i:Nat} (hi:i<t.vDefs.length):Ev (fun k=>ctf_given.f k t (i:Int)) 0:=by
 have:=given_good hv (i:Int)
 rwa [if_pos (by omega)] at this
theorem Size_ev (G:GoodT t l) (hv:Ev (fun k=>ctf_valid.f k t) true) {i:Nat} (hi:i<t.vDefs.length):Ev (fun k=>ctf_Size.f k t (i:Int)) (l.getD i 0,0):=by
 obtain ⟨K,hK⟩:=given_in hv hi
 obtain ⟨K2,hK2⟩:=G.sizes
 refine ⟨max K K2,fun k hk=>?_⟩
 show ctf_Size.f k t _=_
 unfold ctf_Size.f
 rw [show ctf_given.f k t (i:Int)=_ from hK k (by omega)]
 simp only [Option.bind_some]
 rw [if_neg (by simp),show ctf_sizes.f k t=_ from hK2 k (by omega)]
 simp only [Option.bind_some]
 rw [if_pos (by rw [G.len];omega),rd_nat]
theorem Resolve_ev {r:Nat} (hv:Ev (fun k=>ctf_valid.f k t) true) {i:Nat} (hi:i<t.vDefs.length) (hr:Ev (fun k=>ctf_resolved.f k t (i:Int)) (r:Int)):Ev (fun k=>ctf_Resolve.f k t (i:Int)) ((r:Int),0):=by
 obtain ⟨K,hK⟩:=given_in hv hi
 obtain ⟨K2,hK2⟩:=hr
 refine ⟨max K K2,fun k hk=>?_⟩
 show ctf_Resolve.f k t _=_
 unfold ctf_Resolve.f
 rw [show ctf_given.f k t (i:Int)=_ from hK k (by omega)]
 simp only [Option.bind_some]
 rw [if_neg (by simp),show ctf_resolved.f k t _=_ from hK2 k (by omega)]
 rfl
def pathV (mem:Nat→ByteArray→api_Field×Int):List ByteArray→Nat→Int→Int×Int×Int
 |[],i,a=>((i:Int),a,0)
 |n::r,i,a=>if (mem i n).2≠0 then (0,0,(mem i n).2) else pathV mem r (mem i n).1.vType.toNat (IntKind.wrap .i64 (a+(mem i n).1.vAt))
structure MemOk (t:api_Types) (mem:Nat→ByteArray→api_Field×Int):Prop where
 ev:∀i name,i<t.vDefs.length→Ev (fun k=>ctf_member.f k t (i:Int) name) (mem i name)
 typ:∀i name,i<t.vDefs.length→(mem i name).2=0→0≤(mem i name).1.vType∧(mem i name).1.vType<t.vDefs.length
theorem mem_ok (G : GoodT t l) : ∃ mem, MemOk t mem := by
  have key:∀(i:Nat) (name:ByteArray),∃v:api_Field×Int,i<t.vDefs.length→Ev (fun k=>ctf_member.f k t (i:Int) name) v∧(v.2=0→0≤v.1.vType∧v.1.vType<t.vDefs.length):=by
    intro i name
    by_cases hi:i<t.vDefs.length
    · obtain ⟨r,h1,h2,h3,h4⟩:=resolved_ev G i hi
      refine ⟨_,fun _=>⟨member_ev G h1 h2,?_⟩⟩
      unfold memS
      by_cases hk:(t.vDefs.getD r z_api_Def).vKind=4
      · rw [if_neg (fun h=>h hk)]
        cases hf:(t.vDefs.getD r z_api_Def).vFields.find? fun f=>strEq f.vName name with
        |none=>intro h;cases h
        |some f=>intro _;exact (G.sh _ (getD_mem h1)).typ hk f (List.mem_of_find?_eq_some hf)
      · rw [if_pos hk];intro h;cases h
    · exact ⟨(⟨ByteArray.empty,0,0⟩,0),fun h=>absurd h hi⟩
  refine ⟨fun i name=>Classical.choose (key i name),fun i name hi=>(Classical.choose_spec (key i name) hi).1,fun i name hi=>(Classical.choose_spec (key i name) hi).2⟩
theorem path_loop {mem:Nat→ByteArray→api_Field×Int} (hm:MemOk t mem) {p:List ByteArray} (hp:p.length≤9223372036854775807):∀(e j i:Nat) (a:Int),j+e=p.length→i<t.vDefs.length→
    Ev2 (fun k m=>ctf_Path.l0 k t p m (i:Int) a (j:Int)) (if (pathV mem (p.drop j) i a).2.2≠0 then .inl (pathV mem (p.drop j) i a) else .inr ((pathV mem (p.drop j) i a).1,(pathV mem (p.drop j) i a).2.1))∧
      ((pathV mem (p.drop j) i a).2.2=0→0≤(pathV mem (p.drop j) i a).1∧(pathV mem (p.drop j) i a).1<t.vDefs.length):=by
  intro e
  induction e with
  | zero =>
    intro j i a hj hi
    rw [List.drop_eq_nil_of_le (by omega)]
    refine ⟨Ev2.pure fun k m=>?_,fun _=>?_⟩
    · rw [ctf_Path.l0,if_neg (by simp;omega)]
      simp [pathV]
    · simp only [pathV];omega
  | succ e ih =>
    intro j i a hj hi
    have hlt:j<p.length:=by omega
    rw [drop_getD ByteArray.empty hlt]
    have hev:=hm.ev i (p.getD j ByteArray.empty) hi
    have hty:=hm.typ i (p.getD j ByteArray.empty) hi
    have hstep:∀k m,ctf_Path.l0 k t p (m+1) (i:Int) a (j:Int)=(ctf_member.f k t (i:Int) (p.getD j ByteArray.empty)).bind fun v2=>if (v2.2 !=0)=true then some (.inl (0,0,v2.2)) else ctf_Path.l0 k t p m v2.1.vType (IntKind.wrap .i64 (a+v2.1.vAt)) (((j+1:Nat)):Int):=by
      intro k m
      rw [ctf_Path.l0,if_pos (by simp;omega),if_pos (by omega),rd_nat,wrap_nat hlt hp]
    have hpv:pathV mem (p.getD j ByteArray.empty::p.drop (j+1)) i a=if (mem i (p.getD j ByteArray.empty)).2≠0 then (0,0,(mem i (p.getD j ByteArray.empty)).2) else pathV mem (p.drop (j+1)) (mem i (p.getD j ByteArray.empty)).1.vType.toNat (IntKind.wrap .i64 (a+(mem i (p.getD j ByteArray.empty)).1.vAt)):=rfl
    by_cases h0:(mem i (p.getD j ByteArray.empty)).2=0
    · obtain ⟨h1,h2⟩:=hty h0
      obtain ⟨h3,h4⟩:=ih (j+1) (mem i (p.getD j ByteArray.empty)).1.vType.toNat (IntKind.wrap .i64 (a+(mem i (p.getD j ByteArray.empty)).1.vAt)) (by omega) (by omega)
      rw [if_neg (fun h=>h h0)] at hpv
      rw [hpv]
      refine ⟨Ev2.step hev ?_ hstep,h4⟩
      obtain ⟨K,hK⟩:=h3
      refine ⟨K,fun k m hk hm=>?_⟩
      show (if _ then _ else _)=_
      rw [if_neg (bneF h0)]
      have:=hK k m hk hm
      rwa [show (((mem i (p.getD j ByteArray.empty)).1.vType.toNat:Nat):Int)=(mem i (p.getD j ByteArray.empty)).1.vType by omega] at this
    · rw [if_pos h0] at hpv
      rw [hpv]
      refine ⟨Ev2.step hev ⟨0,fun k m _ _=>?_⟩ hstep,fun h=>absurd h h0⟩
      show (if _ then _ else _)=_
      rw [if_pos (bneT h0),if_pos h0]
theorem Path_ev {mem:Nat→ByteArray→api_Field×Int} (hm:MemOk t mem) (hv:Ev (fun k=>ctf_valid.f k t) true) {i:Nat} (hi:i<t.vDefs.length) {p:List ByteArray} (hp:p.length≤16):
  Ev (fun k=>ctf_Path.f k t (i:Int) p) (pathV mem p i 0)∧((pathV mem p i 0).2.2=0→0≤(pathV mem p i 0).1∧(pathV mem p i 0).1<t.vDefs.length):=by
 obtain ⟨h1,h2⟩:=path_loop hm (p:=p) (by omega) p.length 0 i 0 (by omega) hi
 rw [List.drop_zero] at h1 h2
 refine ⟨?_,h2⟩
 obtain ⟨K,hK⟩:=given_in hv hi
 obtain ⟨K2,hK2⟩:=h1.diag
 refine ⟨max K K2,fun k hk=>?_⟩
 show ctf_Path.f k t _ _=_
 unfold ctf_Path.f
 rw [show ctf_given.f k t (i:Int)=_ from hK k (by omega)]
 simp only [Option.bind_some]
 rw [if_neg (by simp),if_neg (by simp;omega),show ctf_Path.l0 k t p k (i:Int) 0 0=_ from hK2 k (by omega)]
 simp only [Option.bind_some]
 generalize pathV mem p i 0=v
 by_cases h0:v.2.2=0
 ·rw [if_neg (by simp [h0])]
  obtain ⟨a,b,c⟩:=v
  simp only at h0
  subst h0
  rfl
 ·rw [if_pos h0]
end
theorem byteAt_rd (s:ByteArray) (i:Int):byteAt s i=rd 0 (bytesOf s) i:=by
 unfold byteAt rd bytesOf
 rw [List.getD_eq_getElem?_getD,List.getD_eq_getElem?_getD,List.getElem?_map]
 cases s.data.toList[i.toNat]?<;>rfl
theorem rname_loop {s:ByteArray} (hl:s.size≤9223372036854775807):∀(d j m:Nat),j+d=s.size→d<m→
    taplineref08_Name.l0 s m (j:Int)=some (if okFrom j ((bytesOf s).drop j)=true then .inr () else .inl false):=by
  have hb:=bytesOf_length s
  intro d
  induction d with
  | zero =>
    intro j m hj hm
    obtain ⟨m,rfl⟩:∃q,m=q+1:=⟨m-1,by omega⟩
    rw [taplineref08_Name.l0,if_neg (by simp;omega),List.drop_eq_nil_of_le (by omega)]
    rfl
  | succ d ih =>
    intro j m hj hm
    obtain ⟨m,rfl⟩:∃q,m=q+1:=⟨m-1,by omega⟩
    have hlt:j<s.size:=by omega
    have h1:=name_loop (s:=s) (by omega) (d+1) j (m+1) (by omega) (by omega)
    rw [ctf_isName.l0,if_pos (by simp;omega),if_pos (by omega)] at h1
    rw [taplineref08_Name.l0,if_pos (by simp;omega),if_pos (by omega),byteAt_rd]
    rw [←h1]
    split
    · rfl
    · rw [wrap_nat hlt hl,ih (j+1) m (by omega) (by omega),name_loop (by omega) d (j+1) m (by omega) (by omega)]
theorem empty_iff (s:ByteArray):strEq s ByteArray.empty=decide (s.size=0):=by
 by_cases h:s.size=0
 ·have:s=ByteArray.empty:=by
   cases s with|mk d=>
   have:d=#[]:=Array.size_eq_zero_iff.1 h
   subst this;rfl
  rw [decide_eq_true h];exact strEq_iff.2 this
 ·rw [decide_eq_false h]
  cases hs:strEq s ByteArray.empty with
  |false=>rfl
  |true=>exact absurd (by rw [strEq_iff.1 hs];rfl) h
theorem rname_ev {s:ByteArray} (hs:s.size≤9223372036854775807):Ev (fun k=>taplineref08_Name.f k s) (nameS s):=by
 refine ⟨s.size+1,fun k hk=>?_⟩
 show taplineref08_Name.f k s=_
 unfold taplineref08_Name.f nameS
 rw [empty_iff]
 by_cases h0:s.size=0
 ·rw [if_pos (by simp [h0])];simp [h0]
 ·by_cases h1:(s.size:Int)≤31
  ·rw [if_neg (by simp only [Bool.or_eq_true,beq_iff_eq,decide_eq_true_eq];omega),show (0:Int)=((0:Nat):Int) from rfl,rname_loop hs s.size 0 k (by omega) (by omega),List.drop_zero]
   cases okFrom 0 (bytesOf s)<;>simp [h0,h1]
  ·rw [if_pos (by simp only [Bool.or_eq_true,beq_iff_eq,decide_eq_true_eq];omega)];simp [h1]
def namesS:List ByteArray→List api_Field→Bool
 |_,[]=>true
 |ns,f::r=>nameS f.vName&& !(ns.any (strEq f.vName))&&namesS (f.vName::ns) r
theorem fieldsS_eq (d:api_Def) (n:Int):∀(l:List api_Field) (ns:List ByteArray),fieldsS d n ns l=(namesS ns l&&l.all (fieldOk d n))
  |[],ns=>rfl
  | f :: r, ns => by
    simp only [fieldsS,namesS,fieldsS_eq d n r,List.all_cons]
    cases nameS f.vName<;>cases (ns.any (strEq f.vName))<;>cases (fieldOk d n f)<;>cases (namesS (f.vName::ns) r)<;>rfl
theorem seen_loop {l:List api_Field} (hl:l.length≤9223372036854775807) {i:Nat} (hi:i<l.length):∀(e j m:Nat),j+e=i→e<m→
    taplineref08_fields.l1 l (i:Int) m (j:Int)=some (if (((l.take i).drop j).any fun f=>strEq f.vName (l.getD i z_api_Field).vName)=true then .inl false else .inr ()):=by
  intro e
  induction e with
  | zero =>
    intro j m hj hm
    obtain ⟨m,rfl⟩:∃q,m=q+1:=⟨m-1,by omega⟩
    rw [taplineref08_fields.l1,if_neg (by simp;omega),List.drop_eq_nil_of_le (by simp;omega)]
    rfl
  | succ e ih =>
    intro j m hj hm
    obtain ⟨m,rfl⟩:∃q,m=q+1:=⟨m-1,by omega⟩
    have hlt:j<l.length:=by omega
    have hd:(l.take i).drop j=l.getD j z_api_Field::(l.take i).drop (j+1):=by
      rw [drop_getD z_api_Field (by simp;omega)]
      congr 1
      rw [List.getD_eq_getElem?_getD,List.getD_eq_getElem?_getD,List.getElem?_take,if_pos (by omega)]
    rw [taplineref08_fields.l1,if_pos (by simp;omega),if_pos (by omega),if_pos (by omega),rd_nat,rd_nat,hd,List.any_cons]
    by_cases h:strEq (l.getD j z_api_Field).vName (l.getD i z_api_Field).vName=true
    · rw [if_pos h,h];rfl
    · rw [if_neg h,wrap_nat hlt hl,ih (j+1) m (by omega) (by omega)]
      rw [Bool.not_eq_true] at h
      rw [h,Bool.false_or]
theorem any_rev (l:List api_Field) (s:ByteArray):((l.map (·.vName)).reverse.any (strEq s))=l.any fun f=>strEq f.vName s:=by
 rw [List.any_reverse,List.any_map]
 congr 1
 funext f
 exact strEq_comm _ _
theorem fields_loop {l : List api_Field} (hl : l.length ≤ 9223372036854775807) (hz : ∀ f ∈ l, f.vName.size ≤ 9223372036854775807) : ∀ (e j : Nat), j + e = l.length →
    Ev2 (fun k m=>taplineref08_fields.l0 k l m (j:Int)) (if namesS ((l.take j).map (·.vName)).reverse (l.drop j)=true then .inr () else .inl false):=by
  intro e
  induction e with
  | zero =>
    intro j hj
    refine Ev2.pure fun k m=>?_
    rw [taplineref08_fields.l0,if_neg (by simp;omega),List.drop_eq_nil_of_le (by omega)]
    rfl
  | succ e ih =>
    intro j hj
    have hlt:j<l.length:=by omega
    have hmem:=getD_mem (z:=z_api_Field) hlt
    have h1:=rname_ev (hz _ hmem)
    have h2:=ih (j+1) (by omega)
    have ht:((l.take (j+1)).map (·.vName)).reverse=(l.getD j z_api_Field).vName::((l.take j).map (·.vName)).reverse:=by
      rw [List.take_add_one,List.map_append,List.reverse_append]
      rw [List.getD_eq_getElem?_getD,List.getElem?_eq_getElem hlt]
      rfl
    rw [ht] at h2
    rw [drop_getD z_api_Field hlt,namesS]
    refine Ev2.step h1 (r:=fun k m v1=>if (!v1)=true then (some (.inl false)) else ((taplineref08_fields.l1 l (j:Int) k 0).bind fun xx2=>(match xx2 with| .inl r=>some (.inl r)| .inr s1=>taplineref08_fields.l0 k l m ((j+1:Nat):Int)))) ?_ (fun k m=>?_)
    · rcases Bool.eq_false_or_eq_true (nameS (l.getD j z_api_Field).vName) with hn|hn
      · obtain ⟨K,hK⟩:=h2
        rw [hn]
        refine ⟨max K (j+1),fun k m hk hm=>?_⟩
        have h3:=seen_loop hl hlt j 0 k (by omega) (by omega)
        rw [List.drop_zero] at h3
        simp only [Bool.not_true,Bool.false_eq_true,if_false,Bool.true_and]
        rw [show taplineref08_fields.l1 l (j:Int) k 0=_ from h3,any_rev]
        cases ha:(l.take j).any fun f=>strEq f.vName (l.getD j z_api_Field).vName with
        |true=>simp
        |false=>simpa using hK k m (by omega) (by omega)
      · exact ⟨0,fun k m _ _=>by rw [hn];rfl⟩
    · rw [taplineref08_fields.l0,if_pos (by simp;omega),if_pos (by omega),rd_nat,wrap_nat hlt hl]
      try rfl
theorem fields_ev {l:List api_Field} (hl:l.length≤9223372036854775807) (hz:∀f∈l,f.vName.size≤9223372036854775807):
  Ev (fun k=>taplineref08_fields.f k l) (decide (0<l.length)&&decide (l.length≤32)&&namesS [] l):=by
 by_cases h:l.length=0∨32<l.length
 ·refine Ev.pure fun k=>?_
  unfold taplineref08_fields.f
  rw [if_pos (by simp only [Bool.or_eq_true,beq_iff_eq,decide_eq_true_eq];omega)]
  rcases h with h|h
  ·simp [h]
  ·rw [decide_eq_false (p:=l.length≤32) (by omega)];simp
 ·obtain ⟨K,hK⟩:=(fields_loop hl hz l.length 0 (by omega)).diag
  refine ⟨K,fun k hk=>?_⟩
  show taplineref08_fields.f k l=_
  unfold taplineref08_fields.f
  rw [if_neg (by simp only [Bool.or_eq_true,beq_iff_eq,decide_eq_true_eq];omega),show taplineref08_fields.l0 k l k 0=_ from hK k hk,decide_eq_true (p:=0<l.length) (by omega),decide_eq_true (p:=l.length≤32) (by omega)]
  simp only [List.take_zero,List.map_nil,List.reverse_nil,List.drop_zero]
  cases namesS [] l<;>rfl
theorem rshaped_loop {t : api_Types} {d : api_Def} (hl : d.vFields.length ≤ 9223372036854775807) : ∀ (e j m : Nat), j + e = d.vFields.length → e < m →
    taplineref08_shaped.l0 t d m (j:Int)=some (if (d.vFields.drop j).all (fieldOk d (t.vDefs.length:Int))=true then .inr () else .inl false):=by
  intro e
  induction e with
  | zero =>
    intro j m hj hm
    obtain ⟨m,rfl⟩:∃q,m=q+1:=⟨m-1,by omega⟩
    rw [taplineref08_shaped.l0,if_neg (by simp;omega),List.drop_eq_nil_of_le (by omega)]
    rfl
  | succ e ih =>
    intro j m hj hm
    obtain ⟨m,rfl⟩:∃q,m=q+1:=⟨m-1,by omega⟩
    have hlt:j<d.vFields.length:=by omega
    rw [taplineref08_shaped.l0,if_pos (by simp;omega),if_pos (by omega),rd_nat,drop_getD z_api_Field hlt,wrap_nat hlt hl,ih (j+1) m (by omega) (by omega),List.all_cons]
    generalize d.vFields.getD j z_api_Field=f
    unfold fieldOk taplineref08_Index.f
    by_cases h4:d.vKind=4
    · have h5:(d.vKind==5)=false:=by simp [h4]
      by_cases ha:f.vType<0
      · simp [h4,h5,ha]
        intro h;omega
      · by_cases hb:f.vType<(t.vDefs.length:Int)
        · have h0:(0:Int)≤f.vType:=by omega
          have h1:¬((t.vDefs.length:Int)≤f.vType):=by omega
          simp [h4,h5,ha,hb,h0,h1]
        · have h1:(t.vDefs.length:Int)≤f.vType:=by omega
          simp [h4,h5,ha,hb,h1]
    · by_cases h5:d.vKind=5
      · cases hx:((f.vType !=0)||(decide (f.vAt<(-2147483648))))||(decide (f.vAt>2147483647))<;>simp [h5,hx]
      · simp [h4,h5]
theorem all_fields_free {d:api_Def} {n:Int} (h4:d.vKind≠4) (h5:d.vKind≠5) (l:List api_Field):l.all (fieldOk d n)=true:=by
 rw [List.all_eq_true]
 intro f _
 unfold fieldOk
 simp [h4,h5]
theorem rshaped_ev {t:api_Types} {d:api_Def} (hl:d.vFields.length≤9223372036854775807) (hz:∀f∈d.vFields,f.vName.size≤9223372036854775807) (hz0:d.vName.size≤9223372036854775807):
  Ev (fun k=>taplineref08_shaped.f k t d) (shapedS d (t.vDefs.length:Int)):=by
 obtain ⟨Kn,hKn⟩:=rname_ev hz0
 obtain ⟨Kf,hKf⟩:=fields_ev hl hz
 have hw:strEq d.vName ByteArray.empty=true→nameS d.vName=false:=by
  intro h;unfold nameS;rw [h];simp
 refine ⟨max (max Kn Kf) (d.vFields.length+1),fun k hk=>?_⟩
 show taplineref08_shaped.f k t d=_
 have h1:=hKn k (by omega)
 have h2:=hKf k (by omega)
 have h3:=rshaped_loop (t:=t) (d:=d) hl d.vFields.length 0 k (by omega) (by omega)
 rw [List.drop_zero] at h3
 unfold taplineref08_shaped.f taplineref08_unused.f taplineref08_Named.f taplineref08_Index.f shapedS shp
 simp only [h1,h2,show taplineref08_shaped.l0 t d k 0=_ from h3,fieldsS_eq]
 have hlen:∀n:Nat,((n:Int)==0)=decide (n=0):=by intro n;by_cases h:n=0<;>simp [h]
 have hpos:∀n:Nat,decide (0<n)= !decide (n=0):=by intro n;by_cases h:n=0<;>simp [h];omega
 rw [hlen,hpos]
 have hnil:decide (d.vFields.length=0)=true→namesS [] d.vFields=true:=by
  intro h
  have:d.vFields=[]:=List.length_eq_zero_iff.1 (of_decide_eq_true h)
  rw [this];rfl
 have hz32:decide (d.vFields.length=0)=true→decide (d.vFields.length≤32)=true:=by
  intro h
  exact decide_eq_true (by have:=of_decide_eq_true h;omega)
 have h55:∀x:Int,(x==0)=decide (x=0):=by intro x;by_cases h:x=0<;>simp [h]
 have hcase:d.vKind<1∨d.vKind>6∨d.vKind=1∨d.vKind=2∨d.vKind=3∨d.vKind=4∨d.vKind=5∨d.vKind=6:=by omega
 have hall:=fun a b=>all_fields_free (d:=d) (n:=(t.vDefs.length:Int)) a b d.vFields
 generalize d.vFields.all (fieldOk d (t.vDefs.length:Int))=F at*
 generalize nameS d.vName=A at*
 generalize strEq d.vName ByteArray.empty=B at*
 generalize decide (d.vFields.length=0)=C at*
 generalize decide (d.vFields.length≤32)=D at*
 generalize namesS [] d.vFields=E at*
 generalize d.vKind=K at*
 generalize d.vInt=I at*
 generalize d.vN=N at*
 generalize d.vRef=R at*
 clear h1 h2 h3 hKn hKf hl hz hz0
 have hI:(I.vSigned==false)= !I.vSigned:=by cases I.vSigned<;>rfl
 have hge:decide (R≥0)=decide (0≤R):=rfl
 have hgN:decide (N≥1)=decide (1≤N):=rfl
 rcases hcase with h|h|rfl|rfl|rfl|rfl|rfl|rfl
 ·simp only [show¬K=1 from by omega,show¬K=2 from by omega,show¬K=3 from by omega,show¬K=4 from by omega,show¬K=5 from by omega,show¬K=6 from by omega,if_false,decide_eq_true h]
  simp
 ·simp only [show¬K=1 from by omega,show¬K=2 from by omega,show¬K=3 from by omega,show¬K=4 from by omega,show¬K=5 from by omega,show¬K=6 from by omega,if_false,decide_eq_true h]
  simp
 ·rw [hall (by omega) (by omega)]
  simp only [okI,hI,hge,hgN,Int.reduceBEq,Int.reduceBNe,Int.reduceLT,Int.reduceGT,Int.reduceEq,bne,eq_self,Bool.false_eq_true,Bool.not_true,Bool.not_false,Bool.true_and,Bool.false_and,Bool.and_true,Bool.and_false,Bool.or_self,Bool.or_false,Bool.false_or,Bool.true_or,Option.bind_some,if_true,if_false,decide_true,decide_false]
  generalize (I.vSize==1||I.vSize==2||I.vSize==4||I.vSize==8)=a at*
  generalize (I.vSize==0)=a0 at*
  generalize I.vSigned=b at*
  generalize (R==0)=r at*
  generalize (N==0)=n at*
  revert hw hz32 hnil
  clear hall hlen hpos h55 hI hge hgN
  clear a0 b
  revert A B C D E a r n
  decide
 ·rw [hall (by omega) (by omega)]
  simp only [okI,hI,hge,hgN,Int.reduceBEq,Int.reduceBNe,Int.reduceLT,Int.reduceGT,Int.reduceEq,bne,eq_self,Bool.false_eq_true,Bool.not_true,Bool.not_false,Bool.true_and,Bool.false_and,Bool.and_true,Bool.and_false,Bool.or_self,Bool.or_false,Bool.false_or,Bool.true_or,Option.bind_some,if_true,if_false,decide_true,decide_false]
  generalize (I.vSize==0)=a at*
  generalize I.vSigned=b at*
  generalize decide (0≤R)=r at*
  generalize decide (R<(t.vDefs.length:Int))=r2 at*
  generalize (N==0)=n at*
  revert hw hz32 hnil
  clear hall hlen hpos h55 hI hge hgN
  revert A B C D E a b r r2 n
  decide
 ·rw [hall (by omega) (by omega)]
  simp only [okI,hI,hge,hgN,Int.reduceBEq,Int.reduceBNe,Int.reduceLT,Int.reduceGT,Int.reduceEq,bne,eq_self,Bool.false_eq_true,Bool.not_true,Bool.not_false,Bool.true_and,Bool.false_and,Bool.and_true,Bool.and_false,Bool.or_self,Bool.or_false,Bool.false_or,Bool.true_or,Option.bind_some,if_true,if_false,decide_true,decide_false]
  generalize (I.vSize==0)=a at*
  generalize I.vSigned=b at*
  generalize decide (0≤R)=r at*
  generalize decide (R<(t.vDefs.length:Int))=r2 at*
  generalize decide (1≤N)=n at*
  generalize decide (N≤512)=n2 at*
  revert hw hz32 hnil
  clear hall hlen hpos h55 hI hge hgN
  revert A B C D E a b r r2 n n2
  decide
 ·simp only [okI,hI,hge,hgN,Int.reduceBEq,Int.reduceBNe,Int.reduceLT,Int.reduceGT,Int.reduceEq,bne,eq_self,Bool.false_eq_true,Bool.not_true,Bool.not_false,Bool.true_and,Bool.false_and,Bool.and_true,Bool.and_false,Bool.or_self,Bool.or_false,Bool.false_or,Bool.true_or,Option.bind_some,if_true,if_false,decide_true,decide_false]
  generalize (I.vSize==0)=a at*
  generalize I.vSigned=b at*
  generalize (R==0)=r at*
  generalize decide (1≤N)=n at*
  generalize decide (N≤512)=n2 at*
  revert hw hz32 hnil
  clear hall hlen hpos h55 hI hge hgN
  revert A B C D E F a b r n n2
  decide
 ·simp only [okI,hI,hge,hgN,Int.reduceBEq,Int.reduceBNe,Int.reduceLT,Int.reduceGT,Int.reduceEq,bne,eq_self,Bool.false_eq_true,Bool.not_true,Bool.not_false,Bool.true_and,Bool.false_and,Bool.and_true,Bool.and_false,Bool.or_self,Bool.or_false,Bool.false_or,Bool.true_or,Option.bind_some,if_true,if_false,decide_true,decide_false]
  generalize (I.vSize==0)=a at*
  generalize I.vSigned=b at*
  generalize (R==0)=r at*
  generalize (N==0)=n at*
  generalize decide (1≤N)=n1 at*
  generalize decide (N≤512)=n2 at*
  revert hw hz32 hnil
  clear hall hlen hpos h55 hI hge hgN
  clear n1 n2
  revert A B C D E F a b r n
  decide
 ·rw [hall (by omega) (by omega)]
  simp only [okI,hI,hge,hgN,Int.reduceBEq,Int.reduceBNe,Int.reduceLT,Int.reduceGT,Int.reduceEq,bne,eq_self,Bool.false_eq_true,Bool.not_true,Bool.not_false,Bool.true_and,Bool.false_and,Bool.and_true,Bool.and_false,Bool.or_self,Bool.or_false,Bool.false_or,Bool.true_or,Option.bind_some,if_true,if_false,decide_true,decide_false]
  generalize (I.vSize==0)=a at*
  generalize I.vSigned=b at*
  generalize decide (0≤R)=r at*
  generalize decide (R<(t.vDefs.length:Int))=r2 at*
  generalize (N==0)=n at*
  revert hw hz32 hnil
  clear hall hlen hpos h55 hI hge hgN
  revert A B C D E a b r r2 n
  decide
structure GoodSz (defs:List api_Def) (g:List Int):Prop where
 len:g.length=defs.length
 ex:∃rk:Nat→Nat,∀j,j<defs.length→0<g.getD j 0∧g.getD j 0≤512∧(∀c∈cont (defs.getD j z_api_Def),rk c.toNat<rk j)∧g.getD j 0=nval (defs.getD j z_api_Def) (inner g (defs.getD j z_api_Def))
theorem GoodT.good {t:api_Types} {l:List Int} (G:GoodT t l):GoodSz t.vDefs l:=by
 refine ⟨G.len,?_⟩
 obtain ⟨rk,B,h⟩:=G.jn
 exact ⟨rk, fun j hj => by
  obtain ⟨h1,h2,h3,h4⟩:=h j hj (G.pos j hj)
  exact ⟨G.pos j hj, h2, fun c hc => (h3 c hc).2, h4⟩⟩
section
variable {defs:List api_Def} {g:List Int} {rk:Nat→Nat}
structure Mid (defs:List api_Def) (g:List Int) (out:List Int) (bg:List Bool) (out':List Int) (bg':List Bool):Prop where
 lo:out'.length=defs.length
 lb:bg'.length=defs.length
 val:∀j,j<defs.length→out'.getD j 0=0∨out'.getD j 0=g.getD j 0
 keep:∀j,0<out.getD j 0→out'.getD j 0=out.getD j 0
 stk:∀j,bg'.getD j false=true→out'.getD j 0=0→bg.getD j false=true∧out.getD j 0=0
theorem Mid.trans {o1 o2 o3:List Int} {b1 b2 b3:List Bool} (h:Mid defs g o1 b1 o2 b2) (k:Mid defs g o2 b2 o3 b3):Mid defs g o1 b1 o3 b3:=
 ⟨k.lo, k.lb, k.val, fun j hj => by rw [k.keep j (by rw [h.keep j hj]; exact hj), h.keep j hj], fun j hb ho => by
  obtain ⟨h1,h2⟩:=k.stk j hb ho
  exact h.stk j h1 h2⟩
def CallG (defs:List api_Def) (g:List Int) (i:Nat) (out:List Int) (bg:List Bool):Prop:=∃out' bg',Ev (fun k=>ctf_sizes_1.f k (i:Int) out true bg defs) (g.getD i 0,out',true,bg')∧Mid defs g out bg out' bg'∧out'.getD i 0=g.getD i 0
theorem good_loop {R:Nat} (v1:List Int) (hv:∀c∈v1,0≤c∧c<(defs.length:Int)) (hvl:v1.length≤9223372036854775807) (hr:∀c∈v1,rk c.toNat<R)
    (hc:∀(i:Nat) (out:List Int) (bg:List Bool),i<defs.length→rk i<R→out.length=defs.length→bg.length=defs.length→(∀j,j<defs.length→out.getD j 0=0∨out.getD j 0=g.getD j 0)→(∀j,bg.getD j false=true→out.getD j 0=0→rk i<rk j)→CallG defs g i out bg):
    ∀(e j:Nat) (inn:Int) (out:List Int) (bg:List Bool),j+e=v1.length→out.length=defs.length→bg.length=defs.length→(∀j,j<defs.length→out.getD j 0=0∨out.getD j 0=g.getD j 0)→(∀j,bg.getD j false=true→out.getD j 0=0→R≤rk j)→
    ∃out' bg',(∃K,∀k m,K≤k→K≤m→ctf_sizes_1.l0 (ctf_sizes_1.f k) defs v1 m inn (j:Int) true out bg=some ((v1.drop j).foldl (fun _ c=>g.getD c.toNat 0) inn,true,out',bg'))∧Mid defs g out bg out' bg':=by
  intro e
  induction e with
  | zero =>
    intro j inn out bg hj h1 h2 h3 h4
    refine ⟨out,bg,⟨1,fun k m _ hm=>?_⟩,h1,h2,h3,fun _ _=>rfl,fun j a b=>⟨a,b⟩⟩
    obtain ⟨m,rfl⟩:∃q,m=q+1:=⟨m-1,by omega⟩
    rw [ctf_sizes_1.l0,if_neg (by simp;omega),List.drop_eq_nil_of_le (by omega)]
    rfl
  | succ e ih =>
    intro j inn out bg hj h1 h2 h3 h4
    have hlt:j<v1.length:=by omega
    have hmem:=getD_mem (z:=0) hlt
    have hm:=hv _ hmem
    obtain ⟨i,hi⟩:∃i:Nat,v1.getD j 0=(i:Int):=⟨(v1.getD j 0).toNat,by omega⟩
    have hri:rk i<R:=by have:=hr _ hmem;rw [hi] at this;exact this
    obtain ⟨o1,b1,⟨K1,hK1⟩,hM1,hv1⟩:=hc i out bg (by omega) hri h1 h2 h3 (fun q a b=>by have:=h4 q a b;omega)
    obtain ⟨o2, b2, ⟨K2, hK2⟩, hM2⟩ := ih (j + 1) (g.getD i 0) o1 b1 (by omega) hM1.lo hM1.lb hM1.val (fun q a b => by
      obtain ⟨x,y⟩:=hM1.stk q a b
      exact h4 q x y)
    refine ⟨o2,b2,⟨max K1 K2+1,fun k m hk hm'=>?_⟩,hM1.trans hM2⟩
    obtain ⟨m,rfl⟩:∃q,m=q+1:=⟨m-1,by omega⟩
    rw [ctf_sizes_1.l0,if_pos (by simp;omega),if_pos (by omega),rd_nat,hi,show ctf_sizes_1.f k _ _ _ _ _=_ from hK1 k (by omega)]
    simp only [Option.bind_some]
    rw [wrap_nat hlt hvl,drop_getD 0 hlt,hi]
    exact hK2 k m (by omega) (by omega)
theorem cont_few {d:api_Def} {n:Nat} (hd:ShD d n):(cont d).length≤9223372036854775807:=by
 have:=hd.few
 unfold cont
 split
 ·simp
 ·split
  ·rw [List.length_map];omega
  ·simp
theorem good_call (hS : ∀ d ∈ defs, ShD d defs.length) (hg : ∀ j, j < defs.length → 0 < g.getD j 0 ∧ g.getD j 0 ≤ 512 ∧ (∀ c ∈ cont (defs.getD j z_api_Def), rk c.toNat < rk j) ∧ g.getD j 0 = nval (defs.getD j z_api_Def) (inner g (defs.getD j z_api_Def))) :
    ∀(R i:Nat) (out:List Int) (bg:List Bool),rk i=R→i<defs.length→out.length=defs.length→bg.length=defs.length→(∀j,j<defs.length→out.getD j 0=0∨out.getD j 0=g.getD j 0)→(∀j,bg.getD j false=true→out.getD j 0=0→rk i<rk j)→CallG defs g i out bg:=by
  intro R
  induction R using Nat.strongRecOn with
  | _ R ihR =>
    intro i out bg hR hi h1 h2 h3 h4
    obtain ⟨g1,g2,g3,g4⟩:=hg i hi
    rcases h3 i hi with h0|h0
    · have hb:bg.getD i false=false:=by
        cases hb:bg.getD i false with
        |false=>rfl
        |true=>exact absurd (h4 i hb h0) (by omega)
      have hd:=hS _ (getD_mem (z:=z_api_Def) hi)
      obtain ⟨Kc,hKc⟩:=contained_ev (d:=defs.getD i z_api_Def) (by have:=hd.few;omega)
      obtain ⟨o1,b1,⟨K1,hK1⟩,hM⟩:=good_loop (defs:=defs) (g:=g) (rk:=rk) (R:=R) (cont (defs.getD i z_api_Def)) (cont_range hd) (cont_few hd) (fun c hc=>by have:=g3 c hc;omega)
        (fun i' o b a1 a2 a3 a4 a5 a6 => ihR (rk i') a2 i' o b rfl a1 a3 a4 a5 a6) (cont (defs.getD i z_api_Def)).length 0 0 out (bg.set i true) (by omega) h1 (by simpa using h2) h3 (fun j a b => by
          rw [getD_set (by omega)] at a
          split at a
          · next e=>subst e;omega
          · have := h4 j a b; omega)
      rw [List.drop_zero] at hK1
      have hset:∀j,(o1.set i (g.getD i 0)).getD j 0=if i=j then g.getD i 0 else o1.getD j 0:=fun j=>getD_set (by rw [hM.lo];exact hi)
      refine ⟨o1.set i (g.getD i 0),b1,⟨max Kc K1+1,fun k hk=>?_⟩,⟨by simp [hM.lo],hM.lb,fun j hj=>?_,fun j hj=>?_,fun j hb' ho=>?_⟩,by rw [hset,if_pos rfl]⟩
      · obtain ⟨k,rfl⟩:∃q,k=q+1:=⟨k-1,by omega⟩
        show ctf_sizes_1.f (k+1) _ _ _ _ _=_
        rw [ctf_sizes_1.f,if_pos (by omega),rd_nat,if_neg (by simp only [Bool.not_true,Bool.or_false,decide_eq_true_eq];omega),if_pos (by omega),rd_nat,if_neg (by rw [hb];simp),if_pos (by omega),if_pos (by omega),rd_nat,show ctf_contained.f k _=_ from hKc k (by omega)]
        simp only [Option.bind_some,Int.toNat_natCast]
        rw [show ctf_sizes_1.l0 (ctf_sizes_1.f k) defs _ k 0 0 true out _=_ from hK1 k k (by omega) (by omega)]
        simp only [Option.bind_some]
        rw [if_pos (by rw [hM.lo];omega)]
        simp only [nval_eq]
        rw [show nval (defs.getD i z_api_Def) (List.foldl (fun x c=>g.getD c.toNat 0) 0 (cont (defs.getD i z_api_Def)))=g.getD i 0 from g4.symm,decide_eq_true g2]
        rfl
      · rw [hset]
        split
        · next e=>subst e;exact .inr rfl
        · exact hM.val j hj
      · rw [hset,if_neg (fun e=>by subst e;omega)]
        exact hM.keep j hj
      · rw [hset] at ho
        split at ho
        · omega
        · next hne=>
          obtain ⟨x,y⟩:=hM.stk j hb' ho
          rw [getD_set (by omega),if_neg hne] at x
          exact ⟨x,y⟩
    · refine ⟨out,bg,⟨1,fun k hk=>?_⟩,⟨h1,h2,h3,fun _ _=>rfl,fun j a b=>⟨a,b⟩⟩,h0⟩
      obtain ⟨k,rfl⟩:∃q,k=q+1:=⟨k-1,by omega⟩
      show ctf_sizes_1.f (k+1) _ _ _ _ _=_
      rw [ctf_sizes_1.f,if_pos (by omega),rd_nat,if_pos (by simp only [Bool.or_eq_true,decide_eq_true_eq];exact .inl (by omega)),if_pos (by omega),h0]
end
theorem list_ext {g h:List Int} (hl:g.length=h.length) (he:∀j,j<g.length→g.getD j 0=h.getD j 0):g=h:=by
 apply List.ext_getElem hl
 intro j h1 h2
 have:=he j h1
 rw [List.getD_eq_getElem?_getD,List.getD_eq_getElem?_getD,List.getElem?_eq_getElem h1,List.getElem?_eq_getElem h2] at this
 exact this
theorem good_all {t : api_Types} {g : List Int} {rk : Nat → Nat} (hS : ∀ d ∈ t.vDefs, ShD d t.vDefs.length) (hn : t.vDefs.length ≤ 9223372036854775807)
    (hg:∀j,j<t.vDefs.length→0<g.getD j 0∧g.getD j 0≤512∧(∀c∈cont (t.vDefs.getD j z_api_Def),rk c.toNat<rk j)∧g.getD j 0=nval (t.vDefs.getD j z_api_Def) (inner g (t.vDefs.getD j z_api_Def))):
    ∀(e j:Nat) (bg:List Bool) (out:List Int),j+e=t.vDefs.length→out.length=t.vDefs.length→bg.length=t.vDefs.length→(∀q,q<t.vDefs.length→out.getD q 0=0∨out.getD q 0=g.getD q 0)→(∀q,bg.getD q false=true→out.getD q 0=0→False)→(∀q,q<j→out.getD q 0=g.getD q 0)→
    ∃bg' out',Ev2 (fun k m=>ctf_sizes.l0 k t m (j:Int) true bg out) (true,bg',out')∧out'.length=t.vDefs.length∧∀q,q<t.vDefs.length→out'.getD q 0=g.getD q 0:=by
  intro e
  induction e with
  | zero =>
    intro j bg out hj h1 h2 h3 h4 h5
    refine ⟨bg,out,Ev2.pure (fun k m=>?_),h1,fun q hq=>h5 q (by omega)⟩
    rw [ctf_sizes.l0,if_neg (by simp;omega)]
  | succ e ih =>
    intro j bg out hj h1 h2 h3 h4 h5
    have hlt:j<t.vDefs.length:=by omega
    obtain ⟨o1,b1,hE,hM,hv⟩:=good_call hS hg (rk j) j out bg rfl hlt h1 h2 h3 (fun q a b=>(h4 q a b).elim)
    obtain ⟨bg', out', hE2, h6, h7⟩ := ih (j + 1) b1 o1 (by omega) hM.lo hM.lb hM.val (fun q a b => by
      obtain ⟨x,y⟩:=hM.stk q a b
      exact h4 q x y) (fun q hq=>by
      by_cases hqj:q=j
      · subst hqj;exact hv
      · have h8:=h5 q (by omega)
        have h9:=(hg q (by omega)).1
        rw [hM.keep q (by omega), h8])
    refine ⟨bg',out',Ev2.step hE (r:=fun k m (v1:Int×List Int×Bool×List Bool)=>ctf_sizes.l0 k t m (IntKind.wrap .i64 ((j:Int)+1)) v1.2.2.1 v1.2.2.2 v1.2.1) ?_ (fun k m=>?_),h6,h7⟩
    · simp only
      rw [wrap_nat hlt hn]
      exact hE2
    · rw [ctf_sizes.l0,if_pos (by simp;omega)]
theorem sizes_good {t:api_Types} {g:List Int} (hS:∀d∈t.vDefs,ShD d t.vDefs.length) (hn:t.vDefs.length≤200) (G:GoodSz t.vDefs g):Ev (fun k=>ctf_sizes.f k t) (g,true):=by
 obtain ⟨rk,hg⟩:=G.ex
 have hrep:∀(n q:Nat),(List.replicate n (0:Int)).getD q 0=0:=fun n q=>by
  rw [List.getD_eq_getElem?_getD,List.getElem?_replicate]
  split<;>rfl
 have hrepb:∀(n q:Nat),(List.replicate n false).getD q false=false:=fun n q=>by
  rw [List.getD_eq_getElem?_getD,List.getElem?_replicate]
  split<;>rfl
 obtain ⟨bg,out,hE,h1,h2⟩:=good_all hS (by omega) hg t.vDefs.length 0 (List.replicate t.vDefs.length false) (List.replicate t.vDefs.length 0) (by omega) (by simp) (by simp) (fun q _=> .inl (hrep _ _)) (fun q a _=>by rw [hrepb] at a;cases a) (fun q hq=>by omega)
 have hog:out=g:=list_ext (by rw [h1,G.len]) (fun j hj=>h2 j (by omega))
 subst hog
 obtain ⟨K,hK⟩:=hE.diag
 refine ⟨K,fun k hk=>?_⟩
 show ctf_sizes.f k t=_
 unfold ctf_sizes.f
 rw [if_pos (by omega),if_pos (by omega)]
 simp only [Int.toNat_natCast]
 rw [show ctf_sizes.l0 k t k 0 true _ _=_ from hK k hk]
 rfl
theorem inner_ref {d:api_Def} {known:List Int} (hk:d.vKind=3∨d.vKind=6):inner known d=rd 0 known d.vRef∧cont d=[d.vRef]:=by
 have hcd:cont d=[d.vRef]:=by
  unfold cont
  rw [if_pos (by simp only [Bool.or_eq_true,beq_iff_eq];exact hk)]
 refine ⟨?_,hcd⟩
 unfold inner
 rw [hcd]
 rfl
theorem cont_kind {d:api_Def} {c:Int} (h:c∈cont d):d.vKind=3∨d.vKind=4∨d.vKind=6:=by
 unfold cont at h
 split at h
 ·next h2=>simp only [Bool.or_eq_true,beq_iff_eq] at h2;omega
 ·split at h
  ·next h2=>simp only [beq_iff_eq] at h2;omega
  ·cases h
theorem inner_congr {d:api_Def} {a b:List Int} (h:∀c∈cont d,a.getD c.toNat 0=b.getD c.toNat 0):inner a d=inner b d:=by
  unfold inner
  have key:∀(l:List Int) (z0:Int),(∀c∈l,a.getD c.toNat 0=b.getD c.toNat 0)→l.foldl (fun _ c=>a.getD c.toNat 0) z0=l.foldl (fun _ c=>b.getD c.toNat 0) z0:=by
    intro l
    induction l with
    |nil=>intro _ _;rfl
    | cons c l ih =>
      intro z0 hc
      rw [List.foldl_cons,List.foldl_cons,hc c List.mem_cons_self]
      exact ih _ (fun c hc'=>hc c (List.mem_cons_of_mem _ hc'))
  exact key _ _ h
theorem cont_struct {d:api_Def} (e:d.vKind=4):cont d=d.vFields.map (·.vType):=by
 unfold cont
 rw [if_neg (by simp [e]),if_pos (by simp [e])]
structure Wf (t:api_Types) (l:List Int):Prop where
 few:t.vDefs.length≤200
 defs:defsS t.vDefs.length [] t.vDefs=true
 sz:GoodSz t.vDefs l
 ends:∀d∈t.vDefs,lostS t.vDefs t.vDefs.length d=false
 placed:∀d∈t.vDefs,d.vKind=4→placedS d l=true
theorem GoodT.wf {t:api_Types} {l:List Int} (G:GoodT t l):Wf t l:=⟨G.few,G.defs,G.good,G.ends,G.placed⟩
theorem Wf.sh {t:api_Types} {l:List Int} (W:Wf t l):∀d∈t.vDefs,ShD d t.vDefs.length:=defs_of _ _ W.defs
theorem Wf.good {t:api_Types} {l:List Int} (W:Wf t l):GoodT t l:=by
  obtain ⟨rk,h⟩:=W.sz.ex
  have hB:∀n,∃B,∀j,j<n→rk j<B:=by
    intro n
    induction n with
    |zero=>exact ⟨0,fun j hj=>by omega⟩
    | succ n ih =>
      obtain ⟨B,hB⟩:=ih
      refine ⟨max B (rk n+1),fun j hj=>?_⟩
      by_cases e:j=n
      · subst e;omega
      · have:=hB j (by omega);omega
  obtain ⟨B,hB⟩:=hB t.vDefs.length
  refine ⟨W.few,W.sh,sizes_good W.sh W.few W.sz,W.sz.len,⟨rk,B,fun j hj _=>?_⟩,fun q hq=>(h q hq).1,W.ends,W.placed,W.defs⟩
  obtain ⟨h1,h2,h3,h4⟩:=h j hj
  refine ⟨hB j hj,h2,fun c hc=>⟨?_,h3 c hc⟩,h4⟩
  have:=cont_range (W.sh _ (getD_mem (z:=z_api_Def) hj)) c hc
  exact (h c.toNat (by omega)).1
theorem valid_wf {t : api_Types} {l : List Int} (hF : ∀ d ∈ t.vDefs, FitD d) (W : Wf t l) : Ev (fun k => ctf_valid.f k t) true := by
  have hn:=W.few
  have hS:=W.sh
  have hcond:¬decide ((t.vDefs.length:Int)>200)=true:=by simp;omega
  obtain ⟨v,hv,hp⟩:=valid_loop hF (by omega) t.vDefs.length 0 [] [] (by omega) SeenOk.nil
  rw [List.drop_zero] at hp
  obtain ⟨K,hK⟩:=hv.diag
  obtain ⟨K2,hK2⟩:=sizes_good hS hn W.sz
  obtain ⟨K3,hK3⟩:=ends_ev hS hn
  have he:t.vDefs.any (lostS t.vDefs t.vDefs.length)=false:=List.any_eq_false.2 fun d hd=>by rw [W.ends d hd];simp
  obtain ⟨K4, hK4⟩ := contains_ev (l := t.vDefs) (p := fun k z0 => ctf_valid_1.f k z0 l) (q := fun _ => false) (fun d hd => by
    by_cases h4:d.vKind=4
    · have:=placed_ev (d:=d) (l:=l) (hF d hd).len (fun f hf=>by have:=(hS d hd).typ h4 f hf;rw [W.sz.len];exact this)
      rw [W.placed d hd h4] at this
      exact (this.bind (g:=fun k v1=>some ((d.vKind==4)&&(!v1))) (b:=false) (Ev.pure fun _=>by simp)).congr fun k=>by
        unfold ctf_valid_1.f
        rw [if_pos (by simp [h4])]
    · refine Ev.pure fun k=>?_
      unfold ctf_valid_1.f
      rw [if_neg (by simp [h4])]
      simp [h4]) (by omega)
  cases v with
  |inl b=>rw [W.defs] at hp;exact absurd hp.2 (by simp)
  | inr m =>
    refine ⟨max (max K K2) (max K3 K4),fun k hk=>?_⟩
    show ctf_valid.f k t=_
    unfold ctf_valid.f
    rw [if_neg hcond,show ctf_valid.l0 k t k 0 []=_ from hK k (by omega)]
    simp only [Option.bind_some]
    rw [show ctf_sizes.f k t=_ from hK2 k (by omega)]
    simp only [Option.bind_some]
    rw [show ctf_ends.f k t=_ from hK3 k (by omega),he]
    simp only [Bool.not_true,Bool.not_false,beq_self_eq_true,Bool.and_self,if_true,Option.bind_some,Bool.or_self,Bool.false_eq_true,if_false]
    rw [show slices_ContainsFunc_api_Def_api_Def.f k t.vDefs _=_ from hK4 k (by omega)]
    simp
theorem valid_iff {t:api_Types} (hF:∀d∈t.vDefs,FitD d):(∃l,Wf t l∧Ev (fun k=>ctf_valid.f k t) true)∨((∀l,¬Wf t l)∧Ev (fun k=>ctf_valid.f k t) false):=by
  obtain ⟨b,hE,hb⟩:=valid_ev hF
  cases b with
  | true =>
    obtain ⟨l,G⟩:=hb rfl
    exact .inl ⟨l,G.wf,hE⟩
  | false =>
    refine .inr ⟨fun l W=>?_,hE⟩
    have:=hE.uniq (valid_wf hF W)
    cases this
def rsizeS (d:api_Def) (known:List Int):Int:=if d.vKind=4∧(d.vFields.any fun f=>rd 0 known f.vType==0)=true then 0 else nval d (inner known d)
theorem rsize_loop {d:api_Def} {known:List Int} (hl:d.vFields.length≤9223372036854775807) (ht:∀f∈d.vFields,0≤f.vType∧f.vType<known.length):∀(e j m:Nat),j+e=d.vFields.length→e<m→
    taplineref08_size.l0 d known m (j:Int)=some (if ((d.vFields.drop j).any fun f=>rd 0 known f.vType==0)=true then .inl 0 else .inr ()):=by
  intro e
  induction e with
  | zero =>
    intro j m hj hm
    obtain ⟨m,rfl⟩:∃q,m=q+1:=⟨m-1,by omega⟩
    rw [taplineref08_size.l0,if_neg (by simp;omega),List.drop_eq_nil_of_le (by omega)]
    rfl
  | succ e ih =>
    intro j m hj hm
    obtain ⟨m,rfl⟩:∃q,m=q+1:=⟨m-1,by omega⟩
    have hlt:j<d.vFields.length:=by omega
    have hf:=ht _ (getD_mem (z:=z_api_Field) hlt)
    rw [taplineref08_size.l0,if_pos (by simp;omega),if_pos (by omega),rd_nat,if_pos hf,drop_getD z_api_Field hlt,List.any_cons]
    by_cases hc:(rd 0 known (d.vFields.getD j z_api_Field).vType==0)=true
    · rw [if_pos hc,hc];rfl
    · rw [if_neg hc,wrap_nat hlt hl,ih (j+1) m (by omega) (by omega)]
      rw [Bool.not_eq_true] at hc
      rw [hc,Bool.false_or]
theorem rsize_ev {d : api_Def} {known : List Int} {n : Nat} (hd : ShD d n) (hn : known.length = n) : Ev (fun k => taplineref08_size.f k d known) (rsizeS d known) := by
  have hfew:=hd.few
  have hkind:=hd.kind
  refine ⟨d.vFields.length+1,fun k hk=>?_⟩
  show taplineref08_size.f k d known=_
  unfold taplineref08_size.f rsizeS nval
  simp only [beq_iff_eq]
  by_cases e1:d.vKind=1
  · rw [if_pos e1,if_neg (by omega),if_pos e1]
  · rw [if_neg e1]
    by_cases e2:d.vKind=2
    · rw [if_pos e2,if_neg (by omega),if_neg e1,if_pos e2]
    · rw [if_neg e2]
      by_cases e3:d.vKind=3
      · have hr:=hd.ref (by omega)
        rw [if_pos e3,if_pos (by omega),if_neg (by omega),if_neg e1,if_neg e2,if_pos e3,(inner_ref (.inl e3)).1]
      · rw [if_neg e3]
        by_cases e5:d.vKind=5
        · rw [if_pos e5,if_neg (by omega),if_neg e1,if_neg e2,if_neg e3,if_neg (by omega),if_pos e5]
        · rw [if_neg e5]
          by_cases e6:d.vKind=6
          · have hr:=hd.ref (by omega)
            rw [if_pos e6,if_pos (by omega),if_neg (by omega),if_neg e1,if_neg e2,if_neg e3,if_neg (by omega),if_neg e5,if_pos e6,(inner_ref (.inr e6)).1]
          · have e4:d.vKind=4:=by omega
            have ht:=hd.typ e4
            rw [if_neg e6,show taplineref08_size.l0 d known k 0=_ from rsize_loop (by omega) (fun f hf=>by have:=ht f hf;omega) d.vFields.length 0 k (by omega) (by omega),List.drop_zero]
            rw [if_neg e1,if_neg e2,if_neg e3,if_pos e4]
            cases hany:d.vFields.any fun f=>rd 0 known f.vType==0 with
            |true=>simp [e4]
            |false=>simp [e4]
structure Inv (defs:List api_Def) (known:List Int):Prop where
 len:known.length=defs.length
 rng:∀j,j<defs.length→0≤known.getD j 0∧known.getD j 0≤513
 ex:∃(rk:Nat→Nat) (B:Nat),∀j,j<defs.length→known.getD j 0≠0→rk j<B∧(∀c∈cont (defs.getD j z_api_Def),known.getD c.toNat 0≠0∧rk c.toNat<rk j)∧known.getD j 0=iMin (nval (defs.getD j z_api_Def) (inner known (defs.getD j z_api_Def))) 513
theorem rsize_pos {d : api_Def} {known : List Int} {n : Nat} (hd : ShD d n) (h : 0 < rsizeS d known) : 0 < nval d (inner known d) ∧ rsizeS d known = nval d (inner known d) ∧ ∀ c ∈ cont d, known.getD c.toNat 0 ≠ 0 := by
  unfold rsizeS at h⊢
  split at h
  · omega
  · next hc=>
    rw [if_neg hc]
    refine ⟨h,rfl,fun c hcm=>?_⟩
    rcases cont_kind hcm with e|e|e
    · obtain ⟨h1,h2⟩:=inner_ref (known:=known) (.inl e)
      rw [h2] at hcm
      rw [List.mem_singleton.1 hcm]
      intro h0
      unfold nval at h
      rw [h1,show rd 0 known d.vRef=0 from h0,Int.mul_zero,if_neg (by omega),if_neg (by omega),if_pos e] at h
      exact absurd h (by decide)
    · have hcd:cont d=d.vFields.map (·.vType):=by
        unfold cont
        rw [if_neg (by simp [e]),if_pos (by simp [e])]
      rw [hcd] at hcm
      obtain ⟨f,hf,rfl⟩:=List.mem_map.1 hcm
      intro h0
      exact hc ⟨e,List.any_eq_true.2 ⟨f,hf,by rw [beq_iff_eq];exact h0⟩⟩
    · obtain ⟨h1,h2⟩:=inner_ref (known:=known) (.inr e)
      rw [h2] at hcm
      rw [List.mem_singleton.1 hcm]
      intro h0
      unfold nval at h
      rw [h1,show rd 0 known d.vRef=0 from h0,if_neg (by omega),if_neg (by omega),if_neg (by omega),if_neg (by omega),if_neg (by omega),if_pos e] at h
      omega
def zer (l:List Int):Nat:=(l.filter fun x=>x==0).length
theorem zer_set:∀(a:List Int) (i:Nat) (v:Int),i<a.length→a.getD i 0=0→v≠0→zer (a.set i v)+1=zer a
  |[],i,v,h,_,_=>by simp at h
  | x :: a, 0, v, h, hi, hv => by
    simp only [List.getD_cons_zero] at hi
    subst hi
    simp [zer,hv]
  | x :: a, i + 1, v, h, hi, hv => by
    have:=zer_set a i v (by simpa using h) (by simpa using hi) hv
    unfold zer at*
    rw [List.set_cons_succ,List.filter_cons,List.filter_cons]
    by_cases hx:(x==0)=true
    · rw [if_pos hx,if_pos hx,List.length_cons,List.length_cons];omega
    · rw [if_neg hx,if_neg hx];exact this
theorem inv_set {defs : List api_Def} {known : List Int} (hS : ∀ d ∈ defs, ShD d defs.length) (I : Inv defs known) {i : Nat} (hi : i < defs.length) (h0 : known.getD i 0 = 0) (hp : 0 < rsizeS (defs.getD i z_api_Def) known) :
    Inv defs (known.set i (iMin (rsizeS (defs.getD i z_api_Def) known) 513))∧iMin (rsizeS (defs.getD i z_api_Def) known) 513≠0:=by
  obtain ⟨hp1,hp2,hp3⟩:=rsize_pos (hS _ (getD_mem hi)) hp
  obtain ⟨rk,B,hB⟩:=I.ex
  have hv:0<iMin (rsizeS (defs.getD i z_api_Def) known) 513∧iMin (rsizeS (defs.getD i z_api_Def) known) 513≤513:=by
    unfold iMin
    split<;>omega
  generalize hV:iMin (rsizeS (defs.getD i z_api_Def) known) 513=V at*
  have hset:∀j,(known.set i V).getD j 0=if i=j then V else known.getD j 0:=fun j=>getD_set (by rw [I.len];exact hi)
  have hne:∀c:Int,known.getD c.toNat 0≠0→¬i=c.toNat:=fun c hc e=>by rw [←e] at hc;exact hc h0
  refine ⟨⟨by simp [I.len],fun j hj=>?_,fun j=>if i=j then B else rk j,B+1,fun j hj hj0=>?_⟩,by omega⟩
  · rw [hset]
    split
    · omega
    · exact I.rng j hj
  · show (if i=j then B else rk j)<B+1∧(∀c:Int,c∈cont (defs.getD j z_api_Def)→_∧(if i=c.toNat then B else rk c.toNat)<(if i=j then B else rk j))∧_
    by_cases hij:i=j
    · subst hij
      rw [if_pos rfl]
      refine ⟨by omega,fun c hc=>?_,?_⟩
      · have h5:=hp3 c hc
        have h6:=cont_range (hS _ (getD_mem (z:=z_api_Def) hi)) c hc
        rw [hset,if_neg (hne c h5),if_neg (hne c h5)]
        exact ⟨h5,(hB c.toNat (by omega) h5).1⟩
      · rw [hp2] at hV
        refine (hset i).trans ?_
        rw [if_pos rfl]
        refine hV.symm.trans ?_
        congr 2
        exact inner_congr (fun c hc=>by rw [hset,if_neg (hne c (hp3 c hc))])
    · rw [hset,if_neg hij] at hj0
      obtain ⟨h5,h7,h8⟩:=hB j hj hj0
      rw [if_neg hij,hset,if_neg hij]
      refine ⟨by omega,fun c hc=>?_,?_⟩
      · obtain ⟨h9,h10⟩:=h7 c hc
        rw [hset,if_neg (hne c h9),if_neg (hne c h9)]
        exact ⟨h9,h10⟩
      · rw [h8]
        congr 2
        exact inner_congr (fun c hc=>by rw [hset,if_neg (hne c (h7 c hc).1)])
theorem pass_loop {t : api_Types} (hS : ∀ d ∈ t.vDefs, ShD d t.vDefs.length) (hn : t.vDefs.length ≤ 9223372036854775807) : ∀ (e j : Nat) (more : Bool) (known : List Int), j + e = t.vDefs.length → Inv t.vDefs known →
    ∃ more' known', Ev2 (fun k m => taplineref08_sizes.l1 k t m more (j : Int) known) (more', known') ∧ Inv t.vDefs known' ∧ (more' = false → more = false ∧ known' = known ∧ ∀ q, j ≤ q → q < t.vDefs.length → known.getD q 0 = 0 → rsizeS (t.vDefs.getD q z_api_Def) known ≤ 0) ∧
      zer known'≤zer known∧(more'=true→more=true∨zer known'<zer known):=by
  intro e
  induction e with
  | zero =>
    intro j more known hj I
    refine ⟨more,known,Ev2.pure (fun k m=>?_),I,fun h=>⟨h,rfl,fun q _ _=>by omega⟩,Nat.le_refl _,fun h=> .inl h⟩
    rw [taplineref08_sizes.l1,if_neg (by simp;omega)]
  | succ e ih =>
    intro j more known hj I
    have hlt:j<t.vDefs.length:=by omega
    have hd:=hS _ (getD_mem (z:=z_api_Def) hlt)
    by_cases h0:known.getD j 0=0
    · have hs:=rsize_ev hd I.len
      by_cases hp:0<rsizeS (t.vDefs.getD j z_api_Def) known
      · obtain ⟨I2,hv⟩:=inv_set hS I hlt h0 hp
        have hz:=zer_set known j _ (by rw [I.len];exact hlt) h0 hv
        obtain ⟨more',known',hE,I3,h1,h2,h3⟩:=ih (j+1) true _ (by omega) I2
        refine ⟨more',known',Ev2.step hs (r:=fun k m v1=>if (decide (v1>0))=true then (if 0≤(j:Int)∧(j:Int)<(((t.vDefs.length:Int).toNat:Nat):Int) then (taplineref08_sizes.l1 k t m true (IntKind.wrap .i64 ((j:Int)+1)) (List.set known j (iMin v1 513))) else none) else (taplineref08_sizes.l1 k t m more (IntKind.wrap .i64 ((j:Int)+1)) known)) ?_ (fun k m=>?_),I3,?_,by omega,fun _=> .inr (by omega)⟩
        · obtain ⟨K,hK⟩:=hE
          refine ⟨K,fun k m hk hm=>?_⟩
          show (if _ then _ else _)=_
          rw [if_pos (decide_eq_true hp),if_pos (by omega),wrap_nat hlt hn]
          exact hK k m hk hm
        · rw [taplineref08_sizes.l1,if_pos (by simp;omega),if_pos (by omega),rd_nat,if_neg (by rw [h0];decide),if_pos (by omega),rd_nat]
          simp only [Int.toNat_natCast]
        · intro h;have:=(h1 h).1;cases this
      · obtain ⟨more',known',hE,I3,h1,h2,h3⟩:=ih (j+1) more known (by omega) I
        refine ⟨more',known',Ev2.step hs (r:=fun k m v1=>if (decide (v1>0))=true then (if 0≤(j:Int)∧(j:Int)<(((t.vDefs.length:Int).toNat:Nat):Int) then (taplineref08_sizes.l1 k t m true (IntKind.wrap .i64 ((j:Int)+1)) (List.set known j (iMin v1 513))) else none) else (taplineref08_sizes.l1 k t m more (IntKind.wrap .i64 ((j:Int)+1)) known)) ?_ (fun k m=>?_),I3,?_,h2,h3⟩
        · obtain ⟨K,hK⟩:=hE
          refine ⟨K,fun k m hk hm=>?_⟩
          show (if _ then _ else _)=_
          rw [if_neg (by simpa using hp),wrap_nat hlt hn]
          exact hK k m hk hm
        · rw [taplineref08_sizes.l1,if_pos (by simp;omega),if_pos (by omega),rd_nat,if_neg (by rw [h0];decide),if_pos (by omega),rd_nat]
          simp only [Int.toNat_natCast]
        · intro h
          obtain ⟨a,b,c⟩:=h1 h
          refine ⟨a,b,fun q hq hq2 hq0=>?_⟩
          by_cases hqj:q=j
          · subst hqj;omega
          · exact c q (by omega) hq2 hq0
    · obtain ⟨more',known',hE,I3,h1,h2,h3⟩:=ih (j+1) more known (by omega) I
      refine ⟨more',known',Ev2.next (r:=fun k m=>taplineref08_sizes.l1 k t m more ((j+1:Nat):Int) known) hE (fun k m=>?_),I3,?_,h2,h3⟩
      · rw [taplineref08_sizes.l1,if_pos (by simp;omega),if_pos (by omega),rd_nat,if_pos (by simpa using h0),wrap_nat hlt hn]
      · intro h
        obtain ⟨a,b,c⟩:=h1 h
        refine ⟨a,b,fun q hq hq2 hq0=>?_⟩
        by_cases hqj:q=j
        · subst hqj;exact absurd hq0 h0
        · exact c q (by omega) hq2 hq0
def Fin (defs:List api_Def) (known:List Int):Prop:=∀q,q<defs.length→known.getD q 0=0→rsizeS (defs.getD q z_api_Def) known≤0
theorem rounds {t : api_Types} (hS : ∀ d ∈ t.vDefs, ShD d t.vDefs.length) (hn : t.vDefs.length ≤ 9223372036854775807) : ∀ (z : Nat) (known : List Int), zer known = z → Inv t.vDefs known →
    ∃known',Ev2 (fun k m=>taplineref08_sizes.l0 k t m true known) known'∧Inv t.vDefs known'∧Fin t.vDefs known':=by
  intro z
  induction z using Nat.strongRecOn with
  | _ z ih =>
    intro known hz I
    obtain ⟨more',known',hE,I2,h1,h2,h3⟩:=pass_loop hS hn t.vDefs.length 0 false known (by omega) I
    cases more' with
    | false =>
      obtain ⟨_,rfl,hf⟩:=h1 rfl
      refine ⟨known',Ev2.step hE.diag (r:=fun k m (x:Bool×List Int)=>taplineref08_sizes.l0 k t m x.1 x.2) (Ev2.pure fun k m=>?_) (fun k m=>?_),I2,fun q hq h0=>hf q (by omega) hq h0⟩
      · show taplineref08_sizes.l0 k t (m+1) false known'=_
        rw [taplineref08_sizes.l0,if_neg (by simp)]
      · rw [taplineref08_sizes.l0,if_pos rfl]
        rfl
    | true =>
      have hlt:zer known'<z:=by
        rcases h3 rfl with h|h
        · cases h
        · omega
      obtain ⟨k3,hE3,I3,F3⟩:=ih (zer known') hlt known' rfl I2
      refine ⟨k3,Ev2.step hE.diag (r:=fun k m (x:Bool×List Int)=>taplineref08_sizes.l0 k t m x.1 x.2) hE3 (fun k m=>?_),I3,F3⟩
      rw [taplineref08_sizes.l0,if_pos rfl]
      rfl
theorem rsizes_ev {t:api_Types} (hS:∀d∈t.vDefs,ShD d t.vDefs.length) (hn:t.vDefs.length≤200):∃known,Ev (fun k=>taplineref08_sizes.f k t) known∧Inv t.vDefs known∧Fin t.vDefs known:=by
 have hrep:∀(n q:Nat),(List.replicate n (0:Int)).getD q 0=0:=fun n q=>by
  rw [List.getD_eq_getElem?_getD,List.getElem?_replicate]
  split<;>rfl
 obtain ⟨known,hE,I,F⟩:=rounds hS (by omega) _ (List.replicate t.vDefs.length (0:Int)) rfl ⟨by simp,fun j hj=>by rw [hrep];omega,fun _=>0,0,fun j hj h=>absurd (hrep _ _) h⟩
 obtain ⟨K,hK⟩:=hE.diag
 refine ⟨known,⟨K,fun k hk=>?_⟩,I,F⟩
 show taplineref08_sizes.f k t=_
 unfold taplineref08_sizes.f
 rw [if_pos (by omega)]
 simp only [Int.toNat_natCast]
 rw [show taplineref08_sizes.l0 k t k true _=_ from hK k hk]
 rfl
theorem iMin_low {x:Int} (h:iMin x 513≤512):iMin x 513=x:=by
 unfold iMin at*
 split
 ·next h2=>rw [if_pos h2] at h;omega
 ·rfl
theorem rsizes_good {defs : List api_Def} {known g : List Int} (hS : ∀ d ∈ defs, ShD d defs.length) (I : Inv defs known) (F : Fin defs known) (G : GoodSz defs g) : known = g := by
  obtain ⟨rk,hg⟩:=G.ex
  refine list_ext (by rw [I.len,G.len]) (fun j hj=>?_)
  rw [I.len] at hj
  obtain ⟨rk2,B,hB⟩:=I.ex
  have key:∀(R q:Nat),rk q=R→q<defs.length→known.getD q 0=g.getD q 0:=by
    intro R
    induction R using Nat.strongRecOn with
    | _ R ih =>
      intro q hR hq
      obtain ⟨g1,g2,g3,g4⟩:=hg q hq
      have hd:=hS _ (getD_mem (z:=z_api_Def) hq)
      have hch:∀c∈cont (defs.getD q z_api_Def),known.getD c.toNat 0=g.getD c.toNat 0:=fun c hc=>by
        have h6:=cont_range hd c hc
        exact ih _ (by have:=g3 c hc;omega) c.toNat rfl (by omega)
      have hin:=inner_congr hch
      by_cases h0:known.getD q 0=0
      · exfalso
        have h1:=F q hq h0
        unfold rsizeS at h1
        rw [if_neg,hin,←g4] at h1
        · omega
        · rintro ⟨e4,ha⟩
          obtain ⟨f,hf,hf0⟩:=List.any_eq_true.1 ha
          have hcm:f.vType∈cont (defs.getD q z_api_Def):=by
            rw [cont_struct e4]
            exact List.mem_map.2 ⟨f,hf,rfl⟩
          have h2:=hch _ hcm
          have h6:=cont_range hd _ hcm
          have h3:=(hg f.vType.toNat (by omega)).1
          rw [beq_iff_eq] at hf0
          rw [show known.getD f.vType.toNat 0=0 from hf0] at h2
          omega
      · obtain ⟨_,_,h3⟩:=hB q hq h0
        rw [hin,←g4] at h3
        rw [h3]
        unfold iMin
        rw [if_neg (by omega)]
  exact key (rk j) j rfl hj
theorem rsizes_conv {defs:List api_Def} {known:List Int} (I:Inv defs known) (h:∀j,j<defs.length→known.getD j 0≠0∧known.getD j 0≤512):GoodSz defs known:=by
 obtain ⟨rk,B,hB⟩:=I.ex
 refine ⟨I.len,rk,fun j hj=>?_⟩
 obtain ⟨h1,h2⟩:=h j hj
 have h3:=I.rng j hj
 obtain ⟨_,h4,h5⟩:=hB j hj h1
 refine ⟨by omega,h2,fun c hc=>(h4 c hc).2,?_⟩
 rw [h5] at h2⊢
 exact iMin_low h2
theorem rends_loop {t : api_Types} (hS : ∀ d ∈ t.vDefs, ShD d t.vDefs.length) (hn : t.vDefs.length ≤ 9223372036854775000) : ∀ (e j m : Nat) (i : Int), 0 ≤ i → i < t.vDefs.length → j + e = t.vDefs.length → e + 1 < m →
    ((taplineref08_ends.l0 t m i (j:Int)).bind fun xx1=>(match xx1 with| .inl r=>some r| .inr s1=>some false))=some (!lostS t.vDefs e (rd z_api_Def t.vDefs i)):=by
  intro e
  induction e with
  | zero =>
    intro j m i h0 h1 hj hm
    obtain ⟨m,rfl⟩:∃q,m=q+1:=⟨m-1,by omega⟩
    obtain ⟨m,rfl⟩:∃q,m=q+1:=⟨m-1,by omega⟩
    rw [taplineref08_ends.l0,if_pos (by simp;omega),if_pos ⟨h0,h1⟩]
    simp only [taplineref08_Named.f,Option.bind_some,lostS]
    show (Option.bind (if namedS _=true then _ else _) _)=_
    by_cases hnm:namedS (rd z_api_Def t.vDefs i)=true
    · rw [if_pos hnm,hnm];rfl
    · rw [if_neg hnm,if_pos ⟨h0,h1⟩,wrap_id (by omega) (by omega),taplineref08_ends.l0,if_neg (by simp;omega)]
      rw [Bool.not_eq_true] at hnm
      rw [hnm];rfl
  | succ e ih =>
    intro j m i h0 h1 hj hm
    obtain ⟨m,rfl⟩:∃q,m=q+1:=⟨m-1,by omega⟩
    rw [taplineref08_ends.l0,if_pos (by simp;omega),if_pos ⟨h0,h1⟩]
    simp only [taplineref08_Named.f,Option.bind_some,lostS]
    show (Option.bind (if namedS _=true then _ else _) _)=_
    by_cases hnm:namedS (rd z_api_Def t.vDefs i)=true
    · rw [if_pos hnm,if_pos hnm];rfl
    · rw [if_neg hnm,if_neg hnm,if_pos ⟨h0,h1⟩]
      have hk:(rd z_api_Def t.vDefs i).vKind=2∨(rd z_api_Def t.vDefs i).vKind=3:=by
        unfold namedS at hnm
        by_cases h2:(rd z_api_Def t.vDefs i).vKind=2
        · exact .inl h2
        · by_cases h3:(rd z_api_Def t.vDefs i).vKind=3
          · exact .inr h3
          · exact absurd (by simp [h2,h3]) hnm
      have hr:=(hS _ (rd_mem (z:=z_api_Def) h0 h1)).ref (by omega)
      rw [wrap_nat (show j<t.vDefs.length by omega) (by omega)]
      exact ih (j+1) m _ hr.1 hr.2 (by omega) (by omega)
theorem rends_ev {t:api_Types} (hS:∀d∈t.vDefs,ShD d t.vDefs.length) (hn:t.vDefs.length≤200) {i:Nat} (hi:i<t.vDefs.length):Ev (fun k=>taplineref08_ends.f k t (i:Int)) (!lostS t.vDefs t.vDefs.length (t.vDefs.getD i z_api_Def)):=
 ⟨t.vDefs.length + 2, fun k hk => by
  show taplineref08_ends.f k t _=_
  unfold taplineref08_ends.f
  have:=rends_loop hS (by omega) t.vDefs.length 0 k (i:Int) (by omega) (by omega) (by omega) (by omega)
  rw [rd_nat] at this
  exact this⟩
def rplacedAt (l:List Int) (N:Int):Int→List api_Field→Option Int
 |at_,[]=>some at_
 |at_,f::r=>if ((decide (f.vAt<at_))||(decide (f.vAt>N)))=true then none else rplacedAt l N (IntKind.wrap .i64 (f.vAt+rd 0 l f.vType)) r
def rplacedS (d:api_Def) (l:List Int):Bool:=match rplacedAt l d.vN 0 d.vFields with|none=>false|some e=>decide (e≤d.vN)
theorem rplaced_loop {d:api_Def} {l:List Int} (hl:d.vFields.length≤9223372036854775807) (ht:∀f∈d.vFields,0≤f.vType∧f.vType<l.length):∀(e j m:Nat) (at_:Int),j+e=d.vFields.length→e<m→
    taplineref08_placed.l0 d l m at_ (j:Int)=some (match rplacedAt l d.vN at_ (d.vFields.drop j) with|none=> .inl false|some a=> .inr a):=by
  intro e
  induction e with
  | zero =>
    intro j m at_ hj hm
    obtain ⟨m,rfl⟩:∃q,m=q+1:=⟨m-1,by omega⟩
    rw [taplineref08_placed.l0,if_neg (by simp;omega),List.drop_eq_nil_of_le (by omega)]
    rfl
  | succ e ih =>
    intro j m at_ hj hm
    obtain ⟨m,rfl⟩:∃q,m=q+1:=⟨m-1,by omega⟩
    have hlt:j<d.vFields.length:=by omega
    have hf:=ht _ (getD_mem (z:=z_api_Field) hlt)
    rw [taplineref08_placed.l0,if_pos (by simp;omega),if_pos (by omega),rd_nat,drop_getD z_api_Field hlt]
    simp only [rplacedAt]
    by_cases hc:((decide ((d.vFields.getD j z_api_Field).vAt<at_))||(decide ((d.vFields.getD j z_api_Field).vAt>d.vN)))=true
    · rw [if_pos hc,if_pos hc]
    · rw [if_neg hc,if_neg hc,if_pos hf,wrap_nat hlt hl,ih (j+1) m _ (by omega) (by omega)]
theorem rplaced_ev {d:api_Def} {l:List Int} (hl:d.vFields.length≤9223372036854775807) (ht:∀f∈d.vFields,0≤f.vType∧f.vType<l.length):Ev (fun k=>taplineref08_placed.f k d l) (rplacedS d l):=by
 refine ⟨d.vFields.length+1,fun k hk=>?_⟩
 show taplineref08_placed.f k d l=_
 unfold taplineref08_placed.f rplacedS
 rw [show taplineref08_placed.l0 d l k 0 0=_ from rplaced_loop hl ht d.vFields.length 0 k 0 (by omega) (by omega),List.drop_zero]
 cases rplacedAt l d.vN 0 d.vFields<;>rfl
theorem placed_over {l:List Int} {N:Int} (hN:0≤N):∀(fs:List api_Field) (a:Int),N<a→a≤1024→(∀f∈fs,0<rd 0 l f.vType∧rd 0 l f.vType≤512)→(match placedAt l a fs with|none=>false|some e=>decide (e≤N))=false:=by
  intro fs
  induction fs with
  |nil=>intro a h1 h2 _;simp only [placedAt];exact decide_eq_false (by omega)
  | cons f r ih =>
    intro a h1 h2 hf
    have h3:=hf f List.mem_cons_self
    simp only [placedAt]
    by_cases hc:((decide (f.vAt<a))||(decide (f.vAt>512)))=true
    · rw [if_pos hc]
    · rw [if_neg hc]
      simp only [Bool.or_eq_true,decide_eq_true_eq,not_or] at hc
      rw [wrap_id (by omega) (by omega)]
      exact ih _ (by omega) (by omega) (fun g hg=>hf g (List.mem_cons_of_mem _ hg))
theorem placed_same {l : List Int} {N : Int} (hN : 0 ≤ N) (hN2 : N ≤ 512) : ∀ (fs : List api_Field) (a : Int), 0 ≤ a → (∀ f ∈ fs, 0 < rd 0 l f.vType ∧ rd 0 l f.vType ≤ 512) →
    (match rplacedAt l N a fs with|none=>false|some e=>decide (e≤N))=(match placedAt l a fs with|none=>false|some e=>decide (e≤N)):=by
  intro fs
  induction fs with
  |nil=>intro a _ _;rfl
  | cons f r ih =>
    intro a h0 hf
    have h3:=hf f List.mem_cons_self
    simp only [placedAt,rplacedAt]
    by_cases hc:((decide (f.vAt<a))||(decide (f.vAt>N)))=true
    · rw [if_pos hc]
      by_cases hc2:((decide (f.vAt<a))||(decide (f.vAt>512)))=true
      · rw [if_pos hc2]
      · rw [if_neg hc2]
        simp only [Bool.or_eq_true,decide_eq_true_eq,not_or] at hc hc2
        rw [wrap_id (by omega) (by omega)]
        exact (placed_over hN r _ (by omega) (by omega) (fun g hg=>hf g (List.mem_cons_of_mem _ hg))).symm
    · rw [if_neg hc,if_neg]
      · simp only [Bool.or_eq_true,decide_eq_true_eq,not_or] at hc
        rw [wrap_id (by omega) (by omega)]
        exact ih _ (by omega) (fun g hg=>hf g (List.mem_cons_of_mem _ hg))
      · simp only [Bool.or_eq_true,decide_eq_true_eq,not_or] at hc⊢
        omega
theorem rplaced_same {defs:List api_Def} {l:List Int} (G:GoodSz defs l) (hS:∀d∈defs,ShD d defs.length) {d:api_Def} (hd:d∈defs) (h4:d.vKind=4):rplacedS d l=placedS d l:=by
 obtain ⟨rk,h⟩:=G.ex
 have h1:=(hS d hd).num (.inr h4)
 have h2:=(hS d hd).typ h4
 exact placed_same (by omega) h1.2 _ _ (by omega) (fun f hf => by
  have h3:=h2 f hf
  have:=h f.vType.toNat (by omega)
  exact ⟨this.1, this.2.1⟩)
theorem rseen_loop {t:api_Types} (hl:t.vDefs.length≤9223372036854775807) {i:Nat} (hi:i<t.vDefs.length):∀(e j m:Nat),j+e=i→e<m→
    taplineref08_Check.l1 t (i:Int) m (j:Int)=some (if (namedS (t.vDefs.getD i z_api_Def)&&(((t.vDefs.take i).drop j).any fun f=>strEq f.vName (t.vDefs.getD i z_api_Def).vName))=true then .inl 80 else .inr ()):=by
  intro e
  induction e with
  | zero =>
    intro j m hj hm
    obtain ⟨m,rfl⟩:∃q,m=q+1:=⟨m-1,by omega⟩
    rw [taplineref08_Check.l1,if_neg (by simp;omega),List.drop_eq_nil_of_le (by simp;omega)]
    simp
  | succ e ih =>
    intro j m hj hm
    obtain ⟨m,rfl⟩:∃q,m=q+1:=⟨m-1,by omega⟩
    have hlt:j<t.vDefs.length:=by omega
    have hd:(t.vDefs.take i).drop j=t.vDefs.getD j z_api_Def::(t.vDefs.take i).drop (j+1):=by
      rw [drop_getD z_api_Def (by simp;omega)]
      congr 1
      rw [List.getD_eq_getElem?_getD,List.getD_eq_getElem?_getD,List.getElem?_take,if_pos (by omega)]
    rw [taplineref08_Check.l1,if_pos (by simp;omega),if_pos (by omega),rd_nat,rd_nat,hd,List.any_cons]
    simp only [taplineref08_Named.f,Option.bind_some]
    rw [if_pos (fun _=>by omega),if_pos (fun _=>by omega),wrap_nat hlt hl,ih (j+1) m (by omega) (by omega)]
    show (if (namedS (t.vDefs.getD i z_api_Def)&&_)=true then _ else _)=_
    cases namedS (t.vDefs.getD i z_api_Def)<;>cases (strEq (t.vDefs.getD j z_api_Def).vName (t.vDefs.getD i z_api_Def).vName)<;>cases (((t.vDefs.take i).drop (j+1)).any fun f=>strEq f.vName (t.vDefs.getD i z_api_Def).vName)<;>rfl
theorem any_revD (l:List api_Def) (s:ByteArray):((l.map (·.vName)).reverse.any (strEq s))=l.any fun f=>strEq f.vName s:=by
 rw [List.any_reverse,List.any_map]
 congr 1
 funext f
 exact strEq_comm _ _
theorem rdefs_loop {t : api_Types} (hF : ∀ d ∈ t.vDefs, FitD d) (hl : t.vDefs.length ≤ 9223372036854775807) : ∀ (e j : Nat), j + e = t.vDefs.length →
    Ev2 (fun k m=>taplineref08_Check.l0 k t m (j:Int)) (if defsS t.vDefs.length ((t.vDefs.take j).map (·.vName)).reverse (t.vDefs.drop j)=true then .inr () else .inl 80):=by
  intro e
  induction e with
  | zero =>
    intro j hj
    refine Ev2.pure fun k m=>?_
    rw [taplineref08_Check.l0,if_neg (by simp;omega),List.drop_eq_nil_of_le (by omega)]
    rfl
  | succ e ih =>
    intro j hj
    have hlt:j<t.vDefs.length:=by omega
    have hmem:=getD_mem (z:=z_api_Def) hlt
    have hFd:=hF _ hmem
    have h1:=rshaped_ev (t:=t) hFd.len hFd.names hFd.name
    have h2:=ih (j+1) (by omega)
    have ht:((t.vDefs.take (j+1)).map (·.vName)).reverse=(t.vDefs.getD j z_api_Def).vName::((t.vDefs.take j).map (·.vName)).reverse:=by
      rw [List.take_add_one,List.map_append,List.reverse_append]
      rw [List.getD_eq_getElem?_getD,List.getElem?_eq_getElem hlt]
      rfl
    rw [ht] at h2
    rw [drop_getD z_api_Def hlt,defsS]
    refine Ev2.step h1 (r:=fun k m v1=>if (!v1)=true then (some (.inl 80)) else ((taplineref08_Check.l1 t (j:Int) k 0).bind fun xx2=>(match xx2 with| .inl r=>some (.inl r)| .inr s1=>taplineref08_Check.l0 k t m ((j+1:Nat):Int)))) ?_ (fun k m=>?_)
    · rcases Bool.eq_false_or_eq_true (shapedS (t.vDefs.getD j z_api_Def) (t.vDefs.length:Int)) with hn|hn
      · obtain ⟨K,hK⟩:=h2
        rw [hn]
        refine ⟨max K (j+1),fun k m hk hm=>?_⟩
        have h3:=rseen_loop hl hlt j 0 k (by omega) (by omega)
        rw [List.drop_zero] at h3
        simp only [Bool.not_true,Bool.false_eq_true,if_false,Bool.true_and]
        rw [show taplineref08_Check.l1 t (j:Int) k 0=_ from h3,any_revD]
        cases ha:namedS (t.vDefs.getD j z_api_Def)&&(t.vDefs.take j).any fun f=>strEq f.vName (t.vDefs.getD j z_api_Def).vName with
        |true=>simp
        |false=>simpa using hK k m (by omega) (by omega)
      · exact ⟨0,fun k m _ _=>by rw [hn];rfl⟩
    · rw [taplineref08_Check.l0,if_pos (by simp;omega),if_pos (by omega),rd_nat,wrap_nat hlt hl]
      try rfl
def CondQ (t:api_Types) (known:List Int) (q:Nat):Prop:=known.getD q 0≠0∧known.getD q 0≤512∧lostS t.vDefs t.vDefs.length (t.vDefs.getD q z_api_Def)=false∧((t.vDefs.getD q z_api_Def).vKind=4→rplacedS (t.vDefs.getD q z_api_Def) known=true)
theorem rlast_loop {t : api_Types} {known : List Int} (hF : ∀ d ∈ t.vDefs, FitD d) (hS : ∀ d ∈ t.vDefs, ShD d t.vDefs.length) (hn : t.vDefs.length ≤ 200) (hk : known.length = t.vDefs.length) : ∀ (e j : Nat), j + e = t.vDefs.length →
    ∃v,Ev2 (fun k m=>taplineref08_Check.l2 k t known m (j:Int)) v∧((v= .inr ()∧∀q,j≤q→q<t.vDefs.length→CondQ t known q)∨(v= .inl 80∧¬∀q,j≤q→q<t.vDefs.length→CondQ t known q)):=by
  intro e
  induction e with
  | zero =>
    intro j hj
    refine ⟨.inr (),Ev2.pure fun k m=>?_, .inl ⟨rfl,fun q _ _=>by omega⟩⟩
    rw [taplineref08_Check.l2,if_neg (by simp;omega)]
  | succ e ih =>
    intro j hj
    have hlt:j<t.vDefs.length:=by omega
    have hmem:=getD_mem (z:=z_api_Def) hlt
    have he:=rends_ev hS hn hlt
    obtain ⟨v,hv,hp⟩:=ih (j+1) (by omega)
    by_cases hc:CondQ t known j
    · obtain ⟨c1,c2,c3,c4⟩:=hc
      refine ⟨v,?_,?_⟩
      · obtain ⟨K1,hK1⟩:=he
        obtain ⟨K2,hK2⟩:=hv
        by_cases h4:(t.vDefs.getD j z_api_Def).vKind=4
        · obtain ⟨K3,hK3⟩:=rplaced_ev (d:=t.vDefs.getD j z_api_Def) (l:=known) (hF _ hmem).len (fun f hf=>by have:=(hS _ hmem).typ h4 f hf;rw [hk];exact this)
          refine ⟨max (max K1 K2) K3+1,fun k m hk1 hm1=>?_⟩
          obtain ⟨m,rfl⟩:∃q,m=q+1:=⟨m-1,by omega⟩
          show taplineref08_Check.l2 k t known (m+1) (j:Int)=_
          rw [taplineref08_Check.l2,if_pos (by simp;omega),if_pos (by omega),if_pos (fun _=>by omega),rd_nat,rd_nat,show taplineref08_ends.f k t (j:Int)=_ from hK1 k (by omega),c3]
          rw [show (known.getD j 0==0)=false from by simpa using c1,show decide (known.getD j 0>512)=false from decide_eq_false (by omega)]
          simp only [Bool.or_self,beq_self_eq_true,Bool.and_self,if_true,Bool.not_false,Option.bind_some,Bool.not_true,Bool.false_eq_true,if_false]
          rw [if_pos (by omega),if_pos (fun _=>by omega),show ((t.vDefs.getD j z_api_Def).vKind==4)=true from by simpa using h4]
          simp only [Bool.true_and,beq_self_eq_true,if_true]
          rw [show taplineref08_placed.f k _ known=_ from hK3 k (by omega),c4 h4]
          simp only [Option.bind_some,Bool.not_true,Bool.false_eq_true,if_false]
          rw [wrap_nat hlt (by omega)]
          exact hK2 k m (by omega) (by omega)
        · refine ⟨max K1 K2+1,fun k m hk1 hm1=>?_⟩
          obtain ⟨m,rfl⟩:∃q,m=q+1:=⟨m-1,by omega⟩
          show taplineref08_Check.l2 k t known (m+1) (j:Int)=_
          rw [taplineref08_Check.l2,if_pos (by simp;omega),if_pos (by omega),if_pos (fun _=>by omega),rd_nat,rd_nat,show taplineref08_ends.f k t (j:Int)=_ from hK1 k (by omega),c3]
          rw [show (known.getD j 0==0)=false from by simpa using c1,show decide (known.getD j 0>512)=false from decide_eq_false (by omega)]
          simp only [Bool.or_self,beq_self_eq_true,Bool.and_self,if_true,Bool.not_false,Option.bind_some,Bool.not_true,Bool.false_eq_true,if_false]
          rw [if_pos (by omega),if_pos (fun _=>by omega),show ((t.vDefs.getD j z_api_Def).vKind==4)=false from by simpa using h4]
          simp only [Bool.true_and,Bool.false_and,Bool.false_eq_true,if_false,Option.bind_some,show (false==true)=false from rfl]
          rw [wrap_nat hlt (by omega)]
          exact hK2 k m (by omega) (by omega)
      · rcases hp with ⟨a,b⟩|⟨a,b⟩
        · refine .inl ⟨a,fun q hq hq2=>?_⟩
          by_cases hqj:q=j
          · subst hqj;exact ⟨c1,c2,c3,c4⟩
          · exact b q (by omega) hq2
        · exact .inr ⟨a,fun h=>b (fun q hq hq2=>h q (by omega) hq2)⟩
    · refine ⟨.inl 80,?_, .inr ⟨rfl,fun h=>hc (h j (by omega) hlt)⟩⟩
      obtain ⟨K1,hK1⟩:=he
      by_cases c1:known.getD j 0=0
      · refine ⟨K1+1,fun k m hk1 hm1=>?_⟩
        obtain ⟨m,rfl⟩:∃q,m=q+1:=⟨m-1,by omega⟩
        show taplineref08_Check.l2 k t known (m+1) (j:Int)=_
        rw [taplineref08_Check.l2,if_pos (by simp;omega),if_pos (by omega),if_pos (fun _=>by omega),rd_nat,c1]
        rfl
      · by_cases c2:known.getD j 0≤512
        · cases c3:lostS t.vDefs t.vDefs.length (t.vDefs.getD j z_api_Def) with
          | true =>
            refine ⟨K1+1,fun k m hk1 hm1=>?_⟩
            obtain ⟨m,rfl⟩:∃q,m=q+1:=⟨m-1,by omega⟩
            show taplineref08_Check.l2 k t known (m+1) (j:Int)=_
            rw [taplineref08_Check.l2,if_pos (by simp;omega),if_pos (by omega),if_pos (fun _=>by omega),rd_nat,show taplineref08_ends.f k t (j:Int)=_ from hK1 k (by omega),c3]
            rw [show (known.getD j 0==0)=false from by simpa using c1,show decide (known.getD j 0>512)=false from decide_eq_false (by omega)]
            rfl
          | false =>
            have h4:(t.vDefs.getD j z_api_Def).vKind=4:=Classical.byContradiction fun h=>hc ⟨c1,c2,c3,fun h2=>absurd h2 h⟩
            have hpf:rplacedS (t.vDefs.getD j z_api_Def) known=false:=by
              cases hpp:rplacedS (t.vDefs.getD j z_api_Def) known with
              |false=>rfl
              |true=>exact absurd ⟨c1,c2,c3,fun _=>hpp⟩ hc
            obtain ⟨K3,hK3⟩:=rplaced_ev (d:=t.vDefs.getD j z_api_Def) (l:=known) (hF _ hmem).len (fun f hf=>by have:=(hS _ hmem).typ h4 f hf;rw [hk];exact this)
            refine ⟨max K1 K3+1,fun k m hk1 hm1=>?_⟩
            obtain ⟨m,rfl⟩:∃q,m=q+1:=⟨m-1,by omega⟩
            show taplineref08_Check.l2 k t known (m+1) (j:Int)=_
            rw [taplineref08_Check.l2,if_pos (by simp;omega),if_pos (by omega),if_pos (fun _=>by omega),rd_nat,rd_nat,show taplineref08_ends.f k t (j:Int)=_ from hK1 k (by omega),c3]
            rw [show (known.getD j 0==0)=false from by simpa using c1,show decide (known.getD j 0>512)=false from decide_eq_false (by omega)]
            simp only [Bool.or_self,beq_self_eq_true,Bool.and_self,if_true,Bool.not_false,Option.bind_some,Bool.not_true,Bool.false_eq_true,if_false]
            rw [if_pos (by omega),if_pos (fun _=>by omega),show ((t.vDefs.getD j z_api_Def).vKind==4)=true from by simpa using h4]
            simp only [Bool.true_and,beq_self_eq_true,if_true]
            rw [show taplineref08_placed.f k _ known=_ from hK3 k (by omega),hpf]
            rfl
        · refine ⟨K1+1,fun k m hk1 hm1=>?_⟩
          obtain ⟨m,rfl⟩:∃q,m=q+1:=⟨m-1,by omega⟩
          show taplineref08_Check.l2 k t known (m+1) (j:Int)=_
          rw [taplineref08_Check.l2,if_pos (by simp;omega),if_pos (by omega),if_pos (fun _=>by omega),rd_nat]
          rw [show (known.getD j 0==0)=false from by simpa using c1,show decide (known.getD j 0>512)=true from decide_eq_true (by omega)]
          rfl
theorem rcheck_iff {t : api_Types} (hF : ∀ d ∈ t.vDefs, FitD d) : (∃ l, Wf t l ∧ Ev (fun k => taplineref08_sizes.f k t) l ∧ Ev (fun k => taplineref08_Check.f k t) 0) ∨ ((∀ l, ¬ Wf t l) ∧ Ev (fun k => taplineref08_Check.f k t) 80) := by
  by_cases hn:(t.vDefs.length:Int)>200
  · refine .inr ⟨fun l W=>by have:=W.few;omega,Ev.pure fun k=>?_⟩
    unfold taplineref08_Check.f
    rw [if_pos (by simpa using hn)]
  · have hn:t.vDefs.length≤200:=by omega
    have hcond:¬decide ((t.vDefs.length:Int)>200)=true:=by simp;omega
    obtain ⟨K,hK⟩:=(rdefs_loop hF (by omega) t.vDefs.length 0 (by omega)).diag
    simp only [List.take_zero,List.map_nil,List.reverse_nil,List.drop_zero] at hK
    cases hd:defsS t.vDefs.length [] t.vDefs with
    | false =>
      rw [hd] at hK
      refine .inr ⟨fun l W=>(by have:=W.defs;rw [hd] at this;cases this),⟨K,fun k hk=>?_⟩⟩
      show taplineref08_Check.f k t=_
      unfold taplineref08_Check.f
      rw [if_neg hcond,show taplineref08_Check.l0 k t k 0=_ from hK k hk]
      rfl
    | true =>
      rw [hd] at hK
      have hS:=defs_of _ _ hd
      obtain ⟨known,hsz,I,F⟩:=rsizes_ev hS hn
      obtain ⟨v,hv,hp⟩:=rlast_loop hF hS hn I.len t.vDefs.length 0 (by omega)
      obtain ⟨K2,hK2⟩:=hv.diag
      obtain ⟨K3,hK3⟩:=hsz
      rcases hp with ⟨rfl,hp⟩|⟨rfl,hp⟩
      · have hg:=rsizes_conv I (fun j hj=>⟨(hp j (by omega) hj).1,(hp j (by omega) hj).2.1⟩)
        have hidx:∀d∈t.vDefs,∃q,q<t.vDefs.length∧t.vDefs.getD q z_api_Def=d:=fun d hd=>by
          obtain ⟨q,hq,e⟩:=List.mem_iff_getElem.1 hd
          exact ⟨q,hq,by rw [List.getD_eq_getElem?_getD,List.getElem?_eq_getElem hq];exact e⟩
        refine .inl ⟨known,⟨hn,hd,hg,fun d hd=>?_,fun d hd h4=>?_⟩,⟨K3,hK3⟩,⟨max (max K K2) K3,fun k hk=>?_⟩⟩
        · obtain ⟨q,hq,rfl⟩:=hidx d hd
          exact (hp q (by omega) hq).2.2.1
        · rw [←rplaced_same hg hS hd h4]
          obtain ⟨q,hq,rfl⟩:=hidx d hd
          exact (hp q (by omega) hq).2.2.2 h4
        · show taplineref08_Check.f k t=_
          unfold taplineref08_Check.f
          rw [if_neg hcond,show taplineref08_Check.l0 k t k 0=_ from hK k (by omega)]
          simp only [if_true,Option.bind_some]
          rw [show taplineref08_sizes.f k t=_ from hK3 k (by omega)]
          simp only [Option.bind_some]
          rw [show taplineref08_Check.l2 k t known k 0=_ from hK2 k (by omega)]
          rfl
      · refine .inr ⟨fun l W=>?_,⟨max (max K K2) K3,fun k hk=>?_⟩⟩
        · have hkl:=rsizes_good hS I F W.sz
          subst hkl
          refine hp fun q _ hq=>?_
          obtain ⟨rk,h⟩:=W.sz.ex
          have hm:=getD_mem (z:=z_api_Def) hq
          refine ⟨by have:=(h q hq).1;omega,(h q hq).2.1,W.ends _ hm,fun h4=>?_⟩
          rw [rplaced_same W.sz hS hm h4]
          exact W.placed _ hm h4
        · show taplineref08_Check.f k t=_
          unfold taplineref08_Check.f
          rw [if_neg hcond,show taplineref08_Check.l0 k t k 0=_ from hK k (by omega)]
          simp only [if_true,Option.bind_some]
          rw [show taplineref08_sizes.f k t=_ from hK3 k (by omega)]
          simp only [Option.bind_some]
          rw [show taplineref08_Check.l2 k t known k 0=_ from hK2 k (by omega)]
          rfl
section
variable {t:api_Types} {l:List Int}
theorem rgiven_good (hc:Ev (fun k=>taplineref08_Check.f k t) 0) (i:Int):Ev (fun k=>taplineref08_given.f k t i) (if 0≤i∧i<t.vDefs.length then 0 else 3):=by
 obtain ⟨K,hK⟩:=hc
 refine ⟨K,fun k hk=>?_⟩
 show taplineref08_given.f k t i=_
 unfold taplineref08_given.f taplineref08_Index.f
 rw [show taplineref08_Check.f k t=_ from hK k hk]
 by_cases h0:0≤i
 ·by_cases h1:i<(t.vDefs.length:Int)
  ·rw [if_pos ⟨h0,h1⟩];simp [h0,h1]
  ·rw [if_neg (fun h=>h1 h.2)];simp [h0,h1]
 ·rw [if_neg (fun h=>h0 h.1)];simp [h0]
theorem rgiven_bad (hc:Ev (fun k=>taplineref08_Check.f k t) 80) (i:Int):Ev (fun k=>taplineref08_given.f k t i) 80:=by
 obtain ⟨K,hK⟩:=hc
 refine ⟨K,fun k hk=>?_⟩
 show taplineref08_given.f k t i=_
 unfold taplineref08_given.f
 rw [show taplineref08_Check.f k t=_ from hK k hk]
 rfl
theorem given_both (hF : ∀ d ∈ t.vDefs, FitD d) (i : Int) : (∃ e, e ≠ 0 ∧ Ev (fun k => ctf_given.f k t i) e ∧ Ev (fun k => taplineref08_given.f k t i) e) ∨
    (∃(n:Nat) (l:List Int),i=(n:Int)∧n<t.vDefs.length∧Wf t l∧Ev (fun k=>ctf_valid.f k t) true∧Ev (fun k=>taplineref08_sizes.f k t) l∧Ev (fun k=>ctf_given.f k t i) 0∧Ev (fun k=>taplineref08_given.f k t i) 0):=by
  rcases valid_iff hF with ⟨l,W,hv⟩|⟨hno,hv⟩
  · rcases rcheck_iff hF with ⟨l2,W2,hs,hc⟩|⟨hno,hc⟩
    · have h1:=given_good hv i
      have h2:=rgiven_good hc i
      by_cases h:0≤i∧i<t.vDefs.length
      · rw [if_pos h] at h1 h2
        exact .inr ⟨i.toNat,l2,by omega,by omega,W2,hv,hs,h1,h2⟩
      · rw [if_neg h] at h1 h2
        exact .inl ⟨3,by decide,h1,h2⟩
    · exact absurd W (hno l)
  · rcases rcheck_iff hF with ⟨l2,W2,hs,hc⟩|⟨hno,hc⟩
    · exact absurd W2 (hno l2)
    · exact .inl ⟨80,by decide,given_bad hv i,rgiven_bad hc i⟩
theorem Size_both (hF:∀d∈t.vDefs,FitD d) (i:Int):∃a e,Ev (fun k=>ctf_Size.f k t i) (a,e)∧Ev (fun k=>taplineref08_Size.f k t i) ⟨a,e⟩:=by
 rcases given_both hF i with ⟨e,he,h1,h2⟩|⟨n,l,rfl,hn,W,hv,hs,h1,h2⟩
 ·refine ⟨0,e,Size_err h1 he,?_⟩
  obtain ⟨K,hK⟩:=h2
  refine ⟨K,fun k hk=>?_⟩
  show taplineref08_Size.f k t i=_
  unfold taplineref08_Size.f
  rw [show taplineref08_given.f k t i=_ from hK k hk]
  simp [he]
 ·refine ⟨l.getD n 0,0,Size_ev W.good hv hn,?_⟩
  obtain ⟨K,hK⟩:=h2
  obtain ⟨K2,hK2⟩:=hs
  refine ⟨max K K2,fun k hk=>?_⟩
  show taplineref08_Size.f k t (n:Int)=_
  unfold taplineref08_Size.f
  rw [show taplineref08_given.f k t (n:Int)=_ from hK k (by omega)]
  simp only [Option.bind_some]
  rw [if_neg (by decide),show taplineref08_sizes.f k t=_ from hK2 k (by omega)]
  simp only [Option.bind_some]
  rw [if_pos (by rw [W.sz.len];omega),rd_nat]
end
section
variable {t:api_Types} {l:List Int}
theorem resolved_same (t:api_Types):∀(m:Nat) (i:Int),taplineref08_Resolved.l0 t m i=ctf_resolved.l0 t m i
 |0,i=>rfl
 |m+1,i=>by rw [taplineref08_Resolved.l0,ctf_resolved.l0,resolved_same t m]
def partOf (x:api_Field×Int):taplineref08_Part:=⟨x.1,x.2⟩
theorem rmember_loop {name : ByteArray} {v : Int} : ∀ (m : Nat) (y : Int), taplineref08_Member.l0 t name v m y = (ctf_member.l0 t name v m y).map (fun x => match x with | .inl r => .inl (partOf r) | .inr s => .inr s)
  |0,y=>rfl
  | m + 1, y => by
    rw [taplineref08_Member.l0,ctf_member.l0]
    by_cases h1:decide (y<(((rd z_api_Def t.vDefs v).vFields).length:Int))=true
    · rw [if_pos h1,if_pos h1]
      by_cases h2:0≤y∧y<((rd z_api_Def t.vDefs v).vFields).length
      · by_cases h3:strEq (rd z_api_Field (rd z_api_Def t.vDefs v).vFields y).vName name=true
        · simp only [if_pos h2,if_pos h3];rfl
        · simp only [if_pos h2,if_neg h3];exact rmember_loop m _
      · rw [if_neg h2,if_neg h2];rfl
    · rw [if_neg h1,if_neg h1];rfl
theorem rMember_ev {n : Nat} {name : ByteArray} {x : api_Field × Int} (hg : Ev (fun k => taplineref08_given.f k t (n : Int)) 0) (hx : Ev (fun k => ctf_member.f k t (n : Int) name) x) : Ev (fun k => taplineref08_Member.f k t (n : Int) name) (partOf x) := by
  obtain ⟨K,hK⟩:=hg
  obtain ⟨K2,hK2⟩:=hx
  refine ⟨max K K2,fun k hk=>?_⟩
  show taplineref08_Member.f k t (n:Int) name=_
  unfold taplineref08_Member.f
  rw [show taplineref08_given.f k t (n:Int)=_ from hK k (by omega)]
  simp only [Option.bind_some]
  have h2:ctf_member.f k t (n:Int) name=_:=hK2 k (by omega)
  unfold ctf_member.f ctf_resolved.f at h2
  rw [if_neg (by decide)]
  unfold taplineref08_Resolved.f
  rw [resolved_same]
  cases hr:ctf_resolved.l0 t k (n:Int) with
  |none=>rw [hr] at h2;cases h2
  | some v =>
    rw [hr] at h2
    simp only [Option.bind_some] at h2⊢
    by_cases h3:0≤v∧v<t.vDefs.length
    · rw [if_pos h3] at h2⊢
      by_cases h4:((rd z_api_Def t.vDefs v).vKind !=4)=true
      · rw [if_pos h4] at h2⊢
        rw [←Option.some.inj h2];rfl
      · rw [if_neg h4] at h2⊢
        rw [rmember_loop]
        cases hm:ctf_member.l0 t name v k 0 with
        |none=>rw [hm] at h2;cases h2
        | some y =>
          rw [hm] at h2
          cases y with
          | inl r =>
            simp only [Option.bind_some,Option.map_some] at h2⊢
            rw [←Option.some.inj h2]
          | inr s =>
            simp only [Option.bind_some,Option.map_some] at h2⊢
            rw [←Option.some.inj h2];rfl
    · rw [if_neg h3] at h2;cases h2
def reachedOf (x:Int×Int×Int):taplineref08_Reached:=⟨x.1,x.2.1,x.2.2⟩
theorem rpath_loop {mem:Nat→ByteArray→api_Field×Int} (hm:MemOk t mem) (hg:∀n:Nat,n<t.vDefs.length→Ev (fun k=>taplineref08_given.f k t (n:Int)) 0) {p:List ByteArray} (hp:p.length≤9223372036854775807):∀(e j i:Nat) (a:Int),j+e=p.length→i<t.vDefs.length→
    Ev2 (fun k m=>taplineref08_Path.l0 k t p m (i:Int) a (j:Int)) (if (pathV mem (p.drop j) i a).2.2≠0 then .inl (reachedOf (pathV mem (p.drop j) i a)) else .inr ((pathV mem (p.drop j) i a).1,(pathV mem (p.drop j) i a).2.1)):=by
  intro e
  induction e with
  | zero =>
    intro j i a hj hi
    rw [List.drop_eq_nil_of_le (by omega)]
    refine Ev2.pure fun k m=>?_
    rw [taplineref08_Path.l0,if_neg (by simp;omega)]
    simp [pathV]
  | succ e ih =>
    intro j i a hj hi
    have hlt:j<p.length:=by omega
    rw [drop_getD ByteArray.empty hlt]
    have hev:=rMember_ev (hg i hi) (hm.ev i (p.getD j ByteArray.empty) hi)
    have hty:=hm.typ i (p.getD j ByteArray.empty) hi
    have hstep:∀k m,taplineref08_Path.l0 k t p (m+1) (i:Int) a (j:Int)=(taplineref08_Member.f k t (i:Int) (p.getD j ByteArray.empty)).bind fun v2=>if (v2.vE !=0)=true then some (.inl (⟨0,0,v2.vE⟩:taplineref08_Reached)) else taplineref08_Path.l0 k t p m v2.vF.vType (IntKind.wrap .i64 (a+v2.vF.vAt)) (((j+1:Nat)):Int):=by
      intro k m
      rw [taplineref08_Path.l0,if_pos (by simp;omega),if_pos (by omega),rd_nat,wrap_nat hlt hp]
    have hpv:pathV mem (p.getD j ByteArray.empty::p.drop (j+1)) i a=if (mem i (p.getD j ByteArray.empty)).2≠0 then (0,0,(mem i (p.getD j ByteArray.empty)).2) else pathV mem (p.drop (j+1)) (mem i (p.getD j ByteArray.empty)).1.vType.toNat (IntKind.wrap .i64 (a+(mem i (p.getD j ByteArray.empty)).1.vAt)):=rfl
    by_cases h0:(mem i (p.getD j ByteArray.empty)).2=0
    · obtain ⟨h1,h2⟩:=hty h0
      have h3:=ih (j+1) (mem i (p.getD j ByteArray.empty)).1.vType.toNat (IntKind.wrap .i64 (a+(mem i (p.getD j ByteArray.empty)).1.vAt)) (by omega) (by omega)
      rw [if_neg (fun h=>h h0)] at hpv
      rw [hpv]
      refine Ev2.step hev ?_ hstep
      obtain ⟨K,hK⟩:=h3
      refine ⟨K,fun k m hk hm=>?_⟩
      show (if _ then _ else _)=_
      rw [if_neg (bneF (show (partOf (mem i (p.getD j ByteArray.empty))).vE=0 from h0))]
      have:=hK k m hk hm
      rwa [show (((mem i (p.getD j ByteArray.empty)).1.vType.toNat:Nat):Int)=(mem i (p.getD j ByteArray.empty)).1.vType by omega] at this
    · rw [if_pos h0] at hpv
      rw [hpv]
      refine Ev2.step hev ⟨0,fun k m _ _=>?_⟩ hstep
      show (if _ then _ else _)=_
      rw [if_pos (bneT (show (partOf (mem i (p.getD j ByteArray.empty))).vE≠0 from h0)),if_pos h0]
      rfl
theorem Path_both (hF : ∀ d ∈ t.vDefs, FitD d) (i : Int) (p : List ByteArray) : ∃ x : Int × Int × Int, Ev (fun k => ctf_Path.f k t i p) x ∧ Ev (fun k => taplineref08_Path.f k t i p) (reachedOf x) := by
  rcases given_both hF i with ⟨e,he,⟨K,hK⟩,⟨K2,hK2⟩⟩|⟨n,l,rfl,hn,W,hv,hs,h1,⟨K2,hK2⟩⟩
  · refine ⟨(0,0,e),⟨K,fun k hk=>?_⟩,⟨K2,fun k hk=>?_⟩⟩
    · show ctf_Path.f k t i p=_
      unfold ctf_Path.f
      rw [show ctf_given.f k t i=_ from hK k hk]
      simp [he]
    · show taplineref08_Path.f k t i p=_
      unfold taplineref08_Path.f
      rw [show taplineref08_given.f k t i=_ from hK2 k hk]
      simp [he,reachedOf]
  · by_cases hp:p.length≤16
    · obtain ⟨mem,hm⟩:=mem_ok W.good
      obtain ⟨h3,_⟩:=Path_ev hm hv hn hp
      refine ⟨_,h3,?_⟩
      have hg:∀n:Nat,n<t.vDefs.length→Ev (fun k=>taplineref08_given.f k t (n:Int)) 0:=fun q hq=>by
        rcases given_both hF (q:Int) with ⟨e,he,h5,h6⟩|⟨_,_,_,_,_,_,_,_,h6⟩
        · exact absurd (h5.uniq (given_in hv hq)) he
        · exact h6
      obtain ⟨K3,hK3⟩:=(rpath_loop hm hg (p:=p) (by omega) p.length 0 n 0 (by omega) hn).diag
      rw [List.drop_zero] at hK3
      refine ⟨max K2 K3,fun k hk=>?_⟩
      show taplineref08_Path.f k t (n:Int) p=_
      unfold taplineref08_Path.f
      rw [show taplineref08_given.f k t (n:Int)=_ from hK2 k (by omega)]
      simp only [Option.bind_some]
      rw [show decide ((p.length:Int)>16)=false from decide_eq_false (by omega)]
      simp only [Bool.and_false,Bool.false_eq_true,if_false,Option.bind_some]
      rw [if_neg (by decide),show taplineref08_Path.l0 k t p k (n:Int) 0 0=_ from hK3 k (by omega)]
      simp only [Option.bind_some]
      generalize pathV mem p n 0=v
      by_cases h0:v.2.2=0
      · rw [if_neg (by simp [h0])]
        obtain ⟨a,b,c⟩:=v
        simp only at h0
        subst h0
        rfl
      · rw [if_pos h0]
    · obtain ⟨K,hK⟩:=h1
      refine ⟨(0,0,2),⟨K,fun k hk=>?_⟩,⟨K2,fun k hk=>?_⟩⟩
      · show ctf_Path.f k t (n:Int) p=_
        unfold ctf_Path.f
        rw [show ctf_given.f k t (n:Int)=_ from hK k hk]
        simp only [Option.bind_some]
        rw [if_neg (by decide),if_pos (decide_eq_true (by omega))]
      · show taplineref08_Path.f k t (n:Int) p=_
        unfold taplineref08_Path.f
        rw [show taplineref08_given.f k t (n:Int)=_ from hK2 k hk]
        simp only [Option.bind_some]
        rw [show decide ((p.length:Int)>16)=true from decide_eq_true (by omega)]
        rfl
end
def bits_through_int8.f (a0:Int):Option (Int):=some (IntKind.wrap .i64 (IntKind.wrap .i8 a0))
theorem bits_through_int8.calls (a0:Int) {h0:View} {w0:World} (hv:Sees h0 w0) {r:Int} (H:bits_through_int8.f a0=some r):Calls Tryz.prog 135 #[vI a0] w0 (fun e w1=>e= .returned (vI r)∧Ext w0 w1):=by
 unfold bits_through_int8.f at H
 have HS:St [] h0 w0 h0 [] w0:=St.init hv
 go_enter Tryz.func135,Tryz.ntmps135
 refine wp_seq<|region<|rs (vI 0) (r_assign rfl) ?_
 try simp only [sc0,sc1]
 refine run_nil<|norm_then<|wp_seq<|region<|rs (vI a0) (r_move rfl)<|rs (Value.int .i8 (IntKind.wrap .i8 a0)) (r_conv rfl Tryz.runUnderlying2 Tryz.runUnderlying227)<|rs (vI (w64 (IntKind.wrap .i8 a0))) (r_conv rfl Tryz.runUnderlying227 Tryz.runUnderlying2)<|rs (vI (w64 (IntKind.wrap .i8 a0))) (r_assign rfl) ?_
 try simp only [sc0,sc1]
 refine run_nil<|norm_then<|wp_ret ?_
 obtain rfl:=Option.some.inj H
 exact bodyPost_ret (results_1 rfl (one_tmp rfl)) rfl<|⟨rfl,HS.toE⟩
def bits_through_uint8.f (a0:Int):Option (Int):=some (IntKind.wrap .i64 (IntKind.wrap .u8 a0))
theorem bits_through_uint8.calls (a0:Int) {h0:View} {w0:World} (hv:Sees h0 w0) {r:Int} (H:bits_through_uint8.f a0=some r):Calls Tryz.prog 136 #[vI a0] w0 (fun e w1=>e= .returned (vI r)∧Ext w0 w1):=by
 unfold bits_through_uint8.f at H
 have HS:St [] h0 w0 h0 [] w0:=St.init hv
 go_enter Tryz.func136,Tryz.ntmps136
 refine wp_seq<|region<|rs (vI 0) (r_assign rfl) ?_
 try simp only [sc0,sc1]
 refine run_nil<|norm_then<|wp_seq<|region<|rs (vI a0) (r_move rfl)<|rs (Value.int .u8 (IntKind.wrap .u8 a0)) (r_conv rfl Tryz.runUnderlying2 Tryz.runUnderlying5)<|rs (vI (w64 (IntKind.wrap .u8 a0))) (r_conv rfl Tryz.runUnderlying5 Tryz.runUnderlying2)<|rs (vI (w64 (IntKind.wrap .u8 a0))) (r_assign rfl) ?_
 try simp only [sc0,sc1]
 refine run_nil<|norm_then<|wp_ret ?_
 obtain rfl:=Option.some.inj H
 exact bodyPost_ret (results_1 rfl (one_tmp rfl)) rfl<|⟨rfl,HS.toE⟩
def bits_through_int16.f (a0:Int):Option (Int):=some (IntKind.wrap .i64 (IntKind.wrap .i16 a0))
theorem bits_through_int16.calls (a0:Int) {h0:View} {w0:World} (hv:Sees h0 w0) {r:Int} (H:bits_through_int16.f a0=some r):Calls Tryz.prog 137 #[vI a0] w0 (fun e w1=>e= .returned (vI r)∧Ext w0 w1):=by
 unfold bits_through_int16.f at H
 have HS:St [] h0 w0 h0 [] w0:=St.init hv
 go_enter Tryz.func137,Tryz.ntmps137
 refine wp_seq<|region<|rs (vI 0) (r_assign rfl) ?_
 try simp only [sc0,sc1]
 refine run_nil<|norm_then<|wp_seq<|region<|rs (vI a0) (r_move rfl)<|rs (Value.int .i16 (IntKind.wrap .i16 a0)) (r_conv rfl Tryz.runUnderlying2 Tryz.runUnderlying228)<|rs (vI (w64 (IntKind.wrap .i16 a0))) (r_conv rfl Tryz.runUnderlying228 Tryz.runUnderlying2)<|rs (vI (w64 (IntKind.wrap .i16 a0))) (r_assign rfl) ?_
 try simp only [sc0,sc1]
 refine run_nil<|norm_then<|wp_ret ?_
 obtain rfl:=Option.some.inj H
 exact bodyPost_ret (results_1 rfl (one_tmp rfl)) rfl<|⟨rfl,HS.toE⟩
def bits_through_uint16.f (a0:Int):Option (Int):=some (IntKind.wrap .i64 (IntKind.wrap .u16 a0))
theorem bits_through_uint16.calls (a0:Int) {h0:View} {w0:World} (hv:Sees h0 w0) {r:Int} (H:bits_through_uint16.f a0=some r):Calls Tryz.prog 138 #[vI a0] w0 (fun e w1=>e= .returned (vI r)∧Ext w0 w1):=by
 unfold bits_through_uint16.f at H
 have HS:St [] h0 w0 h0 [] w0:=St.init hv
 go_enter Tryz.func138,Tryz.ntmps138
 refine wp_seq<|region<|rs (vI 0) (r_assign rfl) ?_
 try simp only [sc0,sc1]
 refine run_nil<|norm_then<|wp_seq<|region<|rs (vI a0) (r_move rfl)<|rs (Value.int .u16 (IntKind.wrap .u16 a0)) (r_conv rfl Tryz.runUnderlying2 Tryz.runUnderlying229)<|rs (vI (w64 (IntKind.wrap .u16 a0))) (r_conv rfl Tryz.runUnderlying229 Tryz.runUnderlying2)<|rs (vI (w64 (IntKind.wrap .u16 a0))) (r_assign rfl) ?_
 try simp only [sc0,sc1]
 refine run_nil<|norm_then<|wp_ret ?_
 obtain rfl:=Option.some.inj H
 exact bodyPost_ret (results_1 rfl (one_tmp rfl)) rfl<|⟨rfl,HS.toE⟩
def bits_through_int32.f (a0:Int):Option (Int):=some (IntKind.wrap .i64 (IntKind.wrap .i32 a0))
theorem bits_through_int32.calls (a0:Int) {h0:View} {w0:World} (hv:Sees h0 w0) {r:Int} (H:bits_through_int32.f a0=some r):Calls Tryz.prog 139 #[vI a0] w0 (fun e w1=>e= .returned (vI r)∧Ext w0 w1):=by
 unfold bits_through_int32.f at H
 have HS:St [] h0 w0 h0 [] w0:=St.init hv
 go_enter Tryz.func139,Tryz.ntmps139
 refine wp_seq<|region<|rs (vI 0) (r_assign rfl) ?_
 try simp only [sc0,sc1]
 refine run_nil<|norm_then<|wp_seq<|region<|rs (vI a0) (r_move rfl)<|rs (Value.int .i32 (IntKind.wrap .i32 a0)) (r_conv rfl Tryz.runUnderlying2 Tryz.runUnderlying21)<|rs (vI (w64 (IntKind.wrap .i32 a0))) (r_conv rfl Tryz.runUnderlying21 Tryz.runUnderlying2)<|rs (vI (w64 (IntKind.wrap .i32 a0))) (r_assign rfl) ?_
 try simp only [sc0,sc1]
 refine run_nil<|norm_then<|wp_ret ?_
 obtain rfl:=Option.some.inj H
 exact bodyPost_ret (results_1 rfl (one_tmp rfl)) rfl<|⟨rfl,HS.toE⟩
def bits_through_uint32.f (a0:Int):Option (Int):=some (IntKind.wrap .i64 (IntKind.wrap .u32 a0))
theorem bits_through_uint32.calls (a0:Int) {h0:View} {w0:World} (hv:Sees h0 w0) {r:Int} (H:bits_through_uint32.f a0=some r):Calls Tryz.prog 140 #[vI a0] w0 (fun e w1=>e= .returned (vI r)∧Ext w0 w1):=by
 unfold bits_through_uint32.f at H
 have HS:St [] h0 w0 h0 [] w0:=St.init hv
 go_enter Tryz.func140,Tryz.ntmps140
 refine wp_seq<|region<|rs (vI 0) (r_assign rfl) ?_
 try simp only [sc0,sc1]
 refine run_nil<|norm_then<|wp_seq<|region<|rs (vI a0) (r_move rfl)<|rs (Value.int .u32 (IntKind.wrap .u32 a0)) (r_conv rfl Tryz.runUnderlying2 Tryz.runUnderlying230)<|rs (vI (w64 (IntKind.wrap .u32 a0))) (r_conv rfl Tryz.runUnderlying230 Tryz.runUnderlying2)<|rs (vI (w64 (IntKind.wrap .u32 a0))) (r_assign rfl) ?_
 try simp only [sc0,sc1]
 refine run_nil<|norm_then<|wp_ret ?_
 obtain rfl:=Option.some.inj H
 exact bodyPost_ret (results_1 rfl (one_tmp rfl)) rfl<|⟨rfl,HS.toE⟩
def bits_through_int64.f (a0:Int):Option (Int):=some a0
theorem bits_through_int64.calls (a0:Int) {h0:View} {w0:World} (hv:Sees h0 w0) {r:Int} (H:bits_through_int64.f a0=some r):Calls Tryz.prog 141 #[vI a0] w0 (fun e w1=>e= .returned (vI r)∧Ext w0 w1):=by
 unfold bits_through_int64.f at H
 have HS:St [] h0 w0 h0 [] w0:=St.init hv
 go_enter Tryz.func141,Tryz.ntmps141
 refine wp_seq<|region<|rs (vI 0) (r_assign rfl) ?_
 try simp only [sc0,sc1]
 refine run_nil<|norm_then<|wp_seq<|region<|rs (vI a0) (r_move rfl)<|rs (vI a0) (r_assign rfl) ?_
 try simp only [sc0,sc1]
 refine run_nil<|norm_then<|wp_ret ?_
 obtain rfl:=Option.some.inj H
 exact bodyPost_ret (results_1 rfl (one_tmp rfl)) rfl<|⟨rfl,HS.toE⟩
def bits_through_uint64.f (a0:Int):Option (Int):=some (IntKind.wrap .i64 (IntKind.wrap .u64 a0))
theorem bits_through_uint64.calls (a0:Int) {h0:View} {w0:World} (hv:Sees h0 w0) {r:Int} (H:bits_through_uint64.f a0=some r):Calls Tryz.prog 142 #[vI a0] w0 (fun e w1=>e= .returned (vI r)∧Ext w0 w1):=by
 unfold bits_through_uint64.f at H
 have HS:St [] h0 w0 h0 [] w0:=St.init hv
 go_enter Tryz.func142,Tryz.ntmps142
 refine wp_seq<|region<|rs (vI 0) (r_assign rfl) ?_
 try simp only [sc0,sc1]
 refine run_nil<|norm_then<|wp_seq<|region<|rs (vI a0) (r_move rfl)<|rs (Value.int .u64 (IntKind.wrap .u64 a0)) (r_conv rfl Tryz.runUnderlying2 Tryz.runUnderlying71)<|rs (vI (w64 (IntKind.wrap .u64 a0))) (r_conv rfl Tryz.runUnderlying71 Tryz.runUnderlying2)<|rs (vI (w64 (IntKind.wrap .u64 a0))) (r_assign rfl) ?_
 try simp only [sc0,sc1]
 refine run_nil<|norm_then<|wp_ret ?_
 obtain rfl:=Option.some.inj H
 exact bodyPost_ret (results_1 rfl (one_tmp rfl)) rfl<|⟨rfl,HS.toE⟩
end Go.Proofs.YtecpbadkdpbkpaaGreatDoor
/-bits.wrap:a number wrapped to a valid type,by the function that the map of conversions leads to. -/
namespace Go.Proofs.YtecpbadkdpbkpaaGreatDoor
open Go.RowKit Go.M
/-- a number wrapped to a type -/
def wrp (k:api_Int) (v:Int):Int:=if k.vSize==1 then (if k.vSigned then IntKind.wrap .i64 (IntKind.wrap .i8 v) else IntKind.wrap .i64 (IntKind.wrap .u8 v)) else if k.vSize==2 then (if k.vSigned then IntKind.wrap .i64 (IntKind.wrap .i16 v) else IntKind.wrap .i64 (IntKind.wrap .u16 v))
 else if k.vSize==4 then (if k.vSigned then IntKind.wrap .i64 (IntKind.wrap .i32 v) else IntKind.wrap .i64 (IntKind.wrap .u32 v)) else (if k.vSigned then v else IntKind.wrap .i64 (IntKind.wrap .u64 v))
theorem thr_call (k:api_Int):∀args w,(callFunc (thr k) args).run Tryz.prog w= .ok (.enter (thr k) args) w:=by
 unfold thr
 split
 ·split
  ·exact Tryz.call135
  ·exact Tryz.call136
 ·split
  ·split
   ·exact Tryz.call137
   ·exact Tryz.call138
  ·split
   ·split
    ·exact Tryz.call139
    ·exact Tryz.call140
   ·split
    ·exact Tryz.call141
    ·exact Tryz.call142
theorem thr_calls (k:api_Int) (v:Int) {h0:View} {w0:World} (hv:Sees h0 w0):Calls Tryz.prog (thr k) #[vI v] w0 (fun e w1=>e= .returned (vI (wrp k v))∧Ext w0 w1):=by
 unfold thr wrp
 split
 ·split
  ·exact bits_through_int8.calls v hv rfl
  ·exact bits_through_uint8.calls v hv rfl
 ·split
  ·split
   ·exact bits_through_int16.calls v hv rfl
   ·exact bits_through_uint16.calls v hv rfl
  ·split
   ·split
    ·exact bits_through_int32.calls v hv rfl
    ·exact bits_through_uint32.calls v hv rfl
   ·split
    ·exact bits_through_int64.calls v hv rfl
    ·exact bits_through_uint64.calls v hv rfl
def bits_wrap.f (a0:api_Int) (a1:Int):Option Int:=if okI a0=true then some (wrp a0 a1) else none
theorem r_lookup1 {P:Program} {ρ:Operand→Value} {w:World} {dst:Option Tmp} {ty:TypeId} {pos:String} {after:Array Edge} {guard:Option (Nat×Bool)} {xt:TypeId} {x y:Operand} {b:Nat} {k v:Value} (hx:ρ x= .map (some b)) (hy:ρ y=k)
  (h:(Instr.lookup xt (.map (some b)) k false).run P w= .ok v w):(execOp ρ ⟨dst, .lookup xt x y false,ty,pos,after,guard⟩).run P w= .ok (.value v) w:=by
 simp [execOp,hx,hy,h]
theorem bits_wrap.calls (a0:api_Int) (a1:Int) {h0:View} {w0:World} (hv:Sees h0 w0) {r:Int} (H:bits_wrap.f a0 a1=some r):Calls Tryz.prog 57 #[Value.agg #[vI a0.vSize,vB a0.vSigned],vI a1] w0 (fun e w1=>e= .returned (vI r)∧Ext w0 w1):=by
 unfold bits_wrap.f at H
 obtain ⟨hk0,H⟩:=of_ite H
 obtain rfl:=Option.some.inj H
 have HS:St [] h0 w0 h0 [] w0:=St.init hv
 go_enter Tryz.func57,Tryz.ntmps57
 refine wp_seq<|region<|run_ex rfl rfl (does_box (cs:=#[vI a0.vSize,vB a0.vSigned]) rfl rfl) ?_
 rintro w1 _ hE1 ⟨b1,rfl,ge1,hb1⟩
 have HS1:=HS.new hE1 ge1 hb1
 refine rs (vI 0) (r_assign rfl) ?_
 try simp only [sc0,sc1]
 refine run_nil<|norm_then<|wp_seq<|drawn_chain [([6,8],[1,3]),([7],[1,2,3]),([4],[5])] [0,4] [[],[],[0,1],[],[0,1,2,3],[0,1,2,3,4]] hmix (by kernel_rfl) ?_
 intro w2 hE2
 have HS2:=HS1.step hE2
 refine chain_eff [e_api_Int a0,vI a1] ?_ rfl rfl ?_
 ·simp only [patch,sc0,sc1]
  exact allg_cons (good_same (v:=e_api_Int a0) rfl rfl rfl rfl (r_loadBoxAgg (n:=2) (vs:=[vI a0.vSize,vB a0.vSigned]) rfl Tryz.isAgg29 (HS2.look 0 rfl) Tryz.sizeOf29 rfl rfl)) (allg_cons (good_same rfl rfl rfl rfl (r_move rfl)) allg_nil)
 simp only [patch,sc0,sc1]
 refine run_call (vs:=[]) (caps:=[]) Tryz.call90 rfl rfl bits_conversions.calls ?_
 rintro _ w3 ⟨b2,es,cl,ks,rfl,hge,hb,hk,hok,hE3⟩
 refine ⟨_,rfl,?_⟩
 refine qn_nil ?_
 try simp only [sc0,sc1]
 have HS3:=HS2.step hE3
 have hlk:=lookup_v keyI (fun a b h=>eqI_iff.1 h) a0 hk Tryz.runUnderlying178 hb (by rw [hok a0];exact hk0)
 refine chain_eff [fvI a0] ?_ rfl rfl ?_
 ·simp only [patch,sc0,sc1]
  exact allg_cons (good_same (v:=e_api_Int a0) rfl rfl rfl rfl (r_loadBoxAgg (n:=2) (vs:=[vI a0.vSize,vB a0.vSigned]) rfl Tryz.isAgg29 (HS3.look 0 rfl) Tryz.sizeOf29 rfl rfl)) (allg_cons (good_same (v:=fvI a0) rfl rfl rfl rfl (r_lookup1 rfl rfl hlk)) (allg_cons (good_same rfl rfl rfl rfl (r_move rfl)) allg_nil))
 simp only [patch,sc0,sc1]
 refine run_call (vs:=[vI a1]) (caps:=[]) (thr_call a0) rfl rfl (thr_calls a0 a1 HS3.sees) ?_
 rintro _ w4 ⟨rfl,hE4⟩
 refine ⟨_,rfl,?_⟩
 refine qn_nil ?_
 try simp only [sc0,sc1]
 have HS4:=HS3.step hE4
 refine chain_last [vI (wrp a0 a1)] ?_ ?_
 ·simp only [patch,sc0,sc1]
  exact allg_cons (good_same rfl rfl rfl rfl (r_assign rfl)) allg_nil
 simp only [patch,sc0,sc1]
 exact norm_then<|wp_ret<|bodyPost_ret (results_1 rfl (one_tmp rfl)) rfl<|⟨rfl,HS4.toE⟩
end Go.Proofs.YtecpbadkdpbkpaaGreatDoor
namespace Go.Proofs.YtecpbadkdpbkpaaGreatDoor
open Go.RowKit Go.M
def In64 (y:Int):Prop:= -9223372036854775808≤y∧y≤9223372036854775807
theorem wrap8 (y:Int):IntKind.wrap .u8 y=y%256:=by simp [IntKind.wrap,IntKind.bits,IntKind.signed]
theorem wi64 (x:Int):IntKind.wrap .i64 x=if 9223372036854775808≤x%18446744073709551616 then x%18446744073709551616-18446744073709551616 else x%18446744073709551616:=by
 simp [IntKind.wrap,IntKind.bits,IntKind.signed]
theorem wi32 (x:Int):IntKind.wrap .i32 x=if 2147483648≤x%4294967296 then x%4294967296-4294967296 else x%4294967296:=by
 simp [IntKind.wrap,IntKind.bits,IntKind.signed]
theorem wi16 (x:Int):IntKind.wrap .i16 x=if 32768≤x%65536 then x%65536-65536 else x%65536:=by
 simp [IntKind.wrap,IntKind.bits,IntKind.signed]
theorem wi8 (x:Int):IntKind.wrap .i8 x=if 128≤x%256 then x%256-256 else x%256:=by
 simp [IntKind.wrap,IntKind.bits,IntKind.signed]
theorem wu64 (x:Int):IntKind.wrap .u64 x=x%18446744073709551616:=by simp [IntKind.wrap,IntKind.bits,IntKind.signed]
theorem wu32 (x:Int):IntKind.wrap .u32 x=x%4294967296:=by simp [IntKind.wrap,IntKind.bits,IntKind.signed]
theorem wu16 (x:Int):IntKind.wrap .u16 x=x%65536:=by simp [IntKind.wrap,IntKind.bits,IntKind.signed]
theorem wrp_in {t:api_Int} {v:Int} (hv:In64 v):In64 (wrp t v):=by
 unfold In64 wrp
 have h64:∀x,-9223372036854775808≤IntKind.wrap .i64 x∧IntKind.wrap .i64 x≤9223372036854775807:=by
  intro x
  simp [IntKind.wrap,IntKind.bits,IntKind.signed]
  split<;>omega
 repeat' split
 all_goals first|exact h64 _|exact hv
theorem w64u {v:Int} (hv:In64 v):IntKind.wrap .i64 (IntKind.wrap .u64 v)=v:=by
 unfold In64 at hv
 rw [wi64,wu64]
 split<;>omega
section
variable {t:api_Types} {l:List Int}
theorem placedAt_in {l : List Int} (hl : ∀ j, j < l.length → 0 < l.getD j 0 ∧ l.getD j 0 ≤ 512) : ∀ (fs : List api_Field) (a e : Int), (∀ f ∈ fs, 0 ≤ f.vType ∧ f.vType < l.length) → 0 ≤ a → placedAt l a fs = some e →
    a≤e∧∀f∈fs,a≤f.vAt∧f.vAt+l.getD f.vType.toNat 0≤e
  | [], a, e, _, _, h => by
    simp only [placedAt,Option.some.injEq] at h
    exact ⟨by omega,by simp⟩
  | f :: fs, a, e, hf, ha, h => by
    rw [placedAt] at h
    split at h
    · cases h
    · next hc=>
      simp only [Bool.or_eq_true,decide_eq_true_eq,not_or] at hc
      obtain ⟨h1,h2⟩:=hf f List.mem_cons_self
      obtain ⟨h3,h4⟩:=hl f.vType.toNat (by omega)
      have hrd:rd 0 l f.vType=l.getD f.vType.toNat 0:=rfl
      rw [hrd,wrap_id (by omega) (by omega)] at h
      obtain ⟨h5,h6⟩:=placedAt_in hl fs _ e (fun g hg=>hf g (List.mem_cons_of_mem _ hg)) (by omega) h
      refine ⟨by omega,fun g hg=>?_⟩
      rcases List.mem_cons.1 hg with rfl|hg
      · exact ⟨by omega,h5⟩
      · obtain ⟨h7,h8⟩:=h6 g hg
        exact ⟨by omega,h8⟩
theorem sz_in (W:Wf t l):∀j,j<l.length→0<l.getD j 0∧l.getD j 0≤512:=fun j hj=>by
 obtain ⟨rk,h⟩:=W.sz.ex
 obtain ⟨h1,h2,_⟩:=h j (by rw [←W.sz.len];exact hj)
 exact ⟨h1,h2⟩
theorem mem_in (W : Wf t l) {mem : Nat → ByteArray → api_Field × Int} (hm : MemOk t mem) {i : Nat} (hi : i < t.vDefs.length) {name : ByteArray} (h0 : (mem i name).2 = 0) :
    0≤(mem i name).1.vAt∧(mem i name).1.vAt+l.getD (mem i name).1.vType.toNat 0≤l.getD i 0:=by
  obtain ⟨r,hr,he,h6,hlr⟩:=resolved_ev W.good i hi
  have hu:=(hm.ev i name hi).uniq (member_ev W.good hr he)
  rw [hu] at h0⊢
  unfold memS at h0⊢
  have hd:=W.sh _ (getD_mem (z:=z_api_Def) hr)
  obtain ⟨rk,hsz⟩:=W.sz.ex
  obtain ⟨_,_,_,hnv⟩:=hsz r hr
  by_cases h4:(t.vDefs.getD r z_api_Def).vKind=4
  · rw [if_neg (fun h=>h h4)] at h0⊢
    cases hf:(t.vDefs.getD r z_api_Def).vFields.find? fun f=>strEq f.vName name with
    |none=>rw [hf] at h0;simp at h0
    | some f =>
      have hmem:=List.mem_of_find?_eq_some hf
      have hp:=W.placed _ (getD_mem (z:=z_api_Def) hr) h4
      unfold placedS at hp
      split at hp
      · cases hp
      · next e he2=>
        obtain ⟨_,h8⟩:=placedAt_in (sz_in W) _ _ e (fun g hg=>by rw [W.sz.len];exact hd.typ h4 g hg) (by omega) he2
        obtain ⟨h9,h10⟩:=h8 f hmem
        have:l.getD r 0=(t.vDefs.getD r z_api_Def).vN:=by
          rw [hnv];unfold nval
          rw [if_neg (by omega),if_neg (by omega),if_neg (by omega),if_pos h4]
        have hp:=of_decide_eq_true hp
        exact ⟨h9,by show f.vAt+l.getD f.vType.toNat 0≤l.getD i 0;omega⟩
  · rw [if_pos h4] at h0;simp at h0
theorem path_bound (W:Wf t l) {mem:Nat→ByteArray→api_Field×Int} (hm:MemOk t mem):∀(p:List ByteArray) (i:Nat) (a:Int),i<t.vDefs.length→0≤a→a≤512→a+l.getD i 0≤512→(pathV mem p i a).2.2=0→
    ∃y o:Nat,pathV mem p i a=((y:Int),(o:Int),0)∧y<t.vDefs.length∧(o:Int)+l.getD y 0≤a+l.getD i 0
  |[],i,a,hi,h0,h1,h2,_=>⟨i,a.toNat,by simp only [pathV];rw [show ((a.toNat:Nat):Int)=a by omega],hi,by omega⟩
  | n :: p, i, a, hi, h0, h1, h2, he => by
    simp only [pathV] at he⊢
    by_cases hz:(mem i n).2=0
    · rw [if_neg (fun h=>h hz)] at he⊢
      obtain ⟨h3,h4⟩:=mem_in W hm hi (name:=n) hz
      obtain ⟨h5,h6⟩:=hm.typ i n hi hz
      have h7:=sz_in W (mem i n).1.vType.toNat (by rw [W.sz.len];omega)
      rw [wrap_id (by omega) (by omega)] at he⊢
      obtain ⟨y,o,h8,h9,h10⟩:=path_bound W hm p _ _ (by omega) (by omega) (by omega) (by omega) he
      exact ⟨y,o,h8,h9,by omega⟩
    · rw [if_pos hz] at he
      exact absurd he hz
theorem Path_end (hF : ∀ d ∈ t.vDefs, FitD d) (W : Wf t l) {i : Nat} (hi : i < t.vDefs.length) (p : List ByteArray) :
    ∃x:Int×Int×Int,Ev (fun k=>ctf_Path.f k t (i:Int) p) x∧Ev (fun k=>taplineref08_Path.f k t (i:Int) p) (reachedOf x)∧(x.2.2=0→∃y o:Nat,x=((y:Int),(o:Int),0)∧y<t.vDefs.length∧(o:Int)+l.getD y 0≤l.getD i 0):=by
  obtain ⟨x,h1,h2⟩:=Path_both hF (i:Int) p
  refine ⟨x,h1,h2,fun h0=>?_⟩
  rcases valid_iff hF with ⟨l2,W2,hv⟩|⟨hno,_⟩
  · obtain ⟨mem,hm⟩:=mem_ok W.good
    by_cases hp:p.length≤16
    · have hu:=h1.uniq (Path_ev hm hv hi hp).1
      rw [hu] at h0
      have h3:=sz_in W i (by rw [W.sz.len];exact hi)
      obtain ⟨y,o,h4,h5,h6⟩:=path_bound W hm p i 0 hi (by omega) (by omega) (by omega) h0
      exact ⟨y,o,by rw [hu,h4],h5,by omega⟩
    · obtain ⟨K,hK⟩:=given_in hv hi
      have : Ev (fun k => ctf_Path.f k t (i : Int) p) (0, 0, 2) := ⟨K, fun k hk => by
        show ctf_Path.f k t (i:Int) p=_
        unfold ctf_Path.f
        rw [show ctf_given.f k t (i:Int)=_ from hK k hk]
        simp only [Option.bind_some]
        rw [if_neg (by decide), if_pos (decide_eq_true (by omega))]⟩
      rw [h1.uniq this] at h0
      simp at h0
  · exact absurd W (hno l)
def scal (d:api_Def):api_Int×Bool:=if d.vKind=1 then (d.vInt,true) else if d.vKind=5 then (⟨4,true⟩,true) else if d.vKind=2 then (⟨8,false⟩,true) else (⟨0,false⟩,false)
theorem Scalar_both (hF : ∀ d ∈ t.vDefs, FitD d) (W : Wf t l) {i : Nat} (hi : i < t.vDefs.length) :
    ∃s:api_Int×Bool,Ev (fun k=>image_scalar.f k t (i:Int)) s∧Ev (fun k=>taplineref09_Scalar.f k t (i:Int)) s∧(s.2=true→∃n:Nat,s.1.vSize=(n:Int)∧(n=1∨n=2∨n=4∨n=8)∧l.getD i 0=(n:Int)):=by
  obtain ⟨r,hr,he,h6,hlr⟩:=resolved_ev W.good i hi
  rcases valid_iff hF with ⟨l2,W2,hv⟩|⟨hno,_⟩
  · obtain ⟨K,hK⟩:=Resolve_ev hv hi he
    obtain ⟨K2,hK2⟩:=he
    have hd:=W.sh _ (getD_mem (z:=z_api_Def) hr)
    obtain ⟨rk,hsz⟩:=W.sz.ex
    obtain ⟨_,_,_,hnv⟩:=hsz r hr
    have key:(if ((t.vDefs.getD r z_api_Def).vKind==1)=true then some ((t.vDefs.getD r z_api_Def).vInt,true) else if ((t.vDefs.getD r z_api_Def).vKind==5)=true then some ((⟨4,true⟩:api_Int),true) else if ((t.vDefs.getD r z_api_Def).vKind==2)=true then some ((⟨8,false⟩:api_Int),true) else some ((⟨0,false⟩:api_Int),false))=some (scal (t.vDefs.getD r z_api_Def)):=by
      unfold scal
      simp only [beq_iff_eq]
      repeat' split
      all_goals rfl
    refine ⟨scal (t.vDefs.getD r z_api_Def),⟨K,fun k hk=>?_⟩,⟨K2,fun k hk=>?_⟩,fun h=>?_⟩
    · show image_scalar.f k t (i:Int)=_
      unfold image_scalar.f
      rw [show ctf_Resolve.f k t (i:Int)=_ from hK k hk]
      simp only [Option.bind_some]
      rw [if_neg (by decide),if_pos (by omega),rd_nat]
      exact key
    · show taplineref09_Scalar.f k t (i:Int)=_
      unfold taplineref09_Scalar.f taplineref08_Resolved.f
      have:=hK2 k hk
      simp only [ctf_resolved.f] at this
      rw [resolved_same,this]
      simp only [Option.bind_some]
      rw [if_pos (by omega),rd_nat]
      exact key
    · rw [← hlr, hnv]
      unfold scal at h⊢
      unfold nval
      by_cases k1:(t.vDefs.getD r z_api_Def).vKind=1
      · have:=hd.int k1
        rw [if_pos k1,if_pos k1]
        exact ⟨(t.vDefs.getD r z_api_Def).vInt.vSize.toNat,by show (t.vDefs.getD r z_api_Def).vInt.vSize=_;omega,by omega,by omega⟩
      · by_cases k5:(t.vDefs.getD r z_api_Def).vKind=5
        · rw [if_neg k1,if_pos k5,if_neg k1,if_neg (by omega),if_neg (by omega),if_neg (by omega),if_pos k5]
          exact ⟨4,rfl,by omega,rfl⟩
        · by_cases k2:(t.vDefs.getD r z_api_Def).vKind=2
          · rw [if_neg k1,if_neg k5,if_pos k2,if_neg k1,if_pos k2]
            exact ⟨8,rfl,by omega,rfl⟩
          · rw [if_neg k1,if_neg k5,if_neg k2] at h
            cases h
  · exact absurd W (hno l)
end
def slices_BinarySearchFunc_api_Segment_api_Segment_int64.l0 (a0:List api_Segment) (a1:Int) (a2:(api_Segment→Int→Option Int)):Nat→Int→Int→Option (Int)
 |0,_,_=>none
 |m+1,y1_0,y1_1=>if (decide (y1_0<y1_1))=true then (if 0≤(IntKind.wrap .i64 (iShr .u64 (IntKind.wrap .u64 (IntKind.wrap .i64 (y1_0+y1_1))) 1))∧(IntKind.wrap .i64 (iShr .u64 (IntKind.wrap .u64 (IntKind.wrap .i64 (y1_0+y1_1))) 1))<a0.length then ((a2 (rd z_api_Segment a0 (IntKind.wrap .i64 (iShr .u64 (IntKind.wrap .u64 (IntKind.wrap .i64 (y1_0+y1_1))) 1))) a1).bind fun v1=>(if (decide (v1<0))=true then (slices_BinarySearchFunc_api_Segment_api_Segment_int64.l0 a0 a1 a2 m (IntKind.wrap .i64 ((IntKind.wrap .i64 (iShr .u64 (IntKind.wrap .u64 (IntKind.wrap .i64 (y1_0+y1_1))) 1))+1)) y1_1) else (slices_BinarySearchFunc_api_Segment_api_Segment_int64.l0 a0 a1 a2 m y1_0 (IntKind.wrap .i64 (iShr .u64 (IntKind.wrap .u64 (IntKind.wrap .i64 (y1_0+y1_1))) 1))))) else none) else (some y1_0)
def slices_BinarySearchFunc_api_Segment_api_Segment_int64.f (k:Nat) (a0:List api_Segment) (a1:Int) (a2:api_Segment→Int→Option Int):Option (Int×Bool):=(slices_BinarySearchFunc_api_Segment_api_Segment_int64.l0 a0 a1 a2 k 0 (a0.length:Int)).bind fun xx1=>(if (true&&((decide (xx1<(a0.length:Int)))==true))=true→(0≤xx1∧xx1<a0.length) then ((if (true&&((decide (xx1<(a0.length:Int)))==true))=true then a2 (rd z_api_Segment a0 xx1) a1 else some 0).bind fun v2=>(some (xx1,((decide (xx1<(a0.length:Int)))&&(v2==0))))) else none)
theorem slices_BinarySearchFunc_api_Segment_api_Segment_int64.calls (k:Nat) (a0:List api_Segment) (a1:Int) (a2:api_Segment→Int→Option Int) (A0_0:Option Addr) (c0_0:Nat) (fid2:Nat) (cap2:List Value) {h0:View} {w0:World} (hv:Sees h0 w0) (hr0_0:Rd k_api_Segment h0 A0_0 a0) (hc0_0:a0.length≤c0_0) (hent2:∀args w,(callFunc fid2 args).run Tryz.prog w= .ok (.enter fid2 args) w) (hfp2:∀(z0:api_Segment) (Az0_1:Option Addr) (cz0_1:Nat) (z1:Int) (h:View) (w:World),Ext w0 w→Sub h0 h→Sees h w→Rd (Kd.int .u8) h Az0_1 z0.vBytes→z0.vBytes.length≤cz0_1→∀(r:Int),a2 z0 z1=some r→Calls Tryz.prog fid2 ([Value.agg #[vI z0.vAt,vL Az0_1 z0.vBytes.length cz0_1],vI z1]++cap2).toArray w (fun e w1=>e= .returned (vI r)∧Ext w w1)) {r:Int×Bool} (H:slices_BinarySearchFunc_api_Segment_api_Segment_int64.f k a0 a1 a2=some r):Calls Tryz.prog 143 #[vL A0_0 a0.length c0_0,vI a1,Value.func (.func fid2) #[] cap2.toArray] w0 (fun e w1=>e= .returned (Value.tuple #[vI r.1,vB r.2])∧Ext w0 w1):=by
 unfold slices_BinarySearchFunc_api_Segment_api_Segment_int64.f at H
 have HS:St [] h0 w0 h0 [] w0:=St.init hv
 go_enter Tryz.func143,Tryz.ntmps143
 refine wp_seq<|region<|rs (vI 0) (r_assign rfl)<|rs (vB false) (r_assign rfl) ?_
 try simp only [sc0,sc1]
 refine run_nil<|norm_then<|wp_seq<|region<|rs (vL A0_0 a0.length c0_0) (r_move rfl)<|rs (vI (a0.length:Int)) (r_len rfl Tryz.runUnderlying25)<|rs (vI (a0.length:Int)) (r_assign rfl) ?_
 try simp only [sc0,sc1]
 refine run_nil<|norm_then<|wp_seq<|region<|rs (vI (a0.length:Int)) (r_move rfl)<|rs (vI 0) (r_assign rfl)<|rs (vI (a0.length:Int)) (r_assign rfl) ?_
 try simp only [sc0,sc1]
 refine run_nil<|norm_then<|wp_seq ?_
 obtain ⟨xx1,H,G1⟩:=of_bind H
 refine loop_j [9,10,11,15,16,17,18,19,20,21,22,23,24,25,26,27,28,29,30,31,32,33,34] (fun m us w'=>∃y1_0 y1_1:Int,Fit us (fun uy1=>[vI y1_0,vI y1_1,(uy1 2),(uy1 3),(uy1 4),(uy1 5),(uy1 6),(uy1 7),(uy1 8),(uy1 9),(uy1 10),(uy1 11),(uy1 12),(uy1 13),(uy1 14),(uy1 15),(uy1 16),(uy1 17),(uy1 18),(uy1 19),(uy1 20),(uy1 21),(uy1 22)])∧slices_BinarySearchFunc_api_Segment_api_Segment_int64.l0 a0 a1 a2 m y1_0 y1_1=some xx1∧St [] h0 w0 h0 [] w') (fun us w'=>Fit us (fun uo1=>[vI xx1,(uo1 1),(uo1 2),(uo1 3),(uo1 4),(uo1 5),(uo1 6),(uo1 7),(uo1 8),(uo1 9),(uo1 10),(uo1 11),(uo1 12),(uo1 13),(uo1 14),(uo1 15),(uo1 16),(uo1 17),(uo1 18),(uo1 19),(uo1 20),(uo1 21),(uo1 22)])∧St [] h0 w0 h0 [] w') k ⟨0,(a0.length:Int),(fit rfl),H,HS⟩ ?_ ?_
 ·rintro m us w1 ⟨y1_0,y1_1,huy1,H,HS1⟩
  obtain ⟨uy1,rfl⟩:=unj huy1
  cases m with
  |zero=>exact absurd H (by simp [slices_BinarySearchFunc_api_Segment_api_Segment_int64.l0])
  |succ m=>
   rw [slices_BinarySearchFunc_api_Segment_api_Segment_int64.l0] at H
   try simp only [patch,sc0,sc1]
   refine wp_seq<|wp_seq<|region<|rs (vI y1_0) (r_move rfl)<|rs (vI y1_1) (r_move rfl)<|rs (vB (decide (y1_0<y1_1))) (r_bin rfl rfl rfl) ?_
   try simp only [sc0,sc1]
   refine run_nil<|norm_then<|wp_cond_split (t:=(decide (y1_0<y1_1))) rfl (fun c1=>?_) (fun c1=>?_)
   ·replace H:=of_pos H c1
    refine wp_skip<|norm_then<|wp_block<|wp_seq<|region<|rs (vI y1_0) (r_move rfl)<|rs (vI y1_1) (r_move rfl)<|rs (vI (w64 (y1_0+y1_1))) (r_bin rfl rfl rfl)<|rs (Value.int .u64 (IntKind.wrap .u64 (w64 (y1_0+y1_1)))) (r_conv rfl Tryz.runUnderlying3 Tryz.runUnderlying220)<|run_frame (by simp only [sc0,sc1];rfl) ?_
    refine rs (Value.int .u64 (iShr .u64 (IntKind.wrap .u64 (w64 (y1_0+y1_1))) 1)) (r_shr rfl rfl (by decide))<|rs (vI (w64 (iShr .u64 (IntKind.wrap .u64 (w64 (y1_0+y1_1))) 1))) (r_conv rfl Tryz.runUnderlying220 Tryz.runUnderlying3)<|rs (vI (w64 (iShr .u64 (IntKind.wrap .u64 (w64 (y1_0+y1_1))) 1))) (r_assign rfl) ?_
    try simp only [sc0,sc1]
    refine run_nil<|norm_then<|wp_seq<|region<|rs (Value.func (.func fid2) #[] cap2.toArray) (r_move rfl)<|rs (vL A0_0 a0.length c0_0) (r_move rfl)<|rs (vI (w64 (iShr .u64 (IntKind.wrap .u64 (w64 (y1_0+y1_1))) 1))) (r_move rfl) ?_
    obtain ⟨hi1,H⟩:=of_ite H
    obtain ⟨ad1,Aad1_1,cad1_1,e1,hel1,hcad1_1,hrad1_1⟩:=ld_api_Segment hr0_0 hi1.1 hi1.2
    refine rs (Value.pointer (some (Addr.add ad1 ((w64 (iShr .u64 (IntKind.wrap .u64 (w64 (y1_0+y1_1))) 1)).toNat*2)))) (r_indexA (sz:=2) rfl e1 rfl hi1.1 hi1.2 Tryz.runUnderlying25 Tryz.sizeOf58)<|run_frame (by simp only [sc0,sc1];rfl) ?_
    refine rs (Value.agg #[vI ((rd z_api_Segment a0 (w64 (iShr .u64 (IntKind.wrap .u64 (w64 (y1_0+y1_1))) 1))).vAt),vL Aad1_1 ((rd z_api_Segment a0 (w64 (iShr .u64 (IntKind.wrap .u64 (w64 (y1_0+y1_1))) 1))).vBytes).length cad1_1]) (r_loadAgg rfl Tryz.isAgg58 (hel1.sees HS1.sees) Tryz.sizeOf58)<|rs (vI a1) (r_move rfl) ?_
    obtain ⟨v1,H1,H⟩:=of_bind H
    refine run_eq (v:=vI v1) rfl rfl (does_callv (vs:=[Value.agg #[vI ((rd z_api_Segment a0 (w64 (iShr .u64 (IntKind.wrap .u64 (w64 (y1_0+y1_1))) 1))).vAt),vL Aad1_1 ((rd z_api_Segment a0 (w64 (iShr .u64 (IntKind.wrap .u64 (w64 (y1_0+y1_1))) 1))).vBytes).length cad1_1],vI a1]) (caps:=cap2) hent2 rfl rfl (hfp2 (rd z_api_Segment a0 (w64 (iShr .u64 (IntKind.wrap .u64 (w64 (y1_0+y1_1))) 1))) Aad1_1 cad1_1 a1 _ _ HS1.toE HS1.sub HS1.sees hrad1_1 hcad1_1 _ H1)) ?_
    intro w2 hE1
    have HS2:=HS1.step hE1
    refine rs (vB (decide (v1<0))) (r_bin rfl rfl rfl) ?_
    try simp only [sc0,sc1]
    refine run_nil<|norm_then<|wp_cond_split (t:=(decide (v1<0))) rfl (fun c2=>?_) (fun c2=>?_)
    ·replace H:=of_pos H c2
     refine region<|rs (vI (w64 (iShr .u64 (IntKind.wrap .u64 (w64 (y1_0+y1_1))) 1))) (r_move rfl)<|rs (vI (w64 ((w64 (iShr .u64 (IntKind.wrap .u64 (w64 (y1_0+y1_1))) 1))+1))) (r_bin rfl rfl rfl)<|rs (vI (w64 ((w64 (iShr .u64 (IntKind.wrap .u64 (w64 (y1_0+y1_1))) 1))+1))) (r_assign rfl) ?_
     try simp only [sc0,sc1]
     refine run_nil<|norm_block<|again_j m (Nat.lt_succ_self m) rfl ⟨(w64 ((w64 (iShr .u64 (IntKind.wrap .u64 (w64 (y1_0+y1_1))) 1))+1)),y1_1,(fit rfl),H,HS2⟩
    ·replace H:=of_neg H (nt c2)
     refine region<|rs (vI (w64 (iShr .u64 (IntKind.wrap .u64 (w64 (y1_0+y1_1))) 1))) (r_move rfl)<|rs (vI (w64 (iShr .u64 (IntKind.wrap .u64 (w64 (y1_0+y1_1))) 1))) (r_assign rfl) ?_
     try simp only [sc0,sc1]
     refine run_nil<|norm_block<|again_j m (Nat.lt_succ_self m) rfl ⟨y1_0,(w64 (iShr .u64 (IntKind.wrap .u64 (w64 (y1_0+y1_1))) 1)),(fit rfl),H,HS2⟩
   ·replace H:=of_neg H (nt c1)
    refine wp_exit<|exit_then ?_
    obtain rfl:=Option.some.inj H
    refine leave_j rfl ⟨(fit rfl),HS1⟩
 ·rintro us w3 ⟨huo1,HS3⟩
  obtain ⟨uo1,rfl⟩:=unj huo1
  replace H:=G1
  clear G1
  try simp only [patch,sc0,sc1]
  refine norm_then<|wp_seq<|region<|rs (vI xx1) (r_move rfl)<|rs (vI xx1) (r_move rfl)<|rs (vI (a0.length:Int)) (r_move rfl)<|rs (vB (decide (xx1<(a0.length:Int)))) (r_bin rfl rfl rfl)<|run_frame (by simp only [sc0,sc1];rfl) ?_
  refine rs (vB (decide (xx1<(a0.length:Int)))) (r_move rfl)<|rgs (decide (xx1<(a0.length:Int))) true (Value.func (.func fid2) #[] cap2.toArray) rfl rfl rfl rfl (fun hg=>(r_move rfl))<|rgs (decide (xx1<(a0.length:Int))) true (vL A0_0 a0.length c0_0) rfl rfl rfl rfl (fun hg=>(r_move rfl))<|rgs (decide (xx1<(a0.length:Int))) true (vI xx1) rfl rfl rfl rfl (fun hg=>(r_move rfl))<|run_frame (by simp only [sc0,sc1];rfl) ?_
  obtain ⟨hi2,H⟩:=of_ite H
  obtain ⟨ad2,Aad2_1,cad2_1,hq1⟩:=gx3 (fun hC:(true&&((decide (xx1<(a0.length:Int)))==true))=true=>ld_api_Segment hr0_0 (hi2 hC).1 (hi2 hC).2)
  refine rgs (decide (xx1<(a0.length:Int))) true (Value.pointer (some (Addr.add ad2 (xx1.toNat*2)))) rfl rfl rfl rfl (fun hg=>(r_indexA (sz:=2) (gvt (vL A0_0 a0.length c0_0) hg rfl) (hq1 hg).1 (gvt (vI xx1) hg rfl) (hi2 hg).1 (hi2 hg).2 Tryz.runUnderlying25 Tryz.sizeOf58))<|rgs (decide (xx1<(a0.length:Int))) true (Value.agg #[vI ((rd z_api_Segment a0 xx1).vAt),vL Aad2_1 ((rd z_api_Segment a0 xx1).vBytes).length cad2_1]) rfl rfl rfl rfl (fun hg=>(r_loadAgg (gvt (Value.pointer (some (Addr.add ad2 (xx1.toNat*2)))) hg rfl) Tryz.isAgg58 (((hq1 hg).2.1).sees HS3.sees) Tryz.sizeOf58))<|rgs (decide (xx1<(a0.length:Int))) true (vI a1) rfl rfl rfl rfl (fun hg=>(r_move rfl)) ?_
  obtain ⟨v2,H2,H⟩:=of_bind H
  refine run_g (b:=(decide (xx1<(a0.length:Int)))) (c:=true) (v:=vI v2) rfl rfl rfl rfl (fun hg=>(does_callv (vs:=[Value.agg #[vI ((rd z_api_Segment a0 xx1).vAt),vL Aad2_1 ((rd z_api_Segment a0 xx1).vBytes).length cad2_1],vI a1]) (caps:=cap2) hent2 (gvt (Value.func (.func fid2) #[] cap2.toArray) hg rfl) (map2 (gvt (Value.agg #[vI ((rd z_api_Segment a0 xx1).vAt),vL Aad2_1 ((rd z_api_Segment a0 xx1).vBytes).length cad2_1]) hg rfl) (gvt (vI a1) hg rfl)) (hfp2 (rd z_api_Segment a0 xx1) Aad2_1 cad2_1 a1 _ _ HS3.toE HS3.sub HS3.sees ((hq1 hg).2.2.2) ((hq1 hg).2.2.1) _ (of_pos H2 hg)))) ?_
  intro w4 hE2
  have HS4:=HS3.step hE2
  refine run_frame (by simp only [sc0,sc1];rfl) ?_
  refine rgs (decide (xx1<(a0.length:Int))) true (vB (v2==0)) rfl rfl rfl rfl (fun hg=>(r_bin (gvt (vI v2) hg rfl) rfl rfl))<|rs (vB ((decide (xx1<(a0.length:Int)))&&(v2==0))) (r_pick_and rfl (fun hp=>(gvt (vB (v2==0)) (and_i rfl hp) rfl)) rfl)<|rs (vI xx1) (r_assign rfl)<|rs (vB ((decide (xx1<(a0.length:Int)))&&(v2==0))) (r_assign rfl) ?_
  try simp only [sc0,sc1]
  refine run_nil<|norm_then<|wp_ret ?_
  obtain rfl:=Option.some.inj H
  exact bodyPost_ret (results_2 rfl (one_tmp rfl) (one_tmp rfl)) rfl<|⟨rfl,HS4.toE⟩
end Go.Proofs.YtecpbadkdpbkpaaGreatDoor
/-image.search:a binary search whose comparison is a closure over a function value. -/
namespace Go.Proofs.YtecpbadkdpbkpaaGreatDoor
open Go.RowKit Go.M
def image_search_1.f (a2:api_Segment→Option Int) (x:api_Segment) (n:Int):Option Int:=(a2 x).bind fun v=>if (decide (v≤n))=true then some (-1) else some 1
def FnSeg (a2:api_Segment→Option Int) (fid2:Nat) (cap2:List Value) (h0:View) (w0:World):Prop:=
 ∀(z0:api_Segment) (Az0_1:Option Addr) (cz0_1:Nat) (h:View) (w:World),Ext w0 w→Sub h0 h→Sees h w→Rd (Kd.int .u8) h Az0_1 z0.vBytes→z0.vBytes.length≤cz0_1→∀(r:Int),a2 z0=some r→Calls Tryz.prog fid2 ([Value.agg #[vI z0.vAt,vL Az0_1 z0.vBytes.length cz0_1]]++cap2).toArray w (fun e w1=>e= .returned (vI r)∧Ext w w1)
theorem image_search_1.calls (a2:api_Segment→Option Int) (fid2:Nat) (cap2:List Value) (x:api_Segment) (A0_1:Option Addr) (c0_1:Nat) (n:Int) (bx:Nat) {h0:View} {w0:World} (hv:Sees h0 w0) (hr0_1:Rd (Kd.int .u8) h0 A0_1 x.vBytes) (hc0_1:x.vBytes.length≤c0_1)
  (hent2:∀args w,(callFunc fid2 args).run Tryz.prog w= .ok (.enter fid2 args) w) (hfp2:FnSeg a2 fid2 cap2 h0 w0) (hbx:w0.heap[bx]?=some (.cells #[Value.func (.func fid2) #[] cap2.toArray] 182 (0,0))) {r:Int} (H:image_search_1.f a2 x n=some r):
  Calls Tryz.prog 144 #[Value.agg #[vI x.vAt,vL A0_1 x.vBytes.length c0_1],vI n,vP bx 0] w0 (fun e w1=>e= .returned (vI r)∧Ext w0 w1):=by
 unfold image_search_1.f at H
 have HS:St [] h0 w0 h0 [] w0:=St.init hv
 go_enter Tryz.func144,Tryz.ntmps144
 refine wp_seq<|region<|run_ex rfl rfl (does_box (cs:=#[vI x.vAt,vL A0_1 x.vBytes.length c0_1]) rfl rfl) ?_
 rintro w1 _ hE1 ⟨b1,rfl,ge1,hb1⟩
 have HS1:=HS.new hE1 ge1 hb1
 refine rs (vI 0) (r_assign rfl) ?_
 try simp only [sc0,sc1]
 refine run_nil<|norm_then<|wp_seq<|wp_seq<|region<|rs (Value.func (.func fid2) #[] cap2.toArray) (r_loadBox rfl Tryz.isAgg182 (heap_ext hbx HS1.toE) rfl)<|rs (Value.agg #[vI x.vAt,vL A0_1 x.vBytes.length c0_1]) (r_loadBoxAgg (n:=2) (vs:=[vI x.vAt,vL A0_1 x.vBytes.length c0_1]) rfl Tryz.isAgg58 (HS1.look 0 rfl) Tryz.sizeOf58 rfl rfl) ?_
 obtain ⟨v1,H1,H⟩:=of_bind H
 refine run_eq (v:=vI v1) rfl rfl (does_callv (vs:=[Value.agg #[vI x.vAt,vL A0_1 x.vBytes.length c0_1]]) (caps:=cap2) hent2 rfl rfl (hfp2 x A0_1 c0_1 _ _ HS1.toE HS1.sub HS1.sees hr0_1 hc0_1 _ H1)) ?_
 intro w2 hE2
 have HS2:=HS1.step hE2
 refine rs (vI n) (r_move rfl)<|run_frame (by simp only [sc0,sc1];rfl) ?_
 refine rs (vB (decide (v1≤n))) (r_bin rfl rfl rfl) ?_
 try simp only [sc0,sc1]
 refine run_nil<|norm_then<|wp_cond_split (t:=(decide (v1≤n))) rfl (fun c1=>?_) (fun c1=>?_)
 ·replace H:=of_pos H c1
  refine wp_seq<|region<|rs (vI (-1)) (r_assign rfl) ?_
  try simp only [sc0,sc1]
  refine run_nil<|norm_then<|wp_ret<|ret_then ?_
  obtain rfl:=Option.some.inj H
  exact bodyPost_ret (results_1 rfl (one_tmp rfl)) rfl<|⟨rfl,HS2.toE⟩
 ·replace H:=of_neg H (nt c1)
  refine wp_skip<|norm_then<|wp_seq<|region<|rs (vI 1) (r_assign rfl) ?_
  try simp only [sc0,sc1]
  refine run_nil<|norm_then<|wp_ret ?_
  obtain rfl:=Option.some.inj H
  exact bodyPost_ret (results_1 rfl (one_tmp rfl)) rfl<|⟨rfl,HS2.toE⟩
def image_search_api_Segment_int64.f (k:Nat) (a0:List api_Segment) (a1:Int) (a2:api_Segment→Option Int):Option Int:=
 (slices_BinarySearchFunc_api_Segment_api_Segment_int64.f k a0 a1 (fun z0 z1=>image_search_1.f a2 z0 z1)).bind fun v1=>some v1.1
theorem image_search_api_Segment_int64.calls (k:Nat) (a0:List api_Segment) (a1:Int) (a2:api_Segment→Option Int) (A0_0:Option Addr) (c0_0:Nat) (fid2:Nat) (cap2:List Value) {h0:View} {w0:World} (hv:Sees h0 w0) (hr0_0:Rd k_api_Segment h0 A0_0 a0) (hc0_0:a0.length≤c0_0)
  (hent2:∀args w,(callFunc fid2 args).run Tryz.prog w= .ok (.enter fid2 args) w) (hfp2:FnSeg a2 fid2 cap2 h0 w0) {r:Int} (H:image_search_api_Segment_int64.f k a0 a1 a2=some r):
  Calls Tryz.prog 92 #[vL A0_0 a0.length c0_0,vI a1,Value.func (.func fid2) #[] cap2.toArray] w0 (fun e w1=>e= .returned (vI r)∧Ext w0 w1):=by
 unfold image_search_api_Segment_int64.f at H
 have HS:St [] h0 w0 h0 [] w0:=St.init hv
 go_enter Tryz.func92,Tryz.ntmps92
 refine wp_seq<|region<|run_ex rfl rfl (does_box (cs:=#[Value.func (.func fid2) #[] cap2.toArray]) rfl rfl) ?_
 rintro w1 _ hE1 ⟨b1,rfl,ge1,hb1⟩
 have HS1:=HS.new hE1 ge1 hb1
 refine rs (vI 0) (r_assign rfl) ?_
 try simp only [sc0,sc1]
 refine run_nil<|norm_then<|wp_seq<|region<|rs (vL A0_0 a0.length c0_0) (r_move rfl)<|rs (vI a1) (r_move rfl)<|rs (Value.func (.func 144) #[] #[vP b1 0]) (r_makeFunc (vs:=[vP b1 0]) rfl) ?_
 obtain ⟨v1,H1,H⟩:=of_bind H
 refine run_eq (v:=Value.tuple #[vI v1.1,vB v1.2]) rfl rfl (does_call_eq Tryz.call143 rfl rfl (slices_BinarySearchFunc_api_Segment_api_Segment_int64.calls k a0 a1 (fun z0 z1=>image_search_1.f a2 z0 z1) A0_0 c0_0 144 [vP b1 0] HS1.sees hr0_0 hc0_0 Tryz.call144
  (fun z0 Az0_1 cz0_1 z1 h w hE hs hv hz hzc r H=>image_search_1.calls a2 fid2 cap2 z0 Az0_1 cz0_1 z1 b1 hv hz hzc hent2 (fun y A c h' w' hE' hs'=>hfp2 y A c h' w' (Ext.then (Ext.then HS1.toE hE) hE') (fun a v e=>hs' a v (hs a v e))) (heap_ext (HS1.look 0 rfl) hE) H) H1)) ?_
 intro w2 hE2
 have HS2:=HS1.step hE2
 refine run_frame (by simp only [sc0,sc1];rfl) ?_
 refine rs (Value.tuple #[vI v1.1,vB v1.2]) (r_move rfl)<|rs (vI v1.1) (r_extract (vs:=#[vI v1.1,vB v1.2]) rfl rfl)<|rs (vB v1.2) (r_extract (vs:=#[vI v1.1,vB v1.2]) rfl rfl)<|run_frame (by simp only [sc0,sc1];rfl) ?_
 refine rs (vI v1.1) (r_assign rfl)<|rs (vB v1.2) (r_assign rfl) ?_
 try simp only [sc0,sc1]
 refine run_nil<|norm_then<|wp_seq<|region<|rs (vI v1.1) (r_move rfl)<|rs (vI v1.1) (r_assign rfl) ?_
 try simp only [sc0,sc1]
 refine run_nil<|norm_then<|wp_ret ?_
 obtain rfl:=Option.some.inj H
 exact bodyPost_ret (results_1 rfl (one_tmp rfl)) rfl<|⟨rfl,HS2.toE⟩
end Go.Proofs.YtecpbadkdpbkpaaGreatDoor
namespace Go.Proofs.YtecpbadkdpbkpaaGreatDoor
open Go.RowKit Go.M
def image_end.f (a0:api_Segment):Option (Int):=some (IntKind.wrap .i64 (a0.vAt+(a0.vBytes.length:Int)))
theorem image_end.calls (a0:api_Segment) (A0_1:Option Addr) (c0_1:Nat) {h0:View} {w0:World} (hv:Sees h0 w0) (hr0_1:Rd (Kd.int .u8) h0 A0_1 a0.vBytes) (hc0_1:a0.vBytes.length≤c0_1) {r:Int} (H:image_end.f a0=some r):Calls Tryz.prog 93 #[Value.agg #[vI a0.vAt,vL A0_1 a0.vBytes.length c0_1]] w0 (fun e w1=>e= .returned (vI r)∧Ext w0 w1):=by
 unfold image_end.f at H
 have HS:St [] h0 w0 h0 [] w0:=St.init hv
 go_enter Tryz.func93,Tryz.ntmps93
 refine wp_seq<|region<|run_ex rfl rfl (does_box (cs:=#[vI a0.vAt,vL A0_1 a0.vBytes.length c0_1]) rfl rfl) ?_
 rintro w1 _ hE1 ⟨b1,rfl,ge1,hb1⟩
 have HS1:=HS.new hE1 ge1 hb1
 refine rs (vI 0) (r_assign rfl) ?_
 try simp only [sc0,sc1]
 refine run_nil<|norm_then<|wp_seq<|region<|rs (vP b1 0) (r_fieldBox (n:=1) (o':=0) rfl Tryz.runUnderlying58 rfl Tryz.sizeOf2 (by decide) rfl)<|rs (vI a0.vAt) (r_loadBox rfl Tryz.isAgg2 (HS1.look 0 rfl) rfl)<|rs (vP b1 1) (r_fieldBox (n:=1) (o':=1) rfl Tryz.runUnderlying58 rfl Tryz.sizeOf42 (by decide) rfl)<|rs (vL A0_1 a0.vBytes.length c0_1) (r_loadBox rfl Tryz.isAgg42 (HS1.look 0 rfl) rfl)<|run_frame (by simp only [sc0,sc1];rfl) ?_
 refine rs (vI (a0.vBytes.length:Int)) (r_len rfl Tryz.runUnderlying42)<|rs (vI (w64 (a0.vAt+(a0.vBytes.length:Int)))) (r_bin rfl rfl rfl)<|rs (vI (w64 (a0.vAt+(a0.vBytes.length:Int)))) (r_assign rfl) ?_
 try simp only [sc0,sc1]
 refine run_nil<|norm_then<|wp_ret ?_
 obtain rfl:=Option.some.inj H
 exact bodyPost_ret (results_1 rfl (one_tmp rfl)) rfl<|⟨rfl,HS1.toE⟩
def image_read.l0 (a0:api_Image) (a1:Int) (a2:Int):Nat→Int→(List Int)→Option (((List Int)×Bool)⊕((List Int)))
 |0,_,_=>none
 |m+1,y1_0,y1_1=>if (decide (((y1_1.length:Nat):Int)<a2))=true then (if (true&&(((decide ((IntKind.wrap .i64 (a1+((y1_1.length:Nat):Int)))<0))||(decide (y1_0≥(a0.vSegs.length:Int))))==false))=true→(0≤y1_0∧y1_0<a0.vSegs.length) then (if (((decide ((IntKind.wrap .i64 (a1+((y1_1.length:Nat):Int)))<0))||(decide (y1_0≥(a0.vSegs.length:Int))))||(decide ((rd z_api_Segment a0.vSegs y1_0).vAt>(IntKind.wrap .i64 (a1+((y1_1.length:Nat):Int))))))=true then (some (.inl (([]:List Int),false))) else (if 0≤y1_0∧y1_0<a0.vSegs.length then (if 0≤(IntKind.wrap .i64 ((IntKind.wrap .i64 (a1+((y1_1.length:Nat):Int)))-((rd z_api_Segment a0.vSegs y1_0).vAt)))∧(IntKind.wrap .i64 ((IntKind.wrap .i64 (a1+((y1_1.length:Nat):Int)))-((rd z_api_Segment a0.vSegs y1_0).vAt)))≤(iMin (((rd z_api_Segment a0.vSegs y1_0).vBytes).length:Int) (IntKind.wrap .i64 ((IntKind.wrap .i64 ((IntKind.wrap .i64 ((IntKind.wrap .i64 (a1+((y1_1.length:Nat):Int)))-((rd z_api_Segment a0.vSegs y1_0).vAt)))+a2))-((y1_1.length:Nat):Int))))∧(iMin (((rd z_api_Segment a0.vSegs y1_0).vBytes).length:Int) (IntKind.wrap .i64 ((IntKind.wrap .i64 ((IntKind.wrap .i64 ((IntKind.wrap .i64 (a1+((y1_1.length:Nat):Int)))-((rd z_api_Segment a0.vSegs y1_0).vAt)))+a2))-((y1_1.length:Nat):Int))))≤(((rd z_api_Segment a0.vSegs y1_0).vBytes).length:Int) then (if y1_1.length+(List.drop (IntKind.wrap .i64 ((IntKind.wrap .i64 (a1+((y1_1.length:Nat):Int)))-((rd z_api_Segment a0.vSegs y1_0).vAt))).toNat (List.take (iMin (((rd z_api_Segment a0.vSegs y1_0).vBytes).length:Int) (IntKind.wrap .i64 ((IntKind.wrap .i64 ((IntKind.wrap .i64 ((IntKind.wrap .i64 (a1+((y1_1.length:Nat):Int)))-((rd z_api_Segment a0.vSegs y1_0).vAt)))+a2))-((y1_1.length:Nat):Int)))).toNat ((rd z_api_Segment a0.vSegs y1_0).vBytes))).length≤4294967296 then (image_read.l0 a0 a1 a2 m (IntKind.wrap .i64 (y1_0+1)) (y1_1++(List.drop (IntKind.wrap .i64 ((IntKind.wrap .i64 (a1+((y1_1.length:Nat):Int)))-((rd z_api_Segment a0.vSegs y1_0).vAt))).toNat (List.take (iMin (((rd z_api_Segment a0.vSegs y1_0).vBytes).length:Int) (IntKind.wrap .i64 ((IntKind.wrap .i64 ((IntKind.wrap .i64 ((IntKind.wrap .i64 (a1+((y1_1.length:Nat):Int)))-((rd z_api_Segment a0.vSegs y1_0).vAt)))+a2))-((y1_1.length:Nat):Int)))).toNat ((rd z_api_Segment a0.vSegs y1_0).vBytes))))) else none) else none) else none)) else none) else (some (.inr y1_1))
def image_read.f (k:Nat) (a0:api_Image) (a1:Int) (a2:Int):Option ((List Int)×Bool):=(image_search_api_Segment_int64.f k a0.vSegs a1 (fun z0=>image_end.f z0)).bind fun v1=>((image_read.l0 a0 a1 a2 k v1 ([]:List Int)).bind fun xx1=>(match xx1 with| .inl r=>some r| .inr s1=>some (s1,true)))
theorem image_read.calls (k:Nat) (a0:api_Image) (a1:Int) (a2:Int) (A0_0:Option Addr) (c0_0:Nat) {h0:View} {w0:World} (hv:Sees h0 w0) (hr0_0:Rd k_api_Segment h0 A0_0 a0.vSegs) (hc0_0:a0.vSegs.length≤c0_0) {r:(List Int)×Bool} (H:image_read.f k a0 a1 a2=some r):Calls Tryz.prog 59 #[Value.agg #[vL A0_0 a0.vSegs.length c0_0],vI a1,vI a2] w0 (fun e w1=>∃(h1:View) (A0_0:Option Addr) (c0_0:Nat),e= .returned (Value.tuple #[vL A0_0 r.1.length c0_0,vB r.2])∧r.1.length≤c0_0∧Rd (Kd.int .u8) h1 A0_0 r.1∧Gr w0.heap.size h0 h1∧Sees h1 w1∧Ext w0 w1):=by
 unfold image_read.f at H
 have HS:St [] h0 w0 h0 [] w0:=St.init hv
 go_enter Tryz.func59,Tryz.ntmps59
 refine wp_seq<|region<|run_ex rfl rfl (does_box (cs:=#[vL A0_0 a0.vSegs.length c0_0]) rfl rfl) ?_
 rintro w1 _ hE1 ⟨b1,rfl,ge1,hb1⟩
 have HS1:=HS.new hE1 ge1 hb1
 refine rs (vL none 0 0) (r_assign rfl)<|rs (vB false) (r_assign rfl) ?_
 try simp only [sc0,sc1]
 refine run_nil<|norm_then<|wp_seq<|region<|rs (vL none 0 0) (r_assign rfl) ?_
 try simp only [sc0,sc1]
 refine run_nil<|norm_then<|wp_seq<|wp_seq<|region<|rs (vP b1 0) (r_fieldBox (n:=1) (o':=0) rfl Tryz.runUnderlying27 rfl Tryz.sizeOf25 (by decide) rfl)<|rs (vL A0_0 a0.vSegs.length c0_0) (r_loadBox rfl Tryz.isAgg25 (HS1.look 0 rfl) rfl)<|rs (vI a1) (r_move rfl) ?_
 obtain ⟨v1,H1,H⟩:=of_bind H
 refine run_eq (v:=vI v1) rfl rfl (does_call_eq Tryz.call92 rfl rfl (image_search_api_Segment_int64.calls k a0.vSegs a1 (fun z0=>image_end.f z0) A0_0 c0_0 93 [] HS1.sees hr0_0 hc0_0 Tryz.call93 (fun z0 Az0_1 cz0_1 h w hE hs hv hz0_1 hzc0_1 r H=>image_end.calls z0 Az0_1 cz0_1 hv hz0_1 hzc0_1 H) H1)) ?_
 intro w2 hE2
 have HS2:=HS1.step hE2
 refine run_frame (by simp only [sc0,sc1];rfl) ?_
 refine rs (vI v1) (r_assign rfl) ?_
 try simp only [sc0,sc1]
 refine run_nil<|norm_then ?_
 have HS3:=HS2.nothing (.cells ([]:List Value).toArray 5 (0,0))
 obtain ⟨xx1,H,G1⟩:=of_bind H
 refine loop_j [6,7,8,9,10,11,12,17,18,19,20,21,22,23,24,25,26,27,28,29,30,31,32,33,34,35,36,37,38,39,40,41,42,43,44,45,46,47,48,49,50,51,52,53,54,55,56,57,58,59,60,61,62,63,64,65,66,67,68,69,70] (fun m us w'=>∃y1_0:Int,∃y1_1:List Int,∃(oby1_1:Option Nat) (cy1_1:Nat),∃(csy1_1:List Value),Fit us (fun uy1=>[(uy1 0),(uy1 1),vL (rowA oby1_1) y1_1.length cy1_1,vI y1_0,(uy1 4),(uy1 5),(uy1 6),(uy1 7),(uy1 8),(uy1 9),(uy1 10),(uy1 11),(uy1 12),(uy1 13),(uy1 14),(uy1 15),(uy1 16),(uy1 17),(uy1 18),(uy1 19),(uy1 20),(uy1 21),(uy1 22),(uy1 23),(uy1 24),(uy1 25),(uy1 26),(uy1 27),(uy1 28),(uy1 29),(uy1 30),(uy1 31),(uy1 32),(uy1 33),(uy1 34),(uy1 35),(uy1 36),(uy1 37),(uy1 38),(uy1 39),(uy1 40),(uy1 41),(uy1 42),(uy1 43),(uy1 44),(uy1 45),(uy1 46),(uy1 47),(uy1 48),(uy1 49),(uy1 50),(uy1 51),(uy1 52),(uy1 53),(uy1 54),(uy1 55),(uy1 56),(uy1 57),(uy1 58),(uy1 59),(uy1 60)])∧image_read.l0 a0 a1 a2 m y1_0 y1_1=some xx1∧RowOk (Kd.int .u8) h0 y1_1 oby1_1 y1_1.length cy1_1 csy1_1∧St [] h0 w0 h0 [(oby1_1, .cells (csy1_1).toArray 5 (0,0)),(some b1, .cells #[vL A0_0 a0.vSegs.length c0_0] 27 (0,0))] w') (fun us w'=>∃(s1:(List Int)),xx1= .inr s1∧∃(obo1_0:Option Nat) (co1_0:Nat),∃(cso1_0:List Value),Fit us (fun uo1=>[(uo1 0),(uo1 1),vL (rowA obo1_0) s1.length co1_0,(uo1 3),(uo1 4),(uo1 5),(uo1 6),(uo1 7),(uo1 8),(uo1 9),(uo1 10),(uo1 11),(uo1 12),(uo1 13),(uo1 14),(uo1 15),(uo1 16),(uo1 17),(uo1 18),(uo1 19),(uo1 20),(uo1 21),(uo1 22),(uo1 23),(uo1 24),(uo1 25),(uo1 26),(uo1 27),(uo1 28),(uo1 29),(uo1 30),(uo1 31),(uo1 32),(uo1 33),(uo1 34),(uo1 35),(uo1 36),(uo1 37),(uo1 38),(uo1 39),(uo1 40),(uo1 41),(uo1 42),(uo1 43),(uo1 44),(uo1 45),(uo1 46),(uo1 47),(uo1 48),(uo1 49),(uo1 50),(uo1 51),(uo1 52),(uo1 53),(uo1 54),(uo1 55),(uo1 56),(uo1 57),(uo1 58),(uo1 59),(uo1 60)])∧RowOk (Kd.int .u8) h0 s1 obo1_0 s1.length co1_0 cso1_0∧St [] h0 w0 h0 [(obo1_0, .cells (cso1_0).toArray 5 (0,0)),(some b1, .cells #[vL A0_0 a0.vSegs.length c0_0] 27 (0,0))] w') k ⟨v1,([]:List Int),none,0,([]:List Value),(fit rfl),H,(RowOk.none' (Kd.int .u8) _).norm,HS3⟩ ?_ ?_
 ·rintro m us w3 ⟨y1_0,y1_1,oby1_1,cy1_1,csy1_1,huy1,H,hoy1_1,HS4⟩
  obtain ⟨uy1,rfl⟩:=unj huy1
  cases m with
  |zero=>exact absurd H (by simp [image_read.l0])
  |succ m=>
   rw [image_read.l0] at H
   try simp only [patch,sc0,sc1]
   refine wp_seq<|wp_seq<|region<|rs (vL (rowA oby1_1) y1_1.length cy1_1) (r_move rfl)<|rs (vI ((y1_1.length:Nat):Int)) (r_lenRow rfl Tryz.runUnderlying42)<|rs (vI a2) (r_move rfl)<|rs (vB (decide (((y1_1.length:Nat):Int)<a2))) (r_bin rfl rfl rfl) ?_
   try simp only [sc0,sc1]
   refine run_nil<|norm_then<|wp_cond_split (t:=(decide (((y1_1.length:Nat):Int)<a2))) rfl (fun c1=>?_) (fun c1=>?_)
   ·replace H:=of_pos H c1
    refine wp_skip<|norm_then<|wp_seq<|wp_block<|wp_seq<|region<|rs (vI a1) (r_move rfl)<|rs (vL (rowA oby1_1) y1_1.length cy1_1) (r_move rfl)<|rs (vI ((y1_1.length:Nat):Int)) (r_lenRow rfl Tryz.runUnderlying42)<|rs (vI (w64 (a1+((y1_1.length:Nat):Int)))) (r_bin rfl rfl rfl)<|run_frame (by simp only [sc0,sc1];rfl) ?_
    refine rs (vI (w64 (a1+((y1_1.length:Nat):Int)))) (r_assign rfl) ?_
    try simp only [sc0,sc1]
    refine run_nil<|norm_then<|wp_seq<|wp_seq<|region<|rs (vI (w64 (a1+((y1_1.length:Nat):Int)))) (r_move rfl)<|rs (vB (decide ((w64 (a1+((y1_1.length:Nat):Int)))<0))) (r_bin rfl rfl rfl)<|rs (vB (decide ((w64 (a1+((y1_1.length:Nat):Int)))<0))) (r_move rfl)<|rgs (decide ((w64 (a1+((y1_1.length:Nat):Int)))<0)) true (vI y1_0) rfl rfl rfl rfl (fun hg=>(r_move rfl))<|run_frame (by simp only [sc0,sc1];rfl) ?_
    refine rgs (decide ((w64 (a1+((y1_1.length:Nat):Int)))<0)) true (vP b1 0) rfl rfl rfl rfl (fun hg=>(r_fieldBox (n:=1) (o':=0) rfl Tryz.runUnderlying27 rfl Tryz.sizeOf25 (by decide) rfl))<|rgs (decide ((w64 (a1+((y1_1.length:Nat):Int)))<0)) true (vL A0_0 a0.vSegs.length c0_0) rfl rfl rfl rfl (fun hg=>(r_loadBox (gvt (vP b1 0) hg rfl) Tryz.isAgg25 (HS4.look 1 rfl) rfl))<|rgs (decide ((w64 (a1+((y1_1.length:Nat):Int)))<0)) true (vI (a0.vSegs.length:Int)) rfl rfl rfl rfl (fun hg=>(r_len (gvt (vL A0_0 a0.vSegs.length c0_0) hg rfl) Tryz.runUnderlying25))<|rgs (decide ((w64 (a1+((y1_1.length:Nat):Int)))<0)) true (vB (decide (y1_0≥(a0.vSegs.length:Int)))) rfl rfl rfl rfl (fun hg=>(r_bin (gvt (vI y1_0) hg rfl) (gvt (vI (a0.vSegs.length:Int)) hg rfl) rfl))<|run_frame (by simp only [sc0,sc1];rfl) ?_
    refine rs (vB ((decide ((w64 (a1+((y1_1.length:Nat):Int)))<0))||(decide (y1_0≥(a0.vSegs.length:Int))))) (r_pick_or rfl rfl (fun hp=>(gvt (vB (decide (y1_0≥(a0.vSegs.length:Int)))) (and_i rfl hp) rfl)))<|rs (vB ((decide ((w64 (a1+((y1_1.length:Nat):Int)))<0))||(decide (y1_0≥(a0.vSegs.length:Int))))) (r_move rfl)<|rgs ((decide ((w64 (a1+((y1_1.length:Nat):Int)))<0))||(decide (y1_0≥(a0.vSegs.length:Int)))) true (vP b1 0) rfl rfl rfl rfl (fun hg=>(r_fieldBox (n:=1) (o':=0) rfl Tryz.runUnderlying27 rfl Tryz.sizeOf25 (by decide) rfl))<|rgs ((decide ((w64 (a1+((y1_1.length:Nat):Int)))<0))||(decide (y1_0≥(a0.vSegs.length:Int)))) true (vL A0_0 a0.vSegs.length c0_0) rfl rfl rfl rfl (fun hg=>(r_loadBox (gvt (vP b1 0) hg rfl) Tryz.isAgg25 (HS4.look 1 rfl) rfl))<|run_frame (by simp only [sc0,sc1];rfl) ?_
    refine rgs ((decide ((w64 (a1+((y1_1.length:Nat):Int)))<0))||(decide (y1_0≥(a0.vSegs.length:Int)))) true (vI y1_0) rfl rfl rfl rfl (fun hg=>(r_move rfl)) ?_
    obtain ⟨hi1,H⟩:=of_ite H
    obtain ⟨ad1,Aad1_1,cad1_1,hq1⟩:=gx3 (fun hC:(true&&(((decide ((w64 (a1+((y1_1.length:Nat):Int)))<0))||(decide (y1_0≥(a0.vSegs.length:Int))))==false))=true=>ld_api_Segment hr0_0 (hi1 hC).1 (hi1 hC).2)
    refine rgs ((decide ((w64 (a1+((y1_1.length:Nat):Int)))<0))||(decide (y1_0≥(a0.vSegs.length:Int)))) true (Value.pointer (some (Addr.add ad1 (y1_0.toNat*2)))) rfl rfl rfl rfl (fun hg=>(r_indexA (sz:=2) (gvt (vL A0_0 a0.vSegs.length c0_0) hg rfl) (hq1 hg).1 (gvt (vI y1_0) hg rfl) (hi1 hg).1 (hi1 hg).2 Tryz.runUnderlying25 Tryz.sizeOf58))<|rgs ((decide ((w64 (a1+((y1_1.length:Nat):Int)))<0))||(decide (y1_0≥(a0.vSegs.length:Int)))) true (Value.pointer (some (Addr.add (Addr.add ad1 (y1_0.toNat*2)) 0))) rfl rfl rfl rfl (fun hg=>(r_fieldEl (n:=1) (o':=0) (gvt (Value.pointer (some (Addr.add ad1 (y1_0.toNat*2)))) hg rfl) Tryz.runUnderlying58 rfl Tryz.sizeOf2 (by decide) rfl))<|rgs ((decide ((w64 (a1+((y1_1.length:Nat):Int)))<0))||(decide (y1_0≥(a0.vSegs.length:Int)))) true (vI ((rd z_api_Segment a0.vSegs y1_0).vAt)) rfl rfl rfl rfl (fun hg=>(r_load (gvt (Value.pointer (some (Addr.add (Addr.add ad1 (y1_0.toNat*2)) 0))) hg rfl) Tryz.isAgg2 (((hq1 hg).2.1).cell HS4.sees 0 rfl)))<|run_frame (by simp only [sc0,sc1];rfl) ?_
    refine rgs ((decide ((w64 (a1+((y1_1.length:Nat):Int)))<0))||(decide (y1_0≥(a0.vSegs.length:Int)))) true (vI (w64 (a1+((y1_1.length:Nat):Int)))) rfl rfl rfl rfl (fun hg=>(r_move rfl))<|rgs ((decide ((w64 (a1+((y1_1.length:Nat):Int)))<0))||(decide (y1_0≥(a0.vSegs.length:Int)))) true (vB (decide ((rd z_api_Segment a0.vSegs y1_0).vAt>(w64 (a1+((y1_1.length:Nat):Int)))))) rfl rfl rfl rfl (fun hg=>(r_bin (gvt (vI ((rd z_api_Segment a0.vSegs y1_0).vAt)) hg rfl) (gvt (vI (w64 (a1+((y1_1.length:Nat):Int)))) hg rfl) rfl))<|rs (vB (((decide ((w64 (a1+((y1_1.length:Nat):Int)))<0))||(decide (y1_0≥(a0.vSegs.length:Int))))||(decide ((rd z_api_Segment a0.vSegs y1_0).vAt>(w64 (a1+((y1_1.length:Nat):Int))))))) (r_pick_or rfl rfl (fun hp=>(gvt (vB (decide ((rd z_api_Segment a0.vSegs y1_0).vAt>(w64 (a1+((y1_1.length:Nat):Int)))))) (and_i rfl hp) rfl))) ?_
    try simp only [sc0,sc1]
    refine run_nil<|norm_then<|wp_cond_split (t:=(((decide ((w64 (a1+((y1_1.length:Nat):Int)))<0))||(decide (y1_0≥(a0.vSegs.length:Int))))||(decide ((rd z_api_Segment a0.vSegs y1_0).vAt>(w64 (a1+((y1_1.length:Nat):Int))))))) rfl (fun c2=>?_) (fun c2=>?_)
    ·replace H:=of_pos H c2
     refine wp_seq<|region<|rs (vL none 0 0) (r_assign rfl)<|rs (vB false) (r_assign rfl) ?_
     try simp only [sc0,sc1]
     refine run_nil<|norm_then<|wp_ret<|ret_then<|ret_block<|ret_then<|ret_loop<|ret_then ?_
     obtain rfl:=Option.some.inj H
     obtain rfl:=Option.some.inj G1
     exact bodyPost_ret (results_2 rfl (one_tmp rfl) (one_tmp rfl)) rfl<|⟨h0,none,0,rfl,(Nat.le_refl 0),(Rd.nil _ _ _),HS4.gr,HS4.sees,HS4.toE⟩
    ·replace H:=of_neg H (nt c2)
     refine wp_skip<|norm_then<|wp_seq<|region<|rs (vP b1 0) (r_fieldBox (n:=1) (o':=0) rfl Tryz.runUnderlying27 rfl Tryz.sizeOf25 (by decide) rfl)<|rs (vL A0_0 a0.vSegs.length c0_0) (r_loadBox rfl Tryz.isAgg25 (HS4.look 1 rfl) rfl)<|rs (vI y1_0) (r_move rfl) ?_
     obtain ⟨hi2,H⟩:=of_ite H
     obtain ⟨ad2,Aad2_1,cad2_1,e2,hel2,hcad2_1,hrad2_1⟩:=ld_api_Segment hr0_0 hi2.1 hi2.2
     refine rs (Value.pointer (some (Addr.add ad2 (y1_0.toNat*2)))) (r_indexA (sz:=2) rfl e2 rfl hi2.1 hi2.2 Tryz.runUnderlying25 Tryz.sizeOf58)<|run_frame (by simp only [sc0,sc1];rfl) ?_
     refine rs (Value.agg #[vI ((rd z_api_Segment a0.vSegs y1_0).vAt),vL Aad2_1 ((rd z_api_Segment a0.vSegs y1_0).vBytes).length cad2_1]) (r_loadAgg rfl Tryz.isAgg58 (hel2.sees HS4.sees) Tryz.sizeOf58)<|run_ex rfl rfl (does_alloc (cs:=#[vI 0,vL none 0 0]) Tryz.zeroValue58 rfl) ?_
     rintro w4 _ hE3 ⟨b2,rfl,ge2,hb2⟩
     have HS5:=HS4.new hE3 ge2 hb2
     refine run_st (i:=0) (cs:=[vI 0,vL none 0 0]) (cs':=[vI ((rd z_api_Segment a0.vSegs y1_0).vAt),vL Aad2_1 ((rd z_api_Segment a0.vSegs y1_0).vBytes).length cad2_1]) (vs:=[vI ((rd z_api_Segment a0.vSegs y1_0).vAt),vL Aad2_1 ((rd z_api_Segment a0.vSegs y1_0).vBytes).length cad2_1]) (bs':=[(some b2, .cells #[vI ((rd z_api_Segment a0.vSegs y1_0).vAt),vL Aad2_1 ((rd z_api_Segment a0.vSegs y1_0).vBytes).length cad2_1] 58 (0,0)),(oby1_1, .cells (csy1_1).toArray 5 (0,0)),(some b1, .cells #[vL A0_0 a0.vSegs.length c0_0] 27 (0,0))]) rfl rfl Tryz.sizeOf58 rfl rfl (by decide) rfl HS5 rfl (Nat.le_of_ble_eq_true rfl) rfl rfl ?_
     intro w5 HS6
     try simp only [sc0,sc1]
     refine run_nil<|norm_then<|wp_seq<|region<|rs (vI (w64 (a1+((y1_1.length:Nat):Int)))) (r_move rfl)<|rs (vP b2 0) (r_fieldBox (n:=1) (o':=0) rfl Tryz.runUnderlying58 rfl Tryz.sizeOf2 (by decide) rfl)<|rs (vI ((rd z_api_Segment a0.vSegs y1_0).vAt)) (r_loadBox rfl Tryz.isAgg2 (HS6.look 0 rfl) rfl)<|rs (vI (w64 ((w64 (a1+((y1_1.length:Nat):Int)))-((rd z_api_Segment a0.vSegs y1_0).vAt)))) (r_bin rfl rfl rfl)<|run_frame (by simp only [sc0,sc1];rfl) ?_
     refine rs (vI (w64 ((w64 (a1+((y1_1.length:Nat):Int)))-((rd z_api_Segment a0.vSegs y1_0).vAt)))) (r_assign rfl) ?_
     try simp only [sc0,sc1]
     refine run_nil<|norm_then<|region<|rs (vL (rowA oby1_1) y1_1.length cy1_1) (r_move rfl)<|rs (vP b2 1) (r_fieldBox (n:=1) (o':=1) rfl Tryz.runUnderlying58 rfl Tryz.sizeOf42 (by decide) rfl)<|rs (vL Aad2_1 ((rd z_api_Segment a0.vSegs y1_0).vBytes).length cad2_1) (r_loadBox rfl Tryz.isAgg42 (HS6.look 0 rfl) rfl)<|rs (vI (w64 ((w64 (a1+((y1_1.length:Nat):Int)))-((rd z_api_Segment a0.vSegs y1_0).vAt)))) (r_move rfl)<|run_frame (by simp only [sc0,sc1];rfl) ?_
     refine rs (vP b2 1) (r_fieldBox (n:=1) (o':=1) rfl Tryz.runUnderlying58 rfl Tryz.sizeOf42 (by decide) rfl)<|rs (vL Aad2_1 ((rd z_api_Segment a0.vSegs y1_0).vBytes).length cad2_1) (r_loadBox rfl Tryz.isAgg42 (HS6.look 0 rfl) rfl)<|rs (vI (((rd z_api_Segment a0.vSegs y1_0).vBytes).length:Int)) (r_len rfl Tryz.runUnderlying42)<|rs (vI (w64 ((w64 (a1+((y1_1.length:Nat):Int)))-((rd z_api_Segment a0.vSegs y1_0).vAt)))) (r_move rfl)<|run_frame (by simp only [sc0,sc1];rfl) ?_
     refine rs (vI a2) (r_move rfl)<|rs (vI (w64 ((w64 ((w64 (a1+((y1_1.length:Nat):Int)))-((rd z_api_Segment a0.vSegs y1_0).vAt)))+a2))) (r_bin rfl rfl rfl)<|rs (vL (rowA oby1_1) y1_1.length cy1_1) (r_move rfl)<|rs (vI ((y1_1.length:Nat):Int)) (r_lenRow rfl Tryz.runUnderlying42)<|run_frame (by simp only [sc0,sc1];rfl) ?_
     refine rs (vI (w64 ((w64 ((w64 ((w64 (a1+((y1_1.length:Nat):Int)))-((rd z_api_Segment a0.vSegs y1_0).vAt)))+a2))-((y1_1.length:Nat):Int)))) (r_bin rfl rfl rfl)<|rs (vI (iMin (((rd z_api_Segment a0.vSegs y1_0).vBytes).length:Int) (w64 ((w64 ((w64 ((w64 (a1+((y1_1.length:Nat):Int)))-((rd z_api_Segment a0.vSegs y1_0).vAt)))+a2))-((y1_1.length:Nat):Int))))) (r_min rfl rfl) ?_
     obtain ⟨hk1,H⟩:=of_ite H
     obtain ⟨hp1_r,hp1_c⟩:=Rd.part2 hrad2_1 hcad2_1 hk1
     refine rs (vL (partA Aad2_1 cad2_1 (w64 ((w64 (a1+((y1_1.length:Nat):Int)))-((rd z_api_Segment a0.vSegs y1_0).vAt))).toNat 1) (List.drop (w64 ((w64 (a1+((y1_1.length:Nat):Int)))-((rd z_api_Segment a0.vSegs y1_0).vAt))).toNat (List.take (iMin (((rd z_api_Segment a0.vSegs y1_0).vBytes).length:Int) (w64 ((w64 ((w64 ((w64 (a1+((y1_1.length:Nat):Int)))-((rd z_api_Segment a0.vSegs y1_0).vAt)))+a2))-((y1_1.length:Nat):Int)))).toNat ((rd z_api_Segment a0.vSegs y1_0).vBytes))).length (cad2_1-(w64 ((w64 (a1+((y1_1.length:Nat):Int)))-((rd z_api_Segment a0.vSegs y1_0).vAt))).toNat)) (r_part2 rfl hcad2_1 Tryz.runUnderlying42 Tryz.sizeOf5 rfl rfl hk1) ?_
     obtain ⟨nw1,sr1,hn1⟩:=src_rd (c:=(cad2_1-(w64 ((w64 (a1+((y1_1.length:Nat):Int)))-((rd z_api_Segment a0.vSegs y1_0).vAt))).toNat)) one_int Tryz.runUnderlying42 HS6.sees hp1_r
     obtain ⟨hl1,H⟩:=of_ite H
     refine run_app (Kd.int .u8) (q:=1) (cs:=csy1_1) rfl rfl Tryz.runUnderlying42 Tryz.typeInfo5 Tryz.zeroValue5 rfl (by decide) rfl sr1 rfl hn1 hl1 HS6 rfl hoy1_1 ?_
     intro w6 ob1 c3 cs1 HS7 ho1
     refine run_frame (by simp only [sc0,sc1];rfl) ?_
     refine rs (vL (rowA ob1) (y1_1.length+(List.drop (w64 ((w64 (a1+((y1_1.length:Nat):Int)))-((rd z_api_Segment a0.vSegs y1_0).vAt))).toNat (List.take (iMin (((rd z_api_Segment a0.vSegs y1_0).vBytes).length:Int) (w64 ((w64 ((w64 ((w64 (a1+((y1_1.length:Nat):Int)))-((rd z_api_Segment a0.vSegs y1_0).vAt)))+a2))-((y1_1.length:Nat):Int)))).toNat ((rd z_api_Segment a0.vSegs y1_0).vBytes))).length) c3) (r_assign rfl) ?_
     try simp only [sc0,sc1]
     refine run_nil<|norm_block<|norm_then<|region<|rs (vI y1_0) (r_move rfl)<|rs (vI (w64 (y1_0+1))) (r_bin rfl rfl rfl)<|rs (vI (w64 (y1_0+1))) (r_assign rfl) ?_
     try simp only [sc0,sc1]
     refine run_nil<|again_j m (Nat.lt_succ_self m) rfl ⟨(w64 (y1_0+1)),(y1_1++(List.drop (w64 ((w64 (a1+((y1_1.length:Nat):Int)))-((rd z_api_Segment a0.vSegs y1_0).vAt))).toNat (List.take (iMin (((rd z_api_Segment a0.vSegs y1_0).vBytes).length:Int) (w64 ((w64 ((w64 ((w64 (a1+((y1_1.length:Nat):Int)))-((rd z_api_Segment a0.vSegs y1_0).vAt)))+a2))-((y1_1.length:Nat):Int)))).toNat ((rd z_api_Segment a0.vSegs y1_0).vBytes)))),ob1,c3,cs1,(fit (by first|rfl|(rw [ho1.len];done)|(rw [ho1.len];rfl))),H,ho1.norm,HS7.tail⟩
   ·replace H:=of_neg H (nt c1)
    refine wp_exit<|exit_then ?_
    obtain rfl:=Option.some.inj H
    refine leave_j rfl ⟨_,rfl,oby1_1,cy1_1,csy1_1,(fit rfl),hoy1_1.norm,HS4⟩
 ·rintro us w7 ⟨s1,rfl,obo1_0,co1_0,cso1_0,huo1,hoo1_0,HS8⟩
  obtain ⟨uo1,rfl⟩:=unj huo1
  replace H:=G1
  clear G1
  try simp only [patch,sc0,sc1]
  refine norm_then<|wp_seq<|region<|rs (vL (rowA obo1_0) s1.length co1_0) (r_move rfl)<|rs (vL (rowA obo1_0) s1.length co1_0) (r_assign rfl)<|rs (vB true) (r_assign rfl) ?_
  try simp only [sc0,sc1]
  refine run_nil<|norm_then<|wp_ret ?_
  obtain rfl:=Option.some.inj H
  refine bodyPost_ret (results_2 rfl (one_tmp rfl) (one_tmp rfl)) rfl ?_
  obtain ⟨h1,HS9,hs1,rdp1⟩:=row_pub HS8 (i:=0) rfl hoo1_0
  exact ⟨h1,(rowA obo1_0),co1_0,rfl,hoo1_0.cap,rdp1,HS9.gr,HS9.sees,HS9.toE⟩
end Go.Proofs.YtecpbadkdpbkpaaGreatDoor
