/- Parts of a proof, merged by program: F65 F67 F66 F33 F7 N4 N5. The walks (each function once) and the plain laws; no condition of their own. -/
import Derived.Test.YtfjppgobidjndaaDoorCmp5
set_option linter.unusedVariables false
set_option linter.unusedSimpArgs false
set_option maxRecDepth 20000
set_option maxHeartbeats 4000000
namespace Go.Proofs.YtfjppgobidjndaaDoor
open Go.RowKit Go.M
def slices_EqualFunc_api_Def_api_Def_api_Def_api_Def.l0 (a0:List api_Def) (a1:List api_Def) (a2:(api_Def→api_Def→Option Bool)):Nat→Int→Option ((Bool)⊕(Unit))
 |0,_=>none
 |m+1,y1_0=>if (decide (y1_0<(a0.length:Int)))=true then (if 0≤y1_0∧y1_0<a0.length then (if 0≤y1_0∧y1_0<a1.length then ((a2 (rd z_api_Def a0 y1_0) (rd z_api_Def a1 y1_0)).bind fun v1=>(if (!v1)=true then (some (.inl false)) else (slices_EqualFunc_api_Def_api_Def_api_Def_api_Def.l0 a0 a1 a2 m (IntKind.wrap .i64 (y1_0+1))))) else none) else none) else (some (.inr ()))
def slices_EqualFunc_api_Def_api_Def_api_Def_api_Def.f (k:Nat) (a0:List api_Def) (a1:List api_Def) (a2:api_Def→api_Def→Option Bool):Option (Bool):=if ((a0.length:Int) !=(a1.length:Int))=true then (some false) else ((slices_EqualFunc_api_Def_api_Def_api_Def_api_Def.l0 a0 a1 a2 k 0).bind fun xx1=>(match xx1 with| .inl r=>some r| .inr s1=>some true))
theorem slices_EqualFunc_api_Def_api_Def_api_Def_api_Def.calls (k:Nat) (a0:List api_Def) (a1:List api_Def) (a2:api_Def→api_Def→Option Bool) (A0_0:Option Addr) (c0_0:Nat) (A1_0:Option Addr) (c1_0:Nat) (fid2:Nat) (cap2:List Value) {h0:View} {w0:World} (hv:Sees h0 w0) (hr0_0:Rd k_api_Def h0 A0_0 a0) (hc0_0:a0.length≤c0_0) (hr1_0:Rd k_api_Def h0 A1_0 a1) (hc1_0:a1.length≤c1_0) (hent2:∀args w,(callFunc fid2 args).run Tryd.prog w= .ok (.enter fid2 args) w) (hfp2:∀(z0:api_Def) (Az0_6:Option Addr) (cz0_6:Nat) (z1:api_Def) (Az1_6:Option Addr) (cz1_6:Nat) (h:View) (w:World),Ext w0 w→Sub h0 h→Sees h w→Rd k_api_Field h Az0_6 z0.vFields→z0.vFields.length≤cz0_6→Rd k_api_Field h Az1_6 z1.vFields→z1.vFields.length≤cz1_6→∀(r:Bool),a2 z0 z1=some r→Calls Tryd.prog fid2 ([Value.agg #[vI z0.vKind,vS z0.vName,vI z0.vInt.vSize,vB z0.vInt.vSigned,vI z0.vRef,vI z0.vN,vL Az0_6 z0.vFields.length cz0_6],Value.agg #[vI z1.vKind,vS z1.vName,vI z1.vInt.vSize,vB z1.vInt.vSigned,vI z1.vRef,vI z1.vN,vL Az1_6 z1.vFields.length cz1_6]]++cap2).toArray w (fun e w1=>e= .returned (vB r)∧Ext w w1)) {r:Bool} (H:slices_EqualFunc_api_Def_api_Def_api_Def_api_Def.f k a0 a1 a2=some r):Calls Tryd.prog 65 #[vL A0_0 a0.length c0_0,vL A1_0 a1.length c1_0,Value.func (.func fid2) #[] cap2.toArray] w0 (fun e w1=>e= .returned (vB r)∧Ext w0 w1):=by
 unfold slices_EqualFunc_api_Def_api_Def_api_Def_api_Def.f at H
 have HS:St [] h0 w0 h0 [] w0:=St.init hv
 go_enter Tryd.func65,Tryd.ntmps65
 refine wp_seq<|region<|rs (vB false) (r_assign rfl) ?_
 try simp only [sc0,sc1]
 refine run_nil<|norm_then<|wp_seq<|wp_seq<|region<|rs (vL A0_0 a0.length c0_0) (r_move rfl)<|rs (vI (a0.length:Int)) (r_len rfl Tryd.runUnderlying22)<|rs (vL A1_0 a1.length c1_0) (r_move rfl)<|rs (vI (a1.length:Int)) (r_len rfl Tryd.runUnderlying22)<|run_frame (by simp only [sc0,sc1];rfl) ?_
 refine rs (vB ((a0.length:Int) !=(a1.length:Int))) (r_bin rfl rfl rfl) ?_
 try simp only [sc0,sc1]
 refine run_nil<|norm_then<|wp_cond_split (t:=((a0.length:Int) !=(a1.length:Int))) rfl (fun c1=>?_) (fun c1=>?_)
 ·replace H:=of_pos H c1
  refine wp_seq<|region<|rs (vB false) (r_assign rfl) ?_
  try simp only [sc0,sc1]
  refine run_nil<|norm_then<|wp_ret<|ret_then ?_
  obtain rfl:=Option.some.inj H
  exact bodyPost_ret (results_1 rfl (one_tmp rfl)) rfl<|⟨rfl,HS.toE⟩
 ·replace H:=of_neg H (nt c1)
  refine wp_skip<|norm_then<|wp_seq<|wp_seq<|region<|rs (vL A0_0 a0.length c0_0) (r_move rfl)<|rs (vI (a0.length:Int)) (r_len rfl Tryd.runUnderlying22)<|rs (vI 0) (r_move rfl) ?_
  try simp only [sc0,sc1]
  refine run_nil<|norm_then ?_
  obtain ⟨xx1,H,G1⟩:=of_bind H
  refine loop_j [6,7,8,9,17,18,19,20,21,22,23,24,25,26,27,28,29,30,31] (fun m us w'=>∃(y1_0:Int),Fit us (fun uy1=>[(uy1 0),(uy1 1),(uy1 2),(uy1 3),vI y1_0,(uy1 5),(uy1 6),(uy1 7),(uy1 8),(uy1 9),(uy1 10),(uy1 11),(uy1 12),(uy1 13),(uy1 14),(uy1 15),(uy1 16),(uy1 17),(uy1 18)])∧slices_EqualFunc_api_Def_api_Def_api_Def_api_Def.l0 a0 a1 a2 m y1_0=some xx1∧St [] h0 w0 h0 [] w') (fun us w'=>∃(s1:Unit),xx1= .inr s1∧Fit us (fun uo1=>[(uo1 0),(uo1 1),(uo1 2),(uo1 3),(uo1 4),(uo1 5),(uo1 6),(uo1 7),(uo1 8),(uo1 9),(uo1 10),(uo1 11),(uo1 12),(uo1 13),(uo1 14),(uo1 15),(uo1 16),(uo1 17),(uo1 18)])∧St [] h0 w0 h0 [] w') k ⟨0,(fit rfl),H,HS⟩ ?_ ?_
  ·rintro m us w1 ⟨y1_0,huy1,H,HS1⟩
   obtain ⟨uy1,rfl⟩:=unj huy1
   cases m with
   |zero=>exact absurd H (by simp [slices_EqualFunc_api_Def_api_Def_api_Def_api_Def.l0])
   |succ m=>
    rw [slices_EqualFunc_api_Def_api_Def_api_Def_api_Def.l0] at H
    try simp only [patch,sc0,sc1]
    refine wp_seq<|region<|rs (vB (decide (y1_0<(a0.length:Int)))) (r_bin rfl rfl rfl) ?_
    try simp only [sc0,sc1]
    refine run_nil<|norm_then<|wp_seq<|wp_cond_split (t:=(decide (y1_0<(a0.length:Int)))) rfl (fun c2=>?_) (fun c2=>?_)
    ·replace H:=of_pos H c2
     refine wp_skip<|norm_then<|wp_seq<|wp_block<|wp_seq<|region<|rs (vI y1_0) (r_move rfl) ?_
     obtain ⟨hi1,H⟩:=of_ite H
     obtain ⟨ad1,Aad1_6,cad1_6,e1,hel1,hcad1_6,hrad1_6⟩:=ld_api_Def hr0_0 hi1.1 hi1.2
     refine rs (Value.pointer (some (Addr.add ad1 (y1_0.toNat*7)))) (r_indexA (sz:=7) rfl e1 rfl hi1.1 hi1.2 Tryd.runUnderlying22 Tryd.sizeOf34)<|rs (Value.agg #[vI ((rd z_api_Def a0 y1_0).vKind),vS ((rd z_api_Def a0 y1_0).vName),vI ((rd z_api_Def a0 y1_0).vInt.vSize),vB ((rd z_api_Def a0 y1_0).vInt.vSigned),vI ((rd z_api_Def a0 y1_0).vRef),vI ((rd z_api_Def a0 y1_0).vN),vL Aad1_6 ((rd z_api_Def a0 y1_0).vFields).length cad1_6]) (r_loadAgg rfl Tryd.isAgg34 (hel1.sees HS1.sees) Tryd.sizeOf34)<|run_ex rfl rfl (does_alloc (cs:=#[vI 0,vS ByteArray.empty,vI 0,vB false,vI 0,vI 0,vL none 0 0]) Tryd.zeroValue34 rfl) ?_
     rintro w2 _ hE1 ⟨b1,rfl,ge1,hb1⟩
     have HS2:=HS1.new hE1 ge1 hb1
     refine run_frame (by simp only [sc0,sc1];rfl) ?_
     refine rs (vI y1_0) (r_assign rfl)<|run_st (i:=0) (cs:=[vI 0,vS ByteArray.empty,vI 0,vB false,vI 0,vI 0,vL none 0 0]) (cs':=[vI ((rd z_api_Def a0 y1_0).vKind),vS ((rd z_api_Def a0 y1_0).vName),vI ((rd z_api_Def a0 y1_0).vInt.vSize),vB ((rd z_api_Def a0 y1_0).vInt.vSigned),vI ((rd z_api_Def a0 y1_0).vRef),vI ((rd z_api_Def a0 y1_0).vN),vL Aad1_6 ((rd z_api_Def a0 y1_0).vFields).length cad1_6]) (vs:=[vI ((rd z_api_Def a0 y1_0).vKind),vS ((rd z_api_Def a0 y1_0).vName),vI ((rd z_api_Def a0 y1_0).vInt.vSize),vB ((rd z_api_Def a0 y1_0).vInt.vSigned),vI ((rd z_api_Def a0 y1_0).vRef),vI ((rd z_api_Def a0 y1_0).vN),vL Aad1_6 ((rd z_api_Def a0 y1_0).vFields).length cad1_6]) (bs':=[(some b1, .cells #[vI ((rd z_api_Def a0 y1_0).vKind),vS ((rd z_api_Def a0 y1_0).vName),vI ((rd z_api_Def a0 y1_0).vInt.vSize),vB ((rd z_api_Def a0 y1_0).vInt.vSigned),vI ((rd z_api_Def a0 y1_0).vRef),vI ((rd z_api_Def a0 y1_0).vN),vL Aad1_6 ((rd z_api_Def a0 y1_0).vFields).length cad1_6] 34 (0,0))]) rfl rfl Tryd.sizeOf34 rfl rfl (by decide) rfl HS2 rfl (Nat.le_of_ble_eq_true rfl) rfl rfl ?_
     intro w3 HS3
     try simp only [sc0,sc1]
     refine run_nil<|norm_then<|wp_seq<|region<|rs (vL A1_0 a1.length c1_0) (r_move rfl)<|rs (vI y1_0) (r_move rfl) ?_
     obtain ⟨hi2,H⟩:=of_ite H
     obtain ⟨ad2,Aad2_6,cad2_6,e2,hel2,hcad2_6,hrad2_6⟩:=ld_api_Def hr1_0 hi2.1 hi2.2
     refine rs (Value.pointer (some (Addr.add ad2 (y1_0.toNat*7)))) (r_indexA (sz:=7) rfl e2 rfl hi2.1 hi2.2 Tryd.runUnderlying22 Tryd.sizeOf34)<|rs (Value.agg #[vI ((rd z_api_Def a1 y1_0).vKind),vS ((rd z_api_Def a1 y1_0).vName),vI ((rd z_api_Def a1 y1_0).vInt.vSize),vB ((rd z_api_Def a1 y1_0).vInt.vSigned),vI ((rd z_api_Def a1 y1_0).vRef),vI ((rd z_api_Def a1 y1_0).vN),vL Aad2_6 ((rd z_api_Def a1 y1_0).vFields).length cad2_6]) (r_loadAgg rfl Tryd.isAgg34 (hel2.sees HS3.sees) Tryd.sizeOf34)<|run_frame (by simp only [sc0,sc1];rfl) ?_
     refine run_ex rfl rfl (does_alloc (cs:=#[vI 0,vS ByteArray.empty,vI 0,vB false,vI 0,vI 0,vL none 0 0]) Tryd.zeroValue34 rfl) ?_
     rintro w4 _ hE2 ⟨b2,rfl,ge2,hb2⟩
     have HS4:=HS3.new hE2 ge2 hb2
     refine run_st (i:=0) (cs:=[vI 0,vS ByteArray.empty,vI 0,vB false,vI 0,vI 0,vL none 0 0]) (cs':=[vI ((rd z_api_Def a1 y1_0).vKind),vS ((rd z_api_Def a1 y1_0).vName),vI ((rd z_api_Def a1 y1_0).vInt.vSize),vB ((rd z_api_Def a1 y1_0).vInt.vSigned),vI ((rd z_api_Def a1 y1_0).vRef),vI ((rd z_api_Def a1 y1_0).vN),vL Aad2_6 ((rd z_api_Def a1 y1_0).vFields).length cad2_6]) (vs:=[vI ((rd z_api_Def a1 y1_0).vKind),vS ((rd z_api_Def a1 y1_0).vName),vI ((rd z_api_Def a1 y1_0).vInt.vSize),vB ((rd z_api_Def a1 y1_0).vInt.vSigned),vI ((rd z_api_Def a1 y1_0).vRef),vI ((rd z_api_Def a1 y1_0).vN),vL Aad2_6 ((rd z_api_Def a1 y1_0).vFields).length cad2_6]) (bs':=[(some b2, .cells #[vI ((rd z_api_Def a1 y1_0).vKind),vS ((rd z_api_Def a1 y1_0).vName),vI ((rd z_api_Def a1 y1_0).vInt.vSize),vB ((rd z_api_Def a1 y1_0).vInt.vSigned),vI ((rd z_api_Def a1 y1_0).vRef),vI ((rd z_api_Def a1 y1_0).vN),vL Aad2_6 ((rd z_api_Def a1 y1_0).vFields).length cad2_6] 34 (0,0)),(some b1, .cells #[vI ((rd z_api_Def a0 y1_0).vKind),vS ((rd z_api_Def a0 y1_0).vName),vI ((rd z_api_Def a0 y1_0).vInt.vSize),vB ((rd z_api_Def a0 y1_0).vInt.vSigned),vI ((rd z_api_Def a0 y1_0).vRef),vI ((rd z_api_Def a0 y1_0).vN),vL Aad1_6 ((rd z_api_Def a0 y1_0).vFields).length cad1_6] 34 (0,0))]) rfl rfl Tryd.sizeOf34 rfl rfl (by decide) rfl HS4 rfl (Nat.le_of_ble_eq_true rfl) rfl rfl ?_
     intro w5 HS5
     try simp only [sc0,sc1]
     refine run_nil<|norm_then<|wp_seq<|region<|rs (Value.func (.func fid2) #[] cap2.toArray) (r_move rfl)<|rs (Value.agg #[vI ((rd z_api_Def a0 y1_0).vKind),vS ((rd z_api_Def a0 y1_0).vName),vI ((rd z_api_Def a0 y1_0).vInt.vSize),vB ((rd z_api_Def a0 y1_0).vInt.vSigned),vI ((rd z_api_Def a0 y1_0).vRef),vI ((rd z_api_Def a0 y1_0).vN),vL Aad1_6 ((rd z_api_Def a0 y1_0).vFields).length cad1_6]) (r_loadBoxAgg (n:=7) (vs:=[vI ((rd z_api_Def a0 y1_0).vKind),vS ((rd z_api_Def a0 y1_0).vName),vI ((rd z_api_Def a0 y1_0).vInt.vSize),vB ((rd z_api_Def a0 y1_0).vInt.vSigned),vI ((rd z_api_Def a0 y1_0).vRef),vI ((rd z_api_Def a0 y1_0).vN),vL Aad1_6 ((rd z_api_Def a0 y1_0).vFields).length cad1_6]) rfl Tryd.isAgg34 (HS5.look 1 rfl) Tryd.sizeOf34 rfl rfl)<|rs (Value.agg #[vI ((rd z_api_Def a1 y1_0).vKind),vS ((rd z_api_Def a1 y1_0).vName),vI ((rd z_api_Def a1 y1_0).vInt.vSize),vB ((rd z_api_Def a1 y1_0).vInt.vSigned),vI ((rd z_api_Def a1 y1_0).vRef),vI ((rd z_api_Def a1 y1_0).vN),vL Aad2_6 ((rd z_api_Def a1 y1_0).vFields).length cad2_6]) (r_loadBoxAgg (n:=7) (vs:=[vI ((rd z_api_Def a1 y1_0).vKind),vS ((rd z_api_Def a1 y1_0).vName),vI ((rd z_api_Def a1 y1_0).vInt.vSize),vB ((rd z_api_Def a1 y1_0).vInt.vSigned),vI ((rd z_api_Def a1 y1_0).vRef),vI ((rd z_api_Def a1 y1_0).vN),vL Aad2_6 ((rd z_api_Def a1 y1_0).vFields).length cad2_6]) rfl Tryd.isAgg34 (HS5.look 0 rfl) Tryd.sizeOf34 rfl rfl) ?_
     obtain ⟨v1,H1,H⟩:=of_bind H
     refine run_eq (v:=vB v1) rfl rfl (does_callv (vs:=[Value.agg #[vI ((rd z_api_Def a0 y1_0).vKind),vS ((rd z_api_Def a0 y1_0).vName),vI ((rd z_api_Def a0 y1_0).vInt.vSize),vB ((rd z_api_Def a0 y1_0).vInt.vSigned),vI ((rd z_api_Def a0 y1_0).vRef),vI ((rd z_api_Def a0 y1_0).vN),vL Aad1_6 ((rd z_api_Def a0 y1_0).vFields).length cad1_6],Value.agg #[vI ((rd z_api_Def a1 y1_0).vKind),vS ((rd z_api_Def a1 y1_0).vName),vI ((rd z_api_Def a1 y1_0).vInt.vSize),vB ((rd z_api_Def a1 y1_0).vInt.vSigned),vI ((rd z_api_Def a1 y1_0).vRef),vI ((rd z_api_Def a1 y1_0).vN),vL Aad2_6 ((rd z_api_Def a1 y1_0).vFields).length cad2_6]]) (caps:=cap2) hent2 rfl rfl (hfp2 (rd z_api_Def a0 y1_0) Aad1_6 cad1_6 (rd z_api_Def a1 y1_0) Aad2_6 cad2_6 _ _ HS5.toE HS5.sub HS5.sees hrad1_6 hcad1_6 hrad2_6 hcad2_6 _ H1)) ?_
     intro w6 hE3
     have HS6:=HS5.step hE3
     refine run_frame (by simp only [sc0,sc1];rfl) ?_
     refine rs (vB (!v1)) (r_not rfl) ?_
     try simp only [sc0,sc1]
     refine run_nil<|norm_then<|wp_cond_split (t:=(!v1)) rfl (fun c3=>?_) (fun c3=>?_)
     ·replace H:=of_pos H c3
      refine wp_seq<|region<|rs (vB false) (r_assign rfl) ?_
      try simp only [sc0,sc1]
      refine run_nil<|norm_then<|wp_ret<|ret_block<|ret_then<|ret_loop<|ret_then ?_
      obtain rfl:=Option.some.inj H
      obtain rfl:=Option.some.inj G1
      exact bodyPost_ret (results_1 rfl (one_tmp rfl)) rfl<|⟨rfl,HS6.toE⟩
     ·replace H:=of_neg H (nt c3)
      refine wp_skip<|norm_block<|norm_then<|region<|rs (vI (w64 (y1_0+1))) (r_bin rfl rfl rfl)<|rs (vI (w64 (y1_0+1))) (r_move rfl) ?_
      try simp only [sc0,sc1]
      refine run_nil<|again_j m (Nat.lt_succ_self m) rfl ⟨(w64 (y1_0+1)),(fit rfl),H,HS6.tail.tail⟩
    ·replace H:=of_neg H (nt c2)
     refine wp_exit<|exit_then ?_
     obtain rfl:=Option.some.inj H
     refine leave_j rfl ⟨_,rfl,(fit rfl),HS1⟩
  ·rintro us w7 ⟨s1,rfl,huo1,HS7⟩
   obtain ⟨uo1,rfl⟩:=unj huo1
   replace H:=G1
   clear G1
   try simp only [patch,sc0,sc1]
   refine norm_then<|wp_seq<|region<|rs (vB true) (r_assign rfl) ?_
   try simp only [sc0,sc1]
   refine run_nil<|norm_then<|wp_ret ?_
   obtain rfl:=Option.some.inj H
   exact bodyPost_ret (results_1 rfl (one_tmp rfl)) rfl<|⟨rfl,HS7.toE⟩
def slices_Equal_api_Field_api_Field.l0 (a0:List api_Field) (a1:List api_Field):Nat→Int→Option ((Bool)⊕(Unit))
 |0,_=>none
 |m+1,y1_0=>if (decide (y1_0<(a0.length:Int)))=true then (if 0≤y1_0∧y1_0<a0.length then (if 0≤y1_0∧y1_0<a1.length then (if (!((strEq ((rd z_api_Field a0 y1_0).vName) ((rd z_api_Field a1 y1_0).vName))&&(((rd z_api_Field a0 y1_0).vType==(rd z_api_Field a1 y1_0).vType)&&(((rd z_api_Field a0 y1_0).vAt==(rd z_api_Field a1 y1_0).vAt)&&true))))=true then (some (.inl false)) else (slices_Equal_api_Field_api_Field.l0 a0 a1 m (IntKind.wrap .i64 (y1_0+1)))) else none) else none) else (some (.inr ()))
def slices_Equal_api_Field_api_Field.f (k:Nat) (a0:List api_Field) (a1:List api_Field):Option (Bool):=if ((a0.length:Int) !=(a1.length:Int))=true then (some false) else ((slices_Equal_api_Field_api_Field.l0 a0 a1 k 0).bind fun xx1=>(match xx1 with| .inl r=>some r| .inr s1=>some true))
theorem slices_Equal_api_Field_api_Field.calls (k:Nat) (a0:List api_Field) (a1:List api_Field) (A0_0:Option Addr) (c0_0:Nat) (A1_0:Option Addr) (c1_0:Nat) {h0:View} {w0:World} (hv:Sees h0 w0) (hr0_0:Rd k_api_Field h0 A0_0 a0) (hc0_0:a0.length≤c0_0) (hr1_0:Rd k_api_Field h0 A1_0 a1) (hc1_0:a1.length≤c1_0) {r:Bool} (H:slices_Equal_api_Field_api_Field.f k a0 a1=some r):Calls Tryd.prog 67 #[vL A0_0 a0.length c0_0,vL A1_0 a1.length c1_0] w0 (fun e w1=>e= .returned (vB r)∧Ext w0 w1):=by
 unfold slices_Equal_api_Field_api_Field.f at H
 have HS:St [] h0 w0 h0 [] w0:=St.init hv
 go_enter Tryd.func67,Tryd.ntmps67
 refine wp_seq<|region<|rs (vB false) (r_assign rfl) ?_
 try simp only [sc0,sc1]
 refine run_nil<|norm_then<|wp_seq<|wp_seq<|region<|rs (vL A0_0 a0.length c0_0) (r_move rfl)<|rs (vI (a0.length:Int)) (r_len rfl Tryd.runUnderlying32)<|rs (vL A1_0 a1.length c1_0) (r_move rfl)<|rs (vI (a1.length:Int)) (r_len rfl Tryd.runUnderlying32)<|run_frame (by simp only [sc0,sc1];rfl) ?_
 refine rs (vB ((a0.length:Int) !=(a1.length:Int))) (r_bin rfl rfl rfl) ?_
 try simp only [sc0,sc1]
 refine run_nil<|norm_then<|wp_cond_split (t:=((a0.length:Int) !=(a1.length:Int))) rfl (fun c1=>?_) (fun c1=>?_)
 ·replace H:=of_pos H c1
  refine wp_seq<|region<|rs (vB false) (r_assign rfl) ?_
  try simp only [sc0,sc1]
  refine run_nil<|norm_then<|wp_ret<|ret_then ?_
  obtain rfl:=Option.some.inj H
  exact bodyPost_ret (results_1 rfl (one_tmp rfl)) rfl<|⟨rfl,HS.toE⟩
 ·replace H:=of_neg H (nt c1)
  refine wp_skip<|norm_then<|wp_seq<|wp_seq<|region<|rs (vL A0_0 a0.length c0_0) (r_move rfl)<|rs (vI (a0.length:Int)) (r_len rfl Tryd.runUnderlying32)<|rs (vI 0) (r_move rfl) ?_
  try simp only [sc0,sc1]
  refine run_nil<|norm_then ?_
  obtain ⟨xx1,H,G1⟩:=of_bind H
  refine loop_j [4,5,13,14,15,16,17,18,19,20,21,22,23,24,25] (fun m us w'=>∃(y1_0:Int),Fit us (fun uy1=>[(uy1 0),(uy1 1),vI y1_0,(uy1 3),(uy1 4),(uy1 5),(uy1 6),(uy1 7),(uy1 8),(uy1 9),(uy1 10),(uy1 11),(uy1 12),(uy1 13),(uy1 14)])∧slices_Equal_api_Field_api_Field.l0 a0 a1 m y1_0=some xx1∧St [] h0 w0 h0 [] w') (fun us w'=>∃(s1:Unit),xx1= .inr s1∧Fit us (fun uo1=>[(uo1 0),(uo1 1),(uo1 2),(uo1 3),(uo1 4),(uo1 5),(uo1 6),(uo1 7),(uo1 8),(uo1 9),(uo1 10),(uo1 11),(uo1 12),(uo1 13),(uo1 14)])∧St [] h0 w0 h0 [] w') k ⟨0,(fit rfl),H,HS⟩ ?_ ?_
  ·rintro m us w1 ⟨y1_0,huy1,H,HS1⟩
   obtain ⟨uy1,rfl⟩:=unj huy1
   cases m with
   |zero=>exact absurd H (by simp [slices_Equal_api_Field_api_Field.l0])
   |succ m=>
    rw [slices_Equal_api_Field_api_Field.l0] at H
    try simp only [patch,sc0,sc1]
    refine wp_seq<|region<|rs (vB (decide (y1_0<(a0.length:Int)))) (r_bin rfl rfl rfl) ?_
    try simp only [sc0,sc1]
    refine run_nil<|norm_then<|wp_seq<|wp_cond_split (t:=(decide (y1_0<(a0.length:Int)))) rfl (fun c2=>?_) (fun c2=>?_)
    ·replace H:=of_pos H c2
     refine wp_skip<|norm_then<|wp_seq<|wp_block<|wp_seq<|region<|rs (vI y1_0) (r_move rfl)<|rs (vI y1_0) (r_assign rfl) ?_
     try simp only [sc0,sc1]
     refine run_nil<|norm_then<|wp_seq ?_
     obtain ⟨hi1,H⟩:=of_ite H
     obtain ⟨ad1,e1,hel1⟩:=ld_api_Field hr0_0 hi1.1 hi1.2
     obtain ⟨hi2,H⟩:=of_ite H
     obtain ⟨ad2,e2,hel2⟩:=ld_api_Field hr1_0 hi2.1 hi2.2
     refine drawn [.eq (vL A0_0 a0.length c0_0), .eq (vI y1_0), .eq (Value.pointer (some (Addr.add ad1 (y1_0.toNat*3)))), .eq (Value.agg #[vS ((rd z_api_Field a0 y1_0).vName),vI ((rd z_api_Field a0 y1_0).vType),vI ((rd z_api_Field a0 y1_0).vAt)]), .eq (vL A1_0 a1.length c1_0), .eq (vI y1_0), .eq (Value.pointer (some (Addr.add ad2 (y1_0.toNat*3)))), .eq (Value.agg #[vS ((rd z_api_Field a1 y1_0).vName),vI ((rd z_api_Field a1 y1_0).vType),vI ((rd z_api_Field a1 y1_0).vAt)]), .eq (vB (!((strEq ((rd z_api_Field a0 y1_0).vName) ((rd z_api_Field a1 y1_0).vName))&&(((rd z_api_Field a0 y1_0).vType==(rd z_api_Field a1 y1_0).vType)&&(((rd z_api_Field a0 y1_0).vAt==(rd z_api_Field a1 y1_0).vAt)&&true)))))] [16,17,18,19,20,21,22,23,24] hmix (by kernel_rfl) rfl (stable_eq (stable_eq (stable_eq (stable_eq (stable_eq (stable_eq (stable_eq (stable_eq (stable_eq stable_nil))))))))) ⟨ob_plain rfl (fun a' w' hE hk=>by have HSd:=HS1.step hE;exact does_eq (r_move (show _=vL A0_0 a0.length c0_0 from hk 0 rfl))),ob_plain rfl (fun a' w' hE hk=>by have HSd:=HS1.step hE;exact does_eq (r_move (show _=vI y1_0 from hk 5 rfl))),ob_plain rfl (fun a' w' hE hk=>by have HSd:=HS1.step hE;exact does_eq (r_indexA (sz:=3) (show _=vL A0_0 a0.length c0_0 from hk 16 rfl) e1 (show _=vI y1_0 from hk 17 rfl) hi1.1 hi1.2 Tryd.runUnderlying32 Tryd.sizeOf36)),ob_plain rfl (fun a' w' hE hk=>by have HSd:=HS1.step hE;exact does_eq (r_loadAgg (show _=Value.pointer (some (Addr.add ad1 (y1_0.toNat*3))) from hk 18 rfl) Tryd.isAgg36 (hel1.sees HSd.sees) Tryd.sizeOf36)),ob_plain rfl (fun a' w' hE hk=>by have HSd:=HS1.step hE;exact does_eq (r_move (show _=vL A1_0 a1.length c1_0 from hk 1 rfl))),ob_plain rfl (fun a' w' hE hk=>by have HSd:=HS1.step hE;exact does_eq (r_move (show _=vI y1_0 from hk 5 rfl))),ob_plain rfl (fun a' w' hE hk=>by have HSd:=HS1.step hE;exact does_eq (r_indexA (sz:=3) (show _=vL A1_0 a1.length c1_0 from hk 20 rfl) e2 (show _=vI y1_0 from hk 21 rfl) hi2.1 hi2.2 Tryd.runUnderlying32 Tryd.sizeOf36)),ob_plain rfl (fun a' w' hE hk=>by have HSd:=HS1.step hE;exact does_eq (r_loadAgg (show _=Value.pointer (some (Addr.add ad2 (y1_0.toNat*3))) from hk 22 rfl) Tryd.isAgg36 (hel2.sees HSd.sees) Tryd.sizeOf36)),ob_plain rfl (fun a' w' hE hk=>by have HSd:=HS1.step hE;exact does_eq (r_aggneq (show _=Value.agg #[vS ((rd z_api_Field a0 y1_0).vName),vI ((rd z_api_Field a0 y1_0).vType),vI ((rd z_api_Field a0 y1_0).vAt)] from hk 19 rfl) (show _=Value.agg #[vS ((rd z_api_Field a1 y1_0).vName),vI ((rd z_api_Field a1 y1_0).vType),vI ((rd z_api_Field a1 y1_0).vAt)] from hk 23 rfl) Tryd.eqGuardType36 (eqr_agg Tryd.stoodInHeld36 Tryd.underlying36 (eqf_cons (by decide) (part_one Tryd.isAgg9 rfl) (part_one Tryd.isAgg9 rfl) (eqr_str Tryd.underlying9) (eqf_cons (by decide) (part_one Tryd.isAgg3 rfl) (part_one Tryd.isAgg3 rfl) (eqr_int Tryd.underlying3) (eqf_cons (by decide) (part_one Tryd.isAgg3 rfl) (part_one Tryd.isAgg3 rfl) (eqr_int Tryd.underlying3) eqf_nil)))))),trivial⟩ ?_
     intro w2 hE1
     simp only [List.zip_cons_cons,List.zip_nil_left,List.zip_nil_right,finL,sc0,sc1,List.length_cons,List.length_nil,List.drop_succ_cons,List.drop_zero,Nat.zero_add,Nat.reduceAdd]
     have HS2:=HS1.step hE1
     refine run_nil<|norm_then<|wp_cond_split (t:=(!((strEq ((rd z_api_Field a0 y1_0).vName) ((rd z_api_Field a1 y1_0).vName))&&(((rd z_api_Field a0 y1_0).vType==(rd z_api_Field a1 y1_0).vType)&&(((rd z_api_Field a0 y1_0).vAt==(rd z_api_Field a1 y1_0).vAt)&&true))))) rfl (fun c3=>?_) (fun c3=>?_)
     ·replace H:=of_pos H c3
      refine wp_seq<|region<|rs (vB false) (r_assign rfl) ?_
      try simp only [sc0,sc1]
      refine run_nil<|norm_then<|wp_ret<|ret_block<|ret_then<|ret_loop<|ret_then ?_
      obtain rfl:=Option.some.inj H
      obtain rfl:=Option.some.inj G1
      exact bodyPost_ret (results_1 rfl (one_tmp rfl)) rfl<|⟨rfl,HS2.toE⟩
     ·replace H:=of_neg H (nt c3)
      refine wp_skip<|norm_block<|norm_then<|region<|rs (vI (w64 (y1_0+1))) (r_bin rfl rfl rfl)<|rs (vI (w64 (y1_0+1))) (r_move rfl) ?_
      try simp only [sc0,sc1]
      refine run_nil<|again_j m (Nat.lt_succ_self m) rfl ⟨(w64 (y1_0+1)),(fit rfl),H,HS2⟩
    ·replace H:=of_neg H (nt c2)
     refine wp_exit<|exit_then ?_
     obtain rfl:=Option.some.inj H
     refine leave_j rfl ⟨_,rfl,(fit rfl),HS1⟩
  ·rintro us w3 ⟨s1,rfl,huo1,HS3⟩
   obtain ⟨uo1,rfl⟩:=unj huo1
   replace H:=G1
   clear G1
   try simp only [patch,sc0,sc1]
   refine norm_then<|wp_seq<|region<|rs (vB true) (r_assign rfl) ?_
   try simp only [sc0,sc1]
   refine run_nil<|norm_then<|wp_ret ?_
   obtain rfl:=Option.some.inj H
   exact bodyPost_ret (results_1 rfl (one_tmp rfl)) rfl<|⟨rfl,HS3.toE⟩
def ctf_Same_1.f (k:Nat) (a0:api_Def) (a1:api_Def):Option (Bool):=(if (true&&((((((a0.vKind==a1.vKind)&&(strEq a0.vName a1.vName))&&((a0.vInt.vSize==a1.vInt.vSize)&&((a0.vInt.vSigned==a1.vInt.vSigned)&&true)))&&(a0.vRef==a1.vRef))&&(a0.vN==a1.vN))==true))=true then slices_Equal_api_Field_api_Field.f k a0.vFields a1.vFields else some false).bind fun v1=>(some ((((((a0.vKind==a1.vKind)&&(strEq a0.vName a1.vName))&&((a0.vInt.vSize==a1.vInt.vSize)&&((a0.vInt.vSigned==a1.vInt.vSigned)&&true)))&&(a0.vRef==a1.vRef))&&(a0.vN==a1.vN))&&v1))
theorem ctf_Same_1.calls (k:Nat) (a0:api_Def) (a1:api_Def) (A0_6:Option Addr) (c0_6:Nat) (A1_6:Option Addr) (c1_6:Nat) {h0:View} {w0:World} (hv:Sees h0 w0) (hr0_6:Rd k_api_Field h0 A0_6 a0.vFields) (hc0_6:a0.vFields.length≤c0_6) (hr1_6:Rd k_api_Field h0 A1_6 a1.vFields) (hc1_6:a1.vFields.length≤c1_6) {r:Bool} (H:ctf_Same_1.f k a0 a1=some r):Calls Tryd.prog 66 #[Value.agg #[vI a0.vKind,vS a0.vName,vI a0.vInt.vSize,vB a0.vInt.vSigned,vI a0.vRef,vI a0.vN,vL A0_6 a0.vFields.length c0_6],Value.agg #[vI a1.vKind,vS a1.vName,vI a1.vInt.vSize,vB a1.vInt.vSigned,vI a1.vRef,vI a1.vN,vL A1_6 a1.vFields.length c1_6]] w0 (fun e w1=>e= .returned (vB r)∧Ext w0 w1):=by
 unfold ctf_Same_1.f at H
 have HS:St [] h0 w0 h0 [] w0:=St.init hv
 go_enter Tryd.func66,Tryd.ntmps66
 refine wp_seq<|region<|run_ex rfl rfl (does_box (cs:=#[vI a0.vKind,vS a0.vName,vI a0.vInt.vSize,vB a0.vInt.vSigned,vI a0.vRef,vI a0.vN,vL A0_6 a0.vFields.length c0_6]) rfl rfl) ?_
 rintro w1 _ hE1 ⟨b1,rfl,ge1,hb1⟩
 have HS1:=HS.new hE1 ge1 hb1
 refine run_ex rfl rfl (does_box (cs:=#[vI a1.vKind,vS a1.vName,vI a1.vInt.vSize,vB a1.vInt.vSigned,vI a1.vRef,vI a1.vN,vL A1_6 a1.vFields.length c1_6]) rfl rfl) ?_
 rintro w2 _ hE2 ⟨b2,rfl,ge2,hb2⟩
 have HS2:=HS1.new hE2 ge2 hb2
 refine rs (vB false) (r_assign rfl) ?_
 try simp only [sc0,sc1]
 refine run_nil<|norm_then<|wp_seq<|region<|rs (vP b1 0) (r_fieldBox (n:=1) (o':=0) rfl Tryd.runUnderlying34 rfl Tryd.sizeOf3 (by decide) rfl)<|rs (vI a0.vKind) (r_loadBox rfl Tryd.isAgg3 (HS2.look 1 rfl) rfl)<|rs (vP b2 0) (r_fieldBox (n:=1) (o':=0) rfl Tryd.runUnderlying34 rfl Tryd.sizeOf3 (by decide) rfl)<|rs (vI a1.vKind) (r_loadBox rfl Tryd.isAgg3 (HS2.look 0 rfl) rfl)<|run_frame (by simp only [sc0,sc1];rfl) ?_
 refine rs (vB (a0.vKind==a1.vKind)) (r_bin rfl rfl rfl)<|rs (vB (a0.vKind==a1.vKind)) (r_move rfl)<|rgs (a0.vKind==a1.vKind) true (vP b1 1) rfl rfl rfl rfl (fun hg=>(r_fieldBox (n:=1) (o':=1) rfl Tryd.runUnderlying34 rfl Tryd.sizeOf9 (by decide) rfl))<|rgs (a0.vKind==a1.vKind) true (vS a0.vName) rfl rfl rfl rfl (fun hg=>(r_loadBox (gvt (vP b1 1) hg rfl) Tryd.isAgg9 (HS2.look 1 rfl) rfl))<|run_frame (by simp only [sc0,sc1];rfl) ?_
 refine rgs (a0.vKind==a1.vKind) true (vP b2 1) rfl rfl rfl rfl (fun hg=>(r_fieldBox (n:=1) (o':=1) rfl Tryd.runUnderlying34 rfl Tryd.sizeOf9 (by decide) rfl))<|rgs (a0.vKind==a1.vKind) true (vS a1.vName) rfl rfl rfl rfl (fun hg=>(r_loadBox (gvt (vP b2 1) hg rfl) Tryd.isAgg9 (HS2.look 0 rfl) rfl))<|rgs (a0.vKind==a1.vKind) true (vB (strEq a0.vName a1.vName)) rfl rfl rfl rfl (fun hg=>(r_streql (gvt (vS a0.vName) hg rfl) (gvt (vS a1.vName) hg rfl)))<|rs (vB ((a0.vKind==a1.vKind)&&(strEq a0.vName a1.vName))) (r_pick_and rfl (fun hp=>(gvt (vB (strEq a0.vName a1.vName)) (and_i rfl hp) rfl)) rfl)<|run_frame (by simp only [sc0,sc1];rfl) ?_
 refine rs (vB ((a0.vKind==a1.vKind)&&(strEq a0.vName a1.vName))) (r_move rfl)<|rgs ((a0.vKind==a1.vKind)&&(strEq a0.vName a1.vName)) true (vP b1 2) rfl rfl rfl rfl (fun hg=>(r_fieldBox (n:=2) (o':=2) rfl Tryd.runUnderlying34 rfl Tryd.sizeOf31 (by decide) rfl))<|rgs ((a0.vKind==a1.vKind)&&(strEq a0.vName a1.vName)) true (Value.agg #[vI a0.vInt.vSize,vB a0.vInt.vSigned]) rfl rfl rfl rfl (fun hg=>(r_loadBoxAgg (n:=2) (vs:=[vI a0.vInt.vSize,vB a0.vInt.vSigned]) (gvt (vP b1 2) hg rfl) Tryd.isAgg31 (HS2.look 1 rfl) Tryd.sizeOf31 rfl rfl))<|rgs ((a0.vKind==a1.vKind)&&(strEq a0.vName a1.vName)) true (vP b2 2) rfl rfl rfl rfl (fun hg=>(r_fieldBox (n:=2) (o':=2) rfl Tryd.runUnderlying34 rfl Tryd.sizeOf31 (by decide) rfl))<|run_frame (by simp only [sc0,sc1];rfl) ?_
 refine rgs ((a0.vKind==a1.vKind)&&(strEq a0.vName a1.vName)) true (Value.agg #[vI a1.vInt.vSize,vB a1.vInt.vSigned]) rfl rfl rfl rfl (fun hg=>(r_loadBoxAgg (n:=2) (vs:=[vI a1.vInt.vSize,vB a1.vInt.vSigned]) (gvt (vP b2 2) hg rfl) Tryd.isAgg31 (HS2.look 0 rfl) Tryd.sizeOf31 rfl rfl))<|rgs ((a0.vKind==a1.vKind)&&(strEq a0.vName a1.vName)) true (vB ((a0.vInt.vSize==a1.vInt.vSize)&&((a0.vInt.vSigned==a1.vInt.vSigned)&&true))) rfl rfl rfl rfl (fun hg=>(r_aggeql (gvt (Value.agg #[vI a0.vInt.vSize,vB a0.vInt.vSigned]) hg rfl) (gvt (Value.agg #[vI a1.vInt.vSize,vB a1.vInt.vSigned]) hg rfl) Tryd.eqGuardType31 (eqr_agg Tryd.stoodInHeld31 Tryd.underlying31 (eqf_cons (by decide) (part_one Tryd.isAgg3 rfl) (part_one Tryd.isAgg3 rfl) (eqr_int Tryd.underlying3) (eqf_cons (by decide) (part_one Tryd.isAgg4 rfl) (part_one Tryd.isAgg4 rfl) (eqr_bool Tryd.underlying4) eqf_nil)))))<|rs (vB (((a0.vKind==a1.vKind)&&(strEq a0.vName a1.vName))&&((a0.vInt.vSize==a1.vInt.vSize)&&((a0.vInt.vSigned==a1.vInt.vSigned)&&true)))) (r_pick_and rfl (fun hp=>(gvt (vB ((a0.vInt.vSize==a1.vInt.vSize)&&((a0.vInt.vSigned==a1.vInt.vSigned)&&true))) (and_i rfl hp) rfl)) rfl)<|rs (vB (((a0.vKind==a1.vKind)&&(strEq a0.vName a1.vName))&&((a0.vInt.vSize==a1.vInt.vSize)&&((a0.vInt.vSigned==a1.vInt.vSigned)&&true)))) (r_move rfl)<|run_frame (by simp only [sc0,sc1];rfl) ?_
 refine rgs (((a0.vKind==a1.vKind)&&(strEq a0.vName a1.vName))&&((a0.vInt.vSize==a1.vInt.vSize)&&((a0.vInt.vSigned==a1.vInt.vSigned)&&true))) true (vP b1 4) rfl rfl rfl rfl (fun hg=>(r_fieldBox (n:=1) (o':=4) rfl Tryd.runUnderlying34 rfl Tryd.sizeOf3 (by decide) rfl))<|rgs (((a0.vKind==a1.vKind)&&(strEq a0.vName a1.vName))&&((a0.vInt.vSize==a1.vInt.vSize)&&((a0.vInt.vSigned==a1.vInt.vSigned)&&true))) true (vI a0.vRef) rfl rfl rfl rfl (fun hg=>(r_loadBox (gvt (vP b1 4) hg rfl) Tryd.isAgg3 (HS2.look 1 rfl) rfl))<|rgs (((a0.vKind==a1.vKind)&&(strEq a0.vName a1.vName))&&((a0.vInt.vSize==a1.vInt.vSize)&&((a0.vInt.vSigned==a1.vInt.vSigned)&&true))) true (vP b2 4) rfl rfl rfl rfl (fun hg=>(r_fieldBox (n:=1) (o':=4) rfl Tryd.runUnderlying34 rfl Tryd.sizeOf3 (by decide) rfl))<|rgs (((a0.vKind==a1.vKind)&&(strEq a0.vName a1.vName))&&((a0.vInt.vSize==a1.vInt.vSize)&&((a0.vInt.vSigned==a1.vInt.vSigned)&&true))) true (vI a1.vRef) rfl rfl rfl rfl (fun hg=>(r_loadBox (gvt (vP b2 4) hg rfl) Tryd.isAgg3 (HS2.look 0 rfl) rfl))<|run_frame (by simp only [sc0,sc1];rfl) ?_
 refine rgs (((a0.vKind==a1.vKind)&&(strEq a0.vName a1.vName))&&((a0.vInt.vSize==a1.vInt.vSize)&&((a0.vInt.vSigned==a1.vInt.vSigned)&&true))) true (vB (a0.vRef==a1.vRef)) rfl rfl rfl rfl (fun hg=>(r_bin (gvt (vI a0.vRef) hg rfl) (gvt (vI a1.vRef) hg rfl) rfl))<|rs (vB ((((a0.vKind==a1.vKind)&&(strEq a0.vName a1.vName))&&((a0.vInt.vSize==a1.vInt.vSize)&&((a0.vInt.vSigned==a1.vInt.vSigned)&&true)))&&(a0.vRef==a1.vRef))) (r_pick_and rfl (fun hp=>(gvt (vB (a0.vRef==a1.vRef)) (and_i rfl hp) rfl)) rfl)<|rs (vB ((((a0.vKind==a1.vKind)&&(strEq a0.vName a1.vName))&&((a0.vInt.vSize==a1.vInt.vSize)&&((a0.vInt.vSigned==a1.vInt.vSigned)&&true)))&&(a0.vRef==a1.vRef))) (r_move rfl)<|rgs ((((a0.vKind==a1.vKind)&&(strEq a0.vName a1.vName))&&((a0.vInt.vSize==a1.vInt.vSize)&&((a0.vInt.vSigned==a1.vInt.vSigned)&&true)))&&(a0.vRef==a1.vRef)) true (vP b1 5) rfl rfl rfl rfl (fun hg=>(r_fieldBox (n:=1) (o':=5) rfl Tryd.runUnderlying34 rfl Tryd.sizeOf3 (by decide) rfl))<|run_frame (by simp only [sc0,sc1];rfl) ?_
 refine rgs ((((a0.vKind==a1.vKind)&&(strEq a0.vName a1.vName))&&((a0.vInt.vSize==a1.vInt.vSize)&&((a0.vInt.vSigned==a1.vInt.vSigned)&&true)))&&(a0.vRef==a1.vRef)) true (vI a0.vN) rfl rfl rfl rfl (fun hg=>(r_loadBox (gvt (vP b1 5) hg rfl) Tryd.isAgg3 (HS2.look 1 rfl) rfl))<|rgs ((((a0.vKind==a1.vKind)&&(strEq a0.vName a1.vName))&&((a0.vInt.vSize==a1.vInt.vSize)&&((a0.vInt.vSigned==a1.vInt.vSigned)&&true)))&&(a0.vRef==a1.vRef)) true (vP b2 5) rfl rfl rfl rfl (fun hg=>(r_fieldBox (n:=1) (o':=5) rfl Tryd.runUnderlying34 rfl Tryd.sizeOf3 (by decide) rfl))<|rgs ((((a0.vKind==a1.vKind)&&(strEq a0.vName a1.vName))&&((a0.vInt.vSize==a1.vInt.vSize)&&((a0.vInt.vSigned==a1.vInt.vSigned)&&true)))&&(a0.vRef==a1.vRef)) true (vI a1.vN) rfl rfl rfl rfl (fun hg=>(r_loadBox (gvt (vP b2 5) hg rfl) Tryd.isAgg3 (HS2.look 0 rfl) rfl))<|rgs ((((a0.vKind==a1.vKind)&&(strEq a0.vName a1.vName))&&((a0.vInt.vSize==a1.vInt.vSize)&&((a0.vInt.vSigned==a1.vInt.vSigned)&&true)))&&(a0.vRef==a1.vRef)) true (vB (a0.vN==a1.vN)) rfl rfl rfl rfl (fun hg=>(r_bin (gvt (vI a0.vN) hg rfl) (gvt (vI a1.vN) hg rfl) rfl))<|run_frame (by simp only [sc0,sc1];rfl) ?_
 refine rs (vB (((((a0.vKind==a1.vKind)&&(strEq a0.vName a1.vName))&&((a0.vInt.vSize==a1.vInt.vSize)&&((a0.vInt.vSigned==a1.vInt.vSigned)&&true)))&&(a0.vRef==a1.vRef))&&(a0.vN==a1.vN))) (r_pick_and rfl (fun hp=>(gvt (vB (a0.vN==a1.vN)) (and_i rfl hp) rfl)) rfl)<|rs (vB (((((a0.vKind==a1.vKind)&&(strEq a0.vName a1.vName))&&((a0.vInt.vSize==a1.vInt.vSize)&&((a0.vInt.vSigned==a1.vInt.vSigned)&&true)))&&(a0.vRef==a1.vRef))&&(a0.vN==a1.vN))) (r_move rfl)<|rgs (((((a0.vKind==a1.vKind)&&(strEq a0.vName a1.vName))&&((a0.vInt.vSize==a1.vInt.vSize)&&((a0.vInt.vSigned==a1.vInt.vSigned)&&true)))&&(a0.vRef==a1.vRef))&&(a0.vN==a1.vN)) true (vP b1 6) rfl rfl rfl rfl (fun hg=>(r_fieldBox (n:=1) (o':=6) rfl Tryd.runUnderlying34 rfl Tryd.sizeOf32 (by decide) rfl))<|rgs (((((a0.vKind==a1.vKind)&&(strEq a0.vName a1.vName))&&((a0.vInt.vSize==a1.vInt.vSize)&&((a0.vInt.vSigned==a1.vInt.vSigned)&&true)))&&(a0.vRef==a1.vRef))&&(a0.vN==a1.vN)) true (vL A0_6 a0.vFields.length c0_6) rfl rfl rfl rfl (fun hg=>(r_loadBox (gvt (vP b1 6) hg rfl) Tryd.isAgg32 (HS2.look 1 rfl) rfl))<|run_frame (by simp only [sc0,sc1];rfl) ?_
 refine rgs (((((a0.vKind==a1.vKind)&&(strEq a0.vName a1.vName))&&((a0.vInt.vSize==a1.vInt.vSize)&&((a0.vInt.vSigned==a1.vInt.vSigned)&&true)))&&(a0.vRef==a1.vRef))&&(a0.vN==a1.vN)) true (vP b2 6) rfl rfl rfl rfl (fun hg=>(r_fieldBox (n:=1) (o':=6) rfl Tryd.runUnderlying34 rfl Tryd.sizeOf32 (by decide) rfl))<|rgs (((((a0.vKind==a1.vKind)&&(strEq a0.vName a1.vName))&&((a0.vInt.vSize==a1.vInt.vSize)&&((a0.vInt.vSigned==a1.vInt.vSigned)&&true)))&&(a0.vRef==a1.vRef))&&(a0.vN==a1.vN)) true (vL A1_6 a1.vFields.length c1_6) rfl rfl rfl rfl (fun hg=>(r_loadBox (gvt (vP b2 6) hg rfl) Tryd.isAgg32 (HS2.look 0 rfl) rfl)) ?_
 obtain ⟨v1,H1,H⟩:=of_bind H
 refine run_g (b:=(((((a0.vKind==a1.vKind)&&(strEq a0.vName a1.vName))&&((a0.vInt.vSize==a1.vInt.vSize)&&((a0.vInt.vSigned==a1.vInt.vSigned)&&true)))&&(a0.vRef==a1.vRef))&&(a0.vN==a1.vN))) (c:=true) (v:=vB v1) rfl rfl rfl rfl (fun hg=>(does_call_eq Tryd.call67 rfl (map2 (gvt (vL A0_6 a0.vFields.length c0_6) hg rfl) (gvt (vL A1_6 a1.vFields.length c1_6) hg rfl)) (slices_Equal_api_Field_api_Field.calls k a0.vFields a1.vFields A0_6 c0_6 A1_6 c1_6 HS2.sees hr0_6 hc0_6 hr1_6 hc1_6 (of_pos H1 hg)))) ?_
 intro w3 hE3
 have HS3:=HS2.step hE3
 refine rs (vB ((((((a0.vKind==a1.vKind)&&(strEq a0.vName a1.vName))&&((a0.vInt.vSize==a1.vInt.vSize)&&((a0.vInt.vSigned==a1.vInt.vSigned)&&true)))&&(a0.vRef==a1.vRef))&&(a0.vN==a1.vN))&&v1)) (r_pick_and rfl (fun hp=>(gvt (vB v1) (and_i rfl hp) rfl)) rfl)<|run_frame (by simp only [sc0,sc1];rfl) ?_
 refine rs (vB ((((((a0.vKind==a1.vKind)&&(strEq a0.vName a1.vName))&&((a0.vInt.vSize==a1.vInt.vSize)&&((a0.vInt.vSigned==a1.vInt.vSigned)&&true)))&&(a0.vRef==a1.vRef))&&(a0.vN==a1.vN))&&v1)) (r_assign rfl) ?_
 try simp only [sc0,sc1]
 refine run_nil<|norm_then<|wp_ret ?_
 obtain rfl:=Option.some.inj H
 exact bodyPost_ret (results_1 rfl (one_tmp rfl)) rfl<|⟨rfl,HS3.toE⟩
def ctf_Same.f (k:Nat) (a0:api_Types) (a1:api_Types):Option (Bool):=(slices_EqualFunc_api_Def_api_Def_api_Def_api_Def.f k a0.vDefs a1.vDefs (fun z0 z1=>ctf_Same_1.f k z0 z1)).bind fun v1=>(some v1)
theorem ctf_Same.calls (k:Nat) (a0:api_Types) (a1:api_Types) (A0_0:Option Addr) (c0_0:Nat) (A1_0:Option Addr) (c1_0:Nat) {h0:View} {w0:World} (hv:Sees h0 w0) (hr0_0:Rd k_api_Def h0 A0_0 a0.vDefs) (hc0_0:a0.vDefs.length≤c0_0) (hr1_0:Rd k_api_Def h0 A1_0 a1.vDefs) (hc1_0:a1.vDefs.length≤c1_0) {r:Bool} (H:ctf_Same.f k a0 a1=some r):Calls Tryd.prog 33 #[Value.agg #[vL A0_0 a0.vDefs.length c0_0],Value.agg #[vL A1_0 a1.vDefs.length c1_0]] w0 (fun e w1=>e= .returned (vB r)∧Ext w0 w1):=by
 unfold ctf_Same.f at H
 have HS:St [] h0 w0 h0 [] w0:=St.init hv
 go_enter Tryd.func33,Tryd.ntmps33
 refine wp_seq<|region<|run_ex rfl rfl (does_box (cs:=#[vL A0_0 a0.vDefs.length c0_0]) rfl rfl) ?_
 rintro w1 _ hE1 ⟨b1,rfl,ge1,hb1⟩
 have HS1:=HS.new hE1 ge1 hb1
 refine run_ex rfl rfl (does_box (cs:=#[vL A1_0 a1.vDefs.length c1_0]) rfl rfl) ?_
 rintro w2 _ hE2 ⟨b2,rfl,ge2,hb2⟩
 have HS2:=HS1.new hE2 ge2 hb2
 refine rs (vB false) (r_assign rfl) ?_
 try simp only [sc0,sc1]
 refine run_nil<|norm_then<|wp_seq<|region<|rs (vP b1 0) (r_fieldBox (n:=1) (o':=0) rfl Tryd.runUnderlying24 rfl Tryd.sizeOf22 (by decide) rfl)<|rs (vL A0_0 a0.vDefs.length c0_0) (r_loadBox rfl Tryd.isAgg22 (HS2.look 1 rfl) rfl)<|rs (vP b2 0) (r_fieldBox (n:=1) (o':=0) rfl Tryd.runUnderlying24 rfl Tryd.sizeOf22 (by decide) rfl)<|rs (vL A1_0 a1.vDefs.length c1_0) (r_loadBox rfl Tryd.isAgg22 (HS2.look 0 rfl) rfl)<|run_frame (by simp only [sc0,sc1];rfl) ?_
 obtain ⟨v1,H1,H⟩:=of_bind H
 refine run_eq (v:=vB v1) rfl rfl (does_call_eq Tryd.call65 rfl rfl (slices_EqualFunc_api_Def_api_Def_api_Def_api_Def.calls k a0.vDefs a1.vDefs (fun z0 z1=>ctf_Same_1.f k z0 z1) A0_0 c0_0 A1_0 c1_0 66 [] HS2.sees hr0_0 hc0_0 hr1_0 hc1_0 Tryd.call66 (fun z0 Az0_6 cz0_6 z1 Az1_6 cz1_6 h w hE hs hv hz0_6 hzc0_6 hz1_6 hzc1_6 r H=>ctf_Same_1.calls k z0 z1 Az0_6 cz0_6 Az1_6 cz1_6 hv hz0_6 hzc0_6 hz1_6 hzc1_6 H) H1)) ?_
 intro w3 hE3
 have HS3:=HS2.step hE3
 refine rs (vB v1) (r_assign rfl) ?_
 try simp only [sc0,sc1]
 refine run_nil<|norm_then<|wp_ret ?_
 obtain rfl:=Option.some.inj H
 exact bodyPost_ret (results_1 rfl (one_tmp rfl)) rfl<|⟨rfl,HS3.toE⟩
def taplinelaw08_CtfCompares.f (k:Nat) (a0:api_Types) (a1:api_Types) (a2:arr2_Int):Option (Bool):=(taplinelaw08_sane.f k).bind fun v1=>((if (true&&(v1==true))=true then ctf_Equal.f k a0 a2.ve0 a1 a2.ve1 else some false).bind fun v2=>((if (true&&(v1==true))=true then taplineref08_Equal.f k a0 a2.ve0 a1 a2.ve1 else some false).bind fun v3=>((if (true&&((v1&&(v2==v3))==true))=true then ctf_Same.f k a0 a1 else some false).bind fun v4=>((if (true&&((v1&&(v2==v3))==true))=true then taplineref08_Same.f k a0 a1 else some false).bind fun v5=>((if (true&&(((v1&&(v2==v3))&&(v4==v5))==true))=true then ctf_Same.f k a0 a0 else some false).bind fun v6=>(some (((v1&&(v2==v3))&&(v4==v5))&&v6)))))))
theorem taplinelaw08_CtfCompares.calls (k:Nat) (a0:api_Types) (a1:api_Types) (a2:arr2_Int) (A0_0:Option Addr) (c0_0:Nat) (A1_0:Option Addr) (c1_0:Nat) {h0:View} {w0:World} (hv:Sees h0 w0) (ht:Tab w0) (hr0_0:Rd k_api_Def h0 A0_0 a0.vDefs) (hc0_0:a0.vDefs.length≤c0_0) (hr1_0:Rd k_api_Def h0 A1_0 a1.vDefs) (hc1_0:a1.vDefs.length≤c1_0) {r:Bool} (H:taplinelaw08_CtfCompares.f k a0 a1 a2=some r):Calls Tryd.prog 7 #[Value.agg #[vL A0_0 a0.vDefs.length c0_0],Value.agg #[vL A1_0 a1.vDefs.length c1_0],Value.agg #[vI a2.ve0,vI a2.ve1]] w0 (fun e w1=>e= .returned (vB r)∧Ext w0 w1):=by
 unfold taplinelaw08_CtfCompares.f at H
 have HS:St [] h0 w0 h0 [] w0:=St.init hv
 go_enter Tryd.func7,Tryd.ntmps7
 refine wp_seq<|region<|run_ex rfl rfl (does_box (cs:=#[vL A0_0 a0.vDefs.length c0_0]) rfl rfl) ?_
 rintro w1 _ hE1 ⟨b1,rfl,ge1,hb1⟩
 have HS1:=HS.new hE1 ge1 hb1
 refine run_ex rfl rfl (does_box (cs:=#[vL A1_0 a1.vDefs.length c1_0]) rfl rfl) ?_
 rintro w2 _ hE2 ⟨b2,rfl,ge2,hb2⟩
 have HS2:=HS1.new hE2 ge2 hb2
 refine run_ex rfl rfl (does_box (cs:=#[vI a2.ve0,vI a2.ve1]) rfl rfl) ?_
 rintro w3 _ hE3 ⟨b3,rfl,ge3,hb3⟩
 have HS3:=HS2.new hE3 ge3 hb3
 refine rs (vB false) (r_assign rfl) ?_
 try simp only [sc0,sc1]
 refine run_nil<|norm_then<|wp_seq<|region ?_
 obtain ⟨v1,H1,H⟩:=of_bind H
 refine run_eq (v:=vB v1) rfl rfl (does_call_eq Tryd.call13 rfl rfl (taplinelaw08_sane.calls k HS3.sees (ht.s HS3) H1)) ?_
 intro w4 hE4
 have HS4:=HS3.step hE4
 refine rs (vB v1) (r_assign rfl) ?_
 try simp only [sc0,sc1]
 refine run_nil<|norm_then<|wp_seq ?_
 obtain ⟨v2,H2,H⟩:=of_bind H
 obtain ⟨v3,H3,H⟩:=of_bind H
 obtain ⟨v4,H4,H⟩:=of_bind H
 obtain ⟨v5,H5,H⟩:=of_bind H
 obtain ⟨v6,H6,H⟩:=of_bind H
 refine drawn [.eq (vB v1), .eq (vB v1), .eq (gv (true&&(v1==true)) (Value.agg #[vL A0_0 a0.vDefs.length c0_0])), .eq (gv (true&&(v1==true)) (vP b3 0)), .eq (gv (true&&(v1==true)) (vI a2.ve0)), .eq (gv (true&&(v1==true)) (Value.agg #[vL A1_0 a1.vDefs.length c1_0])), .eq (gv (true&&(v1==true)) (vP b3 1)), .eq (gv (true&&(v1==true)) (vI a2.ve1)), .eq (gv (true&&(v1==true)) (vB v2)), .eq (gv (true&&(v1==true)) (Value.agg #[vL A0_0 a0.vDefs.length c0_0])), .eq (gv (true&&(v1==true)) (vP b3 0)), .eq (gv (true&&(v1==true)) (vI a2.ve0)), .eq (gv (true&&(v1==true)) (Value.agg #[vL A1_0 a1.vDefs.length c1_0])), .eq (gv (true&&(v1==true)) (vP b3 1)), .eq (gv (true&&(v1==true)) (vI a2.ve1)), .eq (gv (true&&(v1==true)) (vB v3)), .eq (gv (true&&(v1==true)) (vB (v2==v3))), .eq (vB (v1&&(v2==v3))), .eq (vB (v1&&(v2==v3))), .eq (gv (true&&((v1&&(v2==v3))==true)) (Value.agg #[vL A0_0 a0.vDefs.length c0_0])), .eq (gv (true&&((v1&&(v2==v3))==true)) (Value.agg #[vL A1_0 a1.vDefs.length c1_0])), .eq (gv (true&&((v1&&(v2==v3))==true)) (vB v4)), .eq (gv (true&&((v1&&(v2==v3))==true)) (Value.agg #[vL A0_0 a0.vDefs.length c0_0])), .eq (gv (true&&((v1&&(v2==v3))==true)) (Value.agg #[vL A1_0 a1.vDefs.length c1_0])), .eq (gv (true&&((v1&&(v2==v3))==true)) (vB v5)), .eq (gv (true&&((v1&&(v2==v3))==true)) (vB (v4==v5))), .eq (vB ((v1&&(v2==v3))&&(v4==v5))), .eq (vB ((v1&&(v2==v3))&&(v4==v5))), .eq (gv (true&&(((v1&&(v2==v3))&&(v4==v5))==true)) (Value.agg #[vL A0_0 a0.vDefs.length c0_0])), .eq (gv (true&&(((v1&&(v2==v3))&&(v4==v5))==true)) (Value.agg #[vL A0_0 a0.vDefs.length c0_0])), .eq (gv (true&&(((v1&&(v2==v3))&&(v4==v5))==true)) (vB v6)), .eq (vB (((v1&&(v2==v3))&&(v4==v5))&&v6))] [9,10,11,12,13,14,15,16,17,18,19,20,21,22,23,24,25,26,27,28,29,30,31,32,33,34,35,36,37,38,39,40] hmix (by kernel_rfl) rfl (stable_eq (stable_eq (stable_eq (stable_eq (stable_eq (stable_eq (stable_eq (stable_eq (stable_eq (stable_eq (stable_eq (stable_eq (stable_eq (stable_eq (stable_eq (stable_eq (stable_eq (stable_eq (stable_eq (stable_eq (stable_eq (stable_eq (stable_eq (stable_eq (stable_eq (stable_eq (stable_eq (stable_eq (stable_eq (stable_eq (stable_eq (stable_eq stable_nil)))))))))))))))))))))))))))))))) ⟨ob_plain rfl (fun a' w' hE hk=>by have HSd:=HS4.step hE;exact does_eq (r_move (show _=vB v1 from hk 7 rfl))),ob_plain rfl (fun a' w' hE hk=>by have HSd:=HS4.step hE;exact does_eq (r_move (show _=vB v1 from hk 9 rfl))),ob_guard (b:=v1) (c:=true) rfl rfl (by decide) (fun w' u hu=>by exact hu) (fun a' w' hE hk hg=>by have HSd:=HS4.step hE;exact does_eq (r_loadBoxAgg (n:=1) (vs:=[vL A0_0 a0.vDefs.length c0_0]) (show _=vP b1 0 from hk 3 rfl) Tryd.isAgg24 (HSd.look 2 rfl) Tryd.sizeOf24 rfl rfl)),ob_guard (b:=v1) (c:=true) rfl rfl (by decide) (fun w' u hu=>by exact hu) (fun a' w' hE hk hg=>by have HSd:=HS4.step hE;exact does_eq (r_indexBox (o':=0) (show _=vP b3 0 from hk 5 rfl) rfl Tryd.runUnderlying73 Tryd.sizeOf3 (by decide) (by decide) rfl)),ob_guard (b:=v1) (c:=true) rfl rfl (by decide) (fun w' u hu=>by exact hu) (fun a' w' hE hk hg=>by have HSd:=HS4.step hE;exact does_eq (r_loadBox ((show _=gv (true&&(v1==true)) (vP b3 0) from (show _=gv (true&&(v1==true)) (vP b3 0) from hk 12 rfl)).trans (gv_t hg)) Tryd.isAgg3 (HSd.look 0 rfl) rfl)),ob_guard (b:=v1) (c:=true) rfl rfl (by decide) (fun w' u hu=>by exact hu) (fun a' w' hE hk hg=>by have HSd:=HS4.step hE;exact does_eq (r_loadBoxAgg (n:=1) (vs:=[vL A1_0 a1.vDefs.length c1_0]) (show _=vP b2 0 from hk 4 rfl) Tryd.isAgg24 (HSd.look 1 rfl) Tryd.sizeOf24 rfl rfl)),ob_guard (b:=v1) (c:=true) rfl rfl (by decide) (fun w' u hu=>by exact hu) (fun a' w' hE hk hg=>by have HSd:=HS4.step hE;exact does_eq (r_indexBox (o':=1) (show _=vP b3 0 from hk 5 rfl) rfl Tryd.runUnderlying73 Tryd.sizeOf3 (by decide) (by decide) rfl)),ob_guard (b:=v1) (c:=true) rfl rfl (by decide) (fun w' u hu=>by exact hu) (fun a' w' hE hk hg=>by have HSd:=HS4.step hE;exact does_eq (r_loadBox ((show _=gv (true&&(v1==true)) (vP b3 1) from (show _=gv (true&&(v1==true)) (vP b3 1) from hk 15 rfl)).trans (gv_t hg)) Tryd.isAgg3 (HSd.look 0 rfl) rfl)),ob_guard (b:=v1) (c:=true) rfl rfl (by decide) (fun w' u hu=>by exact hu) (fun a' w' hE hk hg=>by have HSd:=HS4.step hE;exact (does_call_eq Tryd.call29 rfl (map4 ((show _=gv (true&&(v1==true)) (Value.agg #[vL A0_0 a0.vDefs.length c0_0]) from (show _=gv (true&&(v1==true)) (Value.agg #[vL A0_0 a0.vDefs.length c0_0]) from hk 11 rfl)).trans (gv_t hg)) ((show _=gv (true&&(v1==true)) (vI a2.ve0) from (show _=gv (true&&(v1==true)) (vI a2.ve0) from hk 13 rfl)).trans (gv_t hg)) ((show _=gv (true&&(v1==true)) (Value.agg #[vL A1_0 a1.vDefs.length c1_0]) from (show _=gv (true&&(v1==true)) (Value.agg #[vL A1_0 a1.vDefs.length c1_0]) from hk 14 rfl)).trans (gv_t hg)) ((show _=gv (true&&(v1==true)) (vI a2.ve1) from (show _=gv (true&&(v1==true)) (vI a2.ve1) from hk 16 rfl)).trans (gv_t hg))) (ctf_Equal.calls k a0 a2.ve0 a1 a2.ve1 A0_0 c0_0 A1_0 c1_0 HSd.sees (ht.s HSd) hr0_0 hc0_0 hr1_0 hc1_0 (of_pos H2 hg)))),ob_guard (b:=v1) (c:=true) rfl rfl (by decide) (fun w' u hu=>by exact hu) (fun a' w' hE hk hg=>by have HSd:=HS4.step hE;exact does_eq (r_loadBoxAgg (n:=1) (vs:=[vL A0_0 a0.vDefs.length c0_0]) (show _=vP b1 0 from hk 3 rfl) Tryd.isAgg24 (HSd.look 2 rfl) Tryd.sizeOf24 rfl rfl)),ob_guard (b:=v1) (c:=true) rfl rfl (by decide) (fun w' u hu=>by exact hu) (fun a' w' hE hk hg=>by have HSd:=HS4.step hE;exact does_eq (r_indexBox (o':=0) (show _=vP b3 0 from hk 5 rfl) rfl Tryd.runUnderlying73 Tryd.sizeOf3 (by decide) (by decide) rfl)),ob_guard (b:=v1) (c:=true) rfl rfl (by decide) (fun w' u hu=>by exact hu) (fun a' w' hE hk hg=>by have HSd:=HS4.step hE;exact does_eq (r_loadBox ((show _=gv (true&&(v1==true)) (vP b3 0) from (show _=gv (true&&(v1==true)) (vP b3 0) from hk 19 rfl)).trans (gv_t hg)) Tryd.isAgg3 (HSd.look 0 rfl) rfl)),ob_guard (b:=v1) (c:=true) rfl rfl (by decide) (fun w' u hu=>by exact hu) (fun a' w' hE hk hg=>by have HSd:=HS4.step hE;exact does_eq (r_loadBoxAgg (n:=1) (vs:=[vL A1_0 a1.vDefs.length c1_0]) (show _=vP b2 0 from hk 4 rfl) Tryd.isAgg24 (HSd.look 1 rfl) Tryd.sizeOf24 rfl rfl)),ob_guard (b:=v1) (c:=true) rfl rfl (by decide) (fun w' u hu=>by exact hu) (fun a' w' hE hk hg=>by have HSd:=HS4.step hE;exact does_eq (r_indexBox (o':=1) (show _=vP b3 0 from hk 5 rfl) rfl Tryd.runUnderlying73 Tryd.sizeOf3 (by decide) (by decide) rfl)),ob_guard (b:=v1) (c:=true) rfl rfl (by decide) (fun w' u hu=>by exact hu) (fun a' w' hE hk hg=>by have HSd:=HS4.step hE;exact does_eq (r_loadBox ((show _=gv (true&&(v1==true)) (vP b3 1) from (show _=gv (true&&(v1==true)) (vP b3 1) from hk 22 rfl)).trans (gv_t hg)) Tryd.isAgg3 (HSd.look 0 rfl) rfl)),ob_guard (b:=v1) (c:=true) rfl rfl (by decide) (fun w' u hu=>by exact hu) (fun a' w' hE hk hg=>by have HSd:=HS4.step hE;exact (does_call_eq Tryd.call32 rfl (map4 ((show _=gv (true&&(v1==true)) (Value.agg #[vL A0_0 a0.vDefs.length c0_0]) from (show _=gv (true&&(v1==true)) (Value.agg #[vL A0_0 a0.vDefs.length c0_0]) from hk 18 rfl)).trans (gv_t hg)) ((show _=gv (true&&(v1==true)) (vI a2.ve0) from (show _=gv (true&&(v1==true)) (vI a2.ve0) from hk 20 rfl)).trans (gv_t hg)) ((show _=gv (true&&(v1==true)) (Value.agg #[vL A1_0 a1.vDefs.length c1_0]) from (show _=gv (true&&(v1==true)) (Value.agg #[vL A1_0 a1.vDefs.length c1_0]) from hk 21 rfl)).trans (gv_t hg)) ((show _=gv (true&&(v1==true)) (vI a2.ve1) from (show _=gv (true&&(v1==true)) (vI a2.ve1) from hk 23 rfl)).trans (gv_t hg))) (taplineref08_Equal.calls k a0 a2.ve0 a1 a2.ve1 A0_0 c0_0 A1_0 c1_0 HSd.sees hr0_0 hc0_0 hr1_0 hc1_0 (of_pos H3 hg)))),ob_guard (b:=v1) (c:=true) rfl rfl (by decide) (fun w' u hu=>by exact hu) (fun a' w' hE hk hg=>by have HSd:=HS4.step hE;exact does_eq (r_booleql ((show _=gv (true&&(v1==true)) (vB v2) from (show _=gv (true&&(v1==true)) (vB v2) from hk 17 rfl)).trans (gv_t hg)) ((show _=gv (true&&(v1==true)) (vB v3) from (show _=gv (true&&(v1==true)) (vB v3) from hk 24 rfl)).trans (gv_t hg)) Tryd.runUnderlying4)),ob_plain rfl (fun a' w' hE hk=>by have HSd:=HS4.step hE;exact does_eq (r_pick_and (show _=vB v1 from hk 10 rfl) (fun hp=>((show _=gv (true&&(v1==true)) (vB (v2==v3)) from (show _=gv (true&&(v1==true)) (vB (v2==v3)) from hk 25 rfl)).trans (gv_t (and_i rfl hp)))) rfl)),ob_plain rfl (fun a' w' hE hk=>by have HSd:=HS4.step hE;exact does_eq (r_move (show _=vB (v1&&(v2==v3)) from hk 26 rfl))),ob_guard (b:=(v1&&(v2==v3))) (c:=true) rfl rfl (by decide) (fun w' u hu=>by exact hu) (fun a' w' hE hk hg=>by have HSd:=HS4.step hE;exact does_eq (r_loadBoxAgg (n:=1) (vs:=[vL A0_0 a0.vDefs.length c0_0]) (show _=vP b1 0 from hk 3 rfl) Tryd.isAgg24 (HSd.look 2 rfl) Tryd.sizeOf24 rfl rfl)),ob_guard (b:=(v1&&(v2==v3))) (c:=true) rfl rfl (by decide) (fun w' u hu=>by exact hu) (fun a' w' hE hk hg=>by have HSd:=HS4.step hE;exact does_eq (r_loadBoxAgg (n:=1) (vs:=[vL A1_0 a1.vDefs.length c1_0]) (show _=vP b2 0 from hk 4 rfl) Tryd.isAgg24 (HSd.look 1 rfl) Tryd.sizeOf24 rfl rfl)),ob_guard (b:=(v1&&(v2==v3))) (c:=true) rfl rfl (by decide) (fun w' u hu=>by exact hu) (fun a' w' hE hk hg=>by have HSd:=HS4.step hE;exact (does_call_eq Tryd.call33 rfl (map2 ((show _=gv (true&&((v1&&(v2==v3))==true)) (Value.agg #[vL A0_0 a0.vDefs.length c0_0]) from (show _=gv (true&&((v1&&(v2==v3))==true)) (Value.agg #[vL A0_0 a0.vDefs.length c0_0]) from hk 28 rfl)).trans (gv_t hg)) ((show _=gv (true&&((v1&&(v2==v3))==true)) (Value.agg #[vL A1_0 a1.vDefs.length c1_0]) from (show _=gv (true&&((v1&&(v2==v3))==true)) (Value.agg #[vL A1_0 a1.vDefs.length c1_0]) from hk 29 rfl)).trans (gv_t hg))) (ctf_Same.calls k a0 a1 A0_0 c0_0 A1_0 c1_0 HSd.sees hr0_0 hc0_0 hr1_0 hc1_0 (of_pos H4 hg)))),ob_guard (b:=(v1&&(v2==v3))) (c:=true) rfl rfl (by decide) (fun w' u hu=>by exact hu) (fun a' w' hE hk hg=>by have HSd:=HS4.step hE;exact does_eq (r_loadBoxAgg (n:=1) (vs:=[vL A0_0 a0.vDefs.length c0_0]) (show _=vP b1 0 from hk 3 rfl) Tryd.isAgg24 (HSd.look 2 rfl) Tryd.sizeOf24 rfl rfl)),ob_guard (b:=(v1&&(v2==v3))) (c:=true) rfl rfl (by decide) (fun w' u hu=>by exact hu) (fun a' w' hE hk hg=>by have HSd:=HS4.step hE;exact does_eq (r_loadBoxAgg (n:=1) (vs:=[vL A1_0 a1.vDefs.length c1_0]) (show _=vP b2 0 from hk 4 rfl) Tryd.isAgg24 (HSd.look 1 rfl) Tryd.sizeOf24 rfl rfl)),ob_guard (b:=(v1&&(v2==v3))) (c:=true) rfl rfl (by decide) (fun w' u hu=>by exact hu) (fun a' w' hE hk hg=>by have HSd:=HS4.step hE;exact (does_call_eq Tryd.call30 rfl (map2 ((show _=gv (true&&((v1&&(v2==v3))==true)) (Value.agg #[vL A0_0 a0.vDefs.length c0_0]) from (show _=gv (true&&((v1&&(v2==v3))==true)) (Value.agg #[vL A0_0 a0.vDefs.length c0_0]) from hk 31 rfl)).trans (gv_t hg)) ((show _=gv (true&&((v1&&(v2==v3))==true)) (Value.agg #[vL A1_0 a1.vDefs.length c1_0]) from (show _=gv (true&&((v1&&(v2==v3))==true)) (Value.agg #[vL A1_0 a1.vDefs.length c1_0]) from hk 32 rfl)).trans (gv_t hg))) (taplineref08_Same.calls k a0 a1 A0_0 c0_0 A1_0 c1_0 HSd.sees hr0_0 hc0_0 hr1_0 hc1_0 (of_pos H5 hg)))),ob_guard (b:=(v1&&(v2==v3))) (c:=true) rfl rfl (by decide) (fun w' u hu=>by exact hu) (fun a' w' hE hk hg=>by have HSd:=HS4.step hE;exact does_eq (r_booleql ((show _=gv (true&&((v1&&(v2==v3))==true)) (vB v4) from (show _=gv (true&&((v1&&(v2==v3))==true)) (vB v4) from hk 30 rfl)).trans (gv_t hg)) ((show _=gv (true&&((v1&&(v2==v3))==true)) (vB v5) from (show _=gv (true&&((v1&&(v2==v3))==true)) (vB v5) from hk 33 rfl)).trans (gv_t hg)) Tryd.runUnderlying4)),ob_plain rfl (fun a' w' hE hk=>by have HSd:=HS4.step hE;exact does_eq (r_pick_and (show _=vB (v1&&(v2==v3)) from hk 27 rfl) (fun hp=>((show _=gv (true&&((v1&&(v2==v3))==true)) (vB (v4==v5)) from (show _=gv (true&&((v1&&(v2==v3))==true)) (vB (v4==v5)) from hk 34 rfl)).trans (gv_t (and_i rfl hp)))) rfl)),ob_plain rfl (fun a' w' hE hk=>by have HSd:=HS4.step hE;exact does_eq (r_move (show _=vB ((v1&&(v2==v3))&&(v4==v5)) from hk 35 rfl))),ob_guard (b:=((v1&&(v2==v3))&&(v4==v5))) (c:=true) rfl rfl (by decide) (fun w' u hu=>by exact hu) (fun a' w' hE hk hg=>by have HSd:=HS4.step hE;exact does_eq (r_loadBoxAgg (n:=1) (vs:=[vL A0_0 a0.vDefs.length c0_0]) (show _=vP b1 0 from hk 3 rfl) Tryd.isAgg24 (HSd.look 2 rfl) Tryd.sizeOf24 rfl rfl)),ob_guard (b:=((v1&&(v2==v3))&&(v4==v5))) (c:=true) rfl rfl (by decide) (fun w' u hu=>by exact hu) (fun a' w' hE hk hg=>by have HSd:=HS4.step hE;exact does_eq (r_loadBoxAgg (n:=1) (vs:=[vL A0_0 a0.vDefs.length c0_0]) (show _=vP b1 0 from hk 3 rfl) Tryd.isAgg24 (HSd.look 2 rfl) Tryd.sizeOf24 rfl rfl)),ob_guard (b:=((v1&&(v2==v3))&&(v4==v5))) (c:=true) rfl rfl (by decide) (fun w' u hu=>by exact hu) (fun a' w' hE hk hg=>by have HSd:=HS4.step hE;exact (does_call_eq Tryd.call33 rfl (map2 ((show _=gv (true&&(((v1&&(v2==v3))&&(v4==v5))==true)) (Value.agg #[vL A0_0 a0.vDefs.length c0_0]) from (show _=gv (true&&(((v1&&(v2==v3))&&(v4==v5))==true)) (Value.agg #[vL A0_0 a0.vDefs.length c0_0]) from hk 37 rfl)).trans (gv_t hg)) ((show _=gv (true&&(((v1&&(v2==v3))&&(v4==v5))==true)) (Value.agg #[vL A0_0 a0.vDefs.length c0_0]) from (show _=gv (true&&(((v1&&(v2==v3))&&(v4==v5))==true)) (Value.agg #[vL A0_0 a0.vDefs.length c0_0]) from hk 38 rfl)).trans (gv_t hg))) (ctf_Same.calls k a0 a0 A0_0 c0_0 A0_0 c0_0 HSd.sees hr0_0 hc0_0 hr0_0 hc0_0 (of_pos H6 hg)))),ob_plain rfl (fun a' w' hE hk=>by have HSd:=HS4.step hE;exact does_eq (r_pick_and (show _=vB ((v1&&(v2==v3))&&(v4==v5)) from hk 36 rfl) (fun hp=>((show _=gv (true&&(((v1&&(v2==v3))&&(v4==v5))==true)) (vB v6) from (show _=gv (true&&(((v1&&(v2==v3))&&(v4==v5))==true)) (vB v6) from hk 39 rfl)).trans (gv_t (and_i rfl hp)))) rfl)),trivial⟩ ?_
 intro w5 hE5
 simp only [List.zip_cons_cons,List.zip_nil_left,List.zip_nil_right,finL,sc0,sc1,List.length_cons,List.length_nil,List.drop_succ_cons,List.drop_zero,Nat.zero_add,Nat.reduceAdd]
 have HS5:=HS4.step hE5
 refine rs (vB (((v1&&(v2==v3))&&(v4==v5))&&v6)) (r_assign rfl) ?_
 try simp only [sc0,sc1]
 refine run_nil<|norm_then<|wp_ret ?_
 obtain rfl:=Option.some.inj H
 exact bodyPost_ret (results_1 rfl (one_tmp rfl)) rfl<|⟨rfl,HS5.toE⟩
section
variable {t u:api_Types} {l lu:List Int}
theorem reach_in {y:List Int} {d:api_Def} (hd:rd z_api_Def t.vDefs (rd 0 y 0)=d) (hl:d.vFields.length≤32):∀(e j m:Nat) (ys:List Int),j+e=d.vFields.length→e<m→ys.length+e≤4294967296→
    taplineref08_Reach.l1 t y m (j:Int) ys=some (ys++if d.vKind=4 then (d.vFields.drop j).map (·.vType) else []):=by
  intro e
  induction e with
  | zero =>
    intro j m ys hj hm hy
    obtain ⟨m,rfl⟩:∃q,m=q+1:=⟨m-1,by omega⟩
    rw [taplineref08_Reach.l1,hd,if_neg (by simp;omega),List.drop_eq_nil_of_le (by omega)]
    simp
  | succ e ih =>
    intro j m ys hj hm hy
    obtain ⟨m,rfl⟩:∃q,m=q+1:=⟨m-1,by omega⟩
    have hlt:j<d.vFields.length:=by omega
    by_cases h4:d.vKind=4
    · rw [taplineref08_Reach.l1,hd,if_pos (by rw [h4];simp;omega),if_pos (by omega),if_pos (by omega),wrap_nat hlt (by omega),ih (j+1) m _ (by omega) (by omega) (by simp;omega),if_pos h4,if_pos h4,rd_nat,drop_getD z_api_Field hlt]
      simp
    · rw [taplineref08_Reach.l1,hd,if_neg (by simp [h4]),if_neg h4,List.append_nil]
theorem reach_out (W : Wf t l) {k : Nat} (hk : 40 ≤ k) : ∀ (m : Nat) (is : List Bool) (todo : List Int) (is' : List Bool), is.length = t.vDefs.length → (∀ x ∈ todo, x = ((x.toNat : Nat) : Int) ∧ x.toNat < t.vDefs.length) → todo.length + 33 * cf is ≤ 1000000 →
    reachW t m is todo=some is'→taplineref08_Reach.l0 k t m todo is=some ([],is'):=by
  intro m
  induction m with
  |zero=>intro is todo is' _ _ _ h;simp [reachW] at h
  | succ m ih =>
    intro is todo is' hl hin hb h
    match todo,h,hin,hb with
    | [], h, _, _ =>
      rw [taplineref08_Reach.l0,if_neg (by simp)]
      rw [reachW] at h
      rw [Option.some.inj h]
    | x :: r, h, hin, hb =>
      obtain ⟨hx1,hx2⟩:=hin x List.mem_cons_self
      have h0:rd 0 (x::r) (0:Int)=x:=by rw [show (0:Int)=((0:Nat):Int) from rfl,rd_nat];rfl
      have hr:rd false is x=is.getD x.toNat false:=by rw [hx1,rd_nat];rfl
      rw [taplineref08_Reach.l0,if_pos (by simp),if_pos (by simp)]
      rw [h0,if_pos (by simp only [Int.toNat_natCast];omega),hr,List.drop_one,List.tail_cons]
      rw [reachW] at h
      cases hs:is.getD x.toNat false with
      | true =>
        rw [hs,if_pos rfl] at h
        rw [if_pos rfl]
        exact ih is r is' hl (fun y hy=>hin y (List.mem_cons_of_mem _ hy)) (by simp only [List.length_cons] at hb;omega) h
      | false =>
        rw [hs,if_neg (by simp)] at h
        rw [if_neg (by simp),if_pos (by simp only [Int.toNat_natCast];omega),if_pos (by omega)]
        have hd:rd z_api_Def t.vDefs (rd 0 (x::r) (0:Int))=dAt t x.toNat:=by rw [h0,hx1,rd_dAt];rfl
        have hdx:rd z_api_Def t.vDefs x=dAt t x.toNat:=by rw [←hd,h0]
        have hS:=W.sh _ (dAt_mem hx2)
        have hfew:=hS.few
        have hcf:=cf_set (by rw [hl];exact hx2) hs
        simp only [List.length_cons] at hb
        have hkl:(kids (dAt t x.toNat)).length≤32:=by
          unfold kids
          split
          · simp
          · split
            · rw [List.length_map];exact hfew
            · simp
        rw [hdx]
        have key:∀ys:List Int,ys.length≤1000001→ys++(if (dAt t x.toNat).vKind=4 then ((dAt t x.toNat).vFields.drop 0).map (·.vType) else [])=r++kids (dAt t x.toNat)→
            ((some ys:Option (List Int)).bind fun xx2=>((taplineref08_Reach.l1 t (x::r) k 0 xx2).bind fun xx3=>(taplineref08_Reach.l0 k t m xx3 (List.set is x.toNat true))))=some ([],is'):=by
          intro ys hy he
          have h1:=reach_in (t:=t) (y:=x::r) hd hfew (dAt t x.toNat).vFields.length 0 k ys (by omega) (by omega) (by omega)
          rw [Option.bind_some,show taplineref08_Reach.l1 t (x::r) k 0 ys=_ from h1,Option.bind_some,he]
          refine ih _ _ is' (by rw [List.length_set];exact hl) (fun y hy=>?_) (by rw [List.length_append];omega) h
          rcases List.mem_append.1 hy with hy|hy
          · exact hin y (List.mem_cons_of_mem _ hy)
          · exact kids_range W hx2 hy
        by_cases hc:(dAt t x.toNat).vKind=2∨(dAt t x.toNat).vKind=3∨(dAt t x.toNat).vKind=6
        · rw [if_pos (by simp only [Bool.or_eq_true,beq_iff_eq];rcases hc with h|h|h<;>simp [h]),if_pos (by omega)]
          refine key _ (by simp;omega) ?_
          rw [kids_ref hc,if_neg (by omega),List.append_nil]
        · rw [if_neg (by simp only [Bool.or_eq_true,beq_iff_eq];intro h;apply hc;rcases h with (h|h)|h<;>simp [h])]
          refine key _ (by omega) ?_
          by_cases h4:(dAt t x.toNat).vKind=4
          · rw [if_pos h4,kids_struct h4,List.drop_zero]
          · rw [if_neg h4,kids_none hc h4]
theorem reach_ev (W:Wf t l) {i:Nat} (hi:i<t.vDefs.length):∃is',Ev (fun k=>taplineref08_Reach.f k t [(i:Int)]) is'∧is'.length=t.vDefs.length∧∀k,is'.getD k false=true↔Rch t i k:=by
 obtain ⟨is',⟨K,hK⟩,hl,hm⟩:=reachW_ev W (fr:=[i]) (by intro x hx;rw [List.mem_singleton.1 hx];exact hi)
 refine ⟨is',⟨K+40,fun k hk=>?_⟩,hl,fun k=>(hm k).trans ⟨fun ⟨j,hj,hr⟩=>by rw [List.mem_singleton.1 hj] at hr;exact hr,fun h=>⟨i,List.mem_singleton.2 rfl,h⟩⟩⟩
 have hn:=W.few
 have hcf:∀n,cf (List.replicate n false)=n:=by
  intro n
  induction n with
  |zero=>rfl
  |succ n ih=>rw [List.replicate_succ,cf,ih];simp;omega
 show taplineref08_Reach.f k t [(i:Int)]=_
 unfold taplineref08_Reach.f
 rw [if_pos (by omega),if_pos (by simp),Int.toNat_natCast,List.nil_append]
 rw [show ([(i : Int)] : List Int) = natL [i] from rfl, reach_out W (by omega) k _ _ is' (by simp) (fun x hx => by
  rw [List.mem_singleton.1 hx]
  exact ⟨rfl, hi⟩) (by rw [hcf]; show 1 + _ ≤ _; omega) (hK k (by omega))]
 rfl
theorem ralike_ev (W : Wf t l) (V : Wf u lu) {i j : Nat} (hi : i < t.vDefs.length) (hj : j < u.vDefs.length) (hn : namedS (dAt t i) = true) : Ev (fun k => taplineref08_alike.f k t (dAt t i) u (dAt u j)) (tell (AlikeS t (dAt t i) u (dAt u j))) := by
  have hD:=W.sh _ (dAt_mem hi)
  have hG:=V.sh _ (dAt_mem hj)
  have hlen:=hD.few
  have hi4:∀a b:ByteArray,strEq a b=tell (a=b):=fun a b=>tell_of strEq_iff
  have htx:∀{t:api_Types} {l:List Int} (W:Wf t l) {c:Int},0≤c→c<t.vDefs.length→Ev (fun k=>taplineref08_Text.f k t c) (tx t c.toNat):=fun {t l} W {c} h0 h1=>by
    obtain ⟨s,e1,e2,_⟩:=text_both W t.vDefs.length c.toNat (by have:=W.few;omega) (by omega) (W.ends _ (getD_mem (by omega)))
    rw [←tx_of e1] at e2
    rwa [show ((c.toNat:Nat):Int)=c by omega] at e2
  have hk:=(named_iff _).1 hn
  by_cases hne:(dAt t i).vKind=(dAt u j).vKind∧(dAt t i).vName=(dAt u j).vName∧((dAt t i).vInt.vSize=(dAt u j).vInt.vSize∧(dAt t i).vInt.vSigned=(dAt u j).vInt.vSigned)∧(dAt t i).vN=(dAt u j).vN∧(dAt t i).vFields.length=(dAt u j).vFields.length
  · obtain ⟨n1,n2,⟨n3,n4⟩,n5,n6⟩:=hne
    have hcond:¬(((((((dAt t i).vKind !=(dAt u j).vKind)||(!(strEq (dAt t i).vName (dAt u j).vName)))||(!(((dAt t i).vInt.vSize==(dAt u j).vInt.vSize)&&(((dAt t i).vInt.vSigned==(dAt u j).vInt.vSigned)&&true))))||((dAt t i).vN !=(dAt u j).vN))||(((dAt t i).vFields.length:Int) !=((dAt u j).vFields.length:Int)))=true):=by
      rw [n1,n2,n3,n4,n5,n6,strEq_iff.2 rfl];simp
    have hF : ∀ (e x : Nat), x + e = (dAt t i).vFields.length → Ev2 (fun k m => taplineref08_alike.l0 k t (dAt t i) u (dAt u j) m (x : Int)) (if tell (∀ y, x ≤ y → y < (dAt t i).vFields.length → AlikeF t u (dAt t i).vKind (fAt (dAt t i) y) (fAt (dAt u j) y)) = true then .inr () else .inl false) := by
      intro e
      induction e with
      | zero =>
        intro x hx
        refine Ev2.pure fun k m=>?_
        rw [taplineref08_alike.l0,if_neg (by simp;omega),if_pos (tell_t (fun y h1 h2=>by omega))]
      | succ e ih =>
        intro x hx
        have hlt:x<(dAt t i).vFields.length:=by omega
        have hlt2:x<(dAt u j).vFields.length:=by omega
        obtain ⟨K3,h3⟩:=ih (x+1) (by omega)
        have r1:∀k m,taplineref08_alike.l0 k t (dAt t i) u (dAt u j) (m+1) (x:Int)=_:=fun k m=>by
          rw [taplineref08_alike.l0,if_pos (by simp;omega),if_pos (by omega),if_pos (by omega),rd_nat,rd_nat,wrap_nat hlt (by omega)]
        have hset:(∀y,x≤y→y<(dAt t i).vFields.length→AlikeF t u (dAt t i).vKind (fAt (dAt t i) y) (fAt (dAt u j) y))↔AlikeF t u (dAt t i).vKind (fAt (dAt t i) x) (fAt (dAt u j) x)∧∀y,x+1≤y→y<(dAt t i).vFields.length→AlikeF t u (dAt t i).vKind (fAt (dAt t i) y) (fAt (dAt u j) y):=
          ⟨fun h => ⟨h x (Nat.le_refl _) hlt, fun y h1 h2 => h y (by omega) h2⟩, fun h y h1 h2 => by
            by_cases e:y=x
            · subst e;exact h.1
            · exact h.2 y (by omega) h2⟩
        rw [tell_congr hset]
        by_cases c1:(fAt (dAt t i) x).vName=(fAt (dAt u j) x).vName∧(fAt (dAt t i) x).vAt=(fAt (dAt u j) x).vAt
        · have hneg:((!(strEq ((dAt t i).vFields.getD x z_api_Field).vName ((dAt u j).vFields.getD x z_api_Field).vName))||(((dAt t i).vFields.getD x z_api_Field).vAt !=((dAt u j).vFields.getD x z_api_Field).vAt))=false:=by
            rw [show ((dAt t i).vFields.getD x z_api_Field).vName=((dAt u j).vFields.getD x z_api_Field).vName from c1.1,show ((dAt t i).vFields.getD x z_api_Field).vAt=((dAt u j).vFields.getD x z_api_Field).vAt from c1.2,strEq_iff.2 rfl]
            simp
          by_cases h4:(dAt t i).vKind=4
          · have q1:=hD.typ h4 _ (getD_mem (z:=z_api_Field) hlt)
            have q2:=hG.typ (by omega) _ (getD_mem (z:=z_api_Field) hlt2)
            obtain ⟨K1,h1⟩:=htx W q1.1 q1.2
            obtain ⟨K2,h2⟩:=htx V q2.1 q2.2
            refine ⟨K1+K2+K3+1,fun k m hk hm=>?_⟩
            obtain ⟨m,rfl⟩:∃q,m=q+1:=⟨m-1,by omega⟩
            show taplineref08_alike.l0 k t (dAt t i) u (dAt u j) (m+1) (x:Int)=_
            rw [r1,hneg,h4]
            simp only [beq_self_eq_true,Bool.and_self,if_true,Bool.true_and,Bool.false_or]
            rw [show taplineref08_Text.f k t _=_ from h1 k (by omega),show taplineref08_Text.f k u _=_ from h2 k (by omega)]
            simp only [Option.bind_some]
            rw [hi4 (tx t _)]
            by_cases c2:tx t ((dAt t i).vFields.getD x z_api_Field).vType.toNat=tx u ((dAt u j).vFields.getD x z_api_Field).vType.toNat
            · rw [tell_t c2,if_neg (by simp),show taplineref08_alike.l0 k t (dAt t i) u (dAt u j) m ((x+1:Nat):Int)=_ from h3 k m (by omega) (by omega),h4]
              rw [tell_congr (p:=AlikeF t u 4 (fAt (dAt t i) x) (fAt (dAt u j) x)∧_) (q:=∀y,x+1≤y→y<(dAt t i).vFields.length→AlikeF t u 4 (fAt (dAt t i) y) (fAt (dAt u j) y)) ⟨fun h=>h.2,fun h=>⟨⟨c1.1,c1.2,fun _=>c2⟩,h⟩⟩]
            · rw [tell_f c2,if_pos (by rfl),tell_f (fun h=>c2 (h.1.2.2 rfl))]
              rfl
          · refine ⟨K3+1,fun k m hk hm=>?_⟩
            obtain ⟨m,rfl⟩:∃q,m=q+1:=⟨m-1,by omega⟩
            show taplineref08_alike.l0 k t (dAt t i) u (dAt u j) (m+1) (x:Int)=_
            rw [r1,hneg,show ((dAt t i).vKind==4)=false from by simpa using h4]
            simp only [show (false==true)=false from rfl,Bool.and_false,Bool.false_eq_true,if_false,Option.bind_some,Bool.false_and,Bool.or_self]
            rw [show taplineref08_alike.l0 k t (dAt t i) u (dAt u j) m ((x+1:Nat):Int)=_ from h3 k m (by omega) (by omega)]
            rw [tell_congr (p:=AlikeF t u (dAt t i).vKind (fAt (dAt t i) x) (fAt (dAt u j) x)∧_) (q:=∀y,x+1≤y→y<(dAt t i).vFields.length→AlikeF t u (dAt t i).vKind (fAt (dAt t i) y) (fAt (dAt u j) y)) ⟨fun h=>h.2,fun h=>⟨⟨c1.1,c1.2,fun h=>absurd h h4⟩,h⟩⟩]
        · have hpos:((!(strEq ((dAt t i).vFields.getD x z_api_Field).vName ((dAt u j).vFields.getD x z_api_Field).vName))||(((dAt t i).vFields.getD x z_api_Field).vAt !=((dAt u j).vFields.getD x z_api_Field).vAt))=true:=by
            rw [hi4]
            by_cases a1:((dAt t i).vFields.getD x z_api_Field).vName=((dAt u j).vFields.getD x z_api_Field).vName
            · have a2:((dAt t i).vFields.getD x z_api_Field).vAt≠((dAt u j).vFields.getD x z_api_Field).vAt:=fun h=>c1 ⟨a1,h⟩
              rw [bneT a2,Bool.or_true]
            · rw [tell_f a1];rfl
          refine ⟨1,fun k m hk hm=>?_⟩
          obtain ⟨m,rfl⟩:∃q,m=q+1:=⟨m-1,by omega⟩
          show taplineref08_alike.l0 k t (dAt t i) u (dAt u j) (m+1) (x:Int)=_
          rw [r1,hpos]
          simp only [show (true==false)=false from rfl,Bool.and_false,Bool.false_and,Bool.false_eq_true,if_false,Option.bind_some,Bool.true_or,if_true]
          rw [tell_f (fun h=>c1 ⟨h.1.1,h.1.2.1⟩)]
          rfl
    obtain ⟨K3,h3⟩:=(hF (dAt t i).vFields.length 0 (by omega)).diag
    have hall:tell (∀y,0≤y→y<(dAt t i).vFields.length→AlikeF t u (dAt t i).vKind (fAt (dAt t i) y) (fAt (dAt u j) y))=tell (∀y,y<(dAt t i).vFields.length→AlikeF t u (dAt t i).vKind (fAt (dAt t i) y) (fAt (dAt u j) y)):=tell_congr ⟨fun h y h1=>h y (by omega) h1,fun h y _ h1=>h y h1⟩
    rw [hall] at h3
    by_cases h6:(dAt t i).vKind=6
    · have r1:=hD.ref (by omega)
      have r2:=hG.ref (by omega)
      obtain ⟨K1,h1⟩:=htx W r1.1 r1.2
      obtain ⟨K2,h2⟩:=htx V r2.1 r2.2
      refine ⟨K1+K2+K3,fun k hk'=>?_⟩
      show taplineref08_alike.f k t (dAt t i) u (dAt u j)=_
      unfold taplineref08_alike.f
      rw [if_neg hcond,show ((dAt t i).vKind==6)=true from beqT h6]
      simp only [beq_self_eq_true,Bool.and_self,if_true,Bool.true_and]
      rw [show taplineref08_Text.f k t (dAt t i).vRef=_ from h1 k (by omega),show taplineref08_Text.f k u (dAt u j).vRef=_ from h2 k (by omega)]
      simp only [Option.bind_some]
      by_cases c:tx t (dAt t i).vRef.toNat=tx u (dAt u j).vRef.toNat
      · rw [strEq_iff.2 c,if_neg (by simp),show taplineref08_alike.l0 k t _ u _ k 0=_ from h3 k (by omega)]
        rw [tell_congr (p:=AlikeS t (dAt t i) u (dAt u j)) (q:=∀y,y<(dAt t i).vFields.length→AlikeF t u (dAt t i).vKind (fAt (dAt t i) y) (fAt (dAt u j) y)) ⟨fun h=>h.fld,fun h=>⟨n1,n2,⟨n3,n4⟩,n5,fun _=>c,n6,h⟩⟩]
        cases tell (∀y,y<(dAt t i).vFields.length→AlikeF t u (dAt t i).vKind (fAt (dAt t i) y) (fAt (dAt u j) y))<;>rfl
      · rw [if_pos (by rw [hi4,tell_f c];rfl),tell_f (fun h=>c (h.ref (by omega)))]
    · refine ⟨K3,fun k hk'=>?_⟩
      show taplineref08_alike.f k t (dAt t i) u (dAt u j)=_
      unfold taplineref08_alike.f
      rw [if_neg hcond,show ((dAt t i).vKind==6)=false from by simpa using h6]
      simp only [show (false==true)=false from rfl,Bool.and_false,Bool.false_and,Bool.false_eq_true,if_false,Option.bind_some]
      rw [show taplineref08_alike.l0 k t _ u _ k 0=_ from h3 k (by omega)]
      rw [tell_congr (p:=AlikeS t (dAt t i) u (dAt u j)) (q:=∀y,y<(dAt t i).vFields.length→AlikeF t u (dAt t i).vKind (fAt (dAt t i) y) (fAt (dAt u j) y)) ⟨fun h=>h.fld,fun h=>⟨n1,n2,⟨n3,n4⟩,n5,fun hh=>by omega,n6,h⟩⟩]
      cases tell (∀y,y<(dAt t i).vFields.length→AlikeF t u (dAt t i).vKind (fAt (dAt t i) y) (fAt (dAt u j) y))<;>rfl
  · refine Ev.pure fun k=>?_
    unfold taplineref08_alike.f
    rw [if_pos,tell_f (fun h=>hne ⟨h.kind,h.name,h.int,h.num,h.len⟩)]
    by_cases a1:(dAt t i).vKind=(dAt u j).vKind
    · by_cases a2:(dAt t i).vName=(dAt u j).vName
      · by_cases a3:(dAt t i).vInt.vSize=(dAt u j).vInt.vSize∧(dAt t i).vInt.vSigned=(dAt u j).vInt.vSigned
        · by_cases a4:(dAt t i).vN=(dAt u j).vN
          · have a5:((dAt t i).vFields.length:Int)≠((dAt u j).vFields.length:Int):=fun h=>hne ⟨a1,a2,a3,a4,by omega⟩
            rw [bneT a5];simp
          · rw [bneT a4];simp
        · have:((((dAt t i).vInt.vSize==(dAt u j).vInt.vSize)&&(((dAt t i).vInt.vSigned==(dAt u j).vInt.vSigned)&&true)))=false:=by
            rw [Bool.eq_false_iff]
            intro h
            simp only [Bool.and_true,Bool.and_eq_true,beq_iff_eq] at h
            exact a3 h
          rw [this];simp
      · rw [hi4,tell_f a2];simp
    · rw [bneT a1];simp
theorem requal_ev (W : Wf t l) (V : Wf u lu) {is : List Bool} (hl : is.length = t.vDefs.length) : ∀ (e k : Nat), k + e = t.vDefs.length →
    Ev2 (fun n m=>taplineref08_Equal.l0 n t u is m (k:Int)) (if tell (∀q,k≤q→is.getD q false=true→CondK t u q)=true then .inr () else .inl false):=by
  intro e
  induction e with
  | zero =>
    intro k hk
    refine Ev2.pure fun n m=>?_
    rw [taplineref08_Equal.l0, if_neg (by simp; omega), if_pos (tell_t (fun q h1 h2 => by
      rw [List.getD_eq_getElem?_getD,List.getElem?_eq_none (by omega)] at h2
      cases h2))]
  | succ e ih =>
    intro k hk
    have hlt:k<t.vDefs.length:=by omega
    obtain ⟨K3,h3⟩:=ih (k+1) (by omega)
    have hfew:=W.few
    have hset:(∀q,k≤q→is.getD q false=true→CondK t u q)↔(is.getD k false=true→CondK t u k)∧∀q,k+1≤q→is.getD q false=true→CondK t u q:=
      ⟨fun h => ⟨h k (Nat.le_refl _), fun q h1 h2 => h q (by omega) h2⟩, fun h q h1 h2 => by
        by_cases e:q=k
        · subst e;exact h.1 h2
        · exact h.2 q (by omega) h2⟩
    rw [tell_congr hset]
    have r1:∀n m,taplineref08_Equal.l0 n t u is (m+1) (k:Int)=_:=fun n m=>by
      rw [taplineref08_Equal.l0,if_pos (by simp;omega),if_pos (by omega),if_pos (fun _=>by omega),wrap_nat hlt (by omega),if_pos (show (0:Int)≤(k:Int)∧(k:Int)<(t.vDefs.length:Int) by omega),rd_nat (z:=false),rd_dAt]
    have skip:(is.getD k false=true→CondK t u k)→tell ((is.getD k false=true→CondK t u k)∧∀q,k+1≤q→is.getD q false=true→CondK t u q)=tell (∀q,k+1≤q→is.getD q false=true→CondK t u q):=fun h=>tell_congr ⟨fun g=>g.2,fun g=>⟨h,g⟩⟩
    by_cases hm:is.getD k false=true
    · by_cases hn:namedS (dAt t k)=true
      · have hN:taplineref08_Named.f (dAt t k)=some true:=by rw [←hn];rfl
        obtain ⟨K1,h1⟩:=rfind_ev V.few (dAt t k).vName
        by_cases h0:0≤findV u (dAt t k).vName
        · obtain ⟨j,ej,hj,hnj,hname⟩:=findV_pos h0
          obtain ⟨K2,h2⟩:=ralike_ev W V hlt hj hn
          have htl:(if tell ((is.getD k false=true→CondK t u k)∧∀q,k+1≤q→is.getD q false=true→CondK t u q)=true then (.inr ():Bool⊕Unit) else .inl false)=if tell (CondK t u k)=true then (if tell (∀q,k+1≤q→is.getD q false=true→CondK t u q)=true then .inr () else .inl false) else .inl false:=by
            by_cases hC:CondK t u k
            · rw [skip (fun _=>hC),if_pos (tell_t hC)]
            · rw [tell_f (fun g=>hC (g.1 hm)),tell_f hC]
              rfl
          refine ⟨K1+K2+K3+1,fun n m hn' hm'=>?_⟩
          obtain ⟨m,rfl⟩:∃q,m=q+1:=⟨m-1,by omega⟩
          show taplineref08_Equal.l0 n t u is (m+1) (k:Int)=_
          rw [htl,r1,hm,hN]
          simp only [Bool.not_true,beq_self_eq_true,Bool.and_self,if_true,Option.bind_some,Bool.or_self,Bool.false_eq_true,if_false]
          rw [show taplineref08_Find.f n u _=_ from h1 n (by omega),ej]
          simp only [Option.bind_some]
          rw [show decide (((j:Nat):Int)<0)=false from decide_eq_false (by omega),if_pos (fun _=>by omega),if_pos (fun _=>by omega),rd_dAt]
          simp only [beq_self_eq_true,Bool.and_self,if_true]
          rw [show taplineref08_alike.f n t (dAt t k) u (dAt u j)=_ from h2 n (by omega)]
          simp only [Option.bind_some,Bool.false_or]
          have hc : tell (AlikeS t (dAt t k) u (dAt u j)) = tell (CondK t u k) := tell_congr ⟨fun h _ => ⟨j, hj, hnj, h⟩, fun h => by
            obtain ⟨j',hj',hn',ha⟩:=h hn
            have:=name_uniq V hj hj' hnj hn' (by rw [hname,ha.name])
            subst this
            exact ha⟩
          rw [hc]
          by_cases hC:CondK t u k
          · rw [tell_t hC,if_neg (by simp),if_pos rfl]
            exact h3 n m (by omega) (by omega)
          · rw [tell_f hC]
            rfl
        · have hno:¬CondK t u k:=fun h=>by
            obtain ⟨j',hj',hn',ha⟩:=h hn
            exact findV_neg h0 j' hj' hn' ha.name.symm
          refine ⟨K1+1,fun n m hn' hm'=>?_⟩
          obtain ⟨m,rfl⟩:∃q,m=q+1:=⟨m-1,by omega⟩
          show taplineref08_Equal.l0 n t u is (m+1) (k:Int)=_
          rw [tell_f (fun g=>hno (g.1 hm)),r1,hm,hN]
          simp only [Bool.not_true,beq_self_eq_true,Bool.and_self,if_true,Option.bind_some,Bool.or_self,Bool.false_eq_true,if_false]
          rw [show taplineref08_Find.f n u _=_ from h1 n (by omega)]
          simp only [Option.bind_some]
          rw [show decide (findV u (dAt t k).vName<0)=true from decide_eq_true (by omega)]
          simp
      · have hN:taplineref08_Named.f (dAt t k)=some false:=by
          have:namedS (dAt t k)=false:=by simpa using hn
          rw [←this];rfl
        refine ⟨K3+1,fun n m hn' hm'=>?_⟩
        obtain ⟨m,rfl⟩:∃q,m=q+1:=⟨m-1,by omega⟩
        show taplineref08_Equal.l0 n t u is (m+1) (k:Int)=_
        rw [skip (fun _ h=>absurd h hn),r1,hm,hN]
        simp only [Bool.not_true,Bool.not_false,beq_self_eq_true,Bool.and_self,if_true,Option.bind_some,Bool.or_true]
        exact h3 n m (by omega) (by omega)
    · have hm:is.getD k false=false:=by simpa using hm
      refine ⟨K3+1,fun n m hn' hm'=>?_⟩
      obtain ⟨m,rfl⟩:∃q,m=q+1:=⟨m-1,by omega⟩
      show taplineref08_Equal.l0 n t u is (m+1) (k:Int)=_
      rw [skip (fun h=>by rw [hm] at h;cases h),r1,hm]
      simp only [Bool.not_false,show (true==false)=false from rfl,Bool.and_false,Bool.false_eq_true,if_false,Option.bind_some,Bool.true_or,if_true]
      exact h3 n m (by omega) (by omega)
theorem rEqual_ev (hF : ∀ d ∈ t.vDefs, FitD d) (hG : ∀ d ∈ u.vDefs, FitD d) (a b : Int) : Ev (fun k => taplineref08_Equal.f k t a u b) (tell (EqX t a u b)) := by
  have hno:∀{t:api_Types} {a:Int} {e:Int},e≠0→Ev (fun k=>ctf_given.f k t a) e→(∀d∈t.vDefs,FitD d)→∀i,¬Typ t a i:=fun {t a e} he hg hF i hi=>by
    rcases given_ev hF a with ⟨_,_,_,_,_,_,h0⟩|⟨_,_,hn,_⟩
    · exact he (hg.uniq h0)
    · exact hn i hi
  rcases given_both hF a with ⟨e,he,g1,⟨K1,h1⟩⟩|⟨i,l,rfl,hi,W,hv,_,g1,⟨K1,h1⟩⟩
  · refine ⟨K1,fun k hk=>?_⟩
    show taplineref08_Equal.f k t a u b=_
    unfold taplineref08_Equal.f
    rw [show taplineref08_given.f k t a=_ from h1 k (by omega)]
    simp only [Option.bind_some]
    rw [show (e != 0) = true from by simpa using he, tell_f (fun h => by
      obtain ⟨i',j',hi',hj',h⟩:=h
      exact hno he g1 hF i' hi')]
    rfl
  · rcases given_both hG b with ⟨e,he,g2,⟨K2,h2⟩⟩|⟨j,m,rfl,hj,V,hv2,_,g2,⟨K2,h2⟩⟩
    · refine ⟨K1+K2,fun k hk=>?_⟩
      show taplineref08_Equal.f k t (i:Int) u b=_
      unfold taplineref08_Equal.f
      rw [show taplineref08_given.f k t (i:Int)=_ from h1 k (by omega)]
      simp only [Option.bind_some,bne_self_eq_false,beq_self_eq_true,Bool.and_self,if_true,Bool.false_or]
      rw [show taplineref08_given.f k u b=_ from h2 k (by omega)]
      simp only [Option.bind_some]
      rw [show (e != 0) = true from by simpa using he, tell_f (fun h => by
        obtain ⟨i',j',hi',hj',h⟩:=h
        exact hno he g2 hG j' hj')]
      rfl
    · obtain ⟨s,e1,⟨K3,h3⟩,_⟩:=text_both W t.vDefs.length i (by have:=W.few;omega) hi (W.ends _ (getD_mem hi))
      obtain ⟨s2,e2,⟨K4,h4⟩,_⟩:=text_both V u.vDefs.length j (by have:=V.few;omega) hj (V.ends _ (getD_mem hj))
      rw [←tx_of e1] at h3
      rw [←tx_of e2] at h4
      have hX : EqX t (i : Int) u (j : Int) ↔ EqS t i u j := ⟨fun h => by
        obtain ⟨i',j',hi',hj',h⟩:=h
        have e1:i=i':=Int.ofNat.inj hi'.1
        have e2:j=j':=Int.ofNat.inj hj'.1
        subst e1 e2
        exact h, fun h => ⟨i, j, ⟨rfl, hi, l, W⟩, ⟨rfl, hj, m, V⟩, h⟩⟩
      rw [tell_congr hX]
      obtain ⟨is,⟨K5,h5⟩,hlen,hmark⟩:=reach_ev W hi
      obtain ⟨K6,h6⟩:=(requal_ev W V hlen t.vDefs.length 0 (by omega)).diag
      refine ⟨K1+K2+K3+K4+K5+K6,fun k hk=>?_⟩
      show taplineref08_Equal.f k t (i:Int) u (j:Int)=_
      unfold taplineref08_Equal.f
      rw [show taplineref08_given.f k t (i:Int)=_ from h1 k (by omega)]
      simp only [Option.bind_some,bne_self_eq_false,beq_self_eq_true,Bool.and_self,if_true,Bool.false_or]
      rw [show taplineref08_given.f k u (j:Int)=_ from h2 k (by omega)]
      simp only [Option.bind_some,bne_self_eq_false,beq_self_eq_true,Bool.and_self,if_true,Bool.false_or]
      rw [show taplineref08_Text.f k t (i:Int)=_ from h3 k (by omega),show taplineref08_Text.f k u (j:Int)=_ from h4 k (by omega)]
      simp only [Option.bind_some]
      by_cases c:tx t i=tx u j
      · rw [strEq_iff.2 c,if_neg (by simp),show taplineref08_Reach.f k t [((i:Nat):Int)]=_ from h5 k (by omega)]
        simp only [Option.bind_some]
        rw [show taplineref08_Equal.l0 k t u is k 0=_ from h6 k (by omega)]
        rw [tell_congr (p:=∀q,0≤q→is.getD q false=true→CondK t u q) (q:=EqS t i u j) ⟨fun h=>⟨c,fun q hr=>h q (by omega) ((hmark q).2 hr)⟩,fun h q _ hr=>h.2 q ((hmark q).1 hr)⟩]
        cases tell (EqS t i u j)<;>rfl
      · rw [if_pos (by
          cases hs:strEq (tx t i) (tx u j) with
          |false=>rfl
          | true => exact absurd (strEq_iff.1 hs) c), tell_f (fun h => c h.1)]
end
theorem sameFields_l0 (a b:List api_Field):∀(m:Nat) (y:Int),taplineref08_SameFields.l0 a b m y=slices_Equal_api_Field_api_Field.l0 a b m y
 |0,_=>rfl
 |m+1,y=>by rw [taplineref08_SameFields.l0,slices_Equal_api_Field_api_Field.l0,sameFields_l0 a b m]
theorem sameFields_eq (k:Nat) (a b:List api_Field):taplineref08_SameFields.f k a b=slices_Equal_api_Field_api_Field.f k a b:=by
 unfold taplineref08_SameFields.f slices_Equal_api_Field_api_Field.f
 rw [sameFields_l0]
 split
 ·rfl
 ·cases slices_Equal_api_Field_api_Field.l0 a b k 0 with
  |none=>rfl
  |some x=>cases x<;>rfl
theorem sameDef_eq (k:Nat) (a b:api_Def):taplineref08_SameDef.f k a b=ctf_Same_1.f k a b:=by
 unfold taplineref08_SameDef.f ctf_Same_1.f
 rw [sameFields_eq]
theorem same_l0 (k:Nat) (t u:api_Types):∀(m:Nat) (y:Int),taplineref08_Same.l0 k t u m y=slices_EqualFunc_api_Def_api_Def_api_Def_api_Def.l0 t.vDefs u.vDefs (fun z0 z1=>ctf_Same_1.f k z0 z1) m y
 |0,_=>rfl
 |m+1,y=>by rw [taplineref08_Same.l0,slices_EqualFunc_api_Def_api_Def_api_Def_api_Def.l0,same_l0 k t u m,sameDef_eq]
theorem same_eq (k:Nat) (t u:api_Types):taplineref08_Same.f k t u=ctf_Same.f k t u:=by
 unfold taplineref08_Same.f ctf_Same.f slices_EqualFunc_api_Def_api_Def_api_Def_api_Def.f
 simp only [same_l0]
 split
 ·rfl
 ·cases slices_EqualFunc_api_Def_api_Def_api_Def_api_Def.l0 t.vDefs u.vDefs (fun z0 z1=>ctf_Same_1.f k z0 z1) k 0 with
  |none=>rfl
  |some x=>cases x<;>rfl
def feqS (f g:api_Field):Bool:=(strEq f.vName g.vName)&&((f.vType==g.vType)&&((f.vAt==g.vAt)&&true))
theorem feqS_refl (f:api_Field):feqS f f=true:=by unfold feqS;rw [strEq_iff.2 rfl];simp
theorem flds_loop {a b : List api_Field} (hl : a.length ≤ 9223372036854775807) (hab : a.length = b.length) : ∀ (e j m : Nat), j + e = a.length → e < m →
    slices_Equal_api_Field_api_Field.l0 a b m (j:Int)=some (if tell (∀i,j≤i→i<a.length→feqS (a.getD i z_api_Field) (b.getD i z_api_Field)=true)=true then .inr () else .inl false):=by
  intro e
  induction e with
  | zero =>
    intro j m hj hm
    obtain ⟨m,rfl⟩:∃q,m=q+1:=⟨m-1,by omega⟩
    rw [slices_Equal_api_Field_api_Field.l0,if_neg (by simp;omega),if_pos (tell_t (fun i h1 h2=>by omega))]
  | succ e ih =>
    intro j m hj hm
    obtain ⟨m,rfl⟩:∃q,m=q+1:=⟨m-1,by omega⟩
    have hlt:j<a.length:=by omega
    rw [slices_Equal_api_Field_api_Field.l0,if_pos (by simp;omega),if_pos (by omega),if_pos (by omega),rd_nat,rd_nat,wrap_nat hlt hl,ih (j+1) m (by omega) (by omega)]
    show (if (!feqS (a.getD j z_api_Field) (b.getD j z_api_Field))=true then _ else _)=_
    by_cases hq:feqS (a.getD j z_api_Field) (b.getD j z_api_Field)=true
    · rw [hq,if_neg (by simp),tell_congr (p:=∀i,j+1≤i→i<a.length→feqS (a.getD i z_api_Field) (b.getD i z_api_Field)=true) (q:=∀i,j≤i→i<a.length→feqS (a.getD i z_api_Field) (b.getD i z_api_Field)=true)]
      exact ⟨fun h i h1 h2 => by
        by_cases e:i=j
        · subst e;exact hq
        · exact h i (by omega) h2, fun h i h1 h2 => h i (by omega) h2⟩
    · rw [tell_f (p:=∀i,j≤i→i<a.length→feqS (a.getD i z_api_Field) (b.getD i z_api_Field)=true) (fun h=>hq (h j (Nat.le_refl _) hlt)),if_pos (by simpa using hq)]
      rfl
theorem flds_ev {a b:List api_Field} (hl:a.length≤9223372036854775807):Ev (fun k=>slices_Equal_api_Field_api_Field.f k a b) (tell (a.length=b.length∧∀i,i<a.length→feqS (a.getD i z_api_Field) (b.getD i z_api_Field)=true)):=by
 by_cases hab:a.length=b.length
 ·refine ⟨a.length+1,fun k hk=>?_⟩
  show slices_Equal_api_Field_api_Field.f k a b=_
  unfold slices_Equal_api_Field_api_Field.f
  rw [if_neg (by simp;omega),show slices_Equal_api_Field_api_Field.l0 a b k 0=_ from flds_loop hl hab a.length 0 k (by omega) (by omega)]
  rw [tell_congr (p:=∀i,0≤i→i<a.length→feqS (a.getD i z_api_Field) (b.getD i z_api_Field)=true) (q:=a.length=b.length∧∀i,i<a.length→feqS (a.getD i z_api_Field) (b.getD i z_api_Field)=true) ⟨fun h=>⟨hab,fun i hi=>h i (by omega) hi⟩,fun h i _ hi=>h.2 i hi⟩]
  generalize tell (a.length=b.length∧∀i,i<a.length→feqS (a.getD i z_api_Field) (b.getD i z_api_Field)=true)=x
  cases x<;>rfl
 ·refine Ev.pure fun k=>?_
  unfold slices_Equal_api_Field_api_Field.f
  rw [if_pos (by simp;omega),tell_f (fun h=>hab h.1)]
def headS (a b:api_Def):Bool:=((((a.vKind==b.vKind)&&(strEq a.vName b.vName))&&((a.vInt.vSize==b.vInt.vSize)&&((a.vInt.vSigned==b.vInt.vSigned)&&true)))&&(a.vRef==b.vRef))&&(a.vN==b.vN)
def SameD (a b:api_Def):Prop:=headS a b=true∧a.vFields.length=b.vFields.length∧∀i,i<a.vFields.length→feqS (a.vFields.getD i z_api_Field) (b.vFields.getD i z_api_Field)=true
theorem SameD.refl (a:api_Def):SameD a a:=⟨by unfold headS;rw [strEq_iff.2 rfl];simp,rfl,fun i _=>feqS_refl _⟩
theorem sameD_ev {a b:api_Def} (hl:a.vFields.length≤9223372036854775807):Ev (fun k=>ctf_Same_1.f k a b) (tell (SameD a b)):=by
  obtain ⟨K,hK⟩:=flds_ev (a:=a.vFields) (b:=b.vFields) hl
  refine ⟨K,fun k hk=>?_⟩
  show ctf_Same_1.f k a b=_
  unfold ctf_Same_1.f
  show ((if (true&&(headS a b==true))=true then _ else _:Option Bool).bind fun v1=>some (headS a b&&v1))=_
  cases hh:headS a b with
  | true =>
    rw [if_pos (show (true&&(true==true))=true from rfl),show slices_Equal_api_Field_api_Field.f k a.vFields b.vFields=_ from hK k hk]
    exact congrArg some (tell_congr ⟨fun h=>⟨hh,h⟩,fun h=>h.2⟩)
  | false =>
    rw [tell_f (fun h:SameD a b=>by rw [SameD,hh] at h;cases h.1)]
    rfl
theorem eqfuncD_loop {a b : List api_Def} {p : Nat → api_Def → api_Def → Option Bool} {q : api_Def → api_Def → Prop} (hl : a.length ≤ 9223372036854775807) (hab : a.length = b.length)
    (hp:∀j,j<a.length→Ev (fun k=>p k (a.getD j z_api_Def) (b.getD j z_api_Def)) (tell (q (a.getD j z_api_Def) (b.getD j z_api_Def)))):∀(e j:Nat),j+e=a.length→
    Ev2 (fun k m=>slices_EqualFunc_api_Def_api_Def_api_Def_api_Def.l0 a b (p k) m (j:Int)) (if tell (∀i,j≤i→i<a.length→q (a.getD i z_api_Def) (b.getD i z_api_Def))=true then .inr () else .inl false):=by
  intro e
  induction e with
  | zero =>
    intro j hj
    refine Ev2.pure fun k m=>?_
    rw [slices_EqualFunc_api_Def_api_Def_api_Def_api_Def.l0,if_neg (by simp;omega),if_pos (tell_t (fun i h1 h2=>by omega))]
  | succ e ih =>
    intro j hj
    have hlt:j<a.length:=by omega
    have h2:=ih (j+1) (by omega)
    refine Ev2.step (hp j hlt) (r:=fun k m v1=>if (!v1)=true then (some (.inl false)) else (slices_EqualFunc_api_Def_api_Def_api_Def_api_Def.l0 a b (p k) m ((j+1:Nat):Int))) ?_ (fun k m=>?_)
    · by_cases hq:q (a.getD j z_api_Def) (b.getD j z_api_Def)
      · rw [tell_t hq]
        obtain ⟨K,hK⟩:=h2
        refine ⟨K,fun k m hk hm=>?_⟩
        simp only [Bool.not_true,Bool.false_eq_true,if_false]
        rw [show slices_EqualFunc_api_Def_api_Def_api_Def_api_Def.l0 a b (p k) m ((j+1:Nat):Int)=_ from hK k m hk hm]
        congr 2
        rw [tell_congr (p:=∀i,j+1≤i→i<a.length→q (a.getD i z_api_Def) (b.getD i z_api_Def)) (q:=∀i,j≤i→i<a.length→q (a.getD i z_api_Def) (b.getD i z_api_Def))]
        exact ⟨fun h i h1 h2 => by
          by_cases e:i=j
          · subst e;exact hq
          · exact h i (by omega) h2, fun h i h1 h2 => h i (by omega) h2⟩
      · rw [tell_f hq,if_neg (by rw [tell_f (fun h=>hq (h j (Nat.le_refl _) hlt))];simp)]
        exact ⟨0,fun k m _ _=>rfl⟩
    · rw [slices_EqualFunc_api_Def_api_Def_api_Def_api_Def.l0,if_pos (by simp;omega),if_pos (by omega),if_pos (by omega),rd_nat,rd_nat,wrap_nat hlt hl]
theorem eqfuncD_ev {a b:List api_Def} {p:Nat→api_Def→api_Def→Option Bool} {q:api_Def→api_Def→Prop} (hl:a.length≤9223372036854775807)
  (hp:a.length=b.length→∀j,j<a.length→Ev (fun k=>p k (a.getD j z_api_Def) (b.getD j z_api_Def)) (tell (q (a.getD j z_api_Def) (b.getD j z_api_Def)))):
  Ev (fun k=>slices_EqualFunc_api_Def_api_Def_api_Def_api_Def.f k a b (p k)) (tell (a.length=b.length∧∀i,i<a.length→q (a.getD i z_api_Def) (b.getD i z_api_Def))):=by
 by_cases hab:a.length=b.length
 ·obtain ⟨K,hK⟩:=(eqfuncD_loop hl hab (hp hab) a.length 0 (by omega)).diag
  refine ⟨K,fun k hk=>?_⟩
  show slices_EqualFunc_api_Def_api_Def_api_Def_api_Def.f k a b (p k)=_
  unfold slices_EqualFunc_api_Def_api_Def_api_Def_api_Def.f
  rw [if_neg (by simp;omega),show slices_EqualFunc_api_Def_api_Def_api_Def_api_Def.l0 a b (p k) k 0=_ from hK k hk]
  rw [tell_congr (p:=∀i,0≤i→i<a.length→q (a.getD i z_api_Def) (b.getD i z_api_Def)) (q:=a.length=b.length∧∀i,i<a.length→q (a.getD i z_api_Def) (b.getD i z_api_Def)) ⟨fun h=>⟨hab,fun i hi=>h i (by omega) hi⟩,fun h i _ hi=>h.2 i hi⟩]
  generalize tell (a.length=b.length∧∀i,i<a.length→q (a.getD i z_api_Def) (b.getD i z_api_Def))=x
  cases x<;>rfl
 ·refine Ev.pure fun k=>?_
  unfold slices_EqualFunc_api_Def_api_Def_api_Def_api_Def.f
  rw [if_pos (by simp;omega),tell_f (fun h=>hab h.1)]
theorem same_ev {t u:api_Types} (hF:FitT t):Ev (fun k=>ctf_Same.f k t u) (tell (t.vDefs.length=u.vDefs.length∧∀i,i<t.vDefs.length→SameD (t.vDefs.getD i z_api_Def) (u.vDefs.getD i z_api_Def))):=by
 obtain ⟨K,hK⟩:=eqfuncD_ev (a:=t.vDefs) (b:=u.vDefs) (p:=fun k z0 z1=>ctf_Same_1.f k z0 z1) (q:=SameD) hF.1 (fun _ j hj=>sameD_ev (hF.2 _ (getD_mem hj)).len)
 refine ⟨K,fun k hk=>?_⟩
 show ctf_Same.f k t u=_
 unfold ctf_Same.f
 rw [show slices_EqualFunc_api_Def_api_Def_api_Def_api_Def.f k t.vDefs u.vDefs (fun z0 z1=>ctf_Same_1.f k z0 z1)=_ from hK k hk]
 rfl
theorem compares_ev {t u:api_Types} (hF:FitT t) (hG:FitT u) (y:arr2_Int):Ev (fun k=>taplinelaw08_CtfCompares.f k t u y) true:=by
 obtain ⟨K1,h1⟩:=sane_ev
 obtain ⟨K2,h2⟩:=Equal_ev hF.2 hG.2 y.ve0 y.ve1
 obtain ⟨K3,h3⟩:=rEqual_ev hF.2 hG.2 y.ve0 y.ve1
 obtain ⟨K4,h4⟩:=same_ev (u:=u) hF
 obtain ⟨K5,h5⟩:=same_ev (u:=t) hF
 rw [tell_t ⟨rfl,fun i _=>SameD.refl _⟩] at h5
 refine ⟨K1+K2+K3+K4+K5,fun k hk=>?_⟩
 show taplinelaw08_CtfCompares.f k t u y=_
 unfold taplinelaw08_CtfCompares.f
 rw [show taplinelaw08_sane.f k=_ from h1 k (by omega),same_eq,show ctf_Equal.f k t y.ve0 u y.ve1=_ from h2 k (by omega),show taplineref08_Equal.f k t y.ve0 u y.ve1=_ from h3 k (by omega)]
 rw [show ctf_Same.f k t u=_ from h4 k (by omega),show ctf_Same.f k t t=_ from h5 k (by omega)]
 simp
end Go.Proofs.YtfjppgobidjndaaDoor
