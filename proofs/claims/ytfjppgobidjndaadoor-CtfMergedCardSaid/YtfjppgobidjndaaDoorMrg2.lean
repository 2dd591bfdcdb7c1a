/- Parts of a proof, merged by program: F88 F87 F44 F68 F116 F118 F124 F119 F89 F100 F91 F120 F90 F93 F92 F47 F43 F45. The walks (each function once) and the plain laws; no condition of their own. -/
import Derived.Test.YtfjppgobidjndaaDoorMrg1
set_option linter.unusedVariables false
set_option linter.unusedSimpArgs false
namespace Go.Proofs.YtfjppgobidjndaaDoor
open Go.RowKit Go.M
def ctf_contained.l0 (a0:api_Def):Nat→Int→(List Int)→Option ((List Int))
 |0,_,_=>none
 |m+1,y1_0,y1_1=>if (decide (y1_0<(a0.vFields.length:Int)))=true then (if 0≤y1_0∧y1_0<a0.vFields.length then (if y1_1.length+1≤4294967296 then (ctf_contained.l0 a0 m (IntKind.wrap .i64 (y1_0+1)) (y1_1++([(rd z_api_Field a0.vFields y1_0).vType]:List Int))) else none) else none) else (some y1_1)
def ctf_contained.f (k:Nat) (a0:api_Def):Option ((List Int)):=((if (a0.vKind==3)=true then (some (a0.vKind==3)) else (some (a0.vKind==6))):Option (Bool)).bind fun xx1=>(if xx1=true then (some ([a0.vRef]:List Int)) else (if (a0.vKind==4)=true then ((ctf_contained.l0 a0 k 0 ([]:List Int)).bind fun xx2=>(some xx2)) else (some ([]:List Int))))
set_option maxRecDepth 20000 in
set_option maxHeartbeats 4000000 in
theorem ctf_contained.calls (k:Nat) (a0:api_Def) (A0_6:Option Addr) (c0_6:Nat) {h0:View} {w0:World} (hv:Sees h0 w0) (hr0_6:Rd k_api_Field h0 A0_6 a0.vFields) (hc0_6:a0.vFields.length≤c0_6) {r:(List Int)} (H:ctf_contained.f k a0=some r):Calls Tryd.prog 88 #[Value.agg #[vI a0.vKind,vS a0.vName,vI a0.vInt.vSize,vB a0.vInt.vSigned,vI a0.vRef,vI a0.vN,vL A0_6 a0.vFields.length c0_6]] w0 (fun e w1=>∃(h1:View) (A0_0:Option Addr) (c0_0:Nat),e= .returned (vL A0_0 r.length c0_0)∧r.length≤c0_0∧Rd (Kd.int .i64) h1 A0_0 r∧Gr w0.heap.size h0 h1∧Sees h1 w1∧Ext w0 w1):=by
 unfold ctf_contained.f at H
 have HS:St [] h0 w0 h0 [] w0:=St.init hv
 go_enter Tryd.func88,Tryd.ntmps88
 refine wp_seq ?_
 refine region ?_
 refine run_ex rfl rfl (does_box (cs:=#[vI a0.vKind,vS a0.vName,vI a0.vInt.vSize,vB a0.vInt.vSigned,vI a0.vRef,vI a0.vN,vL A0_6 a0.vFields.length c0_6]) rfl rfl) ?_
 rintro w1 _ hE1 ⟨b1,rfl,ge1,hb1⟩
 have HS1:=HS.new hE1 ge1 hb1
 refine rs (vL none 0 0) (r_assign rfl) ?_
 try simp only [sc0,sc1]
 refine run_nil ?_
 refine norm_then ?_
 refine wp_seq ?_
 refine wp_seq ?_
 refine region ?_
 refine rs (vP b1 0) (r_fieldBox (n:=1) (o':=0) rfl Tryd.runUnderlying34 rfl Tryd.sizeOf3 (by decide) rfl) ?_
 refine rs (vI a0.vKind) (r_loadBox rfl Tryd.isAgg3 (HS1.look 0 rfl) rfl) ?_
 try simp only [sc0,sc1]
 refine run_nil ?_
 refine norm_then ?_
 refine wp_block ?_
 refine wp_seq ?_
 refine wp_seq ?_
 refine region ?_
 refine rs (vB (a0.vKind==3)) (r_bin rfl rfl rfl) ?_
 refine rs (vB (a0.vKind==3)) (r_assign rfl) ?_
 try simp only [sc0,sc1]
 refine run_nil ?_
 refine norm_then ?_
 obtain ⟨xx1,H,G1⟩:=of_bind H
 refine cut_patch [8,10] (fun us w'=>∃(uj1_10:Value),us=[vB xx1,uj1_10]∧St [] h0 w0 h0 [(some b1, .cells #[vI a0.vKind,vS a0.vName,vI a0.vInt.vSize,vB a0.vInt.vSigned,vI a0.vRef,vI a0.vN,vL A0_6 a0.vFields.length c0_6] 34 (0,0))] w') ?_ ?_
 ·refine wp_cond_split (t:=(a0.vKind==3)) rfl (fun c1=>?_) (fun c1=>?_)
  ·replace H:=of_pos H c1
   refine wp_skip ?_
   obtain rfl:=Option.some.inj H
   refine met [vB (a0.vKind==3),undef] (by simp only [patch,sc0,sc1]) ⟨_,rfl,HS1⟩
  ·replace H:=of_neg H (nt c1)
   refine region ?_
   refine rs (vB (a0.vKind==6)) (r_bin rfl rfl rfl) ?_
   refine rs (vB (a0.vKind==6)) (r_assign rfl) ?_
   try simp only [sc0,sc1]
   refine run_nil ?_
   obtain rfl:=Option.some.inj H
   refine met [vB (a0.vKind==6),vB (a0.vKind==6)] (by simp only [patch,sc0,sc1]) ⟨_,rfl,HS1⟩
 ·rintro _ w2 ⟨uj1_10,rfl,HS2⟩
  replace H:=G1
  clear G1
  try simp only [patch,sc0,sc1]
  refine wp_cond_split (t:=xx1) rfl (fun c2=>?_) (fun c2=>?_)
  ·replace H:=of_pos H c2
   refine wp_seq ?_
   refine region ?_
   refine rs (vP b1 4) (r_fieldBox (n:=1) (o':=4) rfl Tryd.runUnderlying34 rfl Tryd.sizeOf3 (by decide) rfl) ?_
   refine rs (vI a0.vRef) (r_loadBox rfl Tryd.isAgg3 (HS2.look 0 rfl) rfl) ?_
   refine run_bs (Kd.int .i64) (xs:=([a0.vRef]:List Int)) (n:=1) (cs:=[vI a0.vRef]) Tryd.runUnderlying62 Tryd.typeInfo3 Tryd.zeroValue3 rfl rfl (by decide) (by decide) (by decide) [vI a0.vRef] (parts_any.trans rfl) rfl rfl rfl rfl (elems_cons (qs:=[vI a0.vRef]) rfl (elems_nil (cs:=[]))) HS2 ?_
   intro w3 b2 HS3 ho1
   refine rs (vL (rowA (some b2)) 1 1) (r_assign rfl) ?_
   try simp only [sc0,sc1]
   refine run_nil ?_
   refine norm_then ?_
   refine wp_ret ?_
   refine ret_block ?_
   refine ret_then ?_
   obtain rfl:=Option.some.inj H
   refine bodyPost_ret (results_1 rfl (one_tmp rfl)) rfl ?_
   obtain ⟨h1,HS4,hs1,rdp1⟩:=row_pub HS3 (i:=0) rfl ho1
   exact ⟨h1,(rowA (some b2)),1,(by first|rfl|(rw [ho1.len];done)|(rw [ho1.len];rfl)),ho1.cap,rdp1,HS4.gr,HS4.sees,HS4.toE⟩
  ·replace H:=of_neg H (nt c2)
   refine wp_seq ?_
   refine region ?_
   refine rs (vB (a0.vKind==4)) (r_bin rfl rfl rfl) ?_
   refine rs (vB (a0.vKind==4)) (r_assign rfl) ?_
   try simp only [sc0,sc1]
   refine run_nil ?_
   refine norm_then ?_
   refine wp_cond_split (t:=(a0.vKind==4)) rfl (fun c3=>?_) (fun c3=>?_)
   ·replace H:=of_pos H c3
    refine wp_seq ?_
    refine region ?_
    refine rs (vL none 0 0) (r_assign rfl) ?_
    try simp only [sc0,sc1]
    refine run_nil ?_
    refine norm_then ?_
    refine wp_seq ?_
    refine wp_seq ?_
    refine region ?_
    refine rs (vP b1 6) (r_fieldBox (n:=1) (o':=6) rfl Tryd.runUnderlying34 rfl Tryd.sizeOf32 (by decide) rfl) ?_
    refine rs (vL A0_6 a0.vFields.length c0_6) (r_loadBox rfl Tryd.isAgg32 (HS2.look 0 rfl) rfl) ?_
    refine rs (vI (a0.vFields.length:Int)) (r_len rfl Tryd.runUnderlying32) ?_
    refine rs (vI 0) (r_move rfl) ?_
    try simp only [sc0,sc1]
    refine run_nil ?_
    refine norm_then ?_
    have HS5:=HS2.nothing (.cells ([]:List Value).toArray 3 (0,0))
    obtain ⟨xx2,H,G2⟩:=of_bind H
    refine loop_patch [3,5,19,20,21,22,23,24,25,26,27,28] (fun m us w'=>∃y1_0:Int,∃y1_1:List Int,∃(oby1_1:Option Nat) (cy1_1:Nat),∃csy1_1:List Value,∃uy1_5 uy1_20 uy1_21 uy1_22 uy1_23 uy1_24 uy1_25 uy1_26 uy1_27 uy1_28:Value,us=[vL (rowA oby1_1) y1_1.length cy1_1,uy1_5,vI y1_0,uy1_20,uy1_21,uy1_22,uy1_23,uy1_24,uy1_25,uy1_26,uy1_27,uy1_28]∧ctf_contained.l0 a0 m y1_0 y1_1=some xx2∧RowOk (Kd.int .i64) h0 y1_1 oby1_1 y1_1.length cy1_1 csy1_1∧St [] h0 w0 h0 [(oby1_1, .cells (csy1_1).toArray 3 (0,0)),(some b1, .cells #[vI a0.vKind,vS a0.vName,vI a0.vInt.vSize,vB a0.vInt.vSigned,vI a0.vRef,vI a0.vN,vL A0_6 a0.vFields.length c0_6] 34 (0,0))] w') (fun us w'=>∃(obo1_0:Option Nat) (co1_0:Nat),∃cso1_0:List Value,∃uo1_5 uo1_19 uo1_20 uo1_21 uo1_22 uo1_23 uo1_24 uo1_25 uo1_26 uo1_27 uo1_28:Value,us=[vL (rowA obo1_0) xx2.length co1_0,uo1_5,uo1_19,uo1_20,uo1_21,uo1_22,uo1_23,uo1_24,uo1_25,uo1_26,uo1_27,uo1_28]∧RowOk (Kd.int .i64) h0 xx2 obo1_0 xx2.length co1_0 cso1_0∧St [] h0 w0 h0 [(obo1_0, .cells (cso1_0).toArray 3 (0,0)),(some b1, .cells #[vI a0.vKind,vS a0.vName,vI a0.vInt.vSize,vB a0.vInt.vSigned,vI a0.vRef,vI a0.vN,vL A0_6 a0.vFields.length c0_6] 34 (0,0))] w') k [vL none 0 0,undef,vI 0,undef,undef,undef,undef,undef,undef,undef,undef,undef] (by simp only [patch,sc0,sc1]) ⟨0,([]:List Int),none,0,([]:List Value),_,_,_,_,_,_,_,_,_,_,rfl,H,(RowOk.none' (Kd.int .i64) _).norm,HS5⟩ ?_ ?_
    ·rintro m us w4 ⟨y1_0,y1_1,oby1_1,cy1_1,csy1_1,uy1_5,uy1_20,uy1_21,uy1_22,uy1_23,uy1_24,uy1_25,uy1_26,uy1_27,uy1_28,rfl,H,hoy1_1,HS6⟩
     cases m with
     |zero=>exact absurd H (by simp [ctf_contained.l0])
     |succ m=>
      rw [ctf_contained.l0] at H
      try simp only [patch,sc0,sc1]
      refine wp_seq ?_
      refine region ?_
      refine rs (vB (decide (y1_0<(a0.vFields.length:Int)))) (r_bin rfl rfl rfl) ?_
      try simp only [sc0,sc1]
      refine run_nil ?_
      refine norm_then ?_
      refine wp_seq ?_
      refine wp_cond_split (t:=(decide (y1_0<(a0.vFields.length:Int)))) rfl (fun c4=>?_) (fun c4=>?_)
      ·replace H:=of_pos H c4
       refine wp_skip ?_
       refine norm_then ?_
       refine wp_seq ?_
       refine wp_block ?_
       refine wp_seq ?_
       refine region ?_
       obtain ⟨hi1,H⟩:=of_ite H
       obtain ⟨ad1,e1,hel1⟩:=ld_api_Field hr0_6 hi1.1 hi1.2
       refine rs (Value.pointer (some (Addr.add ad1 (y1_0.toNat*3)))) (r_indexA (sz:=3) rfl e1 rfl hi1.1 hi1.2 Tryd.runUnderlying32 Tryd.sizeOf36) ?_
       refine rs (Value.agg #[vS ((rd z_api_Field a0.vFields y1_0).vName),vI ((rd z_api_Field a0.vFields y1_0).vType),vI ((rd z_api_Field a0.vFields y1_0).vAt)]) (r_loadAgg rfl Tryd.isAgg36 (hel1.sees HS6.sees) Tryd.sizeOf36) ?_
       refine run_ex rfl rfl (does_alloc (cs:=#[vS ByteArray.empty,vI 0,vI 0]) Tryd.zeroValue36 rfl) ?_
       rintro w5 _ hE2 ⟨b3,rfl,ge2,hb2⟩
       have HS7:=HS6.new hE2 ge2 hb2
       refine run_st (i:=0) (cs:=[vS ByteArray.empty,vI 0,vI 0]) (cs':=[vS ((rd z_api_Field a0.vFields y1_0).vName),vI ((rd z_api_Field a0.vFields y1_0).vType),vI ((rd z_api_Field a0.vFields y1_0).vAt)]) (vs:=[vS ((rd z_api_Field a0.vFields y1_0).vName),vI ((rd z_api_Field a0.vFields y1_0).vType),vI ((rd z_api_Field a0.vFields y1_0).vAt)]) (bs':=[(some b3, .cells #[vS ((rd z_api_Field a0.vFields y1_0).vName),vI ((rd z_api_Field a0.vFields y1_0).vType),vI ((rd z_api_Field a0.vFields y1_0).vAt)] 36 (0,0)),(oby1_1, .cells (csy1_1).toArray 3 (0,0)),(some b1, .cells #[vI a0.vKind,vS a0.vName,vI a0.vInt.vSize,vB a0.vInt.vSigned,vI a0.vRef,vI a0.vN,vL A0_6 a0.vFields.length c0_6] 34 (0,0))]) rfl rfl Tryd.sizeOf36 rfl rfl (by decide) rfl HS7 rfl (Nat.le_of_ble_eq_true rfl) rfl rfl ?_
       intro w6 HS8
       try simp only [sc0,sc1]
       refine run_nil ?_
       refine norm_then ?_
       refine region ?_
       refine rs (vL (rowA oby1_1) y1_1.length cy1_1) (r_move rfl) ?_
       refine rs (vP b3 1) (r_fieldBox (n:=1) (o':=1) rfl Tryd.runUnderlying36 rfl Tryd.sizeOf3 (by decide) rfl) ?_
       refine rs (vI ((rd z_api_Field a0.vFields y1_0).vType)) (r_loadBox rfl Tryd.isAgg3 (HS8.look 0 rfl) rfl) ?_
       refine run_bs (Kd.int .i64) (xs:=([(rd z_api_Field a0.vFields y1_0).vType]:List Int)) (n:=1) (cs:=[vI ((rd z_api_Field a0.vFields y1_0).vType)]) Tryd.runUnderlying62 Tryd.typeInfo3 Tryd.zeroValue3 rfl rfl (by decide) (by decide) (by decide) [vI ((rd z_api_Field a0.vFields y1_0).vType)] (parts_any.trans rfl) rfl rfl rfl rfl (elems_cons (qs:=[vI ((rd z_api_Field a0.vFields y1_0).vType)]) rfl (elems_nil (cs:=[]))) HS8 ?_
       intro w7 b4 HS9 ho2
       refine run_frame (by simp only [sc0,sc1];rfl) ?_
       obtain ⟨hl1,H⟩:=of_ite H
       refine run_app (Kd.int .i64) (q:=2) (cs:=csy1_1) rfl rfl Tryd.runUnderlying62 Tryd.typeInfo3 Tryd.zeroValue3 rfl (by decide) rfl (src_row Tryd.runUnderlying62 HS9 (i:=0) rfl ho2 rfl) ho2.len (src_row_elems ho2) hl1 HS9 rfl hoy1_1 ?_
       intro w8 ob1 c5 cs1 HS10 ho3
       refine rs (vL (rowA ob1) (y1_1.length+1) c5) (r_assign rfl) ?_
       try simp only [sc0,sc1]
       refine run_nil ?_
       refine norm_block ?_
       refine norm_then ?_
       refine region ?_
       refine rs (vI (w64 (y1_0+1))) (r_bin rfl rfl rfl) ?_
       refine rs (vI (w64 (y1_0+1))) (r_move rfl) ?_
       try simp only [sc0,sc1]
       refine run_nil ?_
       refine again m [vL (rowA ob1) (y1_1.length+1) c5,vP b3 0,vI (w64 (y1_0+1)),vB (decide (y1_0<(a0.vFields.length:Int))),Value.pointer (some (Addr.add ad1 (y1_0.toNat*3))),Value.agg #[vS ((rd z_api_Field a0.vFields y1_0).vName),vI ((rd z_api_Field a0.vFields y1_0).vType),vI ((rd z_api_Field a0.vFields y1_0).vAt)],vL (rowA oby1_1) y1_1.length cy1_1,vP b3 1,vI ((rd z_api_Field a0.vFields y1_0).vType),vL (rowA (some b4)) 1 1,vL (rowA ob1) (y1_1.length+1) c5,vI (w64 (y1_0+1))] (Nat.lt_succ_self m) (by simp only [patch,sc0,sc1]) ⟨(w64 (y1_0+1)),(y1_1++([(rd z_api_Field a0.vFields y1_0).vType]:List Int)),ob1,c5,cs1,_,_,_,_,_,_,_,_,_,_,(by first|rfl|(rw [ho3.len];done)|(rw [ho3.len];rfl)),H,ho3.norm,HS10.tail.tail⟩
      ·replace H:=of_neg H (nt c4)
       refine wp_exit ?_
       refine exit_then ?_
       obtain rfl:=Option.some.inj H
       refine leave [vL (rowA oby1_1) y1_1.length cy1_1,uy1_5,vI y1_0,vB (decide (y1_0<(a0.vFields.length:Int))),uy1_21,uy1_22,uy1_23,uy1_24,uy1_25,uy1_26,uy1_27,uy1_28] (by simp only [patch,sc0,sc1]) ⟨oby1_1,cy1_1,csy1_1,_,_,_,_,_,_,_,_,_,_,_,rfl,hoy1_1.norm,HS6⟩
    ·rintro us w9 ⟨obo1_0,co1_0,cso1_0,uo1_5,uo1_19,uo1_20,uo1_21,uo1_22,uo1_23,uo1_24,uo1_25,uo1_26,uo1_27,uo1_28,rfl,hoo1_0,HS11⟩
     replace H:=G2
     clear G2
     try simp only [patch,sc0,sc1]
     refine norm_then ?_
     refine wp_seq ?_
     refine region ?_
     refine rs (vL (rowA obo1_0) xx2.length co1_0) (r_move rfl) ?_
     refine rs (vL (rowA obo1_0) xx2.length co1_0) (r_assign rfl) ?_
     try simp only [sc0,sc1]
     refine run_nil ?_
     refine norm_then ?_
     refine wp_ret ?_
     refine ret_block ?_
     refine ret_then ?_
     obtain rfl:=Option.some.inj H
     refine bodyPost_ret (results_1 rfl (one_tmp rfl)) rfl ?_
     obtain ⟨h2,HS12,hs2,rdp2⟩:=row_pub HS11 (i:=0) rfl hoo1_0
     exact ⟨h2,(rowA obo1_0),co1_0,rfl,hoo1_0.cap,rdp2,HS12.gr,HS12.sees,HS12.toE⟩
   ·replace H:=of_neg H (nt c3)
    refine wp_skip ?_
    refine norm_block ?_
    refine norm_then ?_
    refine wp_seq ?_
    refine region ?_
    refine rs (vL none 0 0) (r_assign rfl) ?_
    try simp only [sc0,sc1]
    refine run_nil ?_
    refine norm_then ?_
    refine wp_ret ?_
    obtain rfl:=Option.some.inj H
    refine bodyPost_ret (results_1 rfl (one_tmp rfl)) rfl ?_
    exact ⟨h0,none,0,rfl,(Nat.le_refl 0),(Rd.nil _ _ _),HS2.gr,HS2.sees,HS2.toE⟩

end Go.Proofs.YtfjppgobidjndaaDoor
namespace Go.Proofs.YtfjppgobidjndaaDoor
open Go.RowKit Go.M
def ctf_sizes_1.l0 (rec:Int→(List Int)→Bool→(List Bool)→(List api_Def)→Option (Int×(List Int)×Bool×(List Bool))) (x3:List api_Def) (v1:(List Int)):Nat→Int→Int→Bool→(List Int)→(List Bool)→Option (Int×Bool×(List Int)×(List Bool))
 |0,_,_,_,_,_=>none
 |m+1,y1_0,y1_1,y1_2,y1_3,y1_4=>if (decide (y1_1<(v1.length:Int)))=true then (if 0≤y1_1∧y1_1<v1.length then ((rec (rd 0 v1 y1_1) y1_3 y1_2 y1_4 x3).bind fun v2=>(ctf_sizes_1.l0 rec x3 v1 m v2.1 (IntKind.wrap .i64 (y1_1+1)) v2.2.2.1 v2.2.1 v2.2.2.2)) else none) else (some (y1_0,y1_2,y1_3,y1_4))
def ctf_sizes_1.f:Nat→Int→(List Int)→Bool→(List Bool)→(List api_Def)→Option (Int×(List Int)×Bool×(List Bool))
 |0,_,_,_,_,_=>none
 |k+1,a0,x0,x1,x2,x3=>if 0≤a0∧a0<((x0.length:Nat):Int) then (if ((decide ((rd 0 x0 a0)>0))||(!x1))=true then (if 0≤a0∧a0<((x0.length:Nat):Int) then (some ((rd 0 x0 a0),x0,x1,x2)) else none) else (if 0≤a0∧a0<((x2.length:Nat):Int) then (if (rd false x2 a0)=true then (some (0,x0,false,x2)) else (if 0≤a0∧a0<((x2.length:Nat):Int) then (if 0≤a0∧a0<x3.length then ((ctf_contained.f k (rd z_api_Def x3 a0)).bind fun v1=>((ctf_sizes_1.l0 (ctf_sizes_1.f k) x3 v1 k 0 0 x1 x0 (List.set x2 a0.toNat true)).bind fun xx1=>(if 0≤a0∧a0<((xx1.2.2.1.length:Nat):Int) then (some (((mfind ieq (mput ieq (mput ieq (mput ieq (mput ieq (mput ieq (mput ieq ([]:List (Int×Int)) 1 ((rd z_api_Def x3 a0).vInt.vSize)) 2 8) 3 (IntKind.wrap .i64 ((rd z_api_Def x3 a0).vN*xx1.1))) 4 ((rd z_api_Def x3 a0).vN)) 5 4) 6 xx1.1) ((rd z_api_Def x3 a0).vKind)).getD 0),(List.set xx1.2.2.1 a0.toNat ((mfind ieq (mput ieq (mput ieq (mput ieq (mput ieq (mput ieq (mput ieq ([]:List (Int×Int)) 1 ((rd z_api_Def x3 a0).vInt.vSize)) 2 8) 3 (IntKind.wrap .i64 ((rd z_api_Def x3 a0).vN*xx1.1))) 4 ((rd z_api_Def x3 a0).vN)) 5 4) 6 xx1.1) ((rd z_api_Def x3 a0).vKind)).getD 0)),(xx1.2.1&&(decide (((mfind ieq (mput ieq (mput ieq (mput ieq (mput ieq (mput ieq (mput ieq ([]:List (Int×Int)) 1 ((rd z_api_Def x3 a0).vInt.vSize)) 2 8) 3 (IntKind.wrap .i64 ((rd z_api_Def x3 a0).vN*xx1.1))) 4 ((rd z_api_Def x3 a0).vN)) 5 4) 6 xx1.1) ((rd z_api_Def x3 a0).vKind)).getD 0)≤512))),xx1.2.2.2)) else none))) else none) else none)) else none)) else none
set_option maxRecDepth 20000 in
set_option maxHeartbeats 4000000 in
theorem ctf_sizes_1.calls:∀(k:Nat) (a0:Int) (x0:List Int) (x1:Bool) (x2:List Bool) (x3:List api_Def) (bx0:Nat) (obx0:Option Nat) (cx0:Nat) (csx0:List Value) (bx1:Nat) (bx2:Nat) (obx2:Option Nat) (cx2:Nat) (csx2:List Value) (bx3:Nat) (Ax3:Option Addr) (cx3:Nat) (bx4:Nat) {h0:View} {w0:World} {h:View} {w:World} {rest:List Res} (HS:St [] h0 w0 h ((some bx0, .cells #[vL (rowA obx0) x0.length cx0] 62 (0,0))::(obx0, .cells (csx0).toArray 3 (0,0))::(some bx1, .cells #[vB x1] 4 (0,0))::(some bx2, .cells #[vL (rowA obx2) x2.length cx2] 112 (0,0))::(obx2, .cells (csx2).toArray 4 (0,0))::(some bx3, .cells #[vL Ax3 x3.length cx3] 24 (0,0))::(some bx4, .cells #[Value.func (.func 87) #[] #[vP bx0 0,vP bx1 0,vP bx2 0,vP bx3 0,vP bx4 0]] 147 (0,0))::rest) w) (hox0:RowOk (Kd.int .i64) h x0 obx0 x0.length cx0 csx0) (hox2:RowOk Kd.bool h x2 obx2 x2.length cx2 csx2) (hrx3:Rd k_api_Def h Ax3 x3) (hcx3:x3.length≤cx3) {r:Int×(List Int)×Bool×(List Bool)} (H:ctf_sizes_1.f k a0 x0 x1 x2 x3=some r),Calls Tryd.prog 87 #[vI a0,vP bx0 0,vP bx1 0,vP bx2 0,vP bx3 0,vP bx4 0] w (fun e w1=>∃(h1:View),∃(obz_x0:Option Nat) (cz_x0:Nat) (csz_x0:List Value),∃(obz_x2:Option Nat) (cz_x2:Nat) (csz_x2:List Value),e= .returned (vI r.1)∧RowOk (Kd.int .i64) h1 r.2.1 obz_x0 r.2.1.length cz_x0 csz_x0∧RowOk Kd.bool h1 r.2.2.2 obz_x2 r.2.2.2.length cz_x2 csz_x2∧Sub h h1∧St [] h0 w0 h1 ((some bx0, .cells #[vL (rowA obz_x0) r.2.1.length cz_x0] 62 (0,0))::(obz_x0, .cells (csz_x0).toArray 3 (0,0))::(some bx1, .cells #[vB r.2.2.1] 4 (0,0))::(some bx2, .cells #[vL (rowA obz_x2) r.2.2.2.length cz_x2] 112 (0,0))::(obz_x2, .cells (csz_x2).toArray 4 (0,0))::(some bx3, .cells #[vL Ax3 x3.length cx3] 24 (0,0))::(some bx4, .cells #[Value.func (.func 87) #[] #[vP bx0 0,vP bx1 0,vP bx2 0,vP bx3 0,vP bx4 0]] 147 (0,0))::rest) w1):=by
 intro k
 induction k with
 |zero=>
  intros
  rename_i H
  exact absurd H (by simp [ctf_sizes_1.f])
 |succ k ih=>
  intro a0 x0 x1 x2 x3 bx0 obx0 cx0 csx0 bx1 bx2 obx2 cx2 csx2 bx3 Ax3 cx3 bx4 h0 w0 h w rest HS hox0 hox2 hrx3 hcx3 r H
  rw [ctf_sizes_1.f] at H
  have hsub:Sub h h:=Sub.rfl' h
  go_enter Tryd.func87,Tryd.ntmps87
  refine wp_seq ?_
  refine region ?_
  refine rs (vI 0) (r_assign rfl) ?_
  try simp only [sc0,sc1]
  refine run_nil ?_
  refine norm_then ?_
  refine wp_seq ?_
  refine wp_seq ?_
  refine region ?_
  refine rs (vL (rowA obx0) x0.length cx0) (r_loadBox rfl Tryd.isAgg62 (HS.look 0 rfl) rfl) ?_
  refine rs (vI a0) (r_move rfl) ?_
  obtain ⟨hi1,H⟩:=of_ite H
  obtain ⟨rb1,_,hrb1,rfl,hp1⟩:=hox0.at 0 hi1.1 hi1.2
  refine rs (Value.pointer (some ⟨rb1,a0.toNat*1+0,none⟩)) (r_indexRow (sz:=1) rfl hrb1 rfl hi1.1 hi1.2 Tryd.runUnderlying62 Tryd.sizeOf3) ?_
  refine rs (vI (rd 0 x0 a0)) (r_loadBox (cs:=csx0) rfl Tryd.isAgg3 (HS.lookr 1 rfl hrb1) (hp1 0 _ rfl)) ?_
  refine run_frame (by simp only [sc0,sc1];rfl) ?_
  refine rs (vB (decide ((rd 0 x0 a0)>0))) (r_bin rfl rfl rfl) ?_
  refine rs (vB (decide ((rd 0 x0 a0)>0))) (r_move rfl) ?_
  refine rgs (decide ((rd 0 x0 a0)>0)) true (vB x1) rfl rfl rfl rfl (fun hg=>(r_loadBox rfl Tryd.isAgg4 (HS.look 2 rfl) rfl)) ?_
  refine rgs (decide ((rd 0 x0 a0)>0)) true (vB (!x1)) rfl rfl rfl rfl (fun hg=>(r_not (gvt (vB x1) hg rfl))) ?_
  refine run_frame (by simp only [sc0,sc1];rfl) ?_
  refine rs (vB ((decide ((rd 0 x0 a0)>0))||(!x1))) (r_pick_or rfl rfl (fun hp=>(gvt (vB (!x1)) (and_i rfl hp) rfl))) ?_
  try simp only [sc0,sc1]
  refine run_nil ?_
  refine norm_then ?_
  refine wp_cond_split (t:=((decide ((rd 0 x0 a0)>0))||(!x1))) rfl (fun c1=>?_) (fun c1=>?_)
  ·replace H:=of_pos H c1
   refine wp_seq ?_
   refine region ?_
   refine rs (vL (rowA obx0) x0.length cx0) (r_loadBox rfl Tryd.isAgg62 (HS.look 0 rfl) rfl) ?_
   refine rs (vI a0) (r_move rfl) ?_
   obtain ⟨hi2,H⟩:=of_ite H
   obtain ⟨rb2,_,hrb2,rfl,hp2⟩:=hox0.at 0 hi2.1 hi2.2
   refine rs (Value.pointer (some ⟨rb2,a0.toNat*1+0,none⟩)) (r_indexRow (sz:=1) rfl hrb2 rfl hi2.1 hi2.2 Tryd.runUnderlying62 Tryd.sizeOf3) ?_
   refine rs (vI (rd 0 x0 a0)) (r_loadBox (cs:=csx0) rfl Tryd.isAgg3 (HS.lookr 1 rfl hrb2) (hp2 0 _ rfl)) ?_
   refine run_frame (by simp only [sc0,sc1];rfl) ?_
   refine rs (vI (rd 0 x0 a0)) (r_assign rfl) ?_
   try simp only [sc0,sc1]
   refine run_nil ?_
   refine norm_then ?_
   refine wp_ret ?_
   refine ret_then ?_
   obtain rfl:=Option.some.inj H
   refine bodyPost_ret (results_1 rfl (one_tmp rfl)) rfl ?_
   exact ⟨h,obx0,cx0,csx0,obx2,cx2,csx2,rfl,hox0,hox2,hsub,HS⟩
  ·replace H:=of_neg H (nt c1)
   refine wp_skip ?_
   refine norm_then ?_
   refine wp_seq ?_
   refine wp_seq ?_
   refine region ?_
   refine rs (vL (rowA obx2) x2.length cx2) (r_loadBox rfl Tryd.isAgg112 (HS.look 3 rfl) rfl) ?_
   refine rs (vI a0) (r_move rfl) ?_
   obtain ⟨hi3,H⟩:=of_ite H
   obtain ⟨rb3,_,hrb3,rfl,hp3⟩:=hox2.at false hi3.1 hi3.2
   refine rs (Value.pointer (some ⟨rb3,a0.toNat*1+0,none⟩)) (r_indexRow (sz:=1) rfl hrb3 rfl hi3.1 hi3.2 Tryd.runUnderlying112 Tryd.sizeOf4) ?_
   refine rs (vB (rd false x2 a0)) (r_loadBox (cs:=csx2) rfl Tryd.isAgg4 (HS.lookr 4 rfl hrb3) (hp3 0 _ rfl)) ?_
   try simp only [sc0,sc1]
   refine run_nil ?_
   refine norm_then ?_
   refine wp_cond_split (t:=(rd false x2 a0)) rfl (fun c2=>?_) (fun c2=>?_)
   ·replace H:=of_pos H c2
    refine wp_seq ?_
    refine region ?_
    refine run_st (i:=2) (cs:=[vB x1]) (cs':=[vB false]) (vs:=[vB false]) (bs':=((some bx0, .cells #[vL (rowA obx0) x0.length cx0] 62 (0,0))::(obx0, .cells (csx0).toArray 3 (0,0))::(some bx1, .cells #[vB false] 4 (0,0))::(some bx2, .cells #[vL (rowA obx2) x2.length cx2] 112 (0,0))::(obx2, .cells (csx2).toArray 4 (0,0))::(some bx3, .cells #[vL Ax3 x3.length cx3] 24 (0,0))::(some bx4, .cells #[Value.func (.func 87) #[] #[vP bx0 0,vP bx1 0,vP bx2 0,vP bx3 0,vP bx4 0]] 147 (0,0))::rest)) rfl rfl Tryd.sizeOf4 rfl rfl (by decide) rfl HS rfl (Nat.le_of_ble_eq_true rfl) rfl rfl ?_
    intro w1 HS1
    try simp only [sc0,sc1]
    refine run_nil ?_
    refine norm_then ?_
    refine wp_seq ?_
    refine region ?_
    refine rs (vI 0) (r_assign rfl) ?_
    try simp only [sc0,sc1]
    refine run_nil ?_
    refine norm_then ?_
    refine wp_ret ?_
    refine ret_then ?_
    obtain rfl:=Option.some.inj H
    refine bodyPost_ret (results_1 rfl (one_tmp rfl)) rfl ?_
    exact ⟨h,obx0,cx0,csx0,obx2,cx2,csx2,rfl,hox0,hox2,hsub,HS1⟩
   ·replace H:=of_neg H (nt c2)
    refine wp_skip ?_
    refine norm_then ?_
    refine wp_seq ?_
    refine region ?_
    refine rs (vL (rowA obx2) x2.length cx2) (r_loadBox rfl Tryd.isAgg112 (HS.look 3 rfl) rfl) ?_
    refine rs (vI a0) (r_move rfl) ?_
    obtain ⟨hi4,H⟩:=of_ite H
    obtain ⟨rb4,_,hrb4,rfl,hp4⟩:=hox2.at false hi4.1 hi4.2
    refine rs (Value.pointer (some ⟨rb4,a0.toNat*1+0,none⟩)) (r_indexRow (sz:=1) rfl hrb4 rfl hi4.1 hi4.2 Tryd.runUnderlying112 Tryd.sizeOf4) ?_
    refine run_str (i:=4) (cs:=csx2) (v:=vB true) hrb4 rfl rfl Tryd.sizeOf4 rfl rfl HS rfl (hox2.inb hi4.1 hi4.2 (m:=1) (by decide)) ?_
    intro w2 HS2
    have ho1:=hox2.set (o:=0) (v:=vB true) (x':=true) hi4.1 hi4.2 hp4 rfl (Nat.le_of_ble_eq_true rfl)
    try simp only [sc0,sc1]
    refine run_nil ?_
    refine norm_then ?_
    refine wp_seq ?_
    refine region ?_
    refine rs (vP bx3 0) (r_fieldBox (n:=1) (o':=0) rfl Tryd.runUnderlying24 rfl Tryd.sizeOf22 (by decide) rfl) ?_
    refine rs (vL Ax3 x3.length cx3) (r_loadBox rfl Tryd.isAgg22 (HS2.look 5 rfl) rfl) ?_
    refine rs (vI a0) (r_move rfl) ?_
    obtain ⟨hi5,H⟩:=of_ite H
    obtain ⟨ad1,Aad1_6,cad1_6,e1,hel1,hcad1_6,hrad1_6⟩:=ld_api_Def hrx3 hi5.1 hi5.2
    refine rs (Value.pointer (some (Addr.add ad1 (a0.toNat*7)))) (r_indexA (sz:=7) rfl e1 rfl hi5.1 hi5.2 Tryd.runUnderlying22 Tryd.sizeOf34) ?_
    refine run_frame (by simp only [sc0,sc1];rfl) ?_
    refine rs (Value.agg #[vI ((rd z_api_Def x3 a0).vKind),vS ((rd z_api_Def x3 a0).vName),vI ((rd z_api_Def x3 a0).vInt.vSize),vB ((rd z_api_Def x3 a0).vInt.vSigned),vI ((rd z_api_Def x3 a0).vRef),vI ((rd z_api_Def x3 a0).vN),vL Aad1_6 ((rd z_api_Def x3 a0).vFields).length cad1_6]) (r_loadAgg rfl Tryd.isAgg34 (hel1.sees HS2.sees) Tryd.sizeOf34) ?_
    refine run_ex rfl rfl (does_alloc (cs:=#[vI 0,vS ByteArray.empty,vI 0,vB false,vI 0,vI 0,vL none 0 0]) Tryd.zeroValue34 rfl) ?_
    rintro w3 _ hE1 ⟨b1,rfl,ge1,hb1⟩
    have HS3:=HS2.new hE1 ge1 hb1
    refine run_st (i:=0) (cs:=[vI 0,vS ByteArray.empty,vI 0,vB false,vI 0,vI 0,vL none 0 0]) (cs':=[vI ((rd z_api_Def x3 a0).vKind),vS ((rd z_api_Def x3 a0).vName),vI ((rd z_api_Def x3 a0).vInt.vSize),vB ((rd z_api_Def x3 a0).vInt.vSigned),vI ((rd z_api_Def x3 a0).vRef),vI ((rd z_api_Def x3 a0).vN),vL Aad1_6 ((rd z_api_Def x3 a0).vFields).length cad1_6]) (vs:=[vI ((rd z_api_Def x3 a0).vKind),vS ((rd z_api_Def x3 a0).vName),vI ((rd z_api_Def x3 a0).vInt.vSize),vB ((rd z_api_Def x3 a0).vInt.vSigned),vI ((rd z_api_Def x3 a0).vRef),vI ((rd z_api_Def x3 a0).vN),vL Aad1_6 ((rd z_api_Def x3 a0).vFields).length cad1_6]) (bs':=((some b1, .cells #[vI ((rd z_api_Def x3 a0).vKind),vS ((rd z_api_Def x3 a0).vName),vI ((rd z_api_Def x3 a0).vInt.vSize),vB ((rd z_api_Def x3 a0).vInt.vSigned),vI ((rd z_api_Def x3 a0).vRef),vI ((rd z_api_Def x3 a0).vN),vL Aad1_6 ((rd z_api_Def x3 a0).vFields).length cad1_6] 34 (0,0))::(some bx0, .cells #[vL (rowA obx0) x0.length cx0] 62 (0,0))::(obx0, .cells (csx0).toArray 3 (0,0))::(some bx1, .cells #[vB x1] 4 (0,0))::(some bx2, .cells #[vL (rowA obx2) x2.length cx2] 112 (0,0))::(obx2, .cells ((List.set csx2 (a0.toNat*1+0) (vB true))).toArray 4 (0,0))::(some bx3, .cells #[vL Ax3 x3.length cx3] 24 (0,0))::(some bx4, .cells #[Value.func (.func 87) #[] #[vP bx0 0,vP bx1 0,vP bx2 0,vP bx3 0,vP bx4 0]] 147 (0,0))::rest)) rfl rfl Tryd.sizeOf34 rfl rfl (by decide) rfl HS3 rfl (Nat.le_of_ble_eq_true rfl) rfl rfl ?_
    intro w4 HS4
    try simp only [sc0,sc1]
    refine run_nil ?_
    refine norm_then ?_
    refine wp_seq ?_
    refine region ?_
    refine rs (vI 0) (r_assign rfl) ?_
    try simp only [sc0,sc1]
    refine run_nil ?_
    refine norm_then ?_
    refine wp_seq ?_
    refine wp_seq ?_
    refine region ?_
    refine rs (Value.agg #[vI ((rd z_api_Def x3 a0).vKind),vS ((rd z_api_Def x3 a0).vName),vI ((rd z_api_Def x3 a0).vInt.vSize),vB ((rd z_api_Def x3 a0).vInt.vSigned),vI ((rd z_api_Def x3 a0).vRef),vI ((rd z_api_Def x3 a0).vN),vL Aad1_6 ((rd z_api_Def x3 a0).vFields).length cad1_6]) (r_loadBoxAgg (n:=7) (vs:=[vI ((rd z_api_Def x3 a0).vKind),vS ((rd z_api_Def x3 a0).vName),vI ((rd z_api_Def x3 a0).vInt.vSize),vB ((rd z_api_Def x3 a0).vInt.vSigned),vI ((rd z_api_Def x3 a0).vRef),vI ((rd z_api_Def x3 a0).vN),vL Aad1_6 ((rd z_api_Def x3 a0).vFields).length cad1_6]) rfl Tryd.isAgg34 (HS4.look 0 rfl) Tryd.sizeOf34 rfl rfl) ?_
    obtain ⟨v1,H1,H⟩:=of_bind H
    refine run_ex rfl rfl (does_call Tryd.call88 rfl (gives_in (h:=h) (R:=(fun hx u=>∃(Av1_0_0:Option Addr) (cv1_0_0:Nat),u=vL Av1_0_0 v1.length cv1_0_0∧v1.length≤cv1_0_0∧Rd (Kd.int .i64) hx Av1_0_0 v1)) (Ext.rfl' w4) ((ctf_contained.calls k (rd z_api_Def x3 a0) Aad1_6 cad1_6 HS4.sees hrad1_6 hcad1_6 H1).mono ?_)) rfl) ?_
    ·rintro _ _ ⟨h1,Av1_0_0,cv1_0_0,rfl,hcv1_0_0,hrv1_0_0,g,ss,x⟩
     exact ⟨h1,_,rfl,⟨Av1_0_0,cv1_0_0,rfl,hcv1_0_0,hrv1_0_0⟩,g,ss,x⟩
    rintro w5 _ hE2 ⟨h1,⟨Av1_0_0,cv1_0_0,rfl,hcv1_0_0,hrv1_0_0⟩,gr1,se1⟩
    have HS5:=HS4.view hE2 gr1 se1
    replace hrx3:Rd k_api_Def h1 Ax3 x3:=hrx3.ext gr1.1
    replace hsub:Sub h h1:=hsub.then gr1.1
    replace hel1:VCells h1 (Addr.add ad1 (a0.toNat*7)) [vI ((rd z_api_Def x3 a0).vKind),vS ((rd z_api_Def x3 a0).vName),vI ((rd z_api_Def x3 a0).vInt.vSize),vB ((rd z_api_Def x3 a0).vInt.vSigned),vI ((rd z_api_Def x3 a0).vRef),vI ((rd z_api_Def x3 a0).vN),vL Aad1_6 ((rd z_api_Def x3 a0).vFields).length cad1_6]:=hel1.sub gr1.1
    replace hrad1_6:Rd k_api_Field h1 Aad1_6 ((rd z_api_Def x3 a0).vFields):=hrad1_6.ext gr1.1
    replace hox0:=hox0.view gr1.1
    replace ho1:=ho1.view gr1.1
    refine rs (vI (v1.length:Int)) (r_len rfl Tryd.runUnderlying62) ?_
    refine rs (vI 0) (r_move rfl) ?_
    try simp only [sc0,sc1]
    refine run_nil ?_
    refine norm_then ?_
    obtain ⟨xx1,H,G1⟩:=of_bind H
    have HS24:St [] h0 w0 h1 ((some b1, .cells #[vI ((rd z_api_Def x3 a0).vKind),vS ((rd z_api_Def x3 a0).vName),vI ((rd z_api_Def x3 a0).vInt.vSize),vB ((rd z_api_Def x3 a0).vInt.vSigned),vI ((rd z_api_Def x3 a0).vRef),vI ((rd z_api_Def x3 a0).vN),vL Aad1_6 ((rd z_api_Def x3 a0).vFields).length cad1_6] 34 (0,0))::(some bx0, .cells #[vL (rowA obx0) x0.length cx0] 62 (0,0))::(obx0, .cells (csx0).toArray 3 (0,0))::(some bx1, .cells #[vB x1] 4 (0,0))::(some bx2, .cells #[vL (rowA obx2) ((List.set x2 a0.toNat true).length) cx2] 112 (0,0))::(obx2, .cells ((List.set csx2 (a0.toNat*1+0) (vB true))).toArray 4 (0,0))::(some bx3, .cells #[vL Ax3 x3.length cx3] 24 (0,0))::(some bx4, .cells #[Value.func (.func 87) #[] #[vP bx0 0,vP bx1 0,vP bx2 0,vP bx3 0,vP bx4 0]] 147 (0,0))::rest) w5:=HS5.cast (by first|rfl|(rw [ho1.len];done)|(rw [ho1.len];rfl))
    have ho2:=ho1.norm
    refine loop_patch [9,11,41,42,43,44,45,46,47,48] (fun m us w'=>∃y1_0 y1_1:Int,∃y1_2:Bool,∃y1_3:List Int,∃y1_4:List Bool,∃h2:View,∃(oby1_3:Option Nat) (cy1_3:Nat),∃(csy1_3:List Value),∃(oby1_4:Option Nat) (cy1_4:Nat),∃csy1_4:List Value,∃uy1_11 uy1_42 uy1_43 uy1_44 uy1_45 uy1_46 uy1_47 uy1_48:Value,us=[vI y1_0,uy1_11,vI y1_1,uy1_42,uy1_43,uy1_44,uy1_45,uy1_46,uy1_47,uy1_48]∧ctf_sizes_1.l0 (ctf_sizes_1.f k) x3 v1 m y1_0 y1_1 y1_2 y1_3 y1_4=some xx1∧RowOk (Kd.int .i64) h2 y1_3 oby1_3 y1_3.length cy1_3 csy1_3∧RowOk Kd.bool h2 y1_4 oby1_4 y1_4.length cy1_4 csy1_4∧Rd k_api_Def h2 Ax3 x3∧Sub h h2∧VCells h2 (Addr.add ad1 (a0.toNat*7)) [vI ((rd z_api_Def x3 a0).vKind),vS ((rd z_api_Def x3 a0).vName),vI ((rd z_api_Def x3 a0).vInt.vSize),vB ((rd z_api_Def x3 a0).vInt.vSigned),vI ((rd z_api_Def x3 a0).vRef),vI ((rd z_api_Def x3 a0).vN),vL Aad1_6 ((rd z_api_Def x3 a0).vFields).length cad1_6]∧Rd k_api_Field h2 Aad1_6 ((rd z_api_Def x3 a0).vFields)∧Rd (Kd.int .i64) h2 Av1_0_0 v1∧St [] h0 w0 h2 ((some b1, .cells #[vI ((rd z_api_Def x3 a0).vKind),vS ((rd z_api_Def x3 a0).vName),vI ((rd z_api_Def x3 a0).vInt.vSize),vB ((rd z_api_Def x3 a0).vInt.vSigned),vI ((rd z_api_Def x3 a0).vRef),vI ((rd z_api_Def x3 a0).vN),vL Aad1_6 ((rd z_api_Def x3 a0).vFields).length cad1_6] 34 (0,0))::(some bx0, .cells #[vL (rowA oby1_3) y1_3.length cy1_3] 62 (0,0))::(oby1_3, .cells (csy1_3).toArray 3 (0,0))::(some bx1, .cells #[vB y1_2] 4 (0,0))::(some bx2, .cells #[vL (rowA oby1_4) y1_4.length cy1_4] 112 (0,0))::(oby1_4, .cells (csy1_4).toArray 4 (0,0))::(some bx3, .cells #[vL Ax3 x3.length cx3] 24 (0,0))::(some bx4, .cells #[Value.func (.func 87) #[] #[vP bx0 0,vP bx1 0,vP bx2 0,vP bx3 0,vP bx4 0]] 147 (0,0))::rest) w') (fun us w'=>∃(h4:View),∃(obo1_2:Option Nat) (co1_2:Nat),∃(cso1_2:List Value),∃(obo1_3:Option Nat) (co1_3:Nat),∃cso1_3:List Value,∃uo1_11 uo1_41 uo1_42 uo1_43 uo1_44 uo1_45 uo1_46 uo1_47 uo1_48:Value,us=[vI xx1.1,uo1_11,uo1_41,uo1_42,uo1_43,uo1_44,uo1_45,uo1_46,uo1_47,uo1_48]∧RowOk (Kd.int .i64) h4 xx1.2.2.1 obo1_2 xx1.2.2.1.length co1_2 cso1_2∧RowOk Kd.bool h4 xx1.2.2.2 obo1_3 xx1.2.2.2.length co1_3 cso1_3∧Rd k_api_Def h4 Ax3 x3∧Sub h h4∧VCells h4 (Addr.add ad1 (a0.toNat*7)) [vI ((rd z_api_Def x3 a0).vKind),vS ((rd z_api_Def x3 a0).vName),vI ((rd z_api_Def x3 a0).vInt.vSize),vB ((rd z_api_Def x3 a0).vInt.vSigned),vI ((rd z_api_Def x3 a0).vRef),vI ((rd z_api_Def x3 a0).vN),vL Aad1_6 ((rd z_api_Def x3 a0).vFields).length cad1_6]∧Rd k_api_Field h4 Aad1_6 ((rd z_api_Def x3 a0).vFields)∧Rd (Kd.int .i64) h4 Av1_0_0 v1∧St [] h0 w0 h4 ((some b1, .cells #[vI ((rd z_api_Def x3 a0).vKind),vS ((rd z_api_Def x3 a0).vName),vI ((rd z_api_Def x3 a0).vInt.vSize),vB ((rd z_api_Def x3 a0).vInt.vSigned),vI ((rd z_api_Def x3 a0).vRef),vI ((rd z_api_Def x3 a0).vN),vL Aad1_6 ((rd z_api_Def x3 a0).vFields).length cad1_6] 34 (0,0))::(some bx0, .cells #[vL (rowA obo1_2) xx1.2.2.1.length co1_2] 62 (0,0))::(obo1_2, .cells (cso1_2).toArray 3 (0,0))::(some bx1, .cells #[vB xx1.2.1] 4 (0,0))::(some bx2, .cells #[vL (rowA obo1_3) xx1.2.2.2.length co1_3] 112 (0,0))::(obo1_3, .cells (cso1_3).toArray 4 (0,0))::(some bx3, .cells #[vL Ax3 x3.length cx3] 24 (0,0))::(some bx4, .cells #[Value.func (.func 87) #[] #[vP bx0 0,vP bx1 0,vP bx2 0,vP bx3 0,vP bx4 0]] 147 (0,0))::rest) w') k [vI 0,undef,vI 0,undef,undef,undef,undef,undef,undef,undef] (by simp only [patch,sc0,sc1]) ⟨0,0,x1,x0,(List.set x2 a0.toNat true),h1,obx0,cx0,csx0,obx2,cx2,(List.set csx2 (a0.toNat*1+0) (vB true)),_,_,_,_,_,_,_,_,(by first|rfl|(rw [ho1.len];done)|(rw [ho1.len];rfl)),H,hox0.norm,ho2.norm,hrx3,hsub,hel1,hrad1_6,hrv1_0_0,HS24⟩ ?_ ?_
    ·rintro m us w6 ⟨y1_0,y1_1,y1_2,y1_3,y1_4,h2,oby1_3,cy1_3,csy1_3,oby1_4,cy1_4,csy1_4,uy1_11,uy1_42,uy1_43,uy1_44,uy1_45,uy1_46,uy1_47,uy1_48,rfl,H,hoy1_3,hoy1_4,hrx3,hsub,hel1,hrad1_6,hrv1_0_0,HS6⟩
     cases m with
     |zero=>exact absurd H (by simp [ctf_sizes_1.l0])
     |succ m=>
      rw [ctf_sizes_1.l0] at H
      try simp only [patch,sc0,sc1]
      refine wp_seq ?_
      refine region ?_
      refine rs (vB (decide (y1_1<(v1.length:Int)))) (r_bin rfl rfl rfl) ?_
      try simp only [sc0,sc1]
      refine run_nil ?_
      refine norm_then ?_
      refine wp_seq ?_
      refine wp_cond_split (t:=(decide (y1_1<(v1.length:Int)))) rfl (fun c3=>?_) (fun c3=>?_)
      ·replace H:=of_pos H c3
       refine wp_skip ?_
       refine norm_then ?_
       refine wp_seq ?_
       refine wp_block ?_
       refine wp_seq ?_
       refine region ?_
       obtain ⟨hi6,H⟩:=of_ite H
       obtain ⟨ad2,e2,hel2⟩:=ld_int hrv1_0_0 hi6.1 hi6.2
       refine rs (Value.pointer (some (Addr.add ad2 (y1_1.toNat*1)))) (r_indexA (sz:=1) rfl e2 rfl hi6.1 hi6.2 Tryd.runUnderlying62 Tryd.sizeOf3) ?_
       refine rs (vI (rd 0 v1 y1_1)) (r_load rfl Tryd.isAgg3 (hel2.cell0 HS6.sees rfl)) ?_
       refine rs (vI (rd 0 v1 y1_1)) (r_assign rfl) ?_
       try simp only [sc0,sc1]
       refine run_nil ?_
       refine norm_then ?_
       refine region ?_
       refine rs (Value.func (.func 87) #[] #[vP bx0 0,vP bx1 0,vP bx2 0,vP bx3 0,vP bx4 0]) (r_loadBox rfl Tryd.isAgg147 (HS6.look 7 rfl) rfl) ?_
       refine rs (vI (rd 0 v1 y1_1)) (r_move rfl) ?_
       obtain ⟨v2,H2,H⟩:=of_bind H
       have HS7:=HS6.f7
       have HS8:=HS7.f7
       have HS9:=HS8.f7
       have HS10:=HS9.f7
       have HS11:=HS10.f7
       have HS12:=HS11.f7
       have HS13:=HS12.f7
       refine run_call (vs:=[vI (rd 0 v1 y1_1)]) (caps:=[vP bx0 0,vP bx1 0,vP bx2 0,vP bx3 0,vP bx4 0]) Tryd.call87 rfl rfl (ih (rd 0 v1 y1_1) y1_3 y1_2 y1_4 x3 bx0 oby1_3 cy1_3 csy1_3 bx1 bx2 oby1_4 cy1_4 csy1_4 bx3 Ax3 cx3 bx4 HS13 hoy1_3 hoy1_4 hrx3 hcx3 H2) ?_
       rintro _ w7 ⟨h3,obv2_x0,cv2_x0,csv2_x0,obv2_x2,cv2_x2,csv2_x2,rfl,hov2_x0,hov2_x2,hs1,HS14⟩
       refine ⟨_,rfl,?_⟩
       replace hrx3:Rd k_api_Def h3 Ax3 x3:=hrx3.ext hs1
       replace hsub:Sub h h3:=hsub.then hs1
       replace hel1:VCells h3 (Addr.add ad1 (a0.toNat*7)) [vI ((rd z_api_Def x3 a0).vKind),vS ((rd z_api_Def x3 a0).vName),vI ((rd z_api_Def x3 a0).vInt.vSize),vB ((rd z_api_Def x3 a0).vInt.vSigned),vI ((rd z_api_Def x3 a0).vRef),vI ((rd z_api_Def x3 a0).vN),vL Aad1_6 ((rd z_api_Def x3 a0).vFields).length cad1_6]:=hel1.sub hs1
       replace hrad1_6:Rd k_api_Field h3 Aad1_6 ((rd z_api_Def x3 a0).vFields):=hrad1_6.ext hs1
       replace hrv1_0_0:Rd (Kd.int .i64) h3 Av1_0_0 v1:=hrv1_0_0.ext hs1
       replace hel2:VCells h3 (Addr.add ad2 (y1_1.toNat*1)) [vI (rd 0 v1 y1_1)]:=hel2.sub hs1
       have HS15:=HS14.f6
       have HS16:=HS15.f6
       have HS17:=HS16.f6
       have HS18:=HS17.f6
       have HS19:=HS18.f6
       have HS20:=HS19.f6
       have HS21:=HS20.f6
       have HS22:=HS21.f7
       refine rs (vI v2.1) (r_assign rfl) ?_
       try simp only [sc0,sc1]
       refine run_nil ?_
       refine norm_block ?_
       refine norm_then ?_
       refine region ?_
       refine rs (vI (w64 (y1_1+1))) (r_bin rfl rfl rfl) ?_
       refine rs (vI (w64 (y1_1+1))) (r_move rfl) ?_
       try simp only [sc0,sc1]
       refine run_nil ?_
       refine again m [vI v2.1,vI (rd 0 v1 y1_1),vI (w64 (y1_1+1)),vB (decide (y1_1<(v1.length:Int))),Value.pointer (some (Addr.add ad2 (y1_1.toNat*1))),vI (rd 0 v1 y1_1),Value.func (.func 87) #[] #[vP bx0 0,vP bx1 0,vP bx2 0,vP bx3 0,vP bx4 0],vI (rd 0 v1 y1_1),vI v2.1,vI (w64 (y1_1+1))] (Nat.lt_succ_self m) (by simp only [patch,sc0,sc1]) ⟨v2.1,(w64 (y1_1+1)),v2.2.2.1,v2.2.1,v2.2.2.2,h3,obv2_x0,cv2_x0,csv2_x0,obv2_x2,cv2_x2,csv2_x2,_,_,_,_,_,_,_,_,rfl,H,hov2_x0.norm,hov2_x2.norm,hrx3,hsub,hel1,hrad1_6,hrv1_0_0,HS22⟩
      ·replace H:=of_neg H (nt c3)
       refine wp_exit ?_
       refine exit_then ?_
       obtain rfl:=Option.some.inj H
       refine leave [vI y1_0,uy1_11,vI y1_1,vB (decide (y1_1<(v1.length:Int))),uy1_43,uy1_44,uy1_45,uy1_46,uy1_47,uy1_48] (by simp only [patch,sc0,sc1]) ⟨h2,oby1_3,cy1_3,csy1_3,oby1_4,cy1_4,csy1_4,_,_,_,_,_,_,_,_,_,rfl,hoy1_3.norm,hoy1_4.norm,hrx3,hsub,hel1,hrad1_6,hrv1_0_0,HS6⟩
    ·rintro us w8 ⟨h4,obo1_2,co1_2,cso1_2,obo1_3,co1_3,cso1_3,uo1_11,uo1_41,uo1_42,uo1_43,uo1_44,uo1_45,uo1_46,uo1_47,uo1_48,rfl,hoo1_2,hoo1_3,hrx3,hsub,hel1,hrad1_6,hrv1_0_0,HS23⟩
     replace H:=G1
     clear G1
     try simp only [patch,sc0,sc1]
     refine norm_then ?_
     refine wp_seq ?_
     refine region ?_
     refine run_mkmap HS23 ?_
     intro w9 b2 HS25
     refine rs (vP b1 2) (r_fieldBox (n:=2) (o':=2) rfl Tryd.runUnderlying34 rfl Tryd.sizeOf31 (by decide) rfl) ?_
     refine rs (vP b1 2) (r_fieldBox (n:=1) (o':=2) rfl Tryd.runUnderlying31 rfl Tryd.sizeOf3 (by decide) rfl) ?_
     refine rs (vI ((rd z_api_Def x3 a0).vInt.vSize)) (r_loadBox rfl Tryd.isAgg3 (HS25.look 1 rfl) rfl) ?_
     refine run_frame (by simp only [sc0,sc1];rfl) ?_
     refine mupd (key_int Tryd.runUnderlying3) (i:=0) (k:=1) (v:=((rd z_api_Def x3 a0).vInt.vSize)) (ev:=(vI)) (m:=([]:List (Int×Int))) (by first|exact .inl rfl|exact .inr rfl) rfl rfl rfl rfl rfl Tryd.runUnderlying149 HS25 rfl (MapOk.nil) ?_
     intro w10 es1 cl1 HS26 ho3
     refine mupd (key_int Tryd.runUnderlying3) (i:=0) (k:=2) (v:=8) (ev:=(vI)) (m:=(mput ieq ([]:List (Int×Int)) 1 ((rd z_api_Def x3 a0).vInt.vSize))) (by first|exact .inl rfl|exact .inr rfl) rfl rfl rfl rfl rfl Tryd.runUnderlying149 HS26 rfl ho3 ?_
     intro w11 es2 cl2 HS27 ho4
     refine rs (vP b1 5) (r_fieldBox (n:=1) (o':=5) rfl Tryd.runUnderlying34 rfl Tryd.sizeOf3 (by decide) rfl) ?_
     refine rs (vI ((rd z_api_Def x3 a0).vN)) (r_loadBox rfl Tryd.isAgg3 (HS27.look 1 rfl) rfl) ?_
     refine run_frame (by simp only [sc0,sc1];rfl) ?_
     refine rs (vI xx1.1) (r_move rfl) ?_
     refine rs (vI (w64 ((rd z_api_Def x3 a0).vN*xx1.1))) (r_bin rfl rfl rfl) ?_
     refine mupd (key_int Tryd.runUnderlying3) (i:=0) (k:=3) (v:=(w64 ((rd z_api_Def x3 a0).vN*xx1.1))) (ev:=(vI)) (m:=(mput ieq (mput ieq ([]:List (Int×Int)) 1 ((rd z_api_Def x3 a0).vInt.vSize)) 2 8)) (by first|exact .inl rfl|exact .inr rfl) rfl rfl rfl rfl rfl Tryd.runUnderlying149 HS27 rfl ho4 ?_
     intro w12 es3 cl3 HS28 ho5
     refine rs (vP b1 5) (r_fieldBox (n:=1) (o':=5) rfl Tryd.runUnderlying34 rfl Tryd.sizeOf3 (by decide) rfl) ?_
     refine run_frame (by simp only [sc0,sc1];rfl) ?_
     refine rs (vI ((rd z_api_Def x3 a0).vN)) (r_loadBox rfl Tryd.isAgg3 (HS28.look 1 rfl) rfl) ?_
     refine mupd (key_int Tryd.runUnderlying3) (i:=0) (k:=4) (v:=((rd z_api_Def x3 a0).vN)) (ev:=(vI)) (m:=(mput ieq (mput ieq (mput ieq ([]:List (Int×Int)) 1 ((rd z_api_Def x3 a0).vInt.vSize)) 2 8) 3 (w64 ((rd z_api_Def x3 a0).vN*xx1.1)))) (by first|exact .inl rfl|exact .inr rfl) rfl rfl rfl rfl rfl Tryd.runUnderlying149 HS28 rfl ho5 ?_
     intro w13 es4 cl4 HS29 ho6
     refine mupd (key_int Tryd.runUnderlying3) (i:=0) (k:=5) (v:=4) (ev:=(vI)) (m:=(mput ieq (mput ieq (mput ieq (mput ieq ([]:List (Int×Int)) 1 ((rd z_api_Def x3 a0).vInt.vSize)) 2 8) 3 (w64 ((rd z_api_Def x3 a0).vN*xx1.1))) 4 ((rd z_api_Def x3 a0).vN))) (by first|exact .inl rfl|exact .inr rfl) rfl rfl rfl rfl rfl Tryd.runUnderlying149 HS29 rfl ho6 ?_
     intro w14 es5 cl5 HS30 ho7
     refine rs (vI xx1.1) (r_move rfl) ?_
     refine run_frame (by simp only [sc0,sc1];rfl) ?_
     refine mupd (key_int Tryd.runUnderlying3) (i:=0) (k:=6) (v:=xx1.1) (ev:=(vI)) (m:=(mput ieq (mput ieq (mput ieq (mput ieq (mput ieq ([]:List (Int×Int)) 1 ((rd z_api_Def x3 a0).vInt.vSize)) 2 8) 3 (w64 ((rd z_api_Def x3 a0).vN*xx1.1))) 4 ((rd z_api_Def x3 a0).vN)) 5 4)) (by first|exact .inl rfl|exact .inr rfl) rfl rfl rfl rfl rfl Tryd.runUnderlying149 HS30 rfl ho7 ?_
     intro w15 es6 cl6 HS31 ho8
     refine rs (Value.map (some b2)) (r_move rfl) ?_
     refine rs (vP b1 0) (r_fieldBox (n:=1) (o':=0) rfl Tryd.runUnderlying34 rfl Tryd.sizeOf3 (by decide) rfl) ?_
     refine rs (vI ((rd z_api_Def x3 a0).vKind)) (r_loadBox rfl Tryd.isAgg3 (HS31.look 1 rfl) rfl) ?_
     refine run_frame (by simp only [sc0,sc1];rfl) ?_
     refine rs (vI ((mfind ieq (mput ieq (mput ieq (mput ieq (mput ieq (mput ieq (mput ieq ([]:List (Int×Int)) 1 ((rd z_api_Def x3 a0).vInt.vSize)) 2 8) 3 (w64 ((rd z_api_Def x3 a0).vN*xx1.1))) 4 ((rd z_api_Def x3 a0).vN)) 5 4) 6 xx1.1) ((rd z_api_Def x3 a0).vKind)).getD 0)) (r_mget (key_int Tryd.runUnderlying3) (k:=((rd z_api_Def x3 a0).vKind)) (m:=(mput ieq (mput ieq (mput ieq (mput ieq (mput ieq (mput ieq ([]:List (Int×Int)) 1 ((rd z_api_Def x3 a0).vInt.vSize)) 2 8) 3 (w64 ((rd z_api_Def x3 a0).vN*xx1.1))) 4 ((rd z_api_Def x3 a0).vN)) 5 4) 6 xx1.1)) (ev:=(vI)) 0 rfl rfl Tryd.runUnderlying149 Tryd.zeroValue3 (HS31.look 0 rfl) ho8) ?_
     refine rs (vI ((mfind ieq (mput ieq (mput ieq (mput ieq (mput ieq (mput ieq (mput ieq ([]:List (Int×Int)) 1 ((rd z_api_Def x3 a0).vInt.vSize)) 2 8) 3 (w64 ((rd z_api_Def x3 a0).vN*xx1.1))) 4 ((rd z_api_Def x3 a0).vN)) 5 4) 6 xx1.1) ((rd z_api_Def x3 a0).vKind)).getD 0)) (r_assign rfl) ?_
     try simp only [sc0,sc1]
     refine run_nil ?_
     refine norm_then ?_
     refine wp_seq ?_
     refine region ?_
     refine rs (vB xx1.2.1) (r_loadBox rfl Tryd.isAgg4 (HS31.look 4 rfl) rfl) ?_
     refine rs (vB xx1.2.1) (r_move rfl) ?_
     refine rgs xx1.2.1 true (vI ((mfind ieq (mput ieq (mput ieq (mput ieq (mput ieq (mput ieq (mput ieq ([]:List (Int×Int)) 1 ((rd z_api_Def x3 a0).vInt.vSize)) 2 8) 3 (w64 ((rd z_api_Def x3 a0).vN*xx1.1))) 4 ((rd z_api_Def x3 a0).vN)) 5 4) 6 xx1.1) ((rd z_api_Def x3 a0).vKind)).getD 0)) rfl rfl rfl rfl (fun hg=>(r_move rfl)) ?_
     refine rgs xx1.2.1 true (vB (decide (((mfind ieq (mput ieq (mput ieq (mput ieq (mput ieq (mput ieq (mput ieq ([]:List (Int×Int)) 1 ((rd z_api_Def x3 a0).vInt.vSize)) 2 8) 3 (w64 ((rd z_api_Def x3 a0).vN*xx1.1))) 4 ((rd z_api_Def x3 a0).vN)) 5 4) 6 xx1.1) ((rd z_api_Def x3 a0).vKind)).getD 0)≤512))) rfl rfl rfl rfl (fun hg=>(r_bin (gvt (vI ((mfind ieq (mput ieq (mput ieq (mput ieq (mput ieq (mput ieq (mput ieq ([]:List (Int×Int)) 1 ((rd z_api_Def x3 a0).vInt.vSize)) 2 8) 3 (w64 ((rd z_api_Def x3 a0).vN*xx1.1))) 4 ((rd z_api_Def x3 a0).vN)) 5 4) 6 xx1.1) ((rd z_api_Def x3 a0).vKind)).getD 0)) hg rfl) rfl rfl)) ?_
     refine run_frame (by simp only [sc0,sc1];rfl) ?_
     refine rs (vB (xx1.2.1&&(decide (((mfind ieq (mput ieq (mput ieq (mput ieq (mput ieq (mput ieq (mput ieq ([]:List (Int×Int)) 1 ((rd z_api_Def x3 a0).vInt.vSize)) 2 8) 3 (w64 ((rd z_api_Def x3 a0).vN*xx1.1))) 4 ((rd z_api_Def x3 a0).vN)) 5 4) 6 xx1.1) ((rd z_api_Def x3 a0).vKind)).getD 0)≤512)))) (r_pick_and rfl (fun hp=>(gvt (vB (decide (((mfind ieq (mput ieq (mput ieq (mput ieq (mput ieq (mput ieq (mput ieq ([]:List (Int×Int)) 1 ((rd z_api_Def x3 a0).vInt.vSize)) 2 8) 3 (w64 ((rd z_api_Def x3 a0).vN*xx1.1))) 4 ((rd z_api_Def x3 a0).vN)) 5 4) 6 xx1.1) ((rd z_api_Def x3 a0).vKind)).getD 0)≤512))) (and_i rfl hp) rfl)) rfl) ?_
     refine run_st (i:=4) (cs:=[vB xx1.2.1]) (cs':=[vB (xx1.2.1&&(decide (((mfind ieq (mput ieq (mput ieq (mput ieq (mput ieq (mput ieq (mput ieq ([]:List (Int×Int)) 1 ((rd z_api_Def x3 a0).vInt.vSize)) 2 8) 3 (w64 ((rd z_api_Def x3 a0).vN*xx1.1))) 4 ((rd z_api_Def x3 a0).vN)) 5 4) 6 xx1.1) ((rd z_api_Def x3 a0).vKind)).getD 0)≤512)))]) (vs:=[vB (xx1.2.1&&(decide (((mfind ieq (mput ieq (mput ieq (mput ieq (mput ieq (mput ieq (mput ieq ([]:List (Int×Int)) 1 ((rd z_api_Def x3 a0).vInt.vSize)) 2 8) 3 (w64 ((rd z_api_Def x3 a0).vN*xx1.1))) 4 ((rd z_api_Def x3 a0).vN)) 5 4) 6 xx1.1) ((rd z_api_Def x3 a0).vKind)).getD 0)≤512)))]) (bs':=((some b2, .map es6 cl6)::(some b1, .cells #[vI ((rd z_api_Def x3 a0).vKind),vS ((rd z_api_Def x3 a0).vName),vI ((rd z_api_Def x3 a0).vInt.vSize),vB ((rd z_api_Def x3 a0).vInt.vSigned),vI ((rd z_api_Def x3 a0).vRef),vI ((rd z_api_Def x3 a0).vN),vL Aad1_6 ((rd z_api_Def x3 a0).vFields).length cad1_6] 34 (0,0))::(some bx0, .cells #[vL (rowA obo1_2) xx1.2.2.1.length co1_2] 62 (0,0))::(obo1_2, .cells (cso1_2).toArray 3 (0,0))::(some bx1, .cells #[vB (xx1.2.1&&(decide (((mfind ieq (mput ieq (mput ieq (mput ieq (mput ieq (mput ieq (mput ieq ([]:List (Int×Int)) 1 ((rd z_api_Def x3 a0).vInt.vSize)) 2 8) 3 (w64 ((rd z_api_Def x3 a0).vN*xx1.1))) 4 ((rd z_api_Def x3 a0).vN)) 5 4) 6 xx1.1) ((rd z_api_Def x3 a0).vKind)).getD 0)≤512)))] 4 (0,0))::(some bx2, .cells #[vL (rowA obo1_3) xx1.2.2.2.length co1_3] 112 (0,0))::(obo1_3, .cells (cso1_3).toArray 4 (0,0))::(some bx3, .cells #[vL Ax3 x3.length cx3] 24 (0,0))::(some bx4, .cells #[Value.func (.func 87) #[] #[vP bx0 0,vP bx1 0,vP bx2 0,vP bx3 0,vP bx4 0]] 147 (0,0))::rest)) rfl rfl Tryd.sizeOf4 rfl rfl (by decide) rfl HS31 rfl (Nat.le_of_ble_eq_true rfl) rfl rfl ?_
     intro w16 HS32
     try simp only [sc0,sc1]
     refine run_nil ?_
     refine norm_then ?_
     refine wp_seq ?_
     refine region ?_
     refine rs (vL (rowA obo1_2) xx1.2.2.1.length co1_2) (r_loadBox rfl Tryd.isAgg62 (HS32.look 2 rfl) rfl) ?_
     refine rs (vI a0) (r_move rfl) ?_
     refine rs (vI ((mfind ieq (mput ieq (mput ieq (mput ieq (mput ieq (mput ieq (mput ieq ([]:List (Int×Int)) 1 ((rd z_api_Def x3 a0).vInt.vSize)) 2 8) 3 (w64 ((rd z_api_Def x3 a0).vN*xx1.1))) 4 ((rd z_api_Def x3 a0).vN)) 5 4) 6 xx1.1) ((rd z_api_Def x3 a0).vKind)).getD 0)) (r_move rfl) ?_
     obtain ⟨hi7,H⟩:=of_ite H
     obtain ⟨rb5,_,hrb5,rfl,hp5⟩:=hoo1_2.at 0 hi7.1 hi7.2
     refine rs (Value.pointer (some ⟨rb5,a0.toNat*1+0,none⟩)) (r_indexRow (sz:=1) rfl hrb5 rfl hi7.1 hi7.2 Tryd.runUnderlying62 Tryd.sizeOf3) ?_
     refine run_frame (by simp only [sc0,sc1];rfl) ?_
     refine run_str (i:=3) (cs:=cso1_2) (v:=vI ((mfind ieq (mput ieq (mput ieq (mput ieq (mput ieq (mput ieq (mput ieq ([]:List (Int×Int)) 1 ((rd z_api_Def x3 a0).vInt.vSize)) 2 8) 3 (w64 ((rd z_api_Def x3 a0).vN*xx1.1))) 4 ((rd z_api_Def x3 a0).vN)) 5 4) 6 xx1.1) ((rd z_api_Def x3 a0).vKind)).getD 0)) hrb5 rfl rfl Tryd.sizeOf3 rfl rfl HS32 rfl (hoo1_2.inb hi7.1 hi7.2 (m:=1) (by decide)) ?_
     intro w17 HS33
     have ho9:=hoo1_2.set (o:=0) (v:=vI ((mfind ieq (mput ieq (mput ieq (mput ieq (mput ieq (mput ieq (mput ieq ([]:List (Int×Int)) 1 ((rd z_api_Def x3 a0).vInt.vSize)) 2 8) 3 (w64 ((rd z_api_Def x3 a0).vN*xx1.1))) 4 ((rd z_api_Def x3 a0).vN)) 5 4) 6 xx1.1) ((rd z_api_Def x3 a0).vKind)).getD 0)) (x':=((mfind ieq (mput ieq (mput ieq (mput ieq (mput ieq (mput ieq (mput ieq ([]:List (Int×Int)) 1 ((rd z_api_Def x3 a0).vInt.vSize)) 2 8) 3 (w64 ((rd z_api_Def x3 a0).vN*xx1.1))) 4 ((rd z_api_Def x3 a0).vN)) 5 4) 6 xx1.1) ((rd z_api_Def x3 a0).vKind)).getD 0)) hi7.1 hi7.2 hp5 rfl (Nat.le_of_ble_eq_true rfl)
     try simp only [sc0,sc1]
     refine run_nil ?_
     refine norm_then ?_
     refine wp_seq ?_
     refine region ?_
     refine rs (vI ((mfind ieq (mput ieq (mput ieq (mput ieq (mput ieq (mput ieq (mput ieq ([]:List (Int×Int)) 1 ((rd z_api_Def x3 a0).vInt.vSize)) 2 8) 3 (w64 ((rd z_api_Def x3 a0).vN*xx1.1))) 4 ((rd z_api_Def x3 a0).vN)) 5 4) 6 xx1.1) ((rd z_api_Def x3 a0).vKind)).getD 0)) (r_move rfl) ?_
     refine rs (vI ((mfind ieq (mput ieq (mput ieq (mput ieq (mput ieq (mput ieq (mput ieq ([]:List (Int×Int)) 1 ((rd z_api_Def x3 a0).vInt.vSize)) 2 8) 3 (w64 ((rd z_api_Def x3 a0).vN*xx1.1))) 4 ((rd z_api_Def x3 a0).vN)) 5 4) 6 xx1.1) ((rd z_api_Def x3 a0).vKind)).getD 0)) (r_assign rfl) ?_
     try simp only [sc0,sc1]
     refine run_nil ?_
     refine norm_then ?_
     refine wp_ret ?_
     obtain rfl:=Option.some.inj H
     refine bodyPost_ret (results_1 rfl (one_tmp rfl)) rfl ?_
     have HS34:St [] h0 w0 h4 ((some b2, .map es6 cl6)::(some b1, .cells #[vI ((rd z_api_Def x3 a0).vKind),vS ((rd z_api_Def x3 a0).vName),vI ((rd z_api_Def x3 a0).vInt.vSize),vB ((rd z_api_Def x3 a0).vInt.vSigned),vI ((rd z_api_Def x3 a0).vRef),vI ((rd z_api_Def x3 a0).vN),vL Aad1_6 ((rd z_api_Def x3 a0).vFields).length cad1_6] 34 (0,0))::(some bx0, .cells #[vL (rowA obo1_2) ((List.set xx1.2.2.1 a0.toNat ((mfind ieq (mput ieq (mput ieq (mput ieq (mput ieq (mput ieq (mput ieq ([]:List (Int×Int)) 1 ((rd z_api_Def x3 a0).vInt.vSize)) 2 8) 3 (w64 ((rd z_api_Def x3 a0).vN*xx1.1))) 4 ((rd z_api_Def x3 a0).vN)) 5 4) 6 xx1.1) ((rd z_api_Def x3 a0).vKind)).getD 0)).length) co1_2] 62 (0,0))::(obo1_2, .cells ((List.set cso1_2 (a0.toNat*1+0) (vI ((mfind ieq (mput ieq (mput ieq (mput ieq (mput ieq (mput ieq (mput ieq ([]:List (Int×Int)) 1 ((rd z_api_Def x3 a0).vInt.vSize)) 2 8) 3 (w64 ((rd z_api_Def x3 a0).vN*xx1.1))) 4 ((rd z_api_Def x3 a0).vN)) 5 4) 6 xx1.1) ((rd z_api_Def x3 a0).vKind)).getD 0)))).toArray 3 (0,0))::(some bx1, .cells #[vB (xx1.2.1&&(decide (((mfind ieq (mput ieq (mput ieq (mput ieq (mput ieq (mput ieq (mput ieq ([]:List (Int×Int)) 1 ((rd z_api_Def x3 a0).vInt.vSize)) 2 8) 3 (w64 ((rd z_api_Def x3 a0).vN*xx1.1))) 4 ((rd z_api_Def x3 a0).vN)) 5 4) 6 xx1.1) ((rd z_api_Def x3 a0).vKind)).getD 0)≤512)))] 4 (0,0))::(some bx2, .cells #[vL (rowA obo1_3) xx1.2.2.2.length co1_3] 112 (0,0))::(obo1_3, .cells (cso1_3).toArray 4 (0,0))::(some bx3, .cells #[vL Ax3 x3.length cx3] 24 (0,0))::(some bx4, .cells #[Value.func (.func 87) #[] #[vP bx0 0,vP bx1 0,vP bx2 0,vP bx3 0,vP bx4 0]] 147 (0,0))::rest) w17:=HS33.cast (by first|rfl|(rw [ho9.len];done)|(rw [ho9.len];rfl))
     have ho10:=ho9.norm
     have HS35:=HS34.d1
     have HS36:=HS35.d0
     exact ⟨h4,obo1_2,co1_2,(List.set cso1_2 (a0.toNat*1+0) (vI ((mfind ieq (mput ieq (mput ieq (mput ieq (mput ieq (mput ieq (mput ieq ([]:List (Int×Int)) 1 ((rd z_api_Def x3 a0).vInt.vSize)) 2 8) 3 (w64 ((rd z_api_Def x3 a0).vN*xx1.1))) 4 ((rd z_api_Def x3 a0).vN)) 5 4) 6 xx1.1) ((rd z_api_Def x3 a0).vKind)).getD 0))),obo1_3,co1_3,cso1_3,rfl,ho10,hoo1_3,hsub,HS36⟩

end Go.Proofs.YtfjppgobidjndaaDoor
namespace Go.Proofs.YtfjppgobidjndaaDoor
open Go.RowKit Go.M
def ctf_sizes.l0 (k:Nat) (a0:api_Types):Nat→Int→Bool→(List Bool)→(List Int)→Option (Bool×(List Bool)×(List Int))
 |0,_,_,_,_=>none
 |m+1,y1_0,y1_1,y1_2,y1_3=>if (decide (y1_0<(a0.vDefs.length:Int)))=true then ((ctf_sizes_1.f k y1_0 y1_3 y1_1 y1_2 a0.vDefs).bind fun v1=>(ctf_sizes.l0 k a0 m (IntKind.wrap .i64 (y1_0+1)) v1.2.2.1 v1.2.2.2 v1.2.1)) else (some (y1_1,y1_2,y1_3))
def ctf_sizes.f (k:Nat) (a0:api_Types):Option ((List Int)×Bool):=if 0≤(a0.vDefs.length:Int)∧(a0.vDefs.length:Int)≤4294967296 then (if 0≤(a0.vDefs.length:Int)∧(a0.vDefs.length:Int)≤4294967296 then ((ctf_sizes.l0 k a0 k 0 true (List.replicate (a0.vDefs.length:Int).toNat (false:Bool)) (List.replicate (a0.vDefs.length:Int).toNat (0:Int))).bind fun xx1=>(some (xx1.2.2,xx1.1))) else none) else none
set_option maxRecDepth 20000 in
set_option maxHeartbeats 4000000 in
theorem ctf_sizes.calls (k:Nat) (a0:api_Types) (A0_0:Option Addr) (c0_0:Nat) {h0:View} {w0:World} (hv:Sees h0 w0) (hr0_0:Rd k_api_Def h0 A0_0 a0.vDefs) (hc0_0:a0.vDefs.length≤c0_0) {r:(List Int)×Bool} (H:ctf_sizes.f k a0=some r):Calls Tryd.prog 44 #[Value.agg #[vL A0_0 a0.vDefs.length c0_0]] w0 (fun e w1=>∃(h1:View) (A0_0:Option Addr) (c0_0:Nat),e= .returned (Value.tuple #[vL A0_0 r.1.length c0_0,vB r.2])∧r.1.length≤c0_0∧Rd (Kd.int .i64) h1 A0_0 r.1∧Gr w0.heap.size h0 h1∧Sees h1 w1∧Ext w0 w1):=by
 unfold ctf_sizes.f at H
 have HS:St [] h0 w0 h0 [] w0:=St.init hv
 go_enter Tryd.func44,Tryd.ntmps44
 refine wp_seq ?_
 refine region ?_
 refine run_ex rfl rfl (does_box (cs:=#[vL A0_0 a0.vDefs.length c0_0]) rfl rfl) ?_
 rintro w1 _ hE1 ⟨b1,rfl,ge1,hb1⟩
 have HS1:=HS.new hE1 ge1 hb1
 refine rs (vL none 0 0) (r_assign rfl) ?_
 refine rs (vB false) (r_assign rfl) ?_
 try simp only [sc0,sc1]
 refine run_nil ?_
 refine norm_then ?_
 refine wp_seq ?_
 refine region ?_
 refine rs (vP b1 0) (r_fieldBox (n:=1) (o':=0) rfl Tryd.runUnderlying24 rfl Tryd.sizeOf22 (by decide) rfl) ?_
 refine rs (vL A0_0 a0.vDefs.length c0_0) (r_loadBox rfl Tryd.isAgg22 (HS1.look 0 rfl) rfl) ?_
 refine rs (vI (a0.vDefs.length:Int)) (r_len rfl Tryd.runUnderlying22) ?_
 obtain ⟨hk1,H⟩:=of_ite H
 refine run_mk (Kd.int .i64) 0 (zs:=[vI 0]) rfl rfl hk1 Tryd.runUnderlying62 Tryd.typeInfo3 (by decide) rfl Tryd.zeroValue3 rfl rfl HS1 ?_
 intro w2 b2 cs1 HS2 ho1
 refine run_frame (by simp only [sc0,sc1];rfl) ?_
 refine run_ex rfl rfl (does_alloc (cs:=#[vL none 0 0]) Tryd.zeroValue62 rfl) ?_
 rintro w3 _ hE2 ⟨b3,rfl,ge2,hb2⟩
 have HS3:=HS2.new hE2 ge2 hb2
 refine run_st (i:=0) (cs:=[vL none 0 0]) (cs':=[vL (rowA (some b2)) ((a0.vDefs.length:Int).toNat) ((a0.vDefs.length:Int).toNat)]) (vs:=[vL (rowA (some b2)) ((a0.vDefs.length:Int).toNat) ((a0.vDefs.length:Int).toNat)]) (bs':=[(some b3, .cells #[vL (rowA (some b2)) ((a0.vDefs.length:Int).toNat) ((a0.vDefs.length:Int).toNat)] 62 (0,0)),((some b2), .cells (cs1).toArray 3 (0,0)),(some b1, .cells #[vL A0_0 a0.vDefs.length c0_0] 24 (0,0))]) rfl rfl Tryd.sizeOf62 rfl rfl (by decide) rfl HS3 rfl (Nat.le_of_ble_eq_true rfl) rfl rfl ?_
 intro w4 HS4
 try simp only [sc0,sc1]
 refine run_nil ?_
 refine norm_then ?_
 refine wp_seq ?_
 refine region ?_
 refine rs (vP b1 0) (r_fieldBox (n:=1) (o':=0) rfl Tryd.runUnderlying24 rfl Tryd.sizeOf22 (by decide) rfl) ?_
 refine rs (vL A0_0 a0.vDefs.length c0_0) (r_loadBox rfl Tryd.isAgg22 (HS4.look 2 rfl) rfl) ?_
 refine rs (vI (a0.vDefs.length:Int)) (r_len rfl Tryd.runUnderlying22) ?_
 obtain ⟨hk2,H⟩:=of_ite H
 refine run_mk Kd.bool false (zs:=[vB false]) rfl rfl hk2 Tryd.runUnderlying112 Tryd.typeInfo4 (by decide) rfl Tryd.zeroValue4 rfl rfl HS4 ?_
 intro w5 b4 cs2 HS5 ho2
 refine run_frame (by simp only [sc0,sc1];rfl) ?_
 refine run_ex rfl rfl (does_alloc (cs:=#[vL none 0 0]) Tryd.zeroValue112 rfl) ?_
 rintro w6 _ hE3 ⟨b5,rfl,ge3,hb3⟩
 have HS6:=HS5.new hE3 ge3 hb3
 refine run_st (i:=0) (cs:=[vL none 0 0]) (cs':=[vL (rowA (some b4)) ((a0.vDefs.length:Int).toNat) ((a0.vDefs.length:Int).toNat)]) (vs:=[vL (rowA (some b4)) ((a0.vDefs.length:Int).toNat) ((a0.vDefs.length:Int).toNat)]) (bs':=[(some b5, .cells #[vL (rowA (some b4)) ((a0.vDefs.length:Int).toNat) ((a0.vDefs.length:Int).toNat)] 112 (0,0)),((some b4), .cells (cs2).toArray 4 (0,0)),(some b3, .cells #[vL (rowA (some b2)) ((a0.vDefs.length:Int).toNat) ((a0.vDefs.length:Int).toNat)] 62 (0,0)),((some b2), .cells (cs1).toArray 3 (0,0)),(some b1, .cells #[vL A0_0 a0.vDefs.length c0_0] 24 (0,0))]) rfl rfl Tryd.sizeOf112 rfl rfl (by decide) rfl HS6 rfl (Nat.le_of_ble_eq_true rfl) rfl rfl ?_
 intro w7 HS7
 try simp only [sc0,sc1]
 refine run_nil ?_
 refine norm_then ?_
 refine wp_seq ?_
 refine region ?_
 refine run_ex rfl rfl (does_alloc (cs:=#[vB false]) Tryd.zeroValue4 rfl) ?_
 rintro w8 _ hE4 ⟨b6,rfl,ge4,hb4⟩
 have HS8:=HS7.new hE4 ge4 hb4
 refine run_st (i:=0) (cs:=[vB false]) (cs':=[vB true]) (vs:=[vB true]) (bs':=[(some b6, .cells #[vB true] 4 (0,0)),(some b5, .cells #[vL (rowA (some b4)) ((a0.vDefs.length:Int).toNat) ((a0.vDefs.length:Int).toNat)] 112 (0,0)),((some b4), .cells (cs2).toArray 4 (0,0)),(some b3, .cells #[vL (rowA (some b2)) ((a0.vDefs.length:Int).toNat) ((a0.vDefs.length:Int).toNat)] 62 (0,0)),((some b2), .cells (cs1).toArray 3 (0,0)),(some b1, .cells #[vL A0_0 a0.vDefs.length c0_0] 24 (0,0))]) rfl rfl Tryd.sizeOf4 rfl rfl (by decide) rfl HS8 rfl (Nat.le_of_ble_eq_true rfl) rfl rfl ?_
 intro w9 HS9
 try simp only [sc0,sc1]
 refine run_nil ?_
 refine norm_then ?_
 refine wp_seq ?_
 refine region ?_
 refine run_ex rfl rfl (does_alloc (cs:=#[Value.nilFunc]) Tryd.zeroValue147 rfl) ?_
 rintro w10 _ hE5 ⟨b7,rfl,ge5,hb5⟩
 have HS10:=HS9.new hE5 ge5 hb5
 try simp only [sc0,sc1]
 refine run_nil ?_
 refine norm_then ?_
 refine wp_seq ?_
 refine region ?_
 refine rs (Value.func (.func 87) #[] #[vP b3 0,vP b6 0,vP b5 0,vP b1 0,vP b7 0]) (r_makeFunc (vs:=[vP b3 0,vP b6 0,vP b5 0,vP b1 0,vP b7 0]) rfl) ?_
 refine run_st (i:=0) (cs:=[Value.nilFunc]) (cs':=[Value.func (.func 87) #[] #[vP b3 0,vP b6 0,vP b5 0,vP b1 0,vP b7 0]]) (vs:=[Value.func (.func 87) #[] #[vP b3 0,vP b6 0,vP b5 0,vP b1 0,vP b7 0]]) (bs':=[(some b7, .cells #[Value.func (.func 87) #[] #[vP b3 0,vP b6 0,vP b5 0,vP b1 0,vP b7 0]] 147 (0,0)),(some b6, .cells #[vB true] 4 (0,0)),(some b5, .cells #[vL (rowA (some b4)) ((a0.vDefs.length:Int).toNat) ((a0.vDefs.length:Int).toNat)] 112 (0,0)),((some b4), .cells (cs2).toArray 4 (0,0)),(some b3, .cells #[vL (rowA (some b2)) ((a0.vDefs.length:Int).toNat) ((a0.vDefs.length:Int).toNat)] 62 (0,0)),((some b2), .cells (cs1).toArray 3 (0,0)),(some b1, .cells #[vL A0_0 a0.vDefs.length c0_0] 24 (0,0))]) rfl rfl Tryd.sizeOf147 rfl rfl (by decide) rfl HS10 rfl (Nat.le_of_ble_eq_true rfl) rfl rfl ?_
 intro w11 HS11
 try simp only [sc0,sc1]
 refine run_nil ?_
 refine norm_then ?_
 refine wp_seq ?_
 refine wp_seq ?_
 refine region ?_
 refine rs (vP b1 0) (r_fieldBox (n:=1) (o':=0) rfl Tryd.runUnderlying24 rfl Tryd.sizeOf22 (by decide) rfl) ?_
 refine rs (vL A0_0 a0.vDefs.length c0_0) (r_loadBox rfl Tryd.isAgg22 (HS11.look 6 rfl) rfl) ?_
 refine rs (vI (a0.vDefs.length:Int)) (r_len rfl Tryd.runUnderlying22) ?_
 refine rs (vI 0) (r_move rfl) ?_
 try simp only [sc0,sc1]
 refine run_nil ?_
 refine norm_then ?_
 obtain ⟨xx1,H,G1⟩:=of_bind H
 have HS28:St [] h0 w0 h0 [(some b7, .cells #[Value.func (.func 87) #[] #[vP b3 0,vP b6 0,vP b5 0,vP b1 0,vP b7 0]] 147 (0,0)),(some b6, .cells #[vB true] 4 (0,0)),(some b5, .cells #[vL (rowA (some b4)) ((List.replicate (a0.vDefs.length:Int).toNat (false:Bool)).length) ((a0.vDefs.length:Int).toNat)] 112 (0,0)),((some b4), .cells (cs2).toArray 4 (0,0)),(some b3, .cells #[vL (rowA (some b2)) ((List.replicate (a0.vDefs.length:Int).toNat (0:Int)).length) ((a0.vDefs.length:Int).toNat)] 62 (0,0)),((some b2), .cells (cs1).toArray 3 (0,0)),(some b1, .cells #[vL A0_0 a0.vDefs.length c0_0] 24 (0,0))] w11:=HS11.cast (by first|rfl|(rw [ho2.len,ho1.len];done)|(rw [ho2.len,ho1.len];rfl))
 have ho3:=ho2.norm
 have ho4:=ho1.norm
 refine loop_patch [8,21,22,23,24,25,26,27] (fun m us w'=>∃y1_0:Int,∃y1_1:Bool,∃y1_2:List Bool,∃y1_3:List Int,∃h1:View,∃(oby1_2:Option Nat) (cy1_2:Nat),∃(csy1_2:List Value),∃(oby1_3:Option Nat) (cy1_3:Nat),∃csy1_3:List Value,∃uy1_8 uy1_22 uy1_23 uy1_24 uy1_25 uy1_26 uy1_27:Value,us=[uy1_8,vI y1_0,uy1_22,uy1_23,uy1_24,uy1_25,uy1_26,uy1_27]∧ctf_sizes.l0 k a0 m y1_0 y1_1 y1_2 y1_3=some xx1∧RowOk Kd.bool h1 y1_2 oby1_2 y1_2.length cy1_2 csy1_2∧RowOk (Kd.int .i64) h1 y1_3 oby1_3 y1_3.length cy1_3 csy1_3∧St [] h0 w0 h1 [(some b7, .cells #[Value.func (.func 87) #[] #[vP b3 0,vP b6 0,vP b5 0,vP b1 0,vP b7 0]] 147 (0,0)),(some b6, .cells #[vB y1_1] 4 (0,0)),(some b5, .cells #[vL (rowA oby1_2) y1_2.length cy1_2] 112 (0,0)),(oby1_2, .cells (csy1_2).toArray 4 (0,0)),(some b3, .cells #[vL (rowA oby1_3) y1_3.length cy1_3] 62 (0,0)),(oby1_3, .cells (csy1_3).toArray 3 (0,0)),(some b1, .cells #[vL A0_0 a0.vDefs.length c0_0] 24 (0,0))] w') (fun us w'=>∃(h3:View),∃(obo1_1:Option Nat) (co1_1:Nat),∃(cso1_1:List Value),∃(obo1_2:Option Nat) (co1_2:Nat),∃cso1_2:List Value,∃uo1_8 uo1_21 uo1_22 uo1_23 uo1_24 uo1_25 uo1_26 uo1_27:Value,us=[uo1_8,uo1_21,uo1_22,uo1_23,uo1_24,uo1_25,uo1_26,uo1_27]∧RowOk Kd.bool h3 xx1.2.1 obo1_1 xx1.2.1.length co1_1 cso1_1∧RowOk (Kd.int .i64) h3 xx1.2.2 obo1_2 xx1.2.2.length co1_2 cso1_2∧St [] h0 w0 h3 [(some b7, .cells #[Value.func (.func 87) #[] #[vP b3 0,vP b6 0,vP b5 0,vP b1 0,vP b7 0]] 147 (0,0)),(some b6, .cells #[vB xx1.1] 4 (0,0)),(some b5, .cells #[vL (rowA obo1_1) xx1.2.1.length co1_1] 112 (0,0)),(obo1_1, .cells (cso1_1).toArray 4 (0,0)),(some b3, .cells #[vL (rowA obo1_2) xx1.2.2.length co1_2] 62 (0,0)),(obo1_2, .cells (cso1_2).toArray 3 (0,0)),(some b1, .cells #[vL A0_0 a0.vDefs.length c0_0] 24 (0,0))] w') k [undef,vI 0,undef,undef,undef,undef,undef,undef] (by simp only [patch,sc0,sc1]) ⟨0,true,(List.replicate (a0.vDefs.length:Int).toNat (false:Bool)),(List.replicate (a0.vDefs.length:Int).toNat (0:Int)),h0,(some b4),(a0.vDefs.length:Int).toNat,cs2,(some b2),(a0.vDefs.length:Int).toNat,cs1,_,_,_,_,_,_,_,(by first|rfl|(rw [ho2.len,ho1.len];done)|(rw [ho2.len,ho1.len];rfl)),H,ho3.norm,ho4.norm,HS28⟩ ?_ ?_
 ·rintro m us w12 ⟨y1_0,y1_1,y1_2,y1_3,h1,oby1_2,cy1_2,csy1_2,oby1_3,cy1_3,csy1_3,uy1_8,uy1_22,uy1_23,uy1_24,uy1_25,uy1_26,uy1_27,rfl,H,hoy1_2,hoy1_3,HS12⟩
  cases m with
  |zero=>exact absurd H (by simp [ctf_sizes.l0])
  |succ m=>
   rw [ctf_sizes.l0] at H
   try simp only [patch,sc0,sc1]
   refine wp_seq ?_
   refine region ?_
   refine rs (vB (decide (y1_0<(a0.vDefs.length:Int)))) (r_bin rfl rfl rfl) ?_
   try simp only [sc0,sc1]
   refine run_nil ?_
   refine norm_then ?_
   refine wp_seq ?_
   refine wp_cond_split (t:=(decide (y1_0<(a0.vDefs.length:Int)))) rfl (fun c1=>?_) (fun c1=>?_)
   ·replace H:=of_pos H c1
    refine wp_skip ?_
    refine norm_then ?_
    refine wp_seq ?_
    refine wp_block ?_
    refine wp_seq ?_
    refine region ?_
    refine rs (vI y1_0) (r_move rfl) ?_
    refine rs (vI y1_0) (r_assign rfl) ?_
    try simp only [sc0,sc1]
    refine run_nil ?_
    refine norm_then ?_
    refine region ?_
    refine rs (Value.func (.func 87) #[] #[vP b3 0,vP b6 0,vP b5 0,vP b1 0,vP b7 0]) (r_loadBox rfl Tryd.isAgg147 (HS12.look 0 rfl) rfl) ?_
    refine rs (vI y1_0) (r_move rfl) ?_
    obtain ⟨v1,H1,H⟩:=of_bind H
    have HS13:=HS12.f6
    have HS14:=HS13.f4
    have HS15:=HS14.f4
    have HS16:=HS15.f4
    have HS17:=HS16.f6
    have HS18:=HS17.f6
    refine run_call (vs:=[vI y1_0]) (caps:=[vP b3 0,vP b6 0,vP b5 0,vP b1 0,vP b7 0]) Tryd.call87 rfl rfl (ctf_sizes_1.calls k y1_0 y1_3 y1_1 y1_2 a0.vDefs b3 oby1_3 cy1_3 csy1_3 b6 b5 oby1_2 cy1_2 csy1_2 b1 A0_0 c0_0 b7 HS18 hoy1_3 hoy1_2 (hr0_0.ext HS18.sub) hc0_0 H1) ?_
    rintro _ w13 ⟨h2,obv1_x0,cv1_x0,csv1_x0,obv1_x2,cv1_x2,csv1_x2,rfl,hov1_x0,hov1_x2,hs1,HS19⟩
    refine ⟨_,rfl,?_⟩
    have HS20:=HS19.f5
    have HS21:=HS20.f2
    have HS22:=HS21.f2
    have HS23:=HS22.f5
    have HS24:=HS23.f5
    have HS25:=HS24.f5
    have HS26:=HS25.f6
    try simp only [sc0,sc1]
    refine run_nil ?_
    refine norm_block ?_
    refine norm_then ?_
    refine region ?_
    refine rs (vI (w64 (y1_0+1))) (r_bin rfl rfl rfl) ?_
    refine rs (vI (w64 (y1_0+1))) (r_move rfl) ?_
    try simp only [sc0,sc1]
    refine run_nil ?_
    refine again m [vI y1_0,vI (w64 (y1_0+1)),vB (decide (y1_0<(a0.vDefs.length:Int))),vI y1_0,Value.func (.func 87) #[] #[vP b3 0,vP b6 0,vP b5 0,vP b1 0,vP b7 0],vI y1_0,vI v1.1,vI (w64 (y1_0+1))] (Nat.lt_succ_self m) (by simp only [patch,sc0,sc1]) ⟨(w64 (y1_0+1)),v1.2.2.1,v1.2.2.2,v1.2.1,h2,obv1_x2,cv1_x2,csv1_x2,obv1_x0,cv1_x0,csv1_x0,_,_,_,_,_,_,_,rfl,H,hov1_x2.norm,hov1_x0.norm,HS26⟩
   ·replace H:=of_neg H (nt c1)
    refine wp_exit ?_
    refine exit_then ?_
    obtain rfl:=Option.some.inj H
    refine leave [uy1_8,vI y1_0,vB (decide (y1_0<(a0.vDefs.length:Int))),uy1_23,uy1_24,uy1_25,uy1_26,uy1_27] (by simp only [patch,sc0,sc1]) ⟨h1,oby1_2,cy1_2,csy1_2,oby1_3,cy1_3,csy1_3,_,_,_,_,_,_,_,_,rfl,hoy1_2.norm,hoy1_3.norm,HS12⟩
 ·rintro us w14 ⟨h3,obo1_1,co1_1,cso1_1,obo1_2,co1_2,cso1_2,uo1_8,uo1_21,uo1_22,uo1_23,uo1_24,uo1_25,uo1_26,uo1_27,rfl,hoo1_1,hoo1_2,HS27⟩
  replace H:=G1
  clear G1
  try simp only [patch,sc0,sc1]
  refine norm_then ?_
  refine wp_seq ?_
  refine drawn [.eq (vL (rowA obo1_2) xx1.2.2.length co1_2), .eq (vB xx1.1), .eq (vL (rowA obo1_2) xx1.2.2.length co1_2)] [28,29,2] hmix (by kernel_rfl) rfl (stable_eq (stable_eq (stable_eq stable_nil))) ⟨ob_plain rfl (fun a' w' hE hk=>by have HSd:=HS27.step hE;exact does_eq (r_loadBox (show _=vP b3 0 from hk 4 rfl) Tryd.isAgg62 (HSd.look 4 rfl) rfl)),ob_plain rfl (fun a' w' hE hk=>by have HSd:=HS27.step hE;exact does_eq (r_loadBox (show _=vP b6 0 from hk 6 rfl) Tryd.isAgg4 (HSd.look 1 rfl) rfl)),ob_plain rfl (fun a' w' hE hk=>by have HSd:=HS27.step hE;exact does_eq (r_assign (show _=vL (rowA obo1_2) xx1.2.2.length co1_2 from hk 28 rfl))),trivial⟩ ?_
  intro w15 hE6
  simp only [List.zip_cons_cons,List.zip_nil_left,List.zip_nil_right,finL,sc0,sc1,List.length_cons,List.length_nil,List.drop_succ_cons,List.drop_zero,Nat.zero_add,Nat.reduceAdd]
  have HS29:=HS27.step hE6
  refine rs (vB xx1.1) (r_assign rfl) ?_
  try simp only [sc0,sc1]
  refine run_nil ?_
  refine norm_then ?_
  refine wp_ret ?_
  obtain rfl:=Option.some.inj H
  refine bodyPost_ret (results_2 rfl (one_tmp rfl) (one_tmp rfl)) rfl ?_
  obtain ⟨h4,HS30,hs2,rdp1⟩:=row_pub HS29 (i:=5) rfl hoo1_2
  replace hoo1_1:=hoo1_1.view hs2
  exact ⟨h4,(rowA obo1_2),co1_2,rfl,hoo1_2.cap,rdp1,HS30.gr,HS30.sees,HS30.toE⟩

end Go.Proofs.YtfjppgobidjndaaDoor
namespace Go.Proofs.YtfjppgobidjndaaDoor
open Go.RowKit Go.M
def ctf_named.f (a0:api_Def):Option (Bool):=some ((a0.vKind !=2)&&(a0.vKind !=3))
set_option maxRecDepth 20000 in
set_option maxHeartbeats 4000000 in
theorem ctf_named.calls (a0:api_Def) (A0_6:Option Addr) (c0_6:Nat) {h0:View} {w0:World} (hv:Sees h0 w0) (hr0_6:Rd k_api_Field h0 A0_6 a0.vFields) (hc0_6:a0.vFields.length≤c0_6) {r:Bool} (H:ctf_named.f a0=some r):Calls Tryd.prog 68 #[Value.agg #[vI a0.vKind,vS a0.vName,vI a0.vInt.vSize,vB a0.vInt.vSigned,vI a0.vRef,vI a0.vN,vL A0_6 a0.vFields.length c0_6]] w0 (fun e w1=>e= .returned (vB r)∧Ext w0 w1):=by
 unfold ctf_named.f at H
 have HS:St [] h0 w0 h0 [] w0:=St.init hv
 go_enter Tryd.func68,Tryd.ntmps68
 refine wp_seq ?_
 refine region ?_
 refine run_ex rfl rfl (does_box (cs:=#[vI a0.vKind,vS a0.vName,vI a0.vInt.vSize,vB a0.vInt.vSigned,vI a0.vRef,vI a0.vN,vL A0_6 a0.vFields.length c0_6]) rfl rfl) ?_
 rintro w1 _ hE1 ⟨b1,rfl,ge1,hb1⟩
 have HS1:=HS.new hE1 ge1 hb1
 refine rs (vB false) (r_assign rfl) ?_
 try simp only [sc0,sc1]
 refine run_nil ?_
 refine norm_then ?_
 refine wp_seq ?_
 refine region ?_
 refine rs (vP b1 0) (r_fieldBox (n:=1) (o':=0) rfl Tryd.runUnderlying34 rfl Tryd.sizeOf3 (by decide) rfl) ?_
 refine rs (vI a0.vKind) (r_loadBox rfl Tryd.isAgg3 (HS1.look 0 rfl) rfl) ?_
 refine rs (vB (a0.vKind !=2)) (r_bin rfl rfl rfl) ?_
 refine rs (vB (a0.vKind !=2)) (r_move rfl) ?_
 refine run_frame (by simp only [sc0,sc1];rfl) ?_
 refine rgs (a0.vKind !=2) true (vP b1 0) rfl rfl rfl rfl (fun hg=>(r_fieldBox (n:=1) (o':=0) rfl Tryd.runUnderlying34 rfl Tryd.sizeOf3 (by decide) rfl)) ?_
 refine rgs (a0.vKind !=2) true (vI a0.vKind) rfl rfl rfl rfl (fun hg=>(r_loadBox (gvt (vP b1 0) hg rfl) Tryd.isAgg3 (HS1.look 0 rfl) rfl)) ?_
 refine rgs (a0.vKind !=2) true (vB (a0.vKind !=3)) rfl rfl rfl rfl (fun hg=>(r_bin (gvt (vI a0.vKind) hg rfl) rfl rfl)) ?_
 refine rs (vB ((a0.vKind !=2)&&(a0.vKind !=3))) (r_pick_and rfl (fun hp=>(gvt (vB (a0.vKind !=3)) (and_i rfl hp) rfl)) rfl) ?_
 refine run_frame (by simp only [sc0,sc1];rfl) ?_
 refine rs (vB ((a0.vKind !=2)&&(a0.vKind !=3))) (r_assign rfl) ?_
 try simp only [sc0,sc1]
 refine run_nil ?_
 refine norm_then ?_
 refine wp_ret ?_
 obtain rfl:=Option.some.inj H
 refine bodyPost_ret (results_1 rfl (one_tmp rfl)) rfl ?_
 exact ⟨rfl,HS1.toE⟩

end Go.Proofs.YtfjppgobidjndaaDoor
namespace Go.Proofs.YtfjppgobidjndaaDoor
open Go.RowKit Go.M
def ctf_shapes.f:Option ((List (Int×ctf_shape))):=some (mput ieq (mput ieq (mput ieq (mput ieq (mput ieq (mput ieq ([]:List (Int×ctf_shape)) 1 (⟨true,true,false,false,false⟩:ctf_shape)) 2 (⟨false,false,true,false,false⟩:ctf_shape)) 3 (⟨false,false,true,true,false⟩:ctf_shape)) 4 (⟨true,false,false,true,true⟩:ctf_shape)) 5 (⟨true,false,false,false,true⟩:ctf_shape)) 6 (⟨true,false,true,false,false⟩:ctf_shape))
set_option maxRecDepth 20000 in
set_option maxHeartbeats 4000000 in
theorem ctf_shapes.calls {h0:View} {w0:World} (hv:Sees h0 w0) {r:(List (Int×ctf_shape))} (H:ctf_shapes.f=some r):Calls Tryd.prog 116 #[] w0 (fun e w1=>∃(b:Nat) (es:Array MapEntry) (cl:Nat),e= .returned (.map (some b))∧(w0.heap.size≤b∧w1.heap[b]?=some (.map es cl))∧MapOk (vI) e_ctf_shape r es cl∧Ext w0 w1):=by
 unfold ctf_shapes.f at H
 have HS:St [] h0 w0 h0 [] w0:=St.init hv
 go_enter Tryd.func116,Tryd.ntmps116
 refine wp_seq ?_
 refine region ?_
 refine rs (Value.map none) (r_assign rfl) ?_
 try simp only [sc0,sc1]
 refine run_nil ?_
 refine norm_then ?_
 refine wp_seq ?_
 refine region ?_
 refine run_mkmap HS ?_
 intro w1 b1 HS1
 refine rs (Value.agg #[vB true,vB true,vB false,vB false,vB false]) (r_build (cs:=[vB true,vB true,vB false,vB false,vB false]) (ps:=[(0,vB true),(1,vB true)]) Tryd.zeroValue171 Tryd.runUnderlying171 (pl:=#[(0,1),(1,1),(2,1),(3,1),(4,1)]) (fun w=>by simp [Tryd.sizeOf4]) (parts_2 (show _=vB true from rfl) (show _=vB true from rfl)) rfl) ?_
 refine mupd (key_int Tryd.runUnderlying3) (i:=0) (k:=1) (v:=(⟨true,true,false,false,false⟩:ctf_shape)) (ev:=e_ctf_shape) (m:=([]:List (Int×ctf_shape))) (by first|exact .inl rfl|exact .inr rfl) rfl rfl rfl rfl rfl Tryd.runUnderlying172 HS1 rfl (MapOk.nil) ?_
 intro w2 es1 cl1 HS2 ho1
 refine rs (Value.agg #[vB false,vB false,vB true,vB false,vB false]) (r_build (cs:=[vB false,vB false,vB true,vB false,vB false]) (ps:=[(2,vB true)]) Tryd.zeroValue171 Tryd.runUnderlying171 (pl:=#[(0,1),(1,1),(2,1),(3,1),(4,1)]) (fun w=>by simp [Tryd.sizeOf4]) (parts_1 (show _=vB true from rfl)) rfl) ?_
 refine run_frame (by simp only [sc0,sc1];rfl) ?_
 refine mupd (key_int Tryd.runUnderlying3) (i:=0) (k:=2) (v:=(⟨false,false,true,false,false⟩:ctf_shape)) (ev:=e_ctf_shape) (m:=(mput ieq ([]:List (Int×ctf_shape)) 1 (⟨true,true,false,false,false⟩:ctf_shape))) (by first|exact .inl rfl|exact .inr rfl) rfl rfl rfl rfl rfl Tryd.runUnderlying172 HS2 rfl ho1 ?_
 intro w3 es2 cl2 HS3 ho2
 refine rs (Value.agg #[vB false,vB false,vB true,vB true,vB false]) (r_build (cs:=[vB false,vB false,vB true,vB true,vB false]) (ps:=[(2,vB true),(3,vB true)]) Tryd.zeroValue171 Tryd.runUnderlying171 (pl:=#[(0,1),(1,1),(2,1),(3,1),(4,1)]) (fun w=>by simp [Tryd.sizeOf4]) (parts_2 (show _=vB true from rfl) (show _=vB true from rfl)) rfl) ?_
 refine mupd (key_int Tryd.runUnderlying3) (i:=0) (k:=3) (v:=(⟨false,false,true,true,false⟩:ctf_shape)) (ev:=e_ctf_shape) (m:=(mput ieq (mput ieq ([]:List (Int×ctf_shape)) 1 (⟨true,true,false,false,false⟩:ctf_shape)) 2 (⟨false,false,true,false,false⟩:ctf_shape))) (by first|exact .inl rfl|exact .inr rfl) rfl rfl rfl rfl rfl Tryd.runUnderlying172 HS3 rfl ho2 ?_
 intro w4 es3 cl3 HS4 ho3
 refine rs (Value.agg #[vB true,vB false,vB false,vB true,vB true]) (r_build (cs:=[vB true,vB false,vB false,vB true,vB true]) (ps:=[(0,vB true),(3,vB true),(4,vB true)]) Tryd.zeroValue171 Tryd.runUnderlying171 (pl:=#[(0,1),(1,1),(2,1),(3,1),(4,1)]) (fun w=>by simp [Tryd.sizeOf4]) (parts_3 (show _=vB true from rfl) (show _=vB true from rfl) (show _=vB true from rfl)) rfl) ?_
 refine run_frame (by simp only [sc0,sc1];rfl) ?_
 refine mupd (key_int Tryd.runUnderlying3) (i:=0) (k:=4) (v:=(⟨true,false,false,true,true⟩:ctf_shape)) (ev:=e_ctf_shape) (m:=(mput ieq (mput ieq (mput ieq ([]:List (Int×ctf_shape)) 1 (⟨true,true,false,false,false⟩:ctf_shape)) 2 (⟨false,false,true,false,false⟩:ctf_shape)) 3 (⟨false,false,true,true,false⟩:ctf_shape))) (by first|exact .inl rfl|exact .inr rfl) rfl rfl rfl rfl rfl Tryd.runUnderlying172 HS4 rfl ho3 ?_
 intro w5 es4 cl4 HS5 ho4
 refine rs (Value.agg #[vB true,vB false,vB false,vB false,vB true]) (r_build (cs:=[vB true,vB false,vB false,vB false,vB true]) (ps:=[(0,vB true),(4,vB true)]) Tryd.zeroValue171 Tryd.runUnderlying171 (pl:=#[(0,1),(1,1),(2,1),(3,1),(4,1)]) (fun w=>by simp [Tryd.sizeOf4]) (parts_2 (show _=vB true from rfl) (show _=vB true from rfl)) rfl) ?_
 refine mupd (key_int Tryd.runUnderlying3) (i:=0) (k:=5) (v:=(⟨true,false,false,false,true⟩:ctf_shape)) (ev:=e_ctf_shape) (m:=(mput ieq (mput ieq (mput ieq (mput ieq ([]:List (Int×ctf_shape)) 1 (⟨true,true,false,false,false⟩:ctf_shape)) 2 (⟨false,false,true,false,false⟩:ctf_shape)) 3 (⟨false,false,true,true,false⟩:ctf_shape)) 4 (⟨true,false,false,true,true⟩:ctf_shape))) (by first|exact .inl rfl|exact .inr rfl) rfl rfl rfl rfl rfl Tryd.runUnderlying172 HS5 rfl ho4 ?_
 intro w6 es5 cl5 HS6 ho5
 refine rs (Value.agg #[vB true,vB false,vB true,vB false,vB false]) (r_build (cs:=[vB true,vB false,vB true,vB false,vB false]) (ps:=[(0,vB true),(2,vB true)]) Tryd.zeroValue171 Tryd.runUnderlying171 (pl:=#[(0,1),(1,1),(2,1),(3,1),(4,1)]) (fun w=>by simp [Tryd.sizeOf4]) (parts_2 (show _=vB true from rfl) (show _=vB true from rfl)) rfl) ?_
 refine run_frame (by simp only [sc0,sc1];rfl) ?_
 refine mupd (key_int Tryd.runUnderlying3) (i:=0) (k:=6) (v:=(⟨true,false,true,false,false⟩:ctf_shape)) (ev:=e_ctf_shape) (m:=(mput ieq (mput ieq (mput ieq (mput ieq (mput ieq ([]:List (Int×ctf_shape)) 1 (⟨true,true,false,false,false⟩:ctf_shape)) 2 (⟨false,false,true,false,false⟩:ctf_shape)) 3 (⟨false,false,true,true,false⟩:ctf_shape)) 4 (⟨true,false,false,true,true⟩:ctf_shape)) 5 (⟨true,false,false,false,true⟩:ctf_shape))) (by first|exact .inl rfl|exact .inr rfl) rfl rfl rfl rfl rfl Tryd.runUnderlying172 HS6 rfl ho5 ?_
 intro w7 es6 cl6 HS7 ho6
 refine rs (Value.map (some b1)) (r_move rfl) ?_
 refine rs (Value.map (some b1)) (r_assign rfl) ?_
 try simp only [sc0,sc1]
 refine run_nil ?_
 refine norm_then ?_
 refine wp_ret ?_
 obtain rfl:=Option.some.inj H
 refine bodyPost_ret (results_1 rfl (one_tmp rfl)) rfl ?_
 exact ⟨b1,es6,cl6,rfl,HS7.fresh 0 rfl,ho6,HS7.toE⟩

end Go.Proofs.YtfjppgobidjndaaDoor
namespace Go.Proofs.YtfjppgobidjndaaDoor
open Go.RowKit Go.M
def ctf_isName.l0 (a0:ByteArray):Nat→Int→Option ((Bool)⊕(Unit))
 |0,_=>none
 |m+1,y1_0=>if (decide (y1_0<((bytesOf a0).length:Int)))=true then (if 0≤y1_0∧y1_0<(bytesOf a0).length then (if ((!((((decide ((rd 0 (bytesOf a0) y1_0)≥97))&&(decide ((rd 0 (bytesOf a0) y1_0)≤122)))||((decide ((rd 0 (bytesOf a0) y1_0)≥65))&&(decide ((rd 0 (bytesOf a0) y1_0)≤90))))||((rd 0 (bytesOf a0) y1_0)==95)))&&(((y1_0==0)||(decide ((rd 0 (bytesOf a0) y1_0)<48)))||(decide ((rd 0 (bytesOf a0) y1_0)>57))))=true then (some (.inl false)) else (ctf_isName.l0 a0 m (IntKind.wrap .i64 (y1_0+1)))) else none) else (some (.inr ()))
def ctf_isName.f (k:Nat) (a0:ByteArray):Option (Bool):=if a0.size≤9223372036854775807 then ((ctf_isName.l0 a0 k 0).bind fun xx1=>(match xx1 with| .inl r=>some r| .inr s1=>some ((!(strEq a0 ByteArray.empty))&&(decide ((a0.size:Int)≤31))))) else none
set_option maxRecDepth 20000 in
set_option maxHeartbeats 4000000 in
theorem ctf_isName.calls (k:Nat) (a0:ByteArray) {h0:View} {w0:World} (hv:Sees h0 w0) {r:Bool} (H:ctf_isName.f k a0=some r):Calls Tryd.prog 118 #[vS a0] w0 (fun e w1=>e= .returned (vB r)∧Ext w0 w1):=by
 unfold ctf_isName.f at H
 have HS:St [] h0 w0 h0 [] w0:=St.init hv
 go_enter Tryd.func118,Tryd.ntmps118
 refine wp_seq ?_
 refine region ?_
 refine rs (vB false) (r_assign rfl) ?_
 try simp only [sc0,sc1]
 refine run_nil ?_
 refine norm_then ?_
 refine wp_seq ?_
 refine wp_seq ?_
 refine region ?_
 refine rs (vS a0) (r_move rfl) ?_
 obtain ⟨hl1,H⟩:=of_ite H
 refine run_s2b (s:=a0) rfl Tryd.runUnderlying9 Tryd.runUnderlying80 Tryd.runUnderlying5 hl1 HS ?_
 intro w1 h1 As1 cs1 HS1 sb1 hcs1 hrs1
 refine rs (vI ((bytesOf a0).length:Int)) (r_len rfl Tryd.runUnderlying80) ?_
 refine rs (vI 0) (r_move rfl) ?_
 try simp only [sc0,sc1]
 refine run_nil ?_
 refine norm_then ?_
 obtain ⟨xx1,H,G1⟩:=of_bind H
 refine loop_patch [2,3,4,5,9,10,11,12,13,14,15,16,17,18,19,20,21,22,23,24,25,26,27,28,29,30,31,32,33,34,35,36,37,38,39,40,41,42,43,44,45,46] (fun m us w'=>∃y1_0:Int,∃uy1_2 uy1_3 uy1_4 uy1_5 uy1_10 uy1_11 uy1_12 uy1_13 uy1_14 uy1_15 uy1_16 uy1_17 uy1_18 uy1_19 uy1_20 uy1_21 uy1_22 uy1_23 uy1_24 uy1_25 uy1_26 uy1_27 uy1_28 uy1_29 uy1_30 uy1_31 uy1_32 uy1_33 uy1_34 uy1_35 uy1_36 uy1_37 uy1_38 uy1_39 uy1_40 uy1_41 uy1_42 uy1_43 uy1_44 uy1_45 uy1_46:Value,us=[uy1_2,uy1_3,uy1_4,uy1_5,vI y1_0,uy1_10,uy1_11,uy1_12,uy1_13,uy1_14,uy1_15,uy1_16,uy1_17,uy1_18,uy1_19,uy1_20,uy1_21,uy1_22,uy1_23,uy1_24,uy1_25,uy1_26,uy1_27,uy1_28,uy1_29,uy1_30,uy1_31,uy1_32,uy1_33,uy1_34,uy1_35,uy1_36,uy1_37,uy1_38,uy1_39,uy1_40,uy1_41,uy1_42,uy1_43,uy1_44,uy1_45,uy1_46]∧ctf_isName.l0 a0 m y1_0=some xx1∧St [] h0 w0 h1 [] w') (fun us w'=>∃(s1:Unit),xx1= .inr s1∧∃uo1_2 uo1_3 uo1_4 uo1_5 uo1_9 uo1_10 uo1_11 uo1_12 uo1_13 uo1_14 uo1_15 uo1_16 uo1_17 uo1_18 uo1_19 uo1_20 uo1_21 uo1_22 uo1_23 uo1_24 uo1_25 uo1_26 uo1_27 uo1_28 uo1_29 uo1_30 uo1_31 uo1_32 uo1_33 uo1_34 uo1_35 uo1_36 uo1_37 uo1_38 uo1_39 uo1_40 uo1_41 uo1_42 uo1_43 uo1_44 uo1_45 uo1_46:Value,us=[uo1_2,uo1_3,uo1_4,uo1_5,uo1_9,uo1_10,uo1_11,uo1_12,uo1_13,uo1_14,uo1_15,uo1_16,uo1_17,uo1_18,uo1_19,uo1_20,uo1_21,uo1_22,uo1_23,uo1_24,uo1_25,uo1_26,uo1_27,uo1_28,uo1_29,uo1_30,uo1_31,uo1_32,uo1_33,uo1_34,uo1_35,uo1_36,uo1_37,uo1_38,uo1_39,uo1_40,uo1_41,uo1_42,uo1_43,uo1_44,uo1_45,uo1_46]∧St [] h0 w0 h1 [] w') k [vB false,undef,undef,undef,vI 0,undef,undef,undef,undef,undef,undef,undef,undef,undef,undef,undef,undef,undef,undef,undef,undef,undef,undef,undef,undef,undef,undef,undef,undef,undef,undef,undef,undef,undef,undef,undef,undef,undef,undef,undef,undef,undef] (by simp only [patch,sc0,sc1]) ⟨0,_,_,_,_,_,_,_,_,_,_,_,_,_,_,_,_,_,_,_,_,_,_,_,_,_,_,_,_,_,_,_,_,_,_,_,_,_,_,_,_,_,rfl,H,HS1⟩ ?_ ?_
 ·rintro m us w2 ⟨y1_0,uy1_2,uy1_3,uy1_4,uy1_5,uy1_10,uy1_11,uy1_12,uy1_13,uy1_14,uy1_15,uy1_16,uy1_17,uy1_18,uy1_19,uy1_20,uy1_21,uy1_22,uy1_23,uy1_24,uy1_25,uy1_26,uy1_27,uy1_28,uy1_29,uy1_30,uy1_31,uy1_32,uy1_33,uy1_34,uy1_35,uy1_36,uy1_37,uy1_38,uy1_39,uy1_40,uy1_41,uy1_42,uy1_43,uy1_44,uy1_45,uy1_46,rfl,H,HS2⟩
  cases m with
  |zero=>exact absurd H (by simp [ctf_isName.l0])
  |succ m=>
   rw [ctf_isName.l0] at H
   try simp only [patch,sc0,sc1]
   refine wp_seq ?_
   refine region ?_
   refine rs (vB (decide (y1_0<((bytesOf a0).length:Int)))) (r_bin rfl rfl rfl) ?_
   try simp only [sc0,sc1]
   refine run_nil ?_
   refine norm_then ?_
   refine wp_seq ?_
   refine wp_cond_split (t:=(decide (y1_0<((bytesOf a0).length:Int)))) rfl (fun c1=>?_) (fun c1=>?_)
   ·replace H:=of_pos H c1
    refine wp_skip ?_
    refine norm_then ?_
    refine wp_seq ?_
    refine wp_block ?_
    refine wp_seq ?_
    refine region ?_
    refine rs (vI y1_0) (r_move rfl) ?_
    obtain ⟨hi1,H⟩:=of_ite H
    obtain ⟨ad1,e1,hel1⟩:=ld_int hrs1 hi1.1 hi1.2
    refine rs (Value.pointer (some (Addr.add ad1 (y1_0.toNat*1)))) (r_indexA (sz:=1) rfl e1 rfl hi1.1 hi1.2 Tryd.runUnderlying80 Tryd.sizeOf5) ?_
    refine rs (Value.int .u8 (rd 0 (bytesOf a0) y1_0)) (r_load rfl Tryd.isAgg5 (hel1.cell0 HS2.sees rfl)) ?_
    refine rs (vI y1_0) (r_assign rfl) ?_
    refine run_frame (by simp only [sc0,sc1];rfl) ?_
    refine rs (Value.int .u8 (rd 0 (bytesOf a0) y1_0)) (r_assign rfl) ?_
    try simp only [sc0,sc1]
    refine run_nil ?_
    refine norm_then ?_
    refine wp_seq ?_
    refine region ?_
    refine rs (Value.int .u8 (rd 0 (bytesOf a0) y1_0)) (r_move rfl) ?_
    refine rs (vB (decide ((rd 0 (bytesOf a0) y1_0)≥97))) (r_bin rfl rfl rfl) ?_
    refine rs (vB (decide ((rd 0 (bytesOf a0) y1_0)≥97))) (r_move rfl) ?_
    refine rgs (decide ((rd 0 (bytesOf a0) y1_0)≥97)) true (Value.int .u8 (rd 0 (bytesOf a0) y1_0)) rfl rfl rfl rfl (fun hg=>(r_move rfl)) ?_
    refine run_frame (by simp only [sc0,sc1];rfl) ?_
    refine rgs (decide ((rd 0 (bytesOf a0) y1_0)≥97)) true (vB (decide ((rd 0 (bytesOf a0) y1_0)≤122))) rfl rfl rfl rfl (fun hg=>(r_bin (gvt (Value.int .u8 (rd 0 (bytesOf a0) y1_0)) hg rfl) rfl rfl)) ?_
    refine rs (vB ((decide ((rd 0 (bytesOf a0) y1_0)≥97))&&(decide ((rd 0 (bytesOf a0) y1_0)≤122)))) (r_pick_and rfl (fun hp=>(gvt (vB (decide ((rd 0 (bytesOf a0) y1_0)≤122))) (and_i rfl hp) rfl)) rfl) ?_
    refine rs (vB ((decide ((rd 0 (bytesOf a0) y1_0)≥97))&&(decide ((rd 0 (bytesOf a0) y1_0)≤122)))) (r_move rfl) ?_
    refine rgs ((decide ((rd 0 (bytesOf a0) y1_0)≥97))&&(decide ((rd 0 (bytesOf a0) y1_0)≤122))) true (Value.int .u8 (rd 0 (bytesOf a0) y1_0)) rfl rfl rfl rfl (fun hg=>(r_move rfl)) ?_
    refine run_frame (by simp only [sc0,sc1];rfl) ?_
    refine rgs ((decide ((rd 0 (bytesOf a0) y1_0)≥97))&&(decide ((rd 0 (bytesOf a0) y1_0)≤122))) true (vB (decide ((rd 0 (bytesOf a0) y1_0)≥65))) rfl rfl rfl rfl (fun hg=>(r_bin (gvt (Value.int .u8 (rd 0 (bytesOf a0) y1_0)) hg rfl) rfl rfl)) ?_
    refine rgs ((decide ((rd 0 (bytesOf a0) y1_0)≥97))&&(decide ((rd 0 (bytesOf a0) y1_0)≤122))) true (vB (decide ((rd 0 (bytesOf a0) y1_0)≥65))) rfl rfl rfl rfl (fun hg=>(r_move (gvt (vB (decide ((rd 0 (bytesOf a0) y1_0)≥65))) hg rfl))) ?_
    refine rgs (decide ((rd 0 (bytesOf a0) y1_0)≥65)) (true&&(((decide ((rd 0 (bytesOf a0) y1_0)≥97))&&(decide ((rd 0 (bytesOf a0) y1_0)≤122)))==false)) (Value.int .u8 (rd 0 (bytesOf a0) y1_0)) rfl rfl rfl rfl (fun hg=>(r_move rfl)) ?_
    refine rgs (decide ((rd 0 (bytesOf a0) y1_0)≥65)) (true&&(((decide ((rd 0 (bytesOf a0) y1_0)≥97))&&(decide ((rd 0 (bytesOf a0) y1_0)≤122)))==false)) (vB (decide ((rd 0 (bytesOf a0) y1_0)≤90))) rfl rfl rfl rfl (fun hg=>(r_bin (gvt (Value.int .u8 (rd 0 (bytesOf a0) y1_0)) hg rfl) rfl rfl)) ?_
    refine run_frame (by simp only [sc0,sc1];rfl) ?_
    refine rgs ((decide ((rd 0 (bytesOf a0) y1_0)≥97))&&(decide ((rd 0 (bytesOf a0) y1_0)≤122))) true (vB ((decide ((rd 0 (bytesOf a0) y1_0)≥65))&&(decide ((rd 0 (bytesOf a0) y1_0)≤90)))) rfl rfl rfl rfl (fun hg=>(r_pick_and (gvt (vB (decide ((rd 0 (bytesOf a0) y1_0)≥65))) hg rfl) (fun hp=>(gvt (vB (decide ((rd 0 (bytesOf a0) y1_0)≤90))) (and_i hg hp) rfl)) rfl)) ?_
    refine rs (vB (((decide ((rd 0 (bytesOf a0) y1_0)≥97))&&(decide ((rd 0 (bytesOf a0) y1_0)≤122)))||((decide ((rd 0 (bytesOf a0) y1_0)≥65))&&(decide ((rd 0 (bytesOf a0) y1_0)≤90))))) (r_pick_or rfl rfl (fun hp=>(gvt (vB ((decide ((rd 0 (bytesOf a0) y1_0)≥65))&&(decide ((rd 0 (bytesOf a0) y1_0)≤90)))) (and_i rfl hp) rfl))) ?_
    refine rs (vB (((decide ((rd 0 (bytesOf a0) y1_0)≥97))&&(decide ((rd 0 (bytesOf a0) y1_0)≤122)))||((decide ((rd 0 (bytesOf a0) y1_0)≥65))&&(decide ((rd 0 (bytesOf a0) y1_0)≤90))))) (r_move rfl) ?_
    refine rgs (((decide ((rd 0 (bytesOf a0) y1_0)≥97))&&(decide ((rd 0 (bytesOf a0) y1_0)≤122)))||((decide ((rd 0 (bytesOf a0) y1_0)≥65))&&(decide ((rd 0 (bytesOf a0) y1_0)≤90)))) true (Value.int .u8 (rd 0 (bytesOf a0) y1_0)) rfl rfl rfl rfl (fun hg=>(r_move rfl)) ?_
    refine run_frame (by simp only [sc0,sc1];rfl) ?_
    refine rgs (((decide ((rd 0 (bytesOf a0) y1_0)≥97))&&(decide ((rd 0 (bytesOf a0) y1_0)≤122)))||((decide ((rd 0 (bytesOf a0) y1_0)≥65))&&(decide ((rd 0 (bytesOf a0) y1_0)≤90)))) true (vB ((rd 0 (bytesOf a0) y1_0)==95)) rfl rfl rfl rfl (fun hg=>(r_bin (gvt (Value.int .u8 (rd 0 (bytesOf a0) y1_0)) hg rfl) rfl rfl)) ?_
    refine rs (vB ((((decide ((rd 0 (bytesOf a0) y1_0)≥97))&&(decide ((rd 0 (bytesOf a0) y1_0)≤122)))||((decide ((rd 0 (bytesOf a0) y1_0)≥65))&&(decide ((rd 0 (bytesOf a0) y1_0)≤90))))||((rd 0 (bytesOf a0) y1_0)==95))) (r_pick_or rfl rfl (fun hp=>(gvt (vB ((rd 0 (bytesOf a0) y1_0)==95)) (and_i rfl hp) rfl))) ?_
    refine rs (vB ((((decide ((rd 0 (bytesOf a0) y1_0)≥97))&&(decide ((rd 0 (bytesOf a0) y1_0)≤122)))||((decide ((rd 0 (bytesOf a0) y1_0)≥65))&&(decide ((rd 0 (bytesOf a0) y1_0)≤90))))||((rd 0 (bytesOf a0) y1_0)==95))) (r_assign rfl) ?_
    try simp only [sc0,sc1]
    refine run_nil ?_
    refine norm_then ?_
    refine wp_seq ?_
    refine region ?_
    refine rs (vB ((((decide ((rd 0 (bytesOf a0) y1_0)≥97))&&(decide ((rd 0 (bytesOf a0) y1_0)≤122)))||((decide ((rd 0 (bytesOf a0) y1_0)≥65))&&(decide ((rd 0 (bytesOf a0) y1_0)≤90))))||((rd 0 (bytesOf a0) y1_0)==95))) (r_move rfl) ?_
    refine rs (vB (!((((decide ((rd 0 (bytesOf a0) y1_0)≥97))&&(decide ((rd 0 (bytesOf a0) y1_0)≤122)))||((decide ((rd 0 (bytesOf a0) y1_0)≥65))&&(decide ((rd 0 (bytesOf a0) y1_0)≤90))))||((rd 0 (bytesOf a0) y1_0)==95)))) (r_not rfl) ?_
    refine rs (vB (!((((decide ((rd 0 (bytesOf a0) y1_0)≥97))&&(decide ((rd 0 (bytesOf a0) y1_0)≤122)))||((decide ((rd 0 (bytesOf a0) y1_0)≥65))&&(decide ((rd 0 (bytesOf a0) y1_0)≤90))))||((rd 0 (bytesOf a0) y1_0)==95)))) (r_move rfl) ?_
    refine rgs (!((((decide ((rd 0 (bytesOf a0) y1_0)≥97))&&(decide ((rd 0 (bytesOf a0) y1_0)≤122)))||((decide ((rd 0 (bytesOf a0) y1_0)≥65))&&(decide ((rd 0 (bytesOf a0) y1_0)≤90))))||((rd 0 (bytesOf a0) y1_0)==95))) true (vI y1_0) rfl rfl rfl rfl (fun hg=>(r_move rfl)) ?_
    refine run_frame (by simp only [sc0,sc1];rfl) ?_
    refine rgs (!((((decide ((rd 0 (bytesOf a0) y1_0)≥97))&&(decide ((rd 0 (bytesOf a0) y1_0)≤122)))||((decide ((rd 0 (bytesOf a0) y1_0)≥65))&&(decide ((rd 0 (bytesOf a0) y1_0)≤90))))||((rd 0 (bytesOf a0) y1_0)==95))) true (vB (y1_0==0)) rfl rfl rfl rfl (fun hg=>(r_bin (gvt (vI y1_0) hg rfl) rfl rfl)) ?_
    refine rgs (!((((decide ((rd 0 (bytesOf a0) y1_0)≥97))&&(decide ((rd 0 (bytesOf a0) y1_0)≤122)))||((decide ((rd 0 (bytesOf a0) y1_0)≥65))&&(decide ((rd 0 (bytesOf a0) y1_0)≤90))))||((rd 0 (bytesOf a0) y1_0)==95))) true (vB (y1_0==0)) rfl rfl rfl rfl (fun hg=>(r_move (gvt (vB (y1_0==0)) hg rfl))) ?_
    refine rgs (y1_0==0) (true&&((!((((decide ((rd 0 (bytesOf a0) y1_0)≥97))&&(decide ((rd 0 (bytesOf a0) y1_0)≤122)))||((decide ((rd 0 (bytesOf a0) y1_0)≥65))&&(decide ((rd 0 (bytesOf a0) y1_0)≤90))))||((rd 0 (bytesOf a0) y1_0)==95)))==true)) (Value.int .u8 (rd 0 (bytesOf a0) y1_0)) rfl rfl rfl rfl (fun hg=>(r_move rfl)) ?_
    refine rgs (y1_0==0) (true&&((!((((decide ((rd 0 (bytesOf a0) y1_0)≥97))&&(decide ((rd 0 (bytesOf a0) y1_0)≤122)))||((decide ((rd 0 (bytesOf a0) y1_0)≥65))&&(decide ((rd 0 (bytesOf a0) y1_0)≤90))))||((rd 0 (bytesOf a0) y1_0)==95)))==true)) (vB (decide ((rd 0 (bytesOf a0) y1_0)<48))) rfl rfl rfl rfl (fun hg=>(r_bin (gvt (Value.int .u8 (rd 0 (bytesOf a0) y1_0)) hg rfl) rfl rfl)) ?_
    refine run_frame (by simp only [sc0,sc1];rfl) ?_
    refine rgs (!((((decide ((rd 0 (bytesOf a0) y1_0)≥97))&&(decide ((rd 0 (bytesOf a0) y1_0)≤122)))||((decide ((rd 0 (bytesOf a0) y1_0)≥65))&&(decide ((rd 0 (bytesOf a0) y1_0)≤90))))||((rd 0 (bytesOf a0) y1_0)==95))) true (vB ((y1_0==0)||(decide ((rd 0 (bytesOf a0) y1_0)<48)))) rfl rfl rfl rfl (fun hg=>(r_pick_or (gvt (vB (y1_0==0)) hg rfl) rfl (fun hp=>(gvt (vB (decide ((rd 0 (bytesOf a0) y1_0)<48))) (and_i hg hp) rfl)))) ?_
    refine rgs (!((((decide ((rd 0 (bytesOf a0) y1_0)≥97))&&(decide ((rd 0 (bytesOf a0) y1_0)≤122)))||((decide ((rd 0 (bytesOf a0) y1_0)≥65))&&(decide ((rd 0 (bytesOf a0) y1_0)≤90))))||((rd 0 (bytesOf a0) y1_0)==95))) true (vB ((y1_0==0)||(decide ((rd 0 (bytesOf a0) y1_0)<48)))) rfl rfl rfl rfl (fun hg=>(r_move (gvt (vB ((y1_0==0)||(decide ((rd 0 (bytesOf a0) y1_0)<48)))) hg rfl))) ?_
    refine rgs ((y1_0==0)||(decide ((rd 0 (bytesOf a0) y1_0)<48))) (true&&((!((((decide ((rd 0 (bytesOf a0) y1_0)≥97))&&(decide ((rd 0 (bytesOf a0) y1_0)≤122)))||((decide ((rd 0 (bytesOf a0) y1_0)≥65))&&(decide ((rd 0 (bytesOf a0) y1_0)≤90))))||((rd 0 (bytesOf a0) y1_0)==95)))==true)) (Value.int .u8 (rd 0 (bytesOf a0) y1_0)) rfl rfl rfl rfl (fun hg=>(r_move rfl)) ?_
    refine rgs ((y1_0==0)||(decide ((rd 0 (bytesOf a0) y1_0)<48))) (true&&((!((((decide ((rd 0 (bytesOf a0) y1_0)≥97))&&(decide ((rd 0 (bytesOf a0) y1_0)≤122)))||((decide ((rd 0 (bytesOf a0) y1_0)≥65))&&(decide ((rd 0 (bytesOf a0) y1_0)≤90))))||((rd 0 (bytesOf a0) y1_0)==95)))==true)) (vB (decide ((rd 0 (bytesOf a0) y1_0)>57))) rfl rfl rfl rfl (fun hg=>(r_bin (gvt (Value.int .u8 (rd 0 (bytesOf a0) y1_0)) hg rfl) rfl rfl)) ?_
    refine run_frame (by simp only [sc0,sc1];rfl) ?_
    refine rgs (!((((decide ((rd 0 (bytesOf a0) y1_0)≥97))&&(decide ((rd 0 (bytesOf a0) y1_0)≤122)))||((decide ((rd 0 (bytesOf a0) y1_0)≥65))&&(decide ((rd 0 (bytesOf a0) y1_0)≤90))))||((rd 0 (bytesOf a0) y1_0)==95))) true (vB (((y1_0==0)||(decide ((rd 0 (bytesOf a0) y1_0)<48)))||(decide ((rd 0 (bytesOf a0) y1_0)>57)))) rfl rfl rfl rfl (fun hg=>(r_pick_or (gvt (vB ((y1_0==0)||(decide ((rd 0 (bytesOf a0) y1_0)<48)))) hg rfl) rfl (fun hp=>(gvt (vB (decide ((rd 0 (bytesOf a0) y1_0)>57))) (and_i hg hp) rfl)))) ?_
    refine rs (vB ((!((((decide ((rd 0 (bytesOf a0) y1_0)≥97))&&(decide ((rd 0 (bytesOf a0) y1_0)≤122)))||((decide ((rd 0 (bytesOf a0) y1_0)≥65))&&(decide ((rd 0 (bytesOf a0) y1_0)≤90))))||((rd 0 (bytesOf a0) y1_0)==95)))&&(((y1_0==0)||(decide ((rd 0 (bytesOf a0) y1_0)<48)))||(decide ((rd 0 (bytesOf a0) y1_0)>57))))) (r_pick_and rfl (fun hp=>(gvt (vB (((y1_0==0)||(decide ((rd 0 (bytesOf a0) y1_0)<48)))||(decide ((rd 0 (bytesOf a0) y1_0)>57)))) (and_i rfl hp) rfl)) rfl) ?_
    try simp only [sc0,sc1]
    refine run_nil ?_
    refine norm_then ?_
    refine wp_cond_split (t:=((!((((decide ((rd 0 (bytesOf a0) y1_0)≥97))&&(decide ((rd 0 (bytesOf a0) y1_0)≤122)))||((decide ((rd 0 (bytesOf a0) y1_0)≥65))&&(decide ((rd 0 (bytesOf a0) y1_0)≤90))))||((rd 0 (bytesOf a0) y1_0)==95)))&&(((y1_0==0)||(decide ((rd 0 (bytesOf a0) y1_0)<48)))||(decide ((rd 0 (bytesOf a0) y1_0)>57))))) rfl (fun c2=>?_) (fun c2=>?_)
    ·replace H:=of_pos H c2
     refine wp_seq ?_
     refine region ?_
     refine rs (vB false) (r_assign rfl) ?_
     try simp only [sc0,sc1]
     refine run_nil ?_
     refine norm_then ?_
     refine wp_ret ?_
     refine ret_block ?_
     refine ret_then ?_
     refine ret_loop ?_
     refine ret_then ?_
     obtain rfl:=Option.some.inj H
     obtain rfl:=Option.some.inj G1
     refine bodyPost_ret (results_1 rfl (one_tmp rfl)) rfl ?_
     exact ⟨rfl,HS2.toE⟩
    ·replace H:=of_neg H (nt c2)
     refine wp_skip ?_
     refine norm_block ?_
     refine norm_then ?_
     refine region ?_
     refine rs (vI (w64 (y1_0+1))) (r_bin rfl rfl rfl) ?_
     refine rs (vI (w64 (y1_0+1))) (r_move rfl) ?_
     try simp only [sc0,sc1]
     refine run_nil ?_
     refine again m [uy1_2,vI y1_0,Value.int .u8 (rd 0 (bytesOf a0) y1_0),vB ((((decide ((rd 0 (bytesOf a0) y1_0)≥97))&&(decide ((rd 0 (bytesOf a0) y1_0)≤122)))||((decide ((rd 0 (bytesOf a0) y1_0)≥65))&&(decide ((rd 0 (bytesOf a0) y1_0)≤90))))||((rd 0 (bytesOf a0) y1_0)==95)),vI (w64 (y1_0+1)),vB (decide (y1_0<((bytesOf a0).length:Int))),vI y1_0,Value.pointer (some (Addr.add ad1 (y1_0.toNat*1))),Value.int .u8 (rd 0 (bytesOf a0) y1_0),Value.int .u8 (rd 0 (bytesOf a0) y1_0),vB (decide ((rd 0 (bytesOf a0) y1_0)≥97)),vB (decide ((rd 0 (bytesOf a0) y1_0)≥97)),gv (true&&((decide ((rd 0 (bytesOf a0) y1_0)≥97))==true)) (Value.int .u8 (rd 0 (bytesOf a0) y1_0)),gv (true&&((decide ((rd 0 (bytesOf a0) y1_0)≥97))==true)) (vB (decide ((rd 0 (bytesOf a0) y1_0)≤122))),vB ((decide ((rd 0 (bytesOf a0) y1_0)≥97))&&(decide ((rd 0 (bytesOf a0) y1_0)≤122))),vB ((decide ((rd 0 (bytesOf a0) y1_0)≥97))&&(decide ((rd 0 (bytesOf a0) y1_0)≤122))),gv (true&&(((decide ((rd 0 (bytesOf a0) y1_0)≥97))&&(decide ((rd 0 (bytesOf a0) y1_0)≤122)))==false)) (Value.int .u8 (rd 0 (bytesOf a0) y1_0)),gv (true&&(((decide ((rd 0 (bytesOf a0) y1_0)≥97))&&(decide ((rd 0 (bytesOf a0) y1_0)≤122)))==false)) (vB (decide ((rd 0 (bytesOf a0) y1_0)≥65))),gv (true&&(((decide ((rd 0 (bytesOf a0) y1_0)≥97))&&(decide ((rd 0 (bytesOf a0) y1_0)≤122)))==false)) (vB (decide ((rd 0 (bytesOf a0) y1_0)≥65))),gv ((true&&(((decide ((rd 0 (bytesOf a0) y1_0)≥97))&&(decide ((rd 0 (bytesOf a0) y1_0)≤122)))==false))&&((decide ((rd 0 (bytesOf a0) y1_0)≥65))==true)) (Value.int .u8 (rd 0 (bytesOf a0) y1_0)),gv ((true&&(((decide ((rd 0 (bytesOf a0) y1_0)≥97))&&(decide ((rd 0 (bytesOf a0) y1_0)≤122)))==false))&&((decide ((rd 0 (bytesOf a0) y1_0)≥65))==true)) (vB (decide ((rd 0 (bytesOf a0) y1_0)≤90))),gv (true&&(((decide ((rd 0 (bytesOf a0) y1_0)≥97))&&(decide ((rd 0 (bytesOf a0) y1_0)≤122)))==false)) (vB ((decide ((rd 0 (bytesOf a0) y1_0)≥65))&&(decide ((rd 0 (bytesOf a0) y1_0)≤90)))),vB (((decide ((rd 0 (bytesOf a0) y1_0)≥97))&&(decide ((rd 0 (bytesOf a0) y1_0)≤122)))||((decide ((rd 0 (bytesOf a0) y1_0)≥65))&&(decide ((rd 0 (bytesOf a0) y1_0)≤90)))),vB (((decide ((rd 0 (bytesOf a0) y1_0)≥97))&&(decide ((rd 0 (bytesOf a0) y1_0)≤122)))||((decide ((rd 0 (bytesOf a0) y1_0)≥65))&&(decide ((rd 0 (bytesOf a0) y1_0)≤90)))),gv (true&&((((decide ((rd 0 (bytesOf a0) y1_0)≥97))&&(decide ((rd 0 (bytesOf a0) y1_0)≤122)))||((decide ((rd 0 (bytesOf a0) y1_0)≥65))&&(decide ((rd 0 (bytesOf a0) y1_0)≤90))))==false)) (Value.int .u8 (rd 0 (bytesOf a0) y1_0)),gv (true&&((((decide ((rd 0 (bytesOf a0) y1_0)≥97))&&(decide ((rd 0 (bytesOf a0) y1_0)≤122)))||((decide ((rd 0 (bytesOf a0) y1_0)≥65))&&(decide ((rd 0 (bytesOf a0) y1_0)≤90))))==false)) (vB ((rd 0 (bytesOf a0) y1_0)==95)),vB ((((decide ((rd 0 (bytesOf a0) y1_0)≥97))&&(decide ((rd 0 (bytesOf a0) y1_0)≤122)))||((decide ((rd 0 (bytesOf a0) y1_0)≥65))&&(decide ((rd 0 (bytesOf a0) y1_0)≤90))))||((rd 0 (bytesOf a0) y1_0)==95)),vB ((((decide ((rd 0 (bytesOf a0) y1_0)≥97))&&(decide ((rd 0 (bytesOf a0) y1_0)≤122)))||((decide ((rd 0 (bytesOf a0) y1_0)≥65))&&(decide ((rd 0 (bytesOf a0) y1_0)≤90))))||((rd 0 (bytesOf a0) y1_0)==95)),vB (!((((decide ((rd 0 (bytesOf a0) y1_0)≥97))&&(decide ((rd 0 (bytesOf a0) y1_0)≤122)))||((decide ((rd 0 (bytesOf a0) y1_0)≥65))&&(decide ((rd 0 (bytesOf a0) y1_0)≤90))))||((rd 0 (bytesOf a0) y1_0)==95))),vB (!((((decide ((rd 0 (bytesOf a0) y1_0)≥97))&&(decide ((rd 0 (bytesOf a0) y1_0)≤122)))||((decide ((rd 0 (bytesOf a0) y1_0)≥65))&&(decide ((rd 0 (bytesOf a0) y1_0)≤90))))||((rd 0 (bytesOf a0) y1_0)==95))),gv (true&&((!((((decide ((rd 0 (bytesOf a0) y1_0)≥97))&&(decide ((rd 0 (bytesOf a0) y1_0)≤122)))||((decide ((rd 0 (bytesOf a0) y1_0)≥65))&&(decide ((rd 0 (bytesOf a0) y1_0)≤90))))||((rd 0 (bytesOf a0) y1_0)==95)))==true)) (vI y1_0),gv (true&&((!((((decide ((rd 0 (bytesOf a0) y1_0)≥97))&&(decide ((rd 0 (bytesOf a0) y1_0)≤122)))||((decide ((rd 0 (bytesOf a0) y1_0)≥65))&&(decide ((rd 0 (bytesOf a0) y1_0)≤90))))||((rd 0 (bytesOf a0) y1_0)==95)))==true)) (vB (y1_0==0)),gv (true&&((!((((decide ((rd 0 (bytesOf a0) y1_0)≥97))&&(decide ((rd 0 (bytesOf a0) y1_0)≤122)))||((decide ((rd 0 (bytesOf a0) y1_0)≥65))&&(decide ((rd 0 (bytesOf a0) y1_0)≤90))))||((rd 0 (bytesOf a0) y1_0)==95)))==true)) (vB (y1_0==0)),gv ((true&&((!((((decide ((rd 0 (bytesOf a0) y1_0)≥97))&&(decide ((rd 0 (bytesOf a0) y1_0)≤122)))||((decide ((rd 0 (bytesOf a0) y1_0)≥65))&&(decide ((rd 0 (bytesOf a0) y1_0)≤90))))||((rd 0 (bytesOf a0) y1_0)==95)))==true))&&((y1_0==0)==false)) (Value.int .u8 (rd 0 (bytesOf a0) y1_0)),gv ((true&&((!((((decide ((rd 0 (bytesOf a0) y1_0)≥97))&&(decide ((rd 0 (bytesOf a0) y1_0)≤122)))||((decide ((rd 0 (bytesOf a0) y1_0)≥65))&&(decide ((rd 0 (bytesOf a0) y1_0)≤90))))||((rd 0 (bytesOf a0) y1_0)==95)))==true))&&((y1_0==0)==false)) (vB (decide ((rd 0 (bytesOf a0) y1_0)<48))),gv (true&&((!((((decide ((rd 0 (bytesOf a0) y1_0)≥97))&&(decide ((rd 0 (bytesOf a0) y1_0)≤122)))||((decide ((rd 0 (bytesOf a0) y1_0)≥65))&&(decide ((rd 0 (bytesOf a0) y1_0)≤90))))||((rd 0 (bytesOf a0) y1_0)==95)))==true)) (vB ((y1_0==0)||(decide ((rd 0 (bytesOf a0) y1_0)<48)))),gv (true&&((!((((decide ((rd 0 (bytesOf a0) y1_0)≥97))&&(decide ((rd 0 (bytesOf a0) y1_0)≤122)))||((decide ((rd 0 (bytesOf a0) y1_0)≥65))&&(decide ((rd 0 (bytesOf a0) y1_0)≤90))))||((rd 0 (bytesOf a0) y1_0)==95)))==true)) (vB ((y1_0==0)||(decide ((rd 0 (bytesOf a0) y1_0)<48)))),gv ((true&&((!((((decide ((rd 0 (bytesOf a0) y1_0)≥97))&&(decide ((rd 0 (bytesOf a0) y1_0)≤122)))||((decide ((rd 0 (bytesOf a0) y1_0)≥65))&&(decide ((rd 0 (bytesOf a0) y1_0)≤90))))||((rd 0 (bytesOf a0) y1_0)==95)))==true))&&(((y1_0==0)||(decide ((rd 0 (bytesOf a0) y1_0)<48)))==false)) (Value.int .u8 (rd 0 (bytesOf a0) y1_0)),gv ((true&&((!((((decide ((rd 0 (bytesOf a0) y1_0)≥97))&&(decide ((rd 0 (bytesOf a0) y1_0)≤122)))||((decide ((rd 0 (bytesOf a0) y1_0)≥65))&&(decide ((rd 0 (bytesOf a0) y1_0)≤90))))||((rd 0 (bytesOf a0) y1_0)==95)))==true))&&(((y1_0==0)||(decide ((rd 0 (bytesOf a0) y1_0)<48)))==false)) (vB (decide ((rd 0 (bytesOf a0) y1_0)>57))),gv (true&&((!((((decide ((rd 0 (bytesOf a0) y1_0)≥97))&&(decide ((rd 0 (bytesOf a0) y1_0)≤122)))||((decide ((rd 0 (bytesOf a0) y1_0)≥65))&&(decide ((rd 0 (bytesOf a0) y1_0)≤90))))||((rd 0 (bytesOf a0) y1_0)==95)))==true)) (vB (((y1_0==0)||(decide ((rd 0 (bytesOf a0) y1_0)<48)))||(decide ((rd 0 (bytesOf a0) y1_0)>57)))),vB ((!((((decide ((rd 0 (bytesOf a0) y1_0)≥97))&&(decide ((rd 0 (bytesOf a0) y1_0)≤122)))||((decide ((rd 0 (bytesOf a0) y1_0)≥65))&&(decide ((rd 0 (bytesOf a0) y1_0)≤90))))||((rd 0 (bytesOf a0) y1_0)==95)))&&(((y1_0==0)||(decide ((rd 0 (bytesOf a0) y1_0)<48)))||(decide ((rd 0 (bytesOf a0) y1_0)>57)))),vI (w64 (y1_0+1))] (Nat.lt_succ_self m) (by simp only [patch,sc0,sc1]) ⟨(w64 (y1_0+1)),_,_,_,_,_,_,_,_,_,_,_,_,_,_,_,_,_,_,_,_,_,_,_,_,_,_,_,_,_,_,_,_,_,_,_,_,_,_,_,_,_,rfl,H,HS2⟩
   ·replace H:=of_neg H (nt c1)
    refine wp_exit ?_
    refine exit_then ?_
    obtain rfl:=Option.some.inj H
    refine leave [uy1_2,uy1_3,uy1_4,uy1_5,vI y1_0,vB (decide (y1_0<((bytesOf a0).length:Int))),uy1_11,uy1_12,uy1_13,uy1_14,uy1_15,uy1_16,uy1_17,uy1_18,uy1_19,uy1_20,uy1_21,uy1_22,uy1_23,uy1_24,uy1_25,uy1_26,uy1_27,uy1_28,uy1_29,uy1_30,uy1_31,uy1_32,uy1_33,uy1_34,uy1_35,uy1_36,uy1_37,uy1_38,uy1_39,uy1_40,uy1_41,uy1_42,uy1_43,uy1_44,uy1_45,uy1_46] (by simp only [patch,sc0,sc1]) ⟨_,rfl,_,_,_,_,_,_,_,_,_,_,_,_,_,_,_,_,_,_,_,_,_,_,_,_,_,_,_,_,_,_,_,_,_,_,_,_,_,_,_,_,_,_,rfl,HS2⟩
 ·rintro us w3 ⟨s1,rfl,uo1_2,uo1_3,uo1_4,uo1_5,uo1_9,uo1_10,uo1_11,uo1_12,uo1_13,uo1_14,uo1_15,uo1_16,uo1_17,uo1_18,uo1_19,uo1_20,uo1_21,uo1_22,uo1_23,uo1_24,uo1_25,uo1_26,uo1_27,uo1_28,uo1_29,uo1_30,uo1_31,uo1_32,uo1_33,uo1_34,uo1_35,uo1_36,uo1_37,uo1_38,uo1_39,uo1_40,uo1_41,uo1_42,uo1_43,uo1_44,uo1_45,uo1_46,rfl,HS3⟩
  replace H:=G1
  clear G1
  try simp only [patch,sc0,sc1]
  refine norm_then ?_
  refine wp_seq ?_
  refine region ?_
  refine rs (vS a0) (r_move rfl) ?_
  refine rs (vB (!(strEq a0 ByteArray.empty))) (r_strneq rfl rfl) ?_
  refine rs (vB (!(strEq a0 ByteArray.empty))) (r_move rfl) ?_
  refine rgs (!(strEq a0 ByteArray.empty)) true (vS a0) rfl rfl rfl rfl (fun hg=>(r_move rfl)) ?_
  refine run_frame (by simp only [sc0,sc1];rfl) ?_
  refine rgs (!(strEq a0 ByteArray.empty)) true (vI (a0.size:Int)) rfl rfl rfl rfl (fun hg=>(r_lenStr (gvt (vS a0) hg rfl) Tryd.runUnderlying9)) ?_
  refine rgs (!(strEq a0 ByteArray.empty)) true (vB (decide ((a0.size:Int)≤31))) rfl rfl rfl rfl (fun hg=>(r_bin (gvt (vI (a0.size:Int)) hg rfl) rfl rfl)) ?_
  refine rs (vB ((!(strEq a0 ByteArray.empty))&&(decide ((a0.size:Int)≤31)))) (r_pick_and rfl (fun hp=>(gvt (vB (decide ((a0.size:Int)≤31))) (and_i rfl hp) rfl)) rfl) ?_
  refine rs (vB ((!(strEq a0 ByteArray.empty))&&(decide ((a0.size:Int)≤31)))) (r_assign rfl) ?_
  try simp only [sc0,sc1]
  refine run_nil ?_
  refine norm_then ?_
  refine wp_ret ?_
  obtain rfl:=Option.some.inj H
  refine bodyPost_ret (results_1 rfl (one_tmp rfl)) rfl ?_
  exact ⟨rfl,HS3.toE⟩

end Go.Proofs.YtfjppgobidjndaaDoor
namespace Go.Proofs.YtfjppgobidjndaaDoor
open Go.RowKit Go.M
section
variable {P:Program} {Q:Exit→Act→World→Prop}
theorem stepv {ops:Array Oper} {i:Nat} {o:Oper} {K:Act→World→Prop} {a:Act} {w w':World} {v:Value} (hi:ops[i]?=some o) (hg:o.guard=none) (hex:(execOp a.eval o).run P w= .ok (.value v) w') (hK:K (a.put o.dst v) w'):wpOp P ops Q i K a w:=by
  unfold wpOp
  rw [hi]
  simp only [Region.wanted,hg,if_true]
  refine .inl ?_
  unfold Oper.wp
  rw [hex]
  exact hK
theorem steps {ops:Array Oper} {i:Nat} {o:Oper} {K:Act→World→Prop} {a:Act} {w w':World} (hi:ops[i]?=some o) (hg:o.guard=none) (hd:o.dst=none) (hex:(execOp a.eval o).run P w= .ok .skip w') (hK:K a w'):wpOp P ops Q i K a w:=by
  unfold wpOp
  rw [hi]
  simp only [Region.wanted,hg,if_true]
  refine .inl ?_
  unfold Oper.wp
  rw [hex]
  simp only [Oper.upon,hd]
  exact hK
end
def eqI (a b:api_Int):Bool:=(a.vSize==b.vSize)&&((a.vSigned==b.vSigned)&&true)
theorem eqI_iff {a b:api_Int}:eqI a b=true↔a=b:=by
  obtain ⟨a1,a2⟩:=a
  obtain ⟨b1,b2⟩:=b
  simp [eqI]
theorem keyI : KeyS Tryd.prog 31 #[{ name := "Size", type := 3, offset := 0, embedded := false, tag := "", pkgPath := "", byteOffset := 0 }, { name := "Signed", type := 4, offset := 1, embedded := false, tag := "", pkgPath := "", byteOffset := 8 }] e_api_Int eqI where
  hu:=Tryd.runUnderlying31
  same:=fun a b w=>(eqr_agg Tryd.stoodInHeld31 Tryd.underlying31 (eqf_cons (by decide) (part_one Tryd.isAgg3 rfl) (part_one Tryd.isAgg3 rfl) (eqr_int Tryd.underlying3) (eqf_cons (by decide) (part_one Tryd.isAgg4 rfl) (part_one Tryd.isAgg4 rfl) (eqr_bool Tryd.underlying4) eqf_nil)):EqR Tryd.prog 10000 31 (e_api_Int a) (e_api_Int b) (eqI a b)) w
  check:=fun e k w=>by
    have hp1:(part 3 #[.int .i64 k.vSize, .bool k.vSigned] 0).run Tryd.prog w= .ok (.int .i64 k.vSize) w:=part_one Tryd.isAgg3 rfl w
    have hp2:(part 4 #[.int .i64 k.vSize, .bool k.vSigned] 1).run Tryd.prog w= .ok (.bool k.vSigned) w:=part_one Tryd.isAgg4 rfl w
    have h1:∀n v,(Instr.checkKey e (n+1) 3 v).run Tryd.prog w= .ok () w:=fun n v=>by
      rw [Instr.checkKey]
      simp only [Sem.run_bind,Tryd.runUnderlying3,Result.andThen_ok]
      cases v<;>rfl
    have h2:∀n v,(Instr.checkKey e (n+1) 4 v).run Tryd.prog w= .ok () w:=fun n v=>by
      rw [Instr.checkKey]
      simp only [Sem.run_bind,Tryd.runUnderlying4,Result.andThen_ok]
      cases v<;>rfl
    show (Instr.checkKey e (9998+1+1) 31 (.agg #[.int .i64 k.vSize, .bool k.vSigned])).run Tryd.prog w=_
    rw [Instr.checkKey]
    simp only [Sem.run_bind,Tryd.runUnderlying31,Result.andThen_ok]
    simp [hp1,hp2,h1,h2]
def keyAt (j:Nat):api_Int:=⟨([1,1,2,2,4,4,8,8]:List Int).getD j 0,j%2==0⟩
structure MapIn (wz w:World) (b:Nat) (es:Array MapEntry) (cl:Nat) (ks:List api_Int):Prop where
  ge:wz.heap.size≤b
  at_:w.heap[b]?=some (.map es cl)
  keys:KeysOk e_api_Int ks es
  ext:Ext wz w
structure CInv (wz:World) (df:List Deferred) (L:Nat→Bool) (a:Act) (w:World):Prop where
  defers:a.defers=df
  size:a.tmps.size=11
  built:∀j:Nat,j<8→L (2*j+1)=true→a.tmps.getD (Nat.add j 2) undef=e_api_Int (keyAt j)
  none_:L 0=false→Ext wz w∧(∀j,j<8→L (2*j+2)=false)∧L 17=false∧L 18=false
  some_:L 0=true→∃b es cl ks,a.tmps.getD 1 undef= .map (some b)∧MapIn wz w b es cl ks∧(∀j,j<8→(L (2*j+2)=true↔keyAt j∈ks))∧(∀k∈ks,∃j,j<8∧k=keyAt j)∧
    (L 17=true→a.tmps.getD 10 undef= .map (some b))∧(L 18=true→a.tmps.getD 0 undef= .map (some b))
theorem upd_ne {L:Nat→Bool} {i j:Nat} (h:j≠i):upd L i j=L j:=if_neg h
theorem upd_at {L:Nat→Bool} {i:Nat}:upd L i i=true:=if_pos rfl
theorem getD_put_ne {a:Act} {d t:Tmp} {v:Value} (h:d≠t):(a.put (some d) v).tmps.getD t undef=a.tmps.getD t undef:=by
  simp [Act.put,Array.getD_eq_getD_getElem?,Array.getElem?_setIfInBounds_ne h]
theorem getD_put_at {a:Act} {d:Tmp} {v:Value} (h:d<a.tmps.size):(a.put (some d) v).tmps.getD d undef=v:=by
  simp [Act.put,Array.getD_eq_getD_getElem?,h]
theorem sl_lt {j:Nat} (h:j<8):Nat.add j 2<11:=by show j+2<11;omega
theorem sl_ne {j q:Nat} (h:¬q=j):Nat.add j 2≠Nat.add q 2:=by show j+2≠q+2;omega
theorem sl_1 {j:Nat}:Nat.add j 2≠1:=by show j+2≠1;omega
theorem sl_1' {j:Nat}:1≠Nat.add j 2:=by show 1≠j+2;omega
theorem sl_0 {j:Nat}:Nat.add j 2≠0:=by show j+2≠0;omega
theorem sl_10 {j:Nat} (h:j<8):Nat.add j 2≠10:=by show j+2≠10;omega
theorem sl_10' {j:Nat} (h:j<8):10≠Nat.add j 2:=by show 10≠j+2;omega
theorem sl_0' {j:Nat}:0≠Nat.add j 2:=by show 0≠j+2;omega
theorem CInv.build {wz w:World} {df:List Deferred} {L:Nat→Bool} {a:Act} (C:CInv wz df L a w) {j:Nat} (hj:j<8):CInv wz df (upd L (2*j+1)) (a.put (some (Nat.add j 2)) (e_api_Int (keyAt j))) w:=by
  refine ⟨by simp [Act.put,C.defers],by simp [Act.put,C.size],fun q hq hL=>?_,fun h=>?_,fun h=>?_⟩
  · by_cases hqj:q=j
    · subst hqj;exact getD_put_at (by rw [C.size];exact sl_lt hq)
    · rw [getD_put_ne (sl_ne hqj)]
      rw [upd_ne (by omega)] at hL
      exact C.built q hq hL
  · rw [upd_ne (by omega)] at h
    obtain ⟨h1,h2,h3,h4⟩:=C.none_ h
    exact ⟨h1,fun q hq=>by rw [upd_ne (by omega)];exact h2 q hq,by rw [upd_ne (by omega)];exact h3,by rw [upd_ne (by omega)];exact h4⟩
  · rw [upd_ne (by omega)] at h
    obtain ⟨b,es,cl,ks,h1,h2,h3,h4,h5,h6⟩:=C.some_ h
    refine ⟨b,es,cl,ks,by rw [getD_put_ne sl_1];exact h1,h2,fun q hq=>by rw [upd_ne (by omega)];exact h3 q hq,h4,fun h=>?_,fun h=>?_⟩
    · rw [upd_ne (by omega)] at h
      rw [getD_put_ne (sl_10 hj)];exact h5 h
    · rw [upd_ne (by omega)] at h
      rw [getD_put_ne sl_0];exact h6 h
theorem keyAt_inj {i j:Nat} (hi:i<8) (hj:j<8) (h:keyAt i=keyAt j):i=j:=by
  have:∀i j:Fin 8,(([1,1,2,2,4,4,8,8]:List Int).getD i 0=([1,1,2,2,4,4,8,8]:List Int).getD j 0∧(i.val%2==0)=(j.val%2==0))→i=j:=by decide
  have h2:=this ⟨i,hi⟩ ⟨j,hj⟩ (by simpa [keyAt] using h)
  exact congrArg Fin.val h2
theorem CInv.insert {wz w:World} {df:List Deferred} {L:Nat→Bool} {a:Act} (C:CInv wz df L a w) {j:Nat} (hj:j<8) (hL:L (2*j+2)=false) (h0:L 0=true) (hb:L (2*j+1)=true) {o:Oper} {y:Operand}
    (ho:o.op= .insert 181 (.tmp 1) (.tmp (Nat.add j 2)) y):∃w',(execOp a.eval o).run Tryd.prog w= .ok .skip w'∧CInv wz df (upd L (2*j+2)) a w':=by
  obtain ⟨b,es,cl,ks,h1,h2,h3,h4,h5,h6⟩:=C.some_ h0
  have hnot:ks.any (eqI (keyAt j))=false:=by
    rw [List.any_eq_false]
    intro k hk he
    have:=eqI_iff.1 he
    rw [←this] at hk
    have:=(h3 j hj).2 hk
    rw [hL] at this
    cases this
  obtain ⟨es',cl',hr,hk⟩:=put_s (P:=Tryd.prog) keyI (keyAt j) (v:=a.eval y) h2.keys Tryd.runUnderlying181 h2.at_ hnot
  have e1:a.eval (.tmp 1)= .map (some b):=h1
  have e2:a.eval (.tmp (Nat.add j 2))=e_api_Int (keyAt j):=C.built j hj hb
  have hlt:=(Array.getElem?_eq_some_iff.1 h2.at_).1
  refine ⟨setb w b (.map es' cl'),by simp [execOp,ho,e1,e2,hr],C.defers,C.size,fun q hq hLq=>?_,fun h=>?_,fun h=>?_⟩
  · rw [upd_ne (by omega)] at hLq
    exact C.built q hq hLq
  · rw [upd_ne (by omega),h0] at h;cases h
  · refine ⟨b,es',cl',ks++[keyAt j],h1,⟨h2.ge,setb_at hlt,hk,?_⟩,fun q hq=>?_,fun k hk=>?_,fun h=>?_,fun h=>?_⟩
    · refine ⟨h2.ext.os,h2.ext.tape,h2.ext.output,by simpa [setb] using h2.ext.size,fun i hi=>?_⟩
      rw [setb_ne (by have:=h2.ge;omega)]
      exact h2.ext.block i hi
    · by_cases hqj:q=j
      · subst hqj;simp [upd_at]
      · rw [upd_ne (by omega),h3 q hq,List.mem_append,List.mem_singleton]
        exact ⟨.inl,fun h=>h.elim id (fun e=>absurd (keyAt_inj hq hj e) hqj)⟩
    · rcases List.mem_append.1 hk with hk|hk
      · exact h4 k hk
      · exact ⟨j,hj,List.mem_singleton.1 hk⟩
    · rw [upd_ne (by omega)] at h;exact h5 h
    · rw [upd_ne (by omega)] at h;exact h6 h
def okI (k:api_Int):Bool:=k.vSize==1||k.vSize==2||k.vSize==4||k.vSize==8
theorem all_keys {ks:List api_Int} (h3:∀j,j<8→keyAt j∈ks) (h4:∀k∈ks,∃j,j<8∧k=keyAt j) (k:api_Int):ks.any (eqI k)=okI k:=by
  have key:ks.any (eqI k)=true↔okI k=true:=by
    rw [List.any_eq_true]
    constructor
    · rintro ⟨q,hq,he⟩
      obtain ⟨j,hj,rfl⟩:=h4 q hq
      obtain rfl:=eqI_iff.1 he
      have:∀j:Fin 8,okI (keyAt j)=true:=by decide
      exact this ⟨j,hj⟩
    · intro h
      obtain ⟨s,g⟩:=k
      have h1:∃j,j<8∧keyAt j=⟨s,g⟩:=by
        simp only [okI,Bool.or_eq_true,beq_iff_eq] at h
        rcases h with ((h|h)|h)|h<;>subst h<;>cases g
        · exact ⟨1,by decide,rfl⟩
        · exact ⟨0,by decide,rfl⟩
        · exact ⟨3,by decide,rfl⟩
        · exact ⟨2,by decide,rfl⟩
        · exact ⟨5,by decide,rfl⟩
        · exact ⟨4,by decide,rfl⟩
        · exact ⟨7,by decide,rfl⟩
        · exact ⟨6,by decide,rfl⟩
      obtain ⟨j,hj,e⟩:=h1
      exact ⟨keyAt j,h3 j hj,eqI_iff.2 e.symm⟩
  cases h1:ks.any (eqI k) with
  |true=>exact (key.1 h1).symm
  |false=>
    cases h2:okI k with
    |false=>rfl
    |true=>rw [key.2 h2] at h1;cases h1
set_option maxRecDepth 20000 in
set_option maxHeartbeats 4000000 in
theorem bits_conversions.calls {w0:World}:Calls Tryd.prog 124 #[] w0 (fun e w1=>∃b es cl ks,e= .returned (.map (some b))∧w0.heap.size≤b∧w1.heap[b]?=some (.map es cl)∧KeysOk e_api_Int ks es∧(∀k,ks.any (eqI k)=okI k)∧Ext w0 w1):=by
  go_enter Tryd.func124,Tryd.ntmps124
  refine wp_seq ?_
  refine region ?_
  refine run_same (v:=Value.map none) rfl rfl (r_assign rfl) ?_
  try simp only [List.set_cons_zero,List.set_cons_succ]
  refine run_nil ?_
  refine norm_then ?_
  refine wp_seq ?_
  refine drawn_inv (CInv w0 []) hmix (by kernel_rfl) ?_ ?_ ?_
  · intro w' hE
    exact CInv.mk rfl rfl (fun j hj h=>by cases h) (fun _=>⟨hE,fun _ _=>rfl,rfl,rfl⟩) (fun h=>by cases h)
  · intro L a w i o C ho hLi hall
    have hil:i<19:=(List.getElem?_eq_some_iff.1 ho).1
    have hops:=ho
    rw [←List.getElem?_toArray] at hops
    rcases (by omega:i=0∨i=1∨i=2∨i=3∨i=4∨i=5∨i=6∨i=7∨i=8∨i=9∨i=10∨i=11∨i=12∨i=13∨i=14∨i=15∨i=16∨i=17∨i=18) with rfl|rfl|rfl|rfl|rfl|rfl|rfl|rfl|rfl|rfl|rfl|rfl|rfl|rfl|rfl|rfl|rfl|rfl|rfl
    · -- the map
      obtain rfl:=Option.some.inj ho
      obtain ⟨h1,h2,h3,h4⟩:=C.none_ hLi
      refine stepv hops rfl (v:= .map (some w.heap.size)) (w':=w.alloc (.map #[] 0)) ?_ ?_
      · have hn:Sem.run Tryd.prog (Sem.new (Obj.map #[] 0) Sem.pure) w= .ok w.heap.size (w.alloc (.map #[] 0)):=rfl
        simp [execOp,Instr.makeMap,newObj,hn]
      · refine CInv.mk (by simp [Act.put,C.defers]) (by simp [Act.put,C.size]) (fun q hq hL=>?_) (fun h=>by rw [upd_at] at h;cases h) (fun _=>?_)
        · rw [upd_ne (by omega)] at hL
          show (a.put (some 1) _).tmps.getD _ undef=_
          rw [getD_put_ne sl_1'];exact C.built q hq hL
        · refine ⟨w.heap.size,#[],0,[],getD_put_at (by rw [C.size];decide),⟨h1.size,heap_alloc_new w _,rfl,h1.then (Ext.new w _)⟩,fun q hq=>?_,by simp,fun h=>?_,fun h=>?_⟩
          · rw [upd_ne (by omega),h2 q hq];simp
          · rw [upd_ne (by omega),h3] at h;cases h
          · rw [upd_ne (by omega),h4] at h;cases h
    · obtain rfl:=Option.some.inj ho
      exact stepv hops rfl (r_build (cs:=[.int .i64 1, .bool true]) (ps:=[(0, .int .i64 1),(1, .bool true)]) Tryd.zeroValue31 Tryd.runUnderlying31 (pl:=#[(0,1),(1,1)]) (fun w=>by simp [Tryd.sizeOf3,Tryd.sizeOf4]) (parts_2 rfl rfl) rfl) (C.build (j:=0) (by decide))
    · obtain rfl:=Option.some.inj ho
      simp [Region.binds] at hall
      obtain ⟨w', hex, hC⟩ := C.insert (o := ⟨none, .insert 181 (.tmp 1) (.tmp 2) (.func 126), 0, "bits.go:22", #[{ on := 0, ground := Ground.data }, { on := 1, ground := Ground.data }], none⟩) (j := 0) (by decide) hLi hall.1 hall.2 rfl
      exact steps hops rfl rfl hex hC
    · obtain rfl:=Option.some.inj ho
      exact stepv hops rfl (r_build (cs:=[.int .i64 1, .bool false]) (ps:=[(0, .int .i64 1)]) Tryd.zeroValue31 Tryd.runUnderlying31 (pl:=#[(0,1),(1,1)]) (fun w=>by simp [Tryd.sizeOf3,Tryd.sizeOf4]) (parts_1 rfl) rfl) (C.build (j:=1) (by decide))
    · obtain rfl:=Option.some.inj ho
      simp [Region.binds] at hall
      obtain ⟨w', hex, hC⟩ := C.insert (o := ⟨none, .insert 181 (.tmp 1) (.tmp 3) (.func 127), 0, "bits.go:22", #[{ on := 0, ground := Ground.data }, { on := 3, ground := Ground.data }], none⟩) (j := 1) (by decide) hLi hall.1 hall.2 rfl
      exact steps hops rfl rfl hex hC
    · obtain rfl:=Option.some.inj ho
      exact stepv hops rfl (r_build (cs:=[.int .i64 2, .bool true]) (ps:=[(0, .int .i64 2),(1, .bool true)]) Tryd.zeroValue31 Tryd.runUnderlying31 (pl:=#[(0,1),(1,1)]) (fun w=>by simp [Tryd.sizeOf3,Tryd.sizeOf4]) (parts_2 rfl rfl) rfl) (C.build (j:=2) (by decide))
    · obtain rfl:=Option.some.inj ho
      simp [Region.binds] at hall
      obtain ⟨w', hex, hC⟩ := C.insert (o := ⟨none, .insert 181 (.tmp 1) (.tmp 4) (.func 128), 0, "bits.go:22", #[{ on := 0, ground := Ground.data }, { on := 5, ground := Ground.data }], none⟩) (j := 2) (by decide) hLi hall.1 hall.2 rfl
      exact steps hops rfl rfl hex hC
    · obtain rfl:=Option.some.inj ho
      exact stepv hops rfl (r_build (cs:=[.int .i64 2, .bool false]) (ps:=[(0, .int .i64 2)]) Tryd.zeroValue31 Tryd.runUnderlying31 (pl:=#[(0,1),(1,1)]) (fun w=>by simp [Tryd.sizeOf3,Tryd.sizeOf4]) (parts_1 rfl) rfl) (C.build (j:=3) (by decide))
    · obtain rfl:=Option.some.inj ho
      simp [Region.binds] at hall
      obtain ⟨w', hex, hC⟩ := C.insert (o := ⟨none, .insert 181 (.tmp 1) (.tmp 5) (.func 129), 0, "bits.go:22", #[{ on := 0, ground := Ground.data }, { on := 7, ground := Ground.data }], none⟩) (j := 3) (by decide) hLi hall.1 hall.2 rfl
      exact steps hops rfl rfl hex hC
    · obtain rfl:=Option.some.inj ho
      exact stepv hops rfl (r_build (cs:=[.int .i64 4, .bool true]) (ps:=[(0, .int .i64 4),(1, .bool true)]) Tryd.zeroValue31 Tryd.runUnderlying31 (pl:=#[(0,1),(1,1)]) (fun w=>by simp [Tryd.sizeOf3,Tryd.sizeOf4]) (parts_2 rfl rfl) rfl) (C.build (j:=4) (by decide))
    · obtain rfl:=Option.some.inj ho
      simp [Region.binds] at hall
      obtain ⟨w', hex, hC⟩ := C.insert (o := ⟨none, .insert 181 (.tmp 1) (.tmp 6) (.func 130), 0, "bits.go:22", #[{ on := 0, ground := Ground.data }, { on := 9, ground := Ground.data }], none⟩) (j := 4) (by decide) hLi hall.1 hall.2 rfl
      exact steps hops rfl rfl hex hC
    · obtain rfl:=Option.some.inj ho
      exact stepv hops rfl (r_build (cs:=[.int .i64 4, .bool false]) (ps:=[(0, .int .i64 4)]) Tryd.zeroValue31 Tryd.runUnderlying31 (pl:=#[(0,1),(1,1)]) (fun w=>by simp [Tryd.sizeOf3,Tryd.sizeOf4]) (parts_1 rfl) rfl) (C.build (j:=5) (by decide))
    · obtain rfl:=Option.some.inj ho
      simp [Region.binds] at hall
      obtain ⟨w', hex, hC⟩ := C.insert (o := ⟨none, .insert 181 (.tmp 1) (.tmp 7) (.func 131), 0, "bits.go:22", #[{ on := 0, ground := Ground.data }, { on := 11, ground := Ground.data }], none⟩) (j := 5) (by decide) hLi hall.1 hall.2 rfl
      exact steps hops rfl rfl hex hC
    · obtain rfl:=Option.some.inj ho
      exact stepv hops rfl (r_build (cs:=[.int .i64 8, .bool true]) (ps:=[(0, .int .i64 8),(1, .bool true)]) Tryd.zeroValue31 Tryd.runUnderlying31 (pl:=#[(0,1),(1,1)]) (fun w=>by simp [Tryd.sizeOf3,Tryd.sizeOf4]) (parts_2 rfl rfl) rfl) (C.build (j:=6) (by decide))
    · obtain rfl:=Option.some.inj ho
      simp [Region.binds] at hall
      obtain ⟨w', hex, hC⟩ := C.insert (o := ⟨none, .insert 181 (.tmp 1) (.tmp 8) (.func 132), 0, "bits.go:22", #[{ on := 0, ground := Ground.data }, { on := 13, ground := Ground.data }], none⟩) (j := 6) (by decide) hLi hall.1 hall.2 rfl
      exact steps hops rfl rfl hex hC
    · obtain rfl:=Option.some.inj ho
      exact stepv hops rfl (r_build (cs:=[.int .i64 8, .bool false]) (ps:=[(0, .int .i64 8)]) Tryd.zeroValue31 Tryd.runUnderlying31 (pl:=#[(0,1),(1,1)]) (fun w=>by simp [Tryd.sizeOf3,Tryd.sizeOf4]) (parts_1 rfl) rfl) (C.build (j:=7) (by decide))
    · obtain rfl:=Option.some.inj ho
      simp [Region.binds] at hall
      obtain ⟨w', hex, hC⟩ := C.insert (o := ⟨none, .insert 181 (.tmp 1) (.tmp 9) (.func 133), 0, "bits.go:22", #[{ on := 0, ground := Ground.data }, { on := 15, ground := Ground.data }], none⟩) (j := 7) (by decide) hLi hall.1 hall.2 rfl
      exact steps hops rfl rfl hex hC
    · obtain rfl:=Option.some.inj ho
      simp [Region.binds] at hall
      obtain ⟨b,es,cl,ks,h1,h2,h3,h4,h5,h6⟩:=C.some_ hall.1
      refine stepv hops rfl (v:= .map (some b)) (w':=w) (r_move h1) ?_
      refine CInv.mk (by simp [Act.put,C.defers]) (by simp [Act.put,C.size]) (fun q hq hL=>?_) (fun h=>by rw [upd_ne (by omega),hall.1] at h;cases h) (fun _=>⟨b,es,cl,ks,?_,h2,fun q hq=>by rw [upd_ne (by omega)];exact h3 q hq,h4,fun _=>?_,fun h=>?_⟩)
      · rw [upd_ne (by omega)] at hL
        show (a.put (some 10) _).tmps.getD _ undef=_
        rw [getD_put_ne (sl_10' hq)];exact C.built q hq hL
      · exact (getD_put_ne (by decide)).trans h1
      · exact getD_put_at (by rw [C.size];decide)
      · rw [upd_ne (by omega)] at h
        exact (getD_put_ne (by decide)).trans (h6 h)
    · obtain rfl:=Option.some.inj ho
      simp [Region.binds] at hall
      obtain ⟨b,es,cl,ks,h1,h2,h3,h4,h5,h6⟩:=C.some_ hall.2.1
      refine stepv hops rfl (v:= .map (some b)) (w':=w) (r_assign (h5 hall.1)) ?_
      refine CInv.mk (by simp [Act.put,C.defers]) (by simp [Act.put,C.size]) (fun q hq hL=>?_) (fun h=>by rw [upd_ne (by omega),hall.2.1] at h;cases h) (fun _=>⟨b,es,cl,ks,?_,h2,fun q hq=>by rw [upd_ne (by omega)];exact h3 q hq,h4,fun h=>?_,fun _=>?_⟩)
      · rw [upd_ne (by omega)] at hL
        show (a.put (some 0) _).tmps.getD _ undef=_
        rw [getD_put_ne sl_0'];exact C.built q hq hL
      · exact (getD_put_ne (by decide)).trans h1
      · rw [upd_ne (by omega)] at h
        exact (getD_put_ne (by decide)).trans (h5 h)
      · exact getD_put_at (by rw [C.size];decide)
  · intro L a w C hall
    obtain ⟨b,es,cl,ks,h1,h2,h3,h4,h5,h6⟩:=C.some_ (hall 0 (by decide))
    refine norm_then ?_
    refine wp_ret ?_
    refine bodyPost_ret (results_1 rfl (one_tmp (h6 (hall 18 (by decide))))) C.defers ?_
    exact ⟨b,es,cl,ks,rfl,h2.ge,h2.at_,h2.keys,all_keys (fun j hj=>(h3 j hj).1 (hall (2*j+2) (by show 2*j+2<19;omega))) h4,h2.ext⟩
end Go.Proofs.YtfjppgobidjndaaDoor
namespace Go.Proofs.YtfjppgobidjndaaDoor
open Go.RowKit Go.M
def bits_Check.f (a0:api_Int):Option Int:=some (if okI a0=true then 0 else 10)
theorem r_lookups {P:Program} {ρ:Operand→Value} {w:World} {dst:Option Tmp} {ty:TypeId} {pos:String} {after:Array Edge} {guard:Option (Nat×Bool)} {xt:TypeId} {x y:Operand} {b:Nat} {k v:Value} (hx:ρ x= .map (some b)) (hy:ρ y=k)
    (h:(Instr.lookup xt (.map (some b)) k true).run P w= .ok v w):(execOp ρ ⟨dst, .lookup xt x y true,ty,pos,after,guard⟩).run P w= .ok (.value v) w:=by
  simp [execOp,hx,hy,h]
set_option maxRecDepth 20000 in
set_option maxHeartbeats 4000000 in
theorem bits_Check.calls (a0:api_Int) {h0:View} {w0:World} (hv:Sees h0 w0) {r:Int} (H:bits_Check.f a0=some r):Calls Tryd.prog 119 #[Value.agg #[Value.int .i64 a0.vSize,Value.bool a0.vSigned]] w0 (fun e w1=>e= .returned (Value.int .i64 r)∧Ext w0 w1):=by
  unfold bits_Check.f at H
  obtain rfl:=Option.some.inj H
  have HS:St [] h0 w0 h0 [] w0:=St.init hv
  go_enter Tryd.func119,Tryd.ntmps119
  refine wp_seq ?_
  refine region ?_
  refine run_ex rfl rfl (does_box (cs:=#[Value.int .i64 a0.vSize,Value.bool a0.vSigned]) rfl rfl) ?_
  rintro w1 _ hE1 ⟨b1,rfl,ge1,hb1⟩
  have HS1:=HS.new hE1 ge1 hb1
  refine run_same (v:=Value.int .i64 0) rfl rfl (r_assign rfl) ?_
  try simp only [List.set_cons_zero,List.set_cons_succ]
  refine run_nil ?_
  refine norm_then ?_
  refine wp_seq ?_
  refine wp_seq ?_
  refine drawn_chain [([7],[1]),([8,5,9,10,3,4],[1,2,3,4,5,6,7])] [0] [[],[],[0,1],[0,1,2],[0,1,2,3],[0,1,2,3],[0,1,2,3,4],[0,1,2,3,4,5,6]] hmix (by kernel_rfl) ?_
  intro w2 hE2
  have HS2:=HS1.step hE2
  refine chain_eff [e_api_Int a0] ?_ rfl rfl ?_
  · simp only [patch,List.set_cons_zero,List.set_cons_succ]
    exact allg_cons (good_same (v:=e_api_Int a0) rfl rfl rfl rfl (r_loadBoxAgg (n:=2) (vs:=[Value.int .i64 a0.vSize,Value.bool a0.vSigned]) rfl Tryd.isAgg31 (HS2.look 0 rfl) Tryd.sizeOf31 rfl rfl)) allg_nil
  simp only [patch,List.set_cons_zero,List.set_cons_succ]
  refine run_call (vs:=[]) (caps:=[]) Tryd.call124 rfl rfl bits_conversions.calls ?_
  rintro _ w3 ⟨b2,es,cl,ks,rfl,hge,hb,hk,hok,hE3⟩
  refine ⟨_,rfl,?_⟩
  refine qn_nil ?_
  try simp only [List.set_cons_zero,List.set_cons_succ]
  have HS3:=HS2.step hE3
  obtain ⟨v,hlk⟩:=lookup_s keyI a0 hk Tryd.runUnderlying181 Tryd.zeroValue179 hb
  rw [hok a0] at hlk
  refine chain_last [.tuple #[v, .bool (okI a0)], .tuple #[v, .bool (okI a0)],v, .bool (okI a0),v, .bool (okI a0)] ?_ ?_
  · simp only [patch,List.set_cons_zero,List.set_cons_succ]
    exact allg_cons (good_same (v:=e_api_Int a0) rfl rfl rfl rfl (r_loadBoxAgg (n:=2) (vs:=[Value.int .i64 a0.vSize,Value.bool a0.vSigned]) rfl Tryd.isAgg31 (HS3.look 0 rfl) Tryd.sizeOf31 rfl rfl)) (allg_cons (good_same (v:= .tuple #[v, .bool (okI a0)]) rfl rfl rfl rfl (r_lookups rfl rfl hlk))
      (allg_cons (good_same rfl rfl rfl rfl (r_move rfl)) (allg_cons (good_same rfl rfl rfl rfl (r_extract rfl rfl)) (allg_cons (good_same rfl rfl rfl rfl (r_extract rfl rfl)) (allg_cons (good_same rfl rfl rfl rfl (r_assign rfl)) (allg_cons (good_same rfl rfl rfl rfl (r_assign rfl)) allg_nil))))))
  simp only [patch,List.set_cons_zero,List.set_cons_succ]
  refine norm_then ?_
  refine wp_seq ?_
  refine region ?_
  refine run_same (v:=Value.bool (okI a0)) rfl rfl (r_move rfl) ?_
  refine run_same (v:=Value.bool (!(okI a0))) rfl rfl (r_not rfl) ?_
  try simp only [List.set_cons_zero,List.set_cons_succ]
  refine run_nil ?_
  refine norm_then ?_
  refine wp_cond_split (t:= !(okI a0)) rfl (fun c1=>?_) (fun c1=>?_)
  · refine wp_seq ?_
    refine region ?_
    refine run_same (v:=Value.int .i64 10) rfl rfl (r_assign rfl) ?_
    try simp only [List.set_cons_zero,List.set_cons_succ]
    refine run_nil ?_
    refine norm_then ?_
    refine wp_ret ?_
    refine ret_then ?_
    refine bodyPost_ret (results_1 rfl (one_tmp rfl)) rfl ?_
    have:okI a0=false:=by simpa using c1
    rw [this]
    exact ⟨rfl,HS3.toE⟩
  · refine wp_skip ?_
    refine norm_then ?_
    refine wp_seq ?_
    refine region ?_
    refine run_same (v:=Value.int .i64 0) rfl rfl (r_assign rfl) ?_
    try simp only [List.set_cons_zero,List.set_cons_succ]
    refine run_nil ?_
    refine norm_then ?_
    refine wp_ret ?_
    refine bodyPost_ret (results_1 rfl (one_tmp rfl)) rfl ?_
    have:okI a0=true:=by simpa using c1
    rw [this]
    exact ⟨rfl,HS3.toE⟩
end Go.Proofs.YtfjppgobidjndaaDoor
namespace Go.Proofs.YtfjppgobidjndaaDoor
open Go.RowKit Go.M
def ctf_shaped.l0 (k:Nat) (a0:api_Def) (a1:Int):Nat→Int→(List (ByteArray×Bool))→Option ((Bool)⊕((List (ByteArray×Bool))))
 |0,_,_=>none
 |m+1,y1_0,y1_1=>if (decide (y1_0<(a0.vFields.length:Int)))=true then (if 0≤y1_0∧y1_0<a0.vFields.length then ((ctf_isName.f k ((rd z_api_Field a0.vFields y1_0).vName)).bind fun v4=>(if ((!v4)||((mfind strEq y1_1 ((rd z_api_Field a0.vFields y1_0).vName)).getD false))=true then (some (.inl false)) else (if (((a0.vKind==5)&&((((rd z_api_Field a0.vFields y1_0).vType !=0)||(decide ((rd z_api_Field a0.vFields y1_0).vAt<(-2147483648))))||(decide ((rd z_api_Field a0.vFields y1_0).vAt>2147483647))))||((a0.vKind==4)&&((decide ((rd z_api_Field a0.vFields y1_0).vType<0))||(decide ((rd z_api_Field a0.vFields y1_0).vType≥a1)))))=true then (some (.inl false)) else (ctf_shaped.l0 k a0 a1 m (IntKind.wrap .i64 (y1_0+1)) (mput strEq y1_1 ((rd z_api_Field a0.vFields y1_0).vName) true))))) else none) else (some (.inr y1_1))
def ctf_shaped.f (k:Nat) (a0:api_Def) (a1:Int):Option (Bool):=(ctf_shapes.f).bind fun v1=>(((if (!((mfind ieq v1 a0.vKind).isSome))=true then (some (!((mfind ieq v1 a0.vKind).isSome))) else ((if (true&&(((mfind ieq v1 a0.vKind).getD z_ctf_shape).vname==true))=true then ctf_isName.f k a0.vName else some false).bind fun v2=>(if (((mfind ieq v1 a0.vKind).getD z_ctf_shape).vname&&(!v2))=true then (some (((mfind ieq v1 a0.vKind).getD z_ctf_shape).vname&&(!v2))) else (some ((!(((mfind ieq v1 a0.vKind).getD z_ctf_shape).vname))&&(!(strEq a0.vName ByteArray.empty))))))):Option (Bool)).bind fun xx1=>(if xx1=true then (some false) else ((if (true&&(((mfind ieq v1 a0.vKind).getD z_ctf_shape).vint==true))=true then bits_Check.f a0.vInt else some 0).bind fun v3=>(((if (((mfind ieq v1 a0.vKind).getD z_ctf_shape).vint&&(v3 !=0))=true then (some (((mfind ieq v1 a0.vKind).getD z_ctf_shape).vint&&(v3 !=0))) else (some ((!(((mfind ieq v1 a0.vKind).getD z_ctf_shape).vint))&&(!((a0.vInt.vSize==0)&&((a0.vInt.vSigned==false)&&true)))))):Option (Bool)).bind fun xx2=>(if xx2=true then (some false) else (((if (((mfind ieq v1 a0.vKind).getD z_ctf_shape).vref&&((decide (a0.vRef<0))||(decide (a0.vRef≥a1))))=true then (some (((mfind ieq v1 a0.vKind).getD z_ctf_shape).vref&&((decide (a0.vRef<0))||(decide (a0.vRef≥a1))))) else (some ((!(((mfind ieq v1 a0.vKind).getD z_ctf_shape).vref))&&(a0.vRef !=0)))):Option (Bool)).bind fun xx3=>(if xx3=true then (some false) else (((if (((mfind ieq v1 a0.vKind).getD z_ctf_shape).vn&&((decide (a0.vN<1))||(decide (a0.vN>512))))=true then (some (((mfind ieq v1 a0.vKind).getD z_ctf_shape).vn&&((decide (a0.vN<1))||(decide (a0.vN>512))))) else (some ((!(((mfind ieq v1 a0.vKind).getD z_ctf_shape).vn))&&(a0.vN !=0)))):Option (Bool)).bind fun xx4=>(if xx4=true then (some false) else (((if (((mfind ieq v1 a0.vKind).getD z_ctf_shape).vfields !=(decide ((a0.vFields.length:Int)>0)))=true then (some (((mfind ieq v1 a0.vKind).getD z_ctf_shape).vfields !=(decide ((a0.vFields.length:Int)>0)))) else (some (decide ((a0.vFields.length:Int)>32)))):Option (Bool)).bind fun xx5=>(if xx5=true then (some false) else ((ctf_shaped.l0 k a0 a1 k 0 ([]:List (ByteArray×Bool))).bind fun xx6=>(match xx6 with| .inl r=>some r| .inr s1=>some true)))))))))))))
set_option maxRecDepth 20000 in
set_option maxHeartbeats 4000000 in
theorem ctf_shaped.calls (k:Nat) (a0:api_Def) (a1:Int) (A0_6:Option Addr) (c0_6:Nat) {h0:View} {w0:World} (hv:Sees h0 w0) (hr0_6:Rd k_api_Field h0 A0_6 a0.vFields) (hc0_6:a0.vFields.length≤c0_6) {r:Bool} (H:ctf_shaped.f k a0 a1=some r):Calls Tryd.prog 89 #[Value.agg #[vI a0.vKind,vS a0.vName,vI a0.vInt.vSize,vB a0.vInt.vSigned,vI a0.vRef,vI a0.vN,vL A0_6 a0.vFields.length c0_6],vI a1] w0 (fun e w1=>e= .returned (vB r)∧Ext w0 w1):=by
 unfold ctf_shaped.f at H
 have HS:St [] h0 w0 h0 [] w0:=St.init hv
 go_enter Tryd.func89,Tryd.ntmps89
 refine wp_seq ?_
 refine region ?_
 refine run_ex rfl rfl (does_box (cs:=#[vI a0.vKind,vS a0.vName,vI a0.vInt.vSize,vB a0.vInt.vSigned,vI a0.vRef,vI a0.vN,vL A0_6 a0.vFields.length c0_6]) rfl rfl) ?_
 rintro w1 _ hE1 ⟨b1,rfl,ge1,hb1⟩
 have HS1:=HS.new hE1 ge1 hb1
 refine rs (vB false) (r_assign rfl) ?_
 try simp only [sc0,sc1]
 refine run_nil ?_
 refine norm_then ?_
 refine wp_seq ?_
 obtain ⟨v1,H1,H⟩:=of_bind H
 refine drawn_lazy [.ex (NewMap w1 (vI) e_ctf_shape v1), .eq (vP b1 0), .eq (vI a0.vKind), .eq (Value.tuple #[Value.agg #[vB (((mfind ieq v1 a0.vKind).getD z_ctf_shape).vname),vB (((mfind ieq v1 a0.vKind).getD z_ctf_shape).vint),vB (((mfind ieq v1 a0.vKind).getD z_ctf_shape).vref),vB (((mfind ieq v1 a0.vKind).getD z_ctf_shape).vn),vB (((mfind ieq v1 a0.vKind).getD z_ctf_shape).vfields)],vB ((mfind ieq v1 a0.vKind).isSome)]), .eq (Value.tuple #[Value.agg #[vB (((mfind ieq v1 a0.vKind).getD z_ctf_shape).vname),vB (((mfind ieq v1 a0.vKind).getD z_ctf_shape).vint),vB (((mfind ieq v1 a0.vKind).getD z_ctf_shape).vref),vB (((mfind ieq v1 a0.vKind).getD z_ctf_shape).vn),vB (((mfind ieq v1 a0.vKind).getD z_ctf_shape).vfields)],vB ((mfind ieq v1 a0.vKind).isSome)]), .eq (Value.agg #[vB (((mfind ieq v1 a0.vKind).getD z_ctf_shape).vname),vB (((mfind ieq v1 a0.vKind).getD z_ctf_shape).vint),vB (((mfind ieq v1 a0.vKind).getD z_ctf_shape).vref),vB (((mfind ieq v1 a0.vKind).getD z_ctf_shape).vn),vB (((mfind ieq v1 a0.vKind).getD z_ctf_shape).vfields)]), .eq (vB ((mfind ieq v1 a0.vKind).isSome)), .ex (NewBox w1 #[vB false,vB false,vB false,vB false,vB false] 171)] [11,12,13,14,10,15,16,5] 6 16 (vB ((mfind ieq v1 a0.vKind).isSome)) _ _ hmix (by kernel_rfl) rfl rfl rfl rfl rfl (stable_ex NewMap.stable (stable_eq (stable_eq (stable_eq (stable_eq (stable_eq (stable_eq (stable_ex NewBox.stable stable_nil)))))))) ⟨ob_plain rfl (fun a' w' hE hk=>by have HSd:=HS1.step hE;exact does_call Tryd.call116 rfl (map_in hE (ctf_shapes.calls HSd.sees H1)) rfl),ob_plain rfl (fun a' w' hE hk=>by have HSd:=HS1.step hE;exact does_eq (r_fieldBox (n:=1) (o':=0) (show _=vP b1 0 from hk 2 rfl) Tryd.runUnderlying34 rfl Tryd.sizeOf3 (by decide) rfl)),ob_plain rfl (fun a' w' hE hk=>by have HSd:=HS1.step hE;exact does_eq (r_loadBox (show _=vP b1 0 from hk 12 rfl) Tryd.isAgg3 (HSd.look 0 rfl) rfl)),ob_plain rfl (fun a' w' hE hk=>by obtain ⟨_,_,_,e11,_,hb11,ho11⟩:=hk 11 rfl;have HSd:=HS1.step hE;exact does_eq (r_mget2 (key_int Tryd.runUnderlying3) (k:=a0.vKind) (m:=v1) (ev:=e_ctf_shape) z_ctf_shape e11 (show _=vI a0.vKind from hk 13 rfl) Tryd.runUnderlying172 Tryd.zeroValue171 hb11 ho11)),ob_plain rfl (fun a' w' hE hk=>by have HSd:=HS1.step hE;exact does_eq (r_move (show _=Value.tuple #[Value.agg #[vB (((mfind ieq v1 a0.vKind).getD z_ctf_shape).vname),vB (((mfind ieq v1 a0.vKind).getD z_ctf_shape).vint),vB (((mfind ieq v1 a0.vKind).getD z_ctf_shape).vref),vB (((mfind ieq v1 a0.vKind).getD z_ctf_shape).vn),vB (((mfind ieq v1 a0.vKind).getD z_ctf_shape).vfields)],vB ((mfind ieq v1 a0.vKind).isSome)] from hk 14 rfl))),ob_plain rfl (fun a' w' hE hk=>by have HSd:=HS1.step hE;exact does_eq (r_extract (show _=Value.tuple #[Value.agg #[vB (((mfind ieq v1 a0.vKind).getD z_ctf_shape).vname),vB (((mfind ieq v1 a0.vKind).getD z_ctf_shape).vint),vB (((mfind ieq v1 a0.vKind).getD z_ctf_shape).vref),vB (((mfind ieq v1 a0.vKind).getD z_ctf_shape).vn),vB (((mfind ieq v1 a0.vKind).getD z_ctf_shape).vfields)],vB ((mfind ieq v1 a0.vKind).isSome)] from hk 10 rfl) rfl)),ob_plain rfl (fun a' w' hE hk=>by have HSd:=HS1.step hE;exact does_eq (r_extract (show _=Value.tuple #[Value.agg #[vB (((mfind ieq v1 a0.vKind).getD z_ctf_shape).vname),vB (((mfind ieq v1 a0.vKind).getD z_ctf_shape).vint),vB (((mfind ieq v1 a0.vKind).getD z_ctf_shape).vref),vB (((mfind ieq v1 a0.vKind).getD z_ctf_shape).vn),vB (((mfind ieq v1 a0.vKind).getD z_ctf_shape).vfields)],vB ((mfind ieq v1 a0.vKind).isSome)] from hk 10 rfl) rfl)),ob_plain rfl (fun a' w' hE hk=>(alloc_in hE (cs:=#[vB false,vB false,vB false,vB false,vB false]) Tryd.zeroValue171 rfl)),trivial⟩ ?_
 intro w2 hE2
 simp only [List.zip_cons_cons,List.zip_nil_left,List.zip_nil_right,finL,sc0,sc1,List.length_cons,List.length_nil,List.drop_succ_cons,List.drop_zero,Nat.zero_add,Nat.reduceAdd]
 rintro _ ⟨b3,es1,cl1,rfl,ge3,hb3,ho1⟩
 rintro _ ⟨b2,rfl,ge2,hb2⟩
 have HS2:=HS1.two hE2 ge3 hb3 ge2 hb2 (fun e=>by subst e;rw [hb3] at hb2;cases hb2)
 refine lazy_st (i:=0) (cs:=[vB false,vB false,vB false,vB false,vB false]) (cs':=[vB (((mfind ieq v1 a0.vKind).getD z_ctf_shape).vname),vB (((mfind ieq v1 a0.vKind).getD z_ctf_shape).vint),vB (((mfind ieq v1 a0.vKind).getD z_ctf_shape).vref),vB (((mfind ieq v1 a0.vKind).getD z_ctf_shape).vn),vB (((mfind ieq v1 a0.vKind).getD z_ctf_shape).vfields)]) (vs:=[vB (((mfind ieq v1 a0.vKind).getD z_ctf_shape).vname),vB (((mfind ieq v1 a0.vKind).getD z_ctf_shape).vint),vB (((mfind ieq v1 a0.vKind).getD z_ctf_shape).vref),vB (((mfind ieq v1 a0.vKind).getD z_ctf_shape).vn),vB (((mfind ieq v1 a0.vKind).getD z_ctf_shape).vfields)]) (bs':=[(some b2, .cells #[vB (((mfind ieq v1 a0.vKind).getD z_ctf_shape).vname),vB (((mfind ieq v1 a0.vKind).getD z_ctf_shape).vint),vB (((mfind ieq v1 a0.vKind).getD z_ctf_shape).vref),vB (((mfind ieq v1 a0.vKind).getD z_ctf_shape).vn),vB (((mfind ieq v1 a0.vKind).getD z_ctf_shape).vfields)] 171 (0,0)),(some b3, .map es1 cl1),(some b1, .cells #[vI a0.vKind,vS a0.vName,vI a0.vInt.vSize,vB a0.vInt.vSigned,vI a0.vRef,vI a0.vN,vL A0_6 a0.vFields.length c0_6] 34 (0,0))]) (fun _=>rfl) (fun _=>rfl) Tryd.sizeOf171 rfl rfl (by decide) rfl HS2 rfl (Nat.le_of_ble_eq_true rfl) rfl rfl rfl (Nat.le_of_ble_eq_true rfl) (fun w2 HSl u=>(r_extract rfl rfl)) rfl ?_
 intro w3 HS3
 refine rs (vB ((mfind ieq v1 a0.vKind).isSome)) (r_assign rfl) ?_
 try simp only [sc0,sc1]
 refine run_nil ?_
 refine norm_then ?_
 refine wp_seq ?_
 refine wp_block ?_
 refine wp_seq ?_
 refine wp_seq ?_
 refine region ?_
 refine rs (vB ((mfind ieq v1 a0.vKind).isSome)) (r_move rfl) ?_
 refine rs (vB (!((mfind ieq v1 a0.vKind).isSome))) (r_not rfl) ?_
 refine rs (vB (!((mfind ieq v1 a0.vKind).isSome))) (r_assign rfl) ?_
 try simp only [sc0,sc1]
 refine run_nil ?_
 refine norm_then ?_
 obtain ⟨xx1,H,G1⟩:=of_bind H
 refine cut_patch [17,20,21,22,23,24,25,26,27,28,29,30,31,32,33,34,35] (fun us w'=>∃uj1_20 uj1_21 uj1_22 uj1_23 uj1_24 uj1_25 uj1_26 uj1_27 uj1_28 uj1_29 uj1_30 uj1_31 uj1_32 uj1_33 uj1_34 uj1_35:Value,us=[vB xx1,uj1_20,uj1_21,uj1_22,uj1_23,uj1_24,uj1_25,uj1_26,uj1_27,uj1_28,uj1_29,uj1_30,uj1_31,uj1_32,uj1_33,uj1_34,uj1_35]∧St [] h0 w0 h0 [(some b2, .cells #[vB (((mfind ieq v1 a0.vKind).getD z_ctf_shape).vname),vB (((mfind ieq v1 a0.vKind).getD z_ctf_shape).vint),vB (((mfind ieq v1 a0.vKind).getD z_ctf_shape).vref),vB (((mfind ieq v1 a0.vKind).getD z_ctf_shape).vn),vB (((mfind ieq v1 a0.vKind).getD z_ctf_shape).vfields)] 171 (0,0)),(some b3, .map es1 cl1),(some b1, .cells #[vI a0.vKind,vS a0.vName,vI a0.vInt.vSize,vB a0.vInt.vSigned,vI a0.vRef,vI a0.vN,vL A0_6 a0.vFields.length c0_6] 34 (0,0))] w') ?_ ?_
 ·refine wp_cond_split (t:=(!((mfind ieq v1 a0.vKind).isSome))) rfl (fun c1=>?_) (fun c1=>?_)
  ·replace H:=of_pos H c1
   refine wp_skip ?_
   obtain rfl:=Option.some.inj H
   refine met [vB (!((mfind ieq v1 a0.vKind).isSome)),undef,undef,undef,undef,undef,undef,undef,undef,undef,undef,undef,undef,undef,undef,undef,undef] (by simp only [patch,sc0,sc1]) ⟨_,_,_,_,_,_,_,_,_,_,_,_,_,_,_,_,rfl,HS3⟩
  ·replace H:=of_neg H (nt c1)
   refine wp_seq ?_
   refine region ?_
   refine rs (vP b2 0) (r_fieldBox (n:=1) (o':=0) rfl Tryd.runUnderlying171 rfl Tryd.sizeOf4 (by decide) rfl) ?_
   refine rs (vB (((mfind ieq v1 a0.vKind).getD z_ctf_shape).vname)) (r_loadBox rfl Tryd.isAgg4 (HS3.look 0 rfl) rfl) ?_
   refine rs (vB (((mfind ieq v1 a0.vKind).getD z_ctf_shape).vname)) (r_move rfl) ?_
   refine rgs (((mfind ieq v1 a0.vKind).getD z_ctf_shape).vname) true (vP b1 1) rfl rfl rfl rfl (fun hg=>(r_fieldBox (n:=1) (o':=1) rfl Tryd.runUnderlying34 rfl Tryd.sizeOf9 (by decide) rfl)) ?_
   refine run_frame (by simp only [sc0,sc1];rfl) ?_
   refine rgs (((mfind ieq v1 a0.vKind).getD z_ctf_shape).vname) true (vS a0.vName) rfl rfl rfl rfl (fun hg=>(r_loadBox (gvt (vP b1 1) hg rfl) Tryd.isAgg9 (HS3.look 2 rfl) rfl)) ?_
   obtain ⟨v2,H2,H⟩:=of_bind H
   refine run_g (b:=((mfind ieq v1 a0.vKind).getD z_ctf_shape).vname) (c:=true) (v:=vB v2) rfl rfl rfl rfl (fun hg=>(does_call_eq Tryd.call118 rfl (map1 (gvt (vS a0.vName) hg rfl)) (ctf_isName.calls k a0.vName HS3.sees (of_pos H2 hg)))) ?_
   intro w4 hE3
   have HS4:=HS3.step hE3
   refine rgs (((mfind ieq v1 a0.vKind).getD z_ctf_shape).vname) true (vB (!v2)) rfl rfl rfl rfl (fun hg=>(r_not (gvt (vB v2) hg rfl))) ?_
   refine rs (vB (((mfind ieq v1 a0.vKind).getD z_ctf_shape).vname&&(!v2))) (r_pick_and rfl (fun hp=>(gvt (vB (!v2)) (and_i rfl hp) rfl)) rfl) ?_
   refine run_frame (by simp only [sc0,sc1];rfl) ?_
   refine rs (vB (((mfind ieq v1 a0.vKind).getD z_ctf_shape).vname&&(!v2))) (r_assign rfl) ?_
   try simp only [sc0,sc1]
   refine run_nil ?_
   refine norm_then ?_
   refine wp_cond_split (t:=(((mfind ieq v1 a0.vKind).getD z_ctf_shape).vname&&(!v2))) rfl (fun c2=>?_) (fun c2=>?_)
   ·replace H:=of_pos H c2
    refine wp_skip ?_
    obtain rfl:=Option.some.inj H
    refine met [vB (((mfind ieq v1 a0.vKind).getD z_ctf_shape).vname&&(!v2)),vP b2 0,vB (((mfind ieq v1 a0.vKind).getD z_ctf_shape).vname),vB (((mfind ieq v1 a0.vKind).getD z_ctf_shape).vname),gv (true&&(((mfind ieq v1 a0.vKind).getD z_ctf_shape).vname==true)) (vP b1 1),gv (true&&(((mfind ieq v1 a0.vKind).getD z_ctf_shape).vname==true)) (vS a0.vName),gv (true&&(((mfind ieq v1 a0.vKind).getD z_ctf_shape).vname==true)) (vB v2),gv (true&&(((mfind ieq v1 a0.vKind).getD z_ctf_shape).vname==true)) (vB (!v2)),vB (((mfind ieq v1 a0.vKind).getD z_ctf_shape).vname&&(!v2)),undef,undef,undef,undef,undef,undef,undef,undef] (by simp only [patch,sc0,sc1]) ⟨_,_,_,_,_,_,_,_,_,_,_,_,_,_,_,_,rfl,HS4⟩
   ·replace H:=of_neg H (nt c2)
    refine region ?_
    refine rs (vP b2 0) (r_fieldBox (n:=1) (o':=0) rfl Tryd.runUnderlying171 rfl Tryd.sizeOf4 (by decide) rfl) ?_
    refine rs (vB (((mfind ieq v1 a0.vKind).getD z_ctf_shape).vname)) (r_loadBox rfl Tryd.isAgg4 (HS4.look 0 rfl) rfl) ?_
    refine rs (vB (!(((mfind ieq v1 a0.vKind).getD z_ctf_shape).vname))) (r_not rfl) ?_
    refine rs (vB (!(((mfind ieq v1 a0.vKind).getD z_ctf_shape).vname))) (r_move rfl) ?_
    refine run_frame (by simp only [sc0,sc1];rfl) ?_
    refine rgs (!(((mfind ieq v1 a0.vKind).getD z_ctf_shape).vname)) true (vP b1 1) rfl rfl rfl rfl (fun hg=>(r_fieldBox (n:=1) (o':=1) rfl Tryd.runUnderlying34 rfl Tryd.sizeOf9 (by decide) rfl)) ?_
    refine rgs (!(((mfind ieq v1 a0.vKind).getD z_ctf_shape).vname)) true (vS a0.vName) rfl rfl rfl rfl (fun hg=>(r_loadBox (gvt (vP b1 1) hg rfl) Tryd.isAgg9 (HS4.look 2 rfl) rfl)) ?_
    refine rgs (!(((mfind ieq v1 a0.vKind).getD z_ctf_shape).vname)) true (vB (!(strEq a0.vName ByteArray.empty))) rfl rfl rfl rfl (fun hg=>(r_strneq (gvt (vS a0.vName) hg rfl) rfl)) ?_
    refine rs (vB ((!(((mfind ieq v1 a0.vKind).getD z_ctf_shape).vname))&&(!(strEq a0.vName ByteArray.empty)))) (r_pick_and rfl (fun hp=>(gvt (vB (!(strEq a0.vName ByteArray.empty))) (and_i rfl hp) rfl)) rfl) ?_
    refine run_frame (by simp only [sc0,sc1];rfl) ?_
    refine rs (vB ((!(((mfind ieq v1 a0.vKind).getD z_ctf_shape).vname))&&(!(strEq a0.vName ByteArray.empty)))) (r_assign rfl) ?_
    try simp only [sc0,sc1]
    refine run_nil ?_
    obtain rfl:=Option.some.inj H
    refine met [vB ((!(((mfind ieq v1 a0.vKind).getD z_ctf_shape).vname))&&(!(strEq a0.vName ByteArray.empty))),vP b2 0,vB (((mfind ieq v1 a0.vKind).getD z_ctf_shape).vname),vB (((mfind ieq v1 a0.vKind).getD z_ctf_shape).vname),gv (true&&(((mfind ieq v1 a0.vKind).getD z_ctf_shape).vname==true)) (vP b1 1),gv (true&&(((mfind ieq v1 a0.vKind).getD z_ctf_shape).vname==true)) (vS a0.vName),gv (true&&(((mfind ieq v1 a0.vKind).getD z_ctf_shape).vname==true)) (vB v2),gv (true&&(((mfind ieq v1 a0.vKind).getD z_ctf_shape).vname==true)) (vB (!v2)),vB (((mfind ieq v1 a0.vKind).getD z_ctf_shape).vname&&(!v2)),vP b2 0,vB (((mfind ieq v1 a0.vKind).getD z_ctf_shape).vname),vB (!(((mfind ieq v1 a0.vKind).getD z_ctf_shape).vname)),vB (!(((mfind ieq v1 a0.vKind).getD z_ctf_shape).vname)),gv (true&&((!(((mfind ieq v1 a0.vKind).getD z_ctf_shape).vname))==true)) (vP b1 1),gv (true&&((!(((mfind ieq v1 a0.vKind).getD z_ctf_shape).vname))==true)) (vS a0.vName),gv (true&&((!(((mfind ieq v1 a0.vKind).getD z_ctf_shape).vname))==true)) (vB (!(strEq a0.vName ByteArray.empty))),vB ((!(((mfind ieq v1 a0.vKind).getD z_ctf_shape).vname))&&(!(strEq a0.vName ByteArray.empty)))] (by simp only [patch,sc0,sc1]) ⟨_,_,_,_,_,_,_,_,_,_,_,_,_,_,_,_,rfl,HS4⟩
 ·rintro _ w5 ⟨uj1_20,uj1_21,uj1_22,uj1_23,uj1_24,uj1_25,uj1_26,uj1_27,uj1_28,uj1_29,uj1_30,uj1_31,uj1_32,uj1_33,uj1_34,uj1_35,rfl,HS5⟩
  replace H:=G1
  clear G1
  try simp only [patch,sc0,sc1]
  refine wp_cond_split (t:=xx1) rfl (fun c3=>?_) (fun c3=>?_)
  ·replace H:=of_pos H c3
   refine wp_seq ?_
   refine region ?_
   refine rs (vB false) (r_assign rfl) ?_
   try simp only [sc0,sc1]
   refine run_nil ?_
   refine norm_then ?_
   refine wp_ret ?_
   refine ret_block ?_
   refine ret_then ?_
   obtain rfl:=Option.some.inj H
   refine bodyPost_ret (results_1 rfl (one_tmp rfl)) rfl ?_
   exact ⟨rfl,HS5.toE⟩
  ·replace H:=of_neg H (nt c3)
   refine wp_seq ?_
   refine wp_seq ?_
   refine region ?_
   refine rs (vP b2 1) (r_fieldBox (n:=1) (o':=1) rfl Tryd.runUnderlying171 rfl Tryd.sizeOf4 (by decide) rfl) ?_
   refine rs (vB (((mfind ieq v1 a0.vKind).getD z_ctf_shape).vint)) (r_loadBox rfl Tryd.isAgg4 (HS5.look 0 rfl) rfl) ?_
   refine rs (vB (((mfind ieq v1 a0.vKind).getD z_ctf_shape).vint)) (r_move rfl) ?_
   refine rgs (((mfind ieq v1 a0.vKind).getD z_ctf_shape).vint) true (vP b1 2) rfl rfl rfl rfl (fun hg=>(r_fieldBox (n:=2) (o':=2) rfl Tryd.runUnderlying34 rfl Tryd.sizeOf31 (by decide) rfl)) ?_
   refine run_frame (by simp only [sc0,sc1];rfl) ?_
   refine rgs (((mfind ieq v1 a0.vKind).getD z_ctf_shape).vint) true (Value.agg #[vI a0.vInt.vSize,vB a0.vInt.vSigned]) rfl rfl rfl rfl (fun hg=>(r_loadBoxAgg (n:=2) (vs:=[vI a0.vInt.vSize,vB a0.vInt.vSigned]) (gvt (vP b1 2) hg rfl) Tryd.isAgg31 (HS5.look 2 rfl) Tryd.sizeOf31 rfl rfl)) ?_
   obtain ⟨v3,H3,H⟩:=of_bind H
   refine run_g (b:=((mfind ieq v1 a0.vKind).getD z_ctf_shape).vint) (c:=true) (v:=vI v3) rfl rfl rfl rfl (fun hg=>(does_call_eq Tryd.call119 rfl (map1 (gvt (Value.agg #[vI a0.vInt.vSize,vB a0.vInt.vSigned]) hg rfl)) (bits_Check.calls a0.vInt HS5.sees (of_pos H3 hg)))) ?_
   intro w6 hE4
   have HS6:=HS5.step hE4
   refine rgs (((mfind ieq v1 a0.vKind).getD z_ctf_shape).vint) true (vB (v3 !=0)) rfl rfl rfl rfl (fun hg=>(r_bin (gvt (vI v3) hg rfl) rfl rfl)) ?_
   refine rs (vB (((mfind ieq v1 a0.vKind).getD z_ctf_shape).vint&&(v3 !=0))) (r_pick_and rfl (fun hp=>(gvt (vB (v3 !=0)) (and_i rfl hp) rfl)) rfl) ?_
   refine run_frame (by simp only [sc0,sc1];rfl) ?_
   refine rs (vB (((mfind ieq v1 a0.vKind).getD z_ctf_shape).vint&&(v3 !=0))) (r_assign rfl) ?_
   try simp only [sc0,sc1]
   refine run_nil ?_
   refine norm_then ?_
   obtain ⟨xx2,H,G2⟩:=of_bind H
   refine cut_patch [36,45,46,47,48,49,50,51,52,53] (fun us w'=>∃uj2_45 uj2_46 uj2_47 uj2_48 uj2_49 uj2_50 uj2_51 uj2_52 uj2_53:Value,us=[vB xx2,uj2_45,uj2_46,uj2_47,uj2_48,uj2_49,uj2_50,uj2_51,uj2_52,uj2_53]∧St [] h0 w0 h0 [(some b2, .cells #[vB (((mfind ieq v1 a0.vKind).getD z_ctf_shape).vname),vB (((mfind ieq v1 a0.vKind).getD z_ctf_shape).vint),vB (((mfind ieq v1 a0.vKind).getD z_ctf_shape).vref),vB (((mfind ieq v1 a0.vKind).getD z_ctf_shape).vn),vB (((mfind ieq v1 a0.vKind).getD z_ctf_shape).vfields)] 171 (0,0)),(some b3, .map es1 cl1),(some b1, .cells #[vI a0.vKind,vS a0.vName,vI a0.vInt.vSize,vB a0.vInt.vSigned,vI a0.vRef,vI a0.vN,vL A0_6 a0.vFields.length c0_6] 34 (0,0))] w') ?_ ?_
   ·refine wp_cond_split (t:=(((mfind ieq v1 a0.vKind).getD z_ctf_shape).vint&&(v3 !=0))) rfl (fun c4=>?_) (fun c4=>?_)
    ·replace H:=of_pos H c4
     refine wp_skip ?_
     obtain rfl:=Option.some.inj H
     refine met [vB (((mfind ieq v1 a0.vKind).getD z_ctf_shape).vint&&(v3 !=0)),undef,undef,undef,undef,undef,undef,undef,undef,undef] (by simp only [patch,sc0,sc1]) ⟨_,_,_,_,_,_,_,_,_,rfl,HS6⟩
    ·replace H:=of_neg H (nt c4)
     refine region ?_
     refine rs (vP b2 1) (r_fieldBox (n:=1) (o':=1) rfl Tryd.runUnderlying171 rfl Tryd.sizeOf4 (by decide) rfl) ?_
     refine rs (vB (((mfind ieq v1 a0.vKind).getD z_ctf_shape).vint)) (r_loadBox rfl Tryd.isAgg4 (HS6.look 0 rfl) rfl) ?_
     refine rs (vB (!(((mfind ieq v1 a0.vKind).getD z_ctf_shape).vint))) (r_not rfl) ?_
     refine rs (vB (!(((mfind ieq v1 a0.vKind).getD z_ctf_shape).vint))) (r_move rfl) ?_
     refine run_frame (by simp only [sc0,sc1];rfl) ?_
     refine rgs (!(((mfind ieq v1 a0.vKind).getD z_ctf_shape).vint)) true (vP b1 2) rfl rfl rfl rfl (fun hg=>(r_fieldBox (n:=2) (o':=2) rfl Tryd.runUnderlying34 rfl Tryd.sizeOf31 (by decide) rfl)) ?_
     refine rgs (!(((mfind ieq v1 a0.vKind).getD z_ctf_shape).vint)) true (Value.agg #[vI a0.vInt.vSize,vB a0.vInt.vSigned]) rfl rfl rfl rfl (fun hg=>(r_loadBoxAgg (n:=2) (vs:=[vI a0.vInt.vSize,vB a0.vInt.vSigned]) (gvt (vP b1 2) hg rfl) Tryd.isAgg31 (HS6.look 2 rfl) Tryd.sizeOf31 rfl rfl)) ?_
     refine rgs (!(((mfind ieq v1 a0.vKind).getD z_ctf_shape).vint)) true (Value.agg #[vI 0,vB false]) rfl rfl rfl rfl (fun hg=>(r_build0 (cs:=[vI 0,vB false]) Tryd.zeroValue31 Tryd.runUnderlying31 (pl:=#[(0,1),(1,1)]) (fun w=>by simp [Tryd.sizeOf3,Tryd.sizeOf4]) rfl)) ?_
     refine rgs (!(((mfind ieq v1 a0.vKind).getD z_ctf_shape).vint)) true (vB (!((a0.vInt.vSize==0)&&((a0.vInt.vSigned==false)&&true)))) rfl rfl rfl rfl (fun hg=>(r_aggneq (gvt (Value.agg #[vI a0.vInt.vSize,vB a0.vInt.vSigned]) hg rfl) (gvt (Value.agg #[vI 0,vB false]) hg rfl) Tryd.eqGuardType31 (eqr_agg Tryd.stoodInHeld31 Tryd.underlying31 (eqf_cons (by decide) (part_one Tryd.isAgg3 rfl) (part_one Tryd.isAgg3 rfl) (eqr_int Tryd.underlying3) (eqf_cons (by decide) (part_one Tryd.isAgg4 rfl) (part_one Tryd.isAgg4 rfl) (eqr_bool Tryd.underlying4) eqf_nil))))) ?_
     refine run_frame (by simp only [sc0,sc1];rfl) ?_
     refine rs (vB ((!(((mfind ieq v1 a0.vKind).getD z_ctf_shape).vint))&&(!((a0.vInt.vSize==0)&&((a0.vInt.vSigned==false)&&true))))) (r_pick_and rfl (fun hp=>(gvt (vB (!((a0.vInt.vSize==0)&&((a0.vInt.vSigned==false)&&true)))) (and_i rfl hp) rfl)) rfl) ?_
     refine rs (vB ((!(((mfind ieq v1 a0.vKind).getD z_ctf_shape).vint))&&(!((a0.vInt.vSize==0)&&((a0.vInt.vSigned==false)&&true))))) (r_assign rfl) ?_
     try simp only [sc0,sc1]
     refine run_nil ?_
     obtain rfl:=Option.some.inj H
     refine met [vB ((!(((mfind ieq v1 a0.vKind).getD z_ctf_shape).vint))&&(!((a0.vInt.vSize==0)&&((a0.vInt.vSigned==false)&&true)))),vP b2 1,vB (((mfind ieq v1 a0.vKind).getD z_ctf_shape).vint),vB (!(((mfind ieq v1 a0.vKind).getD z_ctf_shape).vint)),vB (!(((mfind ieq v1 a0.vKind).getD z_ctf_shape).vint)),gv (true&&((!(((mfind ieq v1 a0.vKind).getD z_ctf_shape).vint))==true)) (vP b1 2),gv (true&&((!(((mfind ieq v1 a0.vKind).getD z_ctf_shape).vint))==true)) (Value.agg #[vI a0.vInt.vSize,vB a0.vInt.vSigned]),gv (true&&((!(((mfind ieq v1 a0.vKind).getD z_ctf_shape).vint))==true)) (Value.agg #[vI 0,vB false]),gv (true&&((!(((mfind ieq v1 a0.vKind).getD z_ctf_shape).vint))==true)) (vB (!((a0.vInt.vSize==0)&&((a0.vInt.vSigned==false)&&true)))),vB ((!(((mfind ieq v1 a0.vKind).getD z_ctf_shape).vint))&&(!((a0.vInt.vSize==0)&&((a0.vInt.vSigned==false)&&true))))] (by simp only [patch,sc0,sc1]) ⟨_,_,_,_,_,_,_,_,_,rfl,HS6⟩
   ·rintro _ w7 ⟨uj2_45,uj2_46,uj2_47,uj2_48,uj2_49,uj2_50,uj2_51,uj2_52,uj2_53,rfl,HS7⟩
    replace H:=G2
    clear G2
    try simp only [patch,sc0,sc1]
    refine wp_cond_split (t:=xx2) rfl (fun c5=>?_) (fun c5=>?_)
    ·replace H:=of_pos H c5
     refine wp_seq ?_
     refine region ?_
     refine rs (vB false) (r_assign rfl) ?_
     try simp only [sc0,sc1]
     refine run_nil ?_
     refine norm_then ?_
     refine wp_ret ?_
     refine ret_block ?_
     refine ret_then ?_
     obtain rfl:=Option.some.inj H
     refine bodyPost_ret (results_1 rfl (one_tmp rfl)) rfl ?_
     exact ⟨rfl,HS7.toE⟩
    ·replace H:=of_neg H (nt c5)
     refine wp_seq ?_
     refine wp_seq ?_
     refine region ?_
     refine rs (vP b2 2) (r_fieldBox (n:=1) (o':=2) rfl Tryd.runUnderlying171 rfl Tryd.sizeOf4 (by decide) rfl) ?_
     refine rs (vB (((mfind ieq v1 a0.vKind).getD z_ctf_shape).vref)) (r_loadBox rfl Tryd.isAgg4 (HS7.look 0 rfl) rfl) ?_
     refine rs (vB (((mfind ieq v1 a0.vKind).getD z_ctf_shape).vref)) (r_move rfl) ?_
     refine rgs (((mfind ieq v1 a0.vKind).getD z_ctf_shape).vref) true (vP b1 4) rfl rfl rfl rfl (fun hg=>(r_fieldBox (n:=1) (o':=4) rfl Tryd.runUnderlying34 rfl Tryd.sizeOf3 (by decide) rfl)) ?_
     refine run_frame (by simp only [sc0,sc1];rfl) ?_
     refine rgs (((mfind ieq v1 a0.vKind).getD z_ctf_shape).vref) true (vI a0.vRef) rfl rfl rfl rfl (fun hg=>(r_loadBox (gvt (vP b1 4) hg rfl) Tryd.isAgg3 (HS7.look 2 rfl) rfl)) ?_
     refine rgs (((mfind ieq v1 a0.vKind).getD z_ctf_shape).vref) true (vB (decide (a0.vRef<0))) rfl rfl rfl rfl (fun hg=>(r_bin (gvt (vI a0.vRef) hg rfl) rfl rfl)) ?_
     refine rgs (((mfind ieq v1 a0.vKind).getD z_ctf_shape).vref) true (vB (decide (a0.vRef<0))) rfl rfl rfl rfl (fun hg=>(r_move (gvt (vB (decide (a0.vRef<0))) hg rfl))) ?_
     refine rgs (decide (a0.vRef<0)) (true&&(((mfind ieq v1 a0.vKind).getD z_ctf_shape).vref==true)) (vP b1 4) rfl rfl rfl rfl (fun hg=>(r_fieldBox (n:=1) (o':=4) rfl Tryd.runUnderlying34 rfl Tryd.sizeOf3 (by decide) rfl)) ?_
     refine run_frame (by simp only [sc0,sc1];rfl) ?_
     refine rgs (decide (a0.vRef<0)) (true&&(((mfind ieq v1 a0.vKind).getD z_ctf_shape).vref==true)) (vI a0.vRef) rfl rfl rfl rfl (fun hg=>(r_loadBox (gvt (vP b1 4) hg rfl) Tryd.isAgg3 (HS7.look 2 rfl) rfl)) ?_
     refine rgs (decide (a0.vRef<0)) (true&&(((mfind ieq v1 a0.vKind).getD z_ctf_shape).vref==true)) (vI a1) rfl rfl rfl rfl (fun hg=>(r_move rfl)) ?_
     refine rgs (decide (a0.vRef<0)) (true&&(((mfind ieq v1 a0.vKind).getD z_ctf_shape).vref==true)) (vB (decide (a0.vRef≥a1))) rfl rfl rfl rfl (fun hg=>(r_bin (gvt (vI a0.vRef) hg rfl) (gvt (vI a1) hg rfl) rfl)) ?_
     refine rgs (((mfind ieq v1 a0.vKind).getD z_ctf_shape).vref) true (vB ((decide (a0.vRef<0))||(decide (a0.vRef≥a1)))) rfl rfl rfl rfl (fun hg=>(r_pick_or (gvt (vB (decide (a0.vRef<0))) hg rfl) rfl (fun hp=>(gvt (vB (decide (a0.vRef≥a1))) (and_i hg hp) rfl)))) ?_
     refine run_frame (by simp only [sc0,sc1];rfl) ?_
     refine rs (vB (((mfind ieq v1 a0.vKind).getD z_ctf_shape).vref&&((decide (a0.vRef<0))||(decide (a0.vRef≥a1))))) (r_pick_and rfl (fun hp=>(gvt (vB ((decide (a0.vRef<0))||(decide (a0.vRef≥a1)))) (and_i rfl hp) rfl)) rfl) ?_
     refine rs (vB (((mfind ieq v1 a0.vKind).getD z_ctf_shape).vref&&((decide (a0.vRef<0))||(decide (a0.vRef≥a1))))) (r_assign rfl) ?_
     try simp only [sc0,sc1]
     refine run_nil ?_
     refine norm_then ?_
     obtain ⟨xx3,H,G3⟩:=of_bind H
     refine cut_patch [54,68,69,70,71,72,73,74,75] (fun us w'=>∃uj3_68 uj3_69 uj3_70 uj3_71 uj3_72 uj3_73 uj3_74 uj3_75:Value,us=[vB xx3,uj3_68,uj3_69,uj3_70,uj3_71,uj3_72,uj3_73,uj3_74,uj3_75]∧St [] h0 w0 h0 [(some b2, .cells #[vB (((mfind ieq v1 a0.vKind).getD z_ctf_shape).vname),vB (((mfind ieq v1 a0.vKind).getD z_ctf_shape).vint),vB (((mfind ieq v1 a0.vKind).getD z_ctf_shape).vref),vB (((mfind ieq v1 a0.vKind).getD z_ctf_shape).vn),vB (((mfind ieq v1 a0.vKind).getD z_ctf_shape).vfields)] 171 (0,0)),(some b3, .map es1 cl1),(some b1, .cells #[vI a0.vKind,vS a0.vName,vI a0.vInt.vSize,vB a0.vInt.vSigned,vI a0.vRef,vI a0.vN,vL A0_6 a0.vFields.length c0_6] 34 (0,0))] w') ?_ ?_
     ·refine wp_cond_split (t:=(((mfind ieq v1 a0.vKind).getD z_ctf_shape).vref&&((decide (a0.vRef<0))||(decide (a0.vRef≥a1))))) rfl (fun c6=>?_) (fun c6=>?_)
      ·replace H:=of_pos H c6
       refine wp_skip ?_
       obtain rfl:=Option.some.inj H
       refine met [vB (((mfind ieq v1 a0.vKind).getD z_ctf_shape).vref&&((decide (a0.vRef<0))||(decide (a0.vRef≥a1)))),undef,undef,undef,undef,undef,undef,undef,undef] (by simp only [patch,sc0,sc1]) ⟨_,_,_,_,_,_,_,_,rfl,HS7⟩
      ·replace H:=of_neg H (nt c6)
       refine region ?_
       refine rs (vP b2 2) (r_fieldBox (n:=1) (o':=2) rfl Tryd.runUnderlying171 rfl Tryd.sizeOf4 (by decide) rfl) ?_
       refine rs (vB (((mfind ieq v1 a0.vKind).getD z_ctf_shape).vref)) (r_loadBox rfl Tryd.isAgg4 (HS7.look 0 rfl) rfl) ?_
       refine rs (vB (!(((mfind ieq v1 a0.vKind).getD z_ctf_shape).vref))) (r_not rfl) ?_
       refine rs (vB (!(((mfind ieq v1 a0.vKind).getD z_ctf_shape).vref))) (r_move rfl) ?_
       refine run_frame (by simp only [sc0,sc1];rfl) ?_
       refine rgs (!(((mfind ieq v1 a0.vKind).getD z_ctf_shape).vref)) true (vP b1 4) rfl rfl rfl rfl (fun hg=>(r_fieldBox (n:=1) (o':=4) rfl Tryd.runUnderlying34 rfl Tryd.sizeOf3 (by decide) rfl)) ?_
       refine rgs (!(((mfind ieq v1 a0.vKind).getD z_ctf_shape).vref)) true (vI a0.vRef) rfl rfl rfl rfl (fun hg=>(r_loadBox (gvt (vP b1 4) hg rfl) Tryd.isAgg3 (HS7.look 2 rfl) rfl)) ?_
       refine rgs (!(((mfind ieq v1 a0.vKind).getD z_ctf_shape).vref)) true (vB (a0.vRef !=0)) rfl rfl rfl rfl (fun hg=>(r_bin (gvt (vI a0.vRef) hg rfl) rfl rfl)) ?_
       refine rs (vB ((!(((mfind ieq v1 a0.vKind).getD z_ctf_shape).vref))&&(a0.vRef !=0))) (r_pick_and rfl (fun hp=>(gvt (vB (a0.vRef !=0)) (and_i rfl hp) rfl)) rfl) ?_
       refine run_frame (by simp only [sc0,sc1];rfl) ?_
       refine rs (vB ((!(((mfind ieq v1 a0.vKind).getD z_ctf_shape).vref))&&(a0.vRef !=0))) (r_assign rfl) ?_
       try simp only [sc0,sc1]
       refine run_nil ?_
       obtain rfl:=Option.some.inj H
       refine met [vB ((!(((mfind ieq v1 a0.vKind).getD z_ctf_shape).vref))&&(a0.vRef !=0)),vP b2 2,vB (((mfind ieq v1 a0.vKind).getD z_ctf_shape).vref),vB (!(((mfind ieq v1 a0.vKind).getD z_ctf_shape).vref)),vB (!(((mfind ieq v1 a0.vKind).getD z_ctf_shape).vref)),gv (true&&((!(((mfind ieq v1 a0.vKind).getD z_ctf_shape).vref))==true)) (vP b1 4),gv (true&&((!(((mfind ieq v1 a0.vKind).getD z_ctf_shape).vref))==true)) (vI a0.vRef),gv (true&&((!(((mfind ieq v1 a0.vKind).getD z_ctf_shape).vref))==true)) (vB (a0.vRef !=0)),vB ((!(((mfind ieq v1 a0.vKind).getD z_ctf_shape).vref))&&(a0.vRef !=0))] (by simp only [patch,sc0,sc1]) ⟨_,_,_,_,_,_,_,_,rfl,HS7⟩
     ·rintro _ w8 ⟨uj3_68,uj3_69,uj3_70,uj3_71,uj3_72,uj3_73,uj3_74,uj3_75,rfl,HS8⟩
      replace H:=G3
      clear G3
      try simp only [patch,sc0,sc1]
      refine wp_cond_split (t:=xx3) rfl (fun c7=>?_) (fun c7=>?_)
      ·replace H:=of_pos H c7
       refine wp_seq ?_
       refine region ?_
       refine rs (vB false) (r_assign rfl) ?_
       try simp only [sc0,sc1]
       refine run_nil ?_
       refine norm_then ?_
       refine wp_ret ?_
       refine ret_block ?_
       refine ret_then ?_
       obtain rfl:=Option.some.inj H
       refine bodyPost_ret (results_1 rfl (one_tmp rfl)) rfl ?_
       exact ⟨rfl,HS8.toE⟩
      ·replace H:=of_neg H (nt c7)
       refine wp_seq ?_
       refine wp_seq ?_
       refine region ?_
       refine rs (vP b2 3) (r_fieldBox (n:=1) (o':=3) rfl Tryd.runUnderlying171 rfl Tryd.sizeOf4 (by decide) rfl) ?_
       refine rs (vB (((mfind ieq v1 a0.vKind).getD z_ctf_shape).vn)) (r_loadBox rfl Tryd.isAgg4 (HS8.look 0 rfl) rfl) ?_
       refine rs (vB (((mfind ieq v1 a0.vKind).getD z_ctf_shape).vn)) (r_move rfl) ?_
       refine rgs (((mfind ieq v1 a0.vKind).getD z_ctf_shape).vn) true (vP b1 5) rfl rfl rfl rfl (fun hg=>(r_fieldBox (n:=1) (o':=5) rfl Tryd.runUnderlying34 rfl Tryd.sizeOf3 (by decide) rfl)) ?_
       refine run_frame (by simp only [sc0,sc1];rfl) ?_
       refine rgs (((mfind ieq v1 a0.vKind).getD z_ctf_shape).vn) true (vI a0.vN) rfl rfl rfl rfl (fun hg=>(r_loadBox (gvt (vP b1 5) hg rfl) Tryd.isAgg3 (HS8.look 2 rfl) rfl)) ?_
       refine rgs (((mfind ieq v1 a0.vKind).getD z_ctf_shape).vn) true (vB (decide (a0.vN<1))) rfl rfl rfl rfl (fun hg=>(r_bin (gvt (vI a0.vN) hg rfl) rfl rfl)) ?_
       refine rgs (((mfind ieq v1 a0.vKind).getD z_ctf_shape).vn) true (vB (decide (a0.vN<1))) rfl rfl rfl rfl (fun hg=>(r_move (gvt (vB (decide (a0.vN<1))) hg rfl))) ?_
       refine rgs (decide (a0.vN<1)) (true&&(((mfind ieq v1 a0.vKind).getD z_ctf_shape).vn==true)) (vP b1 5) rfl rfl rfl rfl (fun hg=>(r_fieldBox (n:=1) (o':=5) rfl Tryd.runUnderlying34 rfl Tryd.sizeOf3 (by decide) rfl)) ?_
       refine run_frame (by simp only [sc0,sc1];rfl) ?_
       refine rgs (decide (a0.vN<1)) (true&&(((mfind ieq v1 a0.vKind).getD z_ctf_shape).vn==true)) (vI a0.vN) rfl rfl rfl rfl (fun hg=>(r_loadBox (gvt (vP b1 5) hg rfl) Tryd.isAgg3 (HS8.look 2 rfl) rfl)) ?_
       refine rgs (decide (a0.vN<1)) (true&&(((mfind ieq v1 a0.vKind).getD z_ctf_shape).vn==true)) (vB (decide (a0.vN>512))) rfl rfl rfl rfl (fun hg=>(r_bin (gvt (vI a0.vN) hg rfl) rfl rfl)) ?_
       refine rgs (((mfind ieq v1 a0.vKind).getD z_ctf_shape).vn) true (vB ((decide (a0.vN<1))||(decide (a0.vN>512)))) rfl rfl rfl rfl (fun hg=>(r_pick_or (gvt (vB (decide (a0.vN<1))) hg rfl) rfl (fun hp=>(gvt (vB (decide (a0.vN>512))) (and_i hg hp) rfl)))) ?_
       refine rs (vB (((mfind ieq v1 a0.vKind).getD z_ctf_shape).vn&&((decide (a0.vN<1))||(decide (a0.vN>512))))) (r_pick_and rfl (fun hp=>(gvt (vB ((decide (a0.vN<1))||(decide (a0.vN>512)))) (and_i rfl hp) rfl)) rfl) ?_
       refine run_frame (by simp only [sc0,sc1];rfl) ?_
       refine rs (vB (((mfind ieq v1 a0.vKind).getD z_ctf_shape).vn&&((decide (a0.vN<1))||(decide (a0.vN>512))))) (r_assign rfl) ?_
       try simp only [sc0,sc1]
       refine run_nil ?_
       refine norm_then ?_
       obtain ⟨xx4,H,G4⟩:=of_bind H
       refine cut_patch [76,89,90,91,92,93,94,95,96] (fun us w'=>∃uj4_89 uj4_90 uj4_91 uj4_92 uj4_93 uj4_94 uj4_95 uj4_96:Value,us=[vB xx4,uj4_89,uj4_90,uj4_91,uj4_92,uj4_93,uj4_94,uj4_95,uj4_96]∧St [] h0 w0 h0 [(some b2, .cells #[vB (((mfind ieq v1 a0.vKind).getD z_ctf_shape).vname),vB (((mfind ieq v1 a0.vKind).getD z_ctf_shape).vint),vB (((mfind ieq v1 a0.vKind).getD z_ctf_shape).vref),vB (((mfind ieq v1 a0.vKind).getD z_ctf_shape).vn),vB (((mfind ieq v1 a0.vKind).getD z_ctf_shape).vfields)] 171 (0,0)),(some b3, .map es1 cl1),(some b1, .cells #[vI a0.vKind,vS a0.vName,vI a0.vInt.vSize,vB a0.vInt.vSigned,vI a0.vRef,vI a0.vN,vL A0_6 a0.vFields.length c0_6] 34 (0,0))] w') ?_ ?_
       ·refine wp_cond_split (t:=(((mfind ieq v1 a0.vKind).getD z_ctf_shape).vn&&((decide (a0.vN<1))||(decide (a0.vN>512))))) rfl (fun c8=>?_) (fun c8=>?_)
        ·replace H:=of_pos H c8
         refine wp_skip ?_
         obtain rfl:=Option.some.inj H
         refine met [vB (((mfind ieq v1 a0.vKind).getD z_ctf_shape).vn&&((decide (a0.vN<1))||(decide (a0.vN>512)))),undef,undef,undef,undef,undef,undef,undef,undef] (by simp only [patch,sc0,sc1]) ⟨_,_,_,_,_,_,_,_,rfl,HS8⟩
        ·replace H:=of_neg H (nt c8)
         refine region ?_
         refine rs (vP b2 3) (r_fieldBox (n:=1) (o':=3) rfl Tryd.runUnderlying171 rfl Tryd.sizeOf4 (by decide) rfl) ?_
         refine rs (vB (((mfind ieq v1 a0.vKind).getD z_ctf_shape).vn)) (r_loadBox rfl Tryd.isAgg4 (HS8.look 0 rfl) rfl) ?_
         refine rs (vB (!(((mfind ieq v1 a0.vKind).getD z_ctf_shape).vn))) (r_not rfl) ?_
         refine rs (vB (!(((mfind ieq v1 a0.vKind).getD z_ctf_shape).vn))) (r_move rfl) ?_
         refine run_frame (by simp only [sc0,sc1];rfl) ?_
         refine rgs (!(((mfind ieq v1 a0.vKind).getD z_ctf_shape).vn)) true (vP b1 5) rfl rfl rfl rfl (fun hg=>(r_fieldBox (n:=1) (o':=5) rfl Tryd.runUnderlying34 rfl Tryd.sizeOf3 (by decide) rfl)) ?_
         refine rgs (!(((mfind ieq v1 a0.vKind).getD z_ctf_shape).vn)) true (vI a0.vN) rfl rfl rfl rfl (fun hg=>(r_loadBox (gvt (vP b1 5) hg rfl) Tryd.isAgg3 (HS8.look 2 rfl) rfl)) ?_
         refine rgs (!(((mfind ieq v1 a0.vKind).getD z_ctf_shape).vn)) true (vB (a0.vN !=0)) rfl rfl rfl rfl (fun hg=>(r_bin (gvt (vI a0.vN) hg rfl) rfl rfl)) ?_
         refine rs (vB ((!(((mfind ieq v1 a0.vKind).getD z_ctf_shape).vn))&&(a0.vN !=0))) (r_pick_and rfl (fun hp=>(gvt (vB (a0.vN !=0)) (and_i rfl hp) rfl)) rfl) ?_
         refine run_frame (by simp only [sc0,sc1];rfl) ?_
         refine rs (vB ((!(((mfind ieq v1 a0.vKind).getD z_ctf_shape).vn))&&(a0.vN !=0))) (r_assign rfl) ?_
         try simp only [sc0,sc1]
         refine run_nil ?_
         obtain rfl:=Option.some.inj H
         refine met [vB ((!(((mfind ieq v1 a0.vKind).getD z_ctf_shape).vn))&&(a0.vN !=0)),vP b2 3,vB (((mfind ieq v1 a0.vKind).getD z_ctf_shape).vn),vB (!(((mfind ieq v1 a0.vKind).getD z_ctf_shape).vn)),vB (!(((mfind ieq v1 a0.vKind).getD z_ctf_shape).vn)),gv (true&&((!(((mfind ieq v1 a0.vKind).getD z_ctf_shape).vn))==true)) (vP b1 5),gv (true&&((!(((mfind ieq v1 a0.vKind).getD z_ctf_shape).vn))==true)) (vI a0.vN),gv (true&&((!(((mfind ieq v1 a0.vKind).getD z_ctf_shape).vn))==true)) (vB (a0.vN !=0)),vB ((!(((mfind ieq v1 a0.vKind).getD z_ctf_shape).vn))&&(a0.vN !=0))] (by simp only [patch,sc0,sc1]) ⟨_,_,_,_,_,_,_,_,rfl,HS8⟩
       ·rintro _ w9 ⟨uj4_89,uj4_90,uj4_91,uj4_92,uj4_93,uj4_94,uj4_95,uj4_96,rfl,HS9⟩
        replace H:=G4
        clear G4
        try simp only [patch,sc0,sc1]
        refine wp_cond_split (t:=xx4) rfl (fun c9=>?_) (fun c9=>?_)
        ·replace H:=of_pos H c9
         refine wp_seq ?_
         refine region ?_
         refine rs (vB false) (r_assign rfl) ?_
         try simp only [sc0,sc1]
         refine run_nil ?_
         refine norm_then ?_
         refine wp_ret ?_
         refine ret_block ?_
         refine ret_then ?_
         obtain rfl:=Option.some.inj H
         refine bodyPost_ret (results_1 rfl (one_tmp rfl)) rfl ?_
         exact ⟨rfl,HS9.toE⟩
        ·replace H:=of_neg H (nt c9)
         refine wp_seq ?_
         refine wp_seq ?_
         refine region ?_
         refine rs (vP b2 4) (r_fieldBox (n:=1) (o':=4) rfl Tryd.runUnderlying171 rfl Tryd.sizeOf4 (by decide) rfl) ?_
         refine rs (vB (((mfind ieq v1 a0.vKind).getD z_ctf_shape).vfields)) (r_loadBox rfl Tryd.isAgg4 (HS9.look 0 rfl) rfl) ?_
         refine rs (vP b1 6) (r_fieldBox (n:=1) (o':=6) rfl Tryd.runUnderlying34 rfl Tryd.sizeOf32 (by decide) rfl) ?_
         refine rs (vL A0_6 a0.vFields.length c0_6) (r_loadBox rfl Tryd.isAgg32 (HS9.look 2 rfl) rfl) ?_
         refine run_frame (by simp only [sc0,sc1];rfl) ?_
         refine rs (vI (a0.vFields.length:Int)) (r_len rfl Tryd.runUnderlying32) ?_
         refine rs (vB (decide ((a0.vFields.length:Int)>0))) (r_bin rfl rfl rfl) ?_
         refine rs (vB (((mfind ieq v1 a0.vKind).getD z_ctf_shape).vfields !=(decide ((a0.vFields.length:Int)>0)))) (r_boolneq rfl rfl Tryd.runUnderlying4) ?_
         refine rs (vB (((mfind ieq v1 a0.vKind).getD z_ctf_shape).vfields !=(decide ((a0.vFields.length:Int)>0)))) (r_assign rfl) ?_
         try simp only [sc0,sc1]
         refine run_nil ?_
         refine norm_then ?_
         obtain ⟨xx5,H,G5⟩:=of_bind H
         refine cut_patch [97,105,106,107,108] (fun us w'=>∃uj5_105 uj5_106 uj5_107 uj5_108:Value,us=[vB xx5,uj5_105,uj5_106,uj5_107,uj5_108]∧St [] h0 w0 h0 [(some b2, .cells #[vB (((mfind ieq v1 a0.vKind).getD z_ctf_shape).vname),vB (((mfind ieq v1 a0.vKind).getD z_ctf_shape).vint),vB (((mfind ieq v1 a0.vKind).getD z_ctf_shape).vref),vB (((mfind ieq v1 a0.vKind).getD z_ctf_shape).vn),vB (((mfind ieq v1 a0.vKind).getD z_ctf_shape).vfields)] 171 (0,0)),(some b3, .map es1 cl1),(some b1, .cells #[vI a0.vKind,vS a0.vName,vI a0.vInt.vSize,vB a0.vInt.vSigned,vI a0.vRef,vI a0.vN,vL A0_6 a0.vFields.length c0_6] 34 (0,0))] w') ?_ ?_
         ·refine wp_cond_split (t:=(((mfind ieq v1 a0.vKind).getD z_ctf_shape).vfields !=(decide ((a0.vFields.length:Int)>0)))) rfl (fun c10=>?_) (fun c10=>?_)
          ·replace H:=of_pos H c10
           refine wp_skip ?_
           obtain rfl:=Option.some.inj H
           refine met [vB (((mfind ieq v1 a0.vKind).getD z_ctf_shape).vfields !=(decide ((a0.vFields.length:Int)>0))),undef,undef,undef,undef] (by simp only [patch,sc0,sc1]) ⟨_,_,_,_,rfl,HS9⟩
          ·replace H:=of_neg H (nt c10)
           refine region ?_
           refine rs (vP b1 6) (r_fieldBox (n:=1) (o':=6) rfl Tryd.runUnderlying34 rfl Tryd.sizeOf32 (by decide) rfl) ?_
           refine rs (vL A0_6 a0.vFields.length c0_6) (r_loadBox rfl Tryd.isAgg32 (HS9.look 2 rfl) rfl) ?_
           refine rs (vI (a0.vFields.length:Int)) (r_len rfl Tryd.runUnderlying32) ?_
           refine rs (vB (decide ((a0.vFields.length:Int)>32))) (r_bin rfl rfl rfl) ?_
           refine run_frame (by simp only [sc0,sc1];rfl) ?_
           refine rs (vB (decide ((a0.vFields.length:Int)>32))) (r_assign rfl) ?_
           try simp only [sc0,sc1]
           refine run_nil ?_
           obtain rfl:=Option.some.inj H
           refine met [vB (decide ((a0.vFields.length:Int)>32)),vP b1 6,vL A0_6 a0.vFields.length c0_6,vI (a0.vFields.length:Int),vB (decide ((a0.vFields.length:Int)>32))] (by simp only [patch,sc0,sc1]) ⟨_,_,_,_,rfl,HS9⟩
         ·rintro _ w10 ⟨uj5_105,uj5_106,uj5_107,uj5_108,rfl,HS10⟩
          replace H:=G5
          clear G5
          try simp only [patch,sc0,sc1]
          refine wp_cond_split (t:=xx5) rfl (fun c11=>?_) (fun c11=>?_)
          ·replace H:=of_pos H c11
           refine wp_seq ?_
           refine region ?_
           refine rs (vB false) (r_assign rfl) ?_
           try simp only [sc0,sc1]
           refine run_nil ?_
           refine norm_then ?_
           refine wp_ret ?_
           refine ret_block ?_
           refine ret_then ?_
           obtain rfl:=Option.some.inj H
           refine bodyPost_ret (results_1 rfl (one_tmp rfl)) rfl ?_
           exact ⟨rfl,HS10.toE⟩
          ·replace H:=of_neg H (nt c11)
           refine wp_skip ?_
           refine norm_block ?_
           refine norm_then ?_
           refine wp_seq ?_
           refine region ?_
           refine run_mkmap HS10 ?_
           intro w11 b4 HS11
           refine rs (Value.map (some b4)) (r_assign rfl) ?_
           try simp only [sc0,sc1]
           refine run_nil ?_
           refine norm_then ?_
           refine wp_seq ?_
           refine wp_seq ?_
           refine region ?_
           refine rs (vP b1 6) (r_fieldBox (n:=1) (o':=6) rfl Tryd.runUnderlying34 rfl Tryd.sizeOf32 (by decide) rfl) ?_
           refine rs (vL A0_6 a0.vFields.length c0_6) (r_loadBox rfl Tryd.isAgg32 (HS11.look 3 rfl) rfl) ?_
           refine rs (vI (a0.vFields.length:Int)) (r_len rfl Tryd.runUnderlying32) ?_
           refine rs (vI 0) (r_move rfl) ?_
           try simp only [sc0,sc1]
           refine run_nil ?_
           refine norm_then ?_
           obtain ⟨xx6,H,G6⟩:=of_bind H
           refine loop_patch [4,9,113,114,115,116,117,118,119,120,121,122,123,124,125,126,127,128,129,130,131,132,133,134,135,136,137,138,139,140,141,142,143,144,145,146,147,148,149,150,151,152,153,154,155,156,157,158,159,160,161,162,163,164] (fun m us w'=>∃(y1_0:Int),∃(y1_1:List (ByteArray×Bool)),∃(esy1_1:Array MapEntry) (cly1_1:Nat),∃uy1_4 uy1_9 uy1_114 uy1_115 uy1_116 uy1_117 uy1_118 uy1_119 uy1_120 uy1_121 uy1_122 uy1_123 uy1_124 uy1_125 uy1_126 uy1_127 uy1_128 uy1_129 uy1_130 uy1_131 uy1_132 uy1_133 uy1_134 uy1_135 uy1_136 uy1_137 uy1_138 uy1_139 uy1_140 uy1_141 uy1_142 uy1_143 uy1_144 uy1_145 uy1_146 uy1_147 uy1_148 uy1_149 uy1_150 uy1_151 uy1_152 uy1_153 uy1_154 uy1_155 uy1_156 uy1_157 uy1_158 uy1_159 uy1_160 uy1_161 uy1_162 uy1_163 uy1_164:Value,us=[uy1_4,uy1_9,vI y1_0,uy1_114,uy1_115,uy1_116,uy1_117,uy1_118,uy1_119,uy1_120,uy1_121,uy1_122,uy1_123,uy1_124,uy1_125,uy1_126,uy1_127,uy1_128,uy1_129,uy1_130,uy1_131,uy1_132,uy1_133,uy1_134,uy1_135,uy1_136,uy1_137,uy1_138,uy1_139,uy1_140,uy1_141,uy1_142,uy1_143,uy1_144,uy1_145,uy1_146,uy1_147,uy1_148,uy1_149,uy1_150,uy1_151,uy1_152,uy1_153,uy1_154,uy1_155,uy1_156,uy1_157,uy1_158,uy1_159,uy1_160,uy1_161,uy1_162,uy1_163,uy1_164]∧ctf_shaped.l0 k a0 a1 m y1_0 y1_1=some xx6∧MapOk vS vB y1_1 esy1_1 cly1_1∧St [] h0 w0 h0 [(some b4, .map esy1_1 cly1_1),(some b2, .cells #[vB (((mfind ieq v1 a0.vKind).getD z_ctf_shape).vname),vB (((mfind ieq v1 a0.vKind).getD z_ctf_shape).vint),vB (((mfind ieq v1 a0.vKind).getD z_ctf_shape).vref),vB (((mfind ieq v1 a0.vKind).getD z_ctf_shape).vn),vB (((mfind ieq v1 a0.vKind).getD z_ctf_shape).vfields)] 171 (0,0)),(some b3, .map es1 cl1),(some b1, .cells #[vI a0.vKind,vS a0.vName,vI a0.vInt.vSize,vB a0.vInt.vSigned,vI a0.vRef,vI a0.vN,vL A0_6 a0.vFields.length c0_6] 34 (0,0))] w') (fun us w'=>∃(s1:(List (ByteArray×Bool))),xx6= .inr s1∧∃(eso1_0:Array MapEntry) (clo1_0:Nat),∃uo1_4 uo1_9 uo1_113 uo1_114 uo1_115 uo1_116 uo1_117 uo1_118 uo1_119 uo1_120 uo1_121 uo1_122 uo1_123 uo1_124 uo1_125 uo1_126 uo1_127 uo1_128 uo1_129 uo1_130 uo1_131 uo1_132 uo1_133 uo1_134 uo1_135 uo1_136 uo1_137 uo1_138 uo1_139 uo1_140 uo1_141 uo1_142 uo1_143 uo1_144 uo1_145 uo1_146 uo1_147 uo1_148 uo1_149 uo1_150 uo1_151 uo1_152 uo1_153 uo1_154 uo1_155 uo1_156 uo1_157 uo1_158 uo1_159 uo1_160 uo1_161 uo1_162 uo1_163 uo1_164:Value,us=[uo1_4,uo1_9,uo1_113,uo1_114,uo1_115,uo1_116,uo1_117,uo1_118,uo1_119,uo1_120,uo1_121,uo1_122,uo1_123,uo1_124,uo1_125,uo1_126,uo1_127,uo1_128,uo1_129,uo1_130,uo1_131,uo1_132,uo1_133,uo1_134,uo1_135,uo1_136,uo1_137,uo1_138,uo1_139,uo1_140,uo1_141,uo1_142,uo1_143,uo1_144,uo1_145,uo1_146,uo1_147,uo1_148,uo1_149,uo1_150,uo1_151,uo1_152,uo1_153,uo1_154,uo1_155,uo1_156,uo1_157,uo1_158,uo1_159,uo1_160,uo1_161,uo1_162,uo1_163,uo1_164]∧MapOk vS vB s1 eso1_0 clo1_0∧St [] h0 w0 h0 [(some b4, .map eso1_0 clo1_0),(some b2, .cells #[vB (((mfind ieq v1 a0.vKind).getD z_ctf_shape).vname),vB (((mfind ieq v1 a0.vKind).getD z_ctf_shape).vint),vB (((mfind ieq v1 a0.vKind).getD z_ctf_shape).vref),vB (((mfind ieq v1 a0.vKind).getD z_ctf_shape).vn),vB (((mfind ieq v1 a0.vKind).getD z_ctf_shape).vfields)] 171 (0,0)),(some b3, .map es1 cl1),(some b1, .cells #[vI a0.vKind,vS a0.vName,vI a0.vInt.vSize,vB a0.vInt.vSigned,vI a0.vRef,vI a0.vN,vL A0_6 a0.vFields.length c0_6] 34 (0,0))] w') k [vB false,undef,vI 0,undef,undef,undef,undef,undef,undef,undef,undef,undef,undef,undef,undef,undef,undef,undef,undef,undef,undef,undef,undef,undef,undef,undef,undef,undef,undef,undef,undef,undef,undef,undef,undef,undef,undef,undef,undef,undef,undef,undef,undef,undef,undef,undef,undef,undef,undef,undef,undef,undef,undef,undef] (by simp only [patch,sc0,sc1]) ⟨0,([]:List (ByteArray×Bool)),#[],0,_,_,_,_,_,_,_,_,_,_,_,_,_,_,_,_,_,_,_,_,_,_,_,_,_,_,_,_,_,_,_,_,_,_,_,_,_,_,_,_,_,_,_,_,_,_,_,_,_,_,_,_,_,rfl,H,(MapOk.nil),HS11⟩ ?_ ?_
           ·rintro m us w12 ⟨y1_0,y1_1,esy1_1,cly1_1,uy1_4,uy1_9,uy1_114,uy1_115,uy1_116,uy1_117,uy1_118,uy1_119,uy1_120,uy1_121,uy1_122,uy1_123,uy1_124,uy1_125,uy1_126,uy1_127,uy1_128,uy1_129,uy1_130,uy1_131,uy1_132,uy1_133,uy1_134,uy1_135,uy1_136,uy1_137,uy1_138,uy1_139,uy1_140,uy1_141,uy1_142,uy1_143,uy1_144,uy1_145,uy1_146,uy1_147,uy1_148,uy1_149,uy1_150,uy1_151,uy1_152,uy1_153,uy1_154,uy1_155,uy1_156,uy1_157,uy1_158,uy1_159,uy1_160,uy1_161,uy1_162,uy1_163,uy1_164,rfl,H,hoy1_1,HS12⟩
            cases m with
            |zero=>exact absurd H (by simp [ctf_shaped.l0])
            |succ m=>
             rw [ctf_shaped.l0] at H
             try simp only [patch,sc0,sc1]
             refine wp_seq ?_
             refine region ?_
             refine rs (vB (decide (y1_0<(a0.vFields.length:Int)))) (r_bin rfl rfl rfl) ?_
             try simp only [sc0,sc1]
             refine run_nil ?_
             refine norm_then ?_
             refine wp_seq ?_
             refine wp_cond_split (t:=(decide (y1_0<(a0.vFields.length:Int)))) rfl (fun c12=>?_) (fun c12=>?_)
             ·replace H:=of_pos H c12
              refine wp_skip ?_
              refine norm_then ?_
              refine wp_seq ?_
              refine wp_block ?_
              refine wp_seq ?_
              refine region ?_
              obtain ⟨hi1,H⟩:=of_ite H
              obtain ⟨ad1,e1,hel1⟩:=ld_api_Field hr0_6 hi1.1 hi1.2
              refine rs (Value.pointer (some (Addr.add ad1 (y1_0.toNat*3)))) (r_indexA (sz:=3) rfl e1 rfl hi1.1 hi1.2 Tryd.runUnderlying32 Tryd.sizeOf36) ?_
              refine rs (Value.agg #[vS ((rd z_api_Field a0.vFields y1_0).vName),vI ((rd z_api_Field a0.vFields y1_0).vType),vI ((rd z_api_Field a0.vFields y1_0).vAt)]) (r_loadAgg rfl Tryd.isAgg36 (hel1.sees HS12.sees) Tryd.sizeOf36) ?_
              refine run_ex rfl rfl (does_alloc (cs:=#[vS ByteArray.empty,vI 0,vI 0]) Tryd.zeroValue36 rfl) ?_
              rintro w13 _ hE5 ⟨b5,rfl,ge4,hb4⟩
              have HS13:=HS12.new hE5 ge4 hb4
              refine run_st (i:=0) (cs:=[vS ByteArray.empty,vI 0,vI 0]) (cs':=[vS ((rd z_api_Field a0.vFields y1_0).vName),vI ((rd z_api_Field a0.vFields y1_0).vType),vI ((rd z_api_Field a0.vFields y1_0).vAt)]) (vs:=[vS ((rd z_api_Field a0.vFields y1_0).vName),vI ((rd z_api_Field a0.vFields y1_0).vType),vI ((rd z_api_Field a0.vFields y1_0).vAt)]) (bs':=[(some b5, .cells #[vS ((rd z_api_Field a0.vFields y1_0).vName),vI ((rd z_api_Field a0.vFields y1_0).vType),vI ((rd z_api_Field a0.vFields y1_0).vAt)] 36 (0,0)),(some b4, .map esy1_1 cly1_1),(some b2, .cells #[vB (((mfind ieq v1 a0.vKind).getD z_ctf_shape).vname),vB (((mfind ieq v1 a0.vKind).getD z_ctf_shape).vint),vB (((mfind ieq v1 a0.vKind).getD z_ctf_shape).vref),vB (((mfind ieq v1 a0.vKind).getD z_ctf_shape).vn),vB (((mfind ieq v1 a0.vKind).getD z_ctf_shape).vfields)] 171 (0,0)),(some b3, .map es1 cl1),(some b1, .cells #[vI a0.vKind,vS a0.vName,vI a0.vInt.vSize,vB a0.vInt.vSigned,vI a0.vRef,vI a0.vN,vL A0_6 a0.vFields.length c0_6] 34 (0,0))]) rfl rfl Tryd.sizeOf36 rfl rfl (by decide) rfl HS13 rfl (Nat.le_of_ble_eq_true rfl) rfl rfl ?_
              intro w14 HS14
              try simp only [sc0,sc1]
              refine run_nil ?_
              refine norm_then ?_
              refine wp_seq ?_
              refine wp_seq ?_
              refine region ?_
              refine rs (vP b5 0) (r_fieldBox (n:=1) (o':=0) rfl Tryd.runUnderlying36 rfl Tryd.sizeOf9 (by decide) rfl) ?_
              refine rs (vS ((rd z_api_Field a0.vFields y1_0).vName)) (r_loadBox rfl Tryd.isAgg9 (HS14.look 0 rfl) rfl) ?_
              obtain ⟨v4,H4,H⟩:=of_bind H
              refine run_eq (v:=vB v4) rfl rfl (does_call_eq Tryd.call118 rfl rfl (ctf_isName.calls k ((rd z_api_Field a0.vFields y1_0).vName) HS14.sees H4)) ?_
              intro w15 hE6
              have HS15:=HS14.step hE6
              refine rs (vB (!v4)) (r_not rfl) ?_
              refine run_frame (by simp only [sc0,sc1];rfl) ?_
              refine rs (vB (!v4)) (r_move rfl) ?_
              refine rgs (!v4) true (Value.map (some b4)) rfl rfl rfl rfl (fun hg=>(r_move rfl)) ?_
              refine rgs (!v4) true (vP b5 0) rfl rfl rfl rfl (fun hg=>(r_fieldBox (n:=1) (o':=0) rfl Tryd.runUnderlying36 rfl Tryd.sizeOf9 (by decide) rfl)) ?_
              refine rgs (!v4) true (vS ((rd z_api_Field a0.vFields y1_0).vName)) rfl rfl rfl rfl (fun hg=>(r_loadBox (gvt (vP b5 0) hg rfl) Tryd.isAgg9 (HS15.look 0 rfl) rfl)) ?_
              refine run_frame (by simp only [sc0,sc1];rfl) ?_
              refine rgs (!v4) true (vB ((mfind strEq y1_1 ((rd z_api_Field a0.vFields y1_0).vName)).getD false)) rfl rfl rfl rfl (fun hg=>(r_mget (key_str Tryd.runUnderlying9) (k:=((rd z_api_Field a0.vFields y1_0).vName)) (m:=y1_1) (ev:=vB) false (gvt (Value.map (some b4)) hg rfl) (gvt (vS ((rd z_api_Field a0.vFields y1_0).vName)) hg rfl) Tryd.runUnderlying150 Tryd.zeroValue4 (HS15.look 1 rfl) hoy1_1)) ?_
              refine rs (vB ((!v4)||((mfind strEq y1_1 ((rd z_api_Field a0.vFields y1_0).vName)).getD false))) (r_pick_or rfl rfl (fun hp=>(gvt (vB ((mfind strEq y1_1 ((rd z_api_Field a0.vFields y1_0).vName)).getD false)) (and_i rfl hp) rfl))) ?_
              try simp only [sc0,sc1]
              refine run_nil ?_
              refine norm_then ?_
              refine wp_cond_split (t:=((!v4)||((mfind strEq y1_1 ((rd z_api_Field a0.vFields y1_0).vName)).getD false))) rfl (fun c13=>?_) (fun c13=>?_)
              ·replace H:=of_pos H c13
               refine wp_seq ?_
               refine region ?_
               refine rs (vB false) (r_assign rfl) ?_
               try simp only [sc0,sc1]
               refine run_nil ?_
               refine norm_then ?_
               refine wp_ret ?_
               refine ret_then ?_
               refine ret_block ?_
               refine ret_then ?_
               refine ret_loop ?_
               refine ret_then ?_
               obtain rfl:=Option.some.inj H
               obtain rfl:=Option.some.inj G6
               refine bodyPost_ret (results_1 rfl (one_tmp rfl)) rfl ?_
               exact ⟨rfl,HS15.toE⟩
              ·replace H:=of_neg H (nt c13)
               refine wp_skip ?_
               refine norm_then ?_
               refine wp_seq ?_
               refine region ?_
               refine rs (Value.map (some b4)) (r_move rfl) ?_
               refine rs (vP b5 0) (r_fieldBox (n:=1) (o':=0) rfl Tryd.runUnderlying36 rfl Tryd.sizeOf9 (by decide) rfl) ?_
               refine rs (vS ((rd z_api_Field a0.vFields y1_0).vName)) (r_loadBox rfl Tryd.isAgg9 (HS15.look 0 rfl) rfl) ?_
               refine mupd (key_str Tryd.runUnderlying9) (i:=1) (k:=((rd z_api_Field a0.vFields y1_0).vName)) (v:=true) (ev:=vB) (m:=y1_1) (by first|exact .inl rfl|exact .inr rfl) rfl rfl rfl rfl rfl Tryd.runUnderlying150 HS15 rfl hoy1_1 ?_
               intro w16 es2 cl2 HS16 ho2
               try simp only [sc0,sc1]
               refine run_nil ?_
               refine norm_then ?_
               refine wp_seq ?_
               refine region ?_
               refine rs (vP b1 0) (r_fieldBox (n:=1) (o':=0) rfl Tryd.runUnderlying34 rfl Tryd.sizeOf3 (by decide) rfl) ?_
               refine rs (vI a0.vKind) (r_loadBox rfl Tryd.isAgg3 (HS16.look 4 rfl) rfl) ?_
               refine rs (vB (a0.vKind==5)) (r_bin rfl rfl rfl) ?_
               refine rs (vB (a0.vKind==5)) (r_move rfl) ?_
               refine run_frame (by simp only [sc0,sc1];rfl) ?_
               refine rgs (a0.vKind==5) true (vP b5 1) rfl rfl rfl rfl (fun hg=>(r_fieldBox (n:=1) (o':=1) rfl Tryd.runUnderlying36 rfl Tryd.sizeOf3 (by decide) rfl)) ?_
               refine rgs (a0.vKind==5) true (vI ((rd z_api_Field a0.vFields y1_0).vType)) rfl rfl rfl rfl (fun hg=>(r_loadBox (gvt (vP b5 1) hg rfl) Tryd.isAgg3 (HS16.look 0 rfl) rfl)) ?_
               refine rgs (a0.vKind==5) true (vB ((rd z_api_Field a0.vFields y1_0).vType !=0)) rfl rfl rfl rfl (fun hg=>(r_bin (gvt (vI ((rd z_api_Field a0.vFields y1_0).vType)) hg rfl) rfl rfl)) ?_
               refine rgs (a0.vKind==5) true (vB ((rd z_api_Field a0.vFields y1_0).vType !=0)) rfl rfl rfl rfl (fun hg=>(r_move (gvt (vB ((rd z_api_Field a0.vFields y1_0).vType !=0)) hg rfl))) ?_
               refine run_frame (by simp only [sc0,sc1];rfl) ?_
               refine rgs ((rd z_api_Field a0.vFields y1_0).vType !=0) (true&&((a0.vKind==5)==true)) (vP b5 2) rfl rfl rfl rfl (fun hg=>(r_fieldBox (n:=1) (o':=2) rfl Tryd.runUnderlying36 rfl Tryd.sizeOf3 (by decide) rfl)) ?_
               refine rgs ((rd z_api_Field a0.vFields y1_0).vType !=0) (true&&((a0.vKind==5)==true)) (vI ((rd z_api_Field a0.vFields y1_0).vAt)) rfl rfl rfl rfl (fun hg=>(r_loadBox (gvt (vP b5 2) hg rfl) Tryd.isAgg3 (HS16.look 0 rfl) rfl)) ?_
               refine rgs ((rd z_api_Field a0.vFields y1_0).vType !=0) (true&&((a0.vKind==5)==true)) (vB (decide ((rd z_api_Field a0.vFields y1_0).vAt<(-2147483648)))) rfl rfl rfl rfl (fun hg=>(r_bin (gvt (vI ((rd z_api_Field a0.vFields y1_0).vAt)) hg rfl) rfl rfl)) ?_
               refine rgs (a0.vKind==5) true (vB (((rd z_api_Field a0.vFields y1_0).vType !=0)||(decide ((rd z_api_Field a0.vFields y1_0).vAt<(-2147483648))))) rfl rfl rfl rfl (fun hg=>(r_pick_or (gvt (vB ((rd z_api_Field a0.vFields y1_0).vType !=0)) hg rfl) rfl (fun hp=>(gvt (vB (decide ((rd z_api_Field a0.vFields y1_0).vAt<(-2147483648)))) (and_i hg hp) rfl)))) ?_
               refine run_frame (by simp only [sc0,sc1];rfl) ?_
               refine rgs (a0.vKind==5) true (vB (((rd z_api_Field a0.vFields y1_0).vType !=0)||(decide ((rd z_api_Field a0.vFields y1_0).vAt<(-2147483648))))) rfl rfl rfl rfl (fun hg=>(r_move (gvt (vB (((rd z_api_Field a0.vFields y1_0).vType !=0)||(decide ((rd z_api_Field a0.vFields y1_0).vAt<(-2147483648))))) hg rfl))) ?_
               refine rgs (((rd z_api_Field a0.vFields y1_0).vType !=0)||(decide ((rd z_api_Field a0.vFields y1_0).vAt<(-2147483648)))) (true&&((a0.vKind==5)==true)) (vP b5 2) rfl rfl rfl rfl (fun hg=>(r_fieldBox (n:=1) (o':=2) rfl Tryd.runUnderlying36 rfl Tryd.sizeOf3 (by decide) rfl)) ?_
               refine rgs (((rd z_api_Field a0.vFields y1_0).vType !=0)||(decide ((rd z_api_Field a0.vFields y1_0).vAt<(-2147483648)))) (true&&((a0.vKind==5)==true)) (vI ((rd z_api_Field a0.vFields y1_0).vAt)) rfl rfl rfl rfl (fun hg=>(r_loadBox (gvt (vP b5 2) hg rfl) Tryd.isAgg3 (HS16.look 0 rfl) rfl)) ?_
               refine rgs (((rd z_api_Field a0.vFields y1_0).vType !=0)||(decide ((rd z_api_Field a0.vFields y1_0).vAt<(-2147483648)))) (true&&((a0.vKind==5)==true)) (vB (decide ((rd z_api_Field a0.vFields y1_0).vAt>2147483647))) rfl rfl rfl rfl (fun hg=>(r_bin (gvt (vI ((rd z_api_Field a0.vFields y1_0).vAt)) hg rfl) rfl rfl)) ?_
               refine run_frame (by simp only [sc0,sc1];rfl) ?_
               refine rgs (a0.vKind==5) true (vB ((((rd z_api_Field a0.vFields y1_0).vType !=0)||(decide ((rd z_api_Field a0.vFields y1_0).vAt<(-2147483648))))||(decide ((rd z_api_Field a0.vFields y1_0).vAt>2147483647)))) rfl rfl rfl rfl (fun hg=>(r_pick_or (gvt (vB (((rd z_api_Field a0.vFields y1_0).vType !=0)||(decide ((rd z_api_Field a0.vFields y1_0).vAt<(-2147483648))))) hg rfl) rfl (fun hp=>(gvt (vB (decide ((rd z_api_Field a0.vFields y1_0).vAt>2147483647))) (and_i hg hp) rfl)))) ?_
               refine rs (vB ((a0.vKind==5)&&((((rd z_api_Field a0.vFields y1_0).vType !=0)||(decide ((rd z_api_Field a0.vFields y1_0).vAt<(-2147483648))))||(decide ((rd z_api_Field a0.vFields y1_0).vAt>2147483647))))) (r_pick_and rfl (fun hp=>(gvt (vB ((((rd z_api_Field a0.vFields y1_0).vType !=0)||(decide ((rd z_api_Field a0.vFields y1_0).vAt<(-2147483648))))||(decide ((rd z_api_Field a0.vFields y1_0).vAt>2147483647)))) (and_i rfl hp) rfl)) rfl) ?_
               refine rs (vB ((a0.vKind==5)&&((((rd z_api_Field a0.vFields y1_0).vType !=0)||(decide ((rd z_api_Field a0.vFields y1_0).vAt<(-2147483648))))||(decide ((rd z_api_Field a0.vFields y1_0).vAt>2147483647))))) (r_move rfl) ?_
               refine rgs ((a0.vKind==5)&&((((rd z_api_Field a0.vFields y1_0).vType !=0)||(decide ((rd z_api_Field a0.vFields y1_0).vAt<(-2147483648))))||(decide ((rd z_api_Field a0.vFields y1_0).vAt>2147483647)))) true (vP b1 0) rfl rfl rfl rfl (fun hg=>(r_fieldBox (n:=1) (o':=0) rfl Tryd.runUnderlying34 rfl Tryd.sizeOf3 (by decide) rfl)) ?_
               refine run_frame (by simp only [sc0,sc1];rfl) ?_
               refine rgs ((a0.vKind==5)&&((((rd z_api_Field a0.vFields y1_0).vType !=0)||(decide ((rd z_api_Field a0.vFields y1_0).vAt<(-2147483648))))||(decide ((rd z_api_Field a0.vFields y1_0).vAt>2147483647)))) true (vI a0.vKind) rfl rfl rfl rfl (fun hg=>(r_loadBox (gvt (vP b1 0) hg rfl) Tryd.isAgg3 (HS16.look 4 rfl) rfl)) ?_
               refine rgs ((a0.vKind==5)&&((((rd z_api_Field a0.vFields y1_0).vType !=0)||(decide ((rd z_api_Field a0.vFields y1_0).vAt<(-2147483648))))||(decide ((rd z_api_Field a0.vFields y1_0).vAt>2147483647)))) true (vB (a0.vKind==4)) rfl rfl rfl rfl (fun hg=>(r_bin (gvt (vI a0.vKind) hg rfl) rfl rfl)) ?_
               refine rgs ((a0.vKind==5)&&((((rd z_api_Field a0.vFields y1_0).vType !=0)||(decide ((rd z_api_Field a0.vFields y1_0).vAt<(-2147483648))))||(decide ((rd z_api_Field a0.vFields y1_0).vAt>2147483647)))) true (vB (a0.vKind==4)) rfl rfl rfl rfl (fun hg=>(r_move (gvt (vB (a0.vKind==4)) hg rfl))) ?_
               refine rgs (a0.vKind==4) (true&&(((a0.vKind==5)&&((((rd z_api_Field a0.vFields y1_0).vType !=0)||(decide ((rd z_api_Field a0.vFields y1_0).vAt<(-2147483648))))||(decide ((rd z_api_Field a0.vFields y1_0).vAt>2147483647))))==false)) (vP b5 1) rfl rfl rfl rfl (fun hg=>(r_fieldBox (n:=1) (o':=1) rfl Tryd.runUnderlying36 rfl Tryd.sizeOf3 (by decide) rfl)) ?_
               refine run_frame (by simp only [sc0,sc1];rfl) ?_
               refine rgs (a0.vKind==4) (true&&(((a0.vKind==5)&&((((rd z_api_Field a0.vFields y1_0).vType !=0)||(decide ((rd z_api_Field a0.vFields y1_0).vAt<(-2147483648))))||(decide ((rd z_api_Field a0.vFields y1_0).vAt>2147483647))))==false)) (vI ((rd z_api_Field a0.vFields y1_0).vType)) rfl rfl rfl rfl (fun hg=>(r_loadBox (gvt (vP b5 1) hg rfl) Tryd.isAgg3 (HS16.look 0 rfl) rfl)) ?_
               refine rgs (a0.vKind==4) (true&&(((a0.vKind==5)&&((((rd z_api_Field a0.vFields y1_0).vType !=0)||(decide ((rd z_api_Field a0.vFields y1_0).vAt<(-2147483648))))||(decide ((rd z_api_Field a0.vFields y1_0).vAt>2147483647))))==false)) (vB (decide ((rd z_api_Field a0.vFields y1_0).vType<0))) rfl rfl rfl rfl (fun hg=>(r_bin (gvt (vI ((rd z_api_Field a0.vFields y1_0).vType)) hg rfl) rfl rfl)) ?_
               refine rgs (a0.vKind==4) (true&&(((a0.vKind==5)&&((((rd z_api_Field a0.vFields y1_0).vType !=0)||(decide ((rd z_api_Field a0.vFields y1_0).vAt<(-2147483648))))||(decide ((rd z_api_Field a0.vFields y1_0).vAt>2147483647))))==false)) (vB (decide ((rd z_api_Field a0.vFields y1_0).vType<0))) rfl rfl rfl rfl (fun hg=>(r_move (gvt (vB (decide ((rd z_api_Field a0.vFields y1_0).vType<0))) hg rfl))) ?_
               refine rgs (decide ((rd z_api_Field a0.vFields y1_0).vType<0)) ((true&&(((a0.vKind==5)&&((((rd z_api_Field a0.vFields y1_0).vType !=0)||(decide ((rd z_api_Field a0.vFields y1_0).vAt<(-2147483648))))||(decide ((rd z_api_Field a0.vFields y1_0).vAt>2147483647))))==false))&&((a0.vKind==4)==true)) (vP b5 1) rfl rfl rfl rfl (fun hg=>(r_fieldBox (n:=1) (o':=1) rfl Tryd.runUnderlying36 rfl Tryd.sizeOf3 (by decide) rfl)) ?_
               refine run_frame (by simp only [sc0,sc1];rfl) ?_
               refine rgs (decide ((rd z_api_Field a0.vFields y1_0).vType<0)) ((true&&(((a0.vKind==5)&&((((rd z_api_Field a0.vFields y1_0).vType !=0)||(decide ((rd z_api_Field a0.vFields y1_0).vAt<(-2147483648))))||(decide ((rd z_api_Field a0.vFields y1_0).vAt>2147483647))))==false))&&((a0.vKind==4)==true)) (vI ((rd z_api_Field a0.vFields y1_0).vType)) rfl rfl rfl rfl (fun hg=>(r_loadBox (gvt (vP b5 1) hg rfl) Tryd.isAgg3 (HS16.look 0 rfl) rfl)) ?_
               refine rgs (decide ((rd z_api_Field a0.vFields y1_0).vType<0)) ((true&&(((a0.vKind==5)&&((((rd z_api_Field a0.vFields y1_0).vType !=0)||(decide ((rd z_api_Field a0.vFields y1_0).vAt<(-2147483648))))||(decide ((rd z_api_Field a0.vFields y1_0).vAt>2147483647))))==false))&&((a0.vKind==4)==true)) (vI a1) rfl rfl rfl rfl (fun hg=>(r_move rfl)) ?_
               refine rgs (decide ((rd z_api_Field a0.vFields y1_0).vType<0)) ((true&&(((a0.vKind==5)&&((((rd z_api_Field a0.vFields y1_0).vType !=0)||(decide ((rd z_api_Field a0.vFields y1_0).vAt<(-2147483648))))||(decide ((rd z_api_Field a0.vFields y1_0).vAt>2147483647))))==false))&&((a0.vKind==4)==true)) (vB (decide ((rd z_api_Field a0.vFields y1_0).vType≥a1))) rfl rfl rfl rfl (fun hg=>(r_bin (gvt (vI ((rd z_api_Field a0.vFields y1_0).vType)) hg rfl) (gvt (vI a1) hg rfl) rfl)) ?_
               refine rgs (a0.vKind==4) (true&&(((a0.vKind==5)&&((((rd z_api_Field a0.vFields y1_0).vType !=0)||(decide ((rd z_api_Field a0.vFields y1_0).vAt<(-2147483648))))||(decide ((rd z_api_Field a0.vFields y1_0).vAt>2147483647))))==false)) (vB ((decide ((rd z_api_Field a0.vFields y1_0).vType<0))||(decide ((rd z_api_Field a0.vFields y1_0).vType≥a1)))) rfl rfl rfl rfl (fun hg=>(r_pick_or (gvt (vB (decide ((rd z_api_Field a0.vFields y1_0).vType<0))) hg rfl) rfl (fun hp=>(gvt (vB (decide ((rd z_api_Field a0.vFields y1_0).vType≥a1))) (and_i hg hp) rfl)))) ?_
               refine run_frame (by simp only [sc0,sc1];rfl) ?_
               refine rgs ((a0.vKind==5)&&((((rd z_api_Field a0.vFields y1_0).vType !=0)||(decide ((rd z_api_Field a0.vFields y1_0).vAt<(-2147483648))))||(decide ((rd z_api_Field a0.vFields y1_0).vAt>2147483647)))) true (vB ((a0.vKind==4)&&((decide ((rd z_api_Field a0.vFields y1_0).vType<0))||(decide ((rd z_api_Field a0.vFields y1_0).vType≥a1))))) rfl rfl rfl rfl (fun hg=>(r_pick_and (gvt (vB (a0.vKind==4)) hg rfl) (fun hp=>(gvt (vB ((decide ((rd z_api_Field a0.vFields y1_0).vType<0))||(decide ((rd z_api_Field a0.vFields y1_0).vType≥a1)))) (and_i hg hp) rfl)) rfl)) ?_
               refine rs (vB (((a0.vKind==5)&&((((rd z_api_Field a0.vFields y1_0).vType !=0)||(decide ((rd z_api_Field a0.vFields y1_0).vAt<(-2147483648))))||(decide ((rd z_api_Field a0.vFields y1_0).vAt>2147483647))))||((a0.vKind==4)&&((decide ((rd z_api_Field a0.vFields y1_0).vType<0))||(decide ((rd z_api_Field a0.vFields y1_0).vType≥a1)))))) (r_pick_or rfl rfl (fun hp=>(gvt (vB ((a0.vKind==4)&&((decide ((rd z_api_Field a0.vFields y1_0).vType<0))||(decide ((rd z_api_Field a0.vFields y1_0).vType≥a1))))) (and_i rfl hp) rfl))) ?_
               try simp only [sc0,sc1]
               refine run_nil ?_
               refine norm_then ?_
               refine wp_cond_split (t:=(((a0.vKind==5)&&((((rd z_api_Field a0.vFields y1_0).vType !=0)||(decide ((rd z_api_Field a0.vFields y1_0).vAt<(-2147483648))))||(decide ((rd z_api_Field a0.vFields y1_0).vAt>2147483647))))||((a0.vKind==4)&&((decide ((rd z_api_Field a0.vFields y1_0).vType<0))||(decide ((rd z_api_Field a0.vFields y1_0).vType≥a1)))))) rfl (fun c14=>?_) (fun c14=>?_)
               ·replace H:=of_pos H c14
                refine wp_seq ?_
                refine region ?_
                refine rs (vB false) (r_assign rfl) ?_
                try simp only [sc0,sc1]
                refine run_nil ?_
                refine norm_then ?_
                refine wp_ret ?_
                refine ret_block ?_
                refine ret_then ?_
                refine ret_loop ?_
                refine ret_then ?_
                obtain rfl:=Option.some.inj H
                obtain rfl:=Option.some.inj G6
                refine bodyPost_ret (results_1 rfl (one_tmp rfl)) rfl ?_
                exact ⟨rfl,HS16.toE⟩
               ·replace H:=of_neg H (nt c14)
                refine wp_skip ?_
                refine norm_block ?_
                refine norm_then ?_
                refine region ?_
                refine rs (vI (w64 (y1_0+1))) (r_bin rfl rfl rfl) ?_
                refine rs (vI (w64 (y1_0+1))) (r_move rfl) ?_
                try simp only [sc0,sc1]
                refine run_nil ?_
                refine again m [uy1_4,vP b5 0,vI (w64 (y1_0+1)),vB (decide (y1_0<(a0.vFields.length:Int))),Value.pointer (some (Addr.add ad1 (y1_0.toNat*3))),Value.agg #[vS ((rd z_api_Field a0.vFields y1_0).vName),vI ((rd z_api_Field a0.vFields y1_0).vType),vI ((rd z_api_Field a0.vFields y1_0).vAt)],vP b5 0,vS ((rd z_api_Field a0.vFields y1_0).vName),vB v4,vB (!v4),vB (!v4),gv (true&&((!v4)==false)) (Value.map (some b4)),gv (true&&((!v4)==false)) (vP b5 0),gv (true&&((!v4)==false)) (vS ((rd z_api_Field a0.vFields y1_0).vName)),gv (true&&((!v4)==false)) (vB ((mfind strEq y1_1 ((rd z_api_Field a0.vFields y1_0).vName)).getD false)),vB ((!v4)||((mfind strEq y1_1 ((rd z_api_Field a0.vFields y1_0).vName)).getD false)),Value.map (some b4),vP b5 0,vS ((rd z_api_Field a0.vFields y1_0).vName),vP b1 0,vI a0.vKind,vB (a0.vKind==5),vB (a0.vKind==5),gv (true&&((a0.vKind==5)==true)) (vP b5 1),gv (true&&((a0.vKind==5)==true)) (vI ((rd z_api_Field a0.vFields y1_0).vType)),gv (true&&((a0.vKind==5)==true)) (vB ((rd z_api_Field a0.vFields y1_0).vType !=0)),gv (true&&((a0.vKind==5)==true)) (vB ((rd z_api_Field a0.vFields y1_0).vType !=0)),gv ((true&&((a0.vKind==5)==true))&&(((rd z_api_Field a0.vFields y1_0).vType !=0)==false)) (vP b5 2),gv ((true&&((a0.vKind==5)==true))&&(((rd z_api_Field a0.vFields y1_0).vType !=0)==false)) (vI ((rd z_api_Field a0.vFields y1_0).vAt)),gv ((true&&((a0.vKind==5)==true))&&(((rd z_api_Field a0.vFields y1_0).vType !=0)==false)) (vB (decide ((rd z_api_Field a0.vFields y1_0).vAt<(-2147483648)))),gv (true&&((a0.vKind==5)==true)) (vB (((rd z_api_Field a0.vFields y1_0).vType !=0)||(decide ((rd z_api_Field a0.vFields y1_0).vAt<(-2147483648))))),gv (true&&((a0.vKind==5)==true)) (vB (((rd z_api_Field a0.vFields y1_0).vType !=0)||(decide ((rd z_api_Field a0.vFields y1_0).vAt<(-2147483648))))),gv ((true&&((a0.vKind==5)==true))&&((((rd z_api_Field a0.vFields y1_0).vType !=0)||(decide ((rd z_api_Field a0.vFields y1_0).vAt<(-2147483648))))==false)) (vP b5 2),gv ((true&&((a0.vKind==5)==true))&&((((rd z_api_Field a0.vFields y1_0).vType !=0)||(decide ((rd z_api_Field a0.vFields y1_0).vAt<(-2147483648))))==false)) (vI ((rd z_api_Field a0.vFields y1_0).vAt)),gv ((true&&((a0.vKind==5)==true))&&((((rd z_api_Field a0.vFields y1_0).vType !=0)||(decide ((rd z_api_Field a0.vFields y1_0).vAt<(-2147483648))))==false)) (vB (decide ((rd z_api_Field a0.vFields y1_0).vAt>2147483647))),gv (true&&((a0.vKind==5)==true)) (vB ((((rd z_api_Field a0.vFields y1_0).vType !=0)||(decide ((rd z_api_Field a0.vFields y1_0).vAt<(-2147483648))))||(decide ((rd z_api_Field a0.vFields y1_0).vAt>2147483647)))),vB ((a0.vKind==5)&&((((rd z_api_Field a0.vFields y1_0).vType !=0)||(decide ((rd z_api_Field a0.vFields y1_0).vAt<(-2147483648))))||(decide ((rd z_api_Field a0.vFields y1_0).vAt>2147483647)))),vB ((a0.vKind==5)&&((((rd z_api_Field a0.vFields y1_0).vType !=0)||(decide ((rd z_api_Field a0.vFields y1_0).vAt<(-2147483648))))||(decide ((rd z_api_Field a0.vFields y1_0).vAt>2147483647)))),gv (true&&(((a0.vKind==5)&&((((rd z_api_Field a0.vFields y1_0).vType !=0)||(decide ((rd z_api_Field a0.vFields y1_0).vAt<(-2147483648))))||(decide ((rd z_api_Field a0.vFields y1_0).vAt>2147483647))))==false)) (vP b1 0),gv (true&&(((a0.vKind==5)&&((((rd z_api_Field a0.vFields y1_0).vType !=0)||(decide ((rd z_api_Field a0.vFields y1_0).vAt<(-2147483648))))||(decide ((rd z_api_Field a0.vFields y1_0).vAt>2147483647))))==false)) (vI a0.vKind),gv (true&&(((a0.vKind==5)&&((((rd z_api_Field a0.vFields y1_0).vType !=0)||(decide ((rd z_api_Field a0.vFields y1_0).vAt<(-2147483648))))||(decide ((rd z_api_Field a0.vFields y1_0).vAt>2147483647))))==false)) (vB (a0.vKind==4)),gv (true&&(((a0.vKind==5)&&((((rd z_api_Field a0.vFields y1_0).vType !=0)||(decide ((rd z_api_Field a0.vFields y1_0).vAt<(-2147483648))))||(decide ((rd z_api_Field a0.vFields y1_0).vAt>2147483647))))==false)) (vB (a0.vKind==4)),gv ((true&&(((a0.vKind==5)&&((((rd z_api_Field a0.vFields y1_0).vType !=0)||(decide ((rd z_api_Field a0.vFields y1_0).vAt<(-2147483648))))||(decide ((rd z_api_Field a0.vFields y1_0).vAt>2147483647))))==false))&&((a0.vKind==4)==true)) (vP b5 1),gv ((true&&(((a0.vKind==5)&&((((rd z_api_Field a0.vFields y1_0).vType !=0)||(decide ((rd z_api_Field a0.vFields y1_0).vAt<(-2147483648))))||(decide ((rd z_api_Field a0.vFields y1_0).vAt>2147483647))))==false))&&((a0.vKind==4)==true)) (vI ((rd z_api_Field a0.vFields y1_0).vType)),gv ((true&&(((a0.vKind==5)&&((((rd z_api_Field a0.vFields y1_0).vType !=0)||(decide ((rd z_api_Field a0.vFields y1_0).vAt<(-2147483648))))||(decide ((rd z_api_Field a0.vFields y1_0).vAt>2147483647))))==false))&&((a0.vKind==4)==true)) (vB (decide ((rd z_api_Field a0.vFields y1_0).vType<0))),gv ((true&&(((a0.vKind==5)&&((((rd z_api_Field a0.vFields y1_0).vType !=0)||(decide ((rd z_api_Field a0.vFields y1_0).vAt<(-2147483648))))||(decide ((rd z_api_Field a0.vFields y1_0).vAt>2147483647))))==false))&&((a0.vKind==4)==true)) (vB (decide ((rd z_api_Field a0.vFields y1_0).vType<0))),gv (((true&&(((a0.vKind==5)&&((((rd z_api_Field a0.vFields y1_0).vType !=0)||(decide ((rd z_api_Field a0.vFields y1_0).vAt<(-2147483648))))||(decide ((rd z_api_Field a0.vFields y1_0).vAt>2147483647))))==false))&&((a0.vKind==4)==true))&&((decide ((rd z_api_Field a0.vFields y1_0).vType<0))==false)) (vP b5 1),gv (((true&&(((a0.vKind==5)&&((((rd z_api_Field a0.vFields y1_0).vType !=0)||(decide ((rd z_api_Field a0.vFields y1_0).vAt<(-2147483648))))||(decide ((rd z_api_Field a0.vFields y1_0).vAt>2147483647))))==false))&&((a0.vKind==4)==true))&&((decide ((rd z_api_Field a0.vFields y1_0).vType<0))==false)) (vI ((rd z_api_Field a0.vFields y1_0).vType)),gv (((true&&(((a0.vKind==5)&&((((rd z_api_Field a0.vFields y1_0).vType !=0)||(decide ((rd z_api_Field a0.vFields y1_0).vAt<(-2147483648))))||(decide ((rd z_api_Field a0.vFields y1_0).vAt>2147483647))))==false))&&((a0.vKind==4)==true))&&((decide ((rd z_api_Field a0.vFields y1_0).vType<0))==false)) (vI a1),gv (((true&&(((a0.vKind==5)&&((((rd z_api_Field a0.vFields y1_0).vType !=0)||(decide ((rd z_api_Field a0.vFields y1_0).vAt<(-2147483648))))||(decide ((rd z_api_Field a0.vFields y1_0).vAt>2147483647))))==false))&&((a0.vKind==4)==true))&&((decide ((rd z_api_Field a0.vFields y1_0).vType<0))==false)) (vB (decide ((rd z_api_Field a0.vFields y1_0).vType≥a1))),gv ((true&&(((a0.vKind==5)&&((((rd z_api_Field a0.vFields y1_0).vType !=0)||(decide ((rd z_api_Field a0.vFields y1_0).vAt<(-2147483648))))||(decide ((rd z_api_Field a0.vFields y1_0).vAt>2147483647))))==false))&&((a0.vKind==4)==true)) (vB ((decide ((rd z_api_Field a0.vFields y1_0).vType<0))||(decide ((rd z_api_Field a0.vFields y1_0).vType≥a1)))),gv (true&&(((a0.vKind==5)&&((((rd z_api_Field a0.vFields y1_0).vType !=0)||(decide ((rd z_api_Field a0.vFields y1_0).vAt<(-2147483648))))||(decide ((rd z_api_Field a0.vFields y1_0).vAt>2147483647))))==false)) (vB ((a0.vKind==4)&&((decide ((rd z_api_Field a0.vFields y1_0).vType<0))||(decide ((rd z_api_Field a0.vFields y1_0).vType≥a1))))),vB (((a0.vKind==5)&&((((rd z_api_Field a0.vFields y1_0).vType !=0)||(decide ((rd z_api_Field a0.vFields y1_0).vAt<(-2147483648))))||(decide ((rd z_api_Field a0.vFields y1_0).vAt>2147483647))))||((a0.vKind==4)&&((decide ((rd z_api_Field a0.vFields y1_0).vType<0))||(decide ((rd z_api_Field a0.vFields y1_0).vType≥a1))))),vI (w64 (y1_0+1))] (Nat.lt_succ_self m) (by simp only [patch,sc0,sc1]) ⟨(w64 (y1_0+1)),(mput strEq y1_1 ((rd z_api_Field a0.vFields y1_0).vName) true),es2,cl2,_,_,_,_,_,_,_,_,_,_,_,_,_,_,_,_,_,_,_,_,_,_,_,_,_,_,_,_,_,_,_,_,_,_,_,_,_,_,_,_,_,_,_,_,_,_,_,_,_,_,_,_,_,rfl,H,ho2,HS16.tail⟩
             ·replace H:=of_neg H (nt c12)
              refine wp_exit ?_
              refine exit_then ?_
              obtain rfl:=Option.some.inj H
              refine leave [uy1_4,uy1_9,vI y1_0,vB (decide (y1_0<(a0.vFields.length:Int))),uy1_115,uy1_116,uy1_117,uy1_118,uy1_119,uy1_120,uy1_121,uy1_122,uy1_123,uy1_124,uy1_125,uy1_126,uy1_127,uy1_128,uy1_129,uy1_130,uy1_131,uy1_132,uy1_133,uy1_134,uy1_135,uy1_136,uy1_137,uy1_138,uy1_139,uy1_140,uy1_141,uy1_142,uy1_143,uy1_144,uy1_145,uy1_146,uy1_147,uy1_148,uy1_149,uy1_150,uy1_151,uy1_152,uy1_153,uy1_154,uy1_155,uy1_156,uy1_157,uy1_158,uy1_159,uy1_160,uy1_161,uy1_162,uy1_163,uy1_164] (by simp only [patch,sc0,sc1]) ⟨_,rfl,esy1_1,cly1_1,_,_,_,_,_,_,_,_,_,_,_,_,_,_,_,_,_,_,_,_,_,_,_,_,_,_,_,_,_,_,_,_,_,_,_,_,_,_,_,_,_,_,_,_,_,_,_,_,_,_,_,_,_,_,rfl,hoy1_1,HS12⟩
           ·rintro us w17 ⟨s1,rfl,eso1_0,clo1_0,uo1_4,uo1_9,uo1_113,uo1_114,uo1_115,uo1_116,uo1_117,uo1_118,uo1_119,uo1_120,uo1_121,uo1_122,uo1_123,uo1_124,uo1_125,uo1_126,uo1_127,uo1_128,uo1_129,uo1_130,uo1_131,uo1_132,uo1_133,uo1_134,uo1_135,uo1_136,uo1_137,uo1_138,uo1_139,uo1_140,uo1_141,uo1_142,uo1_143,uo1_144,uo1_145,uo1_146,uo1_147,uo1_148,uo1_149,uo1_150,uo1_151,uo1_152,uo1_153,uo1_154,uo1_155,uo1_156,uo1_157,uo1_158,uo1_159,uo1_160,uo1_161,uo1_162,uo1_163,uo1_164,rfl,hoo1_0,HS17⟩
            replace H:=G6
            clear G6
            try simp only [patch,sc0,sc1]
            refine norm_then ?_
            refine wp_seq ?_
            refine region ?_
            refine rs (vB true) (r_assign rfl) ?_
            try simp only [sc0,sc1]
            refine run_nil ?_
            refine norm_then ?_
            refine wp_ret ?_
            obtain rfl:=Option.some.inj H
            refine bodyPost_ret (results_1 rfl (one_tmp rfl)) rfl ?_
            exact ⟨rfl,HS17.toE⟩

end Go.Proofs.YtfjppgobidjndaaDoor
namespace Go.Proofs.YtfjppgobidjndaaDoor
open Go.RowKit Go.M
def slices_IndexFunc_api_Def_api_Def.l0 (a0:List api_Def) (a1:(api_Def→Option Bool)):Nat→Int→Option ((Int)⊕(Unit))
 |0,_=>none
 |m+1,y1_0=>if (decide (y1_0<(a0.length:Int)))=true then (if 0≤y1_0∧y1_0<a0.length then ((a1 (rd z_api_Def a0 y1_0)).bind fun v1=>(if v1=true then (some (.inl y1_0)) else (slices_IndexFunc_api_Def_api_Def.l0 a0 a1 m (IntKind.wrap .i64 (y1_0+1))))) else none) else (some (.inr ()))
def slices_IndexFunc_api_Def_api_Def.f (k:Nat) (a0:List api_Def) (a1:api_Def→Option Bool):Option (Int):=(slices_IndexFunc_api_Def_api_Def.l0 a0 a1 k 0).bind fun xx1=>(match xx1 with| .inl r=>some r| .inr s1=>some (-1))
set_option maxRecDepth 20000 in
set_option maxHeartbeats 4000000 in
theorem slices_IndexFunc_api_Def_api_Def.calls (k:Nat) (a0:List api_Def) (a1:api_Def→Option Bool) (A0_0:Option Addr) (c0_0:Nat) (fid1:Nat) (cap1:List Value) {h0:View} {w0:World} (hv:Sees h0 w0) (hr0_0:Rd k_api_Def h0 A0_0 a0) (hc0_0:a0.length≤c0_0) (hent1:∀args w,(callFunc fid1 args).run Tryd.prog w= .ok (.enter fid1 args) w) (hfp1:∀(z0:api_Def) (Az0_6:Option Addr) (cz0_6:Nat) (h:View) (w:World),Ext w0 w→Sub h0 h→Sees h w→Rd k_api_Field h Az0_6 z0.vFields→z0.vFields.length≤cz0_6→∀(r:Bool),a1 z0=some r→Calls Tryd.prog fid1 ([Value.agg #[vI z0.vKind,vS z0.vName,vI z0.vInt.vSize,vB z0.vInt.vSigned,vI z0.vRef,vI z0.vN,vL Az0_6 z0.vFields.length cz0_6]]++cap1).toArray w (fun e w1=>e= .returned (vB r)∧Ext w w1)) {r:Int} (H:slices_IndexFunc_api_Def_api_Def.f k a0 a1=some r):Calls Tryd.prog 100 #[vL A0_0 a0.length c0_0,Value.func (.func fid1) #[] cap1.toArray] w0 (fun e w1=>e= .returned (vI r)∧Ext w0 w1):=by
 unfold slices_IndexFunc_api_Def_api_Def.f at H
 have HS:St [] h0 w0 h0 [] w0:=St.init hv
 go_enter Tryd.func100,Tryd.ntmps100
 refine wp_seq ?_
 refine region ?_
 refine rs (vI 0) (r_assign rfl) ?_
 try simp only [sc0,sc1]
 refine run_nil ?_
 refine norm_then ?_
 refine wp_seq ?_
 refine wp_seq ?_
 refine region ?_
 refine rs (vL A0_0 a0.length c0_0) (r_move rfl) ?_
 refine rs (vI (a0.length:Int)) (r_len rfl Tryd.runUnderlying22) ?_
 refine rs (vI 0) (r_move rfl) ?_
 try simp only [sc0,sc1]
 refine run_nil ?_
 refine norm_then ?_
 obtain ⟨xx1,H,G1⟩:=of_bind H
 refine loop_patch [4,5,8,9,10,11,12,13,14,15,16,17,18] (fun m us w'=>∃y1_0:Int,∃uy1_4 uy1_5 uy1_9 uy1_10 uy1_11 uy1_12 uy1_13 uy1_14 uy1_15 uy1_16 uy1_17 uy1_18:Value,us=[uy1_4,uy1_5,vI y1_0,uy1_9,uy1_10,uy1_11,uy1_12,uy1_13,uy1_14,uy1_15,uy1_16,uy1_17,uy1_18]∧slices_IndexFunc_api_Def_api_Def.l0 a0 a1 m y1_0=some xx1∧St [] h0 w0 h0 [] w') (fun us w'=>∃(s1:Unit),xx1= .inr s1∧∃uo1_4 uo1_5 uo1_8 uo1_9 uo1_10 uo1_11 uo1_12 uo1_13 uo1_14 uo1_15 uo1_16 uo1_17 uo1_18:Value,us=[uo1_4,uo1_5,uo1_8,uo1_9,uo1_10,uo1_11,uo1_12,uo1_13,uo1_14,uo1_15,uo1_16,uo1_17,uo1_18]∧St [] h0 w0 h0 [] w') k [vI 0,undef,vI 0,undef,undef,undef,undef,undef,undef,undef,undef,undef,undef] (by simp only [patch,sc0,sc1]) ⟨0,_,_,_,_,_,_,_,_,_,_,_,_,rfl,H,HS⟩ ?_ ?_
 ·rintro m us w1 ⟨y1_0,uy1_4,uy1_5,uy1_9,uy1_10,uy1_11,uy1_12,uy1_13,uy1_14,uy1_15,uy1_16,uy1_17,uy1_18,rfl,H,HS1⟩
  cases m with
  |zero=>exact absurd H (by simp [slices_IndexFunc_api_Def_api_Def.l0])
  |succ m=>
   rw [slices_IndexFunc_api_Def_api_Def.l0] at H
   try simp only [patch,sc0,sc1]
   refine wp_seq ?_
   refine region ?_
   refine rs (vB (decide (y1_0<(a0.length:Int)))) (r_bin rfl rfl rfl) ?_
   try simp only [sc0,sc1]
   refine run_nil ?_
   refine norm_then ?_
   refine wp_seq ?_
   refine wp_cond_split (t:=(decide (y1_0<(a0.length:Int)))) rfl (fun c1=>?_) (fun c1=>?_)
   ·replace H:=of_pos H c1
    refine wp_skip ?_
    refine norm_then ?_
    refine wp_seq ?_
    refine wp_block ?_
    refine wp_seq ?_
    refine region ?_
    refine rs (vI y1_0) (r_move rfl) ?_
    refine rs (vI y1_0) (r_assign rfl) ?_
    try simp only [sc0,sc1]
    refine run_nil ?_
    refine norm_then ?_
    refine wp_seq ?_
    refine region ?_
    refine rs (Value.func (.func fid1) #[] cap1.toArray) (r_move rfl) ?_
    refine rs (vL A0_0 a0.length c0_0) (r_move rfl) ?_
    refine rs (vI y1_0) (r_move rfl) ?_
    obtain ⟨hi1,H⟩:=of_ite H
    obtain ⟨ad1,Aad1_6,cad1_6,e1,hel1,hcad1_6,hrad1_6⟩:=ld_api_Def hr0_0 hi1.1 hi1.2
    refine rs (Value.pointer (some (Addr.add ad1 (y1_0.toNat*7)))) (r_indexA (sz:=7) rfl e1 rfl hi1.1 hi1.2 Tryd.runUnderlying22 Tryd.sizeOf34) ?_
    refine run_frame (by simp only [sc0,sc1];rfl) ?_
    refine rs (Value.agg #[vI ((rd z_api_Def a0 y1_0).vKind),vS ((rd z_api_Def a0 y1_0).vName),vI ((rd z_api_Def a0 y1_0).vInt.vSize),vB ((rd z_api_Def a0 y1_0).vInt.vSigned),vI ((rd z_api_Def a0 y1_0).vRef),vI ((rd z_api_Def a0 y1_0).vN),vL Aad1_6 ((rd z_api_Def a0 y1_0).vFields).length cad1_6]) (r_loadAgg rfl Tryd.isAgg34 (hel1.sees HS1.sees) Tryd.sizeOf34) ?_
    obtain ⟨v1,H1,H⟩:=of_bind H
    refine run_eq (v:=vB v1) rfl rfl (does_callv (vs:=[Value.agg #[vI ((rd z_api_Def a0 y1_0).vKind),vS ((rd z_api_Def a0 y1_0).vName),vI ((rd z_api_Def a0 y1_0).vInt.vSize),vB ((rd z_api_Def a0 y1_0).vInt.vSigned),vI ((rd z_api_Def a0 y1_0).vRef),vI ((rd z_api_Def a0 y1_0).vN),vL Aad1_6 ((rd z_api_Def a0 y1_0).vFields).length cad1_6]]) (caps:=cap1) hent1 rfl rfl (hfp1 (rd z_api_Def a0 y1_0) Aad1_6 cad1_6 _ _ HS1.toE HS1.sub HS1.sees hrad1_6 hcad1_6 _ H1)) ?_
    intro w2 hE1
    have HS2:=HS1.step hE1
    try simp only [sc0,sc1]
    refine run_nil ?_
    refine norm_then ?_
    refine wp_cond_split (t:=v1) rfl (fun c2=>?_) (fun c2=>?_)
    ·replace H:=of_pos H c2
     refine wp_seq ?_
     refine region ?_
     refine rs (vI y1_0) (r_move rfl) ?_
     refine rs (vI y1_0) (r_assign rfl) ?_
     try simp only [sc0,sc1]
     refine run_nil ?_
     refine norm_then ?_
     refine wp_ret ?_
     refine ret_block ?_
     refine ret_then ?_
     refine ret_loop ?_
     refine ret_then ?_
     obtain rfl:=Option.some.inj H
     obtain rfl:=Option.some.inj G1
     refine bodyPost_ret (results_1 rfl (one_tmp rfl)) rfl ?_
     exact ⟨rfl,HS2.toE⟩
    ·replace H:=of_neg H (nt c2)
     refine wp_skip ?_
     refine norm_block ?_
     refine norm_then ?_
     refine region ?_
     refine rs (vI (w64 (y1_0+1))) (r_bin rfl rfl rfl) ?_
     refine rs (vI (w64 (y1_0+1))) (r_move rfl) ?_
     try simp only [sc0,sc1]
     refine run_nil ?_
     refine again m [uy1_4,vI y1_0,vI (w64 (y1_0+1)),vB (decide (y1_0<(a0.length:Int))),vI y1_0,Value.func (.func fid1) #[] cap1.toArray,vL A0_0 a0.length c0_0,vI y1_0,Value.pointer (some (Addr.add ad1 (y1_0.toNat*7))),Value.agg #[vI ((rd z_api_Def a0 y1_0).vKind),vS ((rd z_api_Def a0 y1_0).vName),vI ((rd z_api_Def a0 y1_0).vInt.vSize),vB ((rd z_api_Def a0 y1_0).vInt.vSigned),vI ((rd z_api_Def a0 y1_0).vRef),vI ((rd z_api_Def a0 y1_0).vN),vL Aad1_6 ((rd z_api_Def a0 y1_0).vFields).length cad1_6],vB v1,uy1_17,vI (w64 (y1_0+1))] (Nat.lt_succ_self m) (by simp only [patch,sc0,sc1]) ⟨(w64 (y1_0+1)),_,_,_,_,_,_,_,_,_,_,_,_,rfl,H,HS2⟩
   ·replace H:=of_neg H (nt c1)
    refine wp_exit ?_
    refine exit_then ?_
    obtain rfl:=Option.some.inj H
    refine leave [uy1_4,uy1_5,vI y1_0,vB (decide (y1_0<(a0.length:Int))),uy1_10,uy1_11,uy1_12,uy1_13,uy1_14,uy1_15,uy1_16,uy1_17,uy1_18] (by simp only [patch,sc0,sc1]) ⟨_,rfl,_,_,_,_,_,_,_,_,_,_,_,_,_,rfl,HS1⟩
 ·rintro us w3 ⟨s1,rfl,uo1_4,uo1_5,uo1_8,uo1_9,uo1_10,uo1_11,uo1_12,uo1_13,uo1_14,uo1_15,uo1_16,uo1_17,uo1_18,rfl,HS3⟩
  replace H:=G1
  clear G1
  try simp only [patch,sc0,sc1]
  refine norm_then ?_
  refine wp_seq ?_
  refine region ?_
  refine rs (vI (-1)) (r_assign rfl) ?_
  try simp only [sc0,sc1]
  refine run_nil ?_
  refine norm_then ?_
  refine wp_ret ?_
  obtain rfl:=Option.some.inj H
  refine bodyPost_ret (results_1 rfl (one_tmp rfl)) rfl ?_
  exact ⟨rfl,HS3.toE⟩

end Go.Proofs.YtfjppgobidjndaaDoor
namespace Go.Proofs.YtfjppgobidjndaaDoor
open Go.RowKit Go.M
def slices_ContainsFunc_api_Def_api_Def.f (k:Nat) (a0:List api_Def) (a1:api_Def→Option Bool):Option (Bool):=(slices_IndexFunc_api_Def_api_Def.f k a0 a1).bind fun v1=>(some (decide (v1≥0)))
set_option maxRecDepth 20000 in
set_option maxHeartbeats 4000000 in
theorem slices_ContainsFunc_api_Def_api_Def.calls (k:Nat) (a0:List api_Def) (a1:api_Def→Option Bool) (A0_0:Option Addr) (c0_0:Nat) (fid1:Nat) (cap1:List Value) {h0:View} {w0:World} (hv:Sees h0 w0) (hr0_0:Rd k_api_Def h0 A0_0 a0) (hc0_0:a0.length≤c0_0) (hent1:∀args w,(callFunc fid1 args).run Tryd.prog w= .ok (.enter fid1 args) w) (hfp1:∀(z0:api_Def) (Az0_6:Option Addr) (cz0_6:Nat) (h:View) (w:World),Ext w0 w→Sub h0 h→Sees h w→Rd k_api_Field h Az0_6 z0.vFields→z0.vFields.length≤cz0_6→∀(r:Bool),a1 z0=some r→Calls Tryd.prog fid1 ([Value.agg #[vI z0.vKind,vS z0.vName,vI z0.vInt.vSize,vB z0.vInt.vSigned,vI z0.vRef,vI z0.vN,vL Az0_6 z0.vFields.length cz0_6]]++cap1).toArray w (fun e w1=>e= .returned (vB r)∧Ext w w1)) {r:Bool} (H:slices_ContainsFunc_api_Def_api_Def.f k a0 a1=some r):Calls Tryd.prog 91 #[vL A0_0 a0.length c0_0,Value.func (.func fid1) #[] cap1.toArray] w0 (fun e w1=>e= .returned (vB r)∧Ext w0 w1):=by
 unfold slices_ContainsFunc_api_Def_api_Def.f at H
 have HS:St [] h0 w0 h0 [] w0:=St.init hv
 go_enter Tryd.func91,Tryd.ntmps91
 refine wp_seq ?_
 refine region ?_
 refine rs (vB false) (r_assign rfl) ?_
 try simp only [sc0,sc1]
 refine run_nil ?_
 refine norm_then ?_
 refine wp_seq ?_
 refine region ?_
 refine rs (vL A0_0 a0.length c0_0) (r_move rfl) ?_
 refine rs (Value.func (.func fid1) #[] cap1.toArray) (r_move rfl) ?_
 obtain ⟨v1,H1,H⟩:=of_bind H
 refine run_eq (v:=vI v1) rfl rfl (does_call_eq Tryd.call100 rfl rfl (slices_IndexFunc_api_Def_api_Def.calls k a0 a1 A0_0 c0_0 fid1 cap1 HS.sees hr0_0 hc0_0 hent1 (fun z0 Az0_6 cz0_6 h w hE hs hv hz0_6 hzc0_6 r H=>hfp1 z0 Az0_6 cz0_6 h w (HS.toE.then hE) (HS.sub.then hs) hv hz0_6 hzc0_6 r H) H1)) ?_
 intro w1 hE1
 have HS1:=HS.step hE1
 refine rs (vB (decide (v1≥0))) (r_bin rfl rfl rfl) ?_
 refine run_frame (by simp only [sc0,sc1];rfl) ?_
 refine rs (vB (decide (v1≥0))) (r_assign rfl) ?_
 try simp only [sc0,sc1]
 refine run_nil ?_
 refine norm_then ?_
 refine wp_ret ?_
 obtain rfl:=Option.some.inj H
 refine bodyPost_ret (results_1 rfl (one_tmp rfl)) rfl ?_
 exact ⟨rfl,HS1.toE⟩

end Go.Proofs.YtfjppgobidjndaaDoor
namespace Go.Proofs.YtfjppgobidjndaaDoor
open Go.RowKit Go.M
def ctf_ends_1.l0 (x0:api_Types):Nat→Int→Int→ByteArray→Int→Bool→Int→Int→(List api_Field)→Option ((Bool)⊕(Int×ByteArray×Int×Bool×Int×Int×(List api_Field)))
 |0,_,_,_,_,_,_,_,_=>none
 |m+1,y1_0,y1_1,y1_2,y1_3,y1_4,y1_5,y1_6,y1_7=>if (decide (y1_0<(x0.vDefs.length:Int)))=true then ((ctf_named.f (⟨y1_1,y1_2,(⟨y1_3,y1_4⟩:api_Int),y1_5,y1_6,y1_7⟩:api_Def)).bind fun v1=>(if v1=true then (some (.inl false)) else (if 0≤y1_5∧y1_5<x0.vDefs.length then (ctf_ends_1.l0 x0 m (IntKind.wrap .i64 (y1_0+1)) ((rd z_api_Def x0.vDefs y1_5).vKind) ((rd z_api_Def x0.vDefs y1_5).vName) ((rd z_api_Def x0.vDefs y1_5).vInt.vSize) ((rd z_api_Def x0.vDefs y1_5).vInt.vSigned) ((rd z_api_Def x0.vDefs y1_5).vRef) ((rd z_api_Def x0.vDefs y1_5).vN) ((rd z_api_Def x0.vDefs y1_5).vFields)) else none))) else (some (.inr (y1_1,y1_2,y1_3,y1_4,y1_5,y1_6,y1_7)))
def ctf_ends_1.f (k:Nat) (a0:api_Def) (x0:api_Types):Option (Bool):=(ctf_ends_1.l0 x0 k 0 a0.vKind a0.vName a0.vInt.vSize a0.vInt.vSigned a0.vRef a0.vN a0.vFields).bind fun xx1=>(match xx1 with| .inl r=>some r| .inr s1=>(ctf_named.f (⟨s1.1,s1.2.1,(⟨s1.2.2.1,s1.2.2.2.1⟩:api_Int),s1.2.2.2.2.1,s1.2.2.2.2.2.1,s1.2.2.2.2.2.2⟩:api_Def)).bind fun v2=>(some (!v2)))
set_option maxRecDepth 20000 in
set_option maxHeartbeats 4000000 in
theorem ctf_ends_1.calls (k:Nat) (a0:api_Def) (x0:api_Types) (A0_6:Option Addr) (c0_6:Nat) (bx0:Nat) (Ax0_0:Option Addr) (cx0_0:Nat) {h0:View} {w0:World} (hv:Sees h0 w0) (hr0_6:Rd k_api_Field h0 A0_6 a0.vFields) (hc0_6:a0.vFields.length≤c0_6) (hrx0_0:Rd k_api_Def h0 Ax0_0 x0.vDefs) (hcx0_0:x0.vDefs.length≤cx0_0) (hx0:w0.heap[bx0]?=some (.cells #[vL Ax0_0 x0.vDefs.length cx0_0] 24 (0,0))) {r:Bool} (H:ctf_ends_1.f k a0 x0=some r):Calls Tryd.prog 120 #[Value.agg #[vI a0.vKind,vS a0.vName,vI a0.vInt.vSize,vB a0.vInt.vSigned,vI a0.vRef,vI a0.vN,vL A0_6 a0.vFields.length c0_6],vP bx0 0] w0 (fun e w1=>e= .returned (vB r)∧Ext w0 w1):=by
 unfold ctf_ends_1.f at H
 have HS:St [] h0 w0 h0 [] w0:=St.init hv
 go_enter Tryd.func120,Tryd.ntmps120
 refine wp_seq ?_
 refine region ?_
 refine run_ex rfl rfl (does_box (cs:=#[vI a0.vKind,vS a0.vName,vI a0.vInt.vSize,vB a0.vInt.vSigned,vI a0.vRef,vI a0.vN,vL A0_6 a0.vFields.length c0_6]) rfl rfl) ?_
 rintro w1 _ hE1 ⟨b1,rfl,ge1,hb1⟩
 have HS1:=HS.new hE1 ge1 hb1
 refine rs (vB false) (r_assign rfl) ?_
 try simp only [sc0,sc1]
 refine run_nil ?_
 refine norm_then ?_
 refine wp_seq ?_
 refine wp_seq ?_
 refine region ?_
 refine rs (vP bx0 0) (r_fieldBox (n:=1) (o':=0) rfl Tryd.runUnderlying24 rfl Tryd.sizeOf22 (by decide) rfl) ?_
 refine rs (vL Ax0_0 x0.vDefs.length cx0_0) (r_loadBox rfl Tryd.isAgg22 (heap_ext hx0 HS1.toE) rfl) ?_
 refine rs (vI (x0.vDefs.length:Int)) (r_len rfl Tryd.runUnderlying22) ?_
 refine rs (vI 0) (r_move rfl) ?_
 try simp only [sc0,sc1]
 refine run_nil ?_
 refine norm_then ?_
 obtain ⟨xx1,H,G1⟩:=of_bind H
 refine loop_patch [3,7,8,9,10,11,12,13,14,15,16,17] (fun m us w'=>∃y1_0 y1_1:Int,∃y1_2:ByteArray,∃y1_3:Int,∃y1_4:Bool,∃y1_5 y1_6:Int,∃y1_7:List api_Field,∃(Ay1_7:Option Addr) (cy1_7:Nat),∃uy1_3 uy1_8 uy1_9 uy1_10 uy1_11 uy1_12 uy1_13 uy1_14 uy1_15 uy1_16 uy1_17:Value,us=[uy1_3,vI y1_0,uy1_8,uy1_9,uy1_10,uy1_11,uy1_12,uy1_13,uy1_14,uy1_15,uy1_16,uy1_17]∧ctf_ends_1.l0 x0 m y1_0 y1_1 y1_2 y1_3 y1_4 y1_5 y1_6 y1_7=some xx1∧y1_7.length≤cy1_7∧Rd k_api_Field h0 Ay1_7 y1_7∧St [] h0 w0 h0 [(some b1, .cells #[vI y1_1,vS y1_2,vI y1_3,vB y1_4,vI y1_5,vI y1_6,vL Ay1_7 y1_7.length cy1_7] 34 (0,0))] w') (fun us w'=>∃(s1:Int×ByteArray×Int×Bool×Int×Int×(List api_Field)),xx1= .inr s1∧∃(Ao1_6:Option Addr) (co1_6:Nat),∃uo1_3 uo1_7 uo1_8 uo1_9 uo1_10 uo1_11 uo1_12 uo1_13 uo1_14 uo1_15 uo1_16 uo1_17:Value,us=[uo1_3,uo1_7,uo1_8,uo1_9,uo1_10,uo1_11,uo1_12,uo1_13,uo1_14,uo1_15,uo1_16,uo1_17]∧s1.2.2.2.2.2.2.length≤co1_6∧Rd k_api_Field h0 Ao1_6 s1.2.2.2.2.2.2∧St [] h0 w0 h0 [(some b1, .cells #[vI s1.1,vS s1.2.1,vI s1.2.2.1,vB s1.2.2.2.1,vI s1.2.2.2.2.1,vI s1.2.2.2.2.2.1,vL Ao1_6 s1.2.2.2.2.2.2.length co1_6] 34 (0,0))] w') k [vB false,vI 0,undef,undef,undef,undef,undef,undef,undef,undef,undef,undef] (by simp only [patch,sc0,sc1]) ⟨0,a0.vKind,a0.vName,a0.vInt.vSize,a0.vInt.vSigned,a0.vRef,a0.vN,a0.vFields,A0_6,c0_6,_,_,_,_,_,_,_,_,_,_,_,rfl,H,hc0_6,hr0_6,HS1⟩ ?_ ?_
 ·rintro m us w2 ⟨y1_0,y1_1,y1_2,y1_3,y1_4,y1_5,y1_6,y1_7,Ay1_7,cy1_7,uy1_3,uy1_8,uy1_9,uy1_10,uy1_11,uy1_12,uy1_13,uy1_14,uy1_15,uy1_16,uy1_17,rfl,H,hcy1_7,hry1_7,HS2⟩
  cases m with
  |zero=>exact absurd H (by simp [ctf_ends_1.l0])
  |succ m=>
   rw [ctf_ends_1.l0] at H
   try simp only [patch,sc0,sc1]
   refine wp_seq ?_
   refine region ?_
   refine rs (vB (decide (y1_0<(x0.vDefs.length:Int)))) (r_bin rfl rfl rfl) ?_
   try simp only [sc0,sc1]
   refine run_nil ?_
   refine norm_then ?_
   refine wp_seq ?_
   refine wp_cond_split (t:=(decide (y1_0<(x0.vDefs.length:Int)))) rfl (fun c1=>?_) (fun c1=>?_)
   ·replace H:=of_pos H c1
    refine wp_skip ?_
    refine norm_then ?_
    refine wp_seq ?_
    refine wp_block ?_
    refine wp_seq ?_
    refine wp_seq ?_
    refine region ?_
    refine rs (Value.agg #[vI y1_1,vS y1_2,vI y1_3,vB y1_4,vI y1_5,vI y1_6,vL Ay1_7 y1_7.length cy1_7]) (r_loadBoxAgg (n:=7) (vs:=[vI y1_1,vS y1_2,vI y1_3,vB y1_4,vI y1_5,vI y1_6,vL Ay1_7 y1_7.length cy1_7]) rfl Tryd.isAgg34 (HS2.look 0 rfl) Tryd.sizeOf34 rfl rfl) ?_
    obtain ⟨v1,H1,H⟩:=of_bind H
    refine run_eq (v:=vB v1) rfl rfl (does_call_eq Tryd.call68 rfl rfl (ctf_named.calls (⟨y1_1,y1_2,(⟨y1_3,y1_4⟩:api_Int),y1_5,y1_6,y1_7⟩:api_Def) Ay1_7 cy1_7 HS2.sees hry1_7 hcy1_7 H1)) ?_
    intro w3 hE2
    have HS3:=HS2.step hE2
    try simp only [sc0,sc1]
    refine run_nil ?_
    refine norm_then ?_
    refine wp_cond_split (t:=v1) rfl (fun c2=>?_) (fun c2=>?_)
    ·replace H:=of_pos H c2
     refine wp_seq ?_
     refine region ?_
     refine rs (vB false) (r_assign rfl) ?_
     try simp only [sc0,sc1]
     refine run_nil ?_
     refine norm_then ?_
     refine wp_ret ?_
     refine ret_then ?_
     refine ret_block ?_
     refine ret_then ?_
     refine ret_loop ?_
     refine ret_then ?_
     obtain rfl:=Option.some.inj H
     obtain rfl:=Option.some.inj G1
     refine bodyPost_ret (results_1 rfl (one_tmp rfl)) rfl ?_
     exact ⟨rfl,HS3.toE⟩
    ·replace H:=of_neg H (nt c2)
     refine wp_skip ?_
     refine norm_then ?_
     refine region ?_
     refine rs (vP bx0 0) (r_fieldBox (n:=1) (o':=0) rfl Tryd.runUnderlying24 rfl Tryd.sizeOf22 (by decide) rfl) ?_
     refine rs (vL Ax0_0 x0.vDefs.length cx0_0) (r_loadBox rfl Tryd.isAgg22 (heap_ext hx0 HS3.toE) rfl) ?_
     refine rs (vP b1 4) (r_fieldBox (n:=1) (o':=4) rfl Tryd.runUnderlying34 rfl Tryd.sizeOf3 (by decide) rfl) ?_
     refine rs (vI y1_5) (r_loadBox rfl Tryd.isAgg3 (HS3.look 0 rfl) rfl) ?_
     refine run_frame (by simp only [sc0,sc1];rfl) ?_
     obtain ⟨hi1,H⟩:=of_ite H
     obtain ⟨ad1,Aad1_6,cad1_6,e1,hel1,hcad1_6,hrad1_6⟩:=ld_api_Def hrx0_0 hi1.1 hi1.2
     refine rs (Value.pointer (some (Addr.add ad1 (y1_5.toNat*7)))) (r_indexA (sz:=7) rfl e1 rfl hi1.1 hi1.2 Tryd.runUnderlying22 Tryd.sizeOf34) ?_
     refine rs (Value.agg #[vI ((rd z_api_Def x0.vDefs y1_5).vKind),vS ((rd z_api_Def x0.vDefs y1_5).vName),vI ((rd z_api_Def x0.vDefs y1_5).vInt.vSize),vB ((rd z_api_Def x0.vDefs y1_5).vInt.vSigned),vI ((rd z_api_Def x0.vDefs y1_5).vRef),vI ((rd z_api_Def x0.vDefs y1_5).vN),vL Aad1_6 ((rd z_api_Def x0.vDefs y1_5).vFields).length cad1_6]) (r_loadAgg rfl Tryd.isAgg34 (hel1.sees HS3.sees) Tryd.sizeOf34) ?_
     refine run_st (i:=0) (cs:=[vI y1_1,vS y1_2,vI y1_3,vB y1_4,vI y1_5,vI y1_6,vL Ay1_7 y1_7.length cy1_7]) (cs':=[vI ((rd z_api_Def x0.vDefs y1_5).vKind),vS ((rd z_api_Def x0.vDefs y1_5).vName),vI ((rd z_api_Def x0.vDefs y1_5).vInt.vSize),vB ((rd z_api_Def x0.vDefs y1_5).vInt.vSigned),vI ((rd z_api_Def x0.vDefs y1_5).vRef),vI ((rd z_api_Def x0.vDefs y1_5).vN),vL Aad1_6 ((rd z_api_Def x0.vDefs y1_5).vFields).length cad1_6]) (vs:=[vI ((rd z_api_Def x0.vDefs y1_5).vKind),vS ((rd z_api_Def x0.vDefs y1_5).vName),vI ((rd z_api_Def x0.vDefs y1_5).vInt.vSize),vB ((rd z_api_Def x0.vDefs y1_5).vInt.vSigned),vI ((rd z_api_Def x0.vDefs y1_5).vRef),vI ((rd z_api_Def x0.vDefs y1_5).vN),vL Aad1_6 ((rd z_api_Def x0.vDefs y1_5).vFields).length cad1_6]) (bs':=[(some b1, .cells #[vI ((rd z_api_Def x0.vDefs y1_5).vKind),vS ((rd z_api_Def x0.vDefs y1_5).vName),vI ((rd z_api_Def x0.vDefs y1_5).vInt.vSize),vB ((rd z_api_Def x0.vDefs y1_5).vInt.vSigned),vI ((rd z_api_Def x0.vDefs y1_5).vRef),vI ((rd z_api_Def x0.vDefs y1_5).vN),vL Aad1_6 ((rd z_api_Def x0.vDefs y1_5).vFields).length cad1_6] 34 (0,0))]) rfl rfl Tryd.sizeOf34 rfl rfl (by decide) rfl HS3 rfl (Nat.le_of_ble_eq_true rfl) rfl rfl ?_
     intro w4 HS4
     try simp only [sc0,sc1]
     refine run_nil ?_
     refine norm_block ?_
     refine norm_then ?_
     refine region ?_
     refine rs (vI (w64 (y1_0+1))) (r_bin rfl rfl rfl) ?_
     refine rs (vI (w64 (y1_0+1))) (r_move rfl) ?_
     try simp only [sc0,sc1]
     refine run_nil ?_
     refine again m [uy1_3,vI (w64 (y1_0+1)),vB (decide (y1_0<(x0.vDefs.length:Int))),Value.agg #[vI y1_1,vS y1_2,vI y1_3,vB y1_4,vI y1_5,vI y1_6,vL Ay1_7 y1_7.length cy1_7],vB v1,vP bx0 0,vL Ax0_0 x0.vDefs.length cx0_0,vP b1 4,vI y1_5,Value.pointer (some (Addr.add ad1 (y1_5.toNat*7))),Value.agg #[vI ((rd z_api_Def x0.vDefs y1_5).vKind),vS ((rd z_api_Def x0.vDefs y1_5).vName),vI ((rd z_api_Def x0.vDefs y1_5).vInt.vSize),vB ((rd z_api_Def x0.vDefs y1_5).vInt.vSigned),vI ((rd z_api_Def x0.vDefs y1_5).vRef),vI ((rd z_api_Def x0.vDefs y1_5).vN),vL Aad1_6 ((rd z_api_Def x0.vDefs y1_5).vFields).length cad1_6],vI (w64 (y1_0+1))] (Nat.lt_succ_self m) (by simp only [patch,sc0,sc1]) ⟨(w64 (y1_0+1)),(rd z_api_Def x0.vDefs y1_5).vKind,(rd z_api_Def x0.vDefs y1_5).vName,(rd z_api_Def x0.vDefs y1_5).vInt.vSize,(rd z_api_Def x0.vDefs y1_5).vInt.vSigned,(rd z_api_Def x0.vDefs y1_5).vRef,(rd z_api_Def x0.vDefs y1_5).vN,(rd z_api_Def x0.vDefs y1_5).vFields,Aad1_6,cad1_6,_,_,_,_,_,_,_,_,_,_,_,rfl,H,hcad1_6,hrad1_6,HS4⟩
   ·replace H:=of_neg H (nt c1)
    refine wp_exit ?_
    refine exit_then ?_
    obtain rfl:=Option.some.inj H
    refine leave [uy1_3,vI y1_0,vB (decide (y1_0<(x0.vDefs.length:Int))),uy1_9,uy1_10,uy1_11,uy1_12,uy1_13,uy1_14,uy1_15,uy1_16,uy1_17] (by simp only [patch,sc0,sc1]) ⟨_,rfl,Ay1_7,cy1_7,_,_,_,_,_,_,_,_,_,_,_,_,rfl,hcy1_7,hry1_7,HS2⟩
 ·rintro us w5 ⟨s1,rfl,Ao1_6,co1_6,uo1_3,uo1_7,uo1_8,uo1_9,uo1_10,uo1_11,uo1_12,uo1_13,uo1_14,uo1_15,uo1_16,uo1_17,rfl,hco1_6,hro1_6,HS5⟩
  replace H:=G1
  clear G1
  try simp only [patch,sc0,sc1]
  refine norm_then ?_
  refine wp_seq ?_
  refine region ?_
  refine rs (Value.agg #[vI s1.1,vS s1.2.1,vI s1.2.2.1,vB s1.2.2.2.1,vI s1.2.2.2.2.1,vI s1.2.2.2.2.2.1,vL Ao1_6 s1.2.2.2.2.2.2.length co1_6]) (r_loadBoxAgg (n:=7) (vs:=[vI s1.1,vS s1.2.1,vI s1.2.2.1,vB s1.2.2.2.1,vI s1.2.2.2.2.1,vI s1.2.2.2.2.2.1,vL Ao1_6 s1.2.2.2.2.2.2.length co1_6]) rfl Tryd.isAgg34 (HS5.look 0 rfl) Tryd.sizeOf34 rfl rfl) ?_
  obtain ⟨v2,H2,H⟩:=of_bind H
  refine run_eq (v:=vB v2) rfl rfl (does_call_eq Tryd.call68 rfl rfl (ctf_named.calls (⟨s1.1,s1.2.1,(⟨s1.2.2.1,s1.2.2.2.1⟩:api_Int),s1.2.2.2.2.1,s1.2.2.2.2.2.1,s1.2.2.2.2.2.2⟩:api_Def) Ao1_6 co1_6 HS5.sees hro1_6 hco1_6 H2)) ?_
  intro w6 hE3
  have HS6:=HS5.step hE3
  refine rs (vB (!v2)) (r_not rfl) ?_
  refine rs (vB (!v2)) (r_assign rfl) ?_
  try simp only [sc0,sc1]
  refine run_nil ?_
  refine norm_then ?_
  refine wp_ret ?_
  obtain rfl:=Option.some.inj H
  refine bodyPost_ret (results_1 rfl (one_tmp rfl)) rfl ?_
  exact ⟨rfl,HS6.toE⟩

end Go.Proofs.YtfjppgobidjndaaDoor
namespace Go.Proofs.YtfjppgobidjndaaDoor
open Go.RowKit Go.M
def ctf_ends.f (k:Nat) (a0:api_Types):Option (Bool):=(slices_ContainsFunc_api_Def_api_Def.f k a0.vDefs (fun z0=>ctf_ends_1.f k z0 a0)).bind fun v1=>(some (!v1))
set_option maxRecDepth 20000 in
set_option maxHeartbeats 4000000 in
theorem ctf_ends.calls (k:Nat) (a0:api_Types) (A0_0:Option Addr) (c0_0:Nat) {h0:View} {w0:World} (hv:Sees h0 w0) (hr0_0:Rd k_api_Def h0 A0_0 a0.vDefs) (hc0_0:a0.vDefs.length≤c0_0) {r:Bool} (H:ctf_ends.f k a0=some r):Calls Tryd.prog 90 #[Value.agg #[vL A0_0 a0.vDefs.length c0_0]] w0 (fun e w1=>e= .returned (vB r)∧Ext w0 w1):=by
 unfold ctf_ends.f at H
 have HS:St [] h0 w0 h0 [] w0:=St.init hv
 go_enter Tryd.func90,Tryd.ntmps90
 refine wp_seq ?_
 refine region ?_
 refine run_ex rfl rfl (does_box (cs:=#[vL A0_0 a0.vDefs.length c0_0]) rfl rfl) ?_
 rintro w1 _ hE1 ⟨b1,rfl,ge1,hb1⟩
 have HS1:=HS.new hE1 ge1 hb1
 refine rs (vB false) (r_assign rfl) ?_
 try simp only [sc0,sc1]
 refine run_nil ?_
 refine norm_then ?_
 refine wp_seq ?_
 refine region ?_
 refine rs (vP b1 0) (r_fieldBox (n:=1) (o':=0) rfl Tryd.runUnderlying24 rfl Tryd.sizeOf22 (by decide) rfl) ?_
 refine rs (vL A0_0 a0.vDefs.length c0_0) (r_loadBox rfl Tryd.isAgg22 (HS1.look 0 rfl) rfl) ?_
 refine rs (Value.func (.func 120) #[] #[vP b1 0]) (r_makeFunc (vs:=[vP b1 0]) rfl) ?_
 obtain ⟨v1,H1,H⟩:=of_bind H
 refine run_eq (v:=vB v1) rfl rfl (does_call_eq Tryd.call91 rfl rfl (slices_ContainsFunc_api_Def_api_Def.calls k a0.vDefs (fun z0=>ctf_ends_1.f k z0 a0) A0_0 c0_0 120 [vP b1 0] HS1.sees hr0_0 hc0_0 Tryd.call120 (fun z0 Az0_6 cz0_6 h w hE hs hv hz0_6 hzc0_6 r H=>ctf_ends_1.calls k z0 a0 Az0_6 cz0_6 b1 A0_0 c0_0 hv hz0_6 hzc0_6 (hr0_0.ext hs) hc0_0 (heap_ext (HS1.look 0 rfl) hE) H) H1)) ?_
 intro w2 hE2
 have HS2:=HS1.step hE2
 refine run_frame (by simp only [sc0,sc1];rfl) ?_
 refine rs (vB (!v1)) (r_not rfl) ?_
 refine rs (vB (!v1)) (r_assign rfl) ?_
 try simp only [sc0,sc1]
 refine run_nil ?_
 refine norm_then ?_
 refine wp_ret ?_
 obtain rfl:=Option.some.inj H
 refine bodyPost_ret (results_1 rfl (one_tmp rfl)) rfl ?_
 exact ⟨rfl,HS2.toE⟩

end Go.Proofs.YtfjppgobidjndaaDoor
namespace Go.Proofs.YtfjppgobidjndaaDoor
open Go.RowKit Go.M
def ctf_placed.l0 (a0:api_Def) (a1:List Int):Nat→Int→Int→Option ((Bool)⊕(Int))
 |0,_,_=>none
 |m+1,y1_0,y1_1=>if (decide (y1_1<(a0.vFields.length:Int)))=true then (if 0≤y1_1∧y1_1<a0.vFields.length then (if ((decide ((rd z_api_Field a0.vFields y1_1).vAt<y1_0))||(decide ((rd z_api_Field a0.vFields y1_1).vAt>512)))=true then (some (.inl false)) else (if 0≤(rd z_api_Field a0.vFields y1_1).vType∧(rd z_api_Field a0.vFields y1_1).vType<a1.length then (ctf_placed.l0 a0 a1 m (IntKind.wrap .i64 ((rd z_api_Field a0.vFields y1_1).vAt+(rd 0 a1 ((rd z_api_Field a0.vFields y1_1).vType)))) (IntKind.wrap .i64 (y1_1+1))) else none)) else none) else (some (.inr y1_0))
def ctf_placed.f (k:Nat) (a0:api_Def) (a1:List Int):Option (Bool):=(ctf_placed.l0 a0 a1 k 0 0).bind fun xx1=>(match xx1 with| .inl r=>some r| .inr s1=>some (decide (s1≤a0.vN)))
set_option maxRecDepth 20000 in
set_option maxHeartbeats 4000000 in
theorem ctf_placed.calls (k:Nat) (a0:api_Def) (a1:List Int) (A0_6:Option Addr) (c0_6:Nat) (A1_0:Option Addr) (c1_0:Nat) {h0:View} {w0:World} (hv:Sees h0 w0) (hr0_6:Rd k_api_Field h0 A0_6 a0.vFields) (hc0_6:a0.vFields.length≤c0_6) (hr1_0:Rd (Kd.int .i64) h0 A1_0 a1) (hc1_0:a1.length≤c1_0) {r:Bool} (H:ctf_placed.f k a0 a1=some r):Calls Tryd.prog 93 #[Value.agg #[vI a0.vKind,vS a0.vName,vI a0.vInt.vSize,vB a0.vInt.vSigned,vI a0.vRef,vI a0.vN,vL A0_6 a0.vFields.length c0_6],vL A1_0 a1.length c1_0] w0 (fun e w1=>e= .returned (vB r)∧Ext w0 w1):=by
 unfold ctf_placed.f at H
 have HS:St [] h0 w0 h0 [] w0:=St.init hv
 go_enter Tryd.func93,Tryd.ntmps93
 refine wp_seq ?_
 refine region ?_
 refine run_ex rfl rfl (does_box (cs:=#[vI a0.vKind,vS a0.vName,vI a0.vInt.vSize,vB a0.vInt.vSigned,vI a0.vRef,vI a0.vN,vL A0_6 a0.vFields.length c0_6]) rfl rfl) ?_
 rintro w1 _ hE1 ⟨b1,rfl,ge1,hb1⟩
 have HS1:=HS.new hE1 ge1 hb1
 refine rs (vB false) (r_assign rfl) ?_
 try simp only [sc0,sc1]
 refine run_nil ?_
 refine norm_then ?_
 refine wp_seq ?_
 refine region ?_
 refine rs (vI 0) (r_assign rfl) ?_
 try simp only [sc0,sc1]
 refine run_nil ?_
 refine norm_then ?_
 refine wp_seq ?_
 refine wp_seq ?_
 refine region ?_
 refine rs (vP b1 6) (r_fieldBox (n:=1) (o':=6) rfl Tryd.runUnderlying34 rfl Tryd.sizeOf32 (by decide) rfl) ?_
 refine rs (vL A0_6 a0.vFields.length c0_6) (r_loadBox rfl Tryd.isAgg32 (HS1.look 0 rfl) rfl) ?_
 refine rs (vI (a0.vFields.length:Int)) (r_len rfl Tryd.runUnderlying32) ?_
 refine rs (vI 0) (r_move rfl) ?_
 try simp only [sc0,sc1]
 refine run_nil ?_
 refine norm_then ?_
 obtain ⟨xx1,H,G1⟩:=of_bind H
 refine loop_patch [4,5,7,11,12,13,14,15,16,17,18,19,20,21,22,23,24,25,26,27,28,29,30,31,32] (fun m us w'=>∃y1_0 y1_1:Int,∃uy1_4 uy1_7 uy1_12 uy1_13 uy1_14 uy1_15 uy1_16 uy1_17 uy1_18 uy1_19 uy1_20 uy1_21 uy1_22 uy1_23 uy1_24 uy1_25 uy1_26 uy1_27 uy1_28 uy1_29 uy1_30 uy1_31 uy1_32:Value,us=[uy1_4,vI y1_0,uy1_7,vI y1_1,uy1_12,uy1_13,uy1_14,uy1_15,uy1_16,uy1_17,uy1_18,uy1_19,uy1_20,uy1_21,uy1_22,uy1_23,uy1_24,uy1_25,uy1_26,uy1_27,uy1_28,uy1_29,uy1_30,uy1_31,uy1_32]∧ctf_placed.l0 a0 a1 m y1_0 y1_1=some xx1∧St [] h0 w0 h0 [(some b1, .cells #[vI a0.vKind,vS a0.vName,vI a0.vInt.vSize,vB a0.vInt.vSigned,vI a0.vRef,vI a0.vN,vL A0_6 a0.vFields.length c0_6] 34 (0,0))] w') (fun us w'=>∃(s1:Int),xx1= .inr s1∧∃uo1_4 uo1_7 uo1_11 uo1_12 uo1_13 uo1_14 uo1_15 uo1_16 uo1_17 uo1_18 uo1_19 uo1_20 uo1_21 uo1_22 uo1_23 uo1_24 uo1_25 uo1_26 uo1_27 uo1_28 uo1_29 uo1_30 uo1_31 uo1_32:Value,us=[uo1_4,vI s1,uo1_7,uo1_11,uo1_12,uo1_13,uo1_14,uo1_15,uo1_16,uo1_17,uo1_18,uo1_19,uo1_20,uo1_21,uo1_22,uo1_23,uo1_24,uo1_25,uo1_26,uo1_27,uo1_28,uo1_29,uo1_30,uo1_31,uo1_32]∧St [] h0 w0 h0 [(some b1, .cells #[vI a0.vKind,vS a0.vName,vI a0.vInt.vSize,vB a0.vInt.vSigned,vI a0.vRef,vI a0.vN,vL A0_6 a0.vFields.length c0_6] 34 (0,0))] w') k [vB false,vI 0,undef,vI 0,undef,undef,undef,undef,undef,undef,undef,undef,undef,undef,undef,undef,undef,undef,undef,undef,undef,undef,undef,undef,undef] (by simp only [patch,sc0,sc1]) ⟨0,0,_,_,_,_,_,_,_,_,_,_,_,_,_,_,_,_,_,_,_,_,_,_,_,rfl,H,HS1⟩ ?_ ?_
 ·rintro m us w2 ⟨y1_0,y1_1,uy1_4,uy1_7,uy1_12,uy1_13,uy1_14,uy1_15,uy1_16,uy1_17,uy1_18,uy1_19,uy1_20,uy1_21,uy1_22,uy1_23,uy1_24,uy1_25,uy1_26,uy1_27,uy1_28,uy1_29,uy1_30,uy1_31,uy1_32,rfl,H,HS2⟩
  cases m with
  |zero=>exact absurd H (by simp [ctf_placed.l0])
  |succ m=>
   rw [ctf_placed.l0] at H
   try simp only [patch,sc0,sc1]
   refine wp_seq ?_
   refine region ?_
   refine rs (vB (decide (y1_1<(a0.vFields.length:Int)))) (r_bin rfl rfl rfl) ?_
   try simp only [sc0,sc1]
   refine run_nil ?_
   refine norm_then ?_
   refine wp_seq ?_
   refine wp_cond_split (t:=(decide (y1_1<(a0.vFields.length:Int)))) rfl (fun c1=>?_) (fun c1=>?_)
   ·replace H:=of_pos H c1
    refine wp_skip ?_
    refine norm_then ?_
    refine wp_seq ?_
    refine wp_block ?_
    refine wp_seq ?_
    refine region ?_
    obtain ⟨hi1,H⟩:=of_ite H
    obtain ⟨ad1,e1,hel1⟩:=ld_api_Field hr0_6 hi1.1 hi1.2
    refine rs (Value.pointer (some (Addr.add ad1 (y1_1.toNat*3)))) (r_indexA (sz:=3) rfl e1 rfl hi1.1 hi1.2 Tryd.runUnderlying32 Tryd.sizeOf36) ?_
    refine rs (Value.agg #[vS ((rd z_api_Field a0.vFields y1_1).vName),vI ((rd z_api_Field a0.vFields y1_1).vType),vI ((rd z_api_Field a0.vFields y1_1).vAt)]) (r_loadAgg rfl Tryd.isAgg36 (hel1.sees HS2.sees) Tryd.sizeOf36) ?_
    refine run_ex rfl rfl (does_alloc (cs:=#[vS ByteArray.empty,vI 0,vI 0]) Tryd.zeroValue36 rfl) ?_
    rintro w3 _ hE2 ⟨b2,rfl,ge2,hb2⟩
    have HS3:=HS2.new hE2 ge2 hb2
    refine run_st (i:=0) (cs:=[vS ByteArray.empty,vI 0,vI 0]) (cs':=[vS ((rd z_api_Field a0.vFields y1_1).vName),vI ((rd z_api_Field a0.vFields y1_1).vType),vI ((rd z_api_Field a0.vFields y1_1).vAt)]) (vs:=[vS ((rd z_api_Field a0.vFields y1_1).vName),vI ((rd z_api_Field a0.vFields y1_1).vType),vI ((rd z_api_Field a0.vFields y1_1).vAt)]) (bs':=[(some b2, .cells #[vS ((rd z_api_Field a0.vFields y1_1).vName),vI ((rd z_api_Field a0.vFields y1_1).vType),vI ((rd z_api_Field a0.vFields y1_1).vAt)] 36 (0,0)),(some b1, .cells #[vI a0.vKind,vS a0.vName,vI a0.vInt.vSize,vB a0.vInt.vSigned,vI a0.vRef,vI a0.vN,vL A0_6 a0.vFields.length c0_6] 34 (0,0))]) rfl rfl Tryd.sizeOf36 rfl rfl (by decide) rfl HS3 rfl (Nat.le_of_ble_eq_true rfl) rfl rfl ?_
    intro w4 HS4
    try simp only [sc0,sc1]
    refine run_nil ?_
    refine norm_then ?_
    refine wp_seq ?_
    refine wp_seq ?_
    refine region ?_
    refine rs (vP b2 2) (r_fieldBox (n:=1) (o':=2) rfl Tryd.runUnderlying36 rfl Tryd.sizeOf3 (by decide) rfl) ?_
    refine rs (vI ((rd z_api_Field a0.vFields y1_1).vAt)) (r_loadBox rfl Tryd.isAgg3 (HS4.look 0 rfl) rfl) ?_
    refine rs (vI y1_0) (r_move rfl) ?_
    refine rs (vB (decide ((rd z_api_Field a0.vFields y1_1).vAt<y1_0))) (r_bin rfl rfl rfl) ?_
    refine run_frame (by simp only [sc0,sc1];rfl) ?_
    refine rs (vB (decide ((rd z_api_Field a0.vFields y1_1).vAt<y1_0))) (r_move rfl) ?_
    refine rgs (decide ((rd z_api_Field a0.vFields y1_1).vAt<y1_0)) true (vP b2 2) rfl rfl rfl rfl (fun hg=>(r_fieldBox (n:=1) (o':=2) rfl Tryd.runUnderlying36 rfl Tryd.sizeOf3 (by decide) rfl)) ?_
    refine rgs (decide ((rd z_api_Field a0.vFields y1_1).vAt<y1_0)) true (vI ((rd z_api_Field a0.vFields y1_1).vAt)) rfl rfl rfl rfl (fun hg=>(r_loadBox (gvt (vP b2 2) hg rfl) Tryd.isAgg3 (HS4.look 0 rfl) rfl)) ?_
    refine rgs (decide ((rd z_api_Field a0.vFields y1_1).vAt<y1_0)) true (vB (decide ((rd z_api_Field a0.vFields y1_1).vAt>512))) rfl rfl rfl rfl (fun hg=>(r_bin (gvt (vI ((rd z_api_Field a0.vFields y1_1).vAt)) hg rfl) rfl rfl)) ?_
    refine run_frame (by simp only [sc0,sc1];rfl) ?_
    refine rs (vB ((decide ((rd z_api_Field a0.vFields y1_1).vAt<y1_0))||(decide ((rd z_api_Field a0.vFields y1_1).vAt>512)))) (r_pick_or rfl rfl (fun hp=>(gvt (vB (decide ((rd z_api_Field a0.vFields y1_1).vAt>512))) (and_i rfl hp) rfl))) ?_
    try simp only [sc0,sc1]
    refine run_nil ?_
    refine norm_then ?_
    refine wp_cond_split (t:=((decide ((rd z_api_Field a0.vFields y1_1).vAt<y1_0))||(decide ((rd z_api_Field a0.vFields y1_1).vAt>512)))) rfl (fun c2=>?_) (fun c2=>?_)
    ·replace H:=of_pos H c2
     refine wp_seq ?_
     refine region ?_
     refine rs (vB false) (r_assign rfl) ?_
     try simp only [sc0,sc1]
     refine run_nil ?_
     refine norm_then ?_
     refine wp_ret ?_
     refine ret_then ?_
     refine ret_block ?_
     refine ret_then ?_
     refine ret_loop ?_
     refine ret_then ?_
     obtain rfl:=Option.some.inj H
     obtain rfl:=Option.some.inj G1
     refine bodyPost_ret (results_1 rfl (one_tmp rfl)) rfl ?_
     exact ⟨rfl,HS4.toE⟩
    ·replace H:=of_neg H (nt c2)
     refine wp_skip ?_
     refine norm_then ?_
     obtain ⟨hi2,H⟩:=of_ite H
     obtain ⟨ad2,e2,hel2⟩:=ld_int hr1_0 hi2.1 hi2.2
     refine drawn [.eq (vP b2 2), .eq (vI ((rd z_api_Field a0.vFields y1_1).vAt)), .eq (vL A1_0 a1.length c1_0), .eq (vP b2 1), .eq (vI ((rd z_api_Field a0.vFields y1_1).vType)), .eq (Value.pointer (some (Addr.add ad2 (((rd z_api_Field a0.vFields y1_1).vType).toNat*1)))), .eq (vI (rd 0 a1 ((rd z_api_Field a0.vFields y1_1).vType))), .eq (vI (w64 ((rd z_api_Field a0.vFields y1_1).vAt+(rd 0 a1 ((rd z_api_Field a0.vFields y1_1).vType)))))] [24,25,26,27,28,29,30,31] hmix (by kernel_rfl) rfl (stable_eq (stable_eq (stable_eq (stable_eq (stable_eq (stable_eq (stable_eq (stable_eq stable_nil)))))))) ⟨ob_plain rfl (fun a' w' hE hk=>by have HSd:=HS4.step hE;exact does_eq (r_fieldBox (n:=1) (o':=2) (show _=vP b2 0 from hk 7 rfl) Tryd.runUnderlying36 rfl Tryd.sizeOf3 (by decide) rfl)),ob_plain rfl (fun a' w' hE hk=>by have HSd:=HS4.step hE;exact does_eq (r_loadBox (show _=vP b2 2 from hk 24 rfl) Tryd.isAgg3 (HSd.look 0 rfl) rfl)),ob_plain rfl (fun a' w' hE hk=>by have HSd:=HS4.step hE;exact does_eq (r_move (show _=vL A1_0 a1.length c1_0 from hk 1 rfl))),ob_plain rfl (fun a' w' hE hk=>by have HSd:=HS4.step hE;exact does_eq (r_fieldBox (n:=1) (o':=1) (show _=vP b2 0 from hk 7 rfl) Tryd.runUnderlying36 rfl Tryd.sizeOf3 (by decide) rfl)),ob_plain rfl (fun a' w' hE hk=>by have HSd:=HS4.step hE;exact does_eq (r_loadBox (show _=vP b2 1 from hk 27 rfl) Tryd.isAgg3 (HSd.look 0 rfl) rfl)),ob_plain rfl (fun a' w' hE hk=>by have HSd:=HS4.step hE;exact does_eq (r_indexA (sz:=1) (show _=vL A1_0 a1.length c1_0 from hk 26 rfl) e2 (show _=vI ((rd z_api_Field a0.vFields y1_1).vType) from hk 28 rfl) hi2.1 hi2.2 Tryd.runUnderlying62 Tryd.sizeOf3)),ob_plain rfl (fun a' w' hE hk=>by have HSd:=HS4.step hE;exact does_eq (r_load (show _=Value.pointer (some (Addr.add ad2 (((rd z_api_Field a0.vFields y1_1).vType).toNat*1))) from hk 29 rfl) Tryd.isAgg3 (hel2.cell0 HSd.sees rfl))),ob_plain rfl (fun a' w' hE hk=>by have HSd:=HS4.step hE;exact does_eq (r_bin (show _=vI ((rd z_api_Field a0.vFields y1_1).vAt) from hk 25 rfl) (show _=vI (rd 0 a1 ((rd z_api_Field a0.vFields y1_1).vType)) from hk 30 rfl) rfl)),trivial⟩ ?_
     intro w5 hE3
     simp only [List.zip_cons_cons,List.zip_nil_left,List.zip_nil_right,finL,sc0,sc1,List.length_cons,List.length_nil,List.drop_succ_cons,List.drop_zero,Nat.zero_add,Nat.reduceAdd]
     have HS5:=HS4.step hE3
     refine rs (vI (w64 ((rd z_api_Field a0.vFields y1_1).vAt+(rd 0 a1 ((rd z_api_Field a0.vFields y1_1).vType))))) (r_assign rfl) ?_
     try simp only [sc0,sc1]
     refine run_nil ?_
     refine norm_block ?_
     refine norm_then ?_
     refine region ?_
     refine rs (vI (w64 (y1_1+1))) (r_bin rfl rfl rfl) ?_
     refine rs (vI (w64 (y1_1+1))) (r_move rfl) ?_
     try simp only [sc0,sc1]
     refine run_nil ?_
     refine again m [uy1_4,vI (w64 ((rd z_api_Field a0.vFields y1_1).vAt+(rd 0 a1 ((rd z_api_Field a0.vFields y1_1).vType)))),vP b2 0,vI (w64 (y1_1+1)),vB (decide (y1_1<(a0.vFields.length:Int))),Value.pointer (some (Addr.add ad1 (y1_1.toNat*3))),Value.agg #[vS ((rd z_api_Field a0.vFields y1_1).vName),vI ((rd z_api_Field a0.vFields y1_1).vType),vI ((rd z_api_Field a0.vFields y1_1).vAt)],vP b2 2,vI ((rd z_api_Field a0.vFields y1_1).vAt),vI y1_0,vB (decide ((rd z_api_Field a0.vFields y1_1).vAt<y1_0)),vB (decide ((rd z_api_Field a0.vFields y1_1).vAt<y1_0)),gv (true&&((decide ((rd z_api_Field a0.vFields y1_1).vAt<y1_0))==false)) (vP b2 2),gv (true&&((decide ((rd z_api_Field a0.vFields y1_1).vAt<y1_0))==false)) (vI ((rd z_api_Field a0.vFields y1_1).vAt)),gv (true&&((decide ((rd z_api_Field a0.vFields y1_1).vAt<y1_0))==false)) (vB (decide ((rd z_api_Field a0.vFields y1_1).vAt>512))),vB ((decide ((rd z_api_Field a0.vFields y1_1).vAt<y1_0))||(decide ((rd z_api_Field a0.vFields y1_1).vAt>512))),vP b2 2,vI ((rd z_api_Field a0.vFields y1_1).vAt),vL A1_0 a1.length c1_0,vP b2 1,vI ((rd z_api_Field a0.vFields y1_1).vType),Value.pointer (some (Addr.add ad2 (((rd z_api_Field a0.vFields y1_1).vType).toNat*1))),vI (rd 0 a1 ((rd z_api_Field a0.vFields y1_1).vType)),vI (w64 ((rd z_api_Field a0.vFields y1_1).vAt+(rd 0 a1 ((rd z_api_Field a0.vFields y1_1).vType)))),vI (w64 (y1_1+1))] (Nat.lt_succ_self m) (by simp only [patch,sc0,sc1]) ⟨(w64 ((rd z_api_Field a0.vFields y1_1).vAt+(rd 0 a1 ((rd z_api_Field a0.vFields y1_1).vType)))),(w64 (y1_1+1)),_,_,_,_,_,_,_,_,_,_,_,_,_,_,_,_,_,_,_,_,_,_,_,rfl,H,HS5.tail⟩
   ·replace H:=of_neg H (nt c1)
    refine wp_exit ?_
    refine exit_then ?_
    obtain rfl:=Option.some.inj H
    refine leave [uy1_4,vI y1_0,uy1_7,vI y1_1,vB (decide (y1_1<(a0.vFields.length:Int))),uy1_13,uy1_14,uy1_15,uy1_16,uy1_17,uy1_18,uy1_19,uy1_20,uy1_21,uy1_22,uy1_23,uy1_24,uy1_25,uy1_26,uy1_27,uy1_28,uy1_29,uy1_30,uy1_31,uy1_32] (by simp only [patch,sc0,sc1]) ⟨_,rfl,_,_,_,_,_,_,_,_,_,_,_,_,_,_,_,_,_,_,_,_,_,_,_,_,rfl,HS2⟩
 ·rintro us w6 ⟨s1,rfl,uo1_4,uo1_7,uo1_11,uo1_12,uo1_13,uo1_14,uo1_15,uo1_16,uo1_17,uo1_18,uo1_19,uo1_20,uo1_21,uo1_22,uo1_23,uo1_24,uo1_25,uo1_26,uo1_27,uo1_28,uo1_29,uo1_30,uo1_31,uo1_32,rfl,HS6⟩
  replace H:=G1
  clear G1
  try simp only [patch,sc0,sc1]
  refine norm_then ?_
  refine wp_seq ?_
  refine region ?_
  refine rs (vI s1) (r_move rfl) ?_
  refine rs (vP b1 5) (r_fieldBox (n:=1) (o':=5) rfl Tryd.runUnderlying34 rfl Tryd.sizeOf3 (by decide) rfl) ?_
  refine rs (vI a0.vN) (r_loadBox rfl Tryd.isAgg3 (HS6.look 0 rfl) rfl) ?_
  refine rs (vB (decide (s1≤a0.vN))) (r_bin rfl rfl rfl) ?_
  refine run_frame (by simp only [sc0,sc1];rfl) ?_
  refine rs (vB (decide (s1≤a0.vN))) (r_assign rfl) ?_
  try simp only [sc0,sc1]
  refine run_nil ?_
  refine norm_then ?_
  refine wp_ret ?_
  obtain rfl:=Option.some.inj H
  refine bodyPost_ret (results_1 rfl (one_tmp rfl)) rfl ?_
  exact ⟨rfl,HS6.toE⟩

end Go.Proofs.YtfjppgobidjndaaDoor
namespace Go.Proofs.YtfjppgobidjndaaDoor
open Go.RowKit Go.M
def ctf_valid_1.f (k:Nat) (a0:api_Def) (x0:List Int):Option (Bool):=(if (true&&((a0.vKind==4)==true))=true then ctf_placed.f k a0 x0 else some false).bind fun v1=>(some ((a0.vKind==4)&&(!v1)))
set_option maxRecDepth 20000 in
set_option maxHeartbeats 4000000 in
theorem ctf_valid_1.calls (k:Nat) (a0:api_Def) (x0:List Int) (A0_6:Option Addr) (c0_6:Nat) (bx0:Nat) (Ax0_0:Option Addr) (cx0_0:Nat) {h0:View} {w0:World} (hv:Sees h0 w0) (hr0_6:Rd k_api_Field h0 A0_6 a0.vFields) (hc0_6:a0.vFields.length≤c0_6) (hrx0_0:Rd (Kd.int .i64) h0 Ax0_0 x0) (hcx0_0:x0.length≤cx0_0) (hx0:w0.heap[bx0]?=some (.cells #[vL Ax0_0 x0.length cx0_0] 62 (0,0))) {r:Bool} (H:ctf_valid_1.f k a0 x0=some r):Calls Tryd.prog 92 #[Value.agg #[vI a0.vKind,vS a0.vName,vI a0.vInt.vSize,vB a0.vInt.vSigned,vI a0.vRef,vI a0.vN,vL A0_6 a0.vFields.length c0_6],vP bx0 0] w0 (fun e w1=>e= .returned (vB r)∧Ext w0 w1):=by
 unfold ctf_valid_1.f at H
 have HS:St [] h0 w0 h0 [] w0:=St.init hv
 go_enter Tryd.func92,Tryd.ntmps92
 refine wp_seq ?_
 refine region ?_
 refine run_ex rfl rfl (does_box (cs:=#[vI a0.vKind,vS a0.vName,vI a0.vInt.vSize,vB a0.vInt.vSigned,vI a0.vRef,vI a0.vN,vL A0_6 a0.vFields.length c0_6]) rfl rfl) ?_
 rintro w1 _ hE1 ⟨b1,rfl,ge1,hb1⟩
 have HS1:=HS.new hE1 ge1 hb1
 refine rs (vB false) (r_assign rfl) ?_
 try simp only [sc0,sc1]
 refine run_nil ?_
 refine norm_then ?_
 refine wp_seq ?_
 refine region ?_
 refine rs (vP b1 0) (r_fieldBox (n:=1) (o':=0) rfl Tryd.runUnderlying34 rfl Tryd.sizeOf3 (by decide) rfl) ?_
 refine rs (vI a0.vKind) (r_loadBox rfl Tryd.isAgg3 (HS1.look 0 rfl) rfl) ?_
 refine rs (vB (a0.vKind==4)) (r_bin rfl rfl rfl) ?_
 refine rs (vB (a0.vKind==4)) (r_move rfl) ?_
 refine run_frame (by simp only [sc0,sc1];rfl) ?_
 refine rgs (a0.vKind==4) true (Value.agg #[vI a0.vKind,vS a0.vName,vI a0.vInt.vSize,vB a0.vInt.vSigned,vI a0.vRef,vI a0.vN,vL A0_6 a0.vFields.length c0_6]) rfl rfl rfl rfl (fun hg=>(r_loadBoxAgg (n:=7) (vs:=[vI a0.vKind,vS a0.vName,vI a0.vInt.vSize,vB a0.vInt.vSigned,vI a0.vRef,vI a0.vN,vL A0_6 a0.vFields.length c0_6]) rfl Tryd.isAgg34 (HS1.look 0 rfl) Tryd.sizeOf34 rfl rfl)) ?_
 refine rgs (a0.vKind==4) true (vL Ax0_0 x0.length cx0_0) rfl rfl rfl rfl (fun hg=>(r_loadBox rfl Tryd.isAgg62 (heap_ext hx0 HS1.toE) rfl)) ?_
 obtain ⟨v1,H1,H⟩:=of_bind H
 refine run_g (b:=(a0.vKind==4)) (c:=true) (v:=vB v1) rfl rfl rfl rfl (fun hg=>(does_call_eq Tryd.call93 rfl (map2 (gvt (Value.agg #[vI a0.vKind,vS a0.vName,vI a0.vInt.vSize,vB a0.vInt.vSigned,vI a0.vRef,vI a0.vN,vL A0_6 a0.vFields.length c0_6]) hg rfl) (gvt (vL Ax0_0 x0.length cx0_0) hg rfl)) (ctf_placed.calls k a0 x0 A0_6 c0_6 Ax0_0 cx0_0 HS1.sees hr0_6 hc0_6 hrx0_0 hcx0_0 (of_pos H1 hg)))) ?_
 intro w2 hE2
 have HS2:=HS1.step hE2
 refine rgs (a0.vKind==4) true (vB (!v1)) rfl rfl rfl rfl (fun hg=>(r_not (gvt (vB v1) hg rfl))) ?_
 refine run_frame (by simp only [sc0,sc1];rfl) ?_
 refine rs (vB ((a0.vKind==4)&&(!v1))) (r_pick_and rfl (fun hp=>(gvt (vB (!v1)) (and_i rfl hp) rfl)) rfl) ?_
 refine rs (vB ((a0.vKind==4)&&(!v1))) (r_assign rfl) ?_
 try simp only [sc0,sc1]
 refine run_nil ?_
 refine norm_then ?_
 refine wp_ret ?_
 obtain rfl:=Option.some.inj H
 refine bodyPost_ret (results_1 rfl (one_tmp rfl)) rfl ?_
 exact ⟨rfl,HS2.toE⟩

end Go.Proofs.YtfjppgobidjndaaDoor
namespace Go.Proofs.YtfjppgobidjndaaDoor
open Go.RowKit Go.M
def ctf_valid.l0 (k:Nat) (a0:api_Types):Nat→Int→(List (ByteArray×Bool))→Option ((Bool)⊕((List (ByteArray×Bool))))
 |0,_,_=>none
 |m+1,y1_0,y1_1=>if (decide (y1_0<(a0.vDefs.length:Int)))=true then (if 0≤y1_0∧y1_0<a0.vDefs.length then ((ctf_shaped.f k (rd z_api_Def a0.vDefs y1_0) (a0.vDefs.length:Int)).bind fun v1=>((if (true&&((!v1)==false))=true then ctf_named.f (rd z_api_Def a0.vDefs y1_0) else some false).bind fun v2=>(if ((!v1)||(v2&&((mfind strEq y1_1 ((rd z_api_Def a0.vDefs y1_0).vName)).getD false)))=true then (some (.inl false)) else (ctf_valid.l0 k a0 m (IntKind.wrap .i64 (y1_0+1)) (mput strEq y1_1 ((rd z_api_Def a0.vDefs y1_0).vName) true))))) else none) else (some (.inr y1_1))
def ctf_valid.f (k:Nat) (a0:api_Types):Option (Bool):=if (decide ((a0.vDefs.length:Int)>200))=true then (some false) else ((ctf_valid.l0 k a0 k 0 ([]:List (ByteArray×Bool))).bind fun xx1=>(match xx1 with| .inl r=>some r| .inr s1=>(ctf_sizes.f k a0).bind fun v3=>((if (true&&((!v3.2)==false))=true then ctf_ends.f k a0 else some false).bind fun v4=>(if ((!v3.2)||(!v4))=true then (some false) else ((slices_ContainsFunc_api_Def_api_Def.f k a0.vDefs (fun z0=>ctf_valid_1.f k z0 v3.1)).bind fun v5=>(some (!v5)))))))
set_option maxRecDepth 20000 in
set_option maxHeartbeats 4000000 in
theorem ctf_valid.calls (k:Nat) (a0:api_Types) (A0_0:Option Addr) (c0_0:Nat) {h0:View} {w0:World} (hv:Sees h0 w0) (hr0_0:Rd k_api_Def h0 A0_0 a0.vDefs) (hc0_0:a0.vDefs.length≤c0_0) {r:Bool} (H:ctf_valid.f k a0=some r):Calls Tryd.prog 47 #[Value.agg #[vL A0_0 a0.vDefs.length c0_0]] w0 (fun e w1=>e= .returned (vB r)∧Ext w0 w1):=by
 unfold ctf_valid.f at H
 have HS:St [] h0 w0 h0 [] w0:=St.init hv
 go_enter Tryd.func47,Tryd.ntmps47
 refine wp_seq ?_
 refine region ?_
 refine run_ex rfl rfl (does_box (cs:=#[vL A0_0 a0.vDefs.length c0_0]) rfl rfl) ?_
 rintro w1 _ hE1 ⟨b1,rfl,ge1,hb1⟩
 have HS1:=HS.new hE1 ge1 hb1
 refine rs (vB false) (r_assign rfl) ?_
 try simp only [sc0,sc1]
 refine run_nil ?_
 refine norm_then ?_
 refine wp_seq ?_
 refine wp_seq ?_
 refine region ?_
 refine rs (vP b1 0) (r_fieldBox (n:=1) (o':=0) rfl Tryd.runUnderlying24 rfl Tryd.sizeOf22 (by decide) rfl) ?_
 refine rs (vL A0_0 a0.vDefs.length c0_0) (r_loadBox rfl Tryd.isAgg22 (HS1.look 0 rfl) rfl) ?_
 refine rs (vI (a0.vDefs.length:Int)) (r_len rfl Tryd.runUnderlying22) ?_
 refine rs (vB (decide ((a0.vDefs.length:Int)>200))) (r_bin rfl rfl rfl) ?_
 try simp only [sc0,sc1]
 refine run_nil ?_
 refine norm_then ?_
 refine wp_cond_split (t:=(decide ((a0.vDefs.length:Int)>200))) rfl (fun c1=>?_) (fun c1=>?_)
 ·replace H:=of_pos H c1
  refine wp_seq ?_
  refine region ?_
  refine rs (vB false) (r_assign rfl) ?_
  try simp only [sc0,sc1]
  refine run_nil ?_
  refine norm_then ?_
  refine wp_ret ?_
  refine ret_then ?_
  obtain rfl:=Option.some.inj H
  refine bodyPost_ret (results_1 rfl (one_tmp rfl)) rfl ?_
  exact ⟨rfl,HS1.toE⟩
 ·replace H:=of_neg H (nt c1)
  refine wp_skip ?_
  refine norm_then ?_
  refine wp_seq ?_
  refine region ?_
  refine run_mkmap HS1 ?_
  intro w2 b2 HS2
  refine rs (Value.map (some b2)) (r_assign rfl) ?_
  try simp only [sc0,sc1]
  refine run_nil ?_
  refine norm_then ?_
  refine wp_seq ?_
  refine wp_seq ?_
  refine region ?_
  refine rs (vP b1 0) (r_fieldBox (n:=1) (o':=0) rfl Tryd.runUnderlying24 rfl Tryd.sizeOf22 (by decide) rfl) ?_
  refine rs (vL A0_0 a0.vDefs.length c0_0) (r_loadBox rfl Tryd.isAgg22 (HS2.look 1 rfl) rfl) ?_
  refine rs (vI (a0.vDefs.length:Int)) (r_len rfl Tryd.runUnderlying22) ?_
  refine rs (vI 0) (r_move rfl) ?_
  try simp only [sc0,sc1]
  refine run_nil ?_
  refine norm_then ?_
  obtain ⟨xx1,H,G1⟩:=of_bind H
  refine loop_patch [2,5,16,17,18,19,20,21,22,23,24,25,26,27,28,29,30,31,32,33,34,35,36,37,38,39] (fun m us w'=>∃(y1_0:Int),∃(y1_1:List (ByteArray×Bool)),∃(esy1_1:Array MapEntry) (cly1_1:Nat),∃uy1_2 uy1_5 uy1_17 uy1_18 uy1_19 uy1_20 uy1_21 uy1_22 uy1_23 uy1_24 uy1_25 uy1_26 uy1_27 uy1_28 uy1_29 uy1_30 uy1_31 uy1_32 uy1_33 uy1_34 uy1_35 uy1_36 uy1_37 uy1_38 uy1_39:Value,us=[uy1_2,uy1_5,vI y1_0,uy1_17,uy1_18,uy1_19,uy1_20,uy1_21,uy1_22,uy1_23,uy1_24,uy1_25,uy1_26,uy1_27,uy1_28,uy1_29,uy1_30,uy1_31,uy1_32,uy1_33,uy1_34,uy1_35,uy1_36,uy1_37,uy1_38,uy1_39]∧ctf_valid.l0 k a0 m y1_0 y1_1=some xx1∧MapOk vS vB y1_1 esy1_1 cly1_1∧St [] h0 w0 h0 [(some b2, .map esy1_1 cly1_1),(some b1, .cells #[vL A0_0 a0.vDefs.length c0_0] 24 (0,0))] w') (fun us w'=>∃(s1:(List (ByteArray×Bool))),xx1= .inr s1∧∃(eso1_0:Array MapEntry) (clo1_0:Nat),∃uo1_2 uo1_5 uo1_16 uo1_17 uo1_18 uo1_19 uo1_20 uo1_21 uo1_22 uo1_23 uo1_24 uo1_25 uo1_26 uo1_27 uo1_28 uo1_29 uo1_30 uo1_31 uo1_32 uo1_33 uo1_34 uo1_35 uo1_36 uo1_37 uo1_38 uo1_39:Value,us=[uo1_2,uo1_5,uo1_16,uo1_17,uo1_18,uo1_19,uo1_20,uo1_21,uo1_22,uo1_23,uo1_24,uo1_25,uo1_26,uo1_27,uo1_28,uo1_29,uo1_30,uo1_31,uo1_32,uo1_33,uo1_34,uo1_35,uo1_36,uo1_37,uo1_38,uo1_39]∧MapOk vS vB s1 eso1_0 clo1_0∧St [] h0 w0 h0 [(some b2, .map eso1_0 clo1_0),(some b1, .cells #[vL A0_0 a0.vDefs.length c0_0] 24 (0,0))] w') k [vB false,undef,vI 0,undef,undef,undef,undef,undef,undef,undef,undef,undef,undef,undef,undef,undef,undef,undef,undef,undef,undef,undef,undef,undef,undef,undef] (by simp only [patch,sc0,sc1]) ⟨0,([]:List (ByteArray×Bool)),#[],0,_,_,_,_,_,_,_,_,_,_,_,_,_,_,_,_,_,_,_,_,_,_,_,_,_,rfl,H,(MapOk.nil),HS2⟩ ?_ ?_
  ·rintro m us w3 ⟨y1_0,y1_1,esy1_1,cly1_1,uy1_2,uy1_5,uy1_17,uy1_18,uy1_19,uy1_20,uy1_21,uy1_22,uy1_23,uy1_24,uy1_25,uy1_26,uy1_27,uy1_28,uy1_29,uy1_30,uy1_31,uy1_32,uy1_33,uy1_34,uy1_35,uy1_36,uy1_37,uy1_38,uy1_39,rfl,H,hoy1_1,HS3⟩
   cases m with
   |zero=>exact absurd H (by simp [ctf_valid.l0])
   |succ m=>
    rw [ctf_valid.l0] at H
    try simp only [patch,sc0,sc1]
    refine wp_seq ?_
    refine region ?_
    refine rs (vB (decide (y1_0<(a0.vDefs.length:Int)))) (r_bin rfl rfl rfl) ?_
    try simp only [sc0,sc1]
    refine run_nil ?_
    refine norm_then ?_
    refine wp_seq ?_
    refine wp_cond_split (t:=(decide (y1_0<(a0.vDefs.length:Int)))) rfl (fun c2=>?_) (fun c2=>?_)
    ·replace H:=of_pos H c2
     refine wp_skip ?_
     refine norm_then ?_
     refine wp_seq ?_
     refine wp_block ?_
     refine wp_seq ?_
     refine region ?_
     obtain ⟨hi1,H⟩:=of_ite H
     obtain ⟨ad1,Aad1_6,cad1_6,e1,hel1,hcad1_6,hrad1_6⟩:=ld_api_Def hr0_0 hi1.1 hi1.2
     refine rs (Value.pointer (some (Addr.add ad1 (y1_0.toNat*7)))) (r_indexA (sz:=7) rfl e1 rfl hi1.1 hi1.2 Tryd.runUnderlying22 Tryd.sizeOf34) ?_
     refine rs (Value.agg #[vI ((rd z_api_Def a0.vDefs y1_0).vKind),vS ((rd z_api_Def a0.vDefs y1_0).vName),vI ((rd z_api_Def a0.vDefs y1_0).vInt.vSize),vB ((rd z_api_Def a0.vDefs y1_0).vInt.vSigned),vI ((rd z_api_Def a0.vDefs y1_0).vRef),vI ((rd z_api_Def a0.vDefs y1_0).vN),vL Aad1_6 ((rd z_api_Def a0.vDefs y1_0).vFields).length cad1_6]) (r_loadAgg rfl Tryd.isAgg34 (hel1.sees HS3.sees) Tryd.sizeOf34) ?_
     refine run_ex rfl rfl (does_alloc (cs:=#[vI 0,vS ByteArray.empty,vI 0,vB false,vI 0,vI 0,vL none 0 0]) Tryd.zeroValue34 rfl) ?_
     rintro w4 _ hE2 ⟨b3,rfl,ge2,hb2⟩
     have HS4:=HS3.new hE2 ge2 hb2
     refine run_st (i:=0) (cs:=[vI 0,vS ByteArray.empty,vI 0,vB false,vI 0,vI 0,vL none 0 0]) (cs':=[vI ((rd z_api_Def a0.vDefs y1_0).vKind),vS ((rd z_api_Def a0.vDefs y1_0).vName),vI ((rd z_api_Def a0.vDefs y1_0).vInt.vSize),vB ((rd z_api_Def a0.vDefs y1_0).vInt.vSigned),vI ((rd z_api_Def a0.vDefs y1_0).vRef),vI ((rd z_api_Def a0.vDefs y1_0).vN),vL Aad1_6 ((rd z_api_Def a0.vDefs y1_0).vFields).length cad1_6]) (vs:=[vI ((rd z_api_Def a0.vDefs y1_0).vKind),vS ((rd z_api_Def a0.vDefs y1_0).vName),vI ((rd z_api_Def a0.vDefs y1_0).vInt.vSize),vB ((rd z_api_Def a0.vDefs y1_0).vInt.vSigned),vI ((rd z_api_Def a0.vDefs y1_0).vRef),vI ((rd z_api_Def a0.vDefs y1_0).vN),vL Aad1_6 ((rd z_api_Def a0.vDefs y1_0).vFields).length cad1_6]) (bs':=[(some b3, .cells #[vI ((rd z_api_Def a0.vDefs y1_0).vKind),vS ((rd z_api_Def a0.vDefs y1_0).vName),vI ((rd z_api_Def a0.vDefs y1_0).vInt.vSize),vB ((rd z_api_Def a0.vDefs y1_0).vInt.vSigned),vI ((rd z_api_Def a0.vDefs y1_0).vRef),vI ((rd z_api_Def a0.vDefs y1_0).vN),vL Aad1_6 ((rd z_api_Def a0.vDefs y1_0).vFields).length cad1_6] 34 (0,0)),(some b2, .map esy1_1 cly1_1),(some b1, .cells #[vL A0_0 a0.vDefs.length c0_0] 24 (0,0))]) rfl rfl Tryd.sizeOf34 rfl rfl (by decide) rfl HS4 rfl (Nat.le_of_ble_eq_true rfl) rfl rfl ?_
     intro w5 HS5
     try simp only [sc0,sc1]
     refine run_nil ?_
     refine norm_then ?_
     refine wp_seq ?_
     refine wp_seq ?_
     refine region ?_
     refine rs (Value.agg #[vI ((rd z_api_Def a0.vDefs y1_0).vKind),vS ((rd z_api_Def a0.vDefs y1_0).vName),vI ((rd z_api_Def a0.vDefs y1_0).vInt.vSize),vB ((rd z_api_Def a0.vDefs y1_0).vInt.vSigned),vI ((rd z_api_Def a0.vDefs y1_0).vRef),vI ((rd z_api_Def a0.vDefs y1_0).vN),vL Aad1_6 ((rd z_api_Def a0.vDefs y1_0).vFields).length cad1_6]) (r_loadBoxAgg (n:=7) (vs:=[vI ((rd z_api_Def a0.vDefs y1_0).vKind),vS ((rd z_api_Def a0.vDefs y1_0).vName),vI ((rd z_api_Def a0.vDefs y1_0).vInt.vSize),vB ((rd z_api_Def a0.vDefs y1_0).vInt.vSigned),vI ((rd z_api_Def a0.vDefs y1_0).vRef),vI ((rd z_api_Def a0.vDefs y1_0).vN),vL Aad1_6 ((rd z_api_Def a0.vDefs y1_0).vFields).length cad1_6]) rfl Tryd.isAgg34 (HS5.look 0 rfl) Tryd.sizeOf34 rfl rfl) ?_
     refine rs (vP b1 0) (r_fieldBox (n:=1) (o':=0) rfl Tryd.runUnderlying24 rfl Tryd.sizeOf22 (by decide) rfl) ?_
     refine rs (vL A0_0 a0.vDefs.length c0_0) (r_loadBox rfl Tryd.isAgg22 (HS5.look 2 rfl) rfl) ?_
     refine rs (vI (a0.vDefs.length:Int)) (r_len rfl Tryd.runUnderlying22) ?_
     refine run_frame (by simp only [sc0,sc1];rfl) ?_
     obtain ⟨v1,H1,H⟩:=of_bind H
     refine run_eq (v:=vB v1) rfl rfl (does_call_eq Tryd.call89 rfl rfl (ctf_shaped.calls k (rd z_api_Def a0.vDefs y1_0) (a0.vDefs.length:Int) Aad1_6 cad1_6 HS5.sees hrad1_6 hcad1_6 H1)) ?_
     intro w6 hE3
     have HS6:=HS5.step hE3
     refine rs (vB (!v1)) (r_not rfl) ?_
     refine rs (vB (!v1)) (r_move rfl) ?_
     refine rgs (!v1) true (Value.agg #[vI ((rd z_api_Def a0.vDefs y1_0).vKind),vS ((rd z_api_Def a0.vDefs y1_0).vName),vI ((rd z_api_Def a0.vDefs y1_0).vInt.vSize),vB ((rd z_api_Def a0.vDefs y1_0).vInt.vSigned),vI ((rd z_api_Def a0.vDefs y1_0).vRef),vI ((rd z_api_Def a0.vDefs y1_0).vN),vL Aad1_6 ((rd z_api_Def a0.vDefs y1_0).vFields).length cad1_6]) rfl rfl rfl rfl (fun hg=>(r_loadBoxAgg (n:=7) (vs:=[vI ((rd z_api_Def a0.vDefs y1_0).vKind),vS ((rd z_api_Def a0.vDefs y1_0).vName),vI ((rd z_api_Def a0.vDefs y1_0).vInt.vSize),vB ((rd z_api_Def a0.vDefs y1_0).vInt.vSigned),vI ((rd z_api_Def a0.vDefs y1_0).vRef),vI ((rd z_api_Def a0.vDefs y1_0).vN),vL Aad1_6 ((rd z_api_Def a0.vDefs y1_0).vFields).length cad1_6]) rfl Tryd.isAgg34 (HS6.look 0 rfl) Tryd.sizeOf34 rfl rfl)) ?_
     refine run_frame (by simp only [sc0,sc1];rfl) ?_
     obtain ⟨v2,H2,H⟩:=of_bind H
     refine run_g (b:=(!v1)) (c:=true) (v:=vB v2) rfl rfl rfl rfl (fun hg=>(does_call_eq Tryd.call68 rfl (map1 (gvt (Value.agg #[vI ((rd z_api_Def a0.vDefs y1_0).vKind),vS ((rd z_api_Def a0.vDefs y1_0).vName),vI ((rd z_api_Def a0.vDefs y1_0).vInt.vSize),vB ((rd z_api_Def a0.vDefs y1_0).vInt.vSigned),vI ((rd z_api_Def a0.vDefs y1_0).vRef),vI ((rd z_api_Def a0.vDefs y1_0).vN),vL Aad1_6 ((rd z_api_Def a0.vDefs y1_0).vFields).length cad1_6]) hg rfl)) (ctf_named.calls (rd z_api_Def a0.vDefs y1_0) Aad1_6 cad1_6 HS6.sees hrad1_6 hcad1_6 (of_pos H2 hg)))) ?_
     intro w7 hE4
     have HS7:=HS6.step hE4
     refine rgs (!v1) true (vB v2) rfl rfl rfl rfl (fun hg=>(r_move (gvt (vB v2) hg rfl))) ?_
     refine rgs v2 (true&&((!v1)==false)) (Value.map (some b2)) rfl rfl rfl rfl (fun hg=>(r_move rfl)) ?_
     refine rgs v2 (true&&((!v1)==false)) (vP b3 1) rfl rfl rfl rfl (fun hg=>(r_fieldBox (n:=1) (o':=1) rfl Tryd.runUnderlying34 rfl Tryd.sizeOf9 (by decide) rfl)) ?_
     refine run_frame (by simp only [sc0,sc1];rfl) ?_
     refine rgs v2 (true&&((!v1)==false)) (vS ((rd z_api_Def a0.vDefs y1_0).vName)) rfl rfl rfl rfl (fun hg=>(r_loadBox (gvt (vP b3 1) hg rfl) Tryd.isAgg9 (HS7.look 0 rfl) rfl)) ?_
     refine rgs v2 (true&&((!v1)==false)) (vB ((mfind strEq y1_1 ((rd z_api_Def a0.vDefs y1_0).vName)).getD false)) rfl rfl rfl rfl (fun hg=>(r_mget (key_str Tryd.runUnderlying9) (k:=((rd z_api_Def a0.vDefs y1_0).vName)) (m:=y1_1) (ev:=vB) false (gvt (Value.map (some b2)) hg rfl) (gvt (vS ((rd z_api_Def a0.vDefs y1_0).vName)) hg rfl) Tryd.runUnderlying150 Tryd.zeroValue4 (HS7.look 1 rfl) hoy1_1)) ?_
     refine rgs (!v1) true (vB (v2&&((mfind strEq y1_1 ((rd z_api_Def a0.vDefs y1_0).vName)).getD false))) rfl rfl rfl rfl (fun hg=>(r_pick_and (gvt (vB v2) hg rfl) (fun hp=>(gvt (vB ((mfind strEq y1_1 ((rd z_api_Def a0.vDefs y1_0).vName)).getD false)) (and_i hg hp) rfl)) rfl)) ?_
     refine rs (vB ((!v1)||(v2&&((mfind strEq y1_1 ((rd z_api_Def a0.vDefs y1_0).vName)).getD false)))) (r_pick_or rfl rfl (fun hp=>(gvt (vB (v2&&((mfind strEq y1_1 ((rd z_api_Def a0.vDefs y1_0).vName)).getD false))) (and_i rfl hp) rfl))) ?_
     try simp only [sc0,sc1]
     refine run_nil ?_
     refine norm_then ?_
     refine wp_cond_split (t:=((!v1)||(v2&&((mfind strEq y1_1 ((rd z_api_Def a0.vDefs y1_0).vName)).getD false)))) rfl (fun c3=>?_) (fun c3=>?_)
     ·replace H:=of_pos H c3
      refine wp_seq ?_
      refine region ?_
      refine rs (vB false) (r_assign rfl) ?_
      try simp only [sc0,sc1]
      refine run_nil ?_
      refine norm_then ?_
      refine wp_ret ?_
      refine ret_then ?_
      refine ret_block ?_
      refine ret_then ?_
      refine ret_loop ?_
      refine ret_then ?_
      obtain rfl:=Option.some.inj H
      obtain rfl:=Option.some.inj G1
      refine bodyPost_ret (results_1 rfl (one_tmp rfl)) rfl ?_
      exact ⟨rfl,HS7.toE⟩
     ·replace H:=of_neg H (nt c3)
      refine wp_skip ?_
      refine norm_then ?_
      refine region ?_
      refine rs (Value.map (some b2)) (r_move rfl) ?_
      refine rs (vP b3 1) (r_fieldBox (n:=1) (o':=1) rfl Tryd.runUnderlying34 rfl Tryd.sizeOf9 (by decide) rfl) ?_
      refine rs (vS ((rd z_api_Def a0.vDefs y1_0).vName)) (r_loadBox rfl Tryd.isAgg9 (HS7.look 0 rfl) rfl) ?_
      refine mupd (key_str Tryd.runUnderlying9) (i:=1) (k:=((rd z_api_Def a0.vDefs y1_0).vName)) (v:=true) (ev:=vB) (m:=y1_1) (by first|exact .inl rfl|exact .inr rfl) rfl rfl rfl rfl rfl Tryd.runUnderlying150 HS7 rfl hoy1_1 ?_
      intro w8 es1 cl1 HS8 ho1
      try simp only [sc0,sc1]
      refine run_nil ?_
      refine norm_block ?_
      refine norm_then ?_
      refine region ?_
      refine rs (vI (w64 (y1_0+1))) (r_bin rfl rfl rfl) ?_
      refine rs (vI (w64 (y1_0+1))) (r_move rfl) ?_
      try simp only [sc0,sc1]
      refine run_nil ?_
      refine again m [uy1_2,vP b3 0,vI (w64 (y1_0+1)),vB (decide (y1_0<(a0.vDefs.length:Int))),Value.pointer (some (Addr.add ad1 (y1_0.toNat*7))),Value.agg #[vI ((rd z_api_Def a0.vDefs y1_0).vKind),vS ((rd z_api_Def a0.vDefs y1_0).vName),vI ((rd z_api_Def a0.vDefs y1_0).vInt.vSize),vB ((rd z_api_Def a0.vDefs y1_0).vInt.vSigned),vI ((rd z_api_Def a0.vDefs y1_0).vRef),vI ((rd z_api_Def a0.vDefs y1_0).vN),vL Aad1_6 ((rd z_api_Def a0.vDefs y1_0).vFields).length cad1_6],Value.agg #[vI ((rd z_api_Def a0.vDefs y1_0).vKind),vS ((rd z_api_Def a0.vDefs y1_0).vName),vI ((rd z_api_Def a0.vDefs y1_0).vInt.vSize),vB ((rd z_api_Def a0.vDefs y1_0).vInt.vSigned),vI ((rd z_api_Def a0.vDefs y1_0).vRef),vI ((rd z_api_Def a0.vDefs y1_0).vN),vL Aad1_6 ((rd z_api_Def a0.vDefs y1_0).vFields).length cad1_6],vP b1 0,vL A0_0 a0.vDefs.length c0_0,vI (a0.vDefs.length:Int),vB v1,vB (!v1),vB (!v1),gv (true&&((!v1)==false)) (Value.agg #[vI ((rd z_api_Def a0.vDefs y1_0).vKind),vS ((rd z_api_Def a0.vDefs y1_0).vName),vI ((rd z_api_Def a0.vDefs y1_0).vInt.vSize),vB ((rd z_api_Def a0.vDefs y1_0).vInt.vSigned),vI ((rd z_api_Def a0.vDefs y1_0).vRef),vI ((rd z_api_Def a0.vDefs y1_0).vN),vL Aad1_6 ((rd z_api_Def a0.vDefs y1_0).vFields).length cad1_6]),gv (true&&((!v1)==false)) (vB v2),gv (true&&((!v1)==false)) (vB v2),gv ((true&&((!v1)==false))&&(v2==true)) (Value.map (some b2)),gv ((true&&((!v1)==false))&&(v2==true)) (vP b3 1),gv ((true&&((!v1)==false))&&(v2==true)) (vS ((rd z_api_Def a0.vDefs y1_0).vName)),gv ((true&&((!v1)==false))&&(v2==true)) (vB ((mfind strEq y1_1 ((rd z_api_Def a0.vDefs y1_0).vName)).getD false)),gv (true&&((!v1)==false)) (vB (v2&&((mfind strEq y1_1 ((rd z_api_Def a0.vDefs y1_0).vName)).getD false))),vB ((!v1)||(v2&&((mfind strEq y1_1 ((rd z_api_Def a0.vDefs y1_0).vName)).getD false))),Value.map (some b2),vP b3 1,vS ((rd z_api_Def a0.vDefs y1_0).vName),vI (w64 (y1_0+1))] (Nat.lt_succ_self m) (by simp only [patch,sc0,sc1]) ⟨(w64 (y1_0+1)),(mput strEq y1_1 ((rd z_api_Def a0.vDefs y1_0).vName) true),es1,cl1,_,_,_,_,_,_,_,_,_,_,_,_,_,_,_,_,_,_,_,_,_,_,_,_,_,rfl,H,ho1,HS8.tail⟩
    ·replace H:=of_neg H (nt c2)
     refine wp_exit ?_
     refine exit_then ?_
     obtain rfl:=Option.some.inj H
     refine leave [uy1_2,uy1_5,vI y1_0,vB (decide (y1_0<(a0.vDefs.length:Int))),uy1_18,uy1_19,uy1_20,uy1_21,uy1_22,uy1_23,uy1_24,uy1_25,uy1_26,uy1_27,uy1_28,uy1_29,uy1_30,uy1_31,uy1_32,uy1_33,uy1_34,uy1_35,uy1_36,uy1_37,uy1_38,uy1_39] (by simp only [patch,sc0,sc1]) ⟨_,rfl,esy1_1,cly1_1,_,_,_,_,_,_,_,_,_,_,_,_,_,_,_,_,_,_,_,_,_,_,_,_,_,_,rfl,hoy1_1,HS3⟩
  ·rintro us w9 ⟨s1,rfl,eso1_0,clo1_0,uo1_2,uo1_5,uo1_16,uo1_17,uo1_18,uo1_19,uo1_20,uo1_21,uo1_22,uo1_23,uo1_24,uo1_25,uo1_26,uo1_27,uo1_28,uo1_29,uo1_30,uo1_31,uo1_32,uo1_33,uo1_34,uo1_35,uo1_36,uo1_37,uo1_38,uo1_39,rfl,hoo1_0,HS9⟩
   replace H:=G1
   clear G1
   try simp only [patch,sc0,sc1]
   refine norm_then ?_
   refine wp_seq ?_
   refine region ?_
   refine rs (Value.agg #[vL A0_0 a0.vDefs.length c0_0]) (r_loadBoxAgg (n:=1) (vs:=[vL A0_0 a0.vDefs.length c0_0]) rfl Tryd.isAgg24 (HS9.look 1 rfl) Tryd.sizeOf24 rfl rfl) ?_
   obtain ⟨v3,H3,H⟩:=of_bind H
   refine run_ex rfl rfl (does_call Tryd.call44 rfl (gives_in (h:=h0) (R:=(fun hx u=>∃(Av3_0_0:Option Addr) (cv3_0_0:Nat),u=Value.tuple #[vL Av3_0_0 v3.1.length cv3_0_0,vB v3.2]∧v3.1.length≤cv3_0_0∧Rd (Kd.int .i64) hx Av3_0_0 v3.1)) (Ext.rfl' w9) ((ctf_sizes.calls k a0 A0_0 c0_0 HS9.sees hr0_0 hc0_0 H3).mono ?_)) rfl) ?_
   ·rintro _ _ ⟨h1,Av3_0_0,cv3_0_0,rfl,hcv3_0_0,hrv3_0_0,g,ss,x⟩
    exact ⟨h1,_,rfl,⟨Av3_0_0,cv3_0_0,rfl,hcv3_0_0,hrv3_0_0⟩,g,ss,x⟩
   rintro w10 _ hE5 ⟨h1,⟨Av3_0_0,cv3_0_0,rfl,hcv3_0_0,hrv3_0_0⟩,gr1,se1⟩
   have HS10:=HS9.view hE5 gr1 se1
   refine rs (Value.tuple #[vL Av3_0_0 v3.1.length cv3_0_0,vB v3.2]) (r_move rfl) ?_
   refine rs (vL Av3_0_0 v3.1.length cv3_0_0) (r_extract rfl rfl) ?_
   refine run_frame (by simp only [sc0,sc1];rfl) ?_
   refine rs (vB v3.2) (r_extract rfl rfl) ?_
   refine run_ex rfl rfl (does_alloc (cs:=#[vL none 0 0]) Tryd.zeroValue62 rfl) ?_
   rintro w11 _ hE6 ⟨b4,rfl,ge3,hb3⟩
   have HS11:=HS10.new hE6 ge3 hb3
   refine run_st (i:=0) (cs:=[vL none 0 0]) (cs':=[vL Av3_0_0 v3.1.length cv3_0_0]) (vs:=[vL Av3_0_0 v3.1.length cv3_0_0]) (bs':=[(some b4, .cells #[vL Av3_0_0 v3.1.length cv3_0_0] 62 (0,0)),(some b2, .map eso1_0 clo1_0),(some b1, .cells #[vL A0_0 a0.vDefs.length c0_0] 24 (0,0))]) rfl rfl Tryd.sizeOf62 rfl rfl (by decide) rfl HS11 rfl (Nat.le_of_ble_eq_true rfl) rfl rfl ?_
   intro w12 HS12
   refine rs (vB v3.2) (r_assign rfl) ?_
   try simp only [sc0,sc1]
   refine run_nil ?_
   refine norm_then ?_
   refine wp_seq ?_
   refine wp_seq ?_
   refine region ?_
   refine rs (vB v3.2) (r_move rfl) ?_
   refine rs (vB (!v3.2)) (r_not rfl) ?_
   refine rs (vB (!v3.2)) (r_move rfl) ?_
   refine rgs (!v3.2) true (Value.agg #[vL A0_0 a0.vDefs.length c0_0]) rfl rfl rfl rfl (fun hg=>(r_loadBoxAgg (n:=1) (vs:=[vL A0_0 a0.vDefs.length c0_0]) rfl Tryd.isAgg24 (HS12.look 2 rfl) Tryd.sizeOf24 rfl rfl)) ?_
   refine run_frame (by simp only [sc0,sc1];rfl) ?_
   obtain ⟨v4,H4,H⟩:=of_bind H
   refine run_g (b:=(!v3.2)) (c:=true) (v:=vB v4) rfl rfl rfl rfl (fun hg=>(does_call_eq Tryd.call90 rfl (map1 (gvt (Value.agg #[vL A0_0 a0.vDefs.length c0_0]) hg rfl)) (ctf_ends.calls k a0 A0_0 c0_0 HS12.sees (hr0_0.ext HS12.sub) hc0_0 (of_pos H4 hg)))) ?_
   intro w13 hE7
   have HS13:=HS12.step hE7
   refine rgs (!v3.2) true (vB (!v4)) rfl rfl rfl rfl (fun hg=>(r_not (gvt (vB v4) hg rfl))) ?_
   refine rs (vB ((!v3.2)||(!v4))) (r_pick_or rfl rfl (fun hp=>(gvt (vB (!v4)) (and_i rfl hp) rfl))) ?_
   try simp only [sc0,sc1]
   refine run_nil ?_
   refine norm_then ?_
   refine wp_cond_split (t:=((!v3.2)||(!v4))) rfl (fun c4=>?_) (fun c4=>?_)
   ·replace H:=of_pos H c4
    refine wp_seq ?_
    refine region ?_
    refine rs (vB false) (r_assign rfl) ?_
    try simp only [sc0,sc1]
    refine run_nil ?_
    refine norm_then ?_
    refine wp_ret ?_
    refine ret_then ?_
    obtain rfl:=Option.some.inj H
    refine bodyPost_ret (results_1 rfl (one_tmp rfl)) rfl ?_
    exact ⟨rfl,HS13.toE⟩
   ·replace H:=of_neg H (nt c4)
    refine wp_skip ?_
    refine norm_then ?_
    refine wp_seq ?_
    refine region ?_
    refine rs (vP b1 0) (r_fieldBox (n:=1) (o':=0) rfl Tryd.runUnderlying24 rfl Tryd.sizeOf22 (by decide) rfl) ?_
    refine rs (vL A0_0 a0.vDefs.length c0_0) (r_loadBox rfl Tryd.isAgg22 (HS13.look 2 rfl) rfl) ?_
    refine rs (Value.func (.func 92) #[] #[vP b4 0]) (r_makeFunc (vs:=[vP b4 0]) rfl) ?_
    obtain ⟨v5,H5,H⟩:=of_bind H
    refine run_eq (v:=vB v5) rfl rfl (does_call_eq Tryd.call91 rfl rfl (slices_ContainsFunc_api_Def_api_Def.calls k a0.vDefs (fun z0=>ctf_valid_1.f k z0 v3.1) A0_0 c0_0 92 [vP b4 0] HS13.sees (hr0_0.ext HS13.sub) hc0_0 Tryd.call92 (fun z0 Az0_6 cz0_6 h w hE hs hv hz0_6 hzc0_6 r H=>ctf_valid_1.calls k z0 v3.1 Az0_6 cz0_6 b4 Av3_0_0 cv3_0_0 hv hz0_6 hzc0_6 (hrv3_0_0.ext hs) hcv3_0_0 (heap_ext (HS13.look 0 rfl) hE) H) H5)) ?_
    intro w14 hE8
    have HS14:=HS13.step hE8
    refine run_frame (by simp only [sc0,sc1];rfl) ?_
    refine rs (vB (!v5)) (r_not rfl) ?_
    refine rs (vB (!v5)) (r_assign rfl) ?_
    try simp only [sc0,sc1]
    refine run_nil ?_
    refine norm_then ?_
    refine wp_ret ?_
    obtain rfl:=Option.some.inj H
    refine bodyPost_ret (results_1 rfl (one_tmp rfl)) rfl ?_
    exact ⟨rfl,HS14.toE⟩

end Go.Proofs.YtfjppgobidjndaaDoor
namespace Go.Proofs.YtfjppgobidjndaaDoor
open Go.RowKit Go.M
def ctf_given.f (k:Nat) (a0:api_Types) (a1:Int):Option (Int):=(ctf_valid.f k a0).bind fun v1=>(if (!v1)=true then (some 80) else (if ((decide (a1<0))||(decide (a1≥(a0.vDefs.length:Int))))=true then (some 3) else (some 0)))
set_option maxRecDepth 20000 in
set_option maxHeartbeats 4000000 in
theorem ctf_given.calls (k:Nat) (a0:api_Types) (a1:Int) (A0_0:Option Addr) (c0_0:Nat) {h0:View} {w0:World} (hv:Sees h0 w0) (hr0_0:Rd k_api_Def h0 A0_0 a0.vDefs) (hc0_0:a0.vDefs.length≤c0_0) {r:Int} (H:ctf_given.f k a0 a1=some r):Calls Tryd.prog 43 #[Value.agg #[vL A0_0 a0.vDefs.length c0_0],vI a1] w0 (fun e w1=>e= .returned (vI r)∧Ext w0 w1):=by
 unfold ctf_given.f at H
 have HS:St [] h0 w0 h0 [] w0:=St.init hv
 go_enter Tryd.func43,Tryd.ntmps43
 refine wp_seq ?_
 refine region ?_
 refine run_ex rfl rfl (does_box (cs:=#[vL A0_0 a0.vDefs.length c0_0]) rfl rfl) ?_
 rintro w1 _ hE1 ⟨b1,rfl,ge1,hb1⟩
 have HS1:=HS.new hE1 ge1 hb1
 refine rs (vI 0) (r_assign rfl) ?_
 try simp only [sc0,sc1]
 refine run_nil ?_
 refine norm_then ?_
 refine wp_seq ?_
 refine wp_block ?_
 refine wp_seq ?_
 refine region ?_
 refine rs (Value.agg #[vL A0_0 a0.vDefs.length c0_0]) (r_loadBoxAgg (n:=1) (vs:=[vL A0_0 a0.vDefs.length c0_0]) rfl Tryd.isAgg24 (HS1.look 0 rfl) Tryd.sizeOf24 rfl rfl) ?_
 obtain ⟨v1,H1,H⟩:=of_bind H
 refine run_eq (v:=vB v1) rfl rfl (does_call_eq Tryd.call47 rfl rfl (ctf_valid.calls k a0 A0_0 c0_0 HS1.sees hr0_0 hc0_0 H1)) ?_
 intro w2 hE2
 have HS2:=HS1.step hE2
 refine rs (vB (!v1)) (r_not rfl) ?_
 refine rs (vB (!v1)) (r_assign rfl) ?_
 try simp only [sc0,sc1]
 refine run_nil ?_
 refine norm_then ?_
 refine wp_cond_split (t:=(!v1)) rfl (fun c1=>?_) (fun c1=>?_)
 ·replace H:=of_pos H c1
  refine wp_seq ?_
  refine region ?_
  refine rs (vI 80) (r_assign rfl) ?_
  try simp only [sc0,sc1]
  refine run_nil ?_
  refine norm_then ?_
  refine wp_ret ?_
  refine ret_block ?_
  refine ret_then ?_
  obtain rfl:=Option.some.inj H
  refine bodyPost_ret (results_1 rfl (one_tmp rfl)) rfl ?_
  exact ⟨rfl,HS2.toE⟩
 ·replace H:=of_neg H (nt c1)
  refine wp_seq ?_
  refine region ?_
  refine rs (vI a1) (r_move rfl) ?_
  refine rs (vB (decide (a1<0))) (r_bin rfl rfl rfl) ?_
  refine rs (vB (decide (a1<0))) (r_move rfl) ?_
  refine rgs (decide (a1<0)) true (vI a1) rfl rfl rfl rfl (fun hg=>(r_move rfl)) ?_
  refine run_frame (by simp only [sc0,sc1];rfl) ?_
  refine rgs (decide (a1<0)) true (vP b1 0) rfl rfl rfl rfl (fun hg=>(r_fieldBox (n:=1) (o':=0) rfl Tryd.runUnderlying24 rfl Tryd.sizeOf22 (by decide) rfl)) ?_
  refine rgs (decide (a1<0)) true (vL A0_0 a0.vDefs.length c0_0) rfl rfl rfl rfl (fun hg=>(r_loadBox (gvt (vP b1 0) hg rfl) Tryd.isAgg22 (HS2.look 0 rfl) rfl)) ?_
  refine rgs (decide (a1<0)) true (vI (a0.vDefs.length:Int)) rfl rfl rfl rfl (fun hg=>(r_len (gvt (vL A0_0 a0.vDefs.length c0_0) hg rfl) Tryd.runUnderlying22)) ?_
  refine rgs (decide (a1<0)) true (vB (decide (a1≥(a0.vDefs.length:Int)))) rfl rfl rfl rfl (fun hg=>(r_bin (gvt (vI a1) hg rfl) (gvt (vI (a0.vDefs.length:Int)) hg rfl) rfl)) ?_
  refine run_frame (by simp only [sc0,sc1];rfl) ?_
  refine rs (vB ((decide (a1<0))||(decide (a1≥(a0.vDefs.length:Int))))) (r_pick_or rfl rfl (fun hp=>(gvt (vB (decide (a1≥(a0.vDefs.length:Int)))) (and_i rfl hp) rfl))) ?_
  refine rs (vB ((decide (a1<0))||(decide (a1≥(a0.vDefs.length:Int))))) (r_assign rfl) ?_
  try simp only [sc0,sc1]
  refine run_nil ?_
  refine norm_then ?_
  refine wp_cond_split (t:=((decide (a1<0))||(decide (a1≥(a0.vDefs.length:Int))))) rfl (fun c2=>?_) (fun c2=>?_)
  ·replace H:=of_pos H c2
   refine wp_seq ?_
   refine region ?_
   refine rs (vI 3) (r_assign rfl) ?_
   try simp only [sc0,sc1]
   refine run_nil ?_
   refine norm_then ?_
   refine wp_ret ?_
   refine ret_block ?_
   refine ret_then ?_
   obtain rfl:=Option.some.inj H
   refine bodyPost_ret (results_1 rfl (one_tmp rfl)) rfl ?_
   exact ⟨rfl,HS2.toE⟩
  ·replace H:=of_neg H (nt c2)
   refine wp_skip ?_
   refine norm_block ?_
   refine norm_then ?_
   refine wp_seq ?_
   refine region ?_
   refine rs (vI 0) (r_assign rfl) ?_
   try simp only [sc0,sc1]
   refine run_nil ?_
   refine norm_then ?_
   refine wp_ret ?_
   obtain rfl:=Option.some.inj H
   refine bodyPost_ret (results_1 rfl (one_tmp rfl)) rfl ?_
   exact ⟨rfl,HS2.toE⟩

end Go.Proofs.YtfjppgobidjndaaDoor
namespace Go.Proofs.YtfjppgobidjndaaDoor
open Go.RowKit Go.M
def ctf_resolved.l0 (a0:api_Types):Nat→Int→Option (Int)
 |0,_=>none
 |m+1,y1_0=>if 0≤y1_0∧y1_0<a0.vDefs.length then (if ((rd z_api_Def a0.vDefs y1_0).vKind==6)=true then (if 0≤y1_0∧y1_0<a0.vDefs.length then (ctf_resolved.l0 a0 m ((rd z_api_Def a0.vDefs y1_0).vRef)) else none) else (some y1_0)) else none
def ctf_resolved.f (k:Nat) (a0:api_Types) (a1:Int):Option (Int):=(ctf_resolved.l0 a0 k a1).bind fun xx1=>(some xx1)
set_option maxRecDepth 20000 in
set_option maxHeartbeats 4000000 in
theorem ctf_resolved.calls (k:Nat) (a0:api_Types) (a1:Int) (A0_0:Option Addr) (c0_0:Nat) {h0:View} {w0:World} (hv:Sees h0 w0) (hr0_0:Rd k_api_Def h0 A0_0 a0.vDefs) (hc0_0:a0.vDefs.length≤c0_0) {r:Int} (H:ctf_resolved.f k a0 a1=some r):Calls Tryd.prog 45 #[Value.agg #[vL A0_0 a0.vDefs.length c0_0],vI a1] w0 (fun e w1=>e= .returned (vI r)∧Ext w0 w1):=by
 unfold ctf_resolved.f at H
 have HS:St [] h0 w0 h0 [] w0:=St.init hv
 go_enter Tryd.func45,Tryd.ntmps45
 refine wp_seq ?_
 refine region ?_
 refine run_ex rfl rfl (does_box (cs:=#[vL A0_0 a0.vDefs.length c0_0]) rfl rfl) ?_
 rintro w1 _ hE1 ⟨b1,rfl,ge1,hb1⟩
 have HS1:=HS.new hE1 ge1 hb1
 refine rs (vI 0) (r_assign rfl) ?_
 try simp only [sc0,sc1]
 refine run_nil ?_
 refine norm_then ?_
 refine wp_seq ?_
 obtain ⟨xx1,H,G1⟩:=of_bind H
 refine loop_patch [1,5,6,7,8,9,10,11,12,13,14,15,16,17] (fun m us w'=>∃y1_0:Int,∃uy1_5 uy1_6 uy1_7 uy1_8 uy1_9 uy1_10 uy1_11 uy1_12 uy1_13 uy1_14 uy1_15 uy1_16 uy1_17:Value,us=[vI y1_0,uy1_5,uy1_6,uy1_7,uy1_8,uy1_9,uy1_10,uy1_11,uy1_12,uy1_13,uy1_14,uy1_15,uy1_16,uy1_17]∧ctf_resolved.l0 a0 m y1_0=some xx1∧St [] h0 w0 h0 [(some b1, .cells #[vL A0_0 a0.vDefs.length c0_0] 24 (0,0))] w') (fun us w'=>∃uo1_5 uo1_6 uo1_7 uo1_8 uo1_9 uo1_10 uo1_11 uo1_12 uo1_13 uo1_14 uo1_15 uo1_16 uo1_17:Value,us=[vI xx1,uo1_5,uo1_6,uo1_7,uo1_8,uo1_9,uo1_10,uo1_11,uo1_12,uo1_13,uo1_14,uo1_15,uo1_16,uo1_17]∧St [] h0 w0 h0 [(some b1, .cells #[vL A0_0 a0.vDefs.length c0_0] 24 (0,0))] w') k [vI a1,undef,undef,undef,undef,undef,undef,undef,undef,undef,undef,undef,undef,undef] (by simp only [patch,sc0,sc1]) ⟨a1,_,_,_,_,_,_,_,_,_,_,_,_,_,rfl,H,HS1⟩ ?_ ?_
 ·rintro m us w2 ⟨y1_0,uy1_5,uy1_6,uy1_7,uy1_8,uy1_9,uy1_10,uy1_11,uy1_12,uy1_13,uy1_14,uy1_15,uy1_16,uy1_17,rfl,H,HS2⟩
  cases m with
  |zero=>exact absurd H (by simp [ctf_resolved.l0])
  |succ m=>
   rw [ctf_resolved.l0] at H
   try simp only [patch,sc0,sc1]
   refine wp_seq ?_
   refine wp_seq ?_
   refine region ?_
   refine rs (vP b1 0) (r_fieldBox (n:=1) (o':=0) rfl Tryd.runUnderlying24 rfl Tryd.sizeOf22 (by decide) rfl) ?_
   refine rs (vL A0_0 a0.vDefs.length c0_0) (r_loadBox rfl Tryd.isAgg22 (HS2.look 0 rfl) rfl) ?_
   refine rs (vI y1_0) (r_move rfl) ?_
   obtain ⟨hi1,H⟩:=of_ite H
   obtain ⟨ad1,Aad1_6,cad1_6,e1,hel1,hcad1_6,hrad1_6⟩:=ld_api_Def hr0_0 hi1.1 hi1.2
   refine rs (Value.pointer (some (Addr.add ad1 (y1_0.toNat*7)))) (r_indexA (sz:=7) rfl e1 rfl hi1.1 hi1.2 Tryd.runUnderlying22 Tryd.sizeOf34) ?_
   refine run_frame (by simp only [sc0,sc1];rfl) ?_
   refine rs (Value.pointer (some (Addr.add (Addr.add ad1 (y1_0.toNat*7)) 0))) (r_fieldEl (n:=1) (o':=0) rfl Tryd.runUnderlying34 rfl Tryd.sizeOf3 (by decide) rfl) ?_
   refine rs (vI ((rd z_api_Def a0.vDefs y1_0).vKind)) (r_load rfl Tryd.isAgg3 (hel1.cell HS2.sees 0 rfl)) ?_
   refine rs (vB ((rd z_api_Def a0.vDefs y1_0).vKind==6)) (r_bin rfl rfl rfl) ?_
   try simp only [sc0,sc1]
   refine run_nil ?_
   refine norm_then ?_
   refine wp_cond_split (t:=((rd z_api_Def a0.vDefs y1_0).vKind==6)) rfl (fun c1=>?_) (fun c1=>?_)
   ·replace H:=of_pos H c1
    refine wp_skip ?_
    refine norm_then ?_
    refine wp_block ?_
    refine region ?_
    refine rs (vP b1 0) (r_fieldBox (n:=1) (o':=0) rfl Tryd.runUnderlying24 rfl Tryd.sizeOf22 (by decide) rfl) ?_
    refine rs (vL A0_0 a0.vDefs.length c0_0) (r_loadBox rfl Tryd.isAgg22 (HS2.look 0 rfl) rfl) ?_
    refine rs (vI y1_0) (r_move rfl) ?_
    obtain ⟨hi2,H⟩:=of_ite H
    obtain ⟨ad2,Aad2_6,cad2_6,e2,hel2,hcad2_6,hrad2_6⟩:=ld_api_Def hr0_0 hi2.1 hi2.2
    refine rs (Value.pointer (some (Addr.add ad2 (y1_0.toNat*7)))) (r_indexA (sz:=7) rfl e2 rfl hi2.1 hi2.2 Tryd.runUnderlying22 Tryd.sizeOf34) ?_
    refine run_frame (by simp only [sc0,sc1];rfl) ?_
    refine rs (Value.pointer (some (Addr.add (Addr.add ad2 (y1_0.toNat*7)) 4))) (r_fieldEl (n:=1) (o':=4) rfl Tryd.runUnderlying34 rfl Tryd.sizeOf3 (by decide) rfl) ?_
    refine rs (vI ((rd z_api_Def a0.vDefs y1_0).vRef)) (r_load rfl Tryd.isAgg3 (hel2.cell HS2.sees 4 rfl)) ?_
    refine rs (vI ((rd z_api_Def a0.vDefs y1_0).vRef)) (r_assign rfl) ?_
    try simp only [sc0,sc1]
    refine run_nil ?_
    refine norm_block ?_
    refine again m [vI ((rd z_api_Def a0.vDefs y1_0).vRef),vP b1 0,vL A0_0 a0.vDefs.length c0_0,vI y1_0,Value.pointer (some (Addr.add ad1 (y1_0.toNat*7))),Value.pointer (some (Addr.add (Addr.add ad1 (y1_0.toNat*7)) 0)),vI ((rd z_api_Def a0.vDefs y1_0).vKind),vB ((rd z_api_Def a0.vDefs y1_0).vKind==6),vP b1 0,vL A0_0 a0.vDefs.length c0_0,vI y1_0,Value.pointer (some (Addr.add ad2 (y1_0.toNat*7))),Value.pointer (some (Addr.add (Addr.add ad2 (y1_0.toNat*7)) 4)),vI ((rd z_api_Def a0.vDefs y1_0).vRef)] (Nat.lt_succ_self m) (by simp only [patch,sc0,sc1]) ⟨(rd z_api_Def a0.vDefs y1_0).vRef,_,_,_,_,_,_,_,_,_,_,_,_,_,rfl,H,HS2⟩
   ·replace H:=of_neg H (nt c1)
    refine wp_exit ?_
    refine exit_then ?_
    obtain rfl:=Option.some.inj H
    refine leave [vI y1_0,vP b1 0,vL A0_0 a0.vDefs.length c0_0,vI y1_0,Value.pointer (some (Addr.add ad1 (y1_0.toNat*7))),Value.pointer (some (Addr.add (Addr.add ad1 (y1_0.toNat*7)) 0)),vI ((rd z_api_Def a0.vDefs y1_0).vKind),vB ((rd z_api_Def a0.vDefs y1_0).vKind==6),uy1_12,uy1_13,uy1_14,uy1_15,uy1_16,uy1_17] (by simp only [patch,sc0,sc1]) ⟨_,_,_,_,_,_,_,_,_,_,_,_,_,rfl,HS2⟩
 ·rintro us w3 ⟨uo1_5,uo1_6,uo1_7,uo1_8,uo1_9,uo1_10,uo1_11,uo1_12,uo1_13,uo1_14,uo1_15,uo1_16,uo1_17,rfl,HS3⟩
  replace H:=G1
  clear G1
  try simp only [patch,sc0,sc1]
  refine norm_then ?_
  refine wp_seq ?_
  refine region ?_
  refine rs (vI xx1) (r_move rfl) ?_
  refine rs (vI xx1) (r_assign rfl) ?_
  try simp only [sc0,sc1]
  refine run_nil ?_
  refine norm_then ?_
  refine wp_ret ?_
  obtain rfl:=Option.some.inj H
  refine bodyPost_ret (results_1 rfl (one_tmp rfl)) rfl ?_
  exact ⟨rfl,HS3.toE⟩

end Go.Proofs.YtfjppgobidjndaaDoor
