/- Parts of a proof, merged by program: F109 F108 F70 F69 F37 F42 F13 Q6 G1 F49 F94 F95 F96 F97 F48 F98 F50 F51 F52. The walks (each function once) and the plain laws; no condition of their own. -/
import Derived.Test.YtfjppgobidjndaaDoorLok3
set_option linter.unusedVariables false
set_option linter.unusedSimpArgs false
namespace Go.Proofs.YtfjppgobidjndaaDoor
open Go.RowKit Go.M
def ctf_putField.f (k:Nat) (a0:List Int) (a1:api_Field):Option ((List Int)):=(ctf_putString.f k a0 a1.vName).bind fun v1=>((ctf_put.f k v1 a1.vType).bind fun v2=>((ctf_put.f k v2 a1.vAt).bind fun v3=>(some v3)))
set_option maxRecDepth 20000 in
set_option maxHeartbeats 4000000 in
theorem ctf_putField.calls (k:Nat) (a0:List Int) (a1:api_Field) (oba0:Option Nat) (ca0:Nat) (csa0:List Value) (fra0:Nat×Nat) {h0:View} {w0:World} {h:View} {w:World} {rest:List Res} (HS:St [] h0 w0 h ((oba0, .cells (csa0).toArray 5 fra0)::rest) w) (hoa0:RowOk (Kd.int .u8) h a0 oba0 a0.length ca0 csa0) (hfa0:FrOk fra0 csa0.length) {r:(List Int)} (H:ctf_putField.f k a0 a1=some r):Calls Tryd.prog 109 #[vL (rowA oba0) a0.length ca0,Value.agg #[vS a1.vName,vI a1.vType,vI a1.vAt]] w (fun e w1=>∃(obz_a0:Option Nat) (cz_a0:Nat) (csz_a0:List Value),∃(frz_a0:Nat×Nat),e= .returned (vL (rowA obz_a0) r.length cz_a0)∧FrOk frz_a0 csz_a0.length∧RowOk (Kd.int .u8) h r obz_a0 r.length cz_a0 csz_a0∧St [] h0 w0 h ((obz_a0, .cells (csz_a0).toArray 5 frz_a0)::rest) w1):=by
 unfold ctf_putField.f at H
 have hsub:Sub h h:=Sub.rfl' h
 go_enter Tryd.func109,Tryd.ntmps109
 refine wp_seq ?_
 refine region ?_
 refine run_ex rfl rfl (does_box (cs:=#[vS a1.vName,vI a1.vType,vI a1.vAt]) rfl rfl) ?_
 rintro w1 _ hE1 ⟨b1,rfl,ge1,hb1⟩
 have HS1:=HS.new hE1 ge1 hb1
 refine rs (vL none 0 0) (r_assign rfl) ?_
 try simp only [sc0,sc1]
 refine run_nil ?_
 refine norm_then ?_
 refine wp_seq ?_
 refine drawn_chain [([5,6,7,9,10,12,13],[0,1,2,4,5,7,8]),([],[4,5,7,8]),([],[7,8]),([4],[10])] [3,6,9] [[],[],[1],[0,1,2],[],[4],[0,1,2,3,4,5],[],[7],[0,1,2,3,4,5,6,7,8],[0,1,2,3,4,5,6,7,8,9]] hmix (by kernel_rfl) ?_
 intro w2 hE2
 have HS2:=HS1.step hE2
 refine chain_eff [vL (rowA oba0) a0.length ca0,vP b1 0,vS a1.vName,vP b1 1,vI a1.vType,vP b1 2,vI a1.vAt] ?_ rfl rfl ?_
 ·try simp only [patch,sc0,sc1]
  exact allg_cons (good_same (v:=vL (rowA oba0) a0.length ca0) rfl rfl rfl rfl (r_move rfl)) (allg_cons (good_same (v:=vP b1 0) rfl rfl rfl rfl (r_fieldBox (n:=1) (o':=0) rfl Tryd.runUnderlying36 rfl Tryd.sizeOf9 (by decide) rfl)) (allg_cons (good_same (v:=vS a1.vName) rfl rfl rfl rfl (r_loadBox rfl Tryd.isAgg9 (HS2.look 0 rfl) rfl)) (allg_cons (good_same (v:=vP b1 1) rfl rfl rfl rfl (r_fieldBox (n:=1) (o':=1) rfl Tryd.runUnderlying36 rfl Tryd.sizeOf3 (by decide) rfl)) (allg_cons (good_same (v:=vI a1.vType) rfl rfl rfl rfl (r_loadBox rfl Tryd.isAgg3 (HS2.look 0 rfl) rfl)) (allg_cons (good_same (v:=vP b1 2) rfl rfl rfl rfl (r_fieldBox (n:=1) (o':=2) rfl Tryd.runUnderlying36 rfl Tryd.sizeOf3 (by decide) rfl)) (allg_cons (good_same (v:=vI a1.vAt) rfl rfl rfl rfl (r_loadBox rfl Tryd.isAgg3 (HS2.look 0 rfl) rfl)) (allg_nil)))))))
 try simp only [patch,sc0,sc1]
 obtain ⟨v1,H1,H⟩:=of_bind H
 have HS3:=HS2.f1
 refine run_call (vs:=[vL (rowA oba0) a0.length ca0,vS a1.vName]) (caps:=[]) Tryd.call107 rfl rfl (ctf_putString.calls k a0 a1.vName oba0 ca0 csa0 fra0 HS3 hoa0 hfa0 H1) ?_
 rintro _ w3 ⟨obv1_a0,cv1_a0,csv1_a0,frv1_a0,rfl,hfv1_a0,hov1_a0,HS4⟩
 refine ⟨_,rfl,?_⟩
 have HS5:=HS4.f1
 refine qn_nil ?_
 try simp only [sc0,sc1]
 refine chain_eff [] ?_ rfl rfl ?_
 ·try simp only [patch,sc0,sc1]
  exact allg_cons (good_same (v:=vP b1 1) rfl rfl rfl rfl (r_fieldBox (n:=1) (o':=1) rfl Tryd.runUnderlying36 rfl Tryd.sizeOf3 (by decide) rfl)) (allg_cons (good_same (v:=vI a1.vType) rfl rfl rfl rfl (r_loadBox rfl Tryd.isAgg3 (HS5.look 0 rfl) rfl)) (allg_cons (good_same (v:=vP b1 2) rfl rfl rfl rfl (r_fieldBox (n:=1) (o':=2) rfl Tryd.runUnderlying36 rfl Tryd.sizeOf3 (by decide) rfl)) (allg_cons (good_same (v:=vI a1.vAt) rfl rfl rfl rfl (r_loadBox rfl Tryd.isAgg3 (HS5.look 0 rfl) rfl)) (allg_nil))))
 try simp only [patch,sc0,sc1]
 obtain ⟨v2,H2,H⟩:=of_bind H
 have HS6:=HS5.f1
 refine run_call (vs:=[vL (rowA obv1_a0) v1.length cv1_a0,vI a1.vType]) (caps:=[]) Tryd.call106 rfl rfl (ctf_put.calls k v1 a1.vType obv1_a0 cv1_a0 csv1_a0 frv1_a0 HS6 hov1_a0 hfv1_a0 H2) ?_
 rintro _ w4 ⟨obv2_a0,cv2_a0,csv2_a0,frv2_a0,rfl,hfv2_a0,hov2_a0,HS7⟩
 refine ⟨_,rfl,?_⟩
 have HS8:=HS7.f1
 refine qn_nil ?_
 try simp only [sc0,sc1]
 refine chain_eff [] ?_ rfl rfl ?_
 ·try simp only [patch,sc0,sc1]
  exact allg_cons (good_same (v:=vP b1 2) rfl rfl rfl rfl (r_fieldBox (n:=1) (o':=2) rfl Tryd.runUnderlying36 rfl Tryd.sizeOf3 (by decide) rfl)) (allg_cons (good_same (v:=vI a1.vAt) rfl rfl rfl rfl (r_loadBox rfl Tryd.isAgg3 (HS8.look 0 rfl) rfl)) (allg_nil))
 try simp only [patch,sc0,sc1]
 obtain ⟨v3,H3,H⟩:=of_bind H
 have HS9:=HS8.f1
 refine run_call (vs:=[vL (rowA obv2_a0) v2.length cv2_a0,vI a1.vAt]) (caps:=[]) Tryd.call106 rfl rfl (ctf_put.calls k v2 a1.vAt obv2_a0 cv2_a0 csv2_a0 frv2_a0 HS9 hov2_a0 hfv2_a0 H3) ?_
 rintro _ w5 ⟨obv3_a0,cv3_a0,csv3_a0,frv3_a0,rfl,hfv3_a0,hov3_a0,HS10⟩
 refine ⟨_,rfl,?_⟩
 have HS11:=HS10.f1
 refine qn_nil ?_
 try simp only [sc0,sc1]
 refine chain_last [vL (rowA obv3_a0) v3.length cv3_a0] ?_ ?_
 ·try simp only [patch,sc0,sc1]
  exact allg_cons (good_same (v:=vL (rowA obv3_a0) v3.length cv3_a0) rfl rfl rfl rfl (r_assign rfl)) (allg_nil)
 try simp only [patch,sc0,sc1]
 refine norm_then ?_
 refine wp_ret ?_
 obtain rfl:=Option.some.inj H
 refine bodyPost_ret (results_1 rfl (one_tmp rfl)) rfl ?_
 have HS12:=HS11.d0
 exact ⟨obv3_a0,cv3_a0,csv3_a0,frv3_a0,rfl,hfv3_a0,hov3_a0,HS12⟩

end Go.Proofs.YtfjppgobidjndaaDoor
namespace Go.Proofs.YtfjppgobidjndaaDoor
open Go.RowKit Go.M
def ctf_putList_api_Field.l0 (k:Nat) (a1:List api_Field):Nat→Int→(List Int)→Option ((List Int))
 |0,_,_=>none
 |m+1,y1_0,y1_1=>if (decide (y1_0<(a1.length:Int)))=true then (if 0≤y1_0∧y1_0<a1.length then ((ctf_putField.f k y1_1 (rd z_api_Field a1 y1_0)).bind fun v2=>(ctf_putList_api_Field.l0 k a1 m (IntKind.wrap .i64 (y1_0+1)) v2)) else none) else (some y1_1)
def ctf_putList_api_Field.f (k:Nat) (a0:List Int) (a1:List api_Field):Option ((List Int)):=(ctf_put.f k a0 (a1.length:Int)).bind fun v1=>((ctf_putList_api_Field.l0 k a1 k 0 v1).bind fun xx1=>(some xx1))
set_option maxRecDepth 20000 in
set_option maxHeartbeats 4000000 in
theorem ctf_putList_api_Field.calls (k:Nat) (a0:List Int) (a1:List api_Field) (oba0:Option Nat) (ca0:Nat) (csa0:List Value) (fra0:Nat×Nat) (A1_0:Option Addr) (c1_0:Nat) {h0:View} {w0:World} {h:View} {w:World} {rest:List Res} (HS:St [] h0 w0 h ((oba0, .cells (csa0).toArray 5 fra0)::rest) w) (hoa0:RowOk (Kd.int .u8) h a0 oba0 a0.length ca0 csa0) (hfa0:FrOk fra0 csa0.length) (hr1_0:Rd k_api_Field h A1_0 a1) (hc1_0:a1.length≤c1_0) {r:(List Int)} (H:ctf_putList_api_Field.f k a0 a1=some r):Calls Tryd.prog 108 #[vL (rowA oba0) a0.length ca0,vL A1_0 a1.length c1_0,Value.func (.func 109) #[] #[]] w (fun e w1=>∃(obz_a0:Option Nat) (cz_a0:Nat) (csz_a0:List Value),∃(frz_a0:Nat×Nat),e= .returned (vL (rowA obz_a0) r.length cz_a0)∧FrOk frz_a0 csz_a0.length∧RowOk (Kd.int .u8) h r obz_a0 r.length cz_a0 csz_a0∧St [] h0 w0 h ((obz_a0, .cells (csz_a0).toArray 5 frz_a0)::rest) w1):=by
 unfold ctf_putList_api_Field.f at H
 have hsub:Sub h h:=Sub.rfl' h
 go_enter Tryd.func108,Tryd.ntmps108
 refine wp_seq ?_
 refine region ?_
 refine rs (vL none 0 0) (r_assign rfl) ?_
 try simp only [sc0,sc1]
 refine run_nil ?_
 refine norm_then ?_
 refine wp_seq ?_
 refine region ?_
 refine rs (vL (rowA oba0) a0.length ca0) (r_move rfl) ?_
 refine rs (vL A1_0 a1.length c1_0) (r_move rfl) ?_
 refine rs (vI (a1.length:Int)) (r_len rfl Tryd.runUnderlying32) ?_
 obtain ⟨v1,H1,H⟩:=of_bind H
 refine run_call (vs:=[vL (rowA oba0) a0.length ca0,vI (a1.length:Int)]) (caps:=[]) Tryd.call106 rfl rfl (ctf_put.calls k a0 (a1.length:Int) oba0 ca0 csa0 fra0 HS hoa0 hfa0 H1) ?_
 rintro _ w1 ⟨obv1_a0,cv1_a0,csv1_a0,frv1_a0,rfl,hfv1_a0,hov1_a0,HS1⟩
 refine ⟨_,rfl,?_⟩
 refine run_frame (by simp only [sc0,sc1];rfl) ?_
 refine rs (vL (rowA obv1_a0) v1.length cv1_a0) (r_assign rfl) ?_
 try simp only [sc0,sc1]
 refine run_nil ?_
 refine norm_then ?_
 refine wp_seq ?_
 refine wp_seq ?_
 refine region ?_
 refine rs (vL A1_0 a1.length c1_0) (r_move rfl) ?_
 refine rs (vI (a1.length:Int)) (r_len rfl Tryd.runUnderlying32) ?_
 refine rs (vI 0) (r_move rfl) ?_
 try simp only [sc0,sc1]
 refine run_nil ?_
 refine norm_then ?_
 obtain ⟨xx1,H,G1⟩:=of_bind H
 refine loop_patch [0,8,15,16,17,18,19,20,21,22,23] (fun m us w'=>∃y1_0:Int,∃y1_1:List Int,∃(oby1_1:Option Nat) (cy1_1:Nat),∃csy1_1:List Value,∃fry1_1:Nat×Nat,∃uy1_8 uy1_16 uy1_17 uy1_18 uy1_19 uy1_20 uy1_21 uy1_22 uy1_23:Value,us=[vL (rowA oby1_1) y1_1.length cy1_1,uy1_8,vI y1_0,uy1_16,uy1_17,uy1_18,uy1_19,uy1_20,uy1_21,uy1_22,uy1_23]∧ctf_putList_api_Field.l0 k a1 m y1_0 y1_1=some xx1∧FrOk fry1_1 csy1_1.length∧RowOk (Kd.int .u8) h y1_1 oby1_1 y1_1.length cy1_1 csy1_1∧St [] h0 w0 h ((oby1_1, .cells (csy1_1).toArray 5 fry1_1)::rest) w') (fun us w'=>∃(obo1_0:Option Nat) (co1_0:Nat),∃cso1_0:List Value,∃fro1_0:Nat×Nat,∃uo1_8 uo1_15 uo1_16 uo1_17 uo1_18 uo1_19 uo1_20 uo1_21 uo1_22 uo1_23:Value,us=[vL (rowA obo1_0) xx1.length co1_0,uo1_8,uo1_15,uo1_16,uo1_17,uo1_18,uo1_19,uo1_20,uo1_21,uo1_22,uo1_23]∧FrOk fro1_0 cso1_0.length∧RowOk (Kd.int .u8) h xx1 obo1_0 xx1.length co1_0 cso1_0∧St [] h0 w0 h ((obo1_0, .cells (cso1_0).toArray 5 fro1_0)::rest) w') k [vL (rowA obv1_a0) v1.length cv1_a0,undef,vI 0,undef,undef,undef,undef,undef,undef,undef,undef] (by simp only [patch,sc0,sc1]) ⟨0,v1,obv1_a0,cv1_a0,csv1_a0,frv1_a0,_,_,_,_,_,_,_,_,_,rfl,H,hfv1_a0,hov1_a0.norm,HS1⟩ ?_ ?_
 ·rintro m us w2 ⟨y1_0,y1_1,oby1_1,cy1_1,csy1_1,fry1_1,uy1_8,uy1_16,uy1_17,uy1_18,uy1_19,uy1_20,uy1_21,uy1_22,uy1_23,rfl,H,hfy1_1,hoy1_1,HS2⟩
  cases m with
  |zero=>exact absurd H (by simp [ctf_putList_api_Field.l0])
  |succ m=>
   rw [ctf_putList_api_Field.l0] at H
   try simp only [patch,sc0,sc1]
   refine wp_seq ?_
   refine region ?_
   refine rs (vB (decide (y1_0<(a1.length:Int)))) (r_bin rfl rfl rfl) ?_
   try simp only [sc0,sc1]
   refine run_nil ?_
   refine norm_then ?_
   refine wp_seq ?_
   refine wp_cond_split (t:=(decide (y1_0<(a1.length:Int)))) rfl (fun c1=>?_) (fun c1=>?_)
   ·replace H:=of_pos H c1
    refine wp_skip ?_
    refine norm_then ?_
    refine wp_seq ?_
    refine wp_block ?_
    refine wp_seq ?_
    refine region ?_
    obtain ⟨hi1,H⟩:=of_ite H
    obtain ⟨ad1,e1,hel1⟩:=ld_api_Field hr1_0 hi1.1 hi1.2
    refine rs (Value.pointer (some (Addr.add ad1 (y1_0.toNat*3)))) (r_indexA (sz:=3) rfl e1 rfl hi1.1 hi1.2 Tryd.runUnderlying32 Tryd.sizeOf36) ?_
    refine rs (Value.agg #[vS ((rd z_api_Field a1 y1_0).vName),vI ((rd z_api_Field a1 y1_0).vType),vI ((rd z_api_Field a1 y1_0).vAt)]) (r_loadAgg rfl Tryd.isAgg36 (hel1.sees HS2.sees) Tryd.sizeOf36) ?_
    refine run_ex rfl rfl (does_alloc (cs:=#[vS ByteArray.empty,vI 0,vI 0]) Tryd.zeroValue36 rfl) ?_
    rintro w3 _ hE1 ⟨b1,rfl,ge1,hb1⟩
    have HS3:=HS2.new hE1 ge1 hb1
    refine run_st (i:=0) (cs:=[vS ByteArray.empty,vI 0,vI 0]) (cs':=[vS ((rd z_api_Field a1 y1_0).vName),vI ((rd z_api_Field a1 y1_0).vType),vI ((rd z_api_Field a1 y1_0).vAt)]) (vs:=[vS ((rd z_api_Field a1 y1_0).vName),vI ((rd z_api_Field a1 y1_0).vType),vI ((rd z_api_Field a1 y1_0).vAt)]) (bs':=((some b1, .cells #[vS ((rd z_api_Field a1 y1_0).vName),vI ((rd z_api_Field a1 y1_0).vType),vI ((rd z_api_Field a1 y1_0).vAt)] 36 (0,0))::(oby1_1, .cells (csy1_1).toArray 5 fry1_1)::rest)) rfl rfl Tryd.sizeOf36 rfl rfl (by decide) rfl HS3 rfl (Nat.le_of_ble_eq_true rfl) rfl rfl ?_
    intro w4 HS4
    try simp only [sc0,sc1]
    refine run_nil ?_
    refine norm_then ?_
    refine region ?_
    refine rs (Value.func (.func 109) #[] #[]) (r_move rfl) ?_
    refine rs (vL (rowA oby1_1) y1_1.length cy1_1) (r_move rfl) ?_
    refine rs (Value.agg #[vS ((rd z_api_Field a1 y1_0).vName),vI ((rd z_api_Field a1 y1_0).vType),vI ((rd z_api_Field a1 y1_0).vAt)]) (r_loadBoxAgg (n:=3) (vs:=[vS ((rd z_api_Field a1 y1_0).vName),vI ((rd z_api_Field a1 y1_0).vType),vI ((rd z_api_Field a1 y1_0).vAt)]) rfl Tryd.isAgg36 (HS4.look 0 rfl) Tryd.sizeOf36 rfl rfl) ?_
    obtain ⟨v2,H2,H⟩:=of_bind H
    have HS5:=HS4.f1
    refine run_call (vs:=[vL (rowA oby1_1) y1_1.length cy1_1,Value.agg #[vS ((rd z_api_Field a1 y1_0).vName),vI ((rd z_api_Field a1 y1_0).vType),vI ((rd z_api_Field a1 y1_0).vAt)]]) (caps:=[]) Tryd.call109 rfl rfl (ctf_putField.calls k y1_1 (rd z_api_Field a1 y1_0) oby1_1 cy1_1 csy1_1 fry1_1 HS5 hoy1_1 hfy1_1 H2) ?_
    rintro _ w5 ⟨obv2_a0,cv2_a0,csv2_a0,frv2_a0,rfl,hfv2_a0,hov2_a0,HS6⟩
    refine ⟨_,rfl,?_⟩
    have HS7:=HS6.f1
    refine run_frame (by simp only [sc0,sc1];rfl) ?_
    refine rs (vL (rowA obv2_a0) v2.length cv2_a0) (r_assign rfl) ?_
    try simp only [sc0,sc1]
    refine run_nil ?_
    refine norm_block ?_
    refine norm_then ?_
    refine region ?_
    refine rs (vI (w64 (y1_0+1))) (r_bin rfl rfl rfl) ?_
    refine rs (vI (w64 (y1_0+1))) (r_move rfl) ?_
    try simp only [sc0,sc1]
    refine run_nil ?_
    refine again m [vL (rowA obv2_a0) v2.length cv2_a0,vP b1 0,vI (w64 (y1_0+1)),vB (decide (y1_0<(a1.length:Int))),Value.pointer (some (Addr.add ad1 (y1_0.toNat*3))),Value.agg #[vS ((rd z_api_Field a1 y1_0).vName),vI ((rd z_api_Field a1 y1_0).vType),vI ((rd z_api_Field a1 y1_0).vAt)],Value.func (.func 109) #[] #[],vL (rowA oby1_1) y1_1.length cy1_1,Value.agg #[vS ((rd z_api_Field a1 y1_0).vName),vI ((rd z_api_Field a1 y1_0).vType),vI ((rd z_api_Field a1 y1_0).vAt)],vL (rowA obv2_a0) v2.length cv2_a0,vI (w64 (y1_0+1))] (Nat.lt_succ_self m) (by simp only [patch,sc0,sc1]) ⟨(w64 (y1_0+1)),v2,obv2_a0,cv2_a0,csv2_a0,frv2_a0,_,_,_,_,_,_,_,_,_,rfl,H,hfv2_a0,hov2_a0.norm,HS7.tail⟩
   ·replace H:=of_neg H (nt c1)
    refine wp_exit ?_
    refine exit_then ?_
    obtain rfl:=Option.some.inj H
    refine leave [vL (rowA oby1_1) y1_1.length cy1_1,uy1_8,vI y1_0,vB (decide (y1_0<(a1.length:Int))),uy1_17,uy1_18,uy1_19,uy1_20,uy1_21,uy1_22,uy1_23] (by simp only [patch,sc0,sc1]) ⟨oby1_1,cy1_1,csy1_1,fry1_1,_,_,_,_,_,_,_,_,_,_,rfl,hfy1_1,hoy1_1.norm,HS2⟩
 ·rintro us w6 ⟨obo1_0,co1_0,cso1_0,fro1_0,uo1_8,uo1_15,uo1_16,uo1_17,uo1_18,uo1_19,uo1_20,uo1_21,uo1_22,uo1_23,rfl,hfo1_0,hoo1_0,HS8⟩
  replace H:=G1
  clear G1
  try simp only [patch,sc0,sc1]
  refine norm_then ?_
  refine wp_seq ?_
  refine region ?_
  refine rs (vL (rowA obo1_0) xx1.length co1_0) (r_move rfl) ?_
  refine rs (vL (rowA obo1_0) xx1.length co1_0) (r_assign rfl) ?_
  try simp only [sc0,sc1]
  refine run_nil ?_
  refine norm_then ?_
  refine wp_ret ?_
  obtain rfl:=Option.some.inj H
  refine bodyPost_ret (results_1 rfl (one_tmp rfl)) rfl ?_
  exact ⟨obo1_0,co1_0,cso1_0,fro1_0,rfl,hfo1_0,hoo1_0,HS8⟩

end Go.Proofs.YtfjppgobidjndaaDoor
namespace Go.Proofs.YtfjppgobidjndaaDoor
open Go.RowKit Go.M
def ctf_putDef.f (k:Nat) (a0:List Int) (a1:api_Def):Option ((List Int)):=(ctf_put.f k a0 a1.vKind).bind fun v1=>((ctf_putString.f k v1 a1.vName).bind fun v2=>((ctf_put.f k v2 a1.vInt.vSize).bind fun v3=>(((if a1.vInt.vSigned=true then (if v3.length+1≤4294967296 then (some (v3++([1]:List Int))) else none) else (if v3.length+1≤4294967296 then (some (v3++([0]:List Int))) else none)):Option ((List Int))).bind fun xx1=>((ctf_put.f k xx1 a1.vRef).bind fun v4=>((ctf_put.f k v4 a1.vN).bind fun v5=>((ctf_putList_api_Field.f k v5 a1.vFields).bind fun v6=>(some v6)))))))
set_option maxRecDepth 20000 in
set_option maxHeartbeats 4000000 in
theorem ctf_putDef.calls (k:Nat) (a0:List Int) (a1:api_Def) (oba0:Option Nat) (ca0:Nat) (csa0:List Value) (fra0:Nat×Nat) (A1_6:Option Addr) (c1_6:Nat) {h0:View} {w0:World} {h:View} {w:World} {rest:List Res} (HS:St [] h0 w0 h ((oba0, .cells (csa0).toArray 5 fra0)::rest) w) (hoa0:RowOk (Kd.int .u8) h a0 oba0 a0.length ca0 csa0) (hfa0:FrOk fra0 csa0.length) (hr1_6:Rd k_api_Field h A1_6 a1.vFields) (hc1_6:a1.vFields.length≤c1_6) {r:(List Int)} (H:ctf_putDef.f k a0 a1=some r):Calls Tryd.prog 70 #[vL (rowA oba0) a0.length ca0,Value.agg #[vI a1.vKind,vS a1.vName,vI a1.vInt.vSize,vB a1.vInt.vSigned,vI a1.vRef,vI a1.vN,vL A1_6 a1.vFields.length c1_6]] w (fun e w1=>∃(obz_a0:Option Nat) (cz_a0:Nat) (csz_a0:List Value),∃(frz_a0:Nat×Nat),e= .returned (vL (rowA obz_a0) r.length cz_a0)∧FrOk frz_a0 csz_a0.length∧RowOk (Kd.int .u8) h r obz_a0 r.length cz_a0 csz_a0∧St [] h0 w0 h ((obz_a0, .cells (csz_a0).toArray 5 frz_a0)::rest) w1):=by
 unfold ctf_putDef.f at H
 have hsub:Sub h h:=Sub.rfl' h
 go_enter Tryd.func70,Tryd.ntmps70
 refine wp_seq ?_
 refine region ?_
 refine run_ex rfl rfl (does_box (cs:=#[vI a1.vKind,vS a1.vName,vI a1.vInt.vSize,vB a1.vInt.vSigned,vI a1.vRef,vI a1.vN,vL A1_6 a1.vFields.length c1_6]) rfl rfl) ?_
 rintro w1 _ hE1 ⟨b1,rfl,ge1,hb1⟩
 have HS1:=HS.new hE1 ge1 hb1
 refine rs (vL none 0 0) (r_assign rfl) ?_
 try simp only [sc0,sc1]
 refine run_nil ?_
 refine norm_then ?_
 refine wp_seq ?_
 refine drawn_chain [([5,6,7,9,10,12,13,14],[0,1,2,4,5,7,8,9]),([],[4,5,7,8,9]),([],[7,8,9]),([0],[11])] [3,6,10] [[],[],[1],[0,1,2],[],[4],[0,1,2,3,4,5],[],[7],[7,8],[0,1,2,3,4,5,6,7,8,9],[0,1,2,3,4,5,6,7,8,9,10]] hmix (by kernel_rfl) ?_
 intro w2 hE2
 have HS2:=HS1.step hE2
 refine chain_eff [vL (rowA oba0) a0.length ca0,vP b1 0,vI a1.vKind,vP b1 1,vS a1.vName,vP b1 2,vP b1 2,vI a1.vInt.vSize] ?_ rfl rfl ?_
 ·try simp only [patch,sc0,sc1]
  exact allg_cons (good_same (v:=vL (rowA oba0) a0.length ca0) rfl rfl rfl rfl (r_move rfl)) (allg_cons (good_same (v:=vP b1 0) rfl rfl rfl rfl (r_fieldBox (n:=1) (o':=0) rfl Tryd.runUnderlying34 rfl Tryd.sizeOf3 (by decide) rfl)) (allg_cons (good_same (v:=vI a1.vKind) rfl rfl rfl rfl (r_loadBox rfl Tryd.isAgg3 (HS2.look 0 rfl) rfl)) (allg_cons (good_same (v:=vP b1 1) rfl rfl rfl rfl (r_fieldBox (n:=1) (o':=1) rfl Tryd.runUnderlying34 rfl Tryd.sizeOf9 (by decide) rfl)) (allg_cons (good_same (v:=vS a1.vName) rfl rfl rfl rfl (r_loadBox rfl Tryd.isAgg9 (HS2.look 0 rfl) rfl)) (allg_cons (good_same (v:=vP b1 2) rfl rfl rfl rfl (r_fieldBox (n:=2) (o':=2) rfl Tryd.runUnderlying34 rfl Tryd.sizeOf31 (by decide) rfl)) (allg_cons (good_same (v:=vP b1 2) rfl rfl rfl rfl (r_fieldBox (n:=1) (o':=2) rfl Tryd.runUnderlying31 rfl Tryd.sizeOf3 (by decide) rfl)) (allg_cons (good_same (v:=vI a1.vInt.vSize) rfl rfl rfl rfl (r_loadBox rfl Tryd.isAgg3 (HS2.look 0 rfl) rfl)) (allg_nil))))))))
 try simp only [patch,sc0,sc1]
 obtain ⟨v1,H1,H⟩:=of_bind H
 have HS3:=HS2.f1
 refine run_call (vs:=[vL (rowA oba0) a0.length ca0,vI a1.vKind]) (caps:=[]) Tryd.call106 rfl rfl (ctf_put.calls k a0 a1.vKind oba0 ca0 csa0 fra0 HS3 hoa0 hfa0 H1) ?_
 rintro _ w3 ⟨obv1_a0,cv1_a0,csv1_a0,frv1_a0,rfl,hfv1_a0,hov1_a0,HS4⟩
 refine ⟨_,rfl,?_⟩
 have HS5:=HS4.f1
 refine qn_nil ?_
 try simp only [sc0,sc1]
 refine chain_eff [] ?_ rfl rfl ?_
 ·try simp only [patch,sc0,sc1]
  exact allg_cons (good_same (v:=vP b1 1) rfl rfl rfl rfl (r_fieldBox (n:=1) (o':=1) rfl Tryd.runUnderlying34 rfl Tryd.sizeOf9 (by decide) rfl)) (allg_cons (good_same (v:=vS a1.vName) rfl rfl rfl rfl (r_loadBox rfl Tryd.isAgg9 (HS5.look 0 rfl) rfl)) (allg_cons (good_same (v:=vP b1 2) rfl rfl rfl rfl (r_fieldBox (n:=2) (o':=2) rfl Tryd.runUnderlying34 rfl Tryd.sizeOf31 (by decide) rfl)) (allg_cons (good_same (v:=vP b1 2) rfl rfl rfl rfl (r_fieldBox (n:=1) (o':=2) rfl Tryd.runUnderlying31 rfl Tryd.sizeOf3 (by decide) rfl)) (allg_cons (good_same (v:=vI a1.vInt.vSize) rfl rfl rfl rfl (r_loadBox rfl Tryd.isAgg3 (HS5.look 0 rfl) rfl)) (allg_nil)))))
 try simp only [patch,sc0,sc1]
 obtain ⟨v2,H2,H⟩:=of_bind H
 have HS6:=HS5.f1
 refine run_call (vs:=[vL (rowA obv1_a0) v1.length cv1_a0,vS a1.vName]) (caps:=[]) Tryd.call107 rfl rfl (ctf_putString.calls k v1 a1.vName obv1_a0 cv1_a0 csv1_a0 frv1_a0 HS6 hov1_a0 hfv1_a0 H2) ?_
 rintro _ w4 ⟨obv2_a0,cv2_a0,csv2_a0,frv2_a0,rfl,hfv2_a0,hov2_a0,HS7⟩
 refine ⟨_,rfl,?_⟩
 have HS8:=HS7.f1
 refine qn_nil ?_
 try simp only [sc0,sc1]
 refine chain_eff [] ?_ rfl rfl ?_
 ·try simp only [patch,sc0,sc1]
  exact allg_cons (good_same (v:=vP b1 2) rfl rfl rfl rfl (r_fieldBox (n:=2) (o':=2) rfl Tryd.runUnderlying34 rfl Tryd.sizeOf31 (by decide) rfl)) (allg_cons (good_same (v:=vP b1 2) rfl rfl rfl rfl (r_fieldBox (n:=1) (o':=2) rfl Tryd.runUnderlying31 rfl Tryd.sizeOf3 (by decide) rfl)) (allg_cons (good_same (v:=vI a1.vInt.vSize) rfl rfl rfl rfl (r_loadBox rfl Tryd.isAgg3 (HS8.look 0 rfl) rfl)) (allg_nil)))
 try simp only [patch,sc0,sc1]
 obtain ⟨v3,H3,H⟩:=of_bind H
 have HS9:=HS8.f1
 refine run_call (vs:=[vL (rowA obv2_a0) v2.length cv2_a0,vI a1.vInt.vSize]) (caps:=[]) Tryd.call106 rfl rfl (ctf_put.calls k v2 a1.vInt.vSize obv2_a0 cv2_a0 csv2_a0 frv2_a0 HS9 hov2_a0 hfv2_a0 H3) ?_
 rintro _ w5 ⟨obv3_a0,cv3_a0,csv3_a0,frv3_a0,rfl,hfv3_a0,hov3_a0,HS10⟩
 refine ⟨_,rfl,?_⟩
 have HS11:=HS10.f1
 refine qn_nil ?_
 try simp only [sc0,sc1]
 refine chain_last [vL (rowA obv3_a0) v3.length cv3_a0] ?_ ?_
 ·try simp only [patch,sc0,sc1]
  exact allg_cons (good_same (v:=vL (rowA obv3_a0) v3.length cv3_a0) rfl rfl rfl rfl (r_assign rfl)) (allg_nil)
 try simp only [patch,sc0,sc1]
 refine norm_then ?_
 refine wp_seq ?_
 refine wp_seq ?_
 refine region ?_
 refine rs (vP b1 2) (r_fieldBox (n:=2) (o':=2) rfl Tryd.runUnderlying34 rfl Tryd.sizeOf31 (by decide) rfl) ?_
 refine rs (vP b1 3) (r_fieldBox (n:=1) (o':=3) rfl Tryd.runUnderlying31 rfl Tryd.sizeOf4 (by decide) rfl) ?_
 refine rs (vB a1.vInt.vSigned) (r_loadBox rfl Tryd.isAgg4 (HS11.look 0 rfl) rfl) ?_
 try simp only [sc0,sc1]
 refine run_nil ?_
 refine norm_then ?_
 obtain ⟨xx1,H,G1⟩:=of_bind H
 refine cut_patch [0,19,20,21,22,23,24] (fun us w'=>∃(obj1_0:Option Nat) (cj1_0:Nat),∃csj1_0:List Value,∃frj1_0:Nat×Nat,∃uj1_19 uj1_20 uj1_21 uj1_22 uj1_23 uj1_24:Value,us=[vL (rowA obj1_0) xx1.length cj1_0,uj1_19,uj1_20,uj1_21,uj1_22,uj1_23,uj1_24]∧FrOk frj1_0 csj1_0.length∧RowOk (Kd.int .u8) h xx1 obj1_0 xx1.length cj1_0 csj1_0∧St [] h0 w0 h ((some b1, .cells #[vI a1.vKind,vS a1.vName,vI a1.vInt.vSize,vB a1.vInt.vSigned,vI a1.vRef,vI a1.vN,vL A1_6 a1.vFields.length c1_6] 34 (0,0))::(obj1_0, .cells (csj1_0).toArray 5 frj1_0)::rest) w') ?_ ?_
 ·refine wp_cond_split (t:=a1.vInt.vSigned) rfl (fun c1=>?_) (fun c1=>?_)
  ·replace H:=of_pos H c1
   refine region ?_
   refine rs (vL (rowA obv3_a0) v3.length cv3_a0) (r_move rfl) ?_
   refine run_bs (Kd.int .u8) (xs:=([1]:List Int)) (n:=1) (cs:=[Value.int .u8 1]) Tryd.runUnderlying80 Tryd.typeInfo5 Tryd.zeroValue5 rfl rfl (by decide) (by decide) (by decide) [Value.int .u8 1] (parts_any.trans rfl) rfl rfl rfl rfl (elems_cons (qs:=[Value.int .u8 1]) rfl (elems_nil (cs:=[]))) HS11 ?_
   intro w6 b2 HS12 ho1
   obtain ⟨hl1,H⟩:=of_ite H
   refine run_appf (Kd.int .u8) (q:=2) (cs:=csv3_a0) rfl rfl Tryd.runUnderlying80 Tryd.typeInfo5 Tryd.zeroValue5 rfl (by decide) rfl (src_row Tryd.runUnderlying80 HS12 (i:=0) rfl ho1 rfl) ho1.len (src_row_elems ho1) hl1 HS12 rfl hfv3_a0 hov3_a0 ?_
   rintro w7 ob1 c2 cs1 fr1 ⟨hf1,_⟩ HS13 ho2
   refine rs (vL (rowA ob1) (v3.length+1) c2) (r_assign rfl) ?_
   try simp only [sc0,sc1]
   refine run_nil ?_
   obtain rfl:=Option.some.inj H
   refine met [vL (rowA ob1) (v3.length+1) c2,vL (rowA obv3_a0) v3.length cv3_a0,vL (rowA (some b2)) 1 1,vL (rowA ob1) (v3.length+1) c2,undef,undef,undef] (by simp only [patch,sc0,sc1]) ⟨ob1,c2,cs1,fr1,_,_,_,_,_,_,(by first|rfl|(rw [ho2.len];done)|(rw [ho2.len];rfl)),hf1,ho2.norm,HS13.tail⟩
  ·replace H:=of_neg H (nt c1)
   refine region ?_
   refine rs (vL (rowA obv3_a0) v3.length cv3_a0) (r_move rfl) ?_
   refine run_bs (Kd.int .u8) (xs:=([0]:List Int)) (n:=1) (cs:=[Value.int .u8 0]) Tryd.runUnderlying80 Tryd.typeInfo5 Tryd.zeroValue5 rfl rfl (by decide) (by decide) (by decide) [Value.int .u8 0] (parts_any.trans rfl) rfl rfl rfl rfl (elems_cons (qs:=[Value.int .u8 0]) rfl (elems_nil (cs:=[]))) HS11 ?_
   intro w8 b3 HS14 ho3
   obtain ⟨hl2,H⟩:=of_ite H
   refine run_appf (Kd.int .u8) (q:=2) (cs:=csv3_a0) rfl rfl Tryd.runUnderlying80 Tryd.typeInfo5 Tryd.zeroValue5 rfl (by decide) rfl (src_row Tryd.runUnderlying80 HS14 (i:=0) rfl ho3 rfl) ho3.len (src_row_elems ho3) hl2 HS14 rfl hfv3_a0 hov3_a0 ?_
   rintro w9 ob2 c3 cs2 fr2 ⟨hf2,_⟩ HS15 ho4
   refine rs (vL (rowA ob2) (v3.length+1) c3) (r_assign rfl) ?_
   try simp only [sc0,sc1]
   refine run_nil ?_
   obtain rfl:=Option.some.inj H
   refine met [vL (rowA ob2) (v3.length+1) c3,undef,undef,undef,vL (rowA obv3_a0) v3.length cv3_a0,vL (rowA (some b3)) 1 1,vL (rowA ob2) (v3.length+1) c3] (by simp only [patch,sc0,sc1]) ⟨ob2,c3,cs2,fr2,_,_,_,_,_,_,(by first|rfl|(rw [ho4.len];done)|(rw [ho4.len];rfl)),hf2,ho4.norm,HS15.tail⟩
 ·rintro _ w10 ⟨obj1_0,cj1_0,csj1_0,frj1_0,uj1_19,uj1_20,uj1_21,uj1_22,uj1_23,uj1_24,rfl,hfj1_0,hoj1_0,HS16⟩
  replace H:=G1
  clear G1
  try simp only [patch,sc0,sc1]
  refine wp_seq ?_
  refine drawn_chain [([25,26,27,29,30,32,33],[0,1,2,4,5,7,8]),([],[4,5,7,8]),([],[7,8]),([4],[10])] [3,6,9] [[],[],[1],[0,1,2],[],[4],[0,1,2,3,4,5],[],[7],[0,1,2,3,4,5,6,7,8],[0,1,2,3,4,5,6,7,8,9]] hmix (by kernel_rfl) ?_
  intro w11 hE3
  have HS17:=HS16.step hE3
  refine chain_eff [vL (rowA obj1_0) xx1.length cj1_0,vP b1 4,vI a1.vRef,vP b1 5,vI a1.vN,vP b1 6,vL A1_6 a1.vFields.length c1_6] ?_ rfl rfl ?_
  ·try simp only [patch,sc0,sc1]
   exact allg_cons (good_same (v:=vL (rowA obj1_0) xx1.length cj1_0) rfl rfl rfl rfl (r_move rfl)) (allg_cons (good_same (v:=vP b1 4) rfl rfl rfl rfl (r_fieldBox (n:=1) (o':=4) rfl Tryd.runUnderlying34 rfl Tryd.sizeOf3 (by decide) rfl)) (allg_cons (good_same (v:=vI a1.vRef) rfl rfl rfl rfl (r_loadBox rfl Tryd.isAgg3 (HS17.look 0 rfl) rfl)) (allg_cons (good_same (v:=vP b1 5) rfl rfl rfl rfl (r_fieldBox (n:=1) (o':=5) rfl Tryd.runUnderlying34 rfl Tryd.sizeOf3 (by decide) rfl)) (allg_cons (good_same (v:=vI a1.vN) rfl rfl rfl rfl (r_loadBox rfl Tryd.isAgg3 (HS17.look 0 rfl) rfl)) (allg_cons (good_same (v:=vP b1 6) rfl rfl rfl rfl (r_fieldBox (n:=1) (o':=6) rfl Tryd.runUnderlying34 rfl Tryd.sizeOf32 (by decide) rfl)) (allg_cons (good_same (v:=vL A1_6 a1.vFields.length c1_6) rfl rfl rfl rfl (r_loadBox rfl Tryd.isAgg32 (HS17.look 0 rfl) rfl)) (allg_nil)))))))
  try simp only [patch,sc0,sc1]
  obtain ⟨v4,H4,H⟩:=of_bind H
  have HS18:=HS17.f1
  refine run_call (vs:=[vL (rowA obj1_0) xx1.length cj1_0,vI a1.vRef]) (caps:=[]) Tryd.call106 rfl rfl (ctf_put.calls k xx1 a1.vRef obj1_0 cj1_0 csj1_0 frj1_0 HS18 hoj1_0 hfj1_0 H4) ?_
  rintro _ w12 ⟨obv4_a0,cv4_a0,csv4_a0,frv4_a0,rfl,hfv4_a0,hov4_a0,HS19⟩
  refine ⟨_,rfl,?_⟩
  have HS20:=HS19.f1
  refine qn_nil ?_
  try simp only [sc0,sc1]
  refine chain_eff [] ?_ rfl rfl ?_
  ·try simp only [patch,sc0,sc1]
   exact allg_cons (good_same (v:=vP b1 5) rfl rfl rfl rfl (r_fieldBox (n:=1) (o':=5) rfl Tryd.runUnderlying34 rfl Tryd.sizeOf3 (by decide) rfl)) (allg_cons (good_same (v:=vI a1.vN) rfl rfl rfl rfl (r_loadBox rfl Tryd.isAgg3 (HS20.look 0 rfl) rfl)) (allg_cons (good_same (v:=vP b1 6) rfl rfl rfl rfl (r_fieldBox (n:=1) (o':=6) rfl Tryd.runUnderlying34 rfl Tryd.sizeOf32 (by decide) rfl)) (allg_cons (good_same (v:=vL A1_6 a1.vFields.length c1_6) rfl rfl rfl rfl (r_loadBox rfl Tryd.isAgg32 (HS20.look 0 rfl) rfl)) (allg_nil))))
  try simp only [patch,sc0,sc1]
  obtain ⟨v5,H5,H⟩:=of_bind H
  have HS21:=HS20.f1
  refine run_call (vs:=[vL (rowA obv4_a0) v4.length cv4_a0,vI a1.vN]) (caps:=[]) Tryd.call106 rfl rfl (ctf_put.calls k v4 a1.vN obv4_a0 cv4_a0 csv4_a0 frv4_a0 HS21 hov4_a0 hfv4_a0 H5) ?_
  rintro _ w13 ⟨obv5_a0,cv5_a0,csv5_a0,frv5_a0,rfl,hfv5_a0,hov5_a0,HS22⟩
  refine ⟨_,rfl,?_⟩
  have HS23:=HS22.f1
  refine qn_nil ?_
  try simp only [sc0,sc1]
  refine chain_eff [] ?_ rfl rfl ?_
  ·try simp only [patch,sc0,sc1]
   exact allg_cons (good_same (v:=vP b1 6) rfl rfl rfl rfl (r_fieldBox (n:=1) (o':=6) rfl Tryd.runUnderlying34 rfl Tryd.sizeOf32 (by decide) rfl)) (allg_cons (good_same (v:=vL A1_6 a1.vFields.length c1_6) rfl rfl rfl rfl (r_loadBox rfl Tryd.isAgg32 (HS23.look 0 rfl) rfl)) (allg_nil))
  try simp only [patch,sc0,sc1]
  obtain ⟨v6,H6,H⟩:=of_bind H
  have HS24:=HS23.f1
  refine run_call (vs:=[vL (rowA obv5_a0) v5.length cv5_a0,vL A1_6 a1.vFields.length c1_6,Value.func (.func 109) #[] #[]]) (caps:=[]) Tryd.call108 rfl rfl (ctf_putList_api_Field.calls k v5 a1.vFields obv5_a0 cv5_a0 csv5_a0 frv5_a0 A1_6 c1_6 HS24 hov5_a0 hfv5_a0 hr1_6 hc1_6 H6) ?_
  rintro _ w14 ⟨obv6_a0,cv6_a0,csv6_a0,frv6_a0,rfl,hfv6_a0,hov6_a0,HS25⟩
  refine ⟨_,rfl,?_⟩
  have HS26:=HS25.f1
  refine qn_nil ?_
  try simp only [sc0,sc1]
  refine chain_last [vL (rowA obv6_a0) v6.length cv6_a0] ?_ ?_
  ·try simp only [patch,sc0,sc1]
   exact allg_cons (good_same (v:=vL (rowA obv6_a0) v6.length cv6_a0) rfl rfl rfl rfl (r_assign rfl)) (allg_nil)
  try simp only [patch,sc0,sc1]
  refine norm_then ?_
  refine wp_ret ?_
  obtain rfl:=Option.some.inj H
  refine bodyPost_ret (results_1 rfl (one_tmp rfl)) rfl ?_
  have HS27:=HS26.d0
  exact ⟨obv6_a0,cv6_a0,csv6_a0,frv6_a0,rfl,hfv6_a0,hov6_a0,HS27⟩

end Go.Proofs.YtfjppgobidjndaaDoor
namespace Go.Proofs.YtfjppgobidjndaaDoor
open Go.RowKit Go.M
def ctf_putList_api_Def.l0 (k:Nat) (a1:List api_Def):Nat→Int→(List Int)→Option ((List Int))
 |0,_,_=>none
 |m+1,y1_0,y1_1=>if (decide (y1_0<(a1.length:Int)))=true then (if 0≤y1_0∧y1_0<a1.length then ((ctf_putDef.f k y1_1 (rd z_api_Def a1 y1_0)).bind fun v2=>(ctf_putList_api_Def.l0 k a1 m (IntKind.wrap .i64 (y1_0+1)) v2)) else none) else (some y1_1)
def ctf_putList_api_Def.f (k:Nat) (a0:List Int) (a1:List api_Def):Option ((List Int)):=(ctf_put.f k a0 (a1.length:Int)).bind fun v1=>((ctf_putList_api_Def.l0 k a1 k 0 v1).bind fun xx1=>(some xx1))
set_option maxRecDepth 20000 in
set_option maxHeartbeats 4000000 in
theorem ctf_putList_api_Def.calls (k:Nat) (a0:List Int) (a1:List api_Def) (oba0:Option Nat) (ca0:Nat) (csa0:List Value) (fra0:Nat×Nat) (A1_0:Option Addr) (c1_0:Nat) {h0:View} {w0:World} {h:View} {w:World} {rest:List Res} (HS:St [] h0 w0 h ((oba0, .cells (csa0).toArray 5 fra0)::rest) w) (hoa0:RowOk (Kd.int .u8) h a0 oba0 a0.length ca0 csa0) (hfa0:FrOk fra0 csa0.length) (hr1_0:Rd k_api_Def h A1_0 a1) (hc1_0:a1.length≤c1_0) {r:(List Int)} (H:ctf_putList_api_Def.f k a0 a1=some r):Calls Tryd.prog 69 #[vL (rowA oba0) a0.length ca0,vL A1_0 a1.length c1_0,Value.func (.func 70) #[] #[]] w (fun e w1=>∃(obz_a0:Option Nat) (cz_a0:Nat) (csz_a0:List Value),∃(frz_a0:Nat×Nat),e= .returned (vL (rowA obz_a0) r.length cz_a0)∧FrOk frz_a0 csz_a0.length∧RowOk (Kd.int .u8) h r obz_a0 r.length cz_a0 csz_a0∧St [] h0 w0 h ((obz_a0, .cells (csz_a0).toArray 5 frz_a0)::rest) w1):=by
 unfold ctf_putList_api_Def.f at H
 have hsub:Sub h h:=Sub.rfl' h
 go_enter Tryd.func69,Tryd.ntmps69
 refine wp_seq ?_
 refine region ?_
 refine rs (vL none 0 0) (r_assign rfl) ?_
 try simp only [sc0,sc1]
 refine run_nil ?_
 refine norm_then ?_
 refine wp_seq ?_
 refine region ?_
 refine rs (vL (rowA oba0) a0.length ca0) (r_move rfl) ?_
 refine rs (vL A1_0 a1.length c1_0) (r_move rfl) ?_
 refine rs (vI (a1.length:Int)) (r_len rfl Tryd.runUnderlying22) ?_
 obtain ⟨v1,H1,H⟩:=of_bind H
 refine run_call (vs:=[vL (rowA oba0) a0.length ca0,vI (a1.length:Int)]) (caps:=[]) Tryd.call106 rfl rfl (ctf_put.calls k a0 (a1.length:Int) oba0 ca0 csa0 fra0 HS hoa0 hfa0 H1) ?_
 rintro _ w1 ⟨obv1_a0,cv1_a0,csv1_a0,frv1_a0,rfl,hfv1_a0,hov1_a0,HS1⟩
 refine ⟨_,rfl,?_⟩
 refine run_frame (by simp only [sc0,sc1];rfl) ?_
 refine rs (vL (rowA obv1_a0) v1.length cv1_a0) (r_assign rfl) ?_
 try simp only [sc0,sc1]
 refine run_nil ?_
 refine norm_then ?_
 refine wp_seq ?_
 refine wp_seq ?_
 refine region ?_
 refine rs (vL A1_0 a1.length c1_0) (r_move rfl) ?_
 refine rs (vI (a1.length:Int)) (r_len rfl Tryd.runUnderlying22) ?_
 refine rs (vI 0) (r_move rfl) ?_
 try simp only [sc0,sc1]
 refine run_nil ?_
 refine norm_then ?_
 obtain ⟨xx1,H,G1⟩:=of_bind H
 refine loop_patch [0,8,15,16,17,18,19,20,21,22,23] (fun m us w'=>∃y1_0:Int,∃y1_1:List Int,∃(oby1_1:Option Nat) (cy1_1:Nat),∃csy1_1:List Value,∃fry1_1:Nat×Nat,∃uy1_8 uy1_16 uy1_17 uy1_18 uy1_19 uy1_20 uy1_21 uy1_22 uy1_23:Value,us=[vL (rowA oby1_1) y1_1.length cy1_1,uy1_8,vI y1_0,uy1_16,uy1_17,uy1_18,uy1_19,uy1_20,uy1_21,uy1_22,uy1_23]∧ctf_putList_api_Def.l0 k a1 m y1_0 y1_1=some xx1∧FrOk fry1_1 csy1_1.length∧RowOk (Kd.int .u8) h y1_1 oby1_1 y1_1.length cy1_1 csy1_1∧St [] h0 w0 h ((oby1_1, .cells (csy1_1).toArray 5 fry1_1)::rest) w') (fun us w'=>∃(obo1_0:Option Nat) (co1_0:Nat),∃cso1_0:List Value,∃fro1_0:Nat×Nat,∃uo1_8 uo1_15 uo1_16 uo1_17 uo1_18 uo1_19 uo1_20 uo1_21 uo1_22 uo1_23:Value,us=[vL (rowA obo1_0) xx1.length co1_0,uo1_8,uo1_15,uo1_16,uo1_17,uo1_18,uo1_19,uo1_20,uo1_21,uo1_22,uo1_23]∧FrOk fro1_0 cso1_0.length∧RowOk (Kd.int .u8) h xx1 obo1_0 xx1.length co1_0 cso1_0∧St [] h0 w0 h ((obo1_0, .cells (cso1_0).toArray 5 fro1_0)::rest) w') k [vL (rowA obv1_a0) v1.length cv1_a0,undef,vI 0,undef,undef,undef,undef,undef,undef,undef,undef] (by simp only [patch,sc0,sc1]) ⟨0,v1,obv1_a0,cv1_a0,csv1_a0,frv1_a0,_,_,_,_,_,_,_,_,_,rfl,H,hfv1_a0,hov1_a0.norm,HS1⟩ ?_ ?_
 ·rintro m us w2 ⟨y1_0,y1_1,oby1_1,cy1_1,csy1_1,fry1_1,uy1_8,uy1_16,uy1_17,uy1_18,uy1_19,uy1_20,uy1_21,uy1_22,uy1_23,rfl,H,hfy1_1,hoy1_1,HS2⟩
  cases m with
  |zero=>exact absurd H (by simp [ctf_putList_api_Def.l0])
  |succ m=>
   rw [ctf_putList_api_Def.l0] at H
   try simp only [patch,sc0,sc1]
   refine wp_seq ?_
   refine region ?_
   refine rs (vB (decide (y1_0<(a1.length:Int)))) (r_bin rfl rfl rfl) ?_
   try simp only [sc0,sc1]
   refine run_nil ?_
   refine norm_then ?_
   refine wp_seq ?_
   refine wp_cond_split (t:=(decide (y1_0<(a1.length:Int)))) rfl (fun c1=>?_) (fun c1=>?_)
   ·replace H:=of_pos H c1
    refine wp_skip ?_
    refine norm_then ?_
    refine wp_seq ?_
    refine wp_block ?_
    refine wp_seq ?_
    refine region ?_
    obtain ⟨hi1,H⟩:=of_ite H
    obtain ⟨ad1,Aad1_6,cad1_6,e1,hel1,hcad1_6,hrad1_6⟩:=ld_api_Def hr1_0 hi1.1 hi1.2
    refine rs (Value.pointer (some (Addr.add ad1 (y1_0.toNat*7)))) (r_indexA (sz:=7) rfl e1 rfl hi1.1 hi1.2 Tryd.runUnderlying22 Tryd.sizeOf34) ?_
    refine rs (Value.agg #[vI ((rd z_api_Def a1 y1_0).vKind),vS ((rd z_api_Def a1 y1_0).vName),vI ((rd z_api_Def a1 y1_0).vInt.vSize),vB ((rd z_api_Def a1 y1_0).vInt.vSigned),vI ((rd z_api_Def a1 y1_0).vRef),vI ((rd z_api_Def a1 y1_0).vN),vL Aad1_6 ((rd z_api_Def a1 y1_0).vFields).length cad1_6]) (r_loadAgg rfl Tryd.isAgg34 (hel1.sees HS2.sees) Tryd.sizeOf34) ?_
    refine run_ex rfl rfl (does_alloc (cs:=#[vI 0,vS ByteArray.empty,vI 0,vB false,vI 0,vI 0,vL none 0 0]) Tryd.zeroValue34 rfl) ?_
    rintro w3 _ hE1 ⟨b1,rfl,ge1,hb1⟩
    have HS3:=HS2.new hE1 ge1 hb1
    refine run_st (i:=0) (cs:=[vI 0,vS ByteArray.empty,vI 0,vB false,vI 0,vI 0,vL none 0 0]) (cs':=[vI ((rd z_api_Def a1 y1_0).vKind),vS ((rd z_api_Def a1 y1_0).vName),vI ((rd z_api_Def a1 y1_0).vInt.vSize),vB ((rd z_api_Def a1 y1_0).vInt.vSigned),vI ((rd z_api_Def a1 y1_0).vRef),vI ((rd z_api_Def a1 y1_0).vN),vL Aad1_6 ((rd z_api_Def a1 y1_0).vFields).length cad1_6]) (vs:=[vI ((rd z_api_Def a1 y1_0).vKind),vS ((rd z_api_Def a1 y1_0).vName),vI ((rd z_api_Def a1 y1_0).vInt.vSize),vB ((rd z_api_Def a1 y1_0).vInt.vSigned),vI ((rd z_api_Def a1 y1_0).vRef),vI ((rd z_api_Def a1 y1_0).vN),vL Aad1_6 ((rd z_api_Def a1 y1_0).vFields).length cad1_6]) (bs':=((some b1, .cells #[vI ((rd z_api_Def a1 y1_0).vKind),vS ((rd z_api_Def a1 y1_0).vName),vI ((rd z_api_Def a1 y1_0).vInt.vSize),vB ((rd z_api_Def a1 y1_0).vInt.vSigned),vI ((rd z_api_Def a1 y1_0).vRef),vI ((rd z_api_Def a1 y1_0).vN),vL Aad1_6 ((rd z_api_Def a1 y1_0).vFields).length cad1_6] 34 (0,0))::(oby1_1, .cells (csy1_1).toArray 5 fry1_1)::rest)) rfl rfl Tryd.sizeOf34 rfl rfl (by decide) rfl HS3 rfl (Nat.le_of_ble_eq_true rfl) rfl rfl ?_
    intro w4 HS4
    try simp only [sc0,sc1]
    refine run_nil ?_
    refine norm_then ?_
    refine region ?_
    refine rs (Value.func (.func 70) #[] #[]) (r_move rfl) ?_
    refine rs (vL (rowA oby1_1) y1_1.length cy1_1) (r_move rfl) ?_
    refine rs (Value.agg #[vI ((rd z_api_Def a1 y1_0).vKind),vS ((rd z_api_Def a1 y1_0).vName),vI ((rd z_api_Def a1 y1_0).vInt.vSize),vB ((rd z_api_Def a1 y1_0).vInt.vSigned),vI ((rd z_api_Def a1 y1_0).vRef),vI ((rd z_api_Def a1 y1_0).vN),vL Aad1_6 ((rd z_api_Def a1 y1_0).vFields).length cad1_6]) (r_loadBoxAgg (n:=7) (vs:=[vI ((rd z_api_Def a1 y1_0).vKind),vS ((rd z_api_Def a1 y1_0).vName),vI ((rd z_api_Def a1 y1_0).vInt.vSize),vB ((rd z_api_Def a1 y1_0).vInt.vSigned),vI ((rd z_api_Def a1 y1_0).vRef),vI ((rd z_api_Def a1 y1_0).vN),vL Aad1_6 ((rd z_api_Def a1 y1_0).vFields).length cad1_6]) rfl Tryd.isAgg34 (HS4.look 0 rfl) Tryd.sizeOf34 rfl rfl) ?_
    obtain ⟨v2,H2,H⟩:=of_bind H
    have HS5:=HS4.f1
    refine run_call (vs:=[vL (rowA oby1_1) y1_1.length cy1_1,Value.agg #[vI ((rd z_api_Def a1 y1_0).vKind),vS ((rd z_api_Def a1 y1_0).vName),vI ((rd z_api_Def a1 y1_0).vInt.vSize),vB ((rd z_api_Def a1 y1_0).vInt.vSigned),vI ((rd z_api_Def a1 y1_0).vRef),vI ((rd z_api_Def a1 y1_0).vN),vL Aad1_6 ((rd z_api_Def a1 y1_0).vFields).length cad1_6]]) (caps:=[]) Tryd.call70 rfl rfl (ctf_putDef.calls k y1_1 (rd z_api_Def a1 y1_0) oby1_1 cy1_1 csy1_1 fry1_1 Aad1_6 cad1_6 HS5 hoy1_1 hfy1_1 hrad1_6 hcad1_6 H2) ?_
    rintro _ w5 ⟨obv2_a0,cv2_a0,csv2_a0,frv2_a0,rfl,hfv2_a0,hov2_a0,HS6⟩
    refine ⟨_,rfl,?_⟩
    have HS7:=HS6.f1
    refine run_frame (by simp only [sc0,sc1];rfl) ?_
    refine rs (vL (rowA obv2_a0) v2.length cv2_a0) (r_assign rfl) ?_
    try simp only [sc0,sc1]
    refine run_nil ?_
    refine norm_block ?_
    refine norm_then ?_
    refine region ?_
    refine rs (vI (w64 (y1_0+1))) (r_bin rfl rfl rfl) ?_
    refine rs (vI (w64 (y1_0+1))) (r_move rfl) ?_
    try simp only [sc0,sc1]
    refine run_nil ?_
    refine again m [vL (rowA obv2_a0) v2.length cv2_a0,vP b1 0,vI (w64 (y1_0+1)),vB (decide (y1_0<(a1.length:Int))),Value.pointer (some (Addr.add ad1 (y1_0.toNat*7))),Value.agg #[vI ((rd z_api_Def a1 y1_0).vKind),vS ((rd z_api_Def a1 y1_0).vName),vI ((rd z_api_Def a1 y1_0).vInt.vSize),vB ((rd z_api_Def a1 y1_0).vInt.vSigned),vI ((rd z_api_Def a1 y1_0).vRef),vI ((rd z_api_Def a1 y1_0).vN),vL Aad1_6 ((rd z_api_Def a1 y1_0).vFields).length cad1_6],Value.func (.func 70) #[] #[],vL (rowA oby1_1) y1_1.length cy1_1,Value.agg #[vI ((rd z_api_Def a1 y1_0).vKind),vS ((rd z_api_Def a1 y1_0).vName),vI ((rd z_api_Def a1 y1_0).vInt.vSize),vB ((rd z_api_Def a1 y1_0).vInt.vSigned),vI ((rd z_api_Def a1 y1_0).vRef),vI ((rd z_api_Def a1 y1_0).vN),vL Aad1_6 ((rd z_api_Def a1 y1_0).vFields).length cad1_6],vL (rowA obv2_a0) v2.length cv2_a0,vI (w64 (y1_0+1))] (Nat.lt_succ_self m) (by simp only [patch,sc0,sc1]) ⟨(w64 (y1_0+1)),v2,obv2_a0,cv2_a0,csv2_a0,frv2_a0,_,_,_,_,_,_,_,_,_,rfl,H,hfv2_a0,hov2_a0.norm,HS7.tail⟩
   ·replace H:=of_neg H (nt c1)
    refine wp_exit ?_
    refine exit_then ?_
    obtain rfl:=Option.some.inj H
    refine leave [vL (rowA oby1_1) y1_1.length cy1_1,uy1_8,vI y1_0,vB (decide (y1_0<(a1.length:Int))),uy1_17,uy1_18,uy1_19,uy1_20,uy1_21,uy1_22,uy1_23] (by simp only [patch,sc0,sc1]) ⟨oby1_1,cy1_1,csy1_1,fry1_1,_,_,_,_,_,_,_,_,_,_,rfl,hfy1_1,hoy1_1.norm,HS2⟩
 ·rintro us w6 ⟨obo1_0,co1_0,cso1_0,fro1_0,uo1_8,uo1_15,uo1_16,uo1_17,uo1_18,uo1_19,uo1_20,uo1_21,uo1_22,uo1_23,rfl,hfo1_0,hoo1_0,HS8⟩
  replace H:=G1
  clear G1
  try simp only [patch,sc0,sc1]
  refine norm_then ?_
  refine wp_seq ?_
  refine region ?_
  refine rs (vL (rowA obo1_0) xx1.length co1_0) (r_move rfl) ?_
  refine rs (vL (rowA obo1_0) xx1.length co1_0) (r_assign rfl) ?_
  try simp only [sc0,sc1]
  refine run_nil ?_
  refine norm_then ?_
  refine wp_ret ?_
  obtain rfl:=Option.some.inj H
  refine bodyPost_ret (results_1 rfl (one_tmp rfl)) rfl ?_
  exact ⟨obo1_0,co1_0,cso1_0,fro1_0,rfl,hfo1_0,hoo1_0,HS8⟩

end Go.Proofs.YtfjppgobidjndaaDoor
namespace Go.Proofs.YtfjppgobidjndaaDoor
open Go.RowKit Go.M
def ctf_Encode.f (k:Nat) (a0:api_Types):Option ((List Int)×Int):=(ctf_valid.f k a0).bind fun v1=>(if (!v1)=true then (some (([]:List Int),80)) else ((ctf_putList_api_Def.f k ([67,84,70,1]:List Int) a0.vDefs).bind fun v2=>(some (v2,0))))
set_option maxRecDepth 20000 in
set_option maxHeartbeats 4000000 in
theorem ctf_Encode.calls (k:Nat) (a0:api_Types) (A0_0:Option Addr) (c0_0:Nat) {h0:View} {w0:World} (hv:Sees h0 w0) (hr0_0:Rd k_api_Def h0 A0_0 a0.vDefs) (hc0_0:a0.vDefs.length≤c0_0) {r:(List Int)×Int} (H:ctf_Encode.f k a0=some r):Calls Tryd.prog 37 #[Value.agg #[vL A0_0 a0.vDefs.length c0_0]] w0 (fun e w1=>∃(h1:View) (A0_0:Option Addr) (c0_0:Nat),e= .returned (Value.tuple #[vL A0_0 r.1.length c0_0,vI r.2])∧r.1.length≤c0_0∧Rd (Kd.int .u8) h1 A0_0 r.1∧Gr w0.heap.size h0 h1∧Sees h1 w1∧Ext w0 w1):=by
 unfold ctf_Encode.f at H
 have HS:St [] h0 w0 h0 [] w0:=St.init hv
 go_enter Tryd.func37,Tryd.ntmps37
 refine wp_seq ?_
 refine region ?_
 refine run_ex rfl rfl (does_box (cs:=#[vL A0_0 a0.vDefs.length c0_0]) rfl rfl) ?_
 rintro w1 _ hE1 ⟨b1,rfl,ge1,hb1⟩
 have HS1:=HS.new hE1 ge1 hb1
 refine rs (vL none 0 0) (r_assign rfl) ?_
 refine rs (vI 0) (r_assign rfl) ?_
 try simp only [sc0,sc1]
 refine run_nil ?_
 refine norm_then ?_
 refine wp_seq ?_
 refine wp_seq ?_
 refine region ?_
 refine rs (Value.agg #[vL A0_0 a0.vDefs.length c0_0]) (r_loadBoxAgg (n:=1) (vs:=[vL A0_0 a0.vDefs.length c0_0]) rfl Tryd.isAgg24 (HS1.look 0 rfl) Tryd.sizeOf24 rfl rfl) ?_
 obtain ⟨v1,H1,H⟩:=of_bind H
 refine run_eq (v:=vB v1) rfl rfl (does_call_eq Tryd.call47 rfl rfl (ctf_valid.calls k a0 A0_0 c0_0 HS1.sees hr0_0 hc0_0 H1)) ?_
 intro w2 hE2
 have HS2:=HS1.step hE2
 refine rs (vB (!v1)) (r_not rfl) ?_
 try simp only [sc0,sc1]
 refine run_nil ?_
 refine norm_then ?_
 refine wp_cond_split (t:=(!v1)) rfl (fun c1=>?_) (fun c1=>?_)
 ·replace H:=of_pos H c1
  refine wp_seq ?_
  refine region ?_
  refine rs (vL none 0 0) (r_assign rfl) ?_
  refine rs (vI 80) (r_assign rfl) ?_
  try simp only [sc0,sc1]
  refine run_nil ?_
  refine norm_then ?_
  refine wp_ret ?_
  refine ret_then ?_
  obtain rfl:=Option.some.inj H
  refine bodyPost_ret (results_2 rfl (one_tmp rfl) (one_tmp rfl)) rfl ?_
  exact ⟨h0,none,0,rfl,(Nat.le_refl 0),(Rd.nil _ _ _),HS2.gr,HS2.sees,HS2.toE⟩
 ·replace H:=of_neg H (nt c1)
  refine wp_skip ?_
  refine norm_then ?_
  refine wp_seq ?_
  refine region ?_
  refine run_bs (Kd.int .u8) (xs:=([67,84,70,1]:List Int)) (n:=4) (cs:=[Value.int .u8 67,Value.int .u8 84,Value.int .u8 70,Value.int .u8 1]) Tryd.runUnderlying80 Tryd.typeInfo5 Tryd.zeroValue5 rfl rfl (by decide) (by decide) (by decide) [Value.int .u8 67,Value.int .u8 84,Value.int .u8 70,Value.int .u8 1] (parts_any.trans rfl) rfl rfl rfl rfl (elems_cons (qs:=[Value.int .u8 67]) rfl (elems_cons (qs:=[Value.int .u8 84]) rfl (elems_cons (qs:=[Value.int .u8 70]) rfl (elems_cons (qs:=[Value.int .u8 1]) rfl (elems_nil (cs:=[])))))) HS2 ?_
  intro w3 b2 HS3 ho1
  refine Go.M.run_mark (b:=b2) (q:=0) (cs:=[Value.int .u8 67,Value.int .u8 84,Value.int .u8 70,Value.int .u8 1]) rfl rfl Tryd.runUnderlying80 Tryd.runUnderlying5 HS3 rfl ?_
  intro w4 HS4
  refine rs (vP b1 0) (r_fieldBox (n:=1) (o':=0) rfl Tryd.runUnderlying24 rfl Tryd.sizeOf22 (by decide) rfl) ?_
  refine rs (vL A0_0 a0.vDefs.length c0_0) (r_loadBox rfl Tryd.isAgg22 (HS4.look 1 rfl) rfl) ?_
  refine run_frame (by simp only [sc0,sc1];rfl) ?_
  obtain ⟨v2,H2,H⟩:=of_bind H
  have ho2:=ho1.norm
  refine run_call (vs:=[vL (rowA (some b2)) (([67,84,70,1]:List Int).length) 4,vL A0_0 a0.vDefs.length c0_0,Value.func (.func 70) #[] #[]]) (caps:=[]) Tryd.call69 rfl (map3 (show _=vL (rowA (some b2)) (([67,84,70,1]:List Int).length) 4 from by first|rfl|(rw [ho1.len];done)|(rw [ho1.len];rfl)) rfl rfl) (ctf_putList_api_Def.calls k ([67,84,70,1]:List Int) a0.vDefs (some b2) 4 [Value.int .u8 67,Value.int .u8 84,Value.int .u8 70,Value.int .u8 1] (List.length ([Value.int .u8 67,Value.int .u8 84,Value.int .u8 70,Value.int .u8 1]),List.length ([Value.int .u8 67,Value.int .u8 84,Value.int .u8 70,Value.int .u8 1])+1) A0_0 c0_0 HS4 ho2 frok_end hr0_0 hc0_0 H2) ?_
  rintro _ w5 ⟨obv2_a0,cv2_a0,csv2_a0,frv2_a0,rfl,hfv2_a0,hov2_a0,HS5⟩
  refine ⟨_,rfl,?_⟩
  refine rs (vL (rowA obv2_a0) v2.length cv2_a0) (r_assign rfl) ?_
  refine rs (vI 0) (r_assign rfl) ?_
  try simp only [sc0,sc1]
  refine run_nil ?_
  refine norm_then ?_
  refine wp_ret ?_
  obtain rfl:=Option.some.inj H
  refine bodyPost_ret (results_2 rfl (one_tmp rfl) (one_tmp rfl)) rfl ?_
  obtain ⟨h1,HS6,hs2,rdp1⟩:=row_pub HS5 (i:=0) rfl hov2_a0
  exact ⟨h1,(rowA obv2_a0),cv2_a0,rfl,hov2_a0.cap,rdp1,HS6.gr,HS6.sees,HS6.toE⟩

end Go.Proofs.YtfjppgobidjndaaDoor
namespace Go.Proofs.YtfjppgobidjndaaDoor
open Go.RowKit Go.M
def taplinelaw08_sample.f:Option (api_Types):=some (⟨([(⟨1,(⟨#[105,110,116,51,50]⟩:ByteArray),(⟨4,true⟩:api_Int),0,0,[]⟩:api_Def),(⟨4,(⟨#[116,104,114,101,97,100,95,116]⟩:ByteArray),(⟨0,false⟩:api_Int),0,24,([(⟨(⟨#[116,95,116,105,100]⟩:ByteArray),0,0⟩:api_Field),(⟨(⟨#[116,95,110,101,120,116]⟩:ByteArray),2,8⟩:api_Field),(⟨(⟨#[116,95,110,97,109,101]⟩:ByteArray),3,16⟩:api_Field)]:List api_Field)⟩:api_Def),(⟨2,ByteArray.empty,(⟨0,false⟩:api_Int),1,0,[]⟩:api_Def),(⟨3,ByteArray.empty,(⟨0,false⟩:api_Int),4,8,[]⟩:api_Def),(⟨1,(⟨#[99,104,97,114]⟩:ByteArray),(⟨1,true⟩:api_Int),0,0,[]⟩:api_Def)]:List api_Def)⟩:api_Types)
set_option maxRecDepth 20000 in
set_option maxHeartbeats 4000000 in
theorem taplinelaw08_sample.calls {h0:View} {w0:World} (hv:Sees h0 w0) {r:api_Types} (H:taplinelaw08_sample.f=some r):Calls Tryd.prog 42 #[] w0 (fun e w1=>∃(h1:View) (A0_0:Option Addr) (c0_0:Nat),e= .returned (Value.agg #[vL A0_0 r.vDefs.length c0_0])∧r.vDefs.length≤c0_0∧Rd k_api_Def h1 A0_0 r.vDefs∧Gr w0.heap.size h0 h1∧Sees h1 w1∧Ext w0 w1):=by
 unfold taplinelaw08_sample.f at H
 have HS:St [] h0 w0 h0 [] w0:=St.init hv
 go_enter Tryd.func42,Tryd.ntmps42
 refine wp_seq ?_
 refine region ?_
 refine run_ex rfl rfl (does_alloc (cs:=#[vL none 0 0]) Tryd.zeroValue24 rfl) ?_
 rintro w1 _ hE1 ⟨b1,rfl,ge1,hb1⟩
 have HS1:=HS.new hE1 ge1 hb1
 try simp only [sc0,sc1]
 refine run_nil ?_
 refine norm_then ?_
 refine wp_seq ?_
 refine region ?_
 refine rs (Value.agg #[vS (⟨#[116,95,116,105,100]⟩:ByteArray),vI 0,vI 0]) (r_build (cs:=[vS (⟨#[116,95,116,105,100]⟩:ByteArray),vI 0,vI 0]) (ps:=[(0,vS (⟨#[116,95,116,105,100]⟩:ByteArray)),(1,vI 0),(2,vI 0)]) Tryd.zeroValue36 Tryd.runUnderlying36 (pl:=#[(0,1),(1,1),(2,1)]) (fun w=>by simp [Tryd.sizeOf3,Tryd.sizeOf9]) (parts_3 (show _=vS (⟨#[116,95,116,105,100]⟩:ByteArray) from rfl) (show _=vI 0 from rfl) (show _=vI 0 from rfl)) rfl) ?_
 refine rs (Value.agg #[vS (⟨#[116,95,110,101,120,116]⟩:ByteArray),vI 2,vI 8]) (r_build (cs:=[vS (⟨#[116,95,110,101,120,116]⟩:ByteArray),vI 2,vI 8]) (ps:=[(0,vS (⟨#[116,95,110,101,120,116]⟩:ByteArray)),(1,vI 2),(2,vI 8)]) Tryd.zeroValue36 Tryd.runUnderlying36 (pl:=#[(0,1),(1,1),(2,1)]) (fun w=>by simp [Tryd.sizeOf3,Tryd.sizeOf9]) (parts_3 (show _=vS (⟨#[116,95,110,101,120,116]⟩:ByteArray) from rfl) (show _=vI 2 from rfl) (show _=vI 8 from rfl)) rfl) ?_
 refine rs (Value.agg #[vS (⟨#[116,95,110,97,109,101]⟩:ByteArray),vI 3,vI 16]) (r_build (cs:=[vS (⟨#[116,95,110,97,109,101]⟩:ByteArray),vI 3,vI 16]) (ps:=[(0,vS (⟨#[116,95,110,97,109,101]⟩:ByteArray)),(1,vI 3),(2,vI 16)]) Tryd.zeroValue36 Tryd.runUnderlying36 (pl:=#[(0,1),(1,1),(2,1)]) (fun w=>by simp [Tryd.sizeOf3,Tryd.sizeOf9]) (parts_3 (show _=vS (⟨#[116,95,110,97,109,101]⟩:ByteArray) from rfl) (show _=vI 3 from rfl) (show _=vI 16 from rfl)) rfl) ?_
 refine run_bs k_api_Field (xs:=([(⟨(⟨#[116,95,116,105,100]⟩:ByteArray),0,0⟩:api_Field),(⟨(⟨#[116,95,110,101,120,116]⟩:ByteArray),2,8⟩:api_Field),(⟨(⟨#[116,95,110,97,109,101]⟩:ByteArray),3,16⟩:api_Field)]:List api_Field)) (n:=3) (cs:=[vS (⟨#[116,95,116,105,100]⟩:ByteArray),vI 0,vI 0,vS (⟨#[116,95,110,101,120,116]⟩:ByteArray),vI 2,vI 8,vS (⟨#[116,95,110,97,109,101]⟩:ByteArray),vI 3,vI 16]) Tryd.runUnderlying32 Tryd.typeInfo36 Tryd.zeroValue36 rfl rfl (by decide) (by decide) (by decide) [Value.agg #[vS (⟨#[116,95,116,105,100]⟩:ByteArray),vI 0,vI 0],Value.agg #[vS (⟨#[116,95,110,101,120,116]⟩:ByteArray),vI 2,vI 8],Value.agg #[vS (⟨#[116,95,110,97,109,101]⟩:ByteArray),vI 3,vI 16]] (parts_any.trans rfl) rfl rfl rfl rfl (elems_cons (qs:=[vS (⟨#[116,95,116,105,100]⟩:ByteArray),vI 0,vI 0]) ⟨[vS (⟨#[116,95,116,105,100]⟩:ByteArray)],[vI 0,vI 0],rfl,rfl,⟨[vI 0],[vI 0],rfl,rfl,rfl⟩⟩ (elems_cons (qs:=[vS (⟨#[116,95,110,101,120,116]⟩:ByteArray),vI 2,vI 8]) ⟨[vS (⟨#[116,95,110,101,120,116]⟩:ByteArray)],[vI 2,vI 8],rfl,rfl,⟨[vI 2],[vI 8],rfl,rfl,rfl⟩⟩ (elems_cons (qs:=[vS (⟨#[116,95,110,97,109,101]⟩:ByteArray),vI 3,vI 16]) ⟨[vS (⟨#[116,95,110,97,109,101]⟩:ByteArray)],[vI 3,vI 16],rfl,rfl,⟨[vI 3],[vI 16],rfl,rfl,rfl⟩⟩ (elems_nil (cs:=[]))))) HS1 ?_
 intro w2 b2 HS2 ho1
 refine run_frame (by simp only [sc0,sc1];rfl) ?_
 refine rs (Value.agg #[vI 4,vS (⟨#[116,104,114,101,97,100,95,116]⟩:ByteArray),vI 0,vB false,vI 0,vI 24,vL (rowA (some b2)) 3 3]) (r_build (cs:=[vI 4,vS (⟨#[116,104,114,101,97,100,95,116]⟩:ByteArray),vI 0,vB false,vI 0,vI 24,vL (rowA (some b2)) 3 3]) (ps:=[(0,vI 4),(1,vS (⟨#[116,104,114,101,97,100,95,116]⟩:ByteArray)),(4,vI 24),(5,vL (rowA (some b2)) 3 3)]) Tryd.zeroValue34 Tryd.runUnderlying34 (pl:=#[(0,1),(1,1),(2,2),(4,1),(5,1),(6,1)]) (fun w=>by simp [Tryd.sizeOf3,Tryd.sizeOf31,Tryd.sizeOf32,Tryd.sizeOf9]) (parts_4 (show _=vI 4 from rfl) (show _=vS (⟨#[116,104,114,101,97,100,95,116]⟩:ByteArray) from rfl) (show _=vI 24 from rfl) (show _=vL (rowA (some b2)) 3 3 from rfl)) rfl) ?_
 refine run_ex rfl rfl (does_alloc (cs:=#[vI 0,vS ByteArray.empty,vI 0,vB false,vI 0,vI 0,vL none 0 0]) Tryd.zeroValue34 rfl) ?_
 rintro w3 _ hE2 ⟨b3,rfl,ge2,hb2⟩
 have HS3:=HS2.new hE2 ge2 hb2
 refine run_st (i:=0) (cs:=[vI 0,vS ByteArray.empty,vI 0,vB false,vI 0,vI 0,vL none 0 0]) (cs':=[vI 4,vS (⟨#[116,104,114,101,97,100,95,116]⟩:ByteArray),vI 0,vB false,vI 0,vI 24,vL (rowA (some b2)) 3 3]) (vs:=[vI 4,vS (⟨#[116,104,114,101,97,100,95,116]⟩:ByteArray),vI 0,vB false,vI 0,vI 24,vL (rowA (some b2)) 3 3]) (bs':=[(some b3, .cells #[vI 4,vS (⟨#[116,104,114,101,97,100,95,116]⟩:ByteArray),vI 0,vB false,vI 0,vI 24,vL (rowA (some b2)) 3 3] 34 (0,0)),((some b2), .cells ([vS (⟨#[116,95,116,105,100]⟩:ByteArray),vI 0,vI 0,vS (⟨#[116,95,110,101,120,116]⟩:ByteArray),vI 2,vI 8,vS (⟨#[116,95,110,97,109,101]⟩:ByteArray),vI 3,vI 16]).toArray 36 (0,0)),(some b1, .cells #[vL none 0 0] 24 (0,0))]) rfl rfl Tryd.sizeOf34 rfl rfl (by decide) rfl HS3 rfl (Nat.le_of_ble_eq_true rfl) rfl rfl ?_
 intro w4 HS4
 try simp only [sc0,sc1]
 refine run_nil ?_
 refine norm_then ?_
 refine wp_seq ?_
 refine region ?_
 refine rs (Value.agg #[vI 4,vB true]) (r_build (cs:=[vI 4,vB true]) (ps:=[(0,vI 4),(1,vB true)]) Tryd.zeroValue31 Tryd.runUnderlying31 (pl:=#[(0,1),(1,1)]) (fun w=>by simp [Tryd.sizeOf3,Tryd.sizeOf4]) (parts_2 (show _=vI 4 from rfl) (show _=vB true from rfl)) rfl) ?_
 refine rs (Value.agg #[vI 1,vS (⟨#[105,110,116,51,50]⟩:ByteArray),vI 4,vB true,vI 0,vI 0,vL none 0 0]) (r_build (cs:=[vI 1,vS (⟨#[105,110,116,51,50]⟩:ByteArray),vI 4,vB true,vI 0,vI 0,vL none 0 0]) (ps:=[(0,vI 1),(1,vS (⟨#[105,110,116,51,50]⟩:ByteArray)),(2,Value.agg #[vI 4,vB true])]) Tryd.zeroValue34 Tryd.runUnderlying34 (pl:=#[(0,1),(1,1),(2,2),(4,1),(5,1),(6,1)]) (fun w=>by simp [Tryd.sizeOf3,Tryd.sizeOf31,Tryd.sizeOf32,Tryd.sizeOf9]) (parts_3 (show _=vI 1 from rfl) (show _=vS (⟨#[105,110,116,51,50]⟩:ByteArray) from rfl) (show _=Value.agg #[vI 4,vB true] from rfl)) rfl) ?_
 refine rs (Value.agg #[vI 4,vS (⟨#[116,104,114,101,97,100,95,116]⟩:ByteArray),vI 0,vB false,vI 0,vI 24,vL (rowA (some b2)) 3 3]) (r_loadBoxAgg (n:=7) (vs:=[vI 4,vS (⟨#[116,104,114,101,97,100,95,116]⟩:ByteArray),vI 0,vB false,vI 0,vI 24,vL (rowA (some b2)) 3 3]) rfl Tryd.isAgg34 (HS4.look 0 rfl) Tryd.sizeOf34 rfl rfl) ?_
 refine rs (Value.agg #[vI 2,vS ByteArray.empty,vI 0,vB false,vI 1,vI 0,vL none 0 0]) (r_build (cs:=[vI 2,vS ByteArray.empty,vI 0,vB false,vI 1,vI 0,vL none 0 0]) (ps:=[(0,vI 2),(3,vI 1)]) Tryd.zeroValue34 Tryd.runUnderlying34 (pl:=#[(0,1),(1,1),(2,2),(4,1),(5,1),(6,1)]) (fun w=>by simp [Tryd.sizeOf3,Tryd.sizeOf31,Tryd.sizeOf32,Tryd.sizeOf9]) (parts_2 (show _=vI 2 from rfl) (show _=vI 1 from rfl)) rfl) ?_
 refine run_frame (by simp only [sc0,sc1];rfl) ?_
 refine rs (Value.agg #[vI 3,vS ByteArray.empty,vI 0,vB false,vI 4,vI 8,vL none 0 0]) (r_build (cs:=[vI 3,vS ByteArray.empty,vI 0,vB false,vI 4,vI 8,vL none 0 0]) (ps:=[(0,vI 3),(3,vI 4),(4,vI 8)]) Tryd.zeroValue34 Tryd.runUnderlying34 (pl:=#[(0,1),(1,1),(2,2),(4,1),(5,1),(6,1)]) (fun w=>by simp [Tryd.sizeOf3,Tryd.sizeOf31,Tryd.sizeOf32,Tryd.sizeOf9]) (parts_3 (show _=vI 3 from rfl) (show _=vI 4 from rfl) (show _=vI 8 from rfl)) rfl) ?_
 refine rs (Value.agg #[vI 1,vB true]) (r_build (cs:=[vI 1,vB true]) (ps:=[(0,vI 1),(1,vB true)]) Tryd.zeroValue31 Tryd.runUnderlying31 (pl:=#[(0,1),(1,1)]) (fun w=>by simp [Tryd.sizeOf3,Tryd.sizeOf4]) (parts_2 (show _=vI 1 from rfl) (show _=vB true from rfl)) rfl) ?_
 refine rs (Value.agg #[vI 1,vS (⟨#[99,104,97,114]⟩:ByteArray),vI 1,vB true,vI 0,vI 0,vL none 0 0]) (r_build (cs:=[vI 1,vS (⟨#[99,104,97,114]⟩:ByteArray),vI 1,vB true,vI 0,vI 0,vL none 0 0]) (ps:=[(0,vI 1),(1,vS (⟨#[99,104,97,114]⟩:ByteArray)),(2,Value.agg #[vI 1,vB true])]) Tryd.zeroValue34 Tryd.runUnderlying34 (pl:=#[(0,1),(1,1),(2,2),(4,1),(5,1),(6,1)]) (fun w=>by simp [Tryd.sizeOf3,Tryd.sizeOf31,Tryd.sizeOf32,Tryd.sizeOf9]) (parts_3 (show _=vI 1 from rfl) (show _=vS (⟨#[99,104,97,114]⟩:ByteArray) from rfl) (show _=Value.agg #[vI 1,vB true] from rfl)) rfl) ?_
 have HS5:St [] h0 w0 h0 [(some b3, .cells #[vI 4,vS (⟨#[116,104,114,101,97,100,95,116]⟩:ByteArray),vI 0,vB false,vI 0,vI 24,vL (rowA (some b2)) (([(⟨(⟨#[116,95,116,105,100]⟩:ByteArray),0,0⟩:api_Field),(⟨(⟨#[116,95,110,101,120,116]⟩:ByteArray),2,8⟩:api_Field),(⟨(⟨#[116,95,110,97,109,101]⟩:ByteArray),3,16⟩:api_Field)]:List api_Field).length) 3] 34 (0,0)),((some b2), .cells ([vS (⟨#[116,95,116,105,100]⟩:ByteArray),vI 0,vI 0,vS (⟨#[116,95,110,101,120,116]⟩:ByteArray),vI 2,vI 8,vS (⟨#[116,95,110,97,109,101]⟩:ByteArray),vI 3,vI 16]).toArray 36 (0,0)),(some b1, .cells #[vL none 0 0] 24 (0,0))] w4:=HS4.cast (by first|rfl|(rw [ho1.len];done)|(rw [ho1.len];rfl))
 have ho2:=ho1.norm
 obtain ⟨h1,HS6,hs1,rdp1⟩:=row_pub HS5 (i:=1) rfl ho2
 have HS7:St [] h0 w0 h1 [(some b3, .cells #[vI 4,vS (⟨#[116,104,114,101,97,100,95,116]⟩:ByteArray),vI 0,vB false,vI 0,vI 24,vL (rowA (some b2)) ([(⟨(⟨#[116,95,116,105,100]⟩:ByteArray),0,0⟩:api_Field),(⟨(⟨#[116,95,110,101,120,116]⟩:ByteArray),2,8⟩:api_Field),(⟨(⟨#[116,95,110,97,109,101]⟩:ByteArray),3,16⟩:api_Field)]:List api_Field).length 3] 34 (0,0)),(some b1, .cells #[vL none 0 0] 24 (0,0))] w4:=HS6
 refine run_bs k_api_Def (xs:=([(⟨1,(⟨#[105,110,116,51,50]⟩:ByteArray),(⟨4,true⟩:api_Int),0,0,[]⟩:api_Def),(⟨4,(⟨#[116,104,114,101,97,100,95,116]⟩:ByteArray),(⟨0,false⟩:api_Int),0,24,([(⟨(⟨#[116,95,116,105,100]⟩:ByteArray),0,0⟩:api_Field),(⟨(⟨#[116,95,110,101,120,116]⟩:ByteArray),2,8⟩:api_Field),(⟨(⟨#[116,95,110,97,109,101]⟩:ByteArray),3,16⟩:api_Field)]:List api_Field)⟩:api_Def),(⟨2,ByteArray.empty,(⟨0,false⟩:api_Int),1,0,[]⟩:api_Def),(⟨3,ByteArray.empty,(⟨0,false⟩:api_Int),4,8,[]⟩:api_Def),(⟨1,(⟨#[99,104,97,114]⟩:ByteArray),(⟨1,true⟩:api_Int),0,0,[]⟩:api_Def)]:List api_Def)) (n:=5) (cs:=[vI 1,vS (⟨#[105,110,116,51,50]⟩:ByteArray),vI 4,vB true,vI 0,vI 0,vL none 0 0,vI 4,vS (⟨#[116,104,114,101,97,100,95,116]⟩:ByteArray),vI 0,vB false,vI 0,vI 24,vL (rowA (some b2)) ([(⟨(⟨#[116,95,116,105,100]⟩:ByteArray),0,0⟩:api_Field),(⟨(⟨#[116,95,110,101,120,116]⟩:ByteArray),2,8⟩:api_Field),(⟨(⟨#[116,95,110,97,109,101]⟩:ByteArray),3,16⟩:api_Field)]:List api_Field).length 3,vI 2,vS ByteArray.empty,vI 0,vB false,vI 1,vI 0,vL none 0 0,vI 3,vS ByteArray.empty,vI 0,vB false,vI 4,vI 8,vL none 0 0,vI 1,vS (⟨#[99,104,97,114]⟩:ByteArray),vI 1,vB true,vI 0,vI 0,vL none 0 0]) Tryd.runUnderlying22 Tryd.typeInfo34 Tryd.zeroValue34 rfl rfl (by decide) (by decide) (by decide) [Value.agg #[vI 1,vS (⟨#[105,110,116,51,50]⟩:ByteArray),vI 4,vB true,vI 0,vI 0,vL none 0 0],Value.agg #[vI 4,vS (⟨#[116,104,114,101,97,100,95,116]⟩:ByteArray),vI 0,vB false,vI 0,vI 24,vL (rowA (some b2)) ([(⟨(⟨#[116,95,116,105,100]⟩:ByteArray),0,0⟩:api_Field),(⟨(⟨#[116,95,110,101,120,116]⟩:ByteArray),2,8⟩:api_Field),(⟨(⟨#[116,95,110,97,109,101]⟩:ByteArray),3,16⟩:api_Field)]:List api_Field).length 3],Value.agg #[vI 2,vS ByteArray.empty,vI 0,vB false,vI 1,vI 0,vL none 0 0],Value.agg #[vI 3,vS ByteArray.empty,vI 0,vB false,vI 4,vI 8,vL none 0 0],Value.agg #[vI 1,vS (⟨#[99,104,97,114]⟩:ByteArray),vI 1,vB true,vI 0,vI 0,vL none 0 0]] (parts_any.trans rfl) rfl rfl rfl rfl (elems_cons (qs:=[vI 1,vS (⟨#[105,110,116,51,50]⟩:ByteArray),vI 4,vB true,vI 0,vI 0,vL none 0 0]) ⟨[vI 1],[vS (⟨#[105,110,116,51,50]⟩:ByteArray),vI 4,vB true,vI 0,vI 0,vL none 0 0],rfl,rfl,⟨[vS (⟨#[105,110,116,51,50]⟩:ByteArray)],[vI 4,vB true,vI 0,vI 0,vL none 0 0],rfl,rfl,⟨[vI 4,vB true],[vI 0,vI 0,vL none 0 0],rfl,⟨[vI 4],[vB true],rfl,rfl,rfl⟩,⟨[vI 0],[vI 0,vL none 0 0],rfl,rfl,⟨[vI 0],[vL none 0 0],rfl,rfl,⟨none,0,rfl,(Nat.le_refl 0),(Rd.nil _ _ _)⟩⟩⟩⟩⟩⟩ (elems_cons (qs:=[vI 4,vS (⟨#[116,104,114,101,97,100,95,116]⟩:ByteArray),vI 0,vB false,vI 0,vI 24,vL (rowA (some b2)) ([(⟨(⟨#[116,95,116,105,100]⟩:ByteArray),0,0⟩:api_Field),(⟨(⟨#[116,95,110,101,120,116]⟩:ByteArray),2,8⟩:api_Field),(⟨(⟨#[116,95,110,97,109,101]⟩:ByteArray),3,16⟩:api_Field)]:List api_Field).length 3]) ⟨[vI 4],[vS (⟨#[116,104,114,101,97,100,95,116]⟩:ByteArray),vI 0,vB false,vI 0,vI 24,vL (rowA (some b2)) ([(⟨(⟨#[116,95,116,105,100]⟩:ByteArray),0,0⟩:api_Field),(⟨(⟨#[116,95,110,101,120,116]⟩:ByteArray),2,8⟩:api_Field),(⟨(⟨#[116,95,110,97,109,101]⟩:ByteArray),3,16⟩:api_Field)]:List api_Field).length 3],rfl,rfl,⟨[vS (⟨#[116,104,114,101,97,100,95,116]⟩:ByteArray)],[vI 0,vB false,vI 0,vI 24,vL (rowA (some b2)) ([(⟨(⟨#[116,95,116,105,100]⟩:ByteArray),0,0⟩:api_Field),(⟨(⟨#[116,95,110,101,120,116]⟩:ByteArray),2,8⟩:api_Field),(⟨(⟨#[116,95,110,97,109,101]⟩:ByteArray),3,16⟩:api_Field)]:List api_Field).length 3],rfl,rfl,⟨[vI 0,vB false],[vI 0,vI 24,vL (rowA (some b2)) ([(⟨(⟨#[116,95,116,105,100]⟩:ByteArray),0,0⟩:api_Field),(⟨(⟨#[116,95,110,101,120,116]⟩:ByteArray),2,8⟩:api_Field),(⟨(⟨#[116,95,110,97,109,101]⟩:ByteArray),3,16⟩:api_Field)]:List api_Field).length 3],rfl,⟨[vI 0],[vB false],rfl,rfl,rfl⟩,⟨[vI 0],[vI 24,vL (rowA (some b2)) ([(⟨(⟨#[116,95,116,105,100]⟩:ByteArray),0,0⟩:api_Field),(⟨(⟨#[116,95,110,101,120,116]⟩:ByteArray),2,8⟩:api_Field),(⟨(⟨#[116,95,110,97,109,101]⟩:ByteArray),3,16⟩:api_Field)]:List api_Field).length 3],rfl,rfl,⟨[vI 24],[vL (rowA (some b2)) ([(⟨(⟨#[116,95,116,105,100]⟩:ByteArray),0,0⟩:api_Field),(⟨(⟨#[116,95,110,101,120,116]⟩:ByteArray),2,8⟩:api_Field),(⟨(⟨#[116,95,110,97,109,101]⟩:ByteArray),3,16⟩:api_Field)]:List api_Field).length 3],rfl,rfl,⟨(rowA (some b2)),3,rfl,ho2.cap,rdp1⟩⟩⟩⟩⟩⟩ (elems_cons (qs:=[vI 2,vS ByteArray.empty,vI 0,vB false,vI 1,vI 0,vL none 0 0]) ⟨[vI 2],[vS ByteArray.empty,vI 0,vB false,vI 1,vI 0,vL none 0 0],rfl,rfl,⟨[vS ByteArray.empty],[vI 0,vB false,vI 1,vI 0,vL none 0 0],rfl,rfl,⟨[vI 0,vB false],[vI 1,vI 0,vL none 0 0],rfl,⟨[vI 0],[vB false],rfl,rfl,rfl⟩,⟨[vI 1],[vI 0,vL none 0 0],rfl,rfl,⟨[vI 0],[vL none 0 0],rfl,rfl,⟨none,0,rfl,(Nat.le_refl 0),(Rd.nil _ _ _)⟩⟩⟩⟩⟩⟩ (elems_cons (qs:=[vI 3,vS ByteArray.empty,vI 0,vB false,vI 4,vI 8,vL none 0 0]) ⟨[vI 3],[vS ByteArray.empty,vI 0,vB false,vI 4,vI 8,vL none 0 0],rfl,rfl,⟨[vS ByteArray.empty],[vI 0,vB false,vI 4,vI 8,vL none 0 0],rfl,rfl,⟨[vI 0,vB false],[vI 4,vI 8,vL none 0 0],rfl,⟨[vI 0],[vB false],rfl,rfl,rfl⟩,⟨[vI 4],[vI 8,vL none 0 0],rfl,rfl,⟨[vI 8],[vL none 0 0],rfl,rfl,⟨none,0,rfl,(Nat.le_refl 0),(Rd.nil _ _ _)⟩⟩⟩⟩⟩⟩ (elems_cons (qs:=[vI 1,vS (⟨#[99,104,97,114]⟩:ByteArray),vI 1,vB true,vI 0,vI 0,vL none 0 0]) ⟨[vI 1],[vS (⟨#[99,104,97,114]⟩:ByteArray),vI 1,vB true,vI 0,vI 0,vL none 0 0],rfl,rfl,⟨[vS (⟨#[99,104,97,114]⟩:ByteArray)],[vI 1,vB true,vI 0,vI 0,vL none 0 0],rfl,rfl,⟨[vI 1,vB true],[vI 0,vI 0,vL none 0 0],rfl,⟨[vI 1],[vB true],rfl,rfl,rfl⟩,⟨[vI 0],[vI 0,vL none 0 0],rfl,rfl,⟨[vI 0],[vL none 0 0],rfl,rfl,⟨none,0,rfl,(Nat.le_refl 0),(Rd.nil _ _ _)⟩⟩⟩⟩⟩⟩ (elems_nil (cs:=[]))))))) HS7 ?_
 intro w5 b4 HS8 ho3
 refine run_frame (by simp only [sc0,sc1];rfl) ?_
 refine rs (Value.agg #[vL (rowA (some b4)) 5 5]) (r_build (cs:=[vL (rowA (some b4)) 5 5]) (ps:=[(0,vL (rowA (some b4)) 5 5)]) Tryd.zeroValue24 Tryd.runUnderlying24 (pl:=#[(0,1)]) (fun w=>by simp [Tryd.sizeOf22]) (parts_1 (show _=vL (rowA (some b4)) 5 5 from rfl)) rfl) ?_
 refine run_st (i:=2) (cs:=[vL none 0 0]) (cs':=[vL (rowA (some b4)) 5 5]) (vs:=[vL (rowA (some b4)) 5 5]) (bs':=[((some b4), .cells ([vI 1,vS (⟨#[105,110,116,51,50]⟩:ByteArray),vI 4,vB true,vI 0,vI 0,vL none 0 0,vI 4,vS (⟨#[116,104,114,101,97,100,95,116]⟩:ByteArray),vI 0,vB false,vI 0,vI 24,vL (rowA (some b2)) ([(⟨(⟨#[116,95,116,105,100]⟩:ByteArray),0,0⟩:api_Field),(⟨(⟨#[116,95,110,101,120,116]⟩:ByteArray),2,8⟩:api_Field),(⟨(⟨#[116,95,110,97,109,101]⟩:ByteArray),3,16⟩:api_Field)]:List api_Field).length 3,vI 2,vS ByteArray.empty,vI 0,vB false,vI 1,vI 0,vL none 0 0,vI 3,vS ByteArray.empty,vI 0,vB false,vI 4,vI 8,vL none 0 0,vI 1,vS (⟨#[99,104,97,114]⟩:ByteArray),vI 1,vB true,vI 0,vI 0,vL none 0 0]).toArray 34 (0,0)),(some b3, .cells #[vI 4,vS (⟨#[116,104,114,101,97,100,95,116]⟩:ByteArray),vI 0,vB false,vI 0,vI 24,vL (rowA (some b2)) ([(⟨(⟨#[116,95,116,105,100]⟩:ByteArray),0,0⟩:api_Field),(⟨(⟨#[116,95,110,101,120,116]⟩:ByteArray),2,8⟩:api_Field),(⟨(⟨#[116,95,110,97,109,101]⟩:ByteArray),3,16⟩:api_Field)]:List api_Field).length 3] 34 (0,0)),(some b1, .cells #[vL (rowA (some b4)) 5 5] 24 (0,0))]) rfl rfl Tryd.sizeOf24 rfl rfl (by decide) rfl HS8 rfl (Nat.le_of_ble_eq_true rfl) rfl rfl ?_
 intro w6 HS9
 try simp only [sc0,sc1]
 refine run_nil ?_
 refine norm_then ?_
 refine wp_ret ?_
 obtain rfl:=Option.some.inj H
 refine bodyPost_ret (results_1 rfl (one_agg rfl Tryd.isAgg24 (HS9.look 2 rfl) Tryd.sizeOf24 rfl)) rfl ?_
 obtain ⟨h2,HS10,hs2,rdp2⟩:=row_pub HS9 (i:=0) rfl ho3
 replace rdp1:Rd k_api_Field h2 (rowA (some b2)) ([(⟨(⟨#[116,95,116,105,100]⟩:ByteArray),0,0⟩:api_Field),(⟨(⟨#[116,95,110,101,120,116]⟩:ByteArray),2,8⟩:api_Field),(⟨(⟨#[116,95,110,97,109,101]⟩:ByteArray),3,16⟩:api_Field)]:List api_Field):=rdp1.ext hs2
 exact ⟨h2,(rowA (some b4)),5,(by first|rfl|(rw [ho3.len];done)|(rw [ho3.len];rfl)),ho3.cap,rdp2,HS10.gr,HS10.sees,HS10.toE⟩

end Go.Proofs.YtfjppgobidjndaaDoor
namespace Go.Proofs.YtfjppgobidjndaaDoor
open Go.RowKit Go.M
def taplinelaw08_sane.f (k:Nat):Option (Bool):=(taplinelaw08_sample.f).bind fun v1=>((ctf_Size.f k v1 1).bind fun v2=>((ctf_Text.f k v1 3).bind fun v3=>((ctf_Member.f k v1 1 (⟨#[116,95,110,101,120,116]⟩:ByteArray)).bind fun v4=>((ctf_Path.f k v1 1 ([(⟨#[116,95,110,97,109,101]⟩:ByteArray)]:List ByteArray)).bind fun v5=>((ctf_Check.f k v1).bind fun v6=>(if (((((((((((v6 !=0)||(v2.2 !=0))||(v2.1 !=24))||(v3.2 !=0))||(!(strEq v3.1 (⟨#[99,104,97,114,32,91,56,93]⟩:ByteArray))))||(v4.2 !=0))||(v4.1.vType !=2))||(v4.1.vAt !=8))||(v5.2.2 !=0))||(v5.1 !=3))||(v5.2.1 !=16))=true then (some false) else ((ctf_Member.f k v1 2 (⟨#[116,95,116,105,100]⟩:ByteArray)).bind fun v7=>(if 0+v1.vDefs.length≤4294967296 then (if (0+v1.vDefs.length)+1≤4294967296 then ((ctf_Unique.f k (⟨((([]:List api_Def)++v1.vDefs)++([(⟨2,ByteArray.empty,(⟨0,false⟩:api_Int),1,0,[]⟩:api_Def)]:List api_Def))⟩:api_Types)).bind fun v8=>((ctf_Encode.f k (⟨[]⟩:api_Types)).bind fun v9=>((if (true&&(((v7.2==5)&&(v8.2.2==0))==true))=true then taplineref08_Same.f k v8.1 v1 else some false).bind fun v10=>((if (true&&((((v7.2==5)&&(v8.2.2==0))&&v10)==true))=true then taplineref08_SameInts.f k v8.2.1 ([0,1,2,3,4,2]:List Int) else some false).bind fun v11=>(some ((((((v7.2==5)&&(v8.2.2==0))&&v10)&&v11)&&(v9.2==0))&&(strEq (strOf v9.1) (⟨#[67,84,70,1,0]⟩:ByteArray)))))))) else none) else none))))))))
set_option maxRecDepth 20000 in
set_option maxHeartbeats 4000000 in
theorem taplinelaw08_sane.calls (k:Nat) {h0:View} {w0:World} (hv:Sees h0 w0) (ht:Tab w0) {r:Bool} (H:taplinelaw08_sane.f k=some r):Calls Tryd.prog 13 #[] w0 (fun e w1=>e= .returned (vB r)∧Ext w0 w1):=by
 unfold taplinelaw08_sane.f at H
 have HS:St [] h0 w0 h0 [] w0:=St.init hv
 go_enter Tryd.func13,Tryd.ntmps13
 refine wp_seq ?_
 refine region ?_
 refine rs (vB false) (r_assign rfl) ?_
 try simp only [sc0,sc1]
 refine run_nil ?_
 refine norm_then ?_
 refine wp_seq ?_
 refine region ?_
 obtain ⟨v1,H1,H⟩:=of_bind H
 refine run_ex rfl rfl (does_call Tryd.call42 rfl (gives_in (h:=h0) (R:=(fun hx u=>∃(Av1_0_0:Option Addr) (cv1_0_0:Nat),u=Value.agg #[vL Av1_0_0 v1.vDefs.length cv1_0_0]∧v1.vDefs.length≤cv1_0_0∧Rd k_api_Def hx Av1_0_0 v1.vDefs)) (Ext.rfl' w0) ((taplinelaw08_sample.calls HS.sees H1).mono ?_)) rfl) ?_
 ·rintro _ _ ⟨h1,Av1_0_0,cv1_0_0,rfl,hcv1_0_0,hrv1_0_0,g,ss,x⟩
  exact ⟨h1,_,rfl,⟨Av1_0_0,cv1_0_0,rfl,hcv1_0_0,hrv1_0_0⟩,g,ss,x⟩
 rintro w1 _ hE1 ⟨h1,⟨Av1_0_0,cv1_0_0,rfl,hcv1_0_0,hrv1_0_0⟩,gr1,se1⟩
 have HS1:=HS.view hE1 gr1 se1
 refine run_ex rfl rfl (does_alloc (cs:=#[vL none 0 0]) Tryd.zeroValue24 rfl) ?_
 rintro w2 _ hE2 ⟨b1,rfl,ge1,hb1⟩
 have HS2:=HS1.new hE2 ge1 hb1
 refine run_st (i:=0) (cs:=[vL none 0 0]) (cs':=[vL Av1_0_0 v1.vDefs.length cv1_0_0]) (vs:=[vL Av1_0_0 v1.vDefs.length cv1_0_0]) (bs':=[(some b1, .cells #[vL Av1_0_0 v1.vDefs.length cv1_0_0] 24 (0,0))]) rfl rfl Tryd.sizeOf24 rfl rfl (by decide) rfl HS2 rfl (Nat.le_of_ble_eq_true rfl) rfl rfl ?_
 intro w3 HS3
 try simp only [sc0,sc1]
 refine run_nil ?_
 refine norm_then ?_
 refine wp_seq ?_
 refine region ?_
 refine rs (Value.agg #[vL Av1_0_0 v1.vDefs.length cv1_0_0]) (r_loadBoxAgg (n:=1) (vs:=[vL Av1_0_0 v1.vDefs.length cv1_0_0]) rfl Tryd.isAgg24 (HS3.look 0 rfl) Tryd.sizeOf24 rfl rfl) ?_
 obtain ⟨v2,H2,H⟩:=of_bind H
 refine run_eq (v:=Value.tuple #[vI v2.1,vI v2.2]) rfl rfl (does_call_eq Tryd.call14 rfl rfl (ctf_Size.calls k v1 1 Av1_0_0 cv1_0_0 HS3.sees hrv1_0_0 hcv1_0_0 H2)) ?_
 intro w4 hE3
 have HS4:=HS3.step hE3
 refine rs (Value.tuple #[vI v2.1,vI v2.2]) (r_move rfl) ?_
 refine rs (vI v2.1) (r_extract rfl rfl) ?_
 refine run_frame (by simp only [sc0,sc1];rfl) ?_
 refine rs (vI v2.2) (r_extract rfl rfl) ?_
 refine rs (vI v2.1) (r_assign rfl) ?_
 refine rs (vI v2.2) (r_assign rfl) ?_
 try simp only [sc0,sc1]
 refine run_nil ?_
 refine norm_then ?_
 refine wp_seq ?_
 refine region ?_
 refine rs (Value.agg #[vL Av1_0_0 v1.vDefs.length cv1_0_0]) (r_loadBoxAgg (n:=1) (vs:=[vL Av1_0_0 v1.vDefs.length cv1_0_0]) rfl Tryd.isAgg24 (HS4.look 0 rfl) Tryd.sizeOf24 rfl rfl) ?_
 obtain ⟨v3,H3,H⟩:=of_bind H
 refine run_eq (v:=Value.tuple #[vS v3.1,vI v3.2]) rfl rfl (does_call_eq Tryd.call20 rfl rfl (ctf_Text.calls k v1 3 Av1_0_0 cv1_0_0 HS4.sees (ht.s HS4) hrv1_0_0 hcv1_0_0 H3)) ?_
 intro w5 hE4
 have HS5:=HS4.step hE4
 refine rs (Value.tuple #[vS v3.1,vI v3.2]) (r_move rfl) ?_
 refine rs (vS v3.1) (r_extract rfl rfl) ?_
 refine run_frame (by simp only [sc0,sc1];rfl) ?_
 refine rs (vI v3.2) (r_extract rfl rfl) ?_
 refine rs (vS v3.1) (r_assign rfl) ?_
 refine rs (vI v3.2) (r_assign rfl) ?_
 try simp only [sc0,sc1]
 refine run_nil ?_
 refine norm_then ?_
 refine wp_seq ?_
 refine region ?_
 refine rs (Value.agg #[vL Av1_0_0 v1.vDefs.length cv1_0_0]) (r_loadBoxAgg (n:=1) (vs:=[vL Av1_0_0 v1.vDefs.length cv1_0_0]) rfl Tryd.isAgg24 (HS5.look 0 rfl) Tryd.sizeOf24 rfl rfl) ?_
 obtain ⟨v4,H4,H⟩:=of_bind H
 refine run_eq (v:=Value.tuple #[Value.agg #[vS v4.1.vName,vI v4.1.vType,vI v4.1.vAt],vI v4.2]) rfl rfl (does_call_eq Tryd.call16 rfl rfl (ctf_Member.calls k v1 1 (⟨#[116,95,110,101,120,116]⟩:ByteArray) Av1_0_0 cv1_0_0 HS5.sees hrv1_0_0 hcv1_0_0 H4)) ?_
 intro w6 hE5
 have HS6:=HS5.step hE5
 refine rs (Value.tuple #[Value.agg #[vS v4.1.vName,vI v4.1.vType,vI v4.1.vAt],vI v4.2]) (r_move rfl) ?_
 refine rs (Value.agg #[vS v4.1.vName,vI v4.1.vType,vI v4.1.vAt]) (r_extract rfl rfl) ?_
 refine run_frame (by simp only [sc0,sc1];rfl) ?_
 refine rs (vI v4.2) (r_extract rfl rfl) ?_
 refine run_ex rfl rfl (does_alloc (cs:=#[vS ByteArray.empty,vI 0,vI 0]) Tryd.zeroValue36 rfl) ?_
 rintro w7 _ hE6 ⟨b2,rfl,ge2,hb2⟩
 have HS7:=HS6.new hE6 ge2 hb2
 refine run_st (i:=0) (cs:=[vS ByteArray.empty,vI 0,vI 0]) (cs':=[vS v4.1.vName,vI v4.1.vType,vI v4.1.vAt]) (vs:=[vS v4.1.vName,vI v4.1.vType,vI v4.1.vAt]) (bs':=[(some b2, .cells #[vS v4.1.vName,vI v4.1.vType,vI v4.1.vAt] 36 (0,0)),(some b1, .cells #[vL Av1_0_0 v1.vDefs.length cv1_0_0] 24 (0,0))]) rfl rfl Tryd.sizeOf36 rfl rfl (by decide) rfl HS7 rfl (Nat.le_of_ble_eq_true rfl) rfl rfl ?_
 intro w8 HS8
 refine rs (vI v4.2) (r_assign rfl) ?_
 try simp only [sc0,sc1]
 refine run_nil ?_
 refine norm_then ?_
 refine wp_seq ?_
 refine region ?_
 refine rs (Value.agg #[vL Av1_0_0 v1.vDefs.length cv1_0_0]) (r_loadBoxAgg (n:=1) (vs:=[vL Av1_0_0 v1.vDefs.length cv1_0_0]) rfl Tryd.isAgg24 (HS8.look 1 rfl) Tryd.sizeOf24 rfl rfl) ?_
 refine run_bs Kd.str (xs:=([(⟨#[116,95,110,97,109,101]⟩:ByteArray)]:List ByteArray)) (n:=1) (cs:=[vS (⟨#[116,95,110,97,109,101]⟩:ByteArray)]) Tryd.runUnderlying25 Tryd.typeInfo9 Tryd.zeroValue9 rfl rfl (by decide) (by decide) (by decide) [vS (⟨#[116,95,110,97,109,101]⟩:ByteArray)] (parts_any.trans rfl) rfl rfl rfl rfl (elems_cons (qs:=[vS (⟨#[116,95,110,97,109,101]⟩:ByteArray)]) rfl (elems_nil (cs:=[]))) HS8 ?_
 intro w9 b3 HS9 ho1
 obtain ⟨v5,H5,H⟩:=of_bind H
 obtain ⟨hl1,hs1,se2,rdl1⟩:=row_lend HS9 (i:=0) rfl ho1
 refine run_eq (v:=Value.tuple #[vI v5.1,vI v5.2.1,vI v5.2.2]) rfl rfl (does_call_eq Tryd.call17 rfl (map3 rfl rfl (show _=vL (rowA (some b3)) ([(⟨#[116,95,110,97,109,101]⟩:ByteArray)]:List ByteArray).length 1 from by rw [ho1.len];exact rfl)) (ctf_Path.calls k v1 1 ([(⟨#[116,95,110,97,109,101]⟩:ByteArray)]:List ByteArray) Av1_0_0 cv1_0_0 (rowA (some b3)) 1 se2 (hrv1_0_0.ext hs1) hcv1_0_0 rdl1 ho1.cap H5)) ?_
 intro w10 hE7
 have HS10:=HS9.step hE7
 refine rs (Value.tuple #[vI v5.1,vI v5.2.1,vI v5.2.2]) (r_move rfl) ?_
 refine run_frame (by simp only [sc0,sc1];rfl) ?_
 refine rs (vI v5.1) (r_extract rfl rfl) ?_
 refine rs (vI v5.2.1) (r_extract rfl rfl) ?_
 refine rs (vI v5.2.2) (r_extract rfl rfl) ?_
 refine rs (vI v5.1) (r_assign rfl) ?_
 refine run_frame (by simp only [sc0,sc1];rfl) ?_
 refine rs (vI v5.2.1) (r_assign rfl) ?_
 refine rs (vI v5.2.2) (r_assign rfl) ?_
 try simp only [sc0,sc1]
 refine run_nil ?_
 refine norm_then ?_
 refine wp_seq ?_
 refine wp_seq ?_
 refine region ?_
 refine rs (Value.agg #[vL Av1_0_0 v1.vDefs.length cv1_0_0]) (r_loadBoxAgg (n:=1) (vs:=[vL Av1_0_0 v1.vDefs.length cv1_0_0]) rfl Tryd.isAgg24 (HS10.look 2 rfl) Tryd.sizeOf24 rfl rfl) ?_
 obtain ⟨v6,H6,H⟩:=of_bind H
 refine run_eq (v:=vI v6) rfl rfl (does_call_eq Tryd.call18 rfl rfl (ctf_Check.calls k v1 Av1_0_0 cv1_0_0 HS10.sees hrv1_0_0 hcv1_0_0 H6)) ?_
 intro w11 hE8
 have HS11:=HS10.step hE8
 refine rs (vB (v6 !=0)) (r_bin rfl rfl rfl) ?_
 refine rs (vB (v6 !=0)) (r_move rfl) ?_
 refine run_frame (by simp only [sc0,sc1];rfl) ?_
 refine rgs (v6 !=0) true (vI v2.2) rfl rfl rfl rfl (fun hg=>(r_move rfl)) ?_
 refine rgs (v6 !=0) true (vB (v2.2 !=0)) rfl rfl rfl rfl (fun hg=>(r_bin (gvt (vI v2.2) hg rfl) rfl rfl)) ?_
 refine rs (vB ((v6 !=0)||(v2.2 !=0))) (r_pick_or rfl rfl (fun hp=>(gvt (vB (v2.2 !=0)) (and_i rfl hp) rfl))) ?_
 refine rs (vB ((v6 !=0)||(v2.2 !=0))) (r_move rfl) ?_
 refine run_frame (by simp only [sc0,sc1];rfl) ?_
 refine rgs ((v6 !=0)||(v2.2 !=0)) true (vI v2.1) rfl rfl rfl rfl (fun hg=>(r_move rfl)) ?_
 refine rgs ((v6 !=0)||(v2.2 !=0)) true (vB (v2.1 !=24)) rfl rfl rfl rfl (fun hg=>(r_bin (gvt (vI v2.1) hg rfl) rfl rfl)) ?_
 refine rs (vB (((v6 !=0)||(v2.2 !=0))||(v2.1 !=24))) (r_pick_or rfl rfl (fun hp=>(gvt (vB (v2.1 !=24)) (and_i rfl hp) rfl))) ?_
 refine rs (vB (((v6 !=0)||(v2.2 !=0))||(v2.1 !=24))) (r_move rfl) ?_
 refine run_frame (by simp only [sc0,sc1];rfl) ?_
 refine rgs (((v6 !=0)||(v2.2 !=0))||(v2.1 !=24)) true (vI v3.2) rfl rfl rfl rfl (fun hg=>(r_move rfl)) ?_
 refine rgs (((v6 !=0)||(v2.2 !=0))||(v2.1 !=24)) true (vB (v3.2 !=0)) rfl rfl rfl rfl (fun hg=>(r_bin (gvt (vI v3.2) hg rfl) rfl rfl)) ?_
 refine rs (vB ((((v6 !=0)||(v2.2 !=0))||(v2.1 !=24))||(v3.2 !=0))) (r_pick_or rfl rfl (fun hp=>(gvt (vB (v3.2 !=0)) (and_i rfl hp) rfl))) ?_
 refine rs (vB ((((v6 !=0)||(v2.2 !=0))||(v2.1 !=24))||(v3.2 !=0))) (r_move rfl) ?_
 refine run_frame (by simp only [sc0,sc1];rfl) ?_
 refine rgs ((((v6 !=0)||(v2.2 !=0))||(v2.1 !=24))||(v3.2 !=0)) true (vS v3.1) rfl rfl rfl rfl (fun hg=>(r_move rfl)) ?_
 refine rgs ((((v6 !=0)||(v2.2 !=0))||(v2.1 !=24))||(v3.2 !=0)) true (vB (!(strEq v3.1 (⟨#[99,104,97,114,32,91,56,93]⟩:ByteArray)))) rfl rfl rfl rfl (fun hg=>(r_strneq (gvt (vS v3.1) hg rfl) rfl)) ?_
 refine rs (vB (((((v6 !=0)||(v2.2 !=0))||(v2.1 !=24))||(v3.2 !=0))||(!(strEq v3.1 (⟨#[99,104,97,114,32,91,56,93]⟩:ByteArray))))) (r_pick_or rfl rfl (fun hp=>(gvt (vB (!(strEq v3.1 (⟨#[99,104,97,114,32,91,56,93]⟩:ByteArray)))) (and_i rfl hp) rfl))) ?_
 refine rs (vB (((((v6 !=0)||(v2.2 !=0))||(v2.1 !=24))||(v3.2 !=0))||(!(strEq v3.1 (⟨#[99,104,97,114,32,91,56,93]⟩:ByteArray))))) (r_move rfl) ?_
 refine run_frame (by simp only [sc0,sc1];rfl) ?_
 refine rgs (((((v6 !=0)||(v2.2 !=0))||(v2.1 !=24))||(v3.2 !=0))||(!(strEq v3.1 (⟨#[99,104,97,114,32,91,56,93]⟩:ByteArray)))) true (vI v4.2) rfl rfl rfl rfl (fun hg=>(r_move rfl)) ?_
 refine rgs (((((v6 !=0)||(v2.2 !=0))||(v2.1 !=24))||(v3.2 !=0))||(!(strEq v3.1 (⟨#[99,104,97,114,32,91,56,93]⟩:ByteArray)))) true (vB (v4.2 !=0)) rfl rfl rfl rfl (fun hg=>(r_bin (gvt (vI v4.2) hg rfl) rfl rfl)) ?_
 refine rs (vB ((((((v6 !=0)||(v2.2 !=0))||(v2.1 !=24))||(v3.2 !=0))||(!(strEq v3.1 (⟨#[99,104,97,114,32,91,56,93]⟩:ByteArray))))||(v4.2 !=0))) (r_pick_or rfl rfl (fun hp=>(gvt (vB (v4.2 !=0)) (and_i rfl hp) rfl))) ?_
 refine rs (vB ((((((v6 !=0)||(v2.2 !=0))||(v2.1 !=24))||(v3.2 !=0))||(!(strEq v3.1 (⟨#[99,104,97,114,32,91,56,93]⟩:ByteArray))))||(v4.2 !=0))) (r_move rfl) ?_
 refine run_frame (by simp only [sc0,sc1];rfl) ?_
 refine rgs ((((((v6 !=0)||(v2.2 !=0))||(v2.1 !=24))||(v3.2 !=0))||(!(strEq v3.1 (⟨#[99,104,97,114,32,91,56,93]⟩:ByteArray))))||(v4.2 !=0)) true (vP b2 1) rfl rfl rfl rfl (fun hg=>(r_fieldBox (n:=1) (o':=1) rfl Tryd.runUnderlying36 rfl Tryd.sizeOf3 (by decide) rfl)) ?_
 refine rgs ((((((v6 !=0)||(v2.2 !=0))||(v2.1 !=24))||(v3.2 !=0))||(!(strEq v3.1 (⟨#[99,104,97,114,32,91,56,93]⟩:ByteArray))))||(v4.2 !=0)) true (vI v4.1.vType) rfl rfl rfl rfl (fun hg=>(r_loadBox (gvt (vP b2 1) hg rfl) Tryd.isAgg3 (HS11.look 1 rfl) rfl)) ?_
 refine rgs ((((((v6 !=0)||(v2.2 !=0))||(v2.1 !=24))||(v3.2 !=0))||(!(strEq v3.1 (⟨#[99,104,97,114,32,91,56,93]⟩:ByteArray))))||(v4.2 !=0)) true (vB (v4.1.vType !=2)) rfl rfl rfl rfl (fun hg=>(r_bin (gvt (vI v4.1.vType) hg rfl) rfl rfl)) ?_
 refine rs (vB (((((((v6 !=0)||(v2.2 !=0))||(v2.1 !=24))||(v3.2 !=0))||(!(strEq v3.1 (⟨#[99,104,97,114,32,91,56,93]⟩:ByteArray))))||(v4.2 !=0))||(v4.1.vType !=2))) (r_pick_or rfl rfl (fun hp=>(gvt (vB (v4.1.vType !=2)) (and_i rfl hp) rfl))) ?_
 refine run_frame (by simp only [sc0,sc1];rfl) ?_
 refine rs (vB (((((((v6 !=0)||(v2.2 !=0))||(v2.1 !=24))||(v3.2 !=0))||(!(strEq v3.1 (⟨#[99,104,97,114,32,91,56,93]⟩:ByteArray))))||(v4.2 !=0))||(v4.1.vType !=2))) (r_move rfl) ?_
 refine rgs (((((((v6 !=0)||(v2.2 !=0))||(v2.1 !=24))||(v3.2 !=0))||(!(strEq v3.1 (⟨#[99,104,97,114,32,91,56,93]⟩:ByteArray))))||(v4.2 !=0))||(v4.1.vType !=2)) true (vP b2 2) rfl rfl rfl rfl (fun hg=>(r_fieldBox (n:=1) (o':=2) rfl Tryd.runUnderlying36 rfl Tryd.sizeOf3 (by decide) rfl)) ?_
 refine rgs (((((((v6 !=0)||(v2.2 !=0))||(v2.1 !=24))||(v3.2 !=0))||(!(strEq v3.1 (⟨#[99,104,97,114,32,91,56,93]⟩:ByteArray))))||(v4.2 !=0))||(v4.1.vType !=2)) true (vI v4.1.vAt) rfl rfl rfl rfl (fun hg=>(r_loadBox (gvt (vP b2 2) hg rfl) Tryd.isAgg3 (HS11.look 1 rfl) rfl)) ?_
 refine rgs (((((((v6 !=0)||(v2.2 !=0))||(v2.1 !=24))||(v3.2 !=0))||(!(strEq v3.1 (⟨#[99,104,97,114,32,91,56,93]⟩:ByteArray))))||(v4.2 !=0))||(v4.1.vType !=2)) true (vB (v4.1.vAt !=8)) rfl rfl rfl rfl (fun hg=>(r_bin (gvt (vI v4.1.vAt) hg rfl) rfl rfl)) ?_
 refine run_frame (by simp only [sc0,sc1];rfl) ?_
 refine rs (vB ((((((((v6 !=0)||(v2.2 !=0))||(v2.1 !=24))||(v3.2 !=0))||(!(strEq v3.1 (⟨#[99,104,97,114,32,91,56,93]⟩:ByteArray))))||(v4.2 !=0))||(v4.1.vType !=2))||(v4.1.vAt !=8))) (r_pick_or rfl rfl (fun hp=>(gvt (vB (v4.1.vAt !=8)) (and_i rfl hp) rfl))) ?_
 refine rs (vB ((((((((v6 !=0)||(v2.2 !=0))||(v2.1 !=24))||(v3.2 !=0))||(!(strEq v3.1 (⟨#[99,104,97,114,32,91,56,93]⟩:ByteArray))))||(v4.2 !=0))||(v4.1.vType !=2))||(v4.1.vAt !=8))) (r_move rfl) ?_
 refine rgs ((((((((v6 !=0)||(v2.2 !=0))||(v2.1 !=24))||(v3.2 !=0))||(!(strEq v3.1 (⟨#[99,104,97,114,32,91,56,93]⟩:ByteArray))))||(v4.2 !=0))||(v4.1.vType !=2))||(v4.1.vAt !=8)) true (vI v5.2.2) rfl rfl rfl rfl (fun hg=>(r_move rfl)) ?_
 refine rgs ((((((((v6 !=0)||(v2.2 !=0))||(v2.1 !=24))||(v3.2 !=0))||(!(strEq v3.1 (⟨#[99,104,97,114,32,91,56,93]⟩:ByteArray))))||(v4.2 !=0))||(v4.1.vType !=2))||(v4.1.vAt !=8)) true (vB (v5.2.2 !=0)) rfl rfl rfl rfl (fun hg=>(r_bin (gvt (vI v5.2.2) hg rfl) rfl rfl)) ?_
 refine run_frame (by simp only [sc0,sc1];rfl) ?_
 refine rs (vB (((((((((v6 !=0)||(v2.2 !=0))||(v2.1 !=24))||(v3.2 !=0))||(!(strEq v3.1 (⟨#[99,104,97,114,32,91,56,93]⟩:ByteArray))))||(v4.2 !=0))||(v4.1.vType !=2))||(v4.1.vAt !=8))||(v5.2.2 !=0))) (r_pick_or rfl rfl (fun hp=>(gvt (vB (v5.2.2 !=0)) (and_i rfl hp) rfl))) ?_
 refine rs (vB (((((((((v6 !=0)||(v2.2 !=0))||(v2.1 !=24))||(v3.2 !=0))||(!(strEq v3.1 (⟨#[99,104,97,114,32,91,56,93]⟩:ByteArray))))||(v4.2 !=0))||(v4.1.vType !=2))||(v4.1.vAt !=8))||(v5.2.2 !=0))) (r_move rfl) ?_
 refine rgs (((((((((v6 !=0)||(v2.2 !=0))||(v2.1 !=24))||(v3.2 !=0))||(!(strEq v3.1 (⟨#[99,104,97,114,32,91,56,93]⟩:ByteArray))))||(v4.2 !=0))||(v4.1.vType !=2))||(v4.1.vAt !=8))||(v5.2.2 !=0)) true (vI v5.1) rfl rfl rfl rfl (fun hg=>(r_move rfl)) ?_
 refine rgs (((((((((v6 !=0)||(v2.2 !=0))||(v2.1 !=24))||(v3.2 !=0))||(!(strEq v3.1 (⟨#[99,104,97,114,32,91,56,93]⟩:ByteArray))))||(v4.2 !=0))||(v4.1.vType !=2))||(v4.1.vAt !=8))||(v5.2.2 !=0)) true (vB (v5.1 !=3)) rfl rfl rfl rfl (fun hg=>(r_bin (gvt (vI v5.1) hg rfl) rfl rfl)) ?_
 refine run_frame (by simp only [sc0,sc1];rfl) ?_
 refine rs (vB ((((((((((v6 !=0)||(v2.2 !=0))||(v2.1 !=24))||(v3.2 !=0))||(!(strEq v3.1 (⟨#[99,104,97,114,32,91,56,93]⟩:ByteArray))))||(v4.2 !=0))||(v4.1.vType !=2))||(v4.1.vAt !=8))||(v5.2.2 !=0))||(v5.1 !=3))) (r_pick_or rfl rfl (fun hp=>(gvt (vB (v5.1 !=3)) (and_i rfl hp) rfl))) ?_
 refine rs (vB ((((((((((v6 !=0)||(v2.2 !=0))||(v2.1 !=24))||(v3.2 !=0))||(!(strEq v3.1 (⟨#[99,104,97,114,32,91,56,93]⟩:ByteArray))))||(v4.2 !=0))||(v4.1.vType !=2))||(v4.1.vAt !=8))||(v5.2.2 !=0))||(v5.1 !=3))) (r_move rfl) ?_
 refine rgs ((((((((((v6 !=0)||(v2.2 !=0))||(v2.1 !=24))||(v3.2 !=0))||(!(strEq v3.1 (⟨#[99,104,97,114,32,91,56,93]⟩:ByteArray))))||(v4.2 !=0))||(v4.1.vType !=2))||(v4.1.vAt !=8))||(v5.2.2 !=0))||(v5.1 !=3)) true (vI v5.2.1) rfl rfl rfl rfl (fun hg=>(r_move rfl)) ?_
 refine rgs ((((((((((v6 !=0)||(v2.2 !=0))||(v2.1 !=24))||(v3.2 !=0))||(!(strEq v3.1 (⟨#[99,104,97,114,32,91,56,93]⟩:ByteArray))))||(v4.2 !=0))||(v4.1.vType !=2))||(v4.1.vAt !=8))||(v5.2.2 !=0))||(v5.1 !=3)) true (vB (v5.2.1 !=16)) rfl rfl rfl rfl (fun hg=>(r_bin (gvt (vI v5.2.1) hg rfl) rfl rfl)) ?_
 refine run_frame (by simp only [sc0,sc1];rfl) ?_
 refine rs (vB (((((((((((v6 !=0)||(v2.2 !=0))||(v2.1 !=24))||(v3.2 !=0))||(!(strEq v3.1 (⟨#[99,104,97,114,32,91,56,93]⟩:ByteArray))))||(v4.2 !=0))||(v4.1.vType !=2))||(v4.1.vAt !=8))||(v5.2.2 !=0))||(v5.1 !=3))||(v5.2.1 !=16))) (r_pick_or rfl rfl (fun hp=>(gvt (vB (v5.2.1 !=16)) (and_i rfl hp) rfl))) ?_
 try simp only [sc0,sc1]
 refine run_nil ?_
 refine norm_then ?_
 refine wp_cond_split (t:=(((((((((((v6 !=0)||(v2.2 !=0))||(v2.1 !=24))||(v3.2 !=0))||(!(strEq v3.1 (⟨#[99,104,97,114,32,91,56,93]⟩:ByteArray))))||(v4.2 !=0))||(v4.1.vType !=2))||(v4.1.vAt !=8))||(v5.2.2 !=0))||(v5.1 !=3))||(v5.2.1 !=16))) rfl (fun c1=>?_) (fun c1=>?_)
 ·replace H:=of_pos H c1
  refine wp_seq ?_
  refine region ?_
  refine rs (vB false) (r_assign rfl) ?_
  try simp only [sc0,sc1]
  refine run_nil ?_
  refine norm_then ?_
  refine wp_ret ?_
  refine ret_then ?_
  obtain rfl:=Option.some.inj H
  refine bodyPost_ret (results_1 rfl (one_tmp rfl)) rfl ?_
  exact ⟨rfl,HS11.toE⟩
 ·replace H:=of_neg H (nt c1)
  refine wp_skip ?_
  refine norm_then ?_
  refine wp_seq ?_
  refine region ?_
  refine rs (Value.agg #[vL Av1_0_0 v1.vDefs.length cv1_0_0]) (r_loadBoxAgg (n:=1) (vs:=[vL Av1_0_0 v1.vDefs.length cv1_0_0]) rfl Tryd.isAgg24 (HS11.look 2 rfl) Tryd.sizeOf24 rfl rfl) ?_
  obtain ⟨v7,H7,H⟩:=of_bind H
  refine run_eq (v:=Value.tuple #[Value.agg #[vS v7.1.vName,vI v7.1.vType,vI v7.1.vAt],vI v7.2]) rfl rfl (does_call_eq Tryd.call16 rfl rfl (ctf_Member.calls k v1 2 (⟨#[116,95,116,105,100]⟩:ByteArray) Av1_0_0 cv1_0_0 HS11.sees hrv1_0_0 hcv1_0_0 H7)) ?_
  intro w12 hE9
  have HS12:=HS11.step hE9
  refine rs (Value.tuple #[Value.agg #[vS v7.1.vName,vI v7.1.vType,vI v7.1.vAt],vI v7.2]) (r_move rfl) ?_
  refine rs (Value.agg #[vS v7.1.vName,vI v7.1.vType,vI v7.1.vAt]) (r_extract rfl rfl) ?_
  refine run_frame (by simp only [sc0,sc1];rfl) ?_
  refine rs (vI v7.2) (r_extract rfl rfl) ?_
  refine run_ex rfl rfl (does_alloc (cs:=#[vS ByteArray.empty,vI 0,vI 0]) Tryd.zeroValue36 rfl) ?_
  rintro w13 _ hE10 ⟨b4,rfl,ge3,hb3⟩
  have HS13:=HS12.new hE10 ge3 hb3
  refine run_st (i:=0) (cs:=[vS ByteArray.empty,vI 0,vI 0]) (cs':=[vS v7.1.vName,vI v7.1.vType,vI v7.1.vAt]) (vs:=[vS v7.1.vName,vI v7.1.vType,vI v7.1.vAt]) (bs':=[(some b4, .cells #[vS v7.1.vName,vI v7.1.vType,vI v7.1.vAt] 36 (0,0)),((some b3), .cells ([vS (⟨#[116,95,110,97,109,101]⟩:ByteArray)]).toArray 9 (0,0)),(some b2, .cells #[vS v4.1.vName,vI v4.1.vType,vI v4.1.vAt] 36 (0,0)),(some b1, .cells #[vL Av1_0_0 v1.vDefs.length cv1_0_0] 24 (0,0))]) rfl rfl Tryd.sizeOf36 rfl rfl (by decide) rfl HS13 rfl (Nat.le_of_ble_eq_true rfl) rfl rfl ?_
  intro w14 HS14
  refine rs (vI v7.2) (r_assign rfl) ?_
  try simp only [sc0,sc1]
  refine run_nil ?_
  refine norm_then ?_
  refine wp_seq ?_
  refine region ?_
  refine run_bs0 k_api_Def Tryd.runUnderlying22 Tryd.typeInfo34 HS14 ?_
  intro w15 b5 HS15 ho2
  refine rs (vP b1 0) (r_fieldBox (n:=1) (o':=0) rfl Tryd.runUnderlying24 rfl Tryd.sizeOf22 (by decide) rfl) ?_
  refine rs (vL Av1_0_0 v1.vDefs.length cv1_0_0) (r_loadBox rfl Tryd.isAgg22 (HS15.look 4 rfl) rfl) ?_
  obtain ⟨nw1,sr1,hn1⟩:=src_rd (c:=cv1_0_0) one_api_Def Tryd.runUnderlying22 HS15.sees hrv1_0_0
  obtain ⟨hl2,H⟩:=of_ite H
  refine run_app k_api_Def (q:=0) (cs:=([]:List Value)) rfl rfl Tryd.runUnderlying22 Tryd.typeInfo34 Tryd.zeroValue34 rfl (by decide) rfl sr1 rfl hn1 hl2 HS15 rfl ho2 ?_
  intro w16 ob1 c2 cs1 HS16 ho3
  refine run_frame (by simp only [sc0,sc1];rfl) ?_
  refine rs (Value.agg #[vI 2,vS ByteArray.empty,vI 0,vB false,vI 1,vI 0,vL none 0 0]) (r_build (cs:=[vI 2,vS ByteArray.empty,vI 0,vB false,vI 1,vI 0,vL none 0 0]) (ps:=[(0,vI 2),(3,vI 1)]) Tryd.zeroValue34 Tryd.runUnderlying34 (pl:=#[(0,1),(1,1),(2,2),(4,1),(5,1),(6,1)]) (fun w=>by simp [Tryd.sizeOf3,Tryd.sizeOf31,Tryd.sizeOf32,Tryd.sizeOf9]) (parts_2 (show _=vI 2 from rfl) (show _=vI 1 from rfl)) rfl) ?_
  refine run_bs k_api_Def (xs:=([(⟨2,ByteArray.empty,(⟨0,false⟩:api_Int),1,0,[]⟩:api_Def)]:List api_Def)) (n:=1) (cs:=[vI 2,vS ByteArray.empty,vI 0,vB false,vI 1,vI 0,vL none 0 0]) Tryd.runUnderlying22 Tryd.typeInfo34 Tryd.zeroValue34 rfl rfl (by decide) (by decide) (by decide) [Value.agg #[vI 2,vS ByteArray.empty,vI 0,vB false,vI 1,vI 0,vL none 0 0]] (parts_any.trans rfl) rfl rfl rfl rfl (elems_cons (qs:=[vI 2,vS ByteArray.empty,vI 0,vB false,vI 1,vI 0,vL none 0 0]) ⟨[vI 2],[vS ByteArray.empty,vI 0,vB false,vI 1,vI 0,vL none 0 0],rfl,rfl,⟨[vS ByteArray.empty],[vI 0,vB false,vI 1,vI 0,vL none 0 0],rfl,rfl,⟨[vI 0,vB false],[vI 1,vI 0,vL none 0 0],rfl,⟨[vI 0],[vB false],rfl,rfl,rfl⟩,⟨[vI 1],[vI 0,vL none 0 0],rfl,rfl,⟨[vI 0],[vL none 0 0],rfl,rfl,⟨none,0,rfl,(Nat.le_refl 0),(Rd.nil _ _ _)⟩⟩⟩⟩⟩⟩ (elems_nil (cs:=[]))) HS16 ?_
  intro w17 b6 HS17 ho4
  obtain ⟨hl3,H⟩:=of_ite H
  refine run_app k_api_Def (q:=1) (cs:=cs1) rfl rfl Tryd.runUnderlying22 Tryd.typeInfo34 Tryd.zeroValue34 rfl (by decide) rfl (src_row Tryd.runUnderlying22 HS17 (i:=0) rfl ho4 rfl) ho4.len (src_row_elems ho4) hl3 HS17 rfl ho3 ?_
  intro w18 ob2 c3 cs2 HS18 ho5
  refine rs (Value.agg #[vL (rowA ob2) ((0+v1.vDefs.length)+1) c3]) (r_build (cs:=[vL (rowA ob2) ((0+v1.vDefs.length)+1) c3]) (ps:=[(0,vL (rowA ob2) ((0+v1.vDefs.length)+1) c3)]) Tryd.zeroValue24 Tryd.runUnderlying24 (pl:=#[(0,1)]) (fun w=>by simp [Tryd.sizeOf22]) (parts_1 (show _=vL (rowA ob2) ((0+v1.vDefs.length)+1) c3 from rfl)) rfl) ?_
  refine run_frame (by simp only [sc0,sc1];rfl) ?_
  refine run_ex rfl rfl (does_alloc (cs:=#[vL none 0 0]) Tryd.zeroValue24 rfl) ?_
  rintro w19 _ hE11 ⟨b7,rfl,ge4,hb4⟩
  have HS19:=HS18.new hE11 ge4 hb4
  refine run_st (i:=0) (cs:=[vL none 0 0]) (cs':=[vL (rowA ob2) ((0+v1.vDefs.length)+1) c3]) (vs:=[vL (rowA ob2) ((0+v1.vDefs.length)+1) c3]) (bs':=[(some b7, .cells #[vL (rowA ob2) ((0+v1.vDefs.length)+1) c3] 24 (0,0)),((some b6), .cells ([vI 2,vS ByteArray.empty,vI 0,vB false,vI 1,vI 0,vL none 0 0]).toArray 34 (0,0)),(ob2, .cells (cs2).toArray 34 (0,0)),(some b4, .cells #[vS v7.1.vName,vI v7.1.vType,vI v7.1.vAt] 36 (0,0)),((some b3), .cells ([vS (⟨#[116,95,110,97,109,101]⟩:ByteArray)]).toArray 9 (0,0)),(some b2, .cells #[vS v4.1.vName,vI v4.1.vType,vI v4.1.vAt] 36 (0,0)),(some b1, .cells #[vL Av1_0_0 v1.vDefs.length cv1_0_0] 24 (0,0))]) rfl rfl Tryd.sizeOf24 rfl rfl (by decide) rfl HS19 rfl (Nat.le_of_ble_eq_true rfl) rfl rfl ?_
  intro w20 HS20
  try simp only [sc0,sc1]
  refine run_nil ?_
  refine norm_then ?_
  refine wp_seq ?_
  refine region ?_
  refine rs (Value.agg #[vL (rowA ob2) ((0+v1.vDefs.length)+1) c3]) (r_loadBoxAgg (n:=1) (vs:=[vL (rowA ob2) ((0+v1.vDefs.length)+1) c3]) rfl Tryd.isAgg24 (HS20.look 0 rfl) Tryd.sizeOf24 rfl rfl) ?_
  have HS21:St [] h0 w0 h1 [(some b7, .cells #[vL (rowA ob2) (((([]:List api_Def)++v1.vDefs)++([(⟨2,ByteArray.empty,(⟨0,false⟩:api_Int),1,0,[]⟩:api_Def)]:List api_Def)).length) c3] 24 (0,0)),((some b6), .cells ([vI 2,vS ByteArray.empty,vI 0,vB false,vI 1,vI 0,vL none 0 0]).toArray 34 (0,0)),(ob2, .cells (cs2).toArray 34 (0,0)),(some b4, .cells #[vS v7.1.vName,vI v7.1.vType,vI v7.1.vAt] 36 (0,0)),((some b3), .cells ([vS (⟨#[116,95,110,97,109,101]⟩:ByteArray)]).toArray 9 (0,0)),(some b2, .cells #[vS v4.1.vName,vI v4.1.vType,vI v4.1.vAt] 36 (0,0)),(some b1, .cells #[vL Av1_0_0 v1.vDefs.length cv1_0_0] 24 (0,0))] w20:=HS20.cast (by first|rfl|(rw [ho5.len];done)|(rw [ho5.len];rfl))
  have ho6:=ho5.norm
  try rw [←ho5.len]
  obtain ⟨h2,HS22,hs2,rdp1⟩:=row_pub HS21 (i:=2) rfl ho6
  have HS23:St [] h0 w0 h2 [(some b7, .cells #[vL (rowA ob2) ((([]:List api_Def)++v1.vDefs)++([(⟨2,ByteArray.empty,(⟨0,false⟩:api_Int),1,0,[]⟩:api_Def)]:List api_Def)).length c3] 24 (0,0)),((some b6), .cells ([vI 2,vS ByteArray.empty,vI 0,vB false,vI 1,vI 0,vL none 0 0]).toArray 34 (0,0)),(some b4, .cells #[vS v7.1.vName,vI v7.1.vType,vI v7.1.vAt] 36 (0,0)),((some b3), .cells ([vS (⟨#[116,95,110,97,109,101]⟩:ByteArray)]).toArray 9 (0,0)),(some b2, .cells #[vS v4.1.vName,vI v4.1.vType,vI v4.1.vAt] 36 (0,0)),(some b1, .cells #[vL Av1_0_0 v1.vDefs.length cv1_0_0] 24 (0,0))] w20:=HS22
  replace hrv1_0_0:Rd k_api_Def h2 Av1_0_0 v1.vDefs:=hrv1_0_0.ext hs2
  replace ho4:=ho4.view hs2
  replace ho1:=ho1.view hs2
  obtain ⟨v8,H8,H⟩:=of_bind H
  refine run_ex rfl rfl (does_call Tryd.call28 rfl (gives_in (h:=h2) (R:=(fun hx u=>∃(Av8_0_0:Option Addr) (cv8_0_0:Nat),∃(Av8_1_0:Option Addr) (cv8_1_0:Nat),u=Value.tuple #[Value.agg #[vL Av8_0_0 v8.1.vDefs.length cv8_0_0],vL Av8_1_0 v8.2.1.length cv8_1_0,vI v8.2.2]∧v8.1.vDefs.length≤cv8_0_0∧Rd k_api_Def hx Av8_0_0 v8.1.vDefs∧v8.2.1.length≤cv8_1_0∧Rd (Kd.int .i64) hx Av8_1_0 v8.2.1)) (Ext.rfl' w20) ((ctf_Unique.calls k (⟨((([]:List api_Def)++v1.vDefs)++([(⟨2,ByteArray.empty,(⟨0,false⟩:api_Int),1,0,[]⟩:api_Def)]:List api_Def))⟩:api_Types) (rowA ob2) c3 HS23.sees (ht.s HS23) rdp1 ho6.cap H8).mono ?_)) rfl) ?_
  ·rintro _ _ ⟨h1,Av8_0_0,cv8_0_0,Av8_1_0,cv8_1_0,rfl,hcv8_0_0,hrv8_0_0,hcv8_1_0,hrv8_1_0,g,ss,x⟩
   exact ⟨h1,_,rfl,⟨Av8_0_0,cv8_0_0,Av8_1_0,cv8_1_0,rfl,hcv8_0_0,hrv8_0_0,hcv8_1_0,hrv8_1_0⟩,g,ss,x⟩
  rintro w21 _ hE12 ⟨h3,⟨Av8_0_0,cv8_0_0,Av8_1_0,cv8_1_0,rfl,hcv8_0_0,hrv8_0_0,hcv8_1_0,hrv8_1_0⟩,gr2,se3⟩
  have HS24:=HS23.view hE12 gr2 se3
  replace hrv1_0_0:Rd k_api_Def h3 Av1_0_0 v1.vDefs:=hrv1_0_0.ext gr2.1
  replace rdp1:Rd k_api_Def h3 (rowA ob2) ((([]:List api_Def)++v1.vDefs)++([(⟨2,ByteArray.empty,(⟨0,false⟩:api_Int),1,0,[]⟩:api_Def)]:List api_Def)):=rdp1.ext gr2.1
  replace ho4:=ho4.view gr2.1
  replace ho1:=ho1.view gr2.1
  refine rs (Value.tuple #[Value.agg #[vL Av8_0_0 v8.1.vDefs.length cv8_0_0],vL Av8_1_0 v8.2.1.length cv8_1_0,vI v8.2.2]) (r_move rfl) ?_
  refine rs (Value.agg #[vL Av8_0_0 v8.1.vDefs.length cv8_0_0]) (r_extract rfl rfl) ?_
  refine run_frame (by simp only [sc0,sc1];rfl) ?_
  refine rs (vL Av8_1_0 v8.2.1.length cv8_1_0) (r_extract rfl rfl) ?_
  refine rs (vI v8.2.2) (r_extract rfl rfl) ?_
  refine run_ex rfl rfl (does_alloc (cs:=#[vL none 0 0]) Tryd.zeroValue24 rfl) ?_
  rintro w22 _ hE13 ⟨b8,rfl,ge5,hb5⟩
  have HS25:=HS24.new hE13 ge5 hb5
  refine run_st (i:=0) (cs:=[vL none 0 0]) (cs':=[vL Av8_0_0 v8.1.vDefs.length cv8_0_0]) (vs:=[vL Av8_0_0 v8.1.vDefs.length cv8_0_0]) (bs':=[(some b8, .cells #[vL Av8_0_0 v8.1.vDefs.length cv8_0_0] 24 (0,0)),(some b7, .cells #[vL (rowA ob2) ((([]:List api_Def)++v1.vDefs)++([(⟨2,ByteArray.empty,(⟨0,false⟩:api_Int),1,0,[]⟩:api_Def)]:List api_Def)).length c3] 24 (0,0)),((some b6), .cells ([vI 2,vS ByteArray.empty,vI 0,vB false,vI 1,vI 0,vL none 0 0]).toArray 34 (0,0)),(some b4, .cells #[vS v7.1.vName,vI v7.1.vType,vI v7.1.vAt] 36 (0,0)),((some b3), .cells ([vS (⟨#[116,95,110,97,109,101]⟩:ByteArray)]).toArray 9 (0,0)),(some b2, .cells #[vS v4.1.vName,vI v4.1.vType,vI v4.1.vAt] 36 (0,0)),(some b1, .cells #[vL Av1_0_0 v1.vDefs.length cv1_0_0] 24 (0,0))]) rfl rfl Tryd.sizeOf24 rfl rfl (by decide) rfl HS25 rfl (Nat.le_of_ble_eq_true rfl) rfl rfl ?_
  intro w23 HS26
  refine run_frame (by simp only [sc0,sc1];rfl) ?_
  refine rs (vL Av8_1_0 v8.2.1.length cv8_1_0) (r_assign rfl) ?_
  refine rs (vI v8.2.2) (r_assign rfl) ?_
  try simp only [sc0,sc1]
  refine run_nil ?_
  refine norm_then ?_
  refine wp_seq ?_
  refine region ?_
  refine rs (Value.agg #[vL none 0 0]) (r_build0 (cs:=[vL none 0 0]) Tryd.zeroValue24 Tryd.runUnderlying24 (pl:=#[(0,1)]) (fun w=>by simp [Tryd.sizeOf22]) rfl) ?_
  obtain ⟨v9,H9,H⟩:=of_bind H
  refine run_ex rfl rfl (does_call Tryd.call37 rfl (gives_in (h:=h3) (R:=(fun hx u=>∃(Av9_0_0:Option Addr) (cv9_0_0:Nat),u=Value.tuple #[vL Av9_0_0 v9.1.length cv9_0_0,vI v9.2]∧v9.1.length≤cv9_0_0∧Rd (Kd.int .u8) hx Av9_0_0 v9.1)) (Ext.rfl' w23) ((ctf_Encode.calls k (⟨[]⟩:api_Types) none 0 HS26.sees (Rd.nil _ _ _) (Nat.le_refl 0) H9).mono ?_)) rfl) ?_
  ·rintro _ _ ⟨h1,Av9_0_0,cv9_0_0,rfl,hcv9_0_0,hrv9_0_0,g,ss,x⟩
   exact ⟨h1,_,rfl,⟨Av9_0_0,cv9_0_0,rfl,hcv9_0_0,hrv9_0_0⟩,g,ss,x⟩
  rintro w24 _ hE14 ⟨h4,⟨Av9_0_0,cv9_0_0,rfl,hcv9_0_0,hrv9_0_0⟩,gr3,se4⟩
  have HS27:=HS26.view hE14 gr3 se4
  replace hrv1_0_0:Rd k_api_Def h4 Av1_0_0 v1.vDefs:=hrv1_0_0.ext gr3.1
  replace rdp1:Rd k_api_Def h4 (rowA ob2) ((([]:List api_Def)++v1.vDefs)++([(⟨2,ByteArray.empty,(⟨0,false⟩:api_Int),1,0,[]⟩:api_Def)]:List api_Def)):=rdp1.ext gr3.1
  replace hrv8_0_0:Rd k_api_Def h4 Av8_0_0 v8.1.vDefs:=hrv8_0_0.ext gr3.1
  replace hrv8_1_0:Rd (Kd.int .i64) h4 Av8_1_0 v8.2.1:=hrv8_1_0.ext gr3.1
  replace ho4:=ho4.view gr3.1
  replace ho1:=ho1.view gr3.1
  refine rs (Value.tuple #[vL Av9_0_0 v9.1.length cv9_0_0,vI v9.2]) (r_move rfl) ?_
  refine rs (vL Av9_0_0 v9.1.length cv9_0_0) (r_extract rfl rfl) ?_
  refine run_frame (by simp only [sc0,sc1];rfl) ?_
  refine rs (vI v9.2) (r_extract rfl rfl) ?_
  refine rs (vL Av9_0_0 v9.1.length cv9_0_0) (r_assign rfl) ?_
  refine rs (vI v9.2) (r_assign rfl) ?_
  try simp only [sc0,sc1]
  refine run_nil ?_
  refine norm_then ?_
  refine wp_seq ?_
  refine region ?_
  refine rs (vI v7.2) (r_move rfl) ?_
  refine rs (vB (v7.2==5)) (r_bin rfl rfl rfl) ?_
  refine rs (vB (v7.2==5)) (r_move rfl) ?_
  refine rgs (v7.2==5) true (vI v8.2.2) rfl rfl rfl rfl (fun hg=>(r_move rfl)) ?_
  refine run_frame (by simp only [sc0,sc1];rfl) ?_
  refine rgs (v7.2==5) true (vB (v8.2.2==0)) rfl rfl rfl rfl (fun hg=>(r_bin (gvt (vI v8.2.2) hg rfl) rfl rfl)) ?_
  refine rs (vB ((v7.2==5)&&(v8.2.2==0))) (r_pick_and rfl (fun hp=>(gvt (vB (v8.2.2==0)) (and_i rfl hp) rfl)) rfl) ?_
  refine rs (vB ((v7.2==5)&&(v8.2.2==0))) (r_move rfl) ?_
  refine rgs ((v7.2==5)&&(v8.2.2==0)) true (Value.agg #[vL Av8_0_0 v8.1.vDefs.length cv8_0_0]) rfl rfl rfl rfl (fun hg=>(r_loadBoxAgg (n:=1) (vs:=[vL Av8_0_0 v8.1.vDefs.length cv8_0_0]) rfl Tryd.isAgg24 (HS27.look 0 rfl) Tryd.sizeOf24 rfl rfl)) ?_
  refine run_frame (by simp only [sc0,sc1];rfl) ?_
  refine rgs ((v7.2==5)&&(v8.2.2==0)) true (Value.agg #[vL Av1_0_0 v1.vDefs.length cv1_0_0]) rfl rfl rfl rfl (fun hg=>(r_loadBoxAgg (n:=1) (vs:=[vL Av1_0_0 v1.vDefs.length cv1_0_0]) rfl Tryd.isAgg24 (HS27.look 6 rfl) Tryd.sizeOf24 rfl rfl)) ?_
  obtain ⟨v10,H10,H⟩:=of_bind H
  refine run_g (b:=((v7.2==5)&&(v8.2.2==0))) (c:=true) (v:=vB v10) rfl rfl rfl rfl (fun hg=>(does_call_eq Tryd.call30 rfl (map2 (gvt (Value.agg #[vL Av8_0_0 v8.1.vDefs.length cv8_0_0]) hg rfl) (gvt (Value.agg #[vL Av1_0_0 v1.vDefs.length cv1_0_0]) hg rfl)) (taplineref08_Same.calls k v8.1 v1 Av8_0_0 cv8_0_0 Av1_0_0 cv1_0_0 HS27.sees hrv8_0_0 hcv8_0_0 hrv1_0_0 hcv1_0_0 (of_pos H10 hg)))) ?_
  intro w25 hE15
  have HS28:=HS27.step hE15
  refine rs (vB (((v7.2==5)&&(v8.2.2==0))&&v10)) (r_pick_and rfl (fun hp=>(gvt (vB v10) (and_i rfl hp) rfl)) rfl) ?_
  refine rs (vB (((v7.2==5)&&(v8.2.2==0))&&v10)) (r_move rfl) ?_
  refine run_frame (by simp only [sc0,sc1];rfl) ?_
  refine rgs (((v7.2==5)&&(v8.2.2==0))&&v10) true (vL Av8_1_0 v8.2.1.length cv8_1_0) rfl rfl rfl rfl (fun hg=>(r_move rfl)) ?_
  refine run_gbs (b:=(((v7.2==5)&&(v8.2.2==0))&&v10)) (c:=true) (Kd.int .i64) (xs:=([0,1,2,3,4,2]:List Int)) (n:=6) (cs:=[vI 0,vI 1,vI 2,vI 3,vI 4,vI 2]) rfl rfl Tryd.runUnderlying62 Tryd.typeInfo3 Tryd.zeroValue3 rfl rfl (by decide) (by decide) (by decide) [vI 0,vI 1,vI 2,vI 3,vI 4,vI 2] (fun _=>parts_any.trans rfl) rfl rfl rfl rfl (elems_cons (qs:=[vI 0]) rfl (elems_cons (qs:=[vI 1]) rfl (elems_cons (qs:=[vI 2]) rfl (elems_cons (qs:=[vI 3]) rfl (elems_cons (qs:=[vI 4]) rfl (elems_cons (qs:=[vI 2]) rfl (elems_nil (cs:=[])))))))) HS28 ?_
  intro w26 h5 Ag1 HS29 hs3 hq1
  replace hrv1_0_0:Rd k_api_Def h5 Av1_0_0 v1.vDefs:=hrv1_0_0.ext (And.intro hs3 trivial).1
  replace rdp1:Rd k_api_Def h5 (rowA ob2) ((([]:List api_Def)++v1.vDefs)++([(⟨2,ByteArray.empty,(⟨0,false⟩:api_Int),1,0,[]⟩:api_Def)]:List api_Def)):=rdp1.ext (And.intro hs3 trivial).1
  replace hrv8_0_0:Rd k_api_Def h5 Av8_0_0 v8.1.vDefs:=hrv8_0_0.ext (And.intro hs3 trivial).1
  replace hrv8_1_0:Rd (Kd.int .i64) h5 Av8_1_0 v8.2.1:=hrv8_1_0.ext (And.intro hs3 trivial).1
  replace hrv9_0_0:Rd (Kd.int .u8) h5 Av9_0_0 v9.1:=hrv9_0_0.ext (And.intro hs3 trivial).1
  replace ho4:=ho4.view (And.intro hs3 trivial).1
  replace ho1:=ho1.view (And.intro hs3 trivial).1
  obtain ⟨v11,H11,H⟩:=of_bind H
  refine run_g (b:=(((v7.2==5)&&(v8.2.2==0))&&v10)) (c:=true) (v:=vB v11) rfl rfl rfl rfl (fun hg=>(does_call_eq Tryd.call35 rfl (map2 (gvt (vL Av8_1_0 v8.2.1.length cv8_1_0) hg rfl) (gvt (vL Ag1 ([0,1,2,3,4,2]:List Int).length 6) hg rfl)) (taplineref08_SameInts.calls k v8.2.1 ([0,1,2,3,4,2]:List Int) Av8_1_0 cv8_1_0 Ag1 6 HS29.sees hrv8_1_0 hcv8_1_0 ((hq1 hg)) ((Nat.le_refl _)) (of_pos H11 hg)))) ?_
  intro w27 hE16
  have HS30:=HS29.step hE16
  refine rs (vB ((((v7.2==5)&&(v8.2.2==0))&&v10)&&v11)) (r_pick_and rfl (fun hp=>(gvt (vB v11) (and_i rfl hp) rfl)) rfl) ?_
  refine run_frame (by simp only [sc0,sc1];rfl) ?_
  refine rs (vB ((((v7.2==5)&&(v8.2.2==0))&&v10)&&v11)) (r_move rfl) ?_
  refine rgs ((((v7.2==5)&&(v8.2.2==0))&&v10)&&v11) true (vI v9.2) rfl rfl rfl rfl (fun hg=>(r_move rfl)) ?_
  refine rgs ((((v7.2==5)&&(v8.2.2==0))&&v10)&&v11) true (vB (v9.2==0)) rfl rfl rfl rfl (fun hg=>(r_bin (gvt (vI v9.2) hg rfl) rfl rfl)) ?_
  refine rs (vB (((((v7.2==5)&&(v8.2.2==0))&&v10)&&v11)&&(v9.2==0))) (r_pick_and rfl (fun hp=>(gvt (vB (v9.2==0)) (and_i rfl hp) rfl)) rfl) ?_
  refine run_frame (by simp only [sc0,sc1];rfl) ?_
  refine rs (vB (((((v7.2==5)&&(v8.2.2==0))&&v10)&&v11)&&(v9.2==0))) (r_move rfl) ?_
  refine rgs (((((v7.2==5)&&(v8.2.2==0))&&v10)&&v11)&&(v9.2==0)) true (vL Av9_0_0 v9.1.length cv9_0_0) rfl rfl rfl rfl (fun hg=>(r_move rfl)) ?_
  refine rgs (((((v7.2==5)&&(v8.2.2==0))&&v10)&&v11)&&(v9.2==0)) true (vS (strOf v9.1)) rfl rfl rfl rfl (fun hg=>(r_b2s (gvt (vL Av9_0_0 v9.1.length cv9_0_0) hg rfl) Tryd.runUnderlying80 Tryd.runUnderlying9 Tryd.runUnderlying5 HS30.sees hrv9_0_0)) ?_
  refine rgs (((((v7.2==5)&&(v8.2.2==0))&&v10)&&v11)&&(v9.2==0)) true (vB (strEq (strOf v9.1) (⟨#[67,84,70,1,0]⟩:ByteArray))) rfl rfl rfl rfl (fun hg=>(r_streql (gvt (vS (strOf v9.1)) hg rfl) rfl)) ?_
  refine run_frame (by simp only [sc0,sc1];rfl) ?_
  refine rs (vB ((((((v7.2==5)&&(v8.2.2==0))&&v10)&&v11)&&(v9.2==0))&&(strEq (strOf v9.1) (⟨#[67,84,70,1,0]⟩:ByteArray)))) (r_pick_and rfl (fun hp=>(gvt (vB (strEq (strOf v9.1) (⟨#[67,84,70,1,0]⟩:ByteArray))) (and_i rfl hp) rfl)) rfl) ?_
  refine rs (vB ((((((v7.2==5)&&(v8.2.2==0))&&v10)&&v11)&&(v9.2==0))&&(strEq (strOf v9.1) (⟨#[67,84,70,1,0]⟩:ByteArray)))) (r_assign rfl) ?_
  try simp only [sc0,sc1]
  refine run_nil ?_
  refine norm_then ?_
  refine wp_ret ?_
  obtain rfl:=Option.some.inj H
  refine bodyPost_ret (results_1 rfl (one_tmp rfl)) rfl ?_
  exact ⟨rfl,HS30.toE⟩

end Go.Proofs.YtfjppgobidjndaaDoor
namespace Go.Proofs.YtfjppgobidjndaaDoor
open Go.RowKit Go.M
set_option maxRecDepth 100000 in
theorem sane_at (k:Nat):taplinelaw08_sane.f (k+60)=some true:=by kernel_rfl
theorem sane_ev:Ev (fun k=>taplinelaw08_sane.f k) true:=⟨60,fun k hk=>by
  obtain ⟨m,rfl⟩:∃m,k=m+60:=⟨k-60,by omega⟩
  exact sane_at m⟩
end Go.Proofs.YtfjppgobidjndaaDoor
namespace Go.Proofs.YtfjppgobidjndaaDoor
open Go.RowKit Go.M
structure taplinelaw08_Named where
  vI:Int
  vName:ByteArray
  vPath:List ByteArray
def z_taplinelaw08_Named:taplinelaw08_Named:=⟨0,ByteArray.empty,[]⟩
def k_taplinelaw08_Named:Kd taplinelaw08_Named:=Kd.iso (Kd.pair (Kd.int .i64) (Kd.pair Kd.str (Kd.slice Kd.str))) fun x=>(x.vI,(x.vName,x.vPath))
theorem one_taplinelaw08_Named:One k_taplinelaw08_Named:=one_iso (one_pair one_int (one_pair one_str one_slice))
theorem ld_taplinelaw08_Named {h:View} {A:Option Addr} {xs:List taplinelaw08_Named} {i:Int} (hr:Rd k_taplinelaw08_Named h A xs) (h0:0≤i) (h1:i<xs.length):
    ∃ad A2 c2,A=some ad∧VCells h (ad.add (i.toNat*3)) [.int .i64 (rd z_taplinelaw08_Named xs i).vI, .string (rd z_taplinelaw08_Named xs i).vName, .slice A2 (rd z_taplinelaw08_Named xs i).vPath.length c2]∧(rd z_taplinelaw08_Named xs i).vPath.length≤c2∧Rd Kd.str h A2 (rd z_taplinelaw08_Named xs i).vPath:=by
  obtain ⟨ad,cs,e,hK,hc⟩:=hr.get z_taplinelaw08_Named h0 h1
  obtain ⟨_,_,rfl,rfl,⟨_,_,rfl,rfl,⟨A2,c2,rfl,hl2,hr2⟩⟩⟩:=hK
  exact ⟨ad,A2,c2,e,hc,hl2,hr2⟩
end Go.Proofs.YtfjppgobidjndaaDoor
namespace Go.Proofs.YtfjppgobidjndaaDoor
open Go.RowKit Go.M
def taplineref08_Named.f (a0:api_Def):Option (Bool):=some ((a0.vKind !=2)&&(a0.vKind !=3))
set_option maxRecDepth 20000 in
set_option maxHeartbeats 4000000 in
theorem taplineref08_Named.calls (a0:api_Def) (A0_6:Option Addr) (c0_6:Nat) {h0:View} {w0:World} (hv:Sees h0 w0) (hr0_6:Rd k_api_Field h0 A0_6 a0.vFields) (hc0_6:a0.vFields.length≤c0_6) {r:Bool} (H:taplineref08_Named.f a0=some r):Calls Tryd.prog 49 #[Value.agg #[vI a0.vKind,vS a0.vName,vI a0.vInt.vSize,vB a0.vInt.vSigned,vI a0.vRef,vI a0.vN,vL A0_6 a0.vFields.length c0_6]] w0 (fun e w1=>e= .returned (vB r)∧Ext w0 w1):=by
 unfold taplineref08_Named.f at H
 have HS:St [] h0 w0 h0 [] w0:=St.init hv
 go_enter Tryd.func49,Tryd.ntmps49
 refine wp_seq ?_
 refine region ?_
 refine run_ex rfl rfl (does_box (cs:=#[vI a0.vKind,vS a0.vName,vI a0.vInt.vSize,vB a0.vInt.vSigned,vI a0.vRef,vI a0.vN,vL A0_6 a0.vFields.length c0_6]) rfl rfl) ?_
 rintro w1 _ hE1 ⟨b1,rfl,ge1,hb1⟩
 have HS1:=HS.new hE1 ge1 hb1
 refine rs (vB false) (r_assign rfl) ?_
 try simp only [sc0,sc1]
 refine run_nil ?_
 refine norm_then ?_
 refine wp_seq ?_
 refine region ?_
 refine rs (vP b1 0) (r_fieldBox (n:=1) (o':=0) rfl Tryd.runUnderlying34 rfl Tryd.sizeOf3 (by decide) rfl) ?_
 refine rs (vI a0.vKind) (r_loadBox rfl Tryd.isAgg3 (HS1.look 0 rfl) rfl) ?_
 refine rs (vB (a0.vKind !=2)) (r_bin rfl rfl rfl) ?_
 refine rs (vB (a0.vKind !=2)) (r_move rfl) ?_
 refine run_frame (by simp only [sc0,sc1];rfl) ?_
 refine rgs (a0.vKind !=2) true (vP b1 0) rfl rfl rfl rfl (fun hg=>(r_fieldBox (n:=1) (o':=0) rfl Tryd.runUnderlying34 rfl Tryd.sizeOf3 (by decide) rfl)) ?_
 refine rgs (a0.vKind !=2) true (vI a0.vKind) rfl rfl rfl rfl (fun hg=>(r_loadBox (gvt (vP b1 0) hg rfl) Tryd.isAgg3 (HS1.look 0 rfl) rfl)) ?_
 refine rgs (a0.vKind !=2) true (vB (a0.vKind !=3)) rfl rfl rfl rfl (fun hg=>(r_bin (gvt (vI a0.vKind) hg rfl) rfl rfl)) ?_
 refine rs (vB ((a0.vKind !=2)&&(a0.vKind !=3))) (r_pick_and rfl (fun hp=>(gvt (vB (a0.vKind !=3)) (and_i rfl hp) rfl)) rfl) ?_
 refine run_frame (by simp only [sc0,sc1];rfl) ?_
 refine rs (vB ((a0.vKind !=2)&&(a0.vKind !=3))) (r_assign rfl) ?_
 try simp only [sc0,sc1]
 refine run_nil ?_
 refine norm_then ?_
 refine wp_ret ?_
 obtain rfl:=Option.some.inj H
 refine bodyPost_ret (results_1 rfl (one_tmp rfl)) rfl ?_
 exact ⟨rfl,HS1.toE⟩

end Go.Proofs.YtfjppgobidjndaaDoor
namespace Go.Proofs.YtfjppgobidjndaaDoor
open Go.RowKit Go.M
def taplineref08_unused.f (a0:api_Def):Option (Bool):=(taplineref08_Named.f a0).bind fun v1=>(if (v1 !=(!(strEq a0.vName ByteArray.empty)))=true then (some false) else (if ((a0.vKind !=1)&&((a0.vInt.vSize !=0)||a0.vInt.vSigned))=true then (some false) else (if ((((a0.vKind !=2)&&(a0.vKind !=3))&&(a0.vKind !=6))&&(a0.vRef !=0))=true then (some false) else (if (((a0.vKind !=3)&&(a0.vKind !=4))&&(a0.vN !=0))=true then (some false) else (some (((a0.vKind==4)||(a0.vKind==5))||((a0.vFields.length:Int)==0)))))))
set_option maxRecDepth 20000 in
set_option maxHeartbeats 4000000 in
theorem taplineref08_unused.calls (a0:api_Def) (A0_6:Option Addr) (c0_6:Nat) {h0:View} {w0:World} (hv:Sees h0 w0) (hr0_6:Rd k_api_Field h0 A0_6 a0.vFields) (hc0_6:a0.vFields.length≤c0_6) {r:Bool} (H:taplineref08_unused.f a0=some r):Calls Tryd.prog 94 #[Value.agg #[vI a0.vKind,vS a0.vName,vI a0.vInt.vSize,vB a0.vInt.vSigned,vI a0.vRef,vI a0.vN,vL A0_6 a0.vFields.length c0_6]] w0 (fun e w1=>e= .returned (vB r)∧Ext w0 w1):=by
 unfold taplineref08_unused.f at H
 have HS:St [] h0 w0 h0 [] w0:=St.init hv
 go_enter Tryd.func94,Tryd.ntmps94
 refine wp_seq ?_
 refine region ?_
 refine run_ex rfl rfl (does_box (cs:=#[vI a0.vKind,vS a0.vName,vI a0.vInt.vSize,vB a0.vInt.vSigned,vI a0.vRef,vI a0.vN,vL A0_6 a0.vFields.length c0_6]) rfl rfl) ?_
 rintro w1 _ hE1 ⟨b1,rfl,ge1,hb1⟩
 have HS1:=HS.new hE1 ge1 hb1
 refine rs (vB false) (r_assign rfl) ?_
 try simp only [sc0,sc1]
 refine run_nil ?_
 refine norm_then ?_
 refine wp_seq ?_
 refine wp_seq ?_
 obtain ⟨v1,H1,H⟩:=of_bind H
 refine drawn [.eq (Value.agg #[vI a0.vKind,vS a0.vName,vI a0.vInt.vSize,vB a0.vInt.vSigned,vI a0.vRef,vI a0.vN,vL A0_6 a0.vFields.length c0_6]), .eq (vB v1), .eq (vP b1 1), .eq (vS a0.vName), .eq (vB (!(strEq a0.vName ByteArray.empty))), .eq (vB (v1 !=(!(strEq a0.vName ByteArray.empty))))] [3,4,5,6,7,8] hmix (by kernel_rfl) rfl (stable_eq (stable_eq (stable_eq (stable_eq (stable_eq (stable_eq stable_nil)))))) ⟨ob_plain rfl (fun a' w' hE hk=>by have HSd:=HS1.step hE;exact does_eq (r_loadBoxAgg (n:=7) (vs:=[vI a0.vKind,vS a0.vName,vI a0.vInt.vSize,vB a0.vInt.vSigned,vI a0.vRef,vI a0.vN,vL A0_6 a0.vFields.length c0_6]) (show _=vP b1 0 from hk 1 rfl) Tryd.isAgg34 (HSd.look 0 rfl) Tryd.sizeOf34 rfl rfl)),ob_plain rfl (fun a' w' hE hk=>by have HSd:=HS1.step hE;exact (does_call_eq Tryd.call49 rfl (map1 (show _=Value.agg #[vI a0.vKind,vS a0.vName,vI a0.vInt.vSize,vB a0.vInt.vSigned,vI a0.vRef,vI a0.vN,vL A0_6 a0.vFields.length c0_6] from hk 3 rfl)) (taplineref08_Named.calls a0 A0_6 c0_6 HSd.sees hr0_6 hc0_6 H1))),ob_plain rfl (fun a' w' hE hk=>by have HSd:=HS1.step hE;exact does_eq (r_fieldBox (n:=1) (o':=1) (show _=vP b1 0 from hk 1 rfl) Tryd.runUnderlying34 rfl Tryd.sizeOf9 (by decide) rfl)),ob_plain rfl (fun a' w' hE hk=>by have HSd:=HS1.step hE;exact does_eq (r_loadBox (show _=vP b1 1 from hk 5 rfl) Tryd.isAgg9 (HSd.look 0 rfl) rfl)),ob_plain rfl (fun a' w' hE hk=>by have HSd:=HS1.step hE;exact does_eq (r_strneq (show _=vS a0.vName from hk 6 rfl) rfl)),ob_plain rfl (fun a' w' hE hk=>by have HSd:=HS1.step hE;exact does_eq (r_boolneq (show _=vB v1 from hk 4 rfl) (show _=vB (!(strEq a0.vName ByteArray.empty)) from hk 7 rfl) Tryd.runUnderlying4)),trivial⟩ ?_
 intro w2 hE2
 simp only [List.zip_cons_cons,List.zip_nil_left,List.zip_nil_right,finL,sc0,sc1,List.length_cons,List.length_nil,List.drop_succ_cons,List.drop_zero,Nat.zero_add,Nat.reduceAdd]
 have HS2:=HS1.step hE2
 refine run_nil ?_
 refine norm_then ?_
 refine wp_cond_split (t:=(v1 !=(!(strEq a0.vName ByteArray.empty)))) rfl (fun c1=>?_) (fun c1=>?_)
 ·replace H:=of_pos H c1
  refine wp_seq ?_
  refine region ?_
  refine rs (vB false) (r_assign rfl) ?_
  try simp only [sc0,sc1]
  refine run_nil ?_
  refine norm_then ?_
  refine wp_ret ?_
  refine ret_then ?_
  obtain rfl:=Option.some.inj H
  refine bodyPost_ret (results_1 rfl (one_tmp rfl)) rfl ?_
  exact ⟨rfl,HS2.toE⟩
 ·replace H:=of_neg H (nt c1)
  refine wp_skip ?_
  refine norm_then ?_
  refine wp_seq ?_
  refine wp_seq ?_
  refine region ?_
  refine rs (vP b1 0) (r_fieldBox (n:=1) (o':=0) rfl Tryd.runUnderlying34 rfl Tryd.sizeOf3 (by decide) rfl) ?_
  refine rs (vI a0.vKind) (r_loadBox rfl Tryd.isAgg3 (HS2.look 0 rfl) rfl) ?_
  refine rs (vB (a0.vKind !=1)) (r_bin rfl rfl rfl) ?_
  refine rs (vB (a0.vKind !=1)) (r_move rfl) ?_
  refine run_frame (by simp only [sc0,sc1];rfl) ?_
  refine rgs (a0.vKind !=1) true (vP b1 2) rfl rfl rfl rfl (fun hg=>(r_fieldBox (n:=2) (o':=2) rfl Tryd.runUnderlying34 rfl Tryd.sizeOf31 (by decide) rfl)) ?_
  refine rgs (a0.vKind !=1) true (vP b1 2) rfl rfl rfl rfl (fun hg=>(r_fieldBox (n:=1) (o':=2) (gvt (vP b1 2) hg rfl) Tryd.runUnderlying31 rfl Tryd.sizeOf3 (by decide) rfl)) ?_
  refine rgs (a0.vKind !=1) true (vI a0.vInt.vSize) rfl rfl rfl rfl (fun hg=>(r_loadBox (gvt (vP b1 2) hg rfl) Tryd.isAgg3 (HS2.look 0 rfl) rfl)) ?_
  refine rgs (a0.vKind !=1) true (vB (a0.vInt.vSize !=0)) rfl rfl rfl rfl (fun hg=>(r_bin (gvt (vI a0.vInt.vSize) hg rfl) rfl rfl)) ?_
  refine run_frame (by simp only [sc0,sc1];rfl) ?_
  refine rgs (a0.vKind !=1) true (vB (a0.vInt.vSize !=0)) rfl rfl rfl rfl (fun hg=>(r_move (gvt (vB (a0.vInt.vSize !=0)) hg rfl))) ?_
  refine rgs (a0.vInt.vSize !=0) (true&&((a0.vKind !=1)==true)) (vP b1 2) rfl rfl rfl rfl (fun hg=>(r_fieldBox (n:=2) (o':=2) rfl Tryd.runUnderlying34 rfl Tryd.sizeOf31 (by decide) rfl)) ?_
  refine rgs (a0.vInt.vSize !=0) (true&&((a0.vKind !=1)==true)) (vP b1 3) rfl rfl rfl rfl (fun hg=>(r_fieldBox (n:=1) (o':=3) (gvt (vP b1 2) hg rfl) Tryd.runUnderlying31 rfl Tryd.sizeOf4 (by decide) rfl)) ?_
  refine rgs (a0.vInt.vSize !=0) (true&&((a0.vKind !=1)==true)) (vB a0.vInt.vSigned) rfl rfl rfl rfl (fun hg=>(r_loadBox (gvt (vP b1 3) hg rfl) Tryd.isAgg4 (HS2.look 0 rfl) rfl)) ?_
  refine run_frame (by simp only [sc0,sc1];rfl) ?_
  refine rgs (a0.vKind !=1) true (vB ((a0.vInt.vSize !=0)||a0.vInt.vSigned)) rfl rfl rfl rfl (fun hg=>(r_pick_or (gvt (vB (a0.vInt.vSize !=0)) hg rfl) rfl (fun hp=>(gvt (vB a0.vInt.vSigned) (and_i hg hp) rfl)))) ?_
  refine rs (vB ((a0.vKind !=1)&&((a0.vInt.vSize !=0)||a0.vInt.vSigned))) (r_pick_and rfl (fun hp=>(gvt (vB ((a0.vInt.vSize !=0)||a0.vInt.vSigned)) (and_i rfl hp) rfl)) rfl) ?_
  try simp only [sc0,sc1]
  refine run_nil ?_
  refine norm_then ?_
  refine wp_cond_split (t:=((a0.vKind !=1)&&((a0.vInt.vSize !=0)||a0.vInt.vSigned))) rfl (fun c2=>?_) (fun c2=>?_)
  ·replace H:=of_pos H c2
   refine wp_seq ?_
   refine region ?_
   refine rs (vB false) (r_assign rfl) ?_
   try simp only [sc0,sc1]
   refine run_nil ?_
   refine norm_then ?_
   refine wp_ret ?_
   refine ret_then ?_
   obtain rfl:=Option.some.inj H
   refine bodyPost_ret (results_1 rfl (one_tmp rfl)) rfl ?_
   exact ⟨rfl,HS2.toE⟩
  ·replace H:=of_neg H (nt c2)
   refine wp_skip ?_
   refine norm_then ?_
   refine wp_seq ?_
   refine wp_seq ?_
   refine region ?_
   refine rs (vP b1 0) (r_fieldBox (n:=1) (o':=0) rfl Tryd.runUnderlying34 rfl Tryd.sizeOf3 (by decide) rfl) ?_
   refine rs (vI a0.vKind) (r_loadBox rfl Tryd.isAgg3 (HS2.look 0 rfl) rfl) ?_
   refine rs (vB (a0.vKind !=2)) (r_bin rfl rfl rfl) ?_
   refine rs (vB (a0.vKind !=2)) (r_move rfl) ?_
   refine run_frame (by simp only [sc0,sc1];rfl) ?_
   refine rgs (a0.vKind !=2) true (vP b1 0) rfl rfl rfl rfl (fun hg=>(r_fieldBox (n:=1) (o':=0) rfl Tryd.runUnderlying34 rfl Tryd.sizeOf3 (by decide) rfl)) ?_
   refine rgs (a0.vKind !=2) true (vI a0.vKind) rfl rfl rfl rfl (fun hg=>(r_loadBox (gvt (vP b1 0) hg rfl) Tryd.isAgg3 (HS2.look 0 rfl) rfl)) ?_
   refine rgs (a0.vKind !=2) true (vB (a0.vKind !=3)) rfl rfl rfl rfl (fun hg=>(r_bin (gvt (vI a0.vKind) hg rfl) rfl rfl)) ?_
   refine rs (vB ((a0.vKind !=2)&&(a0.vKind !=3))) (r_pick_and rfl (fun hp=>(gvt (vB (a0.vKind !=3)) (and_i rfl hp) rfl)) rfl) ?_
   refine run_frame (by simp only [sc0,sc1];rfl) ?_
   refine rs (vB ((a0.vKind !=2)&&(a0.vKind !=3))) (r_move rfl) ?_
   refine rgs ((a0.vKind !=2)&&(a0.vKind !=3)) true (vP b1 0) rfl rfl rfl rfl (fun hg=>(r_fieldBox (n:=1) (o':=0) rfl Tryd.runUnderlying34 rfl Tryd.sizeOf3 (by decide) rfl)) ?_
   refine rgs ((a0.vKind !=2)&&(a0.vKind !=3)) true (vI a0.vKind) rfl rfl rfl rfl (fun hg=>(r_loadBox (gvt (vP b1 0) hg rfl) Tryd.isAgg3 (HS2.look 0 rfl) rfl)) ?_
   refine rgs ((a0.vKind !=2)&&(a0.vKind !=3)) true (vB (a0.vKind !=6)) rfl rfl rfl rfl (fun hg=>(r_bin (gvt (vI a0.vKind) hg rfl) rfl rfl)) ?_
   refine run_frame (by simp only [sc0,sc1];rfl) ?_
   refine rs (vB (((a0.vKind !=2)&&(a0.vKind !=3))&&(a0.vKind !=6))) (r_pick_and rfl (fun hp=>(gvt (vB (a0.vKind !=6)) (and_i rfl hp) rfl)) rfl) ?_
   refine rs (vB (((a0.vKind !=2)&&(a0.vKind !=3))&&(a0.vKind !=6))) (r_move rfl) ?_
   refine rgs (((a0.vKind !=2)&&(a0.vKind !=3))&&(a0.vKind !=6)) true (vP b1 4) rfl rfl rfl rfl (fun hg=>(r_fieldBox (n:=1) (o':=4) rfl Tryd.runUnderlying34 rfl Tryd.sizeOf3 (by decide) rfl)) ?_
   refine rgs (((a0.vKind !=2)&&(a0.vKind !=3))&&(a0.vKind !=6)) true (vI a0.vRef) rfl rfl rfl rfl (fun hg=>(r_loadBox (gvt (vP b1 4) hg rfl) Tryd.isAgg3 (HS2.look 0 rfl) rfl)) ?_
   refine run_frame (by simp only [sc0,sc1];rfl) ?_
   refine rgs (((a0.vKind !=2)&&(a0.vKind !=3))&&(a0.vKind !=6)) true (vB (a0.vRef !=0)) rfl rfl rfl rfl (fun hg=>(r_bin (gvt (vI a0.vRef) hg rfl) rfl rfl)) ?_
   refine rs (vB ((((a0.vKind !=2)&&(a0.vKind !=3))&&(a0.vKind !=6))&&(a0.vRef !=0))) (r_pick_and rfl (fun hp=>(gvt (vB (a0.vRef !=0)) (and_i rfl hp) rfl)) rfl) ?_
   try simp only [sc0,sc1]
   refine run_nil ?_
   refine norm_then ?_
   refine wp_cond_split (t:=((((a0.vKind !=2)&&(a0.vKind !=3))&&(a0.vKind !=6))&&(a0.vRef !=0))) rfl (fun c3=>?_) (fun c3=>?_)
   ·replace H:=of_pos H c3
    refine wp_seq ?_
    refine region ?_
    refine rs (vB false) (r_assign rfl) ?_
    try simp only [sc0,sc1]
    refine run_nil ?_
    refine norm_then ?_
    refine wp_ret ?_
    refine ret_then ?_
    obtain rfl:=Option.some.inj H
    refine bodyPost_ret (results_1 rfl (one_tmp rfl)) rfl ?_
    exact ⟨rfl,HS2.toE⟩
   ·replace H:=of_neg H (nt c3)
    refine wp_skip ?_
    refine norm_then ?_
    refine wp_seq ?_
    refine wp_seq ?_
    refine region ?_
    refine rs (vP b1 0) (r_fieldBox (n:=1) (o':=0) rfl Tryd.runUnderlying34 rfl Tryd.sizeOf3 (by decide) rfl) ?_
    refine rs (vI a0.vKind) (r_loadBox rfl Tryd.isAgg3 (HS2.look 0 rfl) rfl) ?_
    refine rs (vB (a0.vKind !=3)) (r_bin rfl rfl rfl) ?_
    refine rs (vB (a0.vKind !=3)) (r_move rfl) ?_
    refine run_frame (by simp only [sc0,sc1];rfl) ?_
    refine rgs (a0.vKind !=3) true (vP b1 0) rfl rfl rfl rfl (fun hg=>(r_fieldBox (n:=1) (o':=0) rfl Tryd.runUnderlying34 rfl Tryd.sizeOf3 (by decide) rfl)) ?_
    refine rgs (a0.vKind !=3) true (vI a0.vKind) rfl rfl rfl rfl (fun hg=>(r_loadBox (gvt (vP b1 0) hg rfl) Tryd.isAgg3 (HS2.look 0 rfl) rfl)) ?_
    refine rgs (a0.vKind !=3) true (vB (a0.vKind !=4)) rfl rfl rfl rfl (fun hg=>(r_bin (gvt (vI a0.vKind) hg rfl) rfl rfl)) ?_
    refine rs (vB ((a0.vKind !=3)&&(a0.vKind !=4))) (r_pick_and rfl (fun hp=>(gvt (vB (a0.vKind !=4)) (and_i rfl hp) rfl)) rfl) ?_
    refine run_frame (by simp only [sc0,sc1];rfl) ?_
    refine rs (vB ((a0.vKind !=3)&&(a0.vKind !=4))) (r_move rfl) ?_
    refine rgs ((a0.vKind !=3)&&(a0.vKind !=4)) true (vP b1 5) rfl rfl rfl rfl (fun hg=>(r_fieldBox (n:=1) (o':=5) rfl Tryd.runUnderlying34 rfl Tryd.sizeOf3 (by decide) rfl)) ?_
    refine rgs ((a0.vKind !=3)&&(a0.vKind !=4)) true (vI a0.vN) rfl rfl rfl rfl (fun hg=>(r_loadBox (gvt (vP b1 5) hg rfl) Tryd.isAgg3 (HS2.look 0 rfl) rfl)) ?_
    refine rgs ((a0.vKind !=3)&&(a0.vKind !=4)) true (vB (a0.vN !=0)) rfl rfl rfl rfl (fun hg=>(r_bin (gvt (vI a0.vN) hg rfl) rfl rfl)) ?_
    refine run_frame (by simp only [sc0,sc1];rfl) ?_
    refine rs (vB (((a0.vKind !=3)&&(a0.vKind !=4))&&(a0.vN !=0))) (r_pick_and rfl (fun hp=>(gvt (vB (a0.vN !=0)) (and_i rfl hp) rfl)) rfl) ?_
    try simp only [sc0,sc1]
    refine run_nil ?_
    refine norm_then ?_
    refine wp_cond_split (t:=(((a0.vKind !=3)&&(a0.vKind !=4))&&(a0.vN !=0))) rfl (fun c4=>?_) (fun c4=>?_)
    ·replace H:=of_pos H c4
     refine wp_seq ?_
     refine region ?_
     refine rs (vB false) (r_assign rfl) ?_
     try simp only [sc0,sc1]
     refine run_nil ?_
     refine norm_then ?_
     refine wp_ret ?_
     refine ret_then ?_
     obtain rfl:=Option.some.inj H
     refine bodyPost_ret (results_1 rfl (one_tmp rfl)) rfl ?_
     exact ⟨rfl,HS2.toE⟩
    ·replace H:=of_neg H (nt c4)
     refine wp_skip ?_
     refine norm_then ?_
     refine wp_seq ?_
     refine region ?_
     refine rs (vP b1 0) (r_fieldBox (n:=1) (o':=0) rfl Tryd.runUnderlying34 rfl Tryd.sizeOf3 (by decide) rfl) ?_
     refine rs (vI a0.vKind) (r_loadBox rfl Tryd.isAgg3 (HS2.look 0 rfl) rfl) ?_
     refine rs (vB (a0.vKind==4)) (r_bin rfl rfl rfl) ?_
     refine rs (vB (a0.vKind==4)) (r_move rfl) ?_
     refine run_frame (by simp only [sc0,sc1];rfl) ?_
     refine rgs (a0.vKind==4) true (vP b1 0) rfl rfl rfl rfl (fun hg=>(r_fieldBox (n:=1) (o':=0) rfl Tryd.runUnderlying34 rfl Tryd.sizeOf3 (by decide) rfl)) ?_
     refine rgs (a0.vKind==4) true (vI a0.vKind) rfl rfl rfl rfl (fun hg=>(r_loadBox (gvt (vP b1 0) hg rfl) Tryd.isAgg3 (HS2.look 0 rfl) rfl)) ?_
     refine rgs (a0.vKind==4) true (vB (a0.vKind==5)) rfl rfl rfl rfl (fun hg=>(r_bin (gvt (vI a0.vKind) hg rfl) rfl rfl)) ?_
     refine rs (vB ((a0.vKind==4)||(a0.vKind==5))) (r_pick_or rfl rfl (fun hp=>(gvt (vB (a0.vKind==5)) (and_i rfl hp) rfl))) ?_
     refine run_frame (by simp only [sc0,sc1];rfl) ?_
     refine rs (vB ((a0.vKind==4)||(a0.vKind==5))) (r_move rfl) ?_
     refine rgs ((a0.vKind==4)||(a0.vKind==5)) true (vP b1 6) rfl rfl rfl rfl (fun hg=>(r_fieldBox (n:=1) (o':=6) rfl Tryd.runUnderlying34 rfl Tryd.sizeOf32 (by decide) rfl)) ?_
     refine rgs ((a0.vKind==4)||(a0.vKind==5)) true (vL A0_6 a0.vFields.length c0_6) rfl rfl rfl rfl (fun hg=>(r_loadBox (gvt (vP b1 6) hg rfl) Tryd.isAgg32 (HS2.look 0 rfl) rfl)) ?_
     refine rgs ((a0.vKind==4)||(a0.vKind==5)) true (vI (a0.vFields.length:Int)) rfl rfl rfl rfl (fun hg=>(r_len (gvt (vL A0_6 a0.vFields.length c0_6) hg rfl) Tryd.runUnderlying32)) ?_
     refine run_frame (by simp only [sc0,sc1];rfl) ?_
     refine rgs ((a0.vKind==4)||(a0.vKind==5)) true (vB ((a0.vFields.length:Int)==0)) rfl rfl rfl rfl (fun hg=>(r_bin (gvt (vI (a0.vFields.length:Int)) hg rfl) rfl rfl)) ?_
     refine rs (vB (((a0.vKind==4)||(a0.vKind==5))||((a0.vFields.length:Int)==0))) (r_pick_or rfl rfl (fun hp=>(gvt (vB ((a0.vFields.length:Int)==0)) (and_i rfl hp) rfl))) ?_
     refine rs (vB (((a0.vKind==4)||(a0.vKind==5))||((a0.vFields.length:Int)==0))) (r_assign rfl) ?_
     try simp only [sc0,sc1]
     refine run_nil ?_
     refine norm_then ?_
     refine wp_ret ?_
     obtain rfl:=Option.some.inj H
     refine bodyPost_ret (results_1 rfl (one_tmp rfl)) rfl ?_
     exact ⟨rfl,HS2.toE⟩

end Go.Proofs.YtfjppgobidjndaaDoor
namespace Go.Proofs.YtfjppgobidjndaaDoor
open Go.RowKit Go.M
def taplineref08_Name.l0 (a0:ByteArray):Nat→Int→Option ((Bool)⊕(Unit))
 |0,_=>none
 |m+1,y1_0=>if (decide (y1_0<(a0.size:Int)))=true then (if 0≤y1_0∧y1_0<(a0.size:Int) then (if ((!((((decide ((byteAt a0 y1_0)≥97))&&(decide ((byteAt a0 y1_0)≤122)))||((decide ((byteAt a0 y1_0)≥65))&&(decide ((byteAt a0 y1_0)≤90))))||((byteAt a0 y1_0)==95)))&&(((y1_0==0)||(decide ((byteAt a0 y1_0)<48)))||(decide ((byteAt a0 y1_0)>57))))=true then (some (.inl false)) else (taplineref08_Name.l0 a0 m (IntKind.wrap .i64 (y1_0+1)))) else none) else (some (.inr ()))
def taplineref08_Name.f (k:Nat) (a0:ByteArray):Option (Bool):=if (((a0.size:Int)==0)||(decide ((a0.size:Int)>31)))=true then (some false) else ((taplineref08_Name.l0 a0 k 0).bind fun xx1=>(match xx1 with| .inl r=>some r| .inr s1=>some true))
set_option maxRecDepth 20000 in
set_option maxHeartbeats 4000000 in
theorem taplineref08_Name.calls (k:Nat) (a0:ByteArray) {h0:View} {w0:World} (hv:Sees h0 w0) {r:Bool} (H:taplineref08_Name.f k a0=some r):Calls Tryd.prog 95 #[vS a0] w0 (fun e w1=>e= .returned (vB r)∧Ext w0 w1):=by
 unfold taplineref08_Name.f at H
 have HS:St [] h0 w0 h0 [] w0:=St.init hv
 go_enter Tryd.func95,Tryd.ntmps95
 refine wp_seq ?_
 refine region ?_
 refine rs (vB false) (r_assign rfl) ?_
 try simp only [sc0,sc1]
 refine run_nil ?_
 refine norm_then ?_
 refine wp_seq ?_
 refine wp_seq ?_
 refine region ?_
 refine rs (vS a0) (r_move rfl) ?_
 refine rs (vI (a0.size:Int)) (r_lenStr rfl Tryd.runUnderlying9) ?_
 refine rs (vB ((a0.size:Int)==0)) (r_bin rfl rfl rfl) ?_
 refine rs (vB ((a0.size:Int)==0)) (r_move rfl) ?_
 refine run_frame (by simp only [sc0,sc1];rfl) ?_
 refine rgs ((a0.size:Int)==0) true (vS a0) rfl rfl rfl rfl (fun hg=>(r_move rfl)) ?_
 refine rgs ((a0.size:Int)==0) true (vI (a0.size:Int)) rfl rfl rfl rfl (fun hg=>(r_lenStr (gvt (vS a0) hg rfl) Tryd.runUnderlying9)) ?_
 refine rgs ((a0.size:Int)==0) true (vB (decide ((a0.size:Int)>31))) rfl rfl rfl rfl (fun hg=>(r_bin (gvt (vI (a0.size:Int)) hg rfl) rfl rfl)) ?_
 refine rs (vB (((a0.size:Int)==0)||(decide ((a0.size:Int)>31)))) (r_pick_or rfl rfl (fun hp=>(gvt (vB (decide ((a0.size:Int)>31))) (and_i rfl hp) rfl))) ?_
 try simp only [sc0,sc1]
 refine run_nil ?_
 refine norm_then ?_
 refine wp_cond_split (t:=(((a0.size:Int)==0)||(decide ((a0.size:Int)>31)))) rfl (fun c1=>?_) (fun c1=>?_)
 ·replace H:=of_pos H c1
  refine wp_seq ?_
  refine region ?_
  refine rs (vB false) (r_assign rfl) ?_
  try simp only [sc0,sc1]
  refine run_nil ?_
  refine norm_then ?_
  refine wp_ret ?_
  refine ret_then ?_
  obtain rfl:=Option.some.inj H
  refine bodyPost_ret (results_1 rfl (one_tmp rfl)) rfl ?_
  exact ⟨rfl,HS.toE⟩
 ·replace H:=of_neg H (nt c1)
  refine wp_skip ?_
  refine norm_then ?_
  refine wp_seq ?_
  refine wp_seq ?_
  refine region ?_
  refine rs (vI 0) (r_assign rfl) ?_
  try simp only [sc0,sc1]
  refine run_nil ?_
  refine norm_then ?_
  obtain ⟨xx1,H,G1⟩:=of_bind H
  refine loop_patch [2,3,4,5,14,15,16,17,18,19,20,21,22,23,24,25,26,27,28,29,30,31,32,33,34,35,36,37,38,39,40,41,42,43,44,45,46,47,48,49,50,51,52,53,54] (fun m us w'=>∃y1_0:Int,∃uy1_2 uy1_4 uy1_5 uy1_14 uy1_15 uy1_16 uy1_17 uy1_18 uy1_19 uy1_20 uy1_21 uy1_22 uy1_23 uy1_24 uy1_25 uy1_26 uy1_27 uy1_28 uy1_29 uy1_30 uy1_31 uy1_32 uy1_33 uy1_34 uy1_35 uy1_36 uy1_37 uy1_38 uy1_39 uy1_40 uy1_41 uy1_42 uy1_43 uy1_44 uy1_45 uy1_46 uy1_47 uy1_48 uy1_49 uy1_50 uy1_51 uy1_52 uy1_53 uy1_54:Value,us=[uy1_2,vI y1_0,uy1_4,uy1_5,uy1_14,uy1_15,uy1_16,uy1_17,uy1_18,uy1_19,uy1_20,uy1_21,uy1_22,uy1_23,uy1_24,uy1_25,uy1_26,uy1_27,uy1_28,uy1_29,uy1_30,uy1_31,uy1_32,uy1_33,uy1_34,uy1_35,uy1_36,uy1_37,uy1_38,uy1_39,uy1_40,uy1_41,uy1_42,uy1_43,uy1_44,uy1_45,uy1_46,uy1_47,uy1_48,uy1_49,uy1_50,uy1_51,uy1_52,uy1_53,uy1_54]∧taplineref08_Name.l0 a0 m y1_0=some xx1∧St [] h0 w0 h0 [] w') (fun us w'=>∃(s1:Unit),xx1= .inr s1∧∃uo1_2 uo1_3 uo1_4 uo1_5 uo1_14 uo1_15 uo1_16 uo1_17 uo1_18 uo1_19 uo1_20 uo1_21 uo1_22 uo1_23 uo1_24 uo1_25 uo1_26 uo1_27 uo1_28 uo1_29 uo1_30 uo1_31 uo1_32 uo1_33 uo1_34 uo1_35 uo1_36 uo1_37 uo1_38 uo1_39 uo1_40 uo1_41 uo1_42 uo1_43 uo1_44 uo1_45 uo1_46 uo1_47 uo1_48 uo1_49 uo1_50 uo1_51 uo1_52 uo1_53 uo1_54:Value,us=[uo1_2,uo1_3,uo1_4,uo1_5,uo1_14,uo1_15,uo1_16,uo1_17,uo1_18,uo1_19,uo1_20,uo1_21,uo1_22,uo1_23,uo1_24,uo1_25,uo1_26,uo1_27,uo1_28,uo1_29,uo1_30,uo1_31,uo1_32,uo1_33,uo1_34,uo1_35,uo1_36,uo1_37,uo1_38,uo1_39,uo1_40,uo1_41,uo1_42,uo1_43,uo1_44,uo1_45,uo1_46,uo1_47,uo1_48,uo1_49,uo1_50,uo1_51,uo1_52,uo1_53,uo1_54]∧St [] h0 w0 h0 [] w') k [vB false,vI 0,undef,undef,undef,undef,undef,undef,undef,undef,undef,undef,undef,undef,undef,undef,undef,undef,undef,undef,undef,undef,undef,undef,undef,undef,undef,undef,undef,undef,undef,undef,undef,undef,undef,undef,undef,undef,undef,undef,undef,undef,undef,undef,undef] (by simp only [patch,sc0,sc1]) ⟨0,_,_,_,_,_,_,_,_,_,_,_,_,_,_,_,_,_,_,_,_,_,_,_,_,_,_,_,_,_,_,_,_,_,_,_,_,_,_,_,_,_,_,_,_,rfl,H,HS⟩ ?_ ?_
  ·rintro m us w1 ⟨y1_0,uy1_2,uy1_4,uy1_5,uy1_14,uy1_15,uy1_16,uy1_17,uy1_18,uy1_19,uy1_20,uy1_21,uy1_22,uy1_23,uy1_24,uy1_25,uy1_26,uy1_27,uy1_28,uy1_29,uy1_30,uy1_31,uy1_32,uy1_33,uy1_34,uy1_35,uy1_36,uy1_37,uy1_38,uy1_39,uy1_40,uy1_41,uy1_42,uy1_43,uy1_44,uy1_45,uy1_46,uy1_47,uy1_48,uy1_49,uy1_50,uy1_51,uy1_52,uy1_53,uy1_54,rfl,H,HS1⟩
   cases m with
   |zero=>exact absurd H (by simp [taplineref08_Name.l0])
   |succ m=>
    rw [taplineref08_Name.l0] at H
    try simp only [patch,sc0,sc1]
    refine wp_seq ?_
    refine wp_seq ?_
    refine region ?_
    refine rs (vI y1_0) (r_move rfl) ?_
    refine rs (vS a0) (r_move rfl) ?_
    refine rs (vI (a0.size:Int)) (r_lenStr rfl Tryd.runUnderlying9) ?_
    refine rs (vB (decide (y1_0<(a0.size:Int)))) (r_bin rfl rfl rfl) ?_
    try simp only [sc0,sc1]
    refine run_nil ?_
    refine norm_then ?_
    refine wp_cond_split (t:=(decide (y1_0<(a0.size:Int)))) rfl (fun c2=>?_) (fun c2=>?_)
    ·replace H:=of_pos H c2
     refine wp_skip ?_
     refine norm_then ?_
     refine wp_seq ?_
     refine wp_block ?_
     refine wp_seq ?_
     refine region ?_
     refine rs (vS a0) (r_move rfl) ?_
     refine rs (vI y1_0) (r_move rfl) ?_
     obtain ⟨hi1,H⟩:=of_ite H
     refine rs (Value.int .u8 (byteAt a0 y1_0)) (r_indexStr rfl rfl hi1 Tryd.runUnderlying9) ?_
     refine rs (Value.int .u8 (byteAt a0 y1_0)) (r_assign rfl) ?_
     try simp only [sc0,sc1]
     refine run_nil ?_
     refine norm_then ?_
     refine wp_seq ?_
     refine region ?_
     refine rs (Value.int .u8 (byteAt a0 y1_0)) (r_move rfl) ?_
     refine rs (vB (decide ((byteAt a0 y1_0)≥97))) (r_bin rfl rfl rfl) ?_
     refine rs (vB (decide ((byteAt a0 y1_0)≥97))) (r_move rfl) ?_
     refine rgs (decide ((byteAt a0 y1_0)≥97)) true (Value.int .u8 (byteAt a0 y1_0)) rfl rfl rfl rfl (fun hg=>(r_move rfl)) ?_
     refine run_frame (by simp only [sc0,sc1];rfl) ?_
     refine rgs (decide ((byteAt a0 y1_0)≥97)) true (vB (decide ((byteAt a0 y1_0)≤122))) rfl rfl rfl rfl (fun hg=>(r_bin (gvt (Value.int .u8 (byteAt a0 y1_0)) hg rfl) rfl rfl)) ?_
     refine rs (vB ((decide ((byteAt a0 y1_0)≥97))&&(decide ((byteAt a0 y1_0)≤122)))) (r_pick_and rfl (fun hp=>(gvt (vB (decide ((byteAt a0 y1_0)≤122))) (and_i rfl hp) rfl)) rfl) ?_
     refine rs (vB ((decide ((byteAt a0 y1_0)≥97))&&(decide ((byteAt a0 y1_0)≤122)))) (r_move rfl) ?_
     refine rgs ((decide ((byteAt a0 y1_0)≥97))&&(decide ((byteAt a0 y1_0)≤122))) true (Value.int .u8 (byteAt a0 y1_0)) rfl rfl rfl rfl (fun hg=>(r_move rfl)) ?_
     refine run_frame (by simp only [sc0,sc1];rfl) ?_
     refine rgs ((decide ((byteAt a0 y1_0)≥97))&&(decide ((byteAt a0 y1_0)≤122))) true (vB (decide ((byteAt a0 y1_0)≥65))) rfl rfl rfl rfl (fun hg=>(r_bin (gvt (Value.int .u8 (byteAt a0 y1_0)) hg rfl) rfl rfl)) ?_
     refine rgs ((decide ((byteAt a0 y1_0)≥97))&&(decide ((byteAt a0 y1_0)≤122))) true (vB (decide ((byteAt a0 y1_0)≥65))) rfl rfl rfl rfl (fun hg=>(r_move (gvt (vB (decide ((byteAt a0 y1_0)≥65))) hg rfl))) ?_
     refine rgs (decide ((byteAt a0 y1_0)≥65)) (true&&(((decide ((byteAt a0 y1_0)≥97))&&(decide ((byteAt a0 y1_0)≤122)))==false)) (Value.int .u8 (byteAt a0 y1_0)) rfl rfl rfl rfl (fun hg=>(r_move rfl)) ?_
     refine rgs (decide ((byteAt a0 y1_0)≥65)) (true&&(((decide ((byteAt a0 y1_0)≥97))&&(decide ((byteAt a0 y1_0)≤122)))==false)) (vB (decide ((byteAt a0 y1_0)≤90))) rfl rfl rfl rfl (fun hg=>(r_bin (gvt (Value.int .u8 (byteAt a0 y1_0)) hg rfl) rfl rfl)) ?_
     refine run_frame (by simp only [sc0,sc1];rfl) ?_
     refine rgs ((decide ((byteAt a0 y1_0)≥97))&&(decide ((byteAt a0 y1_0)≤122))) true (vB ((decide ((byteAt a0 y1_0)≥65))&&(decide ((byteAt a0 y1_0)≤90)))) rfl rfl rfl rfl (fun hg=>(r_pick_and (gvt (vB (decide ((byteAt a0 y1_0)≥65))) hg rfl) (fun hp=>(gvt (vB (decide ((byteAt a0 y1_0)≤90))) (and_i hg hp) rfl)) rfl)) ?_
     refine rs (vB (((decide ((byteAt a0 y1_0)≥97))&&(decide ((byteAt a0 y1_0)≤122)))||((decide ((byteAt a0 y1_0)≥65))&&(decide ((byteAt a0 y1_0)≤90))))) (r_pick_or rfl rfl (fun hp=>(gvt (vB ((decide ((byteAt a0 y1_0)≥65))&&(decide ((byteAt a0 y1_0)≤90)))) (and_i rfl hp) rfl))) ?_
     refine rs (vB (((decide ((byteAt a0 y1_0)≥97))&&(decide ((byteAt a0 y1_0)≤122)))||((decide ((byteAt a0 y1_0)≥65))&&(decide ((byteAt a0 y1_0)≤90))))) (r_move rfl) ?_
     refine rgs (((decide ((byteAt a0 y1_0)≥97))&&(decide ((byteAt a0 y1_0)≤122)))||((decide ((byteAt a0 y1_0)≥65))&&(decide ((byteAt a0 y1_0)≤90)))) true (Value.int .u8 (byteAt a0 y1_0)) rfl rfl rfl rfl (fun hg=>(r_move rfl)) ?_
     refine run_frame (by simp only [sc0,sc1];rfl) ?_
     refine rgs (((decide ((byteAt a0 y1_0)≥97))&&(decide ((byteAt a0 y1_0)≤122)))||((decide ((byteAt a0 y1_0)≥65))&&(decide ((byteAt a0 y1_0)≤90)))) true (vB ((byteAt a0 y1_0)==95)) rfl rfl rfl rfl (fun hg=>(r_bin (gvt (Value.int .u8 (byteAt a0 y1_0)) hg rfl) rfl rfl)) ?_
     refine rs (vB ((((decide ((byteAt a0 y1_0)≥97))&&(decide ((byteAt a0 y1_0)≤122)))||((decide ((byteAt a0 y1_0)≥65))&&(decide ((byteAt a0 y1_0)≤90))))||((byteAt a0 y1_0)==95))) (r_pick_or rfl rfl (fun hp=>(gvt (vB ((byteAt a0 y1_0)==95)) (and_i rfl hp) rfl))) ?_
     refine rs (vB ((((decide ((byteAt a0 y1_0)≥97))&&(decide ((byteAt a0 y1_0)≤122)))||((decide ((byteAt a0 y1_0)≥65))&&(decide ((byteAt a0 y1_0)≤90))))||((byteAt a0 y1_0)==95))) (r_assign rfl) ?_
     try simp only [sc0,sc1]
     refine run_nil ?_
     refine norm_then ?_
     refine wp_seq ?_
     refine region ?_
     refine rs (vB ((((decide ((byteAt a0 y1_0)≥97))&&(decide ((byteAt a0 y1_0)≤122)))||((decide ((byteAt a0 y1_0)≥65))&&(decide ((byteAt a0 y1_0)≤90))))||((byteAt a0 y1_0)==95))) (r_move rfl) ?_
     refine rs (vB (!((((decide ((byteAt a0 y1_0)≥97))&&(decide ((byteAt a0 y1_0)≤122)))||((decide ((byteAt a0 y1_0)≥65))&&(decide ((byteAt a0 y1_0)≤90))))||((byteAt a0 y1_0)==95)))) (r_not rfl) ?_
     refine rs (vB (!((((decide ((byteAt a0 y1_0)≥97))&&(decide ((byteAt a0 y1_0)≤122)))||((decide ((byteAt a0 y1_0)≥65))&&(decide ((byteAt a0 y1_0)≤90))))||((byteAt a0 y1_0)==95)))) (r_move rfl) ?_
     refine rgs (!((((decide ((byteAt a0 y1_0)≥97))&&(decide ((byteAt a0 y1_0)≤122)))||((decide ((byteAt a0 y1_0)≥65))&&(decide ((byteAt a0 y1_0)≤90))))||((byteAt a0 y1_0)==95))) true (vI y1_0) rfl rfl rfl rfl (fun hg=>(r_move rfl)) ?_
     refine run_frame (by simp only [sc0,sc1];rfl) ?_
     refine rgs (!((((decide ((byteAt a0 y1_0)≥97))&&(decide ((byteAt a0 y1_0)≤122)))||((decide ((byteAt a0 y1_0)≥65))&&(decide ((byteAt a0 y1_0)≤90))))||((byteAt a0 y1_0)==95))) true (vB (y1_0==0)) rfl rfl rfl rfl (fun hg=>(r_bin (gvt (vI y1_0) hg rfl) rfl rfl)) ?_
     refine rgs (!((((decide ((byteAt a0 y1_0)≥97))&&(decide ((byteAt a0 y1_0)≤122)))||((decide ((byteAt a0 y1_0)≥65))&&(decide ((byteAt a0 y1_0)≤90))))||((byteAt a0 y1_0)==95))) true (vB (y1_0==0)) rfl rfl rfl rfl (fun hg=>(r_move (gvt (vB (y1_0==0)) hg rfl))) ?_
     refine rgs (y1_0==0) (true&&((!((((decide ((byteAt a0 y1_0)≥97))&&(decide ((byteAt a0 y1_0)≤122)))||((decide ((byteAt a0 y1_0)≥65))&&(decide ((byteAt a0 y1_0)≤90))))||((byteAt a0 y1_0)==95)))==true)) (Value.int .u8 (byteAt a0 y1_0)) rfl rfl rfl rfl (fun hg=>(r_move rfl)) ?_
     refine rgs (y1_0==0) (true&&((!((((decide ((byteAt a0 y1_0)≥97))&&(decide ((byteAt a0 y1_0)≤122)))||((decide ((byteAt a0 y1_0)≥65))&&(decide ((byteAt a0 y1_0)≤90))))||((byteAt a0 y1_0)==95)))==true)) (vB (decide ((byteAt a0 y1_0)<48))) rfl rfl rfl rfl (fun hg=>(r_bin (gvt (Value.int .u8 (byteAt a0 y1_0)) hg rfl) rfl rfl)) ?_
     refine run_frame (by simp only [sc0,sc1];rfl) ?_
     refine rgs (!((((decide ((byteAt a0 y1_0)≥97))&&(decide ((byteAt a0 y1_0)≤122)))||((decide ((byteAt a0 y1_0)≥65))&&(decide ((byteAt a0 y1_0)≤90))))||((byteAt a0 y1_0)==95))) true (vB ((y1_0==0)||(decide ((byteAt a0 y1_0)<48)))) rfl rfl rfl rfl (fun hg=>(r_pick_or (gvt (vB (y1_0==0)) hg rfl) rfl (fun hp=>(gvt (vB (decide ((byteAt a0 y1_0)<48))) (and_i hg hp) rfl)))) ?_
     refine rgs (!((((decide ((byteAt a0 y1_0)≥97))&&(decide ((byteAt a0 y1_0)≤122)))||((decide ((byteAt a0 y1_0)≥65))&&(decide ((byteAt a0 y1_0)≤90))))||((byteAt a0 y1_0)==95))) true (vB ((y1_0==0)||(decide ((byteAt a0 y1_0)<48)))) rfl rfl rfl rfl (fun hg=>(r_move (gvt (vB ((y1_0==0)||(decide ((byteAt a0 y1_0)<48)))) hg rfl))) ?_
     refine rgs ((y1_0==0)||(decide ((byteAt a0 y1_0)<48))) (true&&((!((((decide ((byteAt a0 y1_0)≥97))&&(decide ((byteAt a0 y1_0)≤122)))||((decide ((byteAt a0 y1_0)≥65))&&(decide ((byteAt a0 y1_0)≤90))))||((byteAt a0 y1_0)==95)))==true)) (Value.int .u8 (byteAt a0 y1_0)) rfl rfl rfl rfl (fun hg=>(r_move rfl)) ?_
     refine rgs ((y1_0==0)||(decide ((byteAt a0 y1_0)<48))) (true&&((!((((decide ((byteAt a0 y1_0)≥97))&&(decide ((byteAt a0 y1_0)≤122)))||((decide ((byteAt a0 y1_0)≥65))&&(decide ((byteAt a0 y1_0)≤90))))||((byteAt a0 y1_0)==95)))==true)) (vB (decide ((byteAt a0 y1_0)>57))) rfl rfl rfl rfl (fun hg=>(r_bin (gvt (Value.int .u8 (byteAt a0 y1_0)) hg rfl) rfl rfl)) ?_
     refine run_frame (by simp only [sc0,sc1];rfl) ?_
     refine rgs (!((((decide ((byteAt a0 y1_0)≥97))&&(decide ((byteAt a0 y1_0)≤122)))||((decide ((byteAt a0 y1_0)≥65))&&(decide ((byteAt a0 y1_0)≤90))))||((byteAt a0 y1_0)==95))) true (vB (((y1_0==0)||(decide ((byteAt a0 y1_0)<48)))||(decide ((byteAt a0 y1_0)>57)))) rfl rfl rfl rfl (fun hg=>(r_pick_or (gvt (vB ((y1_0==0)||(decide ((byteAt a0 y1_0)<48)))) hg rfl) rfl (fun hp=>(gvt (vB (decide ((byteAt a0 y1_0)>57))) (and_i hg hp) rfl)))) ?_
     refine rs (vB ((!((((decide ((byteAt a0 y1_0)≥97))&&(decide ((byteAt a0 y1_0)≤122)))||((decide ((byteAt a0 y1_0)≥65))&&(decide ((byteAt a0 y1_0)≤90))))||((byteAt a0 y1_0)==95)))&&(((y1_0==0)||(decide ((byteAt a0 y1_0)<48)))||(decide ((byteAt a0 y1_0)>57))))) (r_pick_and rfl (fun hp=>(gvt (vB (((y1_0==0)||(decide ((byteAt a0 y1_0)<48)))||(decide ((byteAt a0 y1_0)>57)))) (and_i rfl hp) rfl)) rfl) ?_
     try simp only [sc0,sc1]
     refine run_nil ?_
     refine norm_then ?_
     refine wp_cond_split (t:=((!((((decide ((byteAt a0 y1_0)≥97))&&(decide ((byteAt a0 y1_0)≤122)))||((decide ((byteAt a0 y1_0)≥65))&&(decide ((byteAt a0 y1_0)≤90))))||((byteAt a0 y1_0)==95)))&&(((y1_0==0)||(decide ((byteAt a0 y1_0)<48)))||(decide ((byteAt a0 y1_0)>57))))) rfl (fun c3=>?_) (fun c3=>?_)
     ·replace H:=of_pos H c3
      refine wp_seq ?_
      refine region ?_
      refine rs (vB false) (r_assign rfl) ?_
      try simp only [sc0,sc1]
      refine run_nil ?_
      refine norm_then ?_
      refine wp_ret ?_
      refine ret_block ?_
      refine ret_then ?_
      refine ret_loop ?_
      refine ret_then ?_
      obtain rfl:=Option.some.inj H
      obtain rfl:=Option.some.inj G1
      refine bodyPost_ret (results_1 rfl (one_tmp rfl)) rfl ?_
      exact ⟨rfl,HS1.toE⟩
     ·replace H:=of_neg H (nt c3)
      refine wp_skip ?_
      refine norm_block ?_
      refine norm_then ?_
      refine region ?_
      refine rs (vI y1_0) (r_move rfl) ?_
      refine rs (vI (w64 (y1_0+1))) (r_bin rfl rfl rfl) ?_
      refine rs (vI (w64 (y1_0+1))) (r_assign rfl) ?_
      try simp only [sc0,sc1]
      refine run_nil ?_
      refine again m [uy1_2,vI (w64 (y1_0+1)),Value.int .u8 (byteAt a0 y1_0),vB ((((decide ((byteAt a0 y1_0)≥97))&&(decide ((byteAt a0 y1_0)≤122)))||((decide ((byteAt a0 y1_0)≥65))&&(decide ((byteAt a0 y1_0)≤90))))||((byteAt a0 y1_0)==95)),vI y1_0,vS a0,vI (a0.size:Int),vB (decide (y1_0<(a0.size:Int))),vI y1_0,vI (w64 (y1_0+1)),vS a0,vI y1_0,Value.int .u8 (byteAt a0 y1_0),Value.int .u8 (byteAt a0 y1_0),vB (decide ((byteAt a0 y1_0)≥97)),vB (decide ((byteAt a0 y1_0)≥97)),gv (true&&((decide ((byteAt a0 y1_0)≥97))==true)) (Value.int .u8 (byteAt a0 y1_0)),gv (true&&((decide ((byteAt a0 y1_0)≥97))==true)) (vB (decide ((byteAt a0 y1_0)≤122))),vB ((decide ((byteAt a0 y1_0)≥97))&&(decide ((byteAt a0 y1_0)≤122))),vB ((decide ((byteAt a0 y1_0)≥97))&&(decide ((byteAt a0 y1_0)≤122))),gv (true&&(((decide ((byteAt a0 y1_0)≥97))&&(decide ((byteAt a0 y1_0)≤122)))==false)) (Value.int .u8 (byteAt a0 y1_0)),gv (true&&(((decide ((byteAt a0 y1_0)≥97))&&(decide ((byteAt a0 y1_0)≤122)))==false)) (vB (decide ((byteAt a0 y1_0)≥65))),gv (true&&(((decide ((byteAt a0 y1_0)≥97))&&(decide ((byteAt a0 y1_0)≤122)))==false)) (vB (decide ((byteAt a0 y1_0)≥65))),gv ((true&&(((decide ((byteAt a0 y1_0)≥97))&&(decide ((byteAt a0 y1_0)≤122)))==false))&&((decide ((byteAt a0 y1_0)≥65))==true)) (Value.int .u8 (byteAt a0 y1_0)),gv ((true&&(((decide ((byteAt a0 y1_0)≥97))&&(decide ((byteAt a0 y1_0)≤122)))==false))&&((decide ((byteAt a0 y1_0)≥65))==true)) (vB (decide ((byteAt a0 y1_0)≤90))),gv (true&&(((decide ((byteAt a0 y1_0)≥97))&&(decide ((byteAt a0 y1_0)≤122)))==false)) (vB ((decide ((byteAt a0 y1_0)≥65))&&(decide ((byteAt a0 y1_0)≤90)))),vB (((decide ((byteAt a0 y1_0)≥97))&&(decide ((byteAt a0 y1_0)≤122)))||((decide ((byteAt a0 y1_0)≥65))&&(decide ((byteAt a0 y1_0)≤90)))),vB (((decide ((byteAt a0 y1_0)≥97))&&(decide ((byteAt a0 y1_0)≤122)))||((decide ((byteAt a0 y1_0)≥65))&&(decide ((byteAt a0 y1_0)≤90)))),gv (true&&((((decide ((byteAt a0 y1_0)≥97))&&(decide ((byteAt a0 y1_0)≤122)))||((decide ((byteAt a0 y1_0)≥65))&&(decide ((byteAt a0 y1_0)≤90))))==false)) (Value.int .u8 (byteAt a0 y1_0)),gv (true&&((((decide ((byteAt a0 y1_0)≥97))&&(decide ((byteAt a0 y1_0)≤122)))||((decide ((byteAt a0 y1_0)≥65))&&(decide ((byteAt a0 y1_0)≤90))))==false)) (vB ((byteAt a0 y1_0)==95)),vB ((((decide ((byteAt a0 y1_0)≥97))&&(decide ((byteAt a0 y1_0)≤122)))||((decide ((byteAt a0 y1_0)≥65))&&(decide ((byteAt a0 y1_0)≤90))))||((byteAt a0 y1_0)==95)),vB ((((decide ((byteAt a0 y1_0)≥97))&&(decide ((byteAt a0 y1_0)≤122)))||((decide ((byteAt a0 y1_0)≥65))&&(decide ((byteAt a0 y1_0)≤90))))||((byteAt a0 y1_0)==95)),vB (!((((decide ((byteAt a0 y1_0)≥97))&&(decide ((byteAt a0 y1_0)≤122)))||((decide ((byteAt a0 y1_0)≥65))&&(decide ((byteAt a0 y1_0)≤90))))||((byteAt a0 y1_0)==95))),vB (!((((decide ((byteAt a0 y1_0)≥97))&&(decide ((byteAt a0 y1_0)≤122)))||((decide ((byteAt a0 y1_0)≥65))&&(decide ((byteAt a0 y1_0)≤90))))||((byteAt a0 y1_0)==95))),gv (true&&((!((((decide ((byteAt a0 y1_0)≥97))&&(decide ((byteAt a0 y1_0)≤122)))||((decide ((byteAt a0 y1_0)≥65))&&(decide ((byteAt a0 y1_0)≤90))))||((byteAt a0 y1_0)==95)))==true)) (vI y1_0),gv (true&&((!((((decide ((byteAt a0 y1_0)≥97))&&(decide ((byteAt a0 y1_0)≤122)))||((decide ((byteAt a0 y1_0)≥65))&&(decide ((byteAt a0 y1_0)≤90))))||((byteAt a0 y1_0)==95)))==true)) (vB (y1_0==0)),gv (true&&((!((((decide ((byteAt a0 y1_0)≥97))&&(decide ((byteAt a0 y1_0)≤122)))||((decide ((byteAt a0 y1_0)≥65))&&(decide ((byteAt a0 y1_0)≤90))))||((byteAt a0 y1_0)==95)))==true)) (vB (y1_0==0)),gv ((true&&((!((((decide ((byteAt a0 y1_0)≥97))&&(decide ((byteAt a0 y1_0)≤122)))||((decide ((byteAt a0 y1_0)≥65))&&(decide ((byteAt a0 y1_0)≤90))))||((byteAt a0 y1_0)==95)))==true))&&((y1_0==0)==false)) (Value.int .u8 (byteAt a0 y1_0)),gv ((true&&((!((((decide ((byteAt a0 y1_0)≥97))&&(decide ((byteAt a0 y1_0)≤122)))||((decide ((byteAt a0 y1_0)≥65))&&(decide ((byteAt a0 y1_0)≤90))))||((byteAt a0 y1_0)==95)))==true))&&((y1_0==0)==false)) (vB (decide ((byteAt a0 y1_0)<48))),gv (true&&((!((((decide ((byteAt a0 y1_0)≥97))&&(decide ((byteAt a0 y1_0)≤122)))||((decide ((byteAt a0 y1_0)≥65))&&(decide ((byteAt a0 y1_0)≤90))))||((byteAt a0 y1_0)==95)))==true)) (vB ((y1_0==0)||(decide ((byteAt a0 y1_0)<48)))),gv (true&&((!((((decide ((byteAt a0 y1_0)≥97))&&(decide ((byteAt a0 y1_0)≤122)))||((decide ((byteAt a0 y1_0)≥65))&&(decide ((byteAt a0 y1_0)≤90))))||((byteAt a0 y1_0)==95)))==true)) (vB ((y1_0==0)||(decide ((byteAt a0 y1_0)<48)))),gv ((true&&((!((((decide ((byteAt a0 y1_0)≥97))&&(decide ((byteAt a0 y1_0)≤122)))||((decide ((byteAt a0 y1_0)≥65))&&(decide ((byteAt a0 y1_0)≤90))))||((byteAt a0 y1_0)==95)))==true))&&(((y1_0==0)||(decide ((byteAt a0 y1_0)<48)))==false)) (Value.int .u8 (byteAt a0 y1_0)),gv ((true&&((!((((decide ((byteAt a0 y1_0)≥97))&&(decide ((byteAt a0 y1_0)≤122)))||((decide ((byteAt a0 y1_0)≥65))&&(decide ((byteAt a0 y1_0)≤90))))||((byteAt a0 y1_0)==95)))==true))&&(((y1_0==0)||(decide ((byteAt a0 y1_0)<48)))==false)) (vB (decide ((byteAt a0 y1_0)>57))),gv (true&&((!((((decide ((byteAt a0 y1_0)≥97))&&(decide ((byteAt a0 y1_0)≤122)))||((decide ((byteAt a0 y1_0)≥65))&&(decide ((byteAt a0 y1_0)≤90))))||((byteAt a0 y1_0)==95)))==true)) (vB (((y1_0==0)||(decide ((byteAt a0 y1_0)<48)))||(decide ((byteAt a0 y1_0)>57)))),vB ((!((((decide ((byteAt a0 y1_0)≥97))&&(decide ((byteAt a0 y1_0)≤122)))||((decide ((byteAt a0 y1_0)≥65))&&(decide ((byteAt a0 y1_0)≤90))))||((byteAt a0 y1_0)==95)))&&(((y1_0==0)||(decide ((byteAt a0 y1_0)<48)))||(decide ((byteAt a0 y1_0)>57))))] (Nat.lt_succ_self m) (by simp only [patch,sc0,sc1]) ⟨(w64 (y1_0+1)),_,_,_,_,_,_,_,_,_,_,_,_,_,_,_,_,_,_,_,_,_,_,_,_,_,_,_,_,_,_,_,_,_,_,_,_,_,_,_,_,_,_,_,_,rfl,H,HS1⟩
    ·replace H:=of_neg H (nt c2)
     refine wp_exit ?_
     refine exit_then ?_
     obtain rfl:=Option.some.inj H
     refine leave [uy1_2,vI y1_0,uy1_4,uy1_5,vI y1_0,vS a0,vI (a0.size:Int),vB (decide (y1_0<(a0.size:Int))),uy1_18,uy1_19,uy1_20,uy1_21,uy1_22,uy1_23,uy1_24,uy1_25,uy1_26,uy1_27,uy1_28,uy1_29,uy1_30,uy1_31,uy1_32,uy1_33,uy1_34,uy1_35,uy1_36,uy1_37,uy1_38,uy1_39,uy1_40,uy1_41,uy1_42,uy1_43,uy1_44,uy1_45,uy1_46,uy1_47,uy1_48,uy1_49,uy1_50,uy1_51,uy1_52,uy1_53,uy1_54] (by simp only [patch,sc0,sc1]) ⟨_,rfl,_,_,_,_,_,_,_,_,_,_,_,_,_,_,_,_,_,_,_,_,_,_,_,_,_,_,_,_,_,_,_,_,_,_,_,_,_,_,_,_,_,_,_,_,_,rfl,HS1⟩
  ·rintro us w2 ⟨s1,rfl,uo1_2,uo1_3,uo1_4,uo1_5,uo1_14,uo1_15,uo1_16,uo1_17,uo1_18,uo1_19,uo1_20,uo1_21,uo1_22,uo1_23,uo1_24,uo1_25,uo1_26,uo1_27,uo1_28,uo1_29,uo1_30,uo1_31,uo1_32,uo1_33,uo1_34,uo1_35,uo1_36,uo1_37,uo1_38,uo1_39,uo1_40,uo1_41,uo1_42,uo1_43,uo1_44,uo1_45,uo1_46,uo1_47,uo1_48,uo1_49,uo1_50,uo1_51,uo1_52,uo1_53,uo1_54,rfl,HS2⟩
   replace H:=G1
   clear G1
   try simp only [patch,sc0,sc1]
   refine norm_then ?_
   refine wp_seq ?_
   refine region ?_
   refine rs (vB true) (r_assign rfl) ?_
   try simp only [sc0,sc1]
   refine run_nil ?_
   refine norm_then ?_
   refine wp_ret ?_
   obtain rfl:=Option.some.inj H
   refine bodyPost_ret (results_1 rfl (one_tmp rfl)) rfl ?_
   exact ⟨rfl,HS2.toE⟩

end Go.Proofs.YtfjppgobidjndaaDoor
namespace Go.Proofs.YtfjppgobidjndaaDoor
open Go.RowKit Go.M
def taplineref08_Index.f (a0:api_Types) (a1:Int):Option (Bool):=some ((decide (a1≥0))&&(decide (a1<(a0.vDefs.length:Int))))
set_option maxRecDepth 20000 in
set_option maxHeartbeats 4000000 in
theorem taplineref08_Index.calls (a0:api_Types) (a1:Int) (A0_0:Option Addr) (c0_0:Nat) {h0:View} {w0:World} (hv:Sees h0 w0) (hr0_0:Rd k_api_Def h0 A0_0 a0.vDefs) (hc0_0:a0.vDefs.length≤c0_0) {r:Bool} (H:taplineref08_Index.f a0 a1=some r):Calls Tryd.prog 96 #[Value.agg #[vL A0_0 a0.vDefs.length c0_0],vI a1] w0 (fun e w1=>e= .returned (vB r)∧Ext w0 w1):=by
 unfold taplineref08_Index.f at H
 have HS:St [] h0 w0 h0 [] w0:=St.init hv
 go_enter Tryd.func96,Tryd.ntmps96
 refine wp_seq ?_
 refine region ?_
 refine run_ex rfl rfl (does_box (cs:=#[vL A0_0 a0.vDefs.length c0_0]) rfl rfl) ?_
 rintro w1 _ hE1 ⟨b1,rfl,ge1,hb1⟩
 have HS1:=HS.new hE1 ge1 hb1
 refine rs (vB false) (r_assign rfl) ?_
 try simp only [sc0,sc1]
 refine run_nil ?_
 refine norm_then ?_
 refine wp_seq ?_
 refine region ?_
 refine rs (vI a1) (r_move rfl) ?_
 refine rs (vB (decide (a1≥0))) (r_bin rfl rfl rfl) ?_
 refine rs (vB (decide (a1≥0))) (r_move rfl) ?_
 refine rgs (decide (a1≥0)) true (vI a1) rfl rfl rfl rfl (fun hg=>(r_move rfl)) ?_
 refine run_frame (by simp only [sc0,sc1];rfl) ?_
 refine rgs (decide (a1≥0)) true (vP b1 0) rfl rfl rfl rfl (fun hg=>(r_fieldBox (n:=1) (o':=0) rfl Tryd.runUnderlying24 rfl Tryd.sizeOf22 (by decide) rfl)) ?_
 refine rgs (decide (a1≥0)) true (vL A0_0 a0.vDefs.length c0_0) rfl rfl rfl rfl (fun hg=>(r_loadBox (gvt (vP b1 0) hg rfl) Tryd.isAgg22 (HS1.look 0 rfl) rfl)) ?_
 refine rgs (decide (a1≥0)) true (vI (a0.vDefs.length:Int)) rfl rfl rfl rfl (fun hg=>(r_len (gvt (vL A0_0 a0.vDefs.length c0_0) hg rfl) Tryd.runUnderlying22)) ?_
 refine rgs (decide (a1≥0)) true (vB (decide (a1<(a0.vDefs.length:Int)))) rfl rfl rfl rfl (fun hg=>(r_bin (gvt (vI a1) hg rfl) (gvt (vI (a0.vDefs.length:Int)) hg rfl) rfl)) ?_
 refine run_frame (by simp only [sc0,sc1];rfl) ?_
 refine rs (vB ((decide (a1≥0))&&(decide (a1<(a0.vDefs.length:Int))))) (r_pick_and rfl (fun hp=>(gvt (vB (decide (a1<(a0.vDefs.length:Int)))) (and_i rfl hp) rfl)) rfl) ?_
 refine rs (vB ((decide (a1≥0))&&(decide (a1<(a0.vDefs.length:Int))))) (r_assign rfl) ?_
 try simp only [sc0,sc1]
 refine run_nil ?_
 refine norm_then ?_
 refine wp_ret ?_
 obtain rfl:=Option.some.inj H
 refine bodyPost_ret (results_1 rfl (one_tmp rfl)) rfl ?_
 exact ⟨rfl,HS1.toE⟩

end Go.Proofs.YtfjppgobidjndaaDoor
namespace Go.Proofs.YtfjppgobidjndaaDoor
open Go.RowKit Go.M
def taplineref08_fields.l1 (a0:List api_Field) (y1_0:Int):Nat→Int→Option ((Bool)⊕(Unit))
 |0,_=>none
 |m+1,y2_0=>if (decide (y2_0<y1_0))=true then (if 0≤y2_0∧y2_0<a0.length then (if 0≤y1_0∧y1_0<a0.length then (if (strEq ((rd z_api_Field a0 y2_0).vName) ((rd z_api_Field a0 y1_0).vName))=true then (some (.inl false)) else (taplineref08_fields.l1 a0 y1_0 m (IntKind.wrap .i64 (y2_0+1)))) else none) else none) else (some (.inr ()))
def taplineref08_fields.l0 (k:Nat) (a0:List api_Field):Nat→Int→Option ((Bool)⊕(Unit))
 |0,_=>none
 |m+1,y1_0=>if (decide (y1_0<(a0.length:Int)))=true then (if 0≤y1_0∧y1_0<a0.length then ((taplineref08_Name.f k ((rd z_api_Field a0 y1_0).vName)).bind fun v1=>(if (!v1)=true then (some (.inl false)) else ((taplineref08_fields.l1 a0 y1_0 k 0).bind fun xx2=>(match xx2 with| .inl r=>some (.inl r)| .inr s1=>taplineref08_fields.l0 k a0 m (IntKind.wrap .i64 (y1_0+1)))))) else none) else (some (.inr ()))
def taplineref08_fields.f (k:Nat) (a0:List api_Field):Option (Bool):=if (((a0.length:Int)==0)||(decide ((a0.length:Int)>32)))=true then (some false) else ((taplineref08_fields.l0 k a0 k 0).bind fun xx1=>(match xx1 with| .inl r=>some r| .inr s2=>some true))
set_option maxRecDepth 20000 in
set_option maxHeartbeats 4000000 in
theorem taplineref08_fields.calls (k:Nat) (a0:List api_Field) (A0_0:Option Addr) (c0_0:Nat) {h0:View} {w0:World} (hv:Sees h0 w0) (hr0_0:Rd k_api_Field h0 A0_0 a0) (hc0_0:a0.length≤c0_0) {r:Bool} (H:taplineref08_fields.f k a0=some r):Calls Tryd.prog 97 #[vL A0_0 a0.length c0_0] w0 (fun e w1=>e= .returned (vB r)∧Ext w0 w1):=by
 unfold taplineref08_fields.f at H
 have HS:St [] h0 w0 h0 [] w0:=St.init hv
 go_enter Tryd.func97,Tryd.ntmps97
 refine wp_seq ?_
 refine region ?_
 refine rs (vB false) (r_assign rfl) ?_
 try simp only [sc0,sc1]
 refine run_nil ?_
 refine norm_then ?_
 refine wp_seq ?_
 refine wp_seq ?_
 refine region ?_
 refine rs (vL A0_0 a0.length c0_0) (r_move rfl) ?_
 refine rs (vI (a0.length:Int)) (r_len rfl Tryd.runUnderlying32) ?_
 refine rs (vB ((a0.length:Int)==0)) (r_bin rfl rfl rfl) ?_
 refine rs (vB ((a0.length:Int)==0)) (r_move rfl) ?_
 refine run_frame (by simp only [sc0,sc1];rfl) ?_
 refine rgs ((a0.length:Int)==0) true (vL A0_0 a0.length c0_0) rfl rfl rfl rfl (fun hg=>(r_move rfl)) ?_
 refine rgs ((a0.length:Int)==0) true (vI (a0.length:Int)) rfl rfl rfl rfl (fun hg=>(r_len (gvt (vL A0_0 a0.length c0_0) hg rfl) Tryd.runUnderlying32)) ?_
 refine rgs ((a0.length:Int)==0) true (vB (decide ((a0.length:Int)>32))) rfl rfl rfl rfl (fun hg=>(r_bin (gvt (vI (a0.length:Int)) hg rfl) rfl rfl)) ?_
 refine rs (vB (((a0.length:Int)==0)||(decide ((a0.length:Int)>32)))) (r_pick_or rfl rfl (fun hp=>(gvt (vB (decide ((a0.length:Int)>32))) (and_i rfl hp) rfl))) ?_
 try simp only [sc0,sc1]
 refine run_nil ?_
 refine norm_then ?_
 refine wp_cond_split (t:=(((a0.length:Int)==0)||(decide ((a0.length:Int)>32)))) rfl (fun c1=>?_) (fun c1=>?_)
 ·replace H:=of_pos H c1
  refine wp_seq ?_
  refine region ?_
  refine rs (vB false) (r_assign rfl) ?_
  try simp only [sc0,sc1]
  refine run_nil ?_
  refine norm_then ?_
  refine wp_ret ?_
  refine ret_then ?_
  obtain rfl:=Option.some.inj H
  refine bodyPost_ret (results_1 rfl (one_tmp rfl)) rfl ?_
  exact ⟨rfl,HS.toE⟩
 ·replace H:=of_neg H (nt c1)
  refine wp_skip ?_
  refine norm_then ?_
  refine wp_seq ?_
  refine wp_seq ?_
  refine region ?_
  refine rs (vI 0) (r_assign rfl) ?_
  try simp only [sc0,sc1]
  refine run_nil ?_
  refine norm_then ?_
  obtain ⟨xx1,H,G1⟩:=of_bind H
  refine loop_patch [2,3,4,13,14,15,16,17,18,19,20,21,22,23,24,25,26,27,28,29,30,31,32,33,34,35,36,37,38,39,40,41] (fun m us w'=>∃y1_0:Int,∃uy1_2 uy1_4 uy1_13 uy1_14 uy1_15 uy1_16 uy1_17 uy1_18 uy1_19 uy1_20 uy1_21 uy1_22 uy1_23 uy1_24 uy1_25 uy1_26 uy1_27 uy1_28 uy1_29 uy1_30 uy1_31 uy1_32 uy1_33 uy1_34 uy1_35 uy1_36 uy1_37 uy1_38 uy1_39 uy1_40 uy1_41:Value,us=[uy1_2,vI y1_0,uy1_4,uy1_13,uy1_14,uy1_15,uy1_16,uy1_17,uy1_18,uy1_19,uy1_20,uy1_21,uy1_22,uy1_23,uy1_24,uy1_25,uy1_26,uy1_27,uy1_28,uy1_29,uy1_30,uy1_31,uy1_32,uy1_33,uy1_34,uy1_35,uy1_36,uy1_37,uy1_38,uy1_39,uy1_40,uy1_41]∧taplineref08_fields.l0 k a0 m y1_0=some xx1∧St [] h0 w0 h0 [] w') (fun us w'=>∃(s2:Unit),xx1= .inr s2∧∃uo2_2 uo2_3 uo2_4 uo2_13 uo2_14 uo2_15 uo2_16 uo2_17 uo2_18 uo2_19 uo2_20 uo2_21 uo2_22 uo2_23 uo2_24 uo2_25 uo2_26 uo2_27 uo2_28 uo2_29 uo2_30 uo2_31 uo2_32 uo2_33 uo2_34 uo2_35 uo2_36 uo2_37 uo2_38 uo2_39 uo2_40 uo2_41:Value,us=[uo2_2,uo2_3,uo2_4,uo2_13,uo2_14,uo2_15,uo2_16,uo2_17,uo2_18,uo2_19,uo2_20,uo2_21,uo2_22,uo2_23,uo2_24,uo2_25,uo2_26,uo2_27,uo2_28,uo2_29,uo2_30,uo2_31,uo2_32,uo2_33,uo2_34,uo2_35,uo2_36,uo2_37,uo2_38,uo2_39,uo2_40,uo2_41]∧St [] h0 w0 h0 [] w') k [vB false,vI 0,undef,undef,undef,undef,undef,undef,undef,undef,undef,undef,undef,undef,undef,undef,undef,undef,undef,undef,undef,undef,undef,undef,undef,undef,undef,undef,undef,undef,undef,undef] (by simp only [patch,sc0,sc1]) ⟨0,_,_,_,_,_,_,_,_,_,_,_,_,_,_,_,_,_,_,_,_,_,_,_,_,_,_,_,_,_,_,_,rfl,H,HS⟩ ?_ ?_
  ·rintro m us w1 ⟨y1_0,uy1_2,uy1_4,uy1_13,uy1_14,uy1_15,uy1_16,uy1_17,uy1_18,uy1_19,uy1_20,uy1_21,uy1_22,uy1_23,uy1_24,uy1_25,uy1_26,uy1_27,uy1_28,uy1_29,uy1_30,uy1_31,uy1_32,uy1_33,uy1_34,uy1_35,uy1_36,uy1_37,uy1_38,uy1_39,uy1_40,uy1_41,rfl,H,HS1⟩
   cases m with
   |zero=>exact absurd H (by simp [taplineref08_fields.l0])
   |succ m=>
    rw [taplineref08_fields.l0] at H
    try simp only [patch,sc0,sc1]
    refine wp_seq ?_
    refine wp_seq ?_
    refine region ?_
    refine rs (vI y1_0) (r_move rfl) ?_
    refine rs (vL A0_0 a0.length c0_0) (r_move rfl) ?_
    refine rs (vI (a0.length:Int)) (r_len rfl Tryd.runUnderlying32) ?_
    refine rs (vB (decide (y1_0<(a0.length:Int)))) (r_bin rfl rfl rfl) ?_
    try simp only [sc0,sc1]
    refine run_nil ?_
    refine norm_then ?_
    refine wp_cond_split (t:=(decide (y1_0<(a0.length:Int)))) rfl (fun c2=>?_) (fun c2=>?_)
    ·replace H:=of_pos H c2
     refine wp_skip ?_
     refine norm_then ?_
     refine wp_seq ?_
     refine wp_block ?_
     refine wp_seq ?_
     refine wp_seq ?_
     refine region ?_
     refine rs (vL A0_0 a0.length c0_0) (r_move rfl) ?_
     refine rs (vI y1_0) (r_move rfl) ?_
     obtain ⟨hi1,H⟩:=of_ite H
     obtain ⟨ad1,e1,hel1⟩:=ld_api_Field hr0_0 hi1.1 hi1.2
     refine rs (Value.pointer (some (Addr.add ad1 (y1_0.toNat*3)))) (r_indexA (sz:=3) rfl e1 rfl hi1.1 hi1.2 Tryd.runUnderlying32 Tryd.sizeOf36) ?_
     refine rs (Value.pointer (some (Addr.add (Addr.add ad1 (y1_0.toNat*3)) 0))) (r_fieldEl (n:=1) (o':=0) rfl Tryd.runUnderlying36 rfl Tryd.sizeOf9 (by decide) rfl) ?_
     refine run_frame (by simp only [sc0,sc1];rfl) ?_
     refine rs (vS ((rd z_api_Field a0 y1_0).vName)) (r_load rfl Tryd.isAgg9 (hel1.cell HS1.sees 0 rfl)) ?_
     obtain ⟨v1,H1,H⟩:=of_bind H
     refine run_eq (v:=vB v1) rfl rfl (does_call_eq Tryd.call95 rfl rfl (taplineref08_Name.calls k ((rd z_api_Field a0 y1_0).vName) HS1.sees H1)) ?_
     intro w2 hE1
     have HS2:=HS1.step hE1
     refine rs (vB (!v1)) (r_not rfl) ?_
     try simp only [sc0,sc1]
     refine run_nil ?_
     refine norm_then ?_
     refine wp_cond_split (t:=(!v1)) rfl (fun c3=>?_) (fun c3=>?_)
     ·replace H:=of_pos H c3
      refine wp_seq ?_
      refine region ?_
      refine rs (vB false) (r_assign rfl) ?_
      try simp only [sc0,sc1]
      refine run_nil ?_
      refine norm_then ?_
      refine wp_ret ?_
      refine ret_then ?_
      refine ret_block ?_
      refine ret_then ?_
      refine ret_loop ?_
      refine ret_then ?_
      obtain rfl:=Option.some.inj H
      obtain rfl:=Option.some.inj G1
      refine bodyPost_ret (results_1 rfl (one_tmp rfl)) rfl ?_
      exact ⟨rfl,HS2.toE⟩
     ·replace H:=of_neg H (nt c3)
      refine wp_skip ?_
      refine norm_then ?_
      refine wp_seq ?_
      refine region ?_
      refine rs (vI 0) (r_assign rfl) ?_
      try simp only [sc0,sc1]
      refine run_nil ?_
      refine norm_then ?_
      obtain ⟨xx2,H,G2⟩:=of_bind H
      refine loop_patch [2,4,26,27,28,29,30,31,32,33,34,35,36,37,38,39,40,41] (fun m us w'=>∃y2_0:Int,∃uy2_2 uy2_26 uy2_27 uy2_28 uy2_29 uy2_30 uy2_31 uy2_32 uy2_33 uy2_34 uy2_35 uy2_36 uy2_37 uy2_38 uy2_39 uy2_40 uy2_41:Value,us=[uy2_2,vI y2_0,uy2_26,uy2_27,uy2_28,uy2_29,uy2_30,uy2_31,uy2_32,uy2_33,uy2_34,uy2_35,uy2_36,uy2_37,uy2_38,uy2_39,uy2_40,uy2_41]∧taplineref08_fields.l1 a0 y1_0 m y2_0=some xx2∧St [] h0 w0 h0 [] w') (fun us w'=>∃(s1:Unit),xx2= .inr s1∧∃uo1_2 uo1_4 uo1_26 uo1_27 uo1_28 uo1_29 uo1_30 uo1_31 uo1_32 uo1_33 uo1_34 uo1_35 uo1_36 uo1_37 uo1_38 uo1_39 uo1_40 uo1_41:Value,us=[uo1_2,uo1_4,uo1_26,uo1_27,uo1_28,uo1_29,uo1_30,uo1_31,uo1_32,uo1_33,uo1_34,uo1_35,uo1_36,uo1_37,uo1_38,uo1_39,uo1_40,uo1_41]∧St [] h0 w0 h0 [] w') k [uy1_2,vI 0,uy1_26,uy1_27,uy1_28,uy1_29,uy1_30,uy1_31,uy1_32,uy1_33,uy1_34,uy1_35,uy1_36,uy1_37,uy1_38,uy1_39,uy1_40,uy1_41] (by simp only [patch,sc0,sc1]) ⟨0,_,_,_,_,_,_,_,_,_,_,_,_,_,_,_,_,_,rfl,H,HS2⟩ ?_ ?_
      ·rintro m us w3 ⟨y2_0,uy2_2,uy2_26,uy2_27,uy2_28,uy2_29,uy2_30,uy2_31,uy2_32,uy2_33,uy2_34,uy2_35,uy2_36,uy2_37,uy2_38,uy2_39,uy2_40,uy2_41,rfl,H,HS3⟩
       cases m with
       |zero=>exact absurd H (by simp [taplineref08_fields.l1])
       |succ m=>
        rw [taplineref08_fields.l1] at H
        try simp only [patch,sc0,sc1]
        refine wp_seq ?_
        refine wp_seq ?_
        refine region ?_
        refine rs (vI y2_0) (r_move rfl) ?_
        refine rs (vI y1_0) (r_move rfl) ?_
        refine rs (vB (decide (y2_0<y1_0))) (r_bin rfl rfl rfl) ?_
        try simp only [sc0,sc1]
        refine run_nil ?_
        refine norm_then ?_
        refine wp_cond_split (t:=(decide (y2_0<y1_0))) rfl (fun c4=>?_) (fun c4=>?_)
        ·replace H:=of_pos H c4
         refine wp_skip ?_
         refine norm_then ?_
         refine wp_seq ?_
         refine wp_block ?_
         refine wp_seq ?_
         obtain ⟨hi2,H⟩:=of_ite H
         obtain ⟨ad2,e2,hel2⟩:=ld_api_Field hr0_0 hi2.1 hi2.2
         obtain ⟨hi3,H⟩:=of_ite H
         obtain ⟨ad3,e3,hel3⟩:=ld_api_Field hr0_0 hi3.1 hi3.2
         refine drawn [.eq (vL A0_0 a0.length c0_0), .eq (vI y2_0), .eq (Value.pointer (some (Addr.add ad2 (y2_0.toNat*3)))), .eq (Value.pointer (some (Addr.add (Addr.add ad2 (y2_0.toNat*3)) 0))), .eq (vS ((rd z_api_Field a0 y2_0).vName)), .eq (vL A0_0 a0.length c0_0), .eq (vI y1_0), .eq (Value.pointer (some (Addr.add ad3 (y1_0.toNat*3)))), .eq (Value.pointer (some (Addr.add (Addr.add ad3 (y1_0.toNat*3)) 0))), .eq (vS ((rd z_api_Field a0 y1_0).vName)), .eq (vB (strEq ((rd z_api_Field a0 y2_0).vName) ((rd z_api_Field a0 y1_0).vName)))] [31,32,33,34,35,36,37,38,39,40,41] hmix (by kernel_rfl) rfl (stable_eq (stable_eq (stable_eq (stable_eq (stable_eq (stable_eq (stable_eq (stable_eq (stable_eq (stable_eq (stable_eq stable_nil))))))))))) ⟨ob_plain rfl (fun a' w' hE hk=>by have HSd:=HS3.step hE;exact does_eq (r_move (show _=vL A0_0 a0.length c0_0 from hk 0 rfl))),ob_plain rfl (fun a' w' hE hk=>by have HSd:=HS3.step hE;exact does_eq (r_move (show _=vI y2_0 from hk 4 rfl))),ob_plain rfl (fun a' w' hE hk=>by have HSd:=HS3.step hE;exact does_eq (r_indexA (sz:=3) (show _=vL A0_0 a0.length c0_0 from hk 31 rfl) e2 (show _=vI y2_0 from hk 32 rfl) hi2.1 hi2.2 Tryd.runUnderlying32 Tryd.sizeOf36)),ob_plain rfl (fun a' w' hE hk=>by have HSd:=HS3.step hE;exact does_eq (r_fieldEl (n:=1) (o':=0) (show _=Value.pointer (some (Addr.add ad2 (y2_0.toNat*3))) from hk 33 rfl) Tryd.runUnderlying36 rfl Tryd.sizeOf9 (by decide) rfl)),ob_plain rfl (fun a' w' hE hk=>by have HSd:=HS3.step hE;exact does_eq (r_load (show _=Value.pointer (some (Addr.add (Addr.add ad2 (y2_0.toNat*3)) 0)) from hk 34 rfl) Tryd.isAgg9 (hel2.cell HSd.sees 0 rfl))),ob_plain rfl (fun a' w' hE hk=>by have HSd:=HS3.step hE;exact does_eq (r_move (show _=vL A0_0 a0.length c0_0 from hk 0 rfl))),ob_plain rfl (fun a' w' hE hk=>by have HSd:=HS3.step hE;exact does_eq (r_move (show _=vI y1_0 from hk 3 rfl))),ob_plain rfl (fun a' w' hE hk=>by have HSd:=HS3.step hE;exact does_eq (r_indexA (sz:=3) (show _=vL A0_0 a0.length c0_0 from hk 36 rfl) e3 (show _=vI y1_0 from hk 37 rfl) hi3.1 hi3.2 Tryd.runUnderlying32 Tryd.sizeOf36)),ob_plain rfl (fun a' w' hE hk=>by have HSd:=HS3.step hE;exact does_eq (r_fieldEl (n:=1) (o':=0) (show _=Value.pointer (some (Addr.add ad3 (y1_0.toNat*3))) from hk 38 rfl) Tryd.runUnderlying36 rfl Tryd.sizeOf9 (by decide) rfl)),ob_plain rfl (fun a' w' hE hk=>by have HSd:=HS3.step hE;exact does_eq (r_load (show _=Value.pointer (some (Addr.add (Addr.add ad3 (y1_0.toNat*3)) 0)) from hk 39 rfl) Tryd.isAgg9 (hel3.cell HSd.sees 0 rfl))),ob_plain rfl (fun a' w' hE hk=>by have HSd:=HS3.step hE;exact does_eq (r_streql (show _=vS ((rd z_api_Field a0 y2_0).vName) from hk 35 rfl) (show _=vS ((rd z_api_Field a0 y1_0).vName) from hk 40 rfl))),trivial⟩ ?_
         intro w4 hE2
         simp only [List.zip_cons_cons,List.zip_nil_left,List.zip_nil_right,finL,sc0,sc1,List.length_cons,List.length_nil,List.drop_succ_cons,List.drop_zero,Nat.zero_add,Nat.reduceAdd]
         have HS4:=HS3.step hE2
         refine run_nil ?_
         refine norm_then ?_
         refine wp_cond_split (t:=(strEq ((rd z_api_Field a0 y2_0).vName) ((rd z_api_Field a0 y1_0).vName))) rfl (fun c5=>?_) (fun c5=>?_)
         ·replace H:=of_pos H c5
          refine wp_seq ?_
          refine region ?_
          refine rs (vB false) (r_assign rfl) ?_
          try simp only [sc0,sc1]
          refine run_nil ?_
          refine norm_then ?_
          refine wp_ret ?_
          refine ret_block ?_
          refine ret_then ?_
          refine ret_loop ?_
          refine ret_block ?_
          refine ret_then ?_
          refine ret_loop ?_
          refine ret_then ?_
          obtain rfl:=Option.some.inj H
          obtain rfl:=Option.some.inj G2
          obtain rfl:=Option.some.inj G1
          refine bodyPost_ret (results_1 rfl (one_tmp rfl)) rfl ?_
          exact ⟨rfl,HS4.toE⟩
         ·replace H:=of_neg H (nt c5)
          refine wp_skip ?_
          refine norm_block ?_
          refine norm_then ?_
          refine region ?_
          refine rs (vI y2_0) (r_move rfl) ?_
          refine rs (vI (w64 (y2_0+1))) (r_bin rfl rfl rfl) ?_
          refine rs (vI (w64 (y2_0+1))) (r_assign rfl) ?_
          try simp only [sc0,sc1]
          refine run_nil ?_
          refine again m [uy2_2,vI (w64 (y2_0+1)),vI y2_0,vI y1_0,vB (decide (y2_0<y1_0)),vI y2_0,vI (w64 (y2_0+1)),vL A0_0 a0.length c0_0,vI y2_0,Value.pointer (some (Addr.add ad2 (y2_0.toNat*3))),Value.pointer (some (Addr.add (Addr.add ad2 (y2_0.toNat*3)) 0)),vS ((rd z_api_Field a0 y2_0).vName),vL A0_0 a0.length c0_0,vI y1_0,Value.pointer (some (Addr.add ad3 (y1_0.toNat*3))),Value.pointer (some (Addr.add (Addr.add ad3 (y1_0.toNat*3)) 0)),vS ((rd z_api_Field a0 y1_0).vName),vB (strEq ((rd z_api_Field a0 y2_0).vName) ((rd z_api_Field a0 y1_0).vName))] (Nat.lt_succ_self m) (by simp only [patch,sc0,sc1]) ⟨(w64 (y2_0+1)),_,_,_,_,_,_,_,_,_,_,_,_,_,_,_,_,_,rfl,H,HS4⟩
        ·replace H:=of_neg H (nt c4)
         refine wp_exit ?_
         refine exit_then ?_
         obtain rfl:=Option.some.inj H
         refine leave [uy2_2,vI y2_0,vI y2_0,vI y1_0,vB (decide (y2_0<y1_0)),uy2_29,uy2_30,uy2_31,uy2_32,uy2_33,uy2_34,uy2_35,uy2_36,uy2_37,uy2_38,uy2_39,uy2_40,uy2_41] (by simp only [patch,sc0,sc1]) ⟨_,rfl,_,_,_,_,_,_,_,_,_,_,_,_,_,_,_,_,_,_,rfl,HS3⟩
      ·rintro us w5 ⟨s1,rfl,uo1_2,uo1_4,uo1_26,uo1_27,uo1_28,uo1_29,uo1_30,uo1_31,uo1_32,uo1_33,uo1_34,uo1_35,uo1_36,uo1_37,uo1_38,uo1_39,uo1_40,uo1_41,rfl,HS5⟩
       replace H:=G2
       clear G2
       try simp only [patch,sc0,sc1]
       refine norm_block ?_
       refine norm_then ?_
       refine region ?_
       refine rs (vI y1_0) (r_move rfl) ?_
       refine rs (vI (w64 (y1_0+1))) (r_bin rfl rfl rfl) ?_
       refine rs (vI (w64 (y1_0+1))) (r_assign rfl) ?_
       try simp only [sc0,sc1]
       refine run_nil ?_
       refine again m [uo1_2,vI (w64 (y1_0+1)),uo1_4,vI y1_0,vL A0_0 a0.length c0_0,vI (a0.length:Int),vB (decide (y1_0<(a0.length:Int))),vI y1_0,vI (w64 (y1_0+1)),vL A0_0 a0.length c0_0,vI y1_0,Value.pointer (some (Addr.add ad1 (y1_0.toNat*3))),Value.pointer (some (Addr.add (Addr.add ad1 (y1_0.toNat*3)) 0)),vS ((rd z_api_Field a0 y1_0).vName),vB v1,vB (!v1),uo1_26,uo1_27,uo1_28,uo1_29,uo1_30,uo1_31,uo1_32,uo1_33,uo1_34,uo1_35,uo1_36,uo1_37,uo1_38,uo1_39,uo1_40,uo1_41] (Nat.lt_succ_self m) (by simp only [patch,sc0,sc1]) ⟨(w64 (y1_0+1)),_,_,_,_,_,_,_,_,_,_,_,_,_,_,_,_,_,_,_,_,_,_,_,_,_,_,_,_,_,_,_,rfl,H,HS5⟩
    ·replace H:=of_neg H (nt c2)
     refine wp_exit ?_
     refine exit_then ?_
     obtain rfl:=Option.some.inj H
     refine leave [uy1_2,vI y1_0,uy1_4,vI y1_0,vL A0_0 a0.length c0_0,vI (a0.length:Int),vB (decide (y1_0<(a0.length:Int))),uy1_17,uy1_18,uy1_19,uy1_20,uy1_21,uy1_22,uy1_23,uy1_24,uy1_25,uy1_26,uy1_27,uy1_28,uy1_29,uy1_30,uy1_31,uy1_32,uy1_33,uy1_34,uy1_35,uy1_36,uy1_37,uy1_38,uy1_39,uy1_40,uy1_41] (by simp only [patch,sc0,sc1]) ⟨_,rfl,_,_,_,_,_,_,_,_,_,_,_,_,_,_,_,_,_,_,_,_,_,_,_,_,_,_,_,_,_,_,_,_,rfl,HS1⟩
  ·rintro us w6 ⟨s2,rfl,uo2_2,uo2_3,uo2_4,uo2_13,uo2_14,uo2_15,uo2_16,uo2_17,uo2_18,uo2_19,uo2_20,uo2_21,uo2_22,uo2_23,uo2_24,uo2_25,uo2_26,uo2_27,uo2_28,uo2_29,uo2_30,uo2_31,uo2_32,uo2_33,uo2_34,uo2_35,uo2_36,uo2_37,uo2_38,uo2_39,uo2_40,uo2_41,rfl,HS6⟩
   replace H:=G1
   clear G1
   try simp only [patch,sc0,sc1]
   refine norm_then ?_
   refine wp_seq ?_
   refine region ?_
   refine rs (vB true) (r_assign rfl) ?_
   try simp only [sc0,sc1]
   refine run_nil ?_
   refine norm_then ?_
   refine wp_ret ?_
   obtain rfl:=Option.some.inj H
   refine bodyPost_ret (results_1 rfl (one_tmp rfl)) rfl ?_
   exact ⟨rfl,HS6.toE⟩

end Go.Proofs.YtfjppgobidjndaaDoor
namespace Go.Proofs.YtfjppgobidjndaaDoor
open Go.RowKit Go.M
def taplineref08_shaped.l0 (a0:api_Types) (a1:api_Def):Nat→Int→Option ((Bool)⊕(Unit))
 |0,_=>none
 |m+1,y1_0=>if (decide (y1_0<(a1.vFields.length:Int)))=true then (if 0≤y1_0∧y1_0<a1.vFields.length then ((if (true&&((a1.vKind==4)==true))=true then taplineref08_Index.f a0 ((rd z_api_Field a1.vFields y1_0).vType) else some false).bind fun v7=>(if ((a1.vKind==4)&&(!v7))=true then (some (.inl false)) else (if ((a1.vKind==5)&&((((rd z_api_Field a1.vFields y1_0).vType !=0)||(decide ((rd z_api_Field a1.vFields y1_0).vAt<(-2147483648))))||(decide ((rd z_api_Field a1.vFields y1_0).vAt>2147483647))))=true then (some (.inl false)) else (taplineref08_shaped.l0 a0 a1 m (IntKind.wrap .i64 (y1_0+1)))))) else none) else (some (.inr ()))
def taplineref08_shaped.f (k:Nat) (a0:api_Types) (a1:api_Def):Option (Bool):=(if (true&&(((decide (a1.vKind<1))||(decide (a1.vKind>6)))==false))=true then taplineref08_unused.f a1 else some false).bind fun v1=>((if (true&&((((decide (a1.vKind<1))||(decide (a1.vKind>6)))||(!v1))==false))=true then taplineref08_Named.f a1 else some false).bind fun v2=>((if ((true&&((((decide (a1.vKind<1))||(decide (a1.vKind>6)))||(!v1))==false))&&(v2==true))=true then taplineref08_Name.f k a1.vName else some false).bind fun v3=>(if ((((decide (a1.vKind<1))||(decide (a1.vKind>6)))||(!v1))||(v2&&(!v3)))=true then (some false) else (if (a1.vKind==1)=true then (some ((((a1.vInt.vSize==1)||(a1.vInt.vSize==2))||(a1.vInt.vSize==4))||(a1.vInt.vSize==8))) else (((if (a1.vKind==2)=true then (some (a1.vKind==2)) else (some (a1.vKind==6))):Option (Bool)).bind fun xx1=>(if xx1=true then ((taplineref08_Index.f a0 a1.vRef).bind fun v4=>(some v4)) else (if (a1.vKind==3)=true then ((taplineref08_Index.f a0 a1.vRef).bind fun v5=>(some ((v5&&(decide (a1.vN≥1)))&&(decide (a1.vN≤512))))) else ((taplineref08_fields.f k a1.vFields).bind fun v6=>(if (!v6)=true then (some false) else ((taplineref08_shaped.l0 a0 a1 k 0).bind fun xx2=>(match xx2 with| .inl r=>some r| .inr s1=>some ((a1.vKind==5)||((decide (a1.vN≥1))&&(decide (a1.vN≤512)))))))))))))))
set_option maxRecDepth 20000 in
set_option maxHeartbeats 4000000 in
theorem taplineref08_shaped.calls (k:Nat) (a0:api_Types) (a1:api_Def) (A0_0:Option Addr) (c0_0:Nat) (A1_6:Option Addr) (c1_6:Nat) {h0:View} {w0:World} (hv:Sees h0 w0) (hr0_0:Rd k_api_Def h0 A0_0 a0.vDefs) (hc0_0:a0.vDefs.length≤c0_0) (hr1_6:Rd k_api_Field h0 A1_6 a1.vFields) (hc1_6:a1.vFields.length≤c1_6) {r:Bool} (H:taplineref08_shaped.f k a0 a1=some r):Calls Tryd.prog 48 #[Value.agg #[vL A0_0 a0.vDefs.length c0_0],Value.agg #[vI a1.vKind,vS a1.vName,vI a1.vInt.vSize,vB a1.vInt.vSigned,vI a1.vRef,vI a1.vN,vL A1_6 a1.vFields.length c1_6]] w0 (fun e w1=>e= .returned (vB r)∧Ext w0 w1):=by
 unfold taplineref08_shaped.f at H
 have HS:St [] h0 w0 h0 [] w0:=St.init hv
 go_enter Tryd.func48,Tryd.ntmps48
 refine wp_seq ?_
 refine region ?_
 refine run_ex rfl rfl (does_box (cs:=#[vL A0_0 a0.vDefs.length c0_0]) rfl rfl) ?_
 rintro w1 _ hE1 ⟨b1,rfl,ge1,hb1⟩
 have HS1:=HS.new hE1 ge1 hb1
 refine run_ex rfl rfl (does_box (cs:=#[vI a1.vKind,vS a1.vName,vI a1.vInt.vSize,vB a1.vInt.vSigned,vI a1.vRef,vI a1.vN,vL A1_6 a1.vFields.length c1_6]) rfl rfl) ?_
 rintro w2 _ hE2 ⟨b2,rfl,ge2,hb2⟩
 have HS2:=HS1.new hE2 ge2 hb2
 refine rs (vB false) (r_assign rfl) ?_
 try simp only [sc0,sc1]
 refine run_nil ?_
 refine norm_then ?_
 refine wp_seq ?_
 refine wp_seq ?_
 refine region ?_
 refine rs (vP b2 0) (r_fieldBox (n:=1) (o':=0) rfl Tryd.runUnderlying34 rfl Tryd.sizeOf3 (by decide) rfl) ?_
 refine rs (vI a1.vKind) (r_loadBox rfl Tryd.isAgg3 (HS2.look 0 rfl) rfl) ?_
 refine rs (vB (decide (a1.vKind<1))) (r_bin rfl rfl rfl) ?_
 refine rs (vB (decide (a1.vKind<1))) (r_move rfl) ?_
 refine run_frame (by simp only [sc0,sc1];rfl) ?_
 refine rgs (decide (a1.vKind<1)) true (vP b2 0) rfl rfl rfl rfl (fun hg=>(r_fieldBox (n:=1) (o':=0) rfl Tryd.runUnderlying34 rfl Tryd.sizeOf3 (by decide) rfl)) ?_
 refine rgs (decide (a1.vKind<1)) true (vI a1.vKind) rfl rfl rfl rfl (fun hg=>(r_loadBox (gvt (vP b2 0) hg rfl) Tryd.isAgg3 (HS2.look 0 rfl) rfl)) ?_
 refine rgs (decide (a1.vKind<1)) true (vB (decide (a1.vKind>6))) rfl rfl rfl rfl (fun hg=>(r_bin (gvt (vI a1.vKind) hg rfl) rfl rfl)) ?_
 refine rs (vB ((decide (a1.vKind<1))||(decide (a1.vKind>6)))) (r_pick_or rfl rfl (fun hp=>(gvt (vB (decide (a1.vKind>6))) (and_i rfl hp) rfl))) ?_
 refine run_frame (by simp only [sc0,sc1];rfl) ?_
 refine rs (vB ((decide (a1.vKind<1))||(decide (a1.vKind>6)))) (r_move rfl) ?_
 refine rgs ((decide (a1.vKind<1))||(decide (a1.vKind>6))) true (Value.agg #[vI a1.vKind,vS a1.vName,vI a1.vInt.vSize,vB a1.vInt.vSigned,vI a1.vRef,vI a1.vN,vL A1_6 a1.vFields.length c1_6]) rfl rfl rfl rfl (fun hg=>(r_loadBoxAgg (n:=7) (vs:=[vI a1.vKind,vS a1.vName,vI a1.vInt.vSize,vB a1.vInt.vSigned,vI a1.vRef,vI a1.vN,vL A1_6 a1.vFields.length c1_6]) rfl Tryd.isAgg34 (HS2.look 0 rfl) Tryd.sizeOf34 rfl rfl)) ?_
 obtain ⟨v1,H1,H⟩:=of_bind H
 refine run_g (b:=((decide (a1.vKind<1))||(decide (a1.vKind>6)))) (c:=true) (v:=vB v1) rfl rfl rfl rfl (fun hg=>(does_call_eq Tryd.call94 rfl (map1 (gvt (Value.agg #[vI a1.vKind,vS a1.vName,vI a1.vInt.vSize,vB a1.vInt.vSigned,vI a1.vRef,vI a1.vN,vL A1_6 a1.vFields.length c1_6]) hg rfl)) (taplineref08_unused.calls a1 A1_6 c1_6 HS2.sees hr1_6 hc1_6 (of_pos H1 hg)))) ?_
 intro w3 hE3
 have HS3:=HS2.step hE3
 refine rgs ((decide (a1.vKind<1))||(decide (a1.vKind>6))) true (vB (!v1)) rfl rfl rfl rfl (fun hg=>(r_not (gvt (vB v1) hg rfl))) ?_
 refine run_frame (by simp only [sc0,sc1];rfl) ?_
 refine rs (vB (((decide (a1.vKind<1))||(decide (a1.vKind>6)))||(!v1))) (r_pick_or rfl rfl (fun hp=>(gvt (vB (!v1)) (and_i rfl hp) rfl))) ?_
 refine rs (vB (((decide (a1.vKind<1))||(decide (a1.vKind>6)))||(!v1))) (r_move rfl) ?_
 refine rgs (((decide (a1.vKind<1))||(decide (a1.vKind>6)))||(!v1)) true (Value.agg #[vI a1.vKind,vS a1.vName,vI a1.vInt.vSize,vB a1.vInt.vSigned,vI a1.vRef,vI a1.vN,vL A1_6 a1.vFields.length c1_6]) rfl rfl rfl rfl (fun hg=>(r_loadBoxAgg (n:=7) (vs:=[vI a1.vKind,vS a1.vName,vI a1.vInt.vSize,vB a1.vInt.vSigned,vI a1.vRef,vI a1.vN,vL A1_6 a1.vFields.length c1_6]) rfl Tryd.isAgg34 (HS3.look 0 rfl) Tryd.sizeOf34 rfl rfl)) ?_
 obtain ⟨v2,H2,H⟩:=of_bind H
 refine run_g (b:=(((decide (a1.vKind<1))||(decide (a1.vKind>6)))||(!v1))) (c:=true) (v:=vB v2) rfl rfl rfl rfl (fun hg=>(does_call_eq Tryd.call49 rfl (map1 (gvt (Value.agg #[vI a1.vKind,vS a1.vName,vI a1.vInt.vSize,vB a1.vInt.vSigned,vI a1.vRef,vI a1.vN,vL A1_6 a1.vFields.length c1_6]) hg rfl)) (taplineref08_Named.calls a1 A1_6 c1_6 HS3.sees hr1_6 hc1_6 (of_pos H2 hg)))) ?_
 intro w4 hE4
 have HS4:=HS3.step hE4
 refine run_frame (by simp only [sc0,sc1];rfl) ?_
 refine rgs (((decide (a1.vKind<1))||(decide (a1.vKind>6)))||(!v1)) true (vB v2) rfl rfl rfl rfl (fun hg=>(r_move (gvt (vB v2) hg rfl))) ?_
 refine rgs v2 (true&&((((decide (a1.vKind<1))||(decide (a1.vKind>6)))||(!v1))==false)) (vP b2 1) rfl rfl rfl rfl (fun hg=>(r_fieldBox (n:=1) (o':=1) rfl Tryd.runUnderlying34 rfl Tryd.sizeOf9 (by decide) rfl)) ?_
 refine rgs v2 (true&&((((decide (a1.vKind<1))||(decide (a1.vKind>6)))||(!v1))==false)) (vS a1.vName) rfl rfl rfl rfl (fun hg=>(r_loadBox (gvt (vP b2 1) hg rfl) Tryd.isAgg9 (HS4.look 0 rfl) rfl)) ?_
 obtain ⟨v3,H3,H⟩:=of_bind H
 refine run_g (b:=v2) (c:=(true&&((((decide (a1.vKind<1))||(decide (a1.vKind>6)))||(!v1))==false))) (v:=vB v3) rfl rfl rfl rfl (fun hg=>(does_call_eq Tryd.call95 rfl (map1 (gvt (vS a1.vName) hg rfl)) (taplineref08_Name.calls k a1.vName HS4.sees (of_pos H3 hg)))) ?_
 intro w5 hE5
 have HS5:=HS4.step hE5
 refine run_frame (by simp only [sc0,sc1];rfl) ?_
 refine rgs v2 (true&&((((decide (a1.vKind<1))||(decide (a1.vKind>6)))||(!v1))==false)) (vB (!v3)) rfl rfl rfl rfl (fun hg=>(r_not (gvt (vB v3) hg rfl))) ?_
 refine rgs (((decide (a1.vKind<1))||(decide (a1.vKind>6)))||(!v1)) true (vB (v2&&(!v3))) rfl rfl rfl rfl (fun hg=>(r_pick_and (gvt (vB v2) hg rfl) (fun hp=>(gvt (vB (!v3)) (and_i hg hp) rfl)) rfl)) ?_
 refine rs (vB ((((decide (a1.vKind<1))||(decide (a1.vKind>6)))||(!v1))||(v2&&(!v3)))) (r_pick_or rfl rfl (fun hp=>(gvt (vB (v2&&(!v3))) (and_i rfl hp) rfl))) ?_
 try simp only [sc0,sc1]
 refine run_nil ?_
 refine norm_then ?_
 refine wp_cond_split (t:=((((decide (a1.vKind<1))||(decide (a1.vKind>6)))||(!v1))||(v2&&(!v3)))) rfl (fun c1=>?_) (fun c1=>?_)
 ·replace H:=of_pos H c1
  refine wp_seq ?_
  refine region ?_
  refine rs (vB false) (r_assign rfl) ?_
  try simp only [sc0,sc1]
  refine run_nil ?_
  refine norm_then ?_
  refine wp_ret ?_
  refine ret_then ?_
  obtain rfl:=Option.some.inj H
  refine bodyPost_ret (results_1 rfl (one_tmp rfl)) rfl ?_
  exact ⟨rfl,HS5.toE⟩
 ·replace H:=of_neg H (nt c1)
  refine wp_skip ?_
  refine norm_then ?_
  refine wp_seq ?_
  refine wp_seq ?_
  refine region ?_
  refine rs (vP b2 0) (r_fieldBox (n:=1) (o':=0) rfl Tryd.runUnderlying34 rfl Tryd.sizeOf3 (by decide) rfl) ?_
  refine rs (vI a1.vKind) (r_loadBox rfl Tryd.isAgg3 (HS5.look 0 rfl) rfl) ?_
  try simp only [sc0,sc1]
  refine run_nil ?_
  refine norm_then ?_
  refine wp_block ?_
  refine wp_seq ?_
  refine region ?_
  refine rs (vB (a1.vKind==1)) (r_bin rfl rfl rfl) ?_
  refine rs (vB (a1.vKind==1)) (r_assign rfl) ?_
  try simp only [sc0,sc1]
  refine run_nil ?_
  refine norm_then ?_
  refine wp_cond_split (t:=(a1.vKind==1)) rfl (fun c2=>?_) (fun c2=>?_)
  ·replace H:=of_pos H c2
   refine wp_seq ?_
   refine region ?_
   refine rs (vP b2 2) (r_fieldBox (n:=2) (o':=2) rfl Tryd.runUnderlying34 rfl Tryd.sizeOf31 (by decide) rfl) ?_
   refine rs (vP b2 2) (r_fieldBox (n:=1) (o':=2) rfl Tryd.runUnderlying31 rfl Tryd.sizeOf3 (by decide) rfl) ?_
   refine rs (vI a1.vInt.vSize) (r_loadBox rfl Tryd.isAgg3 (HS5.look 0 rfl) rfl) ?_
   refine rs (vB (a1.vInt.vSize==1)) (r_bin rfl rfl rfl) ?_
   refine run_frame (by simp only [sc0,sc1];rfl) ?_
   refine rs (vB (a1.vInt.vSize==1)) (r_move rfl) ?_
   refine rgs (a1.vInt.vSize==1) true (vP b2 2) rfl rfl rfl rfl (fun hg=>(r_fieldBox (n:=2) (o':=2) rfl Tryd.runUnderlying34 rfl Tryd.sizeOf31 (by decide) rfl)) ?_
   refine rgs (a1.vInt.vSize==1) true (vP b2 2) rfl rfl rfl rfl (fun hg=>(r_fieldBox (n:=1) (o':=2) (gvt (vP b2 2) hg rfl) Tryd.runUnderlying31 rfl Tryd.sizeOf3 (by decide) rfl)) ?_
   refine rgs (a1.vInt.vSize==1) true (vI a1.vInt.vSize) rfl rfl rfl rfl (fun hg=>(r_loadBox (gvt (vP b2 2) hg rfl) Tryd.isAgg3 (HS5.look 0 rfl) rfl)) ?_
   refine run_frame (by simp only [sc0,sc1];rfl) ?_
   refine rgs (a1.vInt.vSize==1) true (vB (a1.vInt.vSize==2)) rfl rfl rfl rfl (fun hg=>(r_bin (gvt (vI a1.vInt.vSize) hg rfl) rfl rfl)) ?_
   refine rs (vB ((a1.vInt.vSize==1)||(a1.vInt.vSize==2))) (r_pick_or rfl rfl (fun hp=>(gvt (vB (a1.vInt.vSize==2)) (and_i rfl hp) rfl))) ?_
   refine rs (vB ((a1.vInt.vSize==1)||(a1.vInt.vSize==2))) (r_move rfl) ?_
   refine rgs ((a1.vInt.vSize==1)||(a1.vInt.vSize==2)) true (vP b2 2) rfl rfl rfl rfl (fun hg=>(r_fieldBox (n:=2) (o':=2) rfl Tryd.runUnderlying34 rfl Tryd.sizeOf31 (by decide) rfl)) ?_
   refine run_frame (by simp only [sc0,sc1];rfl) ?_
   refine rgs ((a1.vInt.vSize==1)||(a1.vInt.vSize==2)) true (vP b2 2) rfl rfl rfl rfl (fun hg=>(r_fieldBox (n:=1) (o':=2) (gvt (vP b2 2) hg rfl) Tryd.runUnderlying31 rfl Tryd.sizeOf3 (by decide) rfl)) ?_
   refine rgs ((a1.vInt.vSize==1)||(a1.vInt.vSize==2)) true (vI a1.vInt.vSize) rfl rfl rfl rfl (fun hg=>(r_loadBox (gvt (vP b2 2) hg rfl) Tryd.isAgg3 (HS5.look 0 rfl) rfl)) ?_
   refine rgs ((a1.vInt.vSize==1)||(a1.vInt.vSize==2)) true (vB (a1.vInt.vSize==4)) rfl rfl rfl rfl (fun hg=>(r_bin (gvt (vI a1.vInt.vSize) hg rfl) rfl rfl)) ?_
   refine rs (vB (((a1.vInt.vSize==1)||(a1.vInt.vSize==2))||(a1.vInt.vSize==4))) (r_pick_or rfl rfl (fun hp=>(gvt (vB (a1.vInt.vSize==4)) (and_i rfl hp) rfl))) ?_
   refine run_frame (by simp only [sc0,sc1];rfl) ?_
   refine rs (vB (((a1.vInt.vSize==1)||(a1.vInt.vSize==2))||(a1.vInt.vSize==4))) (r_move rfl) ?_
   refine rgs (((a1.vInt.vSize==1)||(a1.vInt.vSize==2))||(a1.vInt.vSize==4)) true (vP b2 2) rfl rfl rfl rfl (fun hg=>(r_fieldBox (n:=2) (o':=2) rfl Tryd.runUnderlying34 rfl Tryd.sizeOf31 (by decide) rfl)) ?_
   refine rgs (((a1.vInt.vSize==1)||(a1.vInt.vSize==2))||(a1.vInt.vSize==4)) true (vP b2 2) rfl rfl rfl rfl (fun hg=>(r_fieldBox (n:=1) (o':=2) (gvt (vP b2 2) hg rfl) Tryd.runUnderlying31 rfl Tryd.sizeOf3 (by decide) rfl)) ?_
   refine rgs (((a1.vInt.vSize==1)||(a1.vInt.vSize==2))||(a1.vInt.vSize==4)) true (vI a1.vInt.vSize) rfl rfl rfl rfl (fun hg=>(r_loadBox (gvt (vP b2 2) hg rfl) Tryd.isAgg3 (HS5.look 0 rfl) rfl)) ?_
   refine run_frame (by simp only [sc0,sc1];rfl) ?_
   refine rgs (((a1.vInt.vSize==1)||(a1.vInt.vSize==2))||(a1.vInt.vSize==4)) true (vB (a1.vInt.vSize==8)) rfl rfl rfl rfl (fun hg=>(r_bin (gvt (vI a1.vInt.vSize) hg rfl) rfl rfl)) ?_
   refine rs (vB ((((a1.vInt.vSize==1)||(a1.vInt.vSize==2))||(a1.vInt.vSize==4))||(a1.vInt.vSize==8))) (r_pick_or rfl rfl (fun hp=>(gvt (vB (a1.vInt.vSize==8)) (and_i rfl hp) rfl))) ?_
   refine rs (vB ((((a1.vInt.vSize==1)||(a1.vInt.vSize==2))||(a1.vInt.vSize==4))||(a1.vInt.vSize==8))) (r_assign rfl) ?_
   try simp only [sc0,sc1]
   refine run_nil ?_
   refine norm_then ?_
   refine wp_ret ?_
   refine ret_block ?_
   refine ret_then ?_
   obtain rfl:=Option.some.inj H
   refine bodyPost_ret (results_1 rfl (one_tmp rfl)) rfl ?_
   exact ⟨rfl,HS5.toE⟩
  ·replace H:=of_neg H (nt c2)
   refine wp_seq ?_
   refine wp_seq ?_
   refine region ?_
   refine rs (vB (a1.vKind==2)) (r_bin rfl rfl rfl) ?_
   refine rs (vB (a1.vKind==2)) (r_assign rfl) ?_
   try simp only [sc0,sc1]
   refine run_nil ?_
   refine norm_then ?_
   obtain ⟨xx1,H,G1⟩:=of_bind H
   refine cut_patch [56,58] (fun us w'=>∃(uj1_58:Value),us=[vB xx1,uj1_58]∧St [] h0 w0 h0 [(some b2, .cells #[vI a1.vKind,vS a1.vName,vI a1.vInt.vSize,vB a1.vInt.vSigned,vI a1.vRef,vI a1.vN,vL A1_6 a1.vFields.length c1_6] 34 (0,0)),(some b1, .cells #[vL A0_0 a0.vDefs.length c0_0] 24 (0,0))] w') ?_ ?_
   ·refine wp_cond_split (t:=(a1.vKind==2)) rfl (fun c3=>?_) (fun c3=>?_)
    ·replace H:=of_pos H c3
     refine wp_skip ?_
     obtain rfl:=Option.some.inj H
     refine met [vB (a1.vKind==2),undef] (by simp only [patch,sc0,sc1]) ⟨_,rfl,HS5⟩
    ·replace H:=of_neg H (nt c3)
     refine region ?_
     refine rs (vB (a1.vKind==6)) (r_bin rfl rfl rfl) ?_
     refine rs (vB (a1.vKind==6)) (r_assign rfl) ?_
     try simp only [sc0,sc1]
     refine run_nil ?_
     obtain rfl:=Option.some.inj H
     refine met [vB (a1.vKind==6),vB (a1.vKind==6)] (by simp only [patch,sc0,sc1]) ⟨_,rfl,HS5⟩
   ·rintro _ w6 ⟨uj1_58,rfl,HS6⟩
    replace H:=G1
    clear G1
    try simp only [patch,sc0,sc1]
    refine wp_cond_split (t:=xx1) rfl (fun c4=>?_) (fun c4=>?_)
    ·replace H:=of_pos H c4
     refine wp_seq ?_
     refine region ?_
     refine rs (Value.agg #[vL A0_0 a0.vDefs.length c0_0]) (r_loadBoxAgg (n:=1) (vs:=[vL A0_0 a0.vDefs.length c0_0]) rfl Tryd.isAgg24 (HS6.look 1 rfl) Tryd.sizeOf24 rfl rfl) ?_
     refine rs (vP b2 4) (r_fieldBox (n:=1) (o':=4) rfl Tryd.runUnderlying34 rfl Tryd.sizeOf3 (by decide) rfl) ?_
     refine rs (vI a1.vRef) (r_loadBox rfl Tryd.isAgg3 (HS6.look 0 rfl) rfl) ?_
     obtain ⟨v4,H4,H⟩:=of_bind H
     refine run_eq (v:=vB v4) rfl rfl (does_call_eq Tryd.call96 rfl rfl (taplineref08_Index.calls a0 a1.vRef A0_0 c0_0 HS6.sees hr0_0 hc0_0 H4)) ?_
     intro w7 hE6
     have HS7:=HS6.step hE6
     refine run_frame (by simp only [sc0,sc1];rfl) ?_
     refine rs (vB v4) (r_assign rfl) ?_
     try simp only [sc0,sc1]
     refine run_nil ?_
     refine norm_then ?_
     refine wp_ret ?_
     refine ret_block ?_
     refine ret_then ?_
     obtain rfl:=Option.some.inj H
     refine bodyPost_ret (results_1 rfl (one_tmp rfl)) rfl ?_
     exact ⟨rfl,HS7.toE⟩
    ·replace H:=of_neg H (nt c4)
     refine wp_seq ?_
     refine region ?_
     refine rs (vB (a1.vKind==3)) (r_bin rfl rfl rfl) ?_
     refine rs (vB (a1.vKind==3)) (r_assign rfl) ?_
     try simp only [sc0,sc1]
     refine run_nil ?_
     refine norm_then ?_
     refine wp_cond_split (t:=(a1.vKind==3)) rfl (fun c5=>?_) (fun c5=>?_)
     ·replace H:=of_pos H c5
      refine wp_seq ?_
      refine region ?_
      refine rs (Value.agg #[vL A0_0 a0.vDefs.length c0_0]) (r_loadBoxAgg (n:=1) (vs:=[vL A0_0 a0.vDefs.length c0_0]) rfl Tryd.isAgg24 (HS6.look 1 rfl) Tryd.sizeOf24 rfl rfl) ?_
      refine rs (vP b2 4) (r_fieldBox (n:=1) (o':=4) rfl Tryd.runUnderlying34 rfl Tryd.sizeOf3 (by decide) rfl) ?_
      refine rs (vI a1.vRef) (r_loadBox rfl Tryd.isAgg3 (HS6.look 0 rfl) rfl) ?_
      obtain ⟨v5,H5,H⟩:=of_bind H
      refine run_eq (v:=vB v5) rfl rfl (does_call_eq Tryd.call96 rfl rfl (taplineref08_Index.calls a0 a1.vRef A0_0 c0_0 HS6.sees hr0_0 hc0_0 H5)) ?_
      intro w8 hE7
      have HS8:=HS6.step hE7
      refine run_frame (by simp only [sc0,sc1];rfl) ?_
      refine rs (vB v5) (r_move rfl) ?_
      refine rgs v5 true (vP b2 5) rfl rfl rfl rfl (fun hg=>(r_fieldBox (n:=1) (o':=5) rfl Tryd.runUnderlying34 rfl Tryd.sizeOf3 (by decide) rfl)) ?_
      refine rgs v5 true (vI a1.vN) rfl rfl rfl rfl (fun hg=>(r_loadBox (gvt (vP b2 5) hg rfl) Tryd.isAgg3 (HS8.look 0 rfl) rfl)) ?_
      refine rgs v5 true (vB (decide (a1.vN≥1))) rfl rfl rfl rfl (fun hg=>(r_bin (gvt (vI a1.vN) hg rfl) rfl rfl)) ?_
      refine run_frame (by simp only [sc0,sc1];rfl) ?_
      refine rs (vB (v5&&(decide (a1.vN≥1)))) (r_pick_and rfl (fun hp=>(gvt (vB (decide (a1.vN≥1))) (and_i rfl hp) rfl)) rfl) ?_
      refine rs (vB (v5&&(decide (a1.vN≥1)))) (r_move rfl) ?_
      refine rgs (v5&&(decide (a1.vN≥1))) true (vP b2 5) rfl rfl rfl rfl (fun hg=>(r_fieldBox (n:=1) (o':=5) rfl Tryd.runUnderlying34 rfl Tryd.sizeOf3 (by decide) rfl)) ?_
      refine rgs (v5&&(decide (a1.vN≥1))) true (vI a1.vN) rfl rfl rfl rfl (fun hg=>(r_loadBox (gvt (vP b2 5) hg rfl) Tryd.isAgg3 (HS8.look 0 rfl) rfl)) ?_
      refine run_frame (by simp only [sc0,sc1];rfl) ?_
      refine rgs (v5&&(decide (a1.vN≥1))) true (vB (decide (a1.vN≤512))) rfl rfl rfl rfl (fun hg=>(r_bin (gvt (vI a1.vN) hg rfl) rfl rfl)) ?_
      refine rs (vB ((v5&&(decide (a1.vN≥1)))&&(decide (a1.vN≤512)))) (r_pick_and rfl (fun hp=>(gvt (vB (decide (a1.vN≤512))) (and_i rfl hp) rfl)) rfl) ?_
      refine rs (vB ((v5&&(decide (a1.vN≥1)))&&(decide (a1.vN≤512)))) (r_assign rfl) ?_
      try simp only [sc0,sc1]
      refine run_nil ?_
      refine norm_then ?_
      refine wp_ret ?_
      refine ret_block ?_
      refine ret_then ?_
      obtain rfl:=Option.some.inj H
      refine bodyPost_ret (results_1 rfl (one_tmp rfl)) rfl ?_
      exact ⟨rfl,HS8.toE⟩
     ·replace H:=of_neg H (nt c5)
      refine wp_skip ?_
      refine norm_block ?_
      refine norm_then ?_
      refine wp_seq ?_
      refine wp_seq ?_
      refine region ?_
      refine rs (vP b2 6) (r_fieldBox (n:=1) (o':=6) rfl Tryd.runUnderlying34 rfl Tryd.sizeOf32 (by decide) rfl) ?_
      refine rs (vL A1_6 a1.vFields.length c1_6) (r_loadBox rfl Tryd.isAgg32 (HS6.look 0 rfl) rfl) ?_
      obtain ⟨v6,H6,H⟩:=of_bind H
      refine run_eq (v:=vB v6) rfl rfl (does_call_eq Tryd.call97 rfl rfl (taplineref08_fields.calls k a1.vFields A1_6 c1_6 HS6.sees hr1_6 hc1_6 H6)) ?_
      intro w9 hE8
      have HS9:=HS6.step hE8
      refine rs (vB (!v6)) (r_not rfl) ?_
      try simp only [sc0,sc1]
      refine run_nil ?_
      refine norm_then ?_
      refine wp_cond_split (t:=(!v6)) rfl (fun c6=>?_) (fun c6=>?_)
      ·replace H:=of_pos H c6
       refine wp_seq ?_
       refine region ?_
       refine rs (vB false) (r_assign rfl) ?_
       try simp only [sc0,sc1]
       refine run_nil ?_
       refine norm_then ?_
       refine wp_ret ?_
       refine ret_then ?_
       obtain rfl:=Option.some.inj H
       refine bodyPost_ret (results_1 rfl (one_tmp rfl)) rfl ?_
       exact ⟨rfl,HS9.toE⟩
      ·replace H:=of_neg H (nt c6)
       refine wp_skip ?_
       refine norm_then ?_
       refine wp_seq ?_
       refine wp_seq ?_
       refine region ?_
       refine rs (vI 0) (r_assign rfl) ?_
       try simp only [sc0,sc1]
       refine run_nil ?_
       refine norm_then ?_
       obtain ⟨xx2,H,G2⟩:=of_bind H
       refine loop_patch [4,5,6,83,84,85,86,87,88,89,90,91,92,93,94,95,96,97,98,99,100,101,102,103,104,105,106,107,108,109,110,111,112,113,114,115,116,117,118,119,120,121,122] (fun m us w'=>∃y1_0:Int,∃uy1_4 uy1_6 uy1_83 uy1_84 uy1_85 uy1_86 uy1_87 uy1_88 uy1_89 uy1_90 uy1_91 uy1_92 uy1_93 uy1_94 uy1_95 uy1_96 uy1_97 uy1_98 uy1_99 uy1_100 uy1_101 uy1_102 uy1_103 uy1_104 uy1_105 uy1_106 uy1_107 uy1_108 uy1_109 uy1_110 uy1_111 uy1_112 uy1_113 uy1_114 uy1_115 uy1_116 uy1_117 uy1_118 uy1_119 uy1_120 uy1_121 uy1_122:Value,us=[uy1_4,vI y1_0,uy1_6,uy1_83,uy1_84,uy1_85,uy1_86,uy1_87,uy1_88,uy1_89,uy1_90,uy1_91,uy1_92,uy1_93,uy1_94,uy1_95,uy1_96,uy1_97,uy1_98,uy1_99,uy1_100,uy1_101,uy1_102,uy1_103,uy1_104,uy1_105,uy1_106,uy1_107,uy1_108,uy1_109,uy1_110,uy1_111,uy1_112,uy1_113,uy1_114,uy1_115,uy1_116,uy1_117,uy1_118,uy1_119,uy1_120,uy1_121,uy1_122]∧taplineref08_shaped.l0 a0 a1 m y1_0=some xx2∧St [] h0 w0 h0 [(some b2, .cells #[vI a1.vKind,vS a1.vName,vI a1.vInt.vSize,vB a1.vInt.vSigned,vI a1.vRef,vI a1.vN,vL A1_6 a1.vFields.length c1_6] 34 (0,0)),(some b1, .cells #[vL A0_0 a0.vDefs.length c0_0] 24 (0,0))] w') (fun us w'=>∃(s1:Unit),xx2= .inr s1∧∃uo1_4 uo1_5 uo1_6 uo1_83 uo1_84 uo1_85 uo1_86 uo1_87 uo1_88 uo1_89 uo1_90 uo1_91 uo1_92 uo1_93 uo1_94 uo1_95 uo1_96 uo1_97 uo1_98 uo1_99 uo1_100 uo1_101 uo1_102 uo1_103 uo1_104 uo1_105 uo1_106 uo1_107 uo1_108 uo1_109 uo1_110 uo1_111 uo1_112 uo1_113 uo1_114 uo1_115 uo1_116 uo1_117 uo1_118 uo1_119 uo1_120 uo1_121 uo1_122:Value,us=[uo1_4,uo1_5,uo1_6,uo1_83,uo1_84,uo1_85,uo1_86,uo1_87,uo1_88,uo1_89,uo1_90,uo1_91,uo1_92,uo1_93,uo1_94,uo1_95,uo1_96,uo1_97,uo1_98,uo1_99,uo1_100,uo1_101,uo1_102,uo1_103,uo1_104,uo1_105,uo1_106,uo1_107,uo1_108,uo1_109,uo1_110,uo1_111,uo1_112,uo1_113,uo1_114,uo1_115,uo1_116,uo1_117,uo1_118,uo1_119,uo1_120,uo1_121,uo1_122]∧St [] h0 w0 h0 [(some b2, .cells #[vI a1.vKind,vS a1.vName,vI a1.vInt.vSize,vB a1.vInt.vSigned,vI a1.vRef,vI a1.vN,vL A1_6 a1.vFields.length c1_6] 34 (0,0)),(some b1, .cells #[vL A0_0 a0.vDefs.length c0_0] 24 (0,0))] w') k [vB false,vI 0,undef,undef,undef,undef,undef,undef,undef,undef,undef,undef,undef,undef,undef,undef,undef,undef,undef,undef,undef,undef,undef,undef,undef,undef,undef,undef,undef,undef,undef,undef,undef,undef,undef,undef,undef,undef,undef,undef,undef,undef,undef] (by simp only [patch,sc0,sc1]) ⟨0,_,_,_,_,_,_,_,_,_,_,_,_,_,_,_,_,_,_,_,_,_,_,_,_,_,_,_,_,_,_,_,_,_,_,_,_,_,_,_,_,_,_,rfl,H,HS9⟩ ?_ ?_
       ·rintro m us w10 ⟨y1_0,uy1_4,uy1_6,uy1_83,uy1_84,uy1_85,uy1_86,uy1_87,uy1_88,uy1_89,uy1_90,uy1_91,uy1_92,uy1_93,uy1_94,uy1_95,uy1_96,uy1_97,uy1_98,uy1_99,uy1_100,uy1_101,uy1_102,uy1_103,uy1_104,uy1_105,uy1_106,uy1_107,uy1_108,uy1_109,uy1_110,uy1_111,uy1_112,uy1_113,uy1_114,uy1_115,uy1_116,uy1_117,uy1_118,uy1_119,uy1_120,uy1_121,uy1_122,rfl,H,HS10⟩
        cases m with
        |zero=>exact absurd H (by simp [taplineref08_shaped.l0])
        |succ m=>
         rw [taplineref08_shaped.l0] at H
         try simp only [patch,sc0,sc1]
         refine wp_seq ?_
         refine wp_seq ?_
         refine region ?_
         refine rs (vI y1_0) (r_move rfl) ?_
         refine rs (vP b2 6) (r_fieldBox (n:=1) (o':=6) rfl Tryd.runUnderlying34 rfl Tryd.sizeOf32 (by decide) rfl) ?_
         refine rs (vL A1_6 a1.vFields.length c1_6) (r_loadBox rfl Tryd.isAgg32 (HS10.look 0 rfl) rfl) ?_
         refine rs (vI (a1.vFields.length:Int)) (r_len rfl Tryd.runUnderlying32) ?_
         refine run_frame (by simp only [sc0,sc1];rfl) ?_
         refine rs (vB (decide (y1_0<(a1.vFields.length:Int)))) (r_bin rfl rfl rfl) ?_
         try simp only [sc0,sc1]
         refine run_nil ?_
         refine norm_then ?_
         refine wp_cond_split (t:=(decide (y1_0<(a1.vFields.length:Int)))) rfl (fun c7=>?_) (fun c7=>?_)
         ·replace H:=of_pos H c7
          refine wp_skip ?_
          refine norm_then ?_
          refine wp_seq ?_
          refine wp_block ?_
          refine wp_seq ?_
          refine region ?_
          refine rs (vP b2 6) (r_fieldBox (n:=1) (o':=6) rfl Tryd.runUnderlying34 rfl Tryd.sizeOf32 (by decide) rfl) ?_
          refine rs (vL A1_6 a1.vFields.length c1_6) (r_loadBox rfl Tryd.isAgg32 (HS10.look 0 rfl) rfl) ?_
          refine rs (vI y1_0) (r_move rfl) ?_
          obtain ⟨hi1,H⟩:=of_ite H
          obtain ⟨ad1,e1,hel1⟩:=ld_api_Field hr1_6 hi1.1 hi1.2
          refine rs (Value.pointer (some (Addr.add ad1 (y1_0.toNat*3)))) (r_indexA (sz:=3) rfl e1 rfl hi1.1 hi1.2 Tryd.runUnderlying32 Tryd.sizeOf36) ?_
          refine run_frame (by simp only [sc0,sc1];rfl) ?_
          refine rs (Value.agg #[vS ((rd z_api_Field a1.vFields y1_0).vName),vI ((rd z_api_Field a1.vFields y1_0).vType),vI ((rd z_api_Field a1.vFields y1_0).vAt)]) (r_loadAgg rfl Tryd.isAgg36 (hel1.sees HS10.sees) Tryd.sizeOf36) ?_
          refine run_ex rfl rfl (does_alloc (cs:=#[vS ByteArray.empty,vI 0,vI 0]) Tryd.zeroValue36 rfl) ?_
          rintro w11 _ hE9 ⟨b3,rfl,ge3,hb3⟩
          have HS11:=HS10.new hE9 ge3 hb3
          refine run_st (i:=0) (cs:=[vS ByteArray.empty,vI 0,vI 0]) (cs':=[vS ((rd z_api_Field a1.vFields y1_0).vName),vI ((rd z_api_Field a1.vFields y1_0).vType),vI ((rd z_api_Field a1.vFields y1_0).vAt)]) (vs:=[vS ((rd z_api_Field a1.vFields y1_0).vName),vI ((rd z_api_Field a1.vFields y1_0).vType),vI ((rd z_api_Field a1.vFields y1_0).vAt)]) (bs':=[(some b3, .cells #[vS ((rd z_api_Field a1.vFields y1_0).vName),vI ((rd z_api_Field a1.vFields y1_0).vType),vI ((rd z_api_Field a1.vFields y1_0).vAt)] 36 (0,0)),(some b2, .cells #[vI a1.vKind,vS a1.vName,vI a1.vInt.vSize,vB a1.vInt.vSigned,vI a1.vRef,vI a1.vN,vL A1_6 a1.vFields.length c1_6] 34 (0,0)),(some b1, .cells #[vL A0_0 a0.vDefs.length c0_0] 24 (0,0))]) rfl rfl Tryd.sizeOf36 rfl rfl (by decide) rfl HS11 rfl (Nat.le_of_ble_eq_true rfl) rfl rfl ?_
          intro w12 HS12
          try simp only [sc0,sc1]
          refine run_nil ?_
          refine norm_then ?_
          refine wp_seq ?_
          refine wp_seq ?_
          refine region ?_
          refine rs (vP b2 0) (r_fieldBox (n:=1) (o':=0) rfl Tryd.runUnderlying34 rfl Tryd.sizeOf3 (by decide) rfl) ?_
          refine rs (vI a1.vKind) (r_loadBox rfl Tryd.isAgg3 (HS12.look 1 rfl) rfl) ?_
          refine rs (vB (a1.vKind==4)) (r_bin rfl rfl rfl) ?_
          refine rs (vB (a1.vKind==4)) (r_move rfl) ?_
          refine run_frame (by simp only [sc0,sc1];rfl) ?_
          refine rgs (a1.vKind==4) true (Value.agg #[vL A0_0 a0.vDefs.length c0_0]) rfl rfl rfl rfl (fun hg=>(r_loadBoxAgg (n:=1) (vs:=[vL A0_0 a0.vDefs.length c0_0]) rfl Tryd.isAgg24 (HS12.look 2 rfl) Tryd.sizeOf24 rfl rfl)) ?_
          refine rgs (a1.vKind==4) true (vP b3 1) rfl rfl rfl rfl (fun hg=>(r_fieldBox (n:=1) (o':=1) rfl Tryd.runUnderlying36 rfl Tryd.sizeOf3 (by decide) rfl)) ?_
          refine rgs (a1.vKind==4) true (vI ((rd z_api_Field a1.vFields y1_0).vType)) rfl rfl rfl rfl (fun hg=>(r_loadBox (gvt (vP b3 1) hg rfl) Tryd.isAgg3 (HS12.look 0 rfl) rfl)) ?_
          obtain ⟨v7,H7,H⟩:=of_bind H
          refine run_g (b:=(a1.vKind==4)) (c:=true) (v:=vB v7) rfl rfl rfl rfl (fun hg=>(does_call_eq Tryd.call96 rfl (map2 (gvt (Value.agg #[vL A0_0 a0.vDefs.length c0_0]) hg rfl) (gvt (vI ((rd z_api_Field a1.vFields y1_0).vType)) hg rfl)) (taplineref08_Index.calls a0 ((rd z_api_Field a1.vFields y1_0).vType) A0_0 c0_0 HS12.sees hr0_0 hc0_0 (of_pos H7 hg)))) ?_
          intro w13 hE10
          have HS13:=HS12.step hE10
          refine run_frame (by simp only [sc0,sc1];rfl) ?_
          refine rgs (a1.vKind==4) true (vB (!v7)) rfl rfl rfl rfl (fun hg=>(r_not (gvt (vB v7) hg rfl))) ?_
          refine rs (vB ((a1.vKind==4)&&(!v7))) (r_pick_and rfl (fun hp=>(gvt (vB (!v7)) (and_i rfl hp) rfl)) rfl) ?_
          try simp only [sc0,sc1]
          refine run_nil ?_
          refine norm_then ?_
          refine wp_cond_split (t:=((a1.vKind==4)&&(!v7))) rfl (fun c8=>?_) (fun c8=>?_)
          ·replace H:=of_pos H c8
           refine wp_seq ?_
           refine region ?_
           refine rs (vB false) (r_assign rfl) ?_
           try simp only [sc0,sc1]
           refine run_nil ?_
           refine norm_then ?_
           refine wp_ret ?_
           refine ret_then ?_
           refine ret_block ?_
           refine ret_then ?_
           refine ret_loop ?_
           refine ret_then ?_
           obtain rfl:=Option.some.inj H
           obtain rfl:=Option.some.inj G2
           refine bodyPost_ret (results_1 rfl (one_tmp rfl)) rfl ?_
           exact ⟨rfl,HS13.toE⟩
          ·replace H:=of_neg H (nt c8)
           refine wp_skip ?_
           refine norm_then ?_
           refine wp_seq ?_
           refine region ?_
           refine rs (vP b2 0) (r_fieldBox (n:=1) (o':=0) rfl Tryd.runUnderlying34 rfl Tryd.sizeOf3 (by decide) rfl) ?_
           refine rs (vI a1.vKind) (r_loadBox rfl Tryd.isAgg3 (HS13.look 1 rfl) rfl) ?_
           refine rs (vB (a1.vKind==5)) (r_bin rfl rfl rfl) ?_
           refine rs (vB (a1.vKind==5)) (r_move rfl) ?_
           refine run_frame (by simp only [sc0,sc1];rfl) ?_
           refine rgs (a1.vKind==5) true (vP b3 1) rfl rfl rfl rfl (fun hg=>(r_fieldBox (n:=1) (o':=1) rfl Tryd.runUnderlying36 rfl Tryd.sizeOf3 (by decide) rfl)) ?_
           refine rgs (a1.vKind==5) true (vI ((rd z_api_Field a1.vFields y1_0).vType)) rfl rfl rfl rfl (fun hg=>(r_loadBox (gvt (vP b3 1) hg rfl) Tryd.isAgg3 (HS13.look 0 rfl) rfl)) ?_
           refine rgs (a1.vKind==5) true (vB ((rd z_api_Field a1.vFields y1_0).vType !=0)) rfl rfl rfl rfl (fun hg=>(r_bin (gvt (vI ((rd z_api_Field a1.vFields y1_0).vType)) hg rfl) rfl rfl)) ?_
           refine rgs (a1.vKind==5) true (vB ((rd z_api_Field a1.vFields y1_0).vType !=0)) rfl rfl rfl rfl (fun hg=>(r_move (gvt (vB ((rd z_api_Field a1.vFields y1_0).vType !=0)) hg rfl))) ?_
           refine run_frame (by simp only [sc0,sc1];rfl) ?_
           refine rgs ((rd z_api_Field a1.vFields y1_0).vType !=0) (true&&((a1.vKind==5)==true)) (vP b3 2) rfl rfl rfl rfl (fun hg=>(r_fieldBox (n:=1) (o':=2) rfl Tryd.runUnderlying36 rfl Tryd.sizeOf3 (by decide) rfl)) ?_
           refine rgs ((rd z_api_Field a1.vFields y1_0).vType !=0) (true&&((a1.vKind==5)==true)) (vI ((rd z_api_Field a1.vFields y1_0).vAt)) rfl rfl rfl rfl (fun hg=>(r_loadBox (gvt (vP b3 2) hg rfl) Tryd.isAgg3 (HS13.look 0 rfl) rfl)) ?_
           refine rgs ((rd z_api_Field a1.vFields y1_0).vType !=0) (true&&((a1.vKind==5)==true)) (vB (decide ((rd z_api_Field a1.vFields y1_0).vAt<(-2147483648)))) rfl rfl rfl rfl (fun hg=>(r_bin (gvt (vI ((rd z_api_Field a1.vFields y1_0).vAt)) hg rfl) rfl rfl)) ?_
           refine rgs (a1.vKind==5) true (vB (((rd z_api_Field a1.vFields y1_0).vType !=0)||(decide ((rd z_api_Field a1.vFields y1_0).vAt<(-2147483648))))) rfl rfl rfl rfl (fun hg=>(r_pick_or (gvt (vB ((rd z_api_Field a1.vFields y1_0).vType !=0)) hg rfl) rfl (fun hp=>(gvt (vB (decide ((rd z_api_Field a1.vFields y1_0).vAt<(-2147483648)))) (and_i hg hp) rfl)))) ?_
           refine run_frame (by simp only [sc0,sc1];rfl) ?_
           refine rgs (a1.vKind==5) true (vB (((rd z_api_Field a1.vFields y1_0).vType !=0)||(decide ((rd z_api_Field a1.vFields y1_0).vAt<(-2147483648))))) rfl rfl rfl rfl (fun hg=>(r_move (gvt (vB (((rd z_api_Field a1.vFields y1_0).vType !=0)||(decide ((rd z_api_Field a1.vFields y1_0).vAt<(-2147483648))))) hg rfl))) ?_
           refine rgs (((rd z_api_Field a1.vFields y1_0).vType !=0)||(decide ((rd z_api_Field a1.vFields y1_0).vAt<(-2147483648)))) (true&&((a1.vKind==5)==true)) (vP b3 2) rfl rfl rfl rfl (fun hg=>(r_fieldBox (n:=1) (o':=2) rfl Tryd.runUnderlying36 rfl Tryd.sizeOf3 (by decide) rfl)) ?_
           refine rgs (((rd z_api_Field a1.vFields y1_0).vType !=0)||(decide ((rd z_api_Field a1.vFields y1_0).vAt<(-2147483648)))) (true&&((a1.vKind==5)==true)) (vI ((rd z_api_Field a1.vFields y1_0).vAt)) rfl rfl rfl rfl (fun hg=>(r_loadBox (gvt (vP b3 2) hg rfl) Tryd.isAgg3 (HS13.look 0 rfl) rfl)) ?_
           refine rgs (((rd z_api_Field a1.vFields y1_0).vType !=0)||(decide ((rd z_api_Field a1.vFields y1_0).vAt<(-2147483648)))) (true&&((a1.vKind==5)==true)) (vB (decide ((rd z_api_Field a1.vFields y1_0).vAt>2147483647))) rfl rfl rfl rfl (fun hg=>(r_bin (gvt (vI ((rd z_api_Field a1.vFields y1_0).vAt)) hg rfl) rfl rfl)) ?_
           refine run_frame (by simp only [sc0,sc1];rfl) ?_
           refine rgs (a1.vKind==5) true (vB ((((rd z_api_Field a1.vFields y1_0).vType !=0)||(decide ((rd z_api_Field a1.vFields y1_0).vAt<(-2147483648))))||(decide ((rd z_api_Field a1.vFields y1_0).vAt>2147483647)))) rfl rfl rfl rfl (fun hg=>(r_pick_or (gvt (vB (((rd z_api_Field a1.vFields y1_0).vType !=0)||(decide ((rd z_api_Field a1.vFields y1_0).vAt<(-2147483648))))) hg rfl) rfl (fun hp=>(gvt (vB (decide ((rd z_api_Field a1.vFields y1_0).vAt>2147483647))) (and_i hg hp) rfl)))) ?_
           refine rs (vB ((a1.vKind==5)&&((((rd z_api_Field a1.vFields y1_0).vType !=0)||(decide ((rd z_api_Field a1.vFields y1_0).vAt<(-2147483648))))||(decide ((rd z_api_Field a1.vFields y1_0).vAt>2147483647))))) (r_pick_and rfl (fun hp=>(gvt (vB ((((rd z_api_Field a1.vFields y1_0).vType !=0)||(decide ((rd z_api_Field a1.vFields y1_0).vAt<(-2147483648))))||(decide ((rd z_api_Field a1.vFields y1_0).vAt>2147483647)))) (and_i rfl hp) rfl)) rfl) ?_
           try simp only [sc0,sc1]
           refine run_nil ?_
           refine norm_then ?_
           refine wp_cond_split (t:=((a1.vKind==5)&&((((rd z_api_Field a1.vFields y1_0).vType !=0)||(decide ((rd z_api_Field a1.vFields y1_0).vAt<(-2147483648))))||(decide ((rd z_api_Field a1.vFields y1_0).vAt>2147483647))))) rfl (fun c9=>?_) (fun c9=>?_)
           ·replace H:=of_pos H c9
            refine wp_seq ?_
            refine region ?_
            refine rs (vB false) (r_assign rfl) ?_
            try simp only [sc0,sc1]
            refine run_nil ?_
            refine norm_then ?_
            refine wp_ret ?_
            refine ret_block ?_
            refine ret_then ?_
            refine ret_loop ?_
            refine ret_then ?_
            obtain rfl:=Option.some.inj H
            obtain rfl:=Option.some.inj G2
            refine bodyPost_ret (results_1 rfl (one_tmp rfl)) rfl ?_
            exact ⟨rfl,HS13.toE⟩
           ·replace H:=of_neg H (nt c9)
            refine wp_skip ?_
            refine norm_block ?_
            refine norm_then ?_
            refine region ?_
            refine rs (vI y1_0) (r_move rfl) ?_
            refine rs (vI (w64 (y1_0+1))) (r_bin rfl rfl rfl) ?_
            refine rs (vI (w64 (y1_0+1))) (r_assign rfl) ?_
            try simp only [sc0,sc1]
            refine run_nil ?_
            refine again m [uy1_4,vI (w64 (y1_0+1)),vP b3 0,vI y1_0,vP b2 6,vL A1_6 a1.vFields.length c1_6,vI (a1.vFields.length:Int),vB (decide (y1_0<(a1.vFields.length:Int))),vI y1_0,vI (w64 (y1_0+1)),vP b2 6,vL A1_6 a1.vFields.length c1_6,vI y1_0,Value.pointer (some (Addr.add ad1 (y1_0.toNat*3))),Value.agg #[vS ((rd z_api_Field a1.vFields y1_0).vName),vI ((rd z_api_Field a1.vFields y1_0).vType),vI ((rd z_api_Field a1.vFields y1_0).vAt)],vP b2 0,vI a1.vKind,vB (a1.vKind==4),vB (a1.vKind==4),gv (true&&((a1.vKind==4)==true)) (Value.agg #[vL A0_0 a0.vDefs.length c0_0]),gv (true&&((a1.vKind==4)==true)) (vP b3 1),gv (true&&((a1.vKind==4)==true)) (vI ((rd z_api_Field a1.vFields y1_0).vType)),gv (true&&((a1.vKind==4)==true)) (vB v7),gv (true&&((a1.vKind==4)==true)) (vB (!v7)),vB ((a1.vKind==4)&&(!v7)),vP b2 0,vI a1.vKind,vB (a1.vKind==5),vB (a1.vKind==5),gv (true&&((a1.vKind==5)==true)) (vP b3 1),gv (true&&((a1.vKind==5)==true)) (vI ((rd z_api_Field a1.vFields y1_0).vType)),gv (true&&((a1.vKind==5)==true)) (vB ((rd z_api_Field a1.vFields y1_0).vType !=0)),gv (true&&((a1.vKind==5)==true)) (vB ((rd z_api_Field a1.vFields y1_0).vType !=0)),gv ((true&&((a1.vKind==5)==true))&&(((rd z_api_Field a1.vFields y1_0).vType !=0)==false)) (vP b3 2),gv ((true&&((a1.vKind==5)==true))&&(((rd z_api_Field a1.vFields y1_0).vType !=0)==false)) (vI ((rd z_api_Field a1.vFields y1_0).vAt)),gv ((true&&((a1.vKind==5)==true))&&(((rd z_api_Field a1.vFields y1_0).vType !=0)==false)) (vB (decide ((rd z_api_Field a1.vFields y1_0).vAt<(-2147483648)))),gv (true&&((a1.vKind==5)==true)) (vB (((rd z_api_Field a1.vFields y1_0).vType !=0)||(decide ((rd z_api_Field a1.vFields y1_0).vAt<(-2147483648))))),gv (true&&((a1.vKind==5)==true)) (vB (((rd z_api_Field a1.vFields y1_0).vType !=0)||(decide ((rd z_api_Field a1.vFields y1_0).vAt<(-2147483648))))),gv ((true&&((a1.vKind==5)==true))&&((((rd z_api_Field a1.vFields y1_0).vType !=0)||(decide ((rd z_api_Field a1.vFields y1_0).vAt<(-2147483648))))==false)) (vP b3 2),gv ((true&&((a1.vKind==5)==true))&&((((rd z_api_Field a1.vFields y1_0).vType !=0)||(decide ((rd z_api_Field a1.vFields y1_0).vAt<(-2147483648))))==false)) (vI ((rd z_api_Field a1.vFields y1_0).vAt)),gv ((true&&((a1.vKind==5)==true))&&((((rd z_api_Field a1.vFields y1_0).vType !=0)||(decide ((rd z_api_Field a1.vFields y1_0).vAt<(-2147483648))))==false)) (vB (decide ((rd z_api_Field a1.vFields y1_0).vAt>2147483647))),gv (true&&((a1.vKind==5)==true)) (vB ((((rd z_api_Field a1.vFields y1_0).vType !=0)||(decide ((rd z_api_Field a1.vFields y1_0).vAt<(-2147483648))))||(decide ((rd z_api_Field a1.vFields y1_0).vAt>2147483647)))),vB ((a1.vKind==5)&&((((rd z_api_Field a1.vFields y1_0).vType !=0)||(decide ((rd z_api_Field a1.vFields y1_0).vAt<(-2147483648))))||(decide ((rd z_api_Field a1.vFields y1_0).vAt>2147483647))))] (Nat.lt_succ_self m) (by simp only [patch,sc0,sc1]) ⟨(w64 (y1_0+1)),_,_,_,_,_,_,_,_,_,_,_,_,_,_,_,_,_,_,_,_,_,_,_,_,_,_,_,_,_,_,_,_,_,_,_,_,_,_,_,_,_,_,rfl,H,HS13.tail⟩
         ·replace H:=of_neg H (nt c7)
          refine wp_exit ?_
          refine exit_then ?_
          obtain rfl:=Option.some.inj H
          refine leave [uy1_4,vI y1_0,uy1_6,vI y1_0,vP b2 6,vL A1_6 a1.vFields.length c1_6,vI (a1.vFields.length:Int),vB (decide (y1_0<(a1.vFields.length:Int))),uy1_88,uy1_89,uy1_90,uy1_91,uy1_92,uy1_93,uy1_94,uy1_95,uy1_96,uy1_97,uy1_98,uy1_99,uy1_100,uy1_101,uy1_102,uy1_103,uy1_104,uy1_105,uy1_106,uy1_107,uy1_108,uy1_109,uy1_110,uy1_111,uy1_112,uy1_113,uy1_114,uy1_115,uy1_116,uy1_117,uy1_118,uy1_119,uy1_120,uy1_121,uy1_122] (by simp only [patch,sc0,sc1]) ⟨_,rfl,_,_,_,_,_,_,_,_,_,_,_,_,_,_,_,_,_,_,_,_,_,_,_,_,_,_,_,_,_,_,_,_,_,_,_,_,_,_,_,_,_,_,_,rfl,HS10⟩
       ·rintro us w14 ⟨s1,rfl,uo1_4,uo1_5,uo1_6,uo1_83,uo1_84,uo1_85,uo1_86,uo1_87,uo1_88,uo1_89,uo1_90,uo1_91,uo1_92,uo1_93,uo1_94,uo1_95,uo1_96,uo1_97,uo1_98,uo1_99,uo1_100,uo1_101,uo1_102,uo1_103,uo1_104,uo1_105,uo1_106,uo1_107,uo1_108,uo1_109,uo1_110,uo1_111,uo1_112,uo1_113,uo1_114,uo1_115,uo1_116,uo1_117,uo1_118,uo1_119,uo1_120,uo1_121,uo1_122,rfl,HS14⟩
        replace H:=G2
        clear G2
        try simp only [patch,sc0,sc1]
        refine norm_then ?_
        refine wp_seq ?_
        refine region ?_
        refine rs (vP b2 0) (r_fieldBox (n:=1) (o':=0) rfl Tryd.runUnderlying34 rfl Tryd.sizeOf3 (by decide) rfl) ?_
        refine rs (vI a1.vKind) (r_loadBox rfl Tryd.isAgg3 (HS14.look 0 rfl) rfl) ?_
        refine rs (vB (a1.vKind==5)) (r_bin rfl rfl rfl) ?_
        refine rs (vB (a1.vKind==5)) (r_move rfl) ?_
        refine run_frame (by simp only [sc0,sc1];rfl) ?_
        refine rgs (a1.vKind==5) true (vP b2 5) rfl rfl rfl rfl (fun hg=>(r_fieldBox (n:=1) (o':=5) rfl Tryd.runUnderlying34 rfl Tryd.sizeOf3 (by decide) rfl)) ?_
        refine rgs (a1.vKind==5) true (vI a1.vN) rfl rfl rfl rfl (fun hg=>(r_loadBox (gvt (vP b2 5) hg rfl) Tryd.isAgg3 (HS14.look 0 rfl) rfl)) ?_
        refine rgs (a1.vKind==5) true (vB (decide (a1.vN≥1))) rfl rfl rfl rfl (fun hg=>(r_bin (gvt (vI a1.vN) hg rfl) rfl rfl)) ?_
        refine rgs (a1.vKind==5) true (vB (decide (a1.vN≥1))) rfl rfl rfl rfl (fun hg=>(r_move (gvt (vB (decide (a1.vN≥1))) hg rfl))) ?_
        refine run_frame (by simp only [sc0,sc1];rfl) ?_
        refine rgs (decide (a1.vN≥1)) (true&&((a1.vKind==5)==false)) (vP b2 5) rfl rfl rfl rfl (fun hg=>(r_fieldBox (n:=1) (o':=5) rfl Tryd.runUnderlying34 rfl Tryd.sizeOf3 (by decide) rfl)) ?_
        refine rgs (decide (a1.vN≥1)) (true&&((a1.vKind==5)==false)) (vI a1.vN) rfl rfl rfl rfl (fun hg=>(r_loadBox (gvt (vP b2 5) hg rfl) Tryd.isAgg3 (HS14.look 0 rfl) rfl)) ?_
        refine rgs (decide (a1.vN≥1)) (true&&((a1.vKind==5)==false)) (vB (decide (a1.vN≤512))) rfl rfl rfl rfl (fun hg=>(r_bin (gvt (vI a1.vN) hg rfl) rfl rfl)) ?_
        refine rgs (a1.vKind==5) true (vB ((decide (a1.vN≥1))&&(decide (a1.vN≤512)))) rfl rfl rfl rfl (fun hg=>(r_pick_and (gvt (vB (decide (a1.vN≥1))) hg rfl) (fun hp=>(gvt (vB (decide (a1.vN≤512))) (and_i hg hp) rfl)) rfl)) ?_
        refine run_frame (by simp only [sc0,sc1];rfl) ?_
        refine rs (vB ((a1.vKind==5)||((decide (a1.vN≥1))&&(decide (a1.vN≤512))))) (r_pick_or rfl rfl (fun hp=>(gvt (vB ((decide (a1.vN≥1))&&(decide (a1.vN≤512)))) (and_i rfl hp) rfl))) ?_
        refine rs (vB ((a1.vKind==5)||((decide (a1.vN≥1))&&(decide (a1.vN≤512))))) (r_assign rfl) ?_
        try simp only [sc0,sc1]
        refine run_nil ?_
        refine norm_then ?_
        refine wp_ret ?_
        obtain rfl:=Option.some.inj H
        refine bodyPost_ret (results_1 rfl (one_tmp rfl)) rfl ?_
        exact ⟨rfl,HS14.toE⟩

end Go.Proofs.YtfjppgobidjndaaDoor
namespace Go.Proofs.YtfjppgobidjndaaDoor
open Go.RowKit Go.M
def taplineref08_size.l0 (a0:api_Def) (a1:List Int):Nat→Int→Option ((Int)⊕(Unit))
 |0,_=>none
 |m+1,y1_0=>if (decide (y1_0<(a0.vFields.length:Int)))=true then (if 0≤y1_0∧y1_0<a0.vFields.length then (if 0≤(rd z_api_Field a0.vFields y1_0).vType∧(rd z_api_Field a0.vFields y1_0).vType<a1.length then (if ((rd 0 a1 ((rd z_api_Field a0.vFields y1_0).vType))==0)=true then (some (.inl 0)) else (taplineref08_size.l0 a0 a1 m (IntKind.wrap .i64 (y1_0+1)))) else none) else none) else (some (.inr ()))
def taplineref08_size.f (k:Nat) (a0:api_Def) (a1:List Int):Option (Int):=if (a0.vKind==1)=true then (some a0.vInt.vSize) else (if (a0.vKind==2)=true then (some 8) else (if (a0.vKind==3)=true then (if 0≤a0.vRef∧a0.vRef<a1.length then (some (IntKind.wrap .i64 (a0.vN*(rd 0 a1 a0.vRef)))) else none) else (if (a0.vKind==5)=true then (some 4) else (if (a0.vKind==6)=true then (if 0≤a0.vRef∧a0.vRef<a1.length then (some (rd 0 a1 a0.vRef)) else none) else ((taplineref08_size.l0 a0 a1 k 0).bind fun xx1=>(match xx1 with| .inl r=>some r| .inr s1=>some a0.vN))))))
set_option maxRecDepth 20000 in
set_option maxHeartbeats 4000000 in
theorem taplineref08_size.calls (k:Nat) (a0:api_Def) (a1:List Int) (A0_6:Option Addr) (c0_6:Nat) (A1_0:Option Addr) (c1_0:Nat) {h0:View} {w0:World} (hv:Sees h0 w0) (hr0_6:Rd k_api_Field h0 A0_6 a0.vFields) (hc0_6:a0.vFields.length≤c0_6) (hr1_0:Rd (Kd.int .i64) h0 A1_0 a1) (hc1_0:a1.length≤c1_0) {r:Int} (H:taplineref08_size.f k a0 a1=some r):Calls Tryd.prog 98 #[Value.agg #[vI a0.vKind,vS a0.vName,vI a0.vInt.vSize,vB a0.vInt.vSigned,vI a0.vRef,vI a0.vN,vL A0_6 a0.vFields.length c0_6],vL A1_0 a1.length c1_0] w0 (fun e w1=>e= .returned (vI r)∧Ext w0 w1):=by
 unfold taplineref08_size.f at H
 have HS:St [] h0 w0 h0 [] w0:=St.init hv
 go_enter Tryd.func98,Tryd.ntmps98
 refine wp_seq ?_
 refine region ?_
 refine run_ex rfl rfl (does_box (cs:=#[vI a0.vKind,vS a0.vName,vI a0.vInt.vSize,vB a0.vInt.vSigned,vI a0.vRef,vI a0.vN,vL A0_6 a0.vFields.length c0_6]) rfl rfl) ?_
 rintro w1 _ hE1 ⟨b1,rfl,ge1,hb1⟩
 have HS1:=HS.new hE1 ge1 hb1
 refine rs (vI 0) (r_assign rfl) ?_
 try simp only [sc0,sc1]
 refine run_nil ?_
 refine norm_then ?_
 refine wp_seq ?_
 refine wp_seq ?_
 refine region ?_
 refine rs (vP b1 0) (r_fieldBox (n:=1) (o':=0) rfl Tryd.runUnderlying34 rfl Tryd.sizeOf3 (by decide) rfl) ?_
 refine rs (vI a0.vKind) (r_loadBox rfl Tryd.isAgg3 (HS1.look 0 rfl) rfl) ?_
 try simp only [sc0,sc1]
 refine run_nil ?_
 refine norm_then ?_
 refine wp_block ?_
 refine wp_seq ?_
 refine region ?_
 refine rs (vB (a0.vKind==1)) (r_bin rfl rfl rfl) ?_
 refine rs (vB (a0.vKind==1)) (r_assign rfl) ?_
 try simp only [sc0,sc1]
 refine run_nil ?_
 refine norm_then ?_
 refine wp_cond_split (t:=(a0.vKind==1)) rfl (fun c1=>?_) (fun c1=>?_)
 ·replace H:=of_pos H c1
  refine wp_seq ?_
  refine region ?_
  refine rs (vP b1 2) (r_fieldBox (n:=2) (o':=2) rfl Tryd.runUnderlying34 rfl Tryd.sizeOf31 (by decide) rfl) ?_
  refine rs (vP b1 2) (r_fieldBox (n:=1) (o':=2) rfl Tryd.runUnderlying31 rfl Tryd.sizeOf3 (by decide) rfl) ?_
  refine rs (vI a0.vInt.vSize) (r_loadBox rfl Tryd.isAgg3 (HS1.look 0 rfl) rfl) ?_
  refine rs (vI a0.vInt.vSize) (r_assign rfl) ?_
  try simp only [sc0,sc1]
  refine run_nil ?_
  refine norm_then ?_
  refine wp_ret ?_
  refine ret_block ?_
  refine ret_then ?_
  obtain rfl:=Option.some.inj H
  refine bodyPost_ret (results_1 rfl (one_tmp rfl)) rfl ?_
  exact ⟨rfl,HS1.toE⟩
 ·replace H:=of_neg H (nt c1)
  refine wp_seq ?_
  refine region ?_
  refine rs (vB (a0.vKind==2)) (r_bin rfl rfl rfl) ?_
  refine rs (vB (a0.vKind==2)) (r_assign rfl) ?_
  try simp only [sc0,sc1]
  refine run_nil ?_
  refine norm_then ?_
  refine wp_cond_split (t:=(a0.vKind==2)) rfl (fun c2=>?_) (fun c2=>?_)
  ·replace H:=of_pos H c2
   refine wp_seq ?_
   refine region ?_
   refine rs (vI 8) (r_assign rfl) ?_
   try simp only [sc0,sc1]
   refine run_nil ?_
   refine norm_then ?_
   refine wp_ret ?_
   refine ret_block ?_
   refine ret_then ?_
   obtain rfl:=Option.some.inj H
   refine bodyPost_ret (results_1 rfl (one_tmp rfl)) rfl ?_
   exact ⟨rfl,HS1.toE⟩
  ·replace H:=of_neg H (nt c2)
   refine wp_seq ?_
   refine region ?_
   refine rs (vB (a0.vKind==3)) (r_bin rfl rfl rfl) ?_
   refine rs (vB (a0.vKind==3)) (r_assign rfl) ?_
   try simp only [sc0,sc1]
   refine run_nil ?_
   refine norm_then ?_
   refine wp_cond_split (t:=(a0.vKind==3)) rfl (fun c3=>?_) (fun c3=>?_)
   ·replace H:=of_pos H c3
    refine wp_seq ?_
    obtain ⟨hi1,H⟩:=of_ite H
    obtain ⟨ad1,e1,hel1⟩:=ld_int hr1_0 hi1.1 hi1.2
    refine drawn [.eq (vP b1 5), .eq (vI a0.vN), .eq (vL A1_0 a1.length c1_0), .eq (vP b1 4), .eq (vI a0.vRef), .eq (Value.pointer (some (Addr.add ad1 (a0.vRef.toNat*1)))), .eq (vI (rd 0 a1 a0.vRef)), .eq (vI (w64 (a0.vN*(rd 0 a1 a0.vRef))))] [17,18,19,20,21,22,23,24] hmix (by kernel_rfl) rfl (stable_eq (stable_eq (stable_eq (stable_eq (stable_eq (stable_eq (stable_eq (stable_eq stable_nil)))))))) ⟨ob_plain rfl (fun a' w' hE hk=>by have HSd:=HS1.step hE;exact does_eq (r_fieldBox (n:=1) (o':=5) (show _=vP b1 0 from hk 2 rfl) Tryd.runUnderlying34 rfl Tryd.sizeOf3 (by decide) rfl)),ob_plain rfl (fun a' w' hE hk=>by have HSd:=HS1.step hE;exact does_eq (r_loadBox (show _=vP b1 5 from hk 17 rfl) Tryd.isAgg3 (HSd.look 0 rfl) rfl)),ob_plain rfl (fun a' w' hE hk=>by have HSd:=HS1.step hE;exact does_eq (r_move (show _=vL A1_0 a1.length c1_0 from hk 1 rfl))),ob_plain rfl (fun a' w' hE hk=>by have HSd:=HS1.step hE;exact does_eq (r_fieldBox (n:=1) (o':=4) (show _=vP b1 0 from hk 2 rfl) Tryd.runUnderlying34 rfl Tryd.sizeOf3 (by decide) rfl)),ob_plain rfl (fun a' w' hE hk=>by have HSd:=HS1.step hE;exact does_eq (r_loadBox (show _=vP b1 4 from hk 20 rfl) Tryd.isAgg3 (HSd.look 0 rfl) rfl)),ob_plain rfl (fun a' w' hE hk=>by have HSd:=HS1.step hE;exact does_eq (r_indexA (sz:=1) (show _=vL A1_0 a1.length c1_0 from hk 19 rfl) e1 (show _=vI a0.vRef from hk 21 rfl) hi1.1 hi1.2 Tryd.runUnderlying62 Tryd.sizeOf3)),ob_plain rfl (fun a' w' hE hk=>by have HSd:=HS1.step hE;exact does_eq (r_load (show _=Value.pointer (some (Addr.add ad1 (a0.vRef.toNat*1))) from hk 22 rfl) Tryd.isAgg3 (hel1.cell0 HSd.sees rfl))),ob_plain rfl (fun a' w' hE hk=>by have HSd:=HS1.step hE;exact does_eq (r_bin (show _=vI a0.vN from hk 18 rfl) (show _=vI (rd 0 a1 a0.vRef) from hk 23 rfl) rfl)),trivial⟩ ?_
    intro w2 hE2
    simp only [List.zip_cons_cons,List.zip_nil_left,List.zip_nil_right,finL,sc0,sc1,List.length_cons,List.length_nil,List.drop_succ_cons,List.drop_zero,Nat.zero_add,Nat.reduceAdd]
    have HS2:=HS1.step hE2
    refine rs (vI (w64 (a0.vN*(rd 0 a1 a0.vRef)))) (r_assign rfl) ?_
    try simp only [sc0,sc1]
    refine run_nil ?_
    refine norm_then ?_
    refine wp_ret ?_
    refine ret_block ?_
    refine ret_then ?_
    obtain rfl:=Option.some.inj H
    refine bodyPost_ret (results_1 rfl (one_tmp rfl)) rfl ?_
    exact ⟨rfl,HS2.toE⟩
   ·replace H:=of_neg H (nt c3)
    refine wp_seq ?_
    refine region ?_
    refine rs (vB (a0.vKind==5)) (r_bin rfl rfl rfl) ?_
    refine rs (vB (a0.vKind==5)) (r_assign rfl) ?_
    try simp only [sc0,sc1]
    refine run_nil ?_
    refine norm_then ?_
    refine wp_cond_split (t:=(a0.vKind==5)) rfl (fun c4=>?_) (fun c4=>?_)
    ·replace H:=of_pos H c4
     refine wp_seq ?_
     refine region ?_
     refine rs (vI 4) (r_assign rfl) ?_
     try simp only [sc0,sc1]
     refine run_nil ?_
     refine norm_then ?_
     refine wp_ret ?_
     refine ret_block ?_
     refine ret_then ?_
     obtain rfl:=Option.some.inj H
     refine bodyPost_ret (results_1 rfl (one_tmp rfl)) rfl ?_
     exact ⟨rfl,HS1.toE⟩
    ·replace H:=of_neg H (nt c4)
     refine wp_seq ?_
     refine region ?_
     refine rs (vB (a0.vKind==6)) (r_bin rfl rfl rfl) ?_
     refine rs (vB (a0.vKind==6)) (r_assign rfl) ?_
     try simp only [sc0,sc1]
     refine run_nil ?_
     refine norm_then ?_
     refine wp_cond_split (t:=(a0.vKind==6)) rfl (fun c5=>?_) (fun c5=>?_)
     ·replace H:=of_pos H c5
      refine wp_seq ?_
      refine region ?_
      refine rs (vL A1_0 a1.length c1_0) (r_move rfl) ?_
      refine rs (vP b1 4) (r_fieldBox (n:=1) (o':=4) rfl Tryd.runUnderlying34 rfl Tryd.sizeOf3 (by decide) rfl) ?_
      refine rs (vI a0.vRef) (r_loadBox rfl Tryd.isAgg3 (HS1.look 0 rfl) rfl) ?_
      obtain ⟨hi2,H⟩:=of_ite H
      obtain ⟨ad2,e2,hel2⟩:=ld_int hr1_0 hi2.1 hi2.2
      refine rs (Value.pointer (some (Addr.add ad2 (a0.vRef.toNat*1)))) (r_indexA (sz:=1) rfl e2 rfl hi2.1 hi2.2 Tryd.runUnderlying62 Tryd.sizeOf3) ?_
      refine run_frame (by simp only [sc0,sc1];rfl) ?_
      refine rs (vI (rd 0 a1 a0.vRef)) (r_load rfl Tryd.isAgg3 (hel2.cell0 HS1.sees rfl)) ?_
      refine rs (vI (rd 0 a1 a0.vRef)) (r_assign rfl) ?_
      try simp only [sc0,sc1]
      refine run_nil ?_
      refine norm_then ?_
      refine wp_ret ?_
      refine ret_block ?_
      refine ret_then ?_
      obtain rfl:=Option.some.inj H
      refine bodyPost_ret (results_1 rfl (one_tmp rfl)) rfl ?_
      exact ⟨rfl,HS1.toE⟩
     ·replace H:=of_neg H (nt c5)
      refine wp_skip ?_
      refine norm_block ?_
      refine norm_then ?_
      refine wp_seq ?_
      refine wp_seq ?_
      refine region ?_
      refine rs (vI 0) (r_assign rfl) ?_
      try simp only [sc0,sc1]
      refine run_nil ?_
      refine norm_then ?_
      obtain ⟨xx1,H,G1⟩:=of_bind H
      refine loop_patch [4,5,34,35,36,37,38,39,40,41,42,43,44,45,46,47,48,49,50] (fun m us w'=>∃y1_0:Int,∃uy1_4 uy1_34 uy1_35 uy1_36 uy1_37 uy1_38 uy1_39 uy1_40 uy1_41 uy1_42 uy1_43 uy1_44 uy1_45 uy1_46 uy1_47 uy1_48 uy1_49 uy1_50:Value,us=[uy1_4,vI y1_0,uy1_34,uy1_35,uy1_36,uy1_37,uy1_38,uy1_39,uy1_40,uy1_41,uy1_42,uy1_43,uy1_44,uy1_45,uy1_46,uy1_47,uy1_48,uy1_49,uy1_50]∧taplineref08_size.l0 a0 a1 m y1_0=some xx1∧St [] h0 w0 h0 [(some b1, .cells #[vI a0.vKind,vS a0.vName,vI a0.vInt.vSize,vB a0.vInt.vSigned,vI a0.vRef,vI a0.vN,vL A0_6 a0.vFields.length c0_6] 34 (0,0))] w') (fun us w'=>∃(s1:Unit),xx1= .inr s1∧∃uo1_4 uo1_5 uo1_34 uo1_35 uo1_36 uo1_37 uo1_38 uo1_39 uo1_40 uo1_41 uo1_42 uo1_43 uo1_44 uo1_45 uo1_46 uo1_47 uo1_48 uo1_49 uo1_50:Value,us=[uo1_4,uo1_5,uo1_34,uo1_35,uo1_36,uo1_37,uo1_38,uo1_39,uo1_40,uo1_41,uo1_42,uo1_43,uo1_44,uo1_45,uo1_46,uo1_47,uo1_48,uo1_49,uo1_50]∧St [] h0 w0 h0 [(some b1, .cells #[vI a0.vKind,vS a0.vName,vI a0.vInt.vSize,vB a0.vInt.vSigned,vI a0.vRef,vI a0.vN,vL A0_6 a0.vFields.length c0_6] 34 (0,0))] w') k [vI 0,vI 0,undef,undef,undef,undef,undef,undef,undef,undef,undef,undef,undef,undef,undef,undef,undef,undef,undef] (by simp only [patch,sc0,sc1]) ⟨0,_,_,_,_,_,_,_,_,_,_,_,_,_,_,_,_,_,_,rfl,H,HS1⟩ ?_ ?_
      ·rintro m us w3 ⟨y1_0,uy1_4,uy1_34,uy1_35,uy1_36,uy1_37,uy1_38,uy1_39,uy1_40,uy1_41,uy1_42,uy1_43,uy1_44,uy1_45,uy1_46,uy1_47,uy1_48,uy1_49,uy1_50,rfl,H,HS3⟩
       cases m with
       |zero=>exact absurd H (by simp [taplineref08_size.l0])
       |succ m=>
        rw [taplineref08_size.l0] at H
        try simp only [patch,sc0,sc1]
        refine wp_seq ?_
        refine wp_seq ?_
        refine region ?_
        refine rs (vI y1_0) (r_move rfl) ?_
        refine rs (vP b1 6) (r_fieldBox (n:=1) (o':=6) rfl Tryd.runUnderlying34 rfl Tryd.sizeOf32 (by decide) rfl) ?_
        refine rs (vL A0_6 a0.vFields.length c0_6) (r_loadBox rfl Tryd.isAgg32 (HS3.look 0 rfl) rfl) ?_
        refine rs (vI (a0.vFields.length:Int)) (r_len rfl Tryd.runUnderlying32) ?_
        refine run_frame (by simp only [sc0,sc1];rfl) ?_
        refine rs (vB (decide (y1_0<(a0.vFields.length:Int)))) (r_bin rfl rfl rfl) ?_
        try simp only [sc0,sc1]
        refine run_nil ?_
        refine norm_then ?_
        refine wp_cond_split (t:=(decide (y1_0<(a0.vFields.length:Int)))) rfl (fun c6=>?_) (fun c6=>?_)
        ·replace H:=of_pos H c6
         refine wp_skip ?_
         refine norm_then ?_
         refine wp_seq ?_
         refine wp_block ?_
         refine wp_seq ?_
         refine region ?_
         refine rs (vL A1_0 a1.length c1_0) (r_move rfl) ?_
         refine rs (vP b1 6) (r_fieldBox (n:=1) (o':=6) rfl Tryd.runUnderlying34 rfl Tryd.sizeOf32 (by decide) rfl) ?_
         refine rs (vL A0_6 a0.vFields.length c0_6) (r_loadBox rfl Tryd.isAgg32 (HS3.look 0 rfl) rfl) ?_
         refine rs (vI y1_0) (r_move rfl) ?_
         refine run_frame (by simp only [sc0,sc1];rfl) ?_
         obtain ⟨hi3,H⟩:=of_ite H
         obtain ⟨ad3,e3,hel3⟩:=ld_api_Field hr0_6 hi3.1 hi3.2
         refine rs (Value.pointer (some (Addr.add ad3 (y1_0.toNat*3)))) (r_indexA (sz:=3) rfl e3 rfl hi3.1 hi3.2 Tryd.runUnderlying32 Tryd.sizeOf36) ?_
         refine rs (Value.pointer (some (Addr.add (Addr.add ad3 (y1_0.toNat*3)) 1))) (r_fieldEl (n:=1) (o':=1) rfl Tryd.runUnderlying36 rfl Tryd.sizeOf3 (by decide) rfl) ?_
         refine rs (vI ((rd z_api_Field a0.vFields y1_0).vType)) (r_load rfl Tryd.isAgg3 (hel3.cell HS3.sees 1 rfl)) ?_
         obtain ⟨hi4,H⟩:=of_ite H
         obtain ⟨ad4,e4,hel4⟩:=ld_int hr1_0 hi4.1 hi4.2
         refine rs (Value.pointer (some (Addr.add ad4 (((rd z_api_Field a0.vFields y1_0).vType).toNat*1)))) (r_indexA (sz:=1) rfl e4 rfl hi4.1 hi4.2 Tryd.runUnderlying62 Tryd.sizeOf3) ?_
         refine run_frame (by simp only [sc0,sc1];rfl) ?_
         refine rs (vI (rd 0 a1 ((rd z_api_Field a0.vFields y1_0).vType))) (r_load rfl Tryd.isAgg3 (hel4.cell0 HS3.sees rfl)) ?_
         refine rs (vB ((rd 0 a1 ((rd z_api_Field a0.vFields y1_0).vType))==0)) (r_bin rfl rfl rfl) ?_
         try simp only [sc0,sc1]
         refine run_nil ?_
         refine norm_then ?_
         refine wp_cond_split (t:=((rd 0 a1 ((rd z_api_Field a0.vFields y1_0).vType))==0)) rfl (fun c7=>?_) (fun c7=>?_)
         ·replace H:=of_pos H c7
          refine wp_seq ?_
          refine region ?_
          refine rs (vI 0) (r_assign rfl) ?_
          try simp only [sc0,sc1]
          refine run_nil ?_
          refine norm_then ?_
          refine wp_ret ?_
          refine ret_block ?_
          refine ret_then ?_
          refine ret_loop ?_
          refine ret_then ?_
          obtain rfl:=Option.some.inj H
          obtain rfl:=Option.some.inj G1
          refine bodyPost_ret (results_1 rfl (one_tmp rfl)) rfl ?_
          exact ⟨rfl,HS3.toE⟩
         ·replace H:=of_neg H (nt c7)
          refine wp_skip ?_
          refine norm_block ?_
          refine norm_then ?_
          refine region ?_
          refine rs (vI y1_0) (r_move rfl) ?_
          refine rs (vI (w64 (y1_0+1))) (r_bin rfl rfl rfl) ?_
          refine rs (vI (w64 (y1_0+1))) (r_assign rfl) ?_
          try simp only [sc0,sc1]
          refine run_nil ?_
          refine again m [uy1_4,vI (w64 (y1_0+1)),vI y1_0,vP b1 6,vL A0_6 a0.vFields.length c0_6,vI (a0.vFields.length:Int),vB (decide (y1_0<(a0.vFields.length:Int))),vI y1_0,vI (w64 (y1_0+1)),vL A1_0 a1.length c1_0,vP b1 6,vL A0_6 a0.vFields.length c0_6,vI y1_0,Value.pointer (some (Addr.add ad3 (y1_0.toNat*3))),Value.pointer (some (Addr.add (Addr.add ad3 (y1_0.toNat*3)) 1)),vI ((rd z_api_Field a0.vFields y1_0).vType),Value.pointer (some (Addr.add ad4 (((rd z_api_Field a0.vFields y1_0).vType).toNat*1))),vI (rd 0 a1 ((rd z_api_Field a0.vFields y1_0).vType)),vB ((rd 0 a1 ((rd z_api_Field a0.vFields y1_0).vType))==0)] (Nat.lt_succ_self m) (by simp only [patch,sc0,sc1]) ⟨(w64 (y1_0+1)),_,_,_,_,_,_,_,_,_,_,_,_,_,_,_,_,_,_,rfl,H,HS3⟩
        ·replace H:=of_neg H (nt c6)
         refine wp_exit ?_
         refine exit_then ?_
         obtain rfl:=Option.some.inj H
         refine leave [uy1_4,vI y1_0,vI y1_0,vP b1 6,vL A0_6 a0.vFields.length c0_6,vI (a0.vFields.length:Int),vB (decide (y1_0<(a0.vFields.length:Int))),uy1_39,uy1_40,uy1_41,uy1_42,uy1_43,uy1_44,uy1_45,uy1_46,uy1_47,uy1_48,uy1_49,uy1_50] (by simp only [patch,sc0,sc1]) ⟨_,rfl,_,_,_,_,_,_,_,_,_,_,_,_,_,_,_,_,_,_,_,rfl,HS3⟩
      ·rintro us w4 ⟨s1,rfl,uo1_4,uo1_5,uo1_34,uo1_35,uo1_36,uo1_37,uo1_38,uo1_39,uo1_40,uo1_41,uo1_42,uo1_43,uo1_44,uo1_45,uo1_46,uo1_47,uo1_48,uo1_49,uo1_50,rfl,HS4⟩
       replace H:=G1
       clear G1
       try simp only [patch,sc0,sc1]
       refine norm_then ?_
       refine wp_seq ?_
       refine region ?_
       refine rs (vP b1 5) (r_fieldBox (n:=1) (o':=5) rfl Tryd.runUnderlying34 rfl Tryd.sizeOf3 (by decide) rfl) ?_
       refine rs (vI a0.vN) (r_loadBox rfl Tryd.isAgg3 (HS4.look 0 rfl) rfl) ?_
       refine rs (vI a0.vN) (r_assign rfl) ?_
       try simp only [sc0,sc1]
       refine run_nil ?_
       refine norm_then ?_
       refine wp_ret ?_
       obtain rfl:=Option.some.inj H
       refine bodyPost_ret (results_1 rfl (one_tmp rfl)) rfl ?_
       exact ⟨rfl,HS4.toE⟩

end Go.Proofs.YtfjppgobidjndaaDoor
namespace Go.Proofs.YtfjppgobidjndaaDoor
open Go.RowKit Go.M
def taplineref08_sizes.l1 (k:Nat) (a0:api_Types):Nat→Bool→Int→(List Int)→Option (Bool×(List Int))
 |0,_,_,_=>none
 |m+1,y2_0,y2_1,y2_2=>if (decide (y2_1<(a0.vDefs.length:Int)))=true then (if 0≤y2_1∧y2_1<(((a0.vDefs.length:Int).toNat:Nat):Int) then (if ((rd 0 y2_2 y2_1) !=0)=true then (taplineref08_sizes.l1 k a0 m y2_0 (IntKind.wrap .i64 (y2_1+1)) y2_2) else (if 0≤y2_1∧y2_1<a0.vDefs.length then ((taplineref08_size.f k (rd z_api_Def a0.vDefs y2_1) y2_2).bind fun v1=>(if (decide (v1>0))=true then (if 0≤y2_1∧y2_1<(((a0.vDefs.length:Int).toNat:Nat):Int) then (taplineref08_sizes.l1 k a0 m true (IntKind.wrap .i64 (y2_1+1)) (List.set y2_2 y2_1.toNat (iMin v1 513))) else none) else (taplineref08_sizes.l1 k a0 m y2_0 (IntKind.wrap .i64 (y2_1+1)) y2_2))) else none)) else none) else (some (y2_0,y2_2))
def taplineref08_sizes.l0 (k:Nat) (a0:api_Types):Nat→Bool→(List Int)→Option ((List Int))
 |0,_,_=>none
 |m+1,y1_0,y1_1=>if y1_0=true then ((taplineref08_sizes.l1 k a0 k false 0 y1_1).bind fun xx2=>(taplineref08_sizes.l0 k a0 m xx2.1 xx2.2)) else (some y1_1)
def taplineref08_sizes.f (k:Nat) (a0:api_Types):Option ((List Int)):=if 0≤(a0.vDefs.length:Int)∧(a0.vDefs.length:Int)≤4294967296 then ((taplineref08_sizes.l0 k a0 k true (List.replicate (a0.vDefs.length:Int).toNat (0:Int))).bind fun xx1=>(some xx1)) else none
set_option maxRecDepth 20000 in
set_option maxHeartbeats 4000000 in
theorem taplineref08_sizes.calls (k:Nat) (a0:api_Types) (A0_0:Option Addr) (c0_0:Nat) {h0:View} {w0:World} (hv:Sees h0 w0) (hr0_0:Rd k_api_Def h0 A0_0 a0.vDefs) (hc0_0:a0.vDefs.length≤c0_0) {r:(List Int)} (H:taplineref08_sizes.f k a0=some r):Calls Tryd.prog 50 #[Value.agg #[vL A0_0 a0.vDefs.length c0_0]] w0 (fun e w1=>∃(h1:View) (A0_0:Option Addr) (c0_0:Nat),e= .returned (vL A0_0 r.length c0_0)∧r.length≤c0_0∧Rd (Kd.int .i64) h1 A0_0 r∧Gr w0.heap.size h0 h1∧Sees h1 w1∧Ext w0 w1):=by
 unfold taplineref08_sizes.f at H
 have HS:St [] h0 w0 h0 [] w0:=St.init hv
 go_enter Tryd.func50,Tryd.ntmps50
 refine wp_seq ?_
 refine region ?_
 refine run_ex rfl rfl (does_box (cs:=#[vL A0_0 a0.vDefs.length c0_0]) rfl rfl) ?_
 rintro w1 _ hE1 ⟨b1,rfl,ge1,hb1⟩
 have HS1:=HS.new hE1 ge1 hb1
 refine rs (vL none 0 0) (r_assign rfl) ?_
 try simp only [sc0,sc1]
 refine run_nil ?_
 refine norm_then ?_
 refine wp_seq ?_
 refine region ?_
 refine rs (vP b1 0) (r_fieldBox (n:=1) (o':=0) rfl Tryd.runUnderlying24 rfl Tryd.sizeOf22 (by decide) rfl) ?_
 refine rs (vL A0_0 a0.vDefs.length c0_0) (r_loadBox rfl Tryd.isAgg22 (HS1.look 0 rfl) rfl) ?_
 refine rs (vI (a0.vDefs.length:Int)) (r_len rfl Tryd.runUnderlying22) ?_
 obtain ⟨hk1,H⟩:=of_ite H
 refine run_mk (Kd.int .i64) 0 (zs:=[vI 0]) rfl rfl hk1 Tryd.runUnderlying62 Tryd.typeInfo3 (by decide) rfl Tryd.zeroValue3 rfl rfl HS1 ?_
 intro w2 b2 cs1 HS2 ho1
 refine run_frame (by simp only [sc0,sc1];rfl) ?_
 refine rs (vL (rowA (some b2)) ((a0.vDefs.length:Int).toNat) ((a0.vDefs.length:Int).toNat)) (r_assign rfl) ?_
 try simp only [sc0,sc1]
 refine run_nil ?_
 refine norm_then ?_
 refine wp_seq ?_
 refine wp_seq ?_
 refine region ?_
 refine rs (vB true) (r_assign rfl) ?_
 try simp only [sc0,sc1]
 refine run_nil ?_
 refine norm_then ?_
 obtain ⟨xx1,H,G1⟩:=of_bind H
 refine loop_patch [4,5,6,11,12,13,14,15,16,17,18,19,20,21,22,23,24,25,26,27,28,29,30,31,32,33,34,35,36,37] (fun m us w'=>∃y1_0:Bool,∃y1_1:List Int,∃csy1_1:List Value,∃uy1_5 uy1_6 uy1_11 uy1_12 uy1_13 uy1_14 uy1_15 uy1_16 uy1_17 uy1_18 uy1_19 uy1_20 uy1_21 uy1_22 uy1_23 uy1_24 uy1_25 uy1_26 uy1_27 uy1_28 uy1_29 uy1_30 uy1_31 uy1_32 uy1_33 uy1_34 uy1_35 uy1_36 uy1_37:Value,us=[vB y1_0,uy1_5,uy1_6,uy1_11,uy1_12,uy1_13,uy1_14,uy1_15,uy1_16,uy1_17,uy1_18,uy1_19,uy1_20,uy1_21,uy1_22,uy1_23,uy1_24,uy1_25,uy1_26,uy1_27,uy1_28,uy1_29,uy1_30,uy1_31,uy1_32,uy1_33,uy1_34,uy1_35,uy1_36,uy1_37]∧taplineref08_sizes.l0 k a0 m y1_0 y1_1=some xx1∧RowOk (Kd.int .i64) h0 y1_1 (some b2) ((a0.vDefs.length:Int).toNat) ((a0.vDefs.length:Int).toNat) csy1_1∧St [] h0 w0 h0 [((some b2), .cells (csy1_1).toArray 3 (0,0)),(some b1, .cells #[vL A0_0 a0.vDefs.length c0_0] 24 (0,0))] w') (fun us w'=>∃cso2_0:List Value,∃uo2_4 uo2_5 uo2_6 uo2_11 uo2_12 uo2_13 uo2_14 uo2_15 uo2_16 uo2_17 uo2_18 uo2_19 uo2_20 uo2_21 uo2_22 uo2_23 uo2_24 uo2_25 uo2_26 uo2_27 uo2_28 uo2_29 uo2_30 uo2_31 uo2_32 uo2_33 uo2_34 uo2_35 uo2_36 uo2_37:Value,us=[uo2_4,uo2_5,uo2_6,uo2_11,uo2_12,uo2_13,uo2_14,uo2_15,uo2_16,uo2_17,uo2_18,uo2_19,uo2_20,uo2_21,uo2_22,uo2_23,uo2_24,uo2_25,uo2_26,uo2_27,uo2_28,uo2_29,uo2_30,uo2_31,uo2_32,uo2_33,uo2_34,uo2_35,uo2_36,uo2_37]∧RowOk (Kd.int .i64) h0 xx1 (some b2) ((a0.vDefs.length:Int).toNat) ((a0.vDefs.length:Int).toNat) cso2_0∧St [] h0 w0 h0 [((some b2), .cells (cso2_0).toArray 3 (0,0)),(some b1, .cells #[vL A0_0 a0.vDefs.length c0_0] 24 (0,0))] w') k [vB true,undef,undef,undef,undef,undef,undef,undef,undef,undef,undef,undef,undef,undef,undef,undef,undef,undef,undef,undef,undef,undef,undef,undef,undef,undef,undef,undef,undef,undef] (by simp only [patch,sc0,sc1]) ⟨true,(List.replicate (a0.vDefs.length:Int).toNat (0:Int)),cs1,_,_,_,_,_,_,_,_,_,_,_,_,_,_,_,_,_,_,_,_,_,_,_,_,_,_,_,_,_,rfl,H,ho1,HS2⟩ ?_ ?_
 ·rintro m us w3 ⟨y1_0,y1_1,csy1_1,uy1_5,uy1_6,uy1_11,uy1_12,uy1_13,uy1_14,uy1_15,uy1_16,uy1_17,uy1_18,uy1_19,uy1_20,uy1_21,uy1_22,uy1_23,uy1_24,uy1_25,uy1_26,uy1_27,uy1_28,uy1_29,uy1_30,uy1_31,uy1_32,uy1_33,uy1_34,uy1_35,uy1_36,uy1_37,rfl,H,hoy1_1,HS3⟩
  cases m with
  |zero=>exact absurd H (by simp [taplineref08_sizes.l0])
  |succ m=>
   rw [taplineref08_sizes.l0] at H
   try simp only [patch,sc0,sc1]
   refine wp_seq ?_
   refine wp_seq ?_
   refine region ?_
   refine rs (vB y1_0) (r_move rfl) ?_
   try simp only [sc0,sc1]
   refine run_nil ?_
   refine norm_then ?_
   refine wp_cond_split (t:=y1_0) rfl (fun c1=>?_) (fun c1=>?_)
   ·replace H:=of_pos H c1
    refine wp_skip ?_
    refine norm_then ?_
    refine wp_block ?_
    refine wp_seq ?_
    refine region ?_
    refine rs (vB false) (r_assign rfl) ?_
    try simp only [sc0,sc1]
    refine run_nil ?_
    refine norm_then ?_
    refine wp_seq ?_
    refine region ?_
    refine rs (vI 0) (r_assign rfl) ?_
    try simp only [sc0,sc1]
    refine run_nil ?_
    refine norm_then ?_
    obtain ⟨xx2,H,G2⟩:=of_bind H
    refine loop_patch [4,5,6,12,13,14,15,16,17,18,19,20,21,22,23,24,25,26,27,28,29,30,31,32,33,34,35,36,37] (fun m us w'=>∃y2_0:Bool,∃y2_1:Int,∃y2_2:List Int,∃csy2_2:List Value,∃uy2_6 uy2_12 uy2_13 uy2_14 uy2_15 uy2_16 uy2_17 uy2_18 uy2_19 uy2_20 uy2_21 uy2_22 uy2_23 uy2_24 uy2_25 uy2_26 uy2_27 uy2_28 uy2_29 uy2_30 uy2_31 uy2_32 uy2_33 uy2_34 uy2_35 uy2_36 uy2_37:Value,us=[vB y2_0,vI y2_1,uy2_6,uy2_12,uy2_13,uy2_14,uy2_15,uy2_16,uy2_17,uy2_18,uy2_19,uy2_20,uy2_21,uy2_22,uy2_23,uy2_24,uy2_25,uy2_26,uy2_27,uy2_28,uy2_29,uy2_30,uy2_31,uy2_32,uy2_33,uy2_34,uy2_35,uy2_36,uy2_37]∧taplineref08_sizes.l1 k a0 m y2_0 y2_1 y2_2=some xx2∧RowOk (Kd.int .i64) h0 y2_2 (some b2) ((a0.vDefs.length:Int).toNat) ((a0.vDefs.length:Int).toNat) csy2_2∧St [] h0 w0 h0 [((some b2), .cells (csy2_2).toArray 3 (0,0)),(some b1, .cells #[vL A0_0 a0.vDefs.length c0_0] 24 (0,0))] w') (fun us w'=>∃cso1_1:List Value,∃uo1_5 uo1_6 uo1_12 uo1_13 uo1_14 uo1_15 uo1_16 uo1_17 uo1_18 uo1_19 uo1_20 uo1_21 uo1_22 uo1_23 uo1_24 uo1_25 uo1_26 uo1_27 uo1_28 uo1_29 uo1_30 uo1_31 uo1_32 uo1_33 uo1_34 uo1_35 uo1_36 uo1_37:Value,us=[vB xx2.1,uo1_5,uo1_6,uo1_12,uo1_13,uo1_14,uo1_15,uo1_16,uo1_17,uo1_18,uo1_19,uo1_20,uo1_21,uo1_22,uo1_23,uo1_24,uo1_25,uo1_26,uo1_27,uo1_28,uo1_29,uo1_30,uo1_31,uo1_32,uo1_33,uo1_34,uo1_35,uo1_36,uo1_37]∧RowOk (Kd.int .i64) h0 xx2.2 (some b2) ((a0.vDefs.length:Int).toNat) ((a0.vDefs.length:Int).toNat) cso1_1∧St [] h0 w0 h0 [((some b2), .cells (cso1_1).toArray 3 (0,0)),(some b1, .cells #[vL A0_0 a0.vDefs.length c0_0] 24 (0,0))] w') k [vB false,vI 0,uy1_6,uy1_12,uy1_13,uy1_14,uy1_15,uy1_16,uy1_17,uy1_18,uy1_19,uy1_20,uy1_21,uy1_22,uy1_23,uy1_24,uy1_25,uy1_26,uy1_27,uy1_28,uy1_29,uy1_30,uy1_31,uy1_32,uy1_33,uy1_34,uy1_35,uy1_36,uy1_37] (by simp only [patch,sc0,sc1]) ⟨false,0,y1_1,csy1_1,_,_,_,_,_,_,_,_,_,_,_,_,_,_,_,_,_,_,_,_,_,_,_,_,_,_,_,rfl,H,hoy1_1,HS3⟩ ?_ ?_
    ·rintro m us w4 ⟨y2_0,y2_1,y2_2,csy2_2,uy2_6,uy2_12,uy2_13,uy2_14,uy2_15,uy2_16,uy2_17,uy2_18,uy2_19,uy2_20,uy2_21,uy2_22,uy2_23,uy2_24,uy2_25,uy2_26,uy2_27,uy2_28,uy2_29,uy2_30,uy2_31,uy2_32,uy2_33,uy2_34,uy2_35,uy2_36,uy2_37,rfl,H,hoy2_2,HS4⟩
     cases m with
     |zero=>exact absurd H (by simp [taplineref08_sizes.l1])
     |succ m=>
      rw [taplineref08_sizes.l1] at H
      try simp only [patch,sc0,sc1]
      refine wp_seq ?_
      refine wp_seq ?_
      refine region ?_
      refine rs (vI y2_1) (r_move rfl) ?_
      refine rs (vP b1 0) (r_fieldBox (n:=1) (o':=0) rfl Tryd.runUnderlying24 rfl Tryd.sizeOf22 (by decide) rfl) ?_
      refine rs (vL A0_0 a0.vDefs.length c0_0) (r_loadBox rfl Tryd.isAgg22 (HS4.look 1 rfl) rfl) ?_
      refine rs (vI (a0.vDefs.length:Int)) (r_len rfl Tryd.runUnderlying22) ?_
      refine run_frame (by simp only [sc0,sc1];rfl) ?_
      refine rs (vB (decide (y2_1<(a0.vDefs.length:Int)))) (r_bin rfl rfl rfl) ?_
      try simp only [sc0,sc1]
      refine run_nil ?_
      refine norm_then ?_
      refine wp_cond_split (t:=(decide (y2_1<(a0.vDefs.length:Int)))) rfl (fun c2=>?_) (fun c2=>?_)
      ·replace H:=of_pos H c2
       refine wp_skip ?_
       refine norm_then ?_
       refine wp_seq ?_
       refine wp_block ?_
       refine wp_seq ?_
       refine wp_seq ?_
       refine region ?_
       refine rs (vL (rowA (some b2)) ((a0.vDefs.length:Int).toNat) ((a0.vDefs.length:Int).toNat)) (r_move rfl) ?_
       refine rs (vI y2_1) (r_move rfl) ?_
       obtain ⟨hi1,H⟩:=of_ite H
       obtain ⟨rb1,_,hrb1,rfl,hp1⟩:=hoy2_2.at 0 hi1.1 hi1.2
       refine rs (Value.pointer (some ⟨rb1,y2_1.toNat*1+0,none⟩)) (r_indexRow (sz:=1) rfl hrb1 rfl hi1.1 hi1.2 Tryd.runUnderlying62 Tryd.sizeOf3) ?_
       refine rs (vI (rd 0 y2_2 y2_1)) (r_loadBox (cs:=csy2_2) rfl Tryd.isAgg3 (HS4.lookr 0 rfl hrb1) (hp1 0 _ rfl)) ?_
       refine run_frame (by simp only [sc0,sc1];rfl) ?_
       refine rs (vB ((rd 0 y2_2 y2_1) !=0)) (r_bin rfl rfl rfl) ?_
       try simp only [sc0,sc1]
       refine run_nil ?_
       refine norm_then ?_
       refine wp_cond_split (t:=((rd 0 y2_2 y2_1) !=0)) rfl (fun c3=>?_) (fun c3=>?_)
       ·replace H:=of_pos H c3
        refine wp_exit ?_
        refine exit_then ?_
        refine exit_block ?_
        refine norm_then ?_
        refine region ?_
        refine rs (vI y2_1) (r_move rfl) ?_
        refine rs (vI (w64 (y2_1+1))) (r_bin rfl rfl rfl) ?_
        refine rs (vI (w64 (y2_1+1))) (r_assign rfl) ?_
        try simp only [sc0,sc1]
        refine run_nil ?_
        refine again m [vB y2_0,vI (w64 (y2_1+1)),uy2_6,vI y2_1,vP b1 0,vL A0_0 a0.vDefs.length c0_0,vI (a0.vDefs.length:Int),vB (decide (y2_1<(a0.vDefs.length:Int))),vI y2_1,vI (w64 (y2_1+1)),vL (rowA (some b2)) ((a0.vDefs.length:Int).toNat) ((a0.vDefs.length:Int).toNat),vI y2_1,Value.pointer (some ⟨rb1,y2_1.toNat*1+0,none⟩),vI (rd 0 y2_2 y2_1),vB ((rd 0 y2_2 y2_1) !=0),uy2_24,uy2_25,uy2_26,uy2_27,uy2_28,uy2_29,uy2_30,uy2_31,uy2_32,uy2_33,uy2_34,uy2_35,uy2_36,uy2_37] (Nat.lt_succ_self m) (by simp only [patch,sc0,sc1]) ⟨y2_0,(w64 (y2_1+1)),y2_2,csy2_2,_,_,_,_,_,_,_,_,_,_,_,_,_,_,_,_,_,_,_,_,_,_,_,_,_,_,_,rfl,H,hoy2_2,HS4⟩
       ·replace H:=of_neg H (nt c3)
        refine wp_skip ?_
        refine norm_then ?_
        refine wp_seq ?_
        refine region ?_
        refine rs (vP b1 0) (r_fieldBox (n:=1) (o':=0) rfl Tryd.runUnderlying24 rfl Tryd.sizeOf22 (by decide) rfl) ?_
        refine rs (vL A0_0 a0.vDefs.length c0_0) (r_loadBox rfl Tryd.isAgg22 (HS4.look 1 rfl) rfl) ?_
        refine rs (vI y2_1) (r_move rfl) ?_
        obtain ⟨hi2,H⟩:=of_ite H
        obtain ⟨ad1,Aad1_6,cad1_6,e1,hel1,hcad1_6,hrad1_6⟩:=ld_api_Def hr0_0 hi2.1 hi2.2
        refine rs (Value.pointer (some (Addr.add ad1 (y2_1.toNat*7)))) (r_indexA (sz:=7) rfl e1 rfl hi2.1 hi2.2 Tryd.runUnderlying22 Tryd.sizeOf34) ?_
        refine run_frame (by simp only [sc0,sc1];rfl) ?_
        refine rs (Value.agg #[vI ((rd z_api_Def a0.vDefs y2_1).vKind),vS ((rd z_api_Def a0.vDefs y2_1).vName),vI ((rd z_api_Def a0.vDefs y2_1).vInt.vSize),vB ((rd z_api_Def a0.vDefs y2_1).vInt.vSigned),vI ((rd z_api_Def a0.vDefs y2_1).vRef),vI ((rd z_api_Def a0.vDefs y2_1).vN),vL Aad1_6 ((rd z_api_Def a0.vDefs y2_1).vFields).length cad1_6]) (r_loadAgg rfl Tryd.isAgg34 (hel1.sees HS4.sees) Tryd.sizeOf34) ?_
        refine rs (vL (rowA (some b2)) ((a0.vDefs.length:Int).toNat) ((a0.vDefs.length:Int).toNat)) (r_move rfl) ?_
        obtain ⟨v1,H1,H⟩:=of_bind H
        obtain ⟨hl1,hs1,se1,rdl1⟩:=row_lend HS4 (i:=0) rfl hoy2_2
        refine run_eq (v:=vI v1) rfl rfl (does_call_eq Tryd.call98 rfl (map2 rfl (show _=vL (rowA (some b2)) y2_2.length ((a0.vDefs.length:Int).toNat) from by rw [hoy2_2.len];exact rfl)) (taplineref08_size.calls k (rd z_api_Def a0.vDefs y2_1) y2_2 Aad1_6 cad1_6 (rowA (some b2)) ((a0.vDefs.length:Int).toNat) se1 (hrad1_6.ext hs1) hcad1_6 rdl1 hoy2_2.cap H1)) ?_
        intro w5 hE2
        have HS5:=HS4.step hE2
        refine rs (vI v1) (r_assign rfl) ?_
        try simp only [sc0,sc1]
        refine run_nil ?_
        refine norm_then ?_
        refine wp_seq ?_
        refine region ?_
        refine rs (vI v1) (r_move rfl) ?_
        refine rs (vB (decide (v1>0))) (r_bin rfl rfl rfl) ?_
        try simp only [sc0,sc1]
        refine run_nil ?_
        refine norm_then ?_
        refine wp_cond_split (t:=(decide (v1>0))) rfl (fun c4=>?_) (fun c4=>?_)
        ·replace H:=of_pos H c4
         refine wp_seq ?_
         refine region ?_
         refine rs (vL (rowA (some b2)) ((a0.vDefs.length:Int).toNat) ((a0.vDefs.length:Int).toNat)) (r_move rfl) ?_
         refine rs (vI y2_1) (r_move rfl) ?_
         refine rs (vI v1) (r_move rfl) ?_
         refine rs (vI (iMin v1 513)) (r_min rfl rfl) ?_
         refine run_frame (by simp only [sc0,sc1];rfl) ?_
         obtain ⟨hi3,H⟩:=of_ite H
         obtain ⟨rb2,_,hrb2,rfl,hp2⟩:=hoy2_2.at 0 hi3.1 hi3.2
         refine rs (Value.pointer (some ⟨rb2,y2_1.toNat*1+0,none⟩)) (r_indexRow (sz:=1) rfl hrb2 rfl hi3.1 hi3.2 Tryd.runUnderlying62 Tryd.sizeOf3) ?_
         refine run_str (i:=0) (cs:=csy2_2) (v:=vI (iMin v1 513)) hrb2 rfl rfl Tryd.sizeOf3 rfl rfl HS5 rfl (hoy2_2.inb hi3.1 hi3.2 (m:=1) (by decide)) ?_
         intro w6 HS6
         have ho2:=hoy2_2.set (o:=0) (v:=vI (iMin v1 513)) (x':=(iMin v1 513)) hi3.1 hi3.2 hp2 rfl (Nat.le_of_ble_eq_true rfl)
         try simp only [sc0,sc1]
         refine run_nil ?_
         refine norm_then ?_
         refine region ?_
         refine rs (vB true) (r_assign rfl) ?_
         try simp only [sc0,sc1]
         refine run_nil ?_
         refine norm_block ?_
         refine norm_then ?_
         refine region ?_
         refine rs (vI y2_1) (r_move rfl) ?_
         refine rs (vI (w64 (y2_1+1))) (r_bin rfl rfl rfl) ?_
         refine rs (vI (w64 (y2_1+1))) (r_assign rfl) ?_
         try simp only [sc0,sc1]
         refine run_nil ?_
         refine again m [vB true,vI (w64 (y2_1+1)),vI v1,vI y2_1,vP b1 0,vL A0_0 a0.vDefs.length c0_0,vI (a0.vDefs.length:Int),vB (decide (y2_1<(a0.vDefs.length:Int))),vI y2_1,vI (w64 (y2_1+1)),vL (rowA (some b2)) ((a0.vDefs.length:Int).toNat) ((a0.vDefs.length:Int).toNat),vI y2_1,Value.pointer (some ⟨rb1,y2_1.toNat*1+0,none⟩),vI (rd 0 y2_2 y2_1),vB ((rd 0 y2_2 y2_1) !=0),vP b1 0,vL A0_0 a0.vDefs.length c0_0,vI y2_1,Value.pointer (some (Addr.add ad1 (y2_1.toNat*7))),Value.agg #[vI ((rd z_api_Def a0.vDefs y2_1).vKind),vS ((rd z_api_Def a0.vDefs y2_1).vName),vI ((rd z_api_Def a0.vDefs y2_1).vInt.vSize),vB ((rd z_api_Def a0.vDefs y2_1).vInt.vSigned),vI ((rd z_api_Def a0.vDefs y2_1).vRef),vI ((rd z_api_Def a0.vDefs y2_1).vN),vL Aad1_6 ((rd z_api_Def a0.vDefs y2_1).vFields).length cad1_6],vL (rowA (some b2)) ((a0.vDefs.length:Int).toNat) ((a0.vDefs.length:Int).toNat),vI v1,vI v1,vB (decide (v1>0)),vL (rowA (some b2)) ((a0.vDefs.length:Int).toNat) ((a0.vDefs.length:Int).toNat),vI y2_1,vI v1,vI (iMin v1 513),Value.pointer (some ⟨rb2,y2_1.toNat*1+0,none⟩)] (Nat.lt_succ_self m) (by simp only [patch,sc0,sc1]) ⟨true,(w64 (y2_1+1)),(List.set y2_2 y2_1.toNat (iMin v1 513)),(List.set csy2_2 (y2_1.toNat*1+0) (vI (iMin v1 513))),_,_,_,_,_,_,_,_,_,_,_,_,_,_,_,_,_,_,_,_,_,_,_,_,_,_,_,rfl,H,ho2,HS6⟩
        ·replace H:=of_neg H (nt c4)
         refine wp_skip ?_
         refine norm_block ?_
         refine norm_then ?_
         refine region ?_
         refine rs (vI y2_1) (r_move rfl) ?_
         refine rs (vI (w64 (y2_1+1))) (r_bin rfl rfl rfl) ?_
         refine rs (vI (w64 (y2_1+1))) (r_assign rfl) ?_
         try simp only [sc0,sc1]
         refine run_nil ?_
         refine again m [vB y2_0,vI (w64 (y2_1+1)),vI v1,vI y2_1,vP b1 0,vL A0_0 a0.vDefs.length c0_0,vI (a0.vDefs.length:Int),vB (decide (y2_1<(a0.vDefs.length:Int))),vI y2_1,vI (w64 (y2_1+1)),vL (rowA (some b2)) ((a0.vDefs.length:Int).toNat) ((a0.vDefs.length:Int).toNat),vI y2_1,Value.pointer (some ⟨rb1,y2_1.toNat*1+0,none⟩),vI (rd 0 y2_2 y2_1),vB ((rd 0 y2_2 y2_1) !=0),vP b1 0,vL A0_0 a0.vDefs.length c0_0,vI y2_1,Value.pointer (some (Addr.add ad1 (y2_1.toNat*7))),Value.agg #[vI ((rd z_api_Def a0.vDefs y2_1).vKind),vS ((rd z_api_Def a0.vDefs y2_1).vName),vI ((rd z_api_Def a0.vDefs y2_1).vInt.vSize),vB ((rd z_api_Def a0.vDefs y2_1).vInt.vSigned),vI ((rd z_api_Def a0.vDefs y2_1).vRef),vI ((rd z_api_Def a0.vDefs y2_1).vN),vL Aad1_6 ((rd z_api_Def a0.vDefs y2_1).vFields).length cad1_6],vL (rowA (some b2)) ((a0.vDefs.length:Int).toNat) ((a0.vDefs.length:Int).toNat),vI v1,vI v1,vB (decide (v1>0)),uy2_33,uy2_34,uy2_35,uy2_36,uy2_37] (Nat.lt_succ_self m) (by simp only [patch,sc0,sc1]) ⟨y2_0,(w64 (y2_1+1)),y2_2,csy2_2,_,_,_,_,_,_,_,_,_,_,_,_,_,_,_,_,_,_,_,_,_,_,_,_,_,_,_,rfl,H,hoy2_2,HS5⟩
      ·replace H:=of_neg H (nt c2)
       refine wp_exit ?_
       refine exit_then ?_
       obtain rfl:=Option.some.inj H
       refine leave [vB y2_0,vI y2_1,uy2_6,vI y2_1,vP b1 0,vL A0_0 a0.vDefs.length c0_0,vI (a0.vDefs.length:Int),vB (decide (y2_1<(a0.vDefs.length:Int))),uy2_17,uy2_18,uy2_19,uy2_20,uy2_21,uy2_22,uy2_23,uy2_24,uy2_25,uy2_26,uy2_27,uy2_28,uy2_29,uy2_30,uy2_31,uy2_32,uy2_33,uy2_34,uy2_35,uy2_36,uy2_37] (by simp only [patch,sc0,sc1]) ⟨csy2_2,_,_,_,_,_,_,_,_,_,_,_,_,_,_,_,_,_,_,_,_,_,_,_,_,_,_,_,_,rfl,hoy2_2,HS4⟩
    ·rintro us w7 ⟨cso1_1,uo1_5,uo1_6,uo1_12,uo1_13,uo1_14,uo1_15,uo1_16,uo1_17,uo1_18,uo1_19,uo1_20,uo1_21,uo1_22,uo1_23,uo1_24,uo1_25,uo1_26,uo1_27,uo1_28,uo1_29,uo1_30,uo1_31,uo1_32,uo1_33,uo1_34,uo1_35,uo1_36,uo1_37,rfl,hoo1_1,HS7⟩
     replace H:=G2
     clear G2
     try simp only [patch,sc0,sc1]
     refine norm_block ?_
     refine again m [vB xx2.1,uo1_5,uo1_6,vB y1_0,uo1_12,uo1_13,uo1_14,uo1_15,uo1_16,uo1_17,uo1_18,uo1_19,uo1_20,uo1_21,uo1_22,uo1_23,uo1_24,uo1_25,uo1_26,uo1_27,uo1_28,uo1_29,uo1_30,uo1_31,uo1_32,uo1_33,uo1_34,uo1_35,uo1_36,uo1_37] (Nat.lt_succ_self m) (by simp only [patch,sc0,sc1]) ⟨xx2.1,xx2.2,cso1_1,_,_,_,_,_,_,_,_,_,_,_,_,_,_,_,_,_,_,_,_,_,_,_,_,_,_,_,_,_,rfl,H,hoo1_1,HS7⟩
   ·replace H:=of_neg H (nt c1)
    refine wp_exit ?_
    refine exit_then ?_
    obtain rfl:=Option.some.inj H
    refine leave [vB y1_0,uy1_5,uy1_6,vB y1_0,uy1_12,uy1_13,uy1_14,uy1_15,uy1_16,uy1_17,uy1_18,uy1_19,uy1_20,uy1_21,uy1_22,uy1_23,uy1_24,uy1_25,uy1_26,uy1_27,uy1_28,uy1_29,uy1_30,uy1_31,uy1_32,uy1_33,uy1_34,uy1_35,uy1_36,uy1_37] (by simp only [patch,sc0,sc1]) ⟨csy1_1,_,_,_,_,_,_,_,_,_,_,_,_,_,_,_,_,_,_,_,_,_,_,_,_,_,_,_,_,_,_,rfl,hoy1_1,HS3⟩
 ·rintro us w8 ⟨cso2_0,uo2_4,uo2_5,uo2_6,uo2_11,uo2_12,uo2_13,uo2_14,uo2_15,uo2_16,uo2_17,uo2_18,uo2_19,uo2_20,uo2_21,uo2_22,uo2_23,uo2_24,uo2_25,uo2_26,uo2_27,uo2_28,uo2_29,uo2_30,uo2_31,uo2_32,uo2_33,uo2_34,uo2_35,uo2_36,uo2_37,rfl,hoo2_0,HS8⟩
  replace H:=G1
  clear G1
  try simp only [patch,sc0,sc1]
  refine norm_then ?_
  refine wp_seq ?_
  refine region ?_
  refine rs (vL (rowA (some b2)) ((a0.vDefs.length:Int).toNat) ((a0.vDefs.length:Int).toNat)) (r_move rfl) ?_
  refine rs (vL (rowA (some b2)) ((a0.vDefs.length:Int).toNat) ((a0.vDefs.length:Int).toNat)) (r_assign rfl) ?_
  try simp only [sc0,sc1]
  refine run_nil ?_
  refine norm_then ?_
  refine wp_ret ?_
  obtain rfl:=Option.some.inj H
  refine bodyPost_ret (results_1 rfl (one_tmp rfl)) rfl ?_
  obtain ⟨h1,HS9,hs2,rdp1⟩:=row_pub HS8 (i:=0) rfl hoo2_0
  exact ⟨h1,(rowA (some b2)),(a0.vDefs.length:Int).toNat,(by first|rfl|(rw [hoo2_0.len];done)|(rw [hoo2_0.len];rfl)),hoo2_0.cap,rdp1,HS9.gr,HS9.sees,HS9.toE⟩

end Go.Proofs.YtfjppgobidjndaaDoor
namespace Go.Proofs.YtfjppgobidjndaaDoor
open Go.RowKit Go.M
def taplineref08_ends.l0 (a0:api_Types):Nat→Int→Int→Option ((Bool)⊕(Unit))
 |0,_,_=>none
 |m+1,y1_0,y1_1=>if (decide (y1_1≤(a0.vDefs.length:Int)))=true then (if 0≤y1_0∧y1_0<a0.vDefs.length then ((taplineref08_Named.f (rd z_api_Def a0.vDefs y1_0)).bind fun v1=>(if v1=true then (some (.inl true)) else (if 0≤y1_0∧y1_0<a0.vDefs.length then (taplineref08_ends.l0 a0 m ((rd z_api_Def a0.vDefs y1_0).vRef) (IntKind.wrap .i64 (y1_1+1))) else none))) else none) else (some (.inr ()))
def taplineref08_ends.f (k:Nat) (a0:api_Types) (a1:Int):Option (Bool):=(taplineref08_ends.l0 a0 k a1 0).bind fun xx1=>(match xx1 with| .inl r=>some r| .inr s1=>some false)
set_option maxRecDepth 20000 in
set_option maxHeartbeats 4000000 in
theorem taplineref08_ends.calls (k:Nat) (a0:api_Types) (a1:Int) (A0_0:Option Addr) (c0_0:Nat) {h0:View} {w0:World} (hv:Sees h0 w0) (hr0_0:Rd k_api_Def h0 A0_0 a0.vDefs) (hc0_0:a0.vDefs.length≤c0_0) {r:Bool} (H:taplineref08_ends.f k a0 a1=some r):Calls Tryd.prog 51 #[Value.agg #[vL A0_0 a0.vDefs.length c0_0],vI a1] w0 (fun e w1=>e= .returned (vB r)∧Ext w0 w1):=by
 unfold taplineref08_ends.f at H
 have HS:St [] h0 w0 h0 [] w0:=St.init hv
 go_enter Tryd.func51,Tryd.ntmps51
 refine wp_seq ?_
 refine region ?_
 refine run_ex rfl rfl (does_box (cs:=#[vL A0_0 a0.vDefs.length c0_0]) rfl rfl) ?_
 rintro w1 _ hE1 ⟨b1,rfl,ge1,hb1⟩
 have HS1:=HS.new hE1 ge1 hb1
 refine rs (vB false) (r_assign rfl) ?_
 try simp only [sc0,sc1]
 refine run_nil ?_
 refine norm_then ?_
 refine wp_seq ?_
 refine wp_seq ?_
 refine region ?_
 refine rs (vI 0) (r_assign rfl) ?_
 try simp only [sc0,sc1]
 refine run_nil ?_
 refine norm_then ?_
 obtain ⟨xx1,H,G1⟩:=of_bind H
 refine loop_patch [1,4,5,6,7,8,9,10,11,12,13,14,15,16,17,18,19,20,21,22,23,24] (fun m us w'=>∃y1_0 y1_1:Int,∃uy1_4 uy1_6 uy1_7 uy1_8 uy1_9 uy1_10 uy1_11 uy1_12 uy1_13 uy1_14 uy1_15 uy1_16 uy1_17 uy1_18 uy1_19 uy1_20 uy1_21 uy1_22 uy1_23 uy1_24:Value,us=[vI y1_0,uy1_4,vI y1_1,uy1_6,uy1_7,uy1_8,uy1_9,uy1_10,uy1_11,uy1_12,uy1_13,uy1_14,uy1_15,uy1_16,uy1_17,uy1_18,uy1_19,uy1_20,uy1_21,uy1_22,uy1_23,uy1_24]∧taplineref08_ends.l0 a0 m y1_0 y1_1=some xx1∧St [] h0 w0 h0 [(some b1, .cells #[vL A0_0 a0.vDefs.length c0_0] 24 (0,0))] w') (fun us w'=>∃(s1:Unit),xx1= .inr s1∧∃uo1_1 uo1_4 uo1_5 uo1_6 uo1_7 uo1_8 uo1_9 uo1_10 uo1_11 uo1_12 uo1_13 uo1_14 uo1_15 uo1_16 uo1_17 uo1_18 uo1_19 uo1_20 uo1_21 uo1_22 uo1_23 uo1_24:Value,us=[uo1_1,uo1_4,uo1_5,uo1_6,uo1_7,uo1_8,uo1_9,uo1_10,uo1_11,uo1_12,uo1_13,uo1_14,uo1_15,uo1_16,uo1_17,uo1_18,uo1_19,uo1_20,uo1_21,uo1_22,uo1_23,uo1_24]∧St [] h0 w0 h0 [(some b1, .cells #[vL A0_0 a0.vDefs.length c0_0] 24 (0,0))] w') k [vI a1,vB false,vI 0,undef,undef,undef,undef,undef,undef,undef,undef,undef,undef,undef,undef,undef,undef,undef,undef,undef,undef,undef] (by simp only [patch,sc0,sc1]) ⟨a1,0,_,_,_,_,_,_,_,_,_,_,_,_,_,_,_,_,_,_,_,_,rfl,H,HS1⟩ ?_ ?_
 ·rintro m us w2 ⟨y1_0,y1_1,uy1_4,uy1_6,uy1_7,uy1_8,uy1_9,uy1_10,uy1_11,uy1_12,uy1_13,uy1_14,uy1_15,uy1_16,uy1_17,uy1_18,uy1_19,uy1_20,uy1_21,uy1_22,uy1_23,uy1_24,rfl,H,HS2⟩
  cases m with
  |zero=>exact absurd H (by simp [taplineref08_ends.l0])
  |succ m=>
   rw [taplineref08_ends.l0] at H
   try simp only [patch,sc0,sc1]
   refine wp_seq ?_
   refine wp_seq ?_
   refine region ?_
   refine rs (vI y1_1) (r_move rfl) ?_
   refine rs (vP b1 0) (r_fieldBox (n:=1) (o':=0) rfl Tryd.runUnderlying24 rfl Tryd.sizeOf22 (by decide) rfl) ?_
   refine rs (vL A0_0 a0.vDefs.length c0_0) (r_loadBox rfl Tryd.isAgg22 (HS2.look 0 rfl) rfl) ?_
   refine rs (vI (a0.vDefs.length:Int)) (r_len rfl Tryd.runUnderlying22) ?_
   refine run_frame (by simp only [sc0,sc1];rfl) ?_
   refine rs (vB (decide (y1_1≤(a0.vDefs.length:Int)))) (r_bin rfl rfl rfl) ?_
   try simp only [sc0,sc1]
   refine run_nil ?_
   refine norm_then ?_
   refine wp_cond_split (t:=(decide (y1_1≤(a0.vDefs.length:Int)))) rfl (fun c1=>?_) (fun c1=>?_)
   ·replace H:=of_pos H c1
    refine wp_skip ?_
    refine norm_then ?_
    refine wp_seq ?_
    refine wp_block ?_
    refine wp_seq ?_
    refine wp_seq ?_
    refine region ?_
    refine rs (vP b1 0) (r_fieldBox (n:=1) (o':=0) rfl Tryd.runUnderlying24 rfl Tryd.sizeOf22 (by decide) rfl) ?_
    refine rs (vL A0_0 a0.vDefs.length c0_0) (r_loadBox rfl Tryd.isAgg22 (HS2.look 0 rfl) rfl) ?_
    refine rs (vI y1_0) (r_move rfl) ?_
    obtain ⟨hi1,H⟩:=of_ite H
    obtain ⟨ad1,Aad1_6,cad1_6,e1,hel1,hcad1_6,hrad1_6⟩:=ld_api_Def hr0_0 hi1.1 hi1.2
    refine rs (Value.pointer (some (Addr.add ad1 (y1_0.toNat*7)))) (r_indexA (sz:=7) rfl e1 rfl hi1.1 hi1.2 Tryd.runUnderlying22 Tryd.sizeOf34) ?_
    refine run_frame (by simp only [sc0,sc1];rfl) ?_
    refine rs (Value.agg #[vI ((rd z_api_Def a0.vDefs y1_0).vKind),vS ((rd z_api_Def a0.vDefs y1_0).vName),vI ((rd z_api_Def a0.vDefs y1_0).vInt.vSize),vB ((rd z_api_Def a0.vDefs y1_0).vInt.vSigned),vI ((rd z_api_Def a0.vDefs y1_0).vRef),vI ((rd z_api_Def a0.vDefs y1_0).vN),vL Aad1_6 ((rd z_api_Def a0.vDefs y1_0).vFields).length cad1_6]) (r_loadAgg rfl Tryd.isAgg34 (hel1.sees HS2.sees) Tryd.sizeOf34) ?_
    obtain ⟨v1,H1,H⟩:=of_bind H
    refine run_eq (v:=vB v1) rfl rfl (does_call_eq Tryd.call49 rfl rfl (taplineref08_Named.calls (rd z_api_Def a0.vDefs y1_0) Aad1_6 cad1_6 HS2.sees hrad1_6 hcad1_6 H1)) ?_
    intro w3 hE2
    have HS3:=HS2.step hE2
    try simp only [sc0,sc1]
    refine run_nil ?_
    refine norm_then ?_
    refine wp_cond_split (t:=v1) rfl (fun c2=>?_) (fun c2=>?_)
    ·replace H:=of_pos H c2
     refine wp_seq ?_
     refine region ?_
     refine rs (vB true) (r_assign rfl) ?_
     try simp only [sc0,sc1]
     refine run_nil ?_
     refine norm_then ?_
     refine wp_ret ?_
     refine ret_then ?_
     refine ret_block ?_
     refine ret_then ?_
     refine ret_loop ?_
     refine ret_then ?_
     obtain rfl:=Option.some.inj H
     obtain rfl:=Option.some.inj G1
     refine bodyPost_ret (results_1 rfl (one_tmp rfl)) rfl ?_
     exact ⟨rfl,HS3.toE⟩
    ·replace H:=of_neg H (nt c2)
     refine wp_skip ?_
     refine norm_then ?_
     refine region ?_
     refine rs (vP b1 0) (r_fieldBox (n:=1) (o':=0) rfl Tryd.runUnderlying24 rfl Tryd.sizeOf22 (by decide) rfl) ?_
     refine rs (vL A0_0 a0.vDefs.length c0_0) (r_loadBox rfl Tryd.isAgg22 (HS3.look 0 rfl) rfl) ?_
     refine rs (vI y1_0) (r_move rfl) ?_
     obtain ⟨hi2,H⟩:=of_ite H
     obtain ⟨ad2,Aad2_6,cad2_6,e2,hel2,hcad2_6,hrad2_6⟩:=ld_api_Def hr0_0 hi2.1 hi2.2
     refine rs (Value.pointer (some (Addr.add ad2 (y1_0.toNat*7)))) (r_indexA (sz:=7) rfl e2 rfl hi2.1 hi2.2 Tryd.runUnderlying22 Tryd.sizeOf34) ?_
     refine run_frame (by simp only [sc0,sc1];rfl) ?_
     refine rs (Value.pointer (some (Addr.add (Addr.add ad2 (y1_0.toNat*7)) 4))) (r_fieldEl (n:=1) (o':=4) rfl Tryd.runUnderlying34 rfl Tryd.sizeOf3 (by decide) rfl) ?_
     refine rs (vI ((rd z_api_Def a0.vDefs y1_0).vRef)) (r_load rfl Tryd.isAgg3 (hel2.cell HS3.sees 4 rfl)) ?_
     refine rs (vI ((rd z_api_Def a0.vDefs y1_0).vRef)) (r_assign rfl) ?_
     try simp only [sc0,sc1]
     refine run_nil ?_
     refine norm_block ?_
     refine norm_then ?_
     refine region ?_
     refine rs (vI y1_1) (r_move rfl) ?_
     refine rs (vI (w64 (y1_1+1))) (r_bin rfl rfl rfl) ?_
     refine rs (vI (w64 (y1_1+1))) (r_assign rfl) ?_
     try simp only [sc0,sc1]
     refine run_nil ?_
     refine again m [vI ((rd z_api_Def a0.vDefs y1_0).vRef),uy1_4,vI (w64 (y1_1+1)),vI y1_1,vP b1 0,vL A0_0 a0.vDefs.length c0_0,vI (a0.vDefs.length:Int),vB (decide (y1_1≤(a0.vDefs.length:Int))),vI y1_1,vI (w64 (y1_1+1)),vP b1 0,vL A0_0 a0.vDefs.length c0_0,vI y1_0,Value.pointer (some (Addr.add ad1 (y1_0.toNat*7))),Value.agg #[vI ((rd z_api_Def a0.vDefs y1_0).vKind),vS ((rd z_api_Def a0.vDefs y1_0).vName),vI ((rd z_api_Def a0.vDefs y1_0).vInt.vSize),vB ((rd z_api_Def a0.vDefs y1_0).vInt.vSigned),vI ((rd z_api_Def a0.vDefs y1_0).vRef),vI ((rd z_api_Def a0.vDefs y1_0).vN),vL Aad1_6 ((rd z_api_Def a0.vDefs y1_0).vFields).length cad1_6],vB v1,vP b1 0,vL A0_0 a0.vDefs.length c0_0,vI y1_0,Value.pointer (some (Addr.add ad2 (y1_0.toNat*7))),Value.pointer (some (Addr.add (Addr.add ad2 (y1_0.toNat*7)) 4)),vI ((rd z_api_Def a0.vDefs y1_0).vRef)] (Nat.lt_succ_self m) (by simp only [patch,sc0,sc1]) ⟨(rd z_api_Def a0.vDefs y1_0).vRef,(w64 (y1_1+1)),_,_,_,_,_,_,_,_,_,_,_,_,_,_,_,_,_,_,_,_,rfl,H,HS3⟩
   ·replace H:=of_neg H (nt c1)
    refine wp_exit ?_
    refine exit_then ?_
    obtain rfl:=Option.some.inj H
    refine leave [vI y1_0,uy1_4,vI y1_1,vI y1_1,vP b1 0,vL A0_0 a0.vDefs.length c0_0,vI (a0.vDefs.length:Int),vB (decide (y1_1≤(a0.vDefs.length:Int))),uy1_11,uy1_12,uy1_13,uy1_14,uy1_15,uy1_16,uy1_17,uy1_18,uy1_19,uy1_20,uy1_21,uy1_22,uy1_23,uy1_24] (by simp only [patch,sc0,sc1]) ⟨_,rfl,_,_,_,_,_,_,_,_,_,_,_,_,_,_,_,_,_,_,_,_,_,_,rfl,HS2⟩
 ·rintro us w4 ⟨s1,rfl,uo1_1,uo1_4,uo1_5,uo1_6,uo1_7,uo1_8,uo1_9,uo1_10,uo1_11,uo1_12,uo1_13,uo1_14,uo1_15,uo1_16,uo1_17,uo1_18,uo1_19,uo1_20,uo1_21,uo1_22,uo1_23,uo1_24,rfl,HS4⟩
  replace H:=G1
  clear G1
  try simp only [patch,sc0,sc1]
  refine norm_then ?_
  refine wp_seq ?_
  refine region ?_
  refine rs (vB false) (r_assign rfl) ?_
  try simp only [sc0,sc1]
  refine run_nil ?_
  refine norm_then ?_
  refine wp_ret ?_
  obtain rfl:=Option.some.inj H
  refine bodyPost_ret (results_1 rfl (one_tmp rfl)) rfl ?_
  exact ⟨rfl,HS4.toE⟩

end Go.Proofs.YtfjppgobidjndaaDoor
namespace Go.Proofs.YtfjppgobidjndaaDoor
open Go.RowKit Go.M
def taplineref08_placed.l0 (a0:api_Def) (a1:List Int):Nat→Int→Int→Option ((Bool)⊕(Int))
 |0,_,_=>none
 |m+1,y1_0,y1_1=>if (decide (y1_1<(a0.vFields.length:Int)))=true then (if 0≤y1_1∧y1_1<a0.vFields.length then (if ((decide ((rd z_api_Field a0.vFields y1_1).vAt<y1_0))||(decide ((rd z_api_Field a0.vFields y1_1).vAt>a0.vN)))=true then (some (.inl false)) else (if 0≤(rd z_api_Field a0.vFields y1_1).vType∧(rd z_api_Field a0.vFields y1_1).vType<a1.length then (taplineref08_placed.l0 a0 a1 m (IntKind.wrap .i64 ((rd z_api_Field a0.vFields y1_1).vAt+(rd 0 a1 ((rd z_api_Field a0.vFields y1_1).vType)))) (IntKind.wrap .i64 (y1_1+1))) else none)) else none) else (some (.inr y1_0))
def taplineref08_placed.f (k:Nat) (a0:api_Def) (a1:List Int):Option (Bool):=(taplineref08_placed.l0 a0 a1 k 0 0).bind fun xx1=>(match xx1 with| .inl r=>some r| .inr s1=>some (decide (s1≤a0.vN)))
set_option maxRecDepth 20000 in
set_option maxHeartbeats 4000000 in
theorem taplineref08_placed.calls (k:Nat) (a0:api_Def) (a1:List Int) (A0_6:Option Addr) (c0_6:Nat) (A1_0:Option Addr) (c1_0:Nat) {h0:View} {w0:World} (hv:Sees h0 w0) (hr0_6:Rd k_api_Field h0 A0_6 a0.vFields) (hc0_6:a0.vFields.length≤c0_6) (hr1_0:Rd (Kd.int .i64) h0 A1_0 a1) (hc1_0:a1.length≤c1_0) {r:Bool} (H:taplineref08_placed.f k a0 a1=some r):Calls Tryd.prog 52 #[Value.agg #[vI a0.vKind,vS a0.vName,vI a0.vInt.vSize,vB a0.vInt.vSigned,vI a0.vRef,vI a0.vN,vL A0_6 a0.vFields.length c0_6],vL A1_0 a1.length c1_0] w0 (fun e w1=>e= .returned (vB r)∧Ext w0 w1):=by
 unfold taplineref08_placed.f at H
 have HS:St [] h0 w0 h0 [] w0:=St.init hv
 go_enter Tryd.func52,Tryd.ntmps52
 refine wp_seq ?_
 refine region ?_
 refine run_ex rfl rfl (does_box (cs:=#[vI a0.vKind,vS a0.vName,vI a0.vInt.vSize,vB a0.vInt.vSigned,vI a0.vRef,vI a0.vN,vL A0_6 a0.vFields.length c0_6]) rfl rfl) ?_
 rintro w1 _ hE1 ⟨b1,rfl,ge1,hb1⟩
 have HS1:=HS.new hE1 ge1 hb1
 refine rs (vB false) (r_assign rfl) ?_
 try simp only [sc0,sc1]
 refine run_nil ?_
 refine norm_then ?_
 refine wp_seq ?_
 refine region ?_
 refine rs (vI 0) (r_assign rfl) ?_
 try simp only [sc0,sc1]
 refine run_nil ?_
 refine norm_then ?_
 refine wp_seq ?_
 refine wp_seq ?_
 refine region ?_
 refine rs (vI 0) (r_assign rfl) ?_
 try simp only [sc0,sc1]
 refine run_nil ?_
 refine norm_then ?_
 obtain ⟨xx1,H,G1⟩:=of_bind H
 refine loop_patch [4,5,6,7,8,9,10,11,12,13,14,15,16,17,18,19,20,21,22,23,24,25,26,27,28,29,30,31,32,33,34,35,36,37,38] (fun m us w'=>∃y1_0 y1_1:Int,∃uy1_4 uy1_7 uy1_8 uy1_9 uy1_10 uy1_11 uy1_12 uy1_13 uy1_14 uy1_15 uy1_16 uy1_17 uy1_18 uy1_19 uy1_20 uy1_21 uy1_22 uy1_23 uy1_24 uy1_25 uy1_26 uy1_27 uy1_28 uy1_29 uy1_30 uy1_31 uy1_32 uy1_33 uy1_34 uy1_35 uy1_36 uy1_37 uy1_38:Value,us=[uy1_4,vI y1_0,vI y1_1,uy1_7,uy1_8,uy1_9,uy1_10,uy1_11,uy1_12,uy1_13,uy1_14,uy1_15,uy1_16,uy1_17,uy1_18,uy1_19,uy1_20,uy1_21,uy1_22,uy1_23,uy1_24,uy1_25,uy1_26,uy1_27,uy1_28,uy1_29,uy1_30,uy1_31,uy1_32,uy1_33,uy1_34,uy1_35,uy1_36,uy1_37,uy1_38]∧taplineref08_placed.l0 a0 a1 m y1_0 y1_1=some xx1∧St [] h0 w0 h0 [(some b1, .cells #[vI a0.vKind,vS a0.vName,vI a0.vInt.vSize,vB a0.vInt.vSigned,vI a0.vRef,vI a0.vN,vL A0_6 a0.vFields.length c0_6] 34 (0,0))] w') (fun us w'=>∃(s1:Int),xx1= .inr s1∧∃uo1_4 uo1_6 uo1_7 uo1_8 uo1_9 uo1_10 uo1_11 uo1_12 uo1_13 uo1_14 uo1_15 uo1_16 uo1_17 uo1_18 uo1_19 uo1_20 uo1_21 uo1_22 uo1_23 uo1_24 uo1_25 uo1_26 uo1_27 uo1_28 uo1_29 uo1_30 uo1_31 uo1_32 uo1_33 uo1_34 uo1_35 uo1_36 uo1_37 uo1_38:Value,us=[uo1_4,vI s1,uo1_6,uo1_7,uo1_8,uo1_9,uo1_10,uo1_11,uo1_12,uo1_13,uo1_14,uo1_15,uo1_16,uo1_17,uo1_18,uo1_19,uo1_20,uo1_21,uo1_22,uo1_23,uo1_24,uo1_25,uo1_26,uo1_27,uo1_28,uo1_29,uo1_30,uo1_31,uo1_32,uo1_33,uo1_34,uo1_35,uo1_36,uo1_37,uo1_38]∧St [] h0 w0 h0 [(some b1, .cells #[vI a0.vKind,vS a0.vName,vI a0.vInt.vSize,vB a0.vInt.vSigned,vI a0.vRef,vI a0.vN,vL A0_6 a0.vFields.length c0_6] 34 (0,0))] w') k [vB false,vI 0,vI 0,undef,undef,undef,undef,undef,undef,undef,undef,undef,undef,undef,undef,undef,undef,undef,undef,undef,undef,undef,undef,undef,undef,undef,undef,undef,undef,undef,undef,undef,undef,undef,undef] (by simp only [patch,sc0,sc1]) ⟨0,0,_,_,_,_,_,_,_,_,_,_,_,_,_,_,_,_,_,_,_,_,_,_,_,_,_,_,_,_,_,_,_,_,_,rfl,H,HS1⟩ ?_ ?_
 ·rintro m us w2 ⟨y1_0,y1_1,uy1_4,uy1_7,uy1_8,uy1_9,uy1_10,uy1_11,uy1_12,uy1_13,uy1_14,uy1_15,uy1_16,uy1_17,uy1_18,uy1_19,uy1_20,uy1_21,uy1_22,uy1_23,uy1_24,uy1_25,uy1_26,uy1_27,uy1_28,uy1_29,uy1_30,uy1_31,uy1_32,uy1_33,uy1_34,uy1_35,uy1_36,uy1_37,uy1_38,rfl,H,HS2⟩
  cases m with
  |zero=>exact absurd H (by simp [taplineref08_placed.l0])
  |succ m=>
   rw [taplineref08_placed.l0] at H
   try simp only [patch,sc0,sc1]
   refine wp_seq ?_
   refine wp_seq ?_
   refine region ?_
   refine rs (vI y1_1) (r_move rfl) ?_
   refine rs (vP b1 6) (r_fieldBox (n:=1) (o':=6) rfl Tryd.runUnderlying34 rfl Tryd.sizeOf32 (by decide) rfl) ?_
   refine rs (vL A0_6 a0.vFields.length c0_6) (r_loadBox rfl Tryd.isAgg32 (HS2.look 0 rfl) rfl) ?_
   refine rs (vI (a0.vFields.length:Int)) (r_len rfl Tryd.runUnderlying32) ?_
   refine run_frame (by simp only [sc0,sc1];rfl) ?_
   refine rs (vB (decide (y1_1<(a0.vFields.length:Int)))) (r_bin rfl rfl rfl) ?_
   try simp only [sc0,sc1]
   refine run_nil ?_
   refine norm_then ?_
   refine wp_cond_split (t:=(decide (y1_1<(a0.vFields.length:Int)))) rfl (fun c1=>?_) (fun c1=>?_)
   ·replace H:=of_pos H c1
    refine wp_skip ?_
    refine norm_then ?_
    refine wp_seq ?_
    refine wp_block ?_
    refine wp_seq ?_
    refine region ?_
    refine rs (vP b1 6) (r_fieldBox (n:=1) (o':=6) rfl Tryd.runUnderlying34 rfl Tryd.sizeOf32 (by decide) rfl) ?_
    refine rs (vL A0_6 a0.vFields.length c0_6) (r_loadBox rfl Tryd.isAgg32 (HS2.look 0 rfl) rfl) ?_
    refine rs (vI y1_1) (r_move rfl) ?_
    obtain ⟨hi1,H⟩:=of_ite H
    obtain ⟨ad1,e1,hel1⟩:=ld_api_Field hr0_6 hi1.1 hi1.2
    refine rs (Value.pointer (some (Addr.add ad1 (y1_1.toNat*3)))) (r_indexA (sz:=3) rfl e1 rfl hi1.1 hi1.2 Tryd.runUnderlying32 Tryd.sizeOf36) ?_
    refine run_frame (by simp only [sc0,sc1];rfl) ?_
    refine rs (Value.agg #[vS ((rd z_api_Field a0.vFields y1_1).vName),vI ((rd z_api_Field a0.vFields y1_1).vType),vI ((rd z_api_Field a0.vFields y1_1).vAt)]) (r_loadAgg rfl Tryd.isAgg36 (hel1.sees HS2.sees) Tryd.sizeOf36) ?_
    refine run_ex rfl rfl (does_alloc (cs:=#[vS ByteArray.empty,vI 0,vI 0]) Tryd.zeroValue36 rfl) ?_
    rintro w3 _ hE2 ⟨b2,rfl,ge2,hb2⟩
    have HS3:=HS2.new hE2 ge2 hb2
    refine run_st (i:=0) (cs:=[vS ByteArray.empty,vI 0,vI 0]) (cs':=[vS ((rd z_api_Field a0.vFields y1_1).vName),vI ((rd z_api_Field a0.vFields y1_1).vType),vI ((rd z_api_Field a0.vFields y1_1).vAt)]) (vs:=[vS ((rd z_api_Field a0.vFields y1_1).vName),vI ((rd z_api_Field a0.vFields y1_1).vType),vI ((rd z_api_Field a0.vFields y1_1).vAt)]) (bs':=[(some b2, .cells #[vS ((rd z_api_Field a0.vFields y1_1).vName),vI ((rd z_api_Field a0.vFields y1_1).vType),vI ((rd z_api_Field a0.vFields y1_1).vAt)] 36 (0,0)),(some b1, .cells #[vI a0.vKind,vS a0.vName,vI a0.vInt.vSize,vB a0.vInt.vSigned,vI a0.vRef,vI a0.vN,vL A0_6 a0.vFields.length c0_6] 34 (0,0))]) rfl rfl Tryd.sizeOf36 rfl rfl (by decide) rfl HS3 rfl (Nat.le_of_ble_eq_true rfl) rfl rfl ?_
    intro w4 HS4
    try simp only [sc0,sc1]
    refine run_nil ?_
    refine norm_then ?_
    refine wp_seq ?_
    refine wp_seq ?_
    refine region ?_
    refine rs (vP b2 2) (r_fieldBox (n:=1) (o':=2) rfl Tryd.runUnderlying36 rfl Tryd.sizeOf3 (by decide) rfl) ?_
    refine rs (vI ((rd z_api_Field a0.vFields y1_1).vAt)) (r_loadBox rfl Tryd.isAgg3 (HS4.look 0 rfl) rfl) ?_
    refine rs (vI y1_0) (r_move rfl) ?_
    refine rs (vB (decide ((rd z_api_Field a0.vFields y1_1).vAt<y1_0))) (r_bin rfl rfl rfl) ?_
    refine run_frame (by simp only [sc0,sc1];rfl) ?_
    refine rs (vB (decide ((rd z_api_Field a0.vFields y1_1).vAt<y1_0))) (r_move rfl) ?_
    refine rgs (decide ((rd z_api_Field a0.vFields y1_1).vAt<y1_0)) true (vP b2 2) rfl rfl rfl rfl (fun hg=>(r_fieldBox (n:=1) (o':=2) rfl Tryd.runUnderlying36 rfl Tryd.sizeOf3 (by decide) rfl)) ?_
    refine rgs (decide ((rd z_api_Field a0.vFields y1_1).vAt<y1_0)) true (vI ((rd z_api_Field a0.vFields y1_1).vAt)) rfl rfl rfl rfl (fun hg=>(r_loadBox (gvt (vP b2 2) hg rfl) Tryd.isAgg3 (HS4.look 0 rfl) rfl)) ?_
    refine rgs (decide ((rd z_api_Field a0.vFields y1_1).vAt<y1_0)) true (vP b1 5) rfl rfl rfl rfl (fun hg=>(r_fieldBox (n:=1) (o':=5) rfl Tryd.runUnderlying34 rfl Tryd.sizeOf3 (by decide) rfl)) ?_
    refine run_frame (by simp only [sc0,sc1];rfl) ?_
    refine rgs (decide ((rd z_api_Field a0.vFields y1_1).vAt<y1_0)) true (vI a0.vN) rfl rfl rfl rfl (fun hg=>(r_loadBox (gvt (vP b1 5) hg rfl) Tryd.isAgg3 (HS4.look 1 rfl) rfl)) ?_
    refine rgs (decide ((rd z_api_Field a0.vFields y1_1).vAt<y1_0)) true (vB (decide ((rd z_api_Field a0.vFields y1_1).vAt>a0.vN))) rfl rfl rfl rfl (fun hg=>(r_bin (gvt (vI ((rd z_api_Field a0.vFields y1_1).vAt)) hg rfl) (gvt (vI a0.vN) hg rfl) rfl)) ?_
    refine rs (vB ((decide ((rd z_api_Field a0.vFields y1_1).vAt<y1_0))||(decide ((rd z_api_Field a0.vFields y1_1).vAt>a0.vN)))) (r_pick_or rfl rfl (fun hp=>(gvt (vB (decide ((rd z_api_Field a0.vFields y1_1).vAt>a0.vN))) (and_i rfl hp) rfl))) ?_
    try simp only [sc0,sc1]
    refine run_nil ?_
    refine norm_then ?_
    refine wp_cond_split (t:=((decide ((rd z_api_Field a0.vFields y1_1).vAt<y1_0))||(decide ((rd z_api_Field a0.vFields y1_1).vAt>a0.vN)))) rfl (fun c2=>?_) (fun c2=>?_)
    ·replace H:=of_pos H c2
     refine wp_seq ?_
     refine region ?_
     refine rs (vB false) (r_assign rfl) ?_
     try simp only [sc0,sc1]
     refine run_nil ?_
     refine norm_then ?_
     refine wp_ret ?_
     refine ret_then ?_
     refine ret_block ?_
     refine ret_then ?_
     refine ret_loop ?_
     refine ret_then ?_
     obtain rfl:=Option.some.inj H
     obtain rfl:=Option.some.inj G1
     refine bodyPost_ret (results_1 rfl (one_tmp rfl)) rfl ?_
     exact ⟨rfl,HS4.toE⟩
    ·replace H:=of_neg H (nt c2)
     refine wp_skip ?_
     refine norm_then ?_
     obtain ⟨hi2,H⟩:=of_ite H
     obtain ⟨ad2,e2,hel2⟩:=ld_int hr1_0 hi2.1 hi2.2
     refine drawn [.eq (vP b2 2), .eq (vI ((rd z_api_Field a0.vFields y1_1).vAt)), .eq (vL A1_0 a1.length c1_0), .eq (vP b2 1), .eq (vI ((rd z_api_Field a0.vFields y1_1).vType)), .eq (Value.pointer (some (Addr.add ad2 (((rd z_api_Field a0.vFields y1_1).vType).toNat*1)))), .eq (vI (rd 0 a1 ((rd z_api_Field a0.vFields y1_1).vType))), .eq (vI (w64 ((rd z_api_Field a0.vFields y1_1).vAt+(rd 0 a1 ((rd z_api_Field a0.vFields y1_1).vType)))))] [31,32,33,34,35,36,37,38] hmix (by kernel_rfl) rfl (stable_eq (stable_eq (stable_eq (stable_eq (stable_eq (stable_eq (stable_eq (stable_eq stable_nil)))))))) ⟨ob_plain rfl (fun a' w' hE hk=>by have HSd:=HS4.step hE;exact does_eq (r_fieldBox (n:=1) (o':=2) (show _=vP b2 0 from hk 7 rfl) Tryd.runUnderlying36 rfl Tryd.sizeOf3 (by decide) rfl)),ob_plain rfl (fun a' w' hE hk=>by have HSd:=HS4.step hE;exact does_eq (r_loadBox (show _=vP b2 2 from hk 31 rfl) Tryd.isAgg3 (HSd.look 0 rfl) rfl)),ob_plain rfl (fun a' w' hE hk=>by have HSd:=HS4.step hE;exact does_eq (r_move (show _=vL A1_0 a1.length c1_0 from hk 1 rfl))),ob_plain rfl (fun a' w' hE hk=>by have HSd:=HS4.step hE;exact does_eq (r_fieldBox (n:=1) (o':=1) (show _=vP b2 0 from hk 7 rfl) Tryd.runUnderlying36 rfl Tryd.sizeOf3 (by decide) rfl)),ob_plain rfl (fun a' w' hE hk=>by have HSd:=HS4.step hE;exact does_eq (r_loadBox (show _=vP b2 1 from hk 34 rfl) Tryd.isAgg3 (HSd.look 0 rfl) rfl)),ob_plain rfl (fun a' w' hE hk=>by have HSd:=HS4.step hE;exact does_eq (r_indexA (sz:=1) (show _=vL A1_0 a1.length c1_0 from hk 33 rfl) e2 (show _=vI ((rd z_api_Field a0.vFields y1_1).vType) from hk 35 rfl) hi2.1 hi2.2 Tryd.runUnderlying62 Tryd.sizeOf3)),ob_plain rfl (fun a' w' hE hk=>by have HSd:=HS4.step hE;exact does_eq (r_load (show _=Value.pointer (some (Addr.add ad2 (((rd z_api_Field a0.vFields y1_1).vType).toNat*1))) from hk 36 rfl) Tryd.isAgg3 (hel2.cell0 HSd.sees rfl))),ob_plain rfl (fun a' w' hE hk=>by have HSd:=HS4.step hE;exact does_eq (r_bin (show _=vI ((rd z_api_Field a0.vFields y1_1).vAt) from hk 32 rfl) (show _=vI (rd 0 a1 ((rd z_api_Field a0.vFields y1_1).vType)) from hk 37 rfl) rfl)),trivial⟩ ?_
     intro w5 hE3
     simp only [List.zip_cons_cons,List.zip_nil_left,List.zip_nil_right,finL,sc0,sc1,List.length_cons,List.length_nil,List.drop_succ_cons,List.drop_zero,Nat.zero_add,Nat.reduceAdd]
     have HS5:=HS4.step hE3
     refine rs (vI (w64 ((rd z_api_Field a0.vFields y1_1).vAt+(rd 0 a1 ((rd z_api_Field a0.vFields y1_1).vType))))) (r_assign rfl) ?_
     try simp only [sc0,sc1]
     refine run_nil ?_
     refine norm_block ?_
     refine norm_then ?_
     refine region ?_
     refine rs (vI y1_1) (r_move rfl) ?_
     refine rs (vI (w64 (y1_1+1))) (r_bin rfl rfl rfl) ?_
     refine rs (vI (w64 (y1_1+1))) (r_assign rfl) ?_
     try simp only [sc0,sc1]
     refine run_nil ?_
     refine again m [uy1_4,vI (w64 ((rd z_api_Field a0.vFields y1_1).vAt+(rd 0 a1 ((rd z_api_Field a0.vFields y1_1).vType)))),vI (w64 (y1_1+1)),vP b2 0,vI y1_1,vP b1 6,vL A0_6 a0.vFields.length c0_6,vI (a0.vFields.length:Int),vB (decide (y1_1<(a0.vFields.length:Int))),vI y1_1,vI (w64 (y1_1+1)),vP b1 6,vL A0_6 a0.vFields.length c0_6,vI y1_1,Value.pointer (some (Addr.add ad1 (y1_1.toNat*3))),Value.agg #[vS ((rd z_api_Field a0.vFields y1_1).vName),vI ((rd z_api_Field a0.vFields y1_1).vType),vI ((rd z_api_Field a0.vFields y1_1).vAt)],vP b2 2,vI ((rd z_api_Field a0.vFields y1_1).vAt),vI y1_0,vB (decide ((rd z_api_Field a0.vFields y1_1).vAt<y1_0)),vB (decide ((rd z_api_Field a0.vFields y1_1).vAt<y1_0)),gv (true&&((decide ((rd z_api_Field a0.vFields y1_1).vAt<y1_0))==false)) (vP b2 2),gv (true&&((decide ((rd z_api_Field a0.vFields y1_1).vAt<y1_0))==false)) (vI ((rd z_api_Field a0.vFields y1_1).vAt)),gv (true&&((decide ((rd z_api_Field a0.vFields y1_1).vAt<y1_0))==false)) (vP b1 5),gv (true&&((decide ((rd z_api_Field a0.vFields y1_1).vAt<y1_0))==false)) (vI a0.vN),gv (true&&((decide ((rd z_api_Field a0.vFields y1_1).vAt<y1_0))==false)) (vB (decide ((rd z_api_Field a0.vFields y1_1).vAt>a0.vN))),vB ((decide ((rd z_api_Field a0.vFields y1_1).vAt<y1_0))||(decide ((rd z_api_Field a0.vFields y1_1).vAt>a0.vN))),vP b2 2,vI ((rd z_api_Field a0.vFields y1_1).vAt),vL A1_0 a1.length c1_0,vP b2 1,vI ((rd z_api_Field a0.vFields y1_1).vType),Value.pointer (some (Addr.add ad2 (((rd z_api_Field a0.vFields y1_1).vType).toNat*1))),vI (rd 0 a1 ((rd z_api_Field a0.vFields y1_1).vType)),vI (w64 ((rd z_api_Field a0.vFields y1_1).vAt+(rd 0 a1 ((rd z_api_Field a0.vFields y1_1).vType))))] (Nat.lt_succ_self m) (by simp only [patch,sc0,sc1]) ⟨(w64 ((rd z_api_Field a0.vFields y1_1).vAt+(rd 0 a1 ((rd z_api_Field a0.vFields y1_1).vType)))),(w64 (y1_1+1)),_,_,_,_,_,_,_,_,_,_,_,_,_,_,_,_,_,_,_,_,_,_,_,_,_,_,_,_,_,_,_,_,_,rfl,H,HS5.tail⟩
   ·replace H:=of_neg H (nt c1)
    refine wp_exit ?_
    refine exit_then ?_
    obtain rfl:=Option.some.inj H
    refine leave [uy1_4,vI y1_0,vI y1_1,uy1_7,vI y1_1,vP b1 6,vL A0_6 a0.vFields.length c0_6,vI (a0.vFields.length:Int),vB (decide (y1_1<(a0.vFields.length:Int))),uy1_13,uy1_14,uy1_15,uy1_16,uy1_17,uy1_18,uy1_19,uy1_20,uy1_21,uy1_22,uy1_23,uy1_24,uy1_25,uy1_26,uy1_27,uy1_28,uy1_29,uy1_30,uy1_31,uy1_32,uy1_33,uy1_34,uy1_35,uy1_36,uy1_37,uy1_38] (by simp only [patch,sc0,sc1]) ⟨_,rfl,_,_,_,_,_,_,_,_,_,_,_,_,_,_,_,_,_,_,_,_,_,_,_,_,_,_,_,_,_,_,_,_,_,_,rfl,HS2⟩
 ·rintro us w6 ⟨s1,rfl,uo1_4,uo1_6,uo1_7,uo1_8,uo1_9,uo1_10,uo1_11,uo1_12,uo1_13,uo1_14,uo1_15,uo1_16,uo1_17,uo1_18,uo1_19,uo1_20,uo1_21,uo1_22,uo1_23,uo1_24,uo1_25,uo1_26,uo1_27,uo1_28,uo1_29,uo1_30,uo1_31,uo1_32,uo1_33,uo1_34,uo1_35,uo1_36,uo1_37,uo1_38,rfl,HS6⟩
  replace H:=G1
  clear G1
  try simp only [patch,sc0,sc1]
  refine norm_then ?_
  refine wp_seq ?_
  refine region ?_
  refine rs (vI s1) (r_move rfl) ?_
  refine rs (vP b1 5) (r_fieldBox (n:=1) (o':=5) rfl Tryd.runUnderlying34 rfl Tryd.sizeOf3 (by decide) rfl) ?_
  refine rs (vI a0.vN) (r_loadBox rfl Tryd.isAgg3 (HS6.look 0 rfl) rfl) ?_
  refine rs (vB (decide (s1≤a0.vN))) (r_bin rfl rfl rfl) ?_
  refine run_frame (by simp only [sc0,sc1];rfl) ?_
  refine rs (vB (decide (s1≤a0.vN))) (r_assign rfl) ?_
  try simp only [sc0,sc1]
  refine run_nil ?_
  refine norm_then ?_
  refine wp_ret ?_
  obtain rfl:=Option.some.inj H
  refine bodyPost_ret (results_1 rfl (one_tmp rfl)) rfl ?_
  exact ⟨rfl,HS6.toE⟩

end Go.Proofs.YtfjppgobidjndaaDoor
