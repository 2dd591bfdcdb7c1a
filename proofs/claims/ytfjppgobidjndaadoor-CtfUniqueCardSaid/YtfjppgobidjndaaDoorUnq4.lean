/- Parts of a proof, merged by program: F109 F108 F70 F69 F37 F42 F13 Q6 N1 F101 F54 N2 Q14 F115 F84 Q15 M27 F122 F123 F104 F61 F29. The walks (each function once) and the plain laws; no condition of their own. -/
import Derived.Test.YtfjppgobidjndaaDoorUnq3
import Derived.Maps.RangeRun
set_option linter.unusedVariables false
set_option linter.unusedSimpArgs false
namespace Go.Proofs.YtfjppgobidjndaaDoor
open Go.RowKit Go.M
def ctf_putField.f (k:Nat) (a0:List Int) (a1:api_Field):Option ((List Int)):=(ctf_putString.f k a0 a1.vName).bind fun v1=>((ctf_put.f k v1 a1.vType).bind fun v2=>((ctf_put.f k v2 a1.vAt).bind fun v3=>(some v3)))
set_option maxRecDepth 20000 in
set_option maxHeartbeats 4000000 in
theorem ctf_putField.calls (k:Nat) (a0:List Int) (a1:api_Field) (oba0:Option Nat) (ca0:Nat) (csa0:List Value) (fra0:Nat×Nat) {h0:View} {w0:World} {h:View} {w:World} {rest:List Res} (HS:St [] h0 w0 h ((oba0, .cells (csa0).toArray 5 fra0)::rest) w) (hoa0:RowOk (Kd.int .u8) h a0 oba0 a0.length ca0 csa0) (hfa0:FrOk fra0 csa0.length) {r:(List Int)} (H:ctf_putField.f k a0 a1=some r):Calls Tryd.prog 109 #[vL (rowA oba0) a0.length ca0,Value.agg #[vS a1.vName,vI a1.vType,vI a1.vAt]] w (fun e w1=>∃(obz_a0:Option Nat) (cz_a0:Nat) (csz_a0:List Value),∃(frz_a0:Nat×Nat),e= .returned (vL (rowA obz_a0) r.length cz_a0)∧FrOk frz_a0 csz_a0.length∧RowOk (Kd.int .u8) h r obz_a0 r.length cz_a0 csz_a0∧St [] h0 w0 h ((obz_a0, .cells (csz_a0).toArray 5 frz_a0)::rest) w1):=by
 unfold ctf_putField.f at H
 have hsub:Sub h h:=Sub.rfl' h
 go_enter Tryd.func109,Tryd.ntmps109
 refine wp_seq ?_
 refine region ?_
 refine run_ex rfl rfl (does_box (cs:=#[vS a1.vName,vI a1.vType,vI a1.vAt]) rfl rfl) ?_
 rintro w1 _ hE1 ⟨b1,rfl,ge1,hb1⟩
 have HS1:=HS.new hE1 ge1 hb1
 refine rs (vL none 0 0) (r_assign rfl) ?_
 try simp only [sc0,sc1]
 refine run_nil ?_
 refine norm_then ?_
 refine wp_seq ?_
 refine drawn_chain [([5,6,7,9,10,12,13],[0,1,2,4,5,7,8]),([],[4,5,7,8]),([],[7,8]),([4],[10])] [3,6,9] [[],[],[1],[0,1,2],[],[4],[0,1,2,3,4,5],[],[7],[0,1,2,3,4,5,6,7,8],[0,1,2,3,4,5,6,7,8,9]] hmix (by kernel_rfl) ?_
 intro w2 hE2
 have HS2:=HS1.step hE2
 refine chain_eff [vL (rowA oba0) a0.length ca0,vP b1 0,vS a1.vName,vP b1 1,vI a1.vType,vP b1 2,vI a1.vAt] ?_ rfl rfl ?_
 ·try simp only [patch,sc0,sc1]
  exact allg_cons (good_same (v:=vL (rowA oba0) a0.length ca0) rfl rfl rfl rfl (r_move rfl)) (allg_cons (good_same (v:=vP b1 0) rfl rfl rfl rfl (r_fieldBox (n:=1) (o':=0) rfl Tryd.runUnderlying36 rfl Tryd.sizeOf9 (by decide) rfl)) (allg_cons (good_same (v:=vS a1.vName) rfl rfl rfl rfl (r_loadBox rfl Tryd.isAgg9 (HS2.look 0 rfl) rfl)) (allg_cons (good_same (v:=vP b1 1) rfl rfl rfl rfl (r_fieldBox (n:=1) (o':=1) rfl Tryd.runUnderlying36 rfl Tryd.sizeOf3 (by decide) rfl)) (allg_cons (good_same (v:=vI a1.vType) rfl rfl rfl rfl (r_loadBox rfl Tryd.isAgg3 (HS2.look 0 rfl) rfl)) (allg_cons (good_same (v:=vP b1 2) rfl rfl rfl rfl (r_fieldBox (n:=1) (o':=2) rfl Tryd.runUnderlying36 rfl Tryd.sizeOf3 (by decide) rfl)) (allg_cons (good_same (v:=vI a1.vAt) rfl rfl rfl rfl (r_loadBox rfl Tryd.isAgg3 (HS2.look 0 rfl) rfl)) (allg_nil)))))))
 try simp only [patch,sc0,sc1]
 obtain ⟨v1,H1,H⟩:=of_bind H
 have HS3:=HS2.f1
 refine run_call (vs:=[vL (rowA oba0) a0.length ca0,vS a1.vName]) (caps:=[]) Tryd.call107 rfl rfl (ctf_putString.calls k a0 a1.vName oba0 ca0 csa0 fra0 HS3 hoa0 hfa0 H1) ?_
 rintro _ w3 ⟨obv1_a0,cv1_a0,csv1_a0,frv1_a0,rfl,hfv1_a0,hov1_a0,HS4⟩
 refine ⟨_,rfl,?_⟩
 have HS5:=HS4.f1
 refine qn_nil ?_
 try simp only [sc0,sc1]
 refine chain_eff [] ?_ rfl rfl ?_
 ·try simp only [patch,sc0,sc1]
  exact allg_cons (good_same (v:=vP b1 1) rfl rfl rfl rfl (r_fieldBox (n:=1) (o':=1) rfl Tryd.runUnderlying36 rfl Tryd.sizeOf3 (by decide) rfl)) (allg_cons (good_same (v:=vI a1.vType) rfl rfl rfl rfl (r_loadBox rfl Tryd.isAgg3 (HS5.look 0 rfl) rfl)) (allg_cons (good_same (v:=vP b1 2) rfl rfl rfl rfl (r_fieldBox (n:=1) (o':=2) rfl Tryd.runUnderlying36 rfl Tryd.sizeOf3 (by decide) rfl)) (allg_cons (good_same (v:=vI a1.vAt) rfl rfl rfl rfl (r_loadBox rfl Tryd.isAgg3 (HS5.look 0 rfl) rfl)) (allg_nil))))
 try simp only [patch,sc0,sc1]
 obtain ⟨v2,H2,H⟩:=of_bind H
 have HS6:=HS5.f1
 refine run_call (vs:=[vL (rowA obv1_a0) v1.length cv1_a0,vI a1.vType]) (caps:=[]) Tryd.call106 rfl rfl (ctf_put.calls k v1 a1.vType obv1_a0 cv1_a0 csv1_a0 frv1_a0 HS6 hov1_a0 hfv1_a0 H2) ?_
 rintro _ w4 ⟨obv2_a0,cv2_a0,csv2_a0,frv2_a0,rfl,hfv2_a0,hov2_a0,HS7⟩
 refine ⟨_,rfl,?_⟩
 have HS8:=HS7.f1
 refine qn_nil ?_
 try simp only [sc0,sc1]
 refine chain_eff [] ?_ rfl rfl ?_
 ·try simp only [patch,sc0,sc1]
  exact allg_cons (good_same (v:=vP b1 2) rfl rfl rfl rfl (r_fieldBox (n:=1) (o':=2) rfl Tryd.runUnderlying36 rfl Tryd.sizeOf3 (by decide) rfl)) (allg_cons (good_same (v:=vI a1.vAt) rfl rfl rfl rfl (r_loadBox rfl Tryd.isAgg3 (HS8.look 0 rfl) rfl)) (allg_nil))
 try simp only [patch,sc0,sc1]
 obtain ⟨v3,H3,H⟩:=of_bind H
 have HS9:=HS8.f1
 refine run_call (vs:=[vL (rowA obv2_a0) v2.length cv2_a0,vI a1.vAt]) (caps:=[]) Tryd.call106 rfl rfl (ctf_put.calls k v2 a1.vAt obv2_a0 cv2_a0 csv2_a0 frv2_a0 HS9 hov2_a0 hfv2_a0 H3) ?_
 rintro _ w5 ⟨obv3_a0,cv3_a0,csv3_a0,frv3_a0,rfl,hfv3_a0,hov3_a0,HS10⟩
 refine ⟨_,rfl,?_⟩
 have HS11:=HS10.f1
 refine qn_nil ?_
 try simp only [sc0,sc1]
 refine chain_last [vL (rowA obv3_a0) v3.length cv3_a0] ?_ ?_
 ·try simp only [patch,sc0,sc1]
  exact allg_cons (good_same (v:=vL (rowA obv3_a0) v3.length cv3_a0) rfl rfl rfl rfl (r_assign rfl)) (allg_nil)
 try simp only [patch,sc0,sc1]
 refine norm_then ?_
 refine wp_ret ?_
 obtain rfl:=Option.some.inj H
 refine bodyPost_ret (results_1 rfl (one_tmp rfl)) rfl ?_
 have HS12:=HS11.d0
 exact ⟨obv3_a0,cv3_a0,csv3_a0,frv3_a0,rfl,hfv3_a0,hov3_a0,HS12⟩

end Go.Proofs.YtfjppgobidjndaaDoor
namespace Go.Proofs.YtfjppgobidjndaaDoor
open Go.RowKit Go.M
def ctf_putList_api_Field.l0 (k:Nat) (a1:List api_Field):Nat→Int→(List Int)→Option ((List Int))
 |0,_,_=>none
 |m+1,y1_0,y1_1=>if (decide (y1_0<(a1.length:Int)))=true then (if 0≤y1_0∧y1_0<a1.length then ((ctf_putField.f k y1_1 (rd z_api_Field a1 y1_0)).bind fun v2=>(ctf_putList_api_Field.l0 k a1 m (IntKind.wrap .i64 (y1_0+1)) v2)) else none) else (some y1_1)
def ctf_putList_api_Field.f (k:Nat) (a0:List Int) (a1:List api_Field):Option ((List Int)):=(ctf_put.f k a0 (a1.length:Int)).bind fun v1=>((ctf_putList_api_Field.l0 k a1 k 0 v1).bind fun xx1=>(some xx1))
set_option maxRecDepth 20000 in
set_option maxHeartbeats 4000000 in
theorem ctf_putList_api_Field.calls (k:Nat) (a0:List Int) (a1:List api_Field) (oba0:Option Nat) (ca0:Nat) (csa0:List Value) (fra0:Nat×Nat) (A1_0:Option Addr) (c1_0:Nat) {h0:View} {w0:World} {h:View} {w:World} {rest:List Res} (HS:St [] h0 w0 h ((oba0, .cells (csa0).toArray 5 fra0)::rest) w) (hoa0:RowOk (Kd.int .u8) h a0 oba0 a0.length ca0 csa0) (hfa0:FrOk fra0 csa0.length) (hr1_0:Rd k_api_Field h A1_0 a1) (hc1_0:a1.length≤c1_0) {r:(List Int)} (H:ctf_putList_api_Field.f k a0 a1=some r):Calls Tryd.prog 108 #[vL (rowA oba0) a0.length ca0,vL A1_0 a1.length c1_0,Value.func (.func 109) #[] #[]] w (fun e w1=>∃(obz_a0:Option Nat) (cz_a0:Nat) (csz_a0:List Value),∃(frz_a0:Nat×Nat),e= .returned (vL (rowA obz_a0) r.length cz_a0)∧FrOk frz_a0 csz_a0.length∧RowOk (Kd.int .u8) h r obz_a0 r.length cz_a0 csz_a0∧St [] h0 w0 h ((obz_a0, .cells (csz_a0).toArray 5 frz_a0)::rest) w1):=by
 unfold ctf_putList_api_Field.f at H
 have hsub:Sub h h:=Sub.rfl' h
 go_enter Tryd.func108,Tryd.ntmps108
 refine wp_seq ?_
 refine region ?_
 refine rs (vL none 0 0) (r_assign rfl) ?_
 try simp only [sc0,sc1]
 refine run_nil ?_
 refine norm_then ?_
 refine wp_seq ?_
 refine region ?_
 refine rs (vL (rowA oba0) a0.length ca0) (r_move rfl) ?_
 refine rs (vL A1_0 a1.length c1_0) (r_move rfl) ?_
 refine rs (vI (a1.length:Int)) (r_len rfl Tryd.runUnderlying32) ?_
 obtain ⟨v1,H1,H⟩:=of_bind H
 refine run_call (vs:=[vL (rowA oba0) a0.length ca0,vI (a1.length:Int)]) (caps:=[]) Tryd.call106 rfl rfl (ctf_put.calls k a0 (a1.length:Int) oba0 ca0 csa0 fra0 HS hoa0 hfa0 H1) ?_
 rintro _ w1 ⟨obv1_a0,cv1_a0,csv1_a0,frv1_a0,rfl,hfv1_a0,hov1_a0,HS1⟩
 refine ⟨_,rfl,?_⟩
 refine run_frame (by simp only [sc0,sc1];rfl) ?_
 refine rs (vL (rowA obv1_a0) v1.length cv1_a0) (r_assign rfl) ?_
 try simp only [sc0,sc1]
 refine run_nil ?_
 refine norm_then ?_
 refine wp_seq ?_
 refine wp_seq ?_
 refine region ?_
 refine rs (vL A1_0 a1.length c1_0) (r_move rfl) ?_
 refine rs (vI (a1.length:Int)) (r_len rfl Tryd.runUnderlying32) ?_
 refine rs (vI 0) (r_move rfl) ?_
 try simp only [sc0,sc1]
 refine run_nil ?_
 refine norm_then ?_
 obtain ⟨xx1,H,G1⟩:=of_bind H
 refine loop_patch [0,8,15,16,17,18,19,20,21,22,23] (fun m us w'=>∃y1_0:Int,∃y1_1:List Int,∃(oby1_1:Option Nat) (cy1_1:Nat),∃csy1_1:List Value,∃fry1_1:Nat×Nat,∃uy1_8 uy1_16 uy1_17 uy1_18 uy1_19 uy1_20 uy1_21 uy1_22 uy1_23:Value,us=[vL (rowA oby1_1) y1_1.length cy1_1,uy1_8,vI y1_0,uy1_16,uy1_17,uy1_18,uy1_19,uy1_20,uy1_21,uy1_22,uy1_23]∧ctf_putList_api_Field.l0 k a1 m y1_0 y1_1=some xx1∧FrOk fry1_1 csy1_1.length∧RowOk (Kd.int .u8) h y1_1 oby1_1 y1_1.length cy1_1 csy1_1∧St [] h0 w0 h ((oby1_1, .cells (csy1_1).toArray 5 fry1_1)::rest) w') (fun us w'=>∃(obo1_0:Option Nat) (co1_0:Nat),∃cso1_0:List Value,∃fro1_0:Nat×Nat,∃uo1_8 uo1_15 uo1_16 uo1_17 uo1_18 uo1_19 uo1_20 uo1_21 uo1_22 uo1_23:Value,us=[vL (rowA obo1_0) xx1.length co1_0,uo1_8,uo1_15,uo1_16,uo1_17,uo1_18,uo1_19,uo1_20,uo1_21,uo1_22,uo1_23]∧FrOk fro1_0 cso1_0.length∧RowOk (Kd.int .u8) h xx1 obo1_0 xx1.length co1_0 cso1_0∧St [] h0 w0 h ((obo1_0, .cells (cso1_0).toArray 5 fro1_0)::rest) w') k [vL (rowA obv1_a0) v1.length cv1_a0,undef,vI 0,undef,undef,undef,undef,undef,undef,undef,undef] (by simp only [patch,sc0,sc1]) ⟨0,v1,obv1_a0,cv1_a0,csv1_a0,frv1_a0,_,_,_,_,_,_,_,_,_,rfl,H,hfv1_a0,hov1_a0.norm,HS1⟩ ?_ ?_
 ·rintro m us w2 ⟨y1_0,y1_1,oby1_1,cy1_1,csy1_1,fry1_1,uy1_8,uy1_16,uy1_17,uy1_18,uy1_19,uy1_20,uy1_21,uy1_22,uy1_23,rfl,H,hfy1_1,hoy1_1,HS2⟩
  cases m with
  |zero=>exact absurd H (by simp [ctf_putList_api_Field.l0])
  |succ m=>
   rw [ctf_putList_api_Field.l0] at H
   try simp only [patch,sc0,sc1]
   refine wp_seq ?_
   refine region ?_
   refine rs (vB (decide (y1_0<(a1.length:Int)))) (r_bin rfl rfl rfl) ?_
   try simp only [sc0,sc1]
   refine run_nil ?_
   refine norm_then ?_
   refine wp_seq ?_
   refine wp_cond_split (t:=(decide (y1_0<(a1.length:Int)))) rfl (fun c1=>?_) (fun c1=>?_)
   ·replace H:=of_pos H c1
    refine wp_skip ?_
    refine norm_then ?_
    refine wp_seq ?_
    refine wp_block ?_
    refine wp_seq ?_
    refine region ?_
    obtain ⟨hi1,H⟩:=of_ite H
    obtain ⟨ad1,e1,hel1⟩:=ld_api_Field hr1_0 hi1.1 hi1.2
    refine rs (Value.pointer (some (Addr.add ad1 (y1_0.toNat*3)))) (r_indexA (sz:=3) rfl e1 rfl hi1.1 hi1.2 Tryd.runUnderlying32 Tryd.sizeOf36) ?_
    refine rs (Value.agg #[vS ((rd z_api_Field a1 y1_0).vName),vI ((rd z_api_Field a1 y1_0).vType),vI ((rd z_api_Field a1 y1_0).vAt)]) (r_loadAgg rfl Tryd.isAgg36 (hel1.sees HS2.sees) Tryd.sizeOf36) ?_
    refine run_ex rfl rfl (does_alloc (cs:=#[vS ByteArray.empty,vI 0,vI 0]) Tryd.zeroValue36 rfl) ?_
    rintro w3 _ hE1 ⟨b1,rfl,ge1,hb1⟩
    have HS3:=HS2.new hE1 ge1 hb1
    refine run_st (i:=0) (cs:=[vS ByteArray.empty,vI 0,vI 0]) (cs':=[vS ((rd z_api_Field a1 y1_0).vName),vI ((rd z_api_Field a1 y1_0).vType),vI ((rd z_api_Field a1 y1_0).vAt)]) (vs:=[vS ((rd z_api_Field a1 y1_0).vName),vI ((rd z_api_Field a1 y1_0).vType),vI ((rd z_api_Field a1 y1_0).vAt)]) (bs':=((some b1, .cells #[vS ((rd z_api_Field a1 y1_0).vName),vI ((rd z_api_Field a1 y1_0).vType),vI ((rd z_api_Field a1 y1_0).vAt)] 36 (0,0))::(oby1_1, .cells (csy1_1).toArray 5 fry1_1)::rest)) rfl rfl Tryd.sizeOf36 rfl rfl (by decide) rfl HS3 rfl (Nat.le_of_ble_eq_true rfl) rfl rfl ?_
    intro w4 HS4
    try simp only [sc0,sc1]
    refine run_nil ?_
    refine norm_then ?_
    refine region ?_
    refine rs (Value.func (.func 109) #[] #[]) (r_move rfl) ?_
    refine rs (vL (rowA oby1_1) y1_1.length cy1_1) (r_move rfl) ?_
    refine rs (Value.agg #[vS ((rd z_api_Field a1 y1_0).vName),vI ((rd z_api_Field a1 y1_0).vType),vI ((rd z_api_Field a1 y1_0).vAt)]) (r_loadBoxAgg (n:=3) (vs:=[vS ((rd z_api_Field a1 y1_0).vName),vI ((rd z_api_Field a1 y1_0).vType),vI ((rd z_api_Field a1 y1_0).vAt)]) rfl Tryd.isAgg36 (HS4.look 0 rfl) Tryd.sizeOf36 rfl rfl) ?_
    obtain ⟨v2,H2,H⟩:=of_bind H
    have HS5:=HS4.f1
    refine run_call (vs:=[vL (rowA oby1_1) y1_1.length cy1_1,Value.agg #[vS ((rd z_api_Field a1 y1_0).vName),vI ((rd z_api_Field a1 y1_0).vType),vI ((rd z_api_Field a1 y1_0).vAt)]]) (caps:=[]) Tryd.call109 rfl rfl (ctf_putField.calls k y1_1 (rd z_api_Field a1 y1_0) oby1_1 cy1_1 csy1_1 fry1_1 HS5 hoy1_1 hfy1_1 H2) ?_
    rintro _ w5 ⟨obv2_a0,cv2_a0,csv2_a0,frv2_a0,rfl,hfv2_a0,hov2_a0,HS6⟩
    refine ⟨_,rfl,?_⟩
    have HS7:=HS6.f1
    refine run_frame (by simp only [sc0,sc1];rfl) ?_
    refine rs (vL (rowA obv2_a0) v2.length cv2_a0) (r_assign rfl) ?_
    try simp only [sc0,sc1]
    refine run_nil ?_
    refine norm_block ?_
    refine norm_then ?_
    refine region ?_
    refine rs (vI (w64 (y1_0+1))) (r_bin rfl rfl rfl) ?_
    refine rs (vI (w64 (y1_0+1))) (r_move rfl) ?_
    try simp only [sc0,sc1]
    refine run_nil ?_
    refine again m [vL (rowA obv2_a0) v2.length cv2_a0,vP b1 0,vI (w64 (y1_0+1)),vB (decide (y1_0<(a1.length:Int))),Value.pointer (some (Addr.add ad1 (y1_0.toNat*3))),Value.agg #[vS ((rd z_api_Field a1 y1_0).vName),vI ((rd z_api_Field a1 y1_0).vType),vI ((rd z_api_Field a1 y1_0).vAt)],Value.func (.func 109) #[] #[],vL (rowA oby1_1) y1_1.length cy1_1,Value.agg #[vS ((rd z_api_Field a1 y1_0).vName),vI ((rd z_api_Field a1 y1_0).vType),vI ((rd z_api_Field a1 y1_0).vAt)],vL (rowA obv2_a0) v2.length cv2_a0,vI (w64 (y1_0+1))] (Nat.lt_succ_self m) (by simp only [patch,sc0,sc1]) ⟨(w64 (y1_0+1)),v2,obv2_a0,cv2_a0,csv2_a0,frv2_a0,_,_,_,_,_,_,_,_,_,rfl,H,hfv2_a0,hov2_a0.norm,HS7.tail⟩
   ·replace H:=of_neg H (nt c1)
    refine wp_exit ?_
    refine exit_then ?_
    obtain rfl:=Option.some.inj H
    refine leave [vL (rowA oby1_1) y1_1.length cy1_1,uy1_8,vI y1_0,vB (decide (y1_0<(a1.length:Int))),uy1_17,uy1_18,uy1_19,uy1_20,uy1_21,uy1_22,uy1_23] (by simp only [patch,sc0,sc1]) ⟨oby1_1,cy1_1,csy1_1,fry1_1,_,_,_,_,_,_,_,_,_,_,rfl,hfy1_1,hoy1_1.norm,HS2⟩
 ·rintro us w6 ⟨obo1_0,co1_0,cso1_0,fro1_0,uo1_8,uo1_15,uo1_16,uo1_17,uo1_18,uo1_19,uo1_20,uo1_21,uo1_22,uo1_23,rfl,hfo1_0,hoo1_0,HS8⟩
  replace H:=G1
  clear G1
  try simp only [patch,sc0,sc1]
  refine norm_then ?_
  refine wp_seq ?_
  refine region ?_
  refine rs (vL (rowA obo1_0) xx1.length co1_0) (r_move rfl) ?_
  refine rs (vL (rowA obo1_0) xx1.length co1_0) (r_assign rfl) ?_
  try simp only [sc0,sc1]
  refine run_nil ?_
  refine norm_then ?_
  refine wp_ret ?_
  obtain rfl:=Option.some.inj H
  refine bodyPost_ret (results_1 rfl (one_tmp rfl)) rfl ?_
  exact ⟨obo1_0,co1_0,cso1_0,fro1_0,rfl,hfo1_0,hoo1_0,HS8⟩

end Go.Proofs.YtfjppgobidjndaaDoor
namespace Go.Proofs.YtfjppgobidjndaaDoor
open Go.RowKit Go.M
def ctf_putDef.f (k:Nat) (a0:List Int) (a1:api_Def):Option ((List Int)):=(ctf_put.f k a0 a1.vKind).bind fun v1=>((ctf_putString.f k v1 a1.vName).bind fun v2=>((ctf_put.f k v2 a1.vInt.vSize).bind fun v3=>(((if a1.vInt.vSigned=true then (if v3.length+1≤4294967296 then (some (v3++([1]:List Int))) else none) else (if v3.length+1≤4294967296 then (some (v3++([0]:List Int))) else none)):Option ((List Int))).bind fun xx1=>((ctf_put.f k xx1 a1.vRef).bind fun v4=>((ctf_put.f k v4 a1.vN).bind fun v5=>((ctf_putList_api_Field.f k v5 a1.vFields).bind fun v6=>(some v6)))))))
set_option maxRecDepth 20000 in
set_option maxHeartbeats 4000000 in
theorem ctf_putDef.calls (k:Nat) (a0:List Int) (a1:api_Def) (oba0:Option Nat) (ca0:Nat) (csa0:List Value) (fra0:Nat×Nat) (A1_6:Option Addr) (c1_6:Nat) {h0:View} {w0:World} {h:View} {w:World} {rest:List Res} (HS:St [] h0 w0 h ((oba0, .cells (csa0).toArray 5 fra0)::rest) w) (hoa0:RowOk (Kd.int .u8) h a0 oba0 a0.length ca0 csa0) (hfa0:FrOk fra0 csa0.length) (hr1_6:Rd k_api_Field h A1_6 a1.vFields) (hc1_6:a1.vFields.length≤c1_6) {r:(List Int)} (H:ctf_putDef.f k a0 a1=some r):Calls Tryd.prog 70 #[vL (rowA oba0) a0.length ca0,Value.agg #[vI a1.vKind,vS a1.vName,vI a1.vInt.vSize,vB a1.vInt.vSigned,vI a1.vRef,vI a1.vN,vL A1_6 a1.vFields.length c1_6]] w (fun e w1=>∃(obz_a0:Option Nat) (cz_a0:Nat) (csz_a0:List Value),∃(frz_a0:Nat×Nat),e= .returned (vL (rowA obz_a0) r.length cz_a0)∧FrOk frz_a0 csz_a0.length∧RowOk (Kd.int .u8) h r obz_a0 r.length cz_a0 csz_a0∧St [] h0 w0 h ((obz_a0, .cells (csz_a0).toArray 5 frz_a0)::rest) w1):=by
 unfold ctf_putDef.f at H
 have hsub:Sub h h:=Sub.rfl' h
 go_enter Tryd.func70,Tryd.ntmps70
 refine wp_seq ?_
 refine region ?_
 refine run_ex rfl rfl (does_box (cs:=#[vI a1.vKind,vS a1.vName,vI a1.vInt.vSize,vB a1.vInt.vSigned,vI a1.vRef,vI a1.vN,vL A1_6 a1.vFields.length c1_6]) rfl rfl) ?_
 rintro w1 _ hE1 ⟨b1,rfl,ge1,hb1⟩
 have HS1:=HS.new hE1 ge1 hb1
 refine rs (vL none 0 0) (r_assign rfl) ?_
 try simp only [sc0,sc1]
 refine run_nil ?_
 refine norm_then ?_
 refine wp_seq ?_
 refine drawn_chain [([5,6,7,9,10,12,13,14],[0,1,2,4,5,7,8,9]),([],[4,5,7,8,9]),([],[7,8,9]),([0],[11])] [3,6,10] [[],[],[1],[0,1,2],[],[4],[0,1,2,3,4,5],[],[7],[7,8],[0,1,2,3,4,5,6,7,8,9],[0,1,2,3,4,5,6,7,8,9,10]] hmix (by kernel_rfl) ?_
 intro w2 hE2
 have HS2:=HS1.step hE2
 refine chain_eff [vL (rowA oba0) a0.length ca0,vP b1 0,vI a1.vKind,vP b1 1,vS a1.vName,vP b1 2,vP b1 2,vI a1.vInt.vSize] ?_ rfl rfl ?_
 ·try simp only [patch,sc0,sc1]
  exact allg_cons (good_same (v:=vL (rowA oba0) a0.length ca0) rfl rfl rfl rfl (r_move rfl)) (allg_cons (good_same (v:=vP b1 0) rfl rfl rfl rfl (r_fieldBox (n:=1) (o':=0) rfl Tryd.runUnderlying34 rfl Tryd.sizeOf3 (by decide) rfl)) (allg_cons (good_same (v:=vI a1.vKind) rfl rfl rfl rfl (r_loadBox rfl Tryd.isAgg3 (HS2.look 0 rfl) rfl)) (allg_cons (good_same (v:=vP b1 1) rfl rfl rfl rfl (r_fieldBox (n:=1) (o':=1) rfl Tryd.runUnderlying34 rfl Tryd.sizeOf9 (by decide) rfl)) (allg_cons (good_same (v:=vS a1.vName) rfl rfl rfl rfl (r_loadBox rfl Tryd.isAgg9 (HS2.look 0 rfl) rfl)) (allg_cons (good_same (v:=vP b1 2) rfl rfl rfl rfl (r_fieldBox (n:=2) (o':=2) rfl Tryd.runUnderlying34 rfl Tryd.sizeOf31 (by decide) rfl)) (allg_cons (good_same (v:=vP b1 2) rfl rfl rfl rfl (r_fieldBox (n:=1) (o':=2) rfl Tryd.runUnderlying31 rfl Tryd.sizeOf3 (by decide) rfl)) (allg_cons (good_same (v:=vI a1.vInt.vSize) rfl rfl rfl rfl (r_loadBox rfl Tryd.isAgg3 (HS2.look 0 rfl) rfl)) (allg_nil))))))))
 try simp only [patch,sc0,sc1]
 obtain ⟨v1,H1,H⟩:=of_bind H
 have HS3:=HS2.f1
 refine run_call (vs:=[vL (rowA oba0) a0.length ca0,vI a1.vKind]) (caps:=[]) Tryd.call106 rfl rfl (ctf_put.calls k a0 a1.vKind oba0 ca0 csa0 fra0 HS3 hoa0 hfa0 H1) ?_
 rintro _ w3 ⟨obv1_a0,cv1_a0,csv1_a0,frv1_a0,rfl,hfv1_a0,hov1_a0,HS4⟩
 refine ⟨_,rfl,?_⟩
 have HS5:=HS4.f1
 refine qn_nil ?_
 try simp only [sc0,sc1]
 refine chain_eff [] ?_ rfl rfl ?_
 ·try simp only [patch,sc0,sc1]
  exact allg_cons (good_same (v:=vP b1 1) rfl rfl rfl rfl (r_fieldBox (n:=1) (o':=1) rfl Tryd.runUnderlying34 rfl Tryd.sizeOf9 (by decide) rfl)) (allg_cons (good_same (v:=vS a1.vName) rfl rfl rfl rfl (r_loadBox rfl Tryd.isAgg9 (HS5.look 0 rfl) rfl)) (allg_cons (good_same (v:=vP b1 2) rfl rfl rfl rfl (r_fieldBox (n:=2) (o':=2) rfl Tryd.runUnderlying34 rfl Tryd.sizeOf31 (by decide) rfl)) (allg_cons (good_same (v:=vP b1 2) rfl rfl rfl rfl (r_fieldBox (n:=1) (o':=2) rfl Tryd.runUnderlying31 rfl Tryd.sizeOf3 (by decide) rfl)) (allg_cons (good_same (v:=vI a1.vInt.vSize) rfl rfl rfl rfl (r_loadBox rfl Tryd.isAgg3 (HS5.look 0 rfl) rfl)) (allg_nil)))))
 try simp only [patch,sc0,sc1]
 obtain ⟨v2,H2,H⟩:=of_bind H
 have HS6:=HS5.f1
 refine run_call (vs:=[vL (rowA obv1_a0) v1.length cv1_a0,vS a1.vName]) (caps:=[]) Tryd.call107 rfl rfl (ctf_putString.calls k v1 a1.vName obv1_a0 cv1_a0 csv1_a0 frv1_a0 HS6 hov1_a0 hfv1_a0 H2) ?_
 rintro _ w4 ⟨obv2_a0,cv2_a0,csv2_a0,frv2_a0,rfl,hfv2_a0,hov2_a0,HS7⟩
 refine ⟨_,rfl,?_⟩
 have HS8:=HS7.f1
 refine qn_nil ?_
 try simp only [sc0,sc1]
 refine chain_eff [] ?_ rfl rfl ?_
 ·try simp only [patch,sc0,sc1]
  exact allg_cons (good_same (v:=vP b1 2) rfl rfl rfl rfl (r_fieldBox (n:=2) (o':=2) rfl Tryd.runUnderlying34 rfl Tryd.sizeOf31 (by decide) rfl)) (allg_cons (good_same (v:=vP b1 2) rfl rfl rfl rfl (r_fieldBox (n:=1) (o':=2) rfl Tryd.runUnderlying31 rfl Tryd.sizeOf3 (by decide) rfl)) (allg_cons (good_same (v:=vI a1.vInt.vSize) rfl rfl rfl rfl (r_loadBox rfl Tryd.isAgg3 (HS8.look 0 rfl) rfl)) (allg_nil)))
 try simp only [patch,sc0,sc1]
 obtain ⟨v3,H3,H⟩:=of_bind H
 have HS9:=HS8.f1
 refine run_call (vs:=[vL (rowA obv2_a0) v2.length cv2_a0,vI a1.vInt.vSize]) (caps:=[]) Tryd.call106 rfl rfl (ctf_put.calls k v2 a1.vInt.vSize obv2_a0 cv2_a0 csv2_a0 frv2_a0 HS9 hov2_a0 hfv2_a0 H3) ?_
 rintro _ w5 ⟨obv3_a0,cv3_a0,csv3_a0,frv3_a0,rfl,hfv3_a0,hov3_a0,HS10⟩
 refine ⟨_,rfl,?_⟩
 have HS11:=HS10.f1
 refine qn_nil ?_
 try simp only [sc0,sc1]
 refine chain_last [vL (rowA obv3_a0) v3.length cv3_a0] ?_ ?_
 ·try simp only [patch,sc0,sc1]
  exact allg_cons (good_same (v:=vL (rowA obv3_a0) v3.length cv3_a0) rfl rfl rfl rfl (r_assign rfl)) (allg_nil)
 try simp only [patch,sc0,sc1]
 refine norm_then ?_
 refine wp_seq ?_
 refine wp_seq ?_
 refine region ?_
 refine rs (vP b1 2) (r_fieldBox (n:=2) (o':=2) rfl Tryd.runUnderlying34 rfl Tryd.sizeOf31 (by decide) rfl) ?_
 refine rs (vP b1 3) (r_fieldBox (n:=1) (o':=3) rfl Tryd.runUnderlying31 rfl Tryd.sizeOf4 (by decide) rfl) ?_
 refine rs (vB a1.vInt.vSigned) (r_loadBox rfl Tryd.isAgg4 (HS11.look 0 rfl) rfl) ?_
 try simp only [sc0,sc1]
 refine run_nil ?_
 refine norm_then ?_
 obtain ⟨xx1,H,G1⟩:=of_bind H
 refine cut_patch [0,19,20,21,22,23,24] (fun us w'=>∃(obj1_0:Option Nat) (cj1_0:Nat),∃csj1_0:List Value,∃frj1_0:Nat×Nat,∃uj1_19 uj1_20 uj1_21 uj1_22 uj1_23 uj1_24:Value,us=[vL (rowA obj1_0) xx1.length cj1_0,uj1_19,uj1_20,uj1_21,uj1_22,uj1_23,uj1_24]∧FrOk frj1_0 csj1_0.length∧RowOk (Kd.int .u8) h xx1 obj1_0 xx1.length cj1_0 csj1_0∧St [] h0 w0 h ((some b1, .cells #[vI a1.vKind,vS a1.vName,vI a1.vInt.vSize,vB a1.vInt.vSigned,vI a1.vRef,vI a1.vN,vL A1_6 a1.vFields.length c1_6] 34 (0,0))::(obj1_0, .cells (csj1_0).toArray 5 frj1_0)::rest) w') ?_ ?_
 ·refine wp_cond_split (t:=a1.vInt.vSigned) rfl (fun c1=>?_) (fun c1=>?_)
  ·replace H:=of_pos H c1
   refine region ?_
   refine rs (vL (rowA obv3_a0) v3.length cv3_a0) (r_move rfl) ?_
   refine run_bs (Kd.int .u8) (xs:=([1]:List Int)) (n:=1) (cs:=[Value.int .u8 1]) Tryd.runUnderlying80 Tryd.typeInfo5 Tryd.zeroValue5 rfl rfl (by decide) (by decide) (by decide) [Value.int .u8 1] (parts_any.trans rfl) rfl rfl rfl rfl (elems_cons (qs:=[Value.int .u8 1]) rfl (elems_nil (cs:=[]))) HS11 ?_
   intro w6 b2 HS12 ho1
   obtain ⟨hl1,H⟩:=of_ite H
   refine run_appf (Kd.int .u8) (q:=2) (cs:=csv3_a0) rfl rfl Tryd.runUnderlying80 Tryd.typeInfo5 Tryd.zeroValue5 rfl (by decide) rfl (src_row Tryd.runUnderlying80 HS12 (i:=0) rfl ho1 rfl) ho1.len (src_row_elems ho1) hl1 HS12 rfl hfv3_a0 hov3_a0 ?_
   rintro w7 ob1 c2 cs1 fr1 ⟨hf1,_⟩ HS13 ho2
   refine rs (vL (rowA ob1) (v3.length+1) c2) (r_assign rfl) ?_
   try simp only [sc0,sc1]
   refine run_nil ?_
   obtain rfl:=Option.some.inj H
   refine met [vL (rowA ob1) (v3.length+1) c2,vL (rowA obv3_a0) v3.length cv3_a0,vL (rowA (some b2)) 1 1,vL (rowA ob1) (v3.length+1) c2,undef,undef,undef] (by simp only [patch,sc0,sc1]) ⟨ob1,c2,cs1,fr1,_,_,_,_,_,_,(by first|rfl|(rw [ho2.len];done)|(rw [ho2.len];rfl)),hf1,ho2.norm,HS13.tail⟩
  ·replace H:=of_neg H (nt c1)
   refine region ?_
   refine rs (vL (rowA obv3_a0) v3.length cv3_a0) (r_move rfl) ?_
   refine run_bs (Kd.int .u8) (xs:=([0]:List Int)) (n:=1) (cs:=[Value.int .u8 0]) Tryd.runUnderlying80 Tryd.typeInfo5 Tryd.zeroValue5 rfl rfl (by decide) (by decide) (by decide) [Value.int .u8 0] (parts_any.trans rfl) rfl rfl rfl rfl (elems_cons (qs:=[Value.int .u8 0]) rfl (elems_nil (cs:=[]))) HS11 ?_
   intro w8 b3 HS14 ho3
   obtain ⟨hl2,H⟩:=of_ite H
   refine run_appf (Kd.int .u8) (q:=2) (cs:=csv3_a0) rfl rfl Tryd.runUnderlying80 Tryd.typeInfo5 Tryd.zeroValue5 rfl (by decide) rfl (src_row Tryd.runUnderlying80 HS14 (i:=0) rfl ho3 rfl) ho3.len (src_row_elems ho3) hl2 HS14 rfl hfv3_a0 hov3_a0 ?_
   rintro w9 ob2 c3 cs2 fr2 ⟨hf2,_⟩ HS15 ho4
   refine rs (vL (rowA ob2) (v3.length+1) c3) (r_assign rfl) ?_
   try simp only [sc0,sc1]
   refine run_nil ?_
   obtain rfl:=Option.some.inj H
   refine met [vL (rowA ob2) (v3.length+1) c3,undef,undef,undef,vL (rowA obv3_a0) v3.length cv3_a0,vL (rowA (some b3)) 1 1,vL (rowA ob2) (v3.length+1) c3] (by simp only [patch,sc0,sc1]) ⟨ob2,c3,cs2,fr2,_,_,_,_,_,_,(by first|rfl|(rw [ho4.len];done)|(rw [ho4.len];rfl)),hf2,ho4.norm,HS15.tail⟩
 ·rintro _ w10 ⟨obj1_0,cj1_0,csj1_0,frj1_0,uj1_19,uj1_20,uj1_21,uj1_22,uj1_23,uj1_24,rfl,hfj1_0,hoj1_0,HS16⟩
  replace H:=G1
  clear G1
  try simp only [patch,sc0,sc1]
  refine wp_seq ?_
  refine drawn_chain [([25,26,27,29,30,32,33],[0,1,2,4,5,7,8]),([],[4,5,7,8]),([],[7,8]),([4],[10])] [3,6,9] [[],[],[1],[0,1,2],[],[4],[0,1,2,3,4,5],[],[7],[0,1,2,3,4,5,6,7,8],[0,1,2,3,4,5,6,7,8,9]] hmix (by kernel_rfl) ?_
  intro w11 hE3
  have HS17:=HS16.step hE3
  refine chain_eff [vL (rowA obj1_0) xx1.length cj1_0,vP b1 4,vI a1.vRef,vP b1 5,vI a1.vN,vP b1 6,vL A1_6 a1.vFields.length c1_6] ?_ rfl rfl ?_
  ·try simp only [patch,sc0,sc1]
   exact allg_cons (good_same (v:=vL (rowA obj1_0) xx1.length cj1_0) rfl rfl rfl rfl (r_move rfl)) (allg_cons (good_same (v:=vP b1 4) rfl rfl rfl rfl (r_fieldBox (n:=1) (o':=4) rfl Tryd.runUnderlying34 rfl Tryd.sizeOf3 (by decide) rfl)) (allg_cons (good_same (v:=vI a1.vRef) rfl rfl rfl rfl (r_loadBox rfl Tryd.isAgg3 (HS17.look 0 rfl) rfl)) (allg_cons (good_same (v:=vP b1 5) rfl rfl rfl rfl (r_fieldBox (n:=1) (o':=5) rfl Tryd.runUnderlying34 rfl Tryd.sizeOf3 (by decide) rfl)) (allg_cons (good_same (v:=vI a1.vN) rfl rfl rfl rfl (r_loadBox rfl Tryd.isAgg3 (HS17.look 0 rfl) rfl)) (allg_cons (good_same (v:=vP b1 6) rfl rfl rfl rfl (r_fieldBox (n:=1) (o':=6) rfl Tryd.runUnderlying34 rfl Tryd.sizeOf32 (by decide) rfl)) (allg_cons (good_same (v:=vL A1_6 a1.vFields.length c1_6) rfl rfl rfl rfl (r_loadBox rfl Tryd.isAgg32 (HS17.look 0 rfl) rfl)) (allg_nil)))))))
  try simp only [patch,sc0,sc1]
  obtain ⟨v4,H4,H⟩:=of_bind H
  have HS18:=HS17.f1
  refine run_call (vs:=[vL (rowA obj1_0) xx1.length cj1_0,vI a1.vRef]) (caps:=[]) Tryd.call106 rfl rfl (ctf_put.calls k xx1 a1.vRef obj1_0 cj1_0 csj1_0 frj1_0 HS18 hoj1_0 hfj1_0 H4) ?_
  rintro _ w12 ⟨obv4_a0,cv4_a0,csv4_a0,frv4_a0,rfl,hfv4_a0,hov4_a0,HS19⟩
  refine ⟨_,rfl,?_⟩
  have HS20:=HS19.f1
  refine qn_nil ?_
  try simp only [sc0,sc1]
  refine chain_eff [] ?_ rfl rfl ?_
  ·try simp only [patch,sc0,sc1]
   exact allg_cons (good_same (v:=vP b1 5) rfl rfl rfl rfl (r_fieldBox (n:=1) (o':=5) rfl Tryd.runUnderlying34 rfl Tryd.sizeOf3 (by decide) rfl)) (allg_cons (good_same (v:=vI a1.vN) rfl rfl rfl rfl (r_loadBox rfl Tryd.isAgg3 (HS20.look 0 rfl) rfl)) (allg_cons (good_same (v:=vP b1 6) rfl rfl rfl rfl (r_fieldBox (n:=1) (o':=6) rfl Tryd.runUnderlying34 rfl Tryd.sizeOf32 (by decide) rfl)) (allg_cons (good_same (v:=vL A1_6 a1.vFields.length c1_6) rfl rfl rfl rfl (r_loadBox rfl Tryd.isAgg32 (HS20.look 0 rfl) rfl)) (allg_nil))))
  try simp only [patch,sc0,sc1]
  obtain ⟨v5,H5,H⟩:=of_bind H
  have HS21:=HS20.f1
  refine run_call (vs:=[vL (rowA obv4_a0) v4.length cv4_a0,vI a1.vN]) (caps:=[]) Tryd.call106 rfl rfl (ctf_put.calls k v4 a1.vN obv4_a0 cv4_a0 csv4_a0 frv4_a0 HS21 hov4_a0 hfv4_a0 H5) ?_
  rintro _ w13 ⟨obv5_a0,cv5_a0,csv5_a0,frv5_a0,rfl,hfv5_a0,hov5_a0,HS22⟩
  refine ⟨_,rfl,?_⟩
  have HS23:=HS22.f1
  refine qn_nil ?_
  try simp only [sc0,sc1]
  refine chain_eff [] ?_ rfl rfl ?_
  ·try simp only [patch,sc0,sc1]
   exact allg_cons (good_same (v:=vP b1 6) rfl rfl rfl rfl (r_fieldBox (n:=1) (o':=6) rfl Tryd.runUnderlying34 rfl Tryd.sizeOf32 (by decide) rfl)) (allg_cons (good_same (v:=vL A1_6 a1.vFields.length c1_6) rfl rfl rfl rfl (r_loadBox rfl Tryd.isAgg32 (HS23.look 0 rfl) rfl)) (allg_nil))
  try simp only [patch,sc0,sc1]
  obtain ⟨v6,H6,H⟩:=of_bind H
  have HS24:=HS23.f1
  refine run_call (vs:=[vL (rowA obv5_a0) v5.length cv5_a0,vL A1_6 a1.vFields.length c1_6,Value.func (.func 109) #[] #[]]) (caps:=[]) Tryd.call108 rfl rfl (ctf_putList_api_Field.calls k v5 a1.vFields obv5_a0 cv5_a0 csv5_a0 frv5_a0 A1_6 c1_6 HS24 hov5_a0 hfv5_a0 hr1_6 hc1_6 H6) ?_
  rintro _ w14 ⟨obv6_a0,cv6_a0,csv6_a0,frv6_a0,rfl,hfv6_a0,hov6_a0,HS25⟩
  refine ⟨_,rfl,?_⟩
  have HS26:=HS25.f1
  refine qn_nil ?_
  try simp only [sc0,sc1]
  refine chain_last [vL (rowA obv6_a0) v6.length cv6_a0] ?_ ?_
  ·try simp only [patch,sc0,sc1]
   exact allg_cons (good_same (v:=vL (rowA obv6_a0) v6.length cv6_a0) rfl rfl rfl rfl (r_assign rfl)) (allg_nil)
  try simp only [patch,sc0,sc1]
  refine norm_then ?_
  refine wp_ret ?_
  obtain rfl:=Option.some.inj H
  refine bodyPost_ret (results_1 rfl (one_tmp rfl)) rfl ?_
  have HS27:=HS26.d0
  exact ⟨obv6_a0,cv6_a0,csv6_a0,frv6_a0,rfl,hfv6_a0,hov6_a0,HS27⟩

end Go.Proofs.YtfjppgobidjndaaDoor
namespace Go.Proofs.YtfjppgobidjndaaDoor
open Go.RowKit Go.M
def ctf_putList_api_Def.l0 (k:Nat) (a1:List api_Def):Nat→Int→(List Int)→Option ((List Int))
 |0,_,_=>none
 |m+1,y1_0,y1_1=>if (decide (y1_0<(a1.length:Int)))=true then (if 0≤y1_0∧y1_0<a1.length then ((ctf_putDef.f k y1_1 (rd z_api_Def a1 y1_0)).bind fun v2=>(ctf_putList_api_Def.l0 k a1 m (IntKind.wrap .i64 (y1_0+1)) v2)) else none) else (some y1_1)
def ctf_putList_api_Def.f (k:Nat) (a0:List Int) (a1:List api_Def):Option ((List Int)):=(ctf_put.f k a0 (a1.length:Int)).bind fun v1=>((ctf_putList_api_Def.l0 k a1 k 0 v1).bind fun xx1=>(some xx1))
set_option maxRecDepth 20000 in
set_option maxHeartbeats 4000000 in
theorem ctf_putList_api_Def.calls (k:Nat) (a0:List Int) (a1:List api_Def) (oba0:Option Nat) (ca0:Nat) (csa0:List Value) (fra0:Nat×Nat) (A1_0:Option Addr) (c1_0:Nat) {h0:View} {w0:World} {h:View} {w:World} {rest:List Res} (HS:St [] h0 w0 h ((oba0, .cells (csa0).toArray 5 fra0)::rest) w) (hoa0:RowOk (Kd.int .u8) h a0 oba0 a0.length ca0 csa0) (hfa0:FrOk fra0 csa0.length) (hr1_0:Rd k_api_Def h A1_0 a1) (hc1_0:a1.length≤c1_0) {r:(List Int)} (H:ctf_putList_api_Def.f k a0 a1=some r):Calls Tryd.prog 69 #[vL (rowA oba0) a0.length ca0,vL A1_0 a1.length c1_0,Value.func (.func 70) #[] #[]] w (fun e w1=>∃(obz_a0:Option Nat) (cz_a0:Nat) (csz_a0:List Value),∃(frz_a0:Nat×Nat),e= .returned (vL (rowA obz_a0) r.length cz_a0)∧FrOk frz_a0 csz_a0.length∧RowOk (Kd.int .u8) h r obz_a0 r.length cz_a0 csz_a0∧St [] h0 w0 h ((obz_a0, .cells (csz_a0).toArray 5 frz_a0)::rest) w1):=by
 unfold ctf_putList_api_Def.f at H
 have hsub:Sub h h:=Sub.rfl' h
 go_enter Tryd.func69,Tryd.ntmps69
 refine wp_seq ?_
 refine region ?_
 refine rs (vL none 0 0) (r_assign rfl) ?_
 try simp only [sc0,sc1]
 refine run_nil ?_
 refine norm_then ?_
 refine wp_seq ?_
 refine region ?_
 refine rs (vL (rowA oba0) a0.length ca0) (r_move rfl) ?_
 refine rs (vL A1_0 a1.length c1_0) (r_move rfl) ?_
 refine rs (vI (a1.length:Int)) (r_len rfl Tryd.runUnderlying22) ?_
 obtain ⟨v1,H1,H⟩:=of_bind H
 refine run_call (vs:=[vL (rowA oba0) a0.length ca0,vI (a1.length:Int)]) (caps:=[]) Tryd.call106 rfl rfl (ctf_put.calls k a0 (a1.length:Int) oba0 ca0 csa0 fra0 HS hoa0 hfa0 H1) ?_
 rintro _ w1 ⟨obv1_a0,cv1_a0,csv1_a0,frv1_a0,rfl,hfv1_a0,hov1_a0,HS1⟩
 refine ⟨_,rfl,?_⟩
 refine run_frame (by simp only [sc0,sc1];rfl) ?_
 refine rs (vL (rowA obv1_a0) v1.length cv1_a0) (r_assign rfl) ?_
 try simp only [sc0,sc1]
 refine run_nil ?_
 refine norm_then ?_
 refine wp_seq ?_
 refine wp_seq ?_
 refine region ?_
 refine rs (vL A1_0 a1.length c1_0) (r_move rfl) ?_
 refine rs (vI (a1.length:Int)) (r_len rfl Tryd.runUnderlying22) ?_
 refine rs (vI 0) (r_move rfl) ?_
 try simp only [sc0,sc1]
 refine run_nil ?_
 refine norm_then ?_
 obtain ⟨xx1,H,G1⟩:=of_bind H
 refine loop_patch [0,8,15,16,17,18,19,20,21,22,23] (fun m us w'=>∃y1_0:Int,∃y1_1:List Int,∃(oby1_1:Option Nat) (cy1_1:Nat),∃csy1_1:List Value,∃fry1_1:Nat×Nat,∃uy1_8 uy1_16 uy1_17 uy1_18 uy1_19 uy1_20 uy1_21 uy1_22 uy1_23:Value,us=[vL (rowA oby1_1) y1_1.length cy1_1,uy1_8,vI y1_0,uy1_16,uy1_17,uy1_18,uy1_19,uy1_20,uy1_21,uy1_22,uy1_23]∧ctf_putList_api_Def.l0 k a1 m y1_0 y1_1=some xx1∧FrOk fry1_1 csy1_1.length∧RowOk (Kd.int .u8) h y1_1 oby1_1 y1_1.length cy1_1 csy1_1∧St [] h0 w0 h ((oby1_1, .cells (csy1_1).toArray 5 fry1_1)::rest) w') (fun us w'=>∃(obo1_0:Option Nat) (co1_0:Nat),∃cso1_0:List Value,∃fro1_0:Nat×Nat,∃uo1_8 uo1_15 uo1_16 uo1_17 uo1_18 uo1_19 uo1_20 uo1_21 uo1_22 uo1_23:Value,us=[vL (rowA obo1_0) xx1.length co1_0,uo1_8,uo1_15,uo1_16,uo1_17,uo1_18,uo1_19,uo1_20,uo1_21,uo1_22,uo1_23]∧FrOk fro1_0 cso1_0.length∧RowOk (Kd.int .u8) h xx1 obo1_0 xx1.length co1_0 cso1_0∧St [] h0 w0 h ((obo1_0, .cells (cso1_0).toArray 5 fro1_0)::rest) w') k [vL (rowA obv1_a0) v1.length cv1_a0,undef,vI 0,undef,undef,undef,undef,undef,undef,undef,undef] (by simp only [patch,sc0,sc1]) ⟨0,v1,obv1_a0,cv1_a0,csv1_a0,frv1_a0,_,_,_,_,_,_,_,_,_,rfl,H,hfv1_a0,hov1_a0.norm,HS1⟩ ?_ ?_
 ·rintro m us w2 ⟨y1_0,y1_1,oby1_1,cy1_1,csy1_1,fry1_1,uy1_8,uy1_16,uy1_17,uy1_18,uy1_19,uy1_20,uy1_21,uy1_22,uy1_23,rfl,H,hfy1_1,hoy1_1,HS2⟩
  cases m with
  |zero=>exact absurd H (by simp [ctf_putList_api_Def.l0])
  |succ m=>
   rw [ctf_putList_api_Def.l0] at H
   try simp only [patch,sc0,sc1]
   refine wp_seq ?_
   refine region ?_
   refine rs (vB (decide (y1_0<(a1.length:Int)))) (r_bin rfl rfl rfl) ?_
   try simp only [sc0,sc1]
   refine run_nil ?_
   refine norm_then ?_
   refine wp_seq ?_
   refine wp_cond_split (t:=(decide (y1_0<(a1.length:Int)))) rfl (fun c1=>?_) (fun c1=>?_)
   ·replace H:=of_pos H c1
    refine wp_skip ?_
    refine norm_then ?_
    refine wp_seq ?_
    refine wp_block ?_
    refine wp_seq ?_
    refine region ?_
    obtain ⟨hi1,H⟩:=of_ite H
    obtain ⟨ad1,Aad1_6,cad1_6,e1,hel1,hcad1_6,hrad1_6⟩:=ld_api_Def hr1_0 hi1.1 hi1.2
    refine rs (Value.pointer (some (Addr.add ad1 (y1_0.toNat*7)))) (r_indexA (sz:=7) rfl e1 rfl hi1.1 hi1.2 Tryd.runUnderlying22 Tryd.sizeOf34) ?_
    refine rs (Value.agg #[vI ((rd z_api_Def a1 y1_0).vKind),vS ((rd z_api_Def a1 y1_0).vName),vI ((rd z_api_Def a1 y1_0).vInt.vSize),vB ((rd z_api_Def a1 y1_0).vInt.vSigned),vI ((rd z_api_Def a1 y1_0).vRef),vI ((rd z_api_Def a1 y1_0).vN),vL Aad1_6 ((rd z_api_Def a1 y1_0).vFields).length cad1_6]) (r_loadAgg rfl Tryd.isAgg34 (hel1.sees HS2.sees) Tryd.sizeOf34) ?_
    refine run_ex rfl rfl (does_alloc (cs:=#[vI 0,vS ByteArray.empty,vI 0,vB false,vI 0,vI 0,vL none 0 0]) Tryd.zeroValue34 rfl) ?_
    rintro w3 _ hE1 ⟨b1,rfl,ge1,hb1⟩
    have HS3:=HS2.new hE1 ge1 hb1
    refine run_st (i:=0) (cs:=[vI 0,vS ByteArray.empty,vI 0,vB false,vI 0,vI 0,vL none 0 0]) (cs':=[vI ((rd z_api_Def a1 y1_0).vKind),vS ((rd z_api_Def a1 y1_0).vName),vI ((rd z_api_Def a1 y1_0).vInt.vSize),vB ((rd z_api_Def a1 y1_0).vInt.vSigned),vI ((rd z_api_Def a1 y1_0).vRef),vI ((rd z_api_Def a1 y1_0).vN),vL Aad1_6 ((rd z_api_Def a1 y1_0).vFields).length cad1_6]) (vs:=[vI ((rd z_api_Def a1 y1_0).vKind),vS ((rd z_api_Def a1 y1_0).vName),vI ((rd z_api_Def a1 y1_0).vInt.vSize),vB ((rd z_api_Def a1 y1_0).vInt.vSigned),vI ((rd z_api_Def a1 y1_0).vRef),vI ((rd z_api_Def a1 y1_0).vN),vL Aad1_6 ((rd z_api_Def a1 y1_0).vFields).length cad1_6]) (bs':=((some b1, .cells #[vI ((rd z_api_Def a1 y1_0).vKind),vS ((rd z_api_Def a1 y1_0).vName),vI ((rd z_api_Def a1 y1_0).vInt.vSize),vB ((rd z_api_Def a1 y1_0).vInt.vSigned),vI ((rd z_api_Def a1 y1_0).vRef),vI ((rd z_api_Def a1 y1_0).vN),vL Aad1_6 ((rd z_api_Def a1 y1_0).vFields).length cad1_6] 34 (0,0))::(oby1_1, .cells (csy1_1).toArray 5 fry1_1)::rest)) rfl rfl Tryd.sizeOf34 rfl rfl (by decide) rfl HS3 rfl (Nat.le_of_ble_eq_true rfl) rfl rfl ?_
    intro w4 HS4
    try simp only [sc0,sc1]
    refine run_nil ?_
    refine norm_then ?_
    refine region ?_
    refine rs (Value.func (.func 70) #[] #[]) (r_move rfl) ?_
    refine rs (vL (rowA oby1_1) y1_1.length cy1_1) (r_move rfl) ?_
    refine rs (Value.agg #[vI ((rd z_api_Def a1 y1_0).vKind),vS ((rd z_api_Def a1 y1_0).vName),vI ((rd z_api_Def a1 y1_0).vInt.vSize),vB ((rd z_api_Def a1 y1_0).vInt.vSigned),vI ((rd z_api_Def a1 y1_0).vRef),vI ((rd z_api_Def a1 y1_0).vN),vL Aad1_6 ((rd z_api_Def a1 y1_0).vFields).length cad1_6]) (r_loadBoxAgg (n:=7) (vs:=[vI ((rd z_api_Def a1 y1_0).vKind),vS ((rd z_api_Def a1 y1_0).vName),vI ((rd z_api_Def a1 y1_0).vInt.vSize),vB ((rd z_api_Def a1 y1_0).vInt.vSigned),vI ((rd z_api_Def a1 y1_0).vRef),vI ((rd z_api_Def a1 y1_0).vN),vL Aad1_6 ((rd z_api_Def a1 y1_0).vFields).length cad1_6]) rfl Tryd.isAgg34 (HS4.look 0 rfl) Tryd.sizeOf34 rfl rfl) ?_
    obtain ⟨v2,H2,H⟩:=of_bind H
    have HS5:=HS4.f1
    refine run_call (vs:=[vL (rowA oby1_1) y1_1.length cy1_1,Value.agg #[vI ((rd z_api_Def a1 y1_0).vKind),vS ((rd z_api_Def a1 y1_0).vName),vI ((rd z_api_Def a1 y1_0).vInt.vSize),vB ((rd z_api_Def a1 y1_0).vInt.vSigned),vI ((rd z_api_Def a1 y1_0).vRef),vI ((rd z_api_Def a1 y1_0).vN),vL Aad1_6 ((rd z_api_Def a1 y1_0).vFields).length cad1_6]]) (caps:=[]) Tryd.call70 rfl rfl (ctf_putDef.calls k y1_1 (rd z_api_Def a1 y1_0) oby1_1 cy1_1 csy1_1 fry1_1 Aad1_6 cad1_6 HS5 hoy1_1 hfy1_1 hrad1_6 hcad1_6 H2) ?_
    rintro _ w5 ⟨obv2_a0,cv2_a0,csv2_a0,frv2_a0,rfl,hfv2_a0,hov2_a0,HS6⟩
    refine ⟨_,rfl,?_⟩
    have HS7:=HS6.f1
    refine run_frame (by simp only [sc0,sc1];rfl) ?_
    refine rs (vL (rowA obv2_a0) v2.length cv2_a0) (r_assign rfl) ?_
    try simp only [sc0,sc1]
    refine run_nil ?_
    refine norm_block ?_
    refine norm_then ?_
    refine region ?_
    refine rs (vI (w64 (y1_0+1))) (r_bin rfl rfl rfl) ?_
    refine rs (vI (w64 (y1_0+1))) (r_move rfl) ?_
    try simp only [sc0,sc1]
    refine run_nil ?_
    refine again m [vL (rowA obv2_a0) v2.length cv2_a0,vP b1 0,vI (w64 (y1_0+1)),vB (decide (y1_0<(a1.length:Int))),Value.pointer (some (Addr.add ad1 (y1_0.toNat*7))),Value.agg #[vI ((rd z_api_Def a1 y1_0).vKind),vS ((rd z_api_Def a1 y1_0).vName),vI ((rd z_api_Def a1 y1_0).vInt.vSize),vB ((rd z_api_Def a1 y1_0).vInt.vSigned),vI ((rd z_api_Def a1 y1_0).vRef),vI ((rd z_api_Def a1 y1_0).vN),vL Aad1_6 ((rd z_api_Def a1 y1_0).vFields).length cad1_6],Value.func (.func 70) #[] #[],vL (rowA oby1_1) y1_1.length cy1_1,Value.agg #[vI ((rd z_api_Def a1 y1_0).vKind),vS ((rd z_api_Def a1 y1_0).vName),vI ((rd z_api_Def a1 y1_0).vInt.vSize),vB ((rd z_api_Def a1 y1_0).vInt.vSigned),vI ((rd z_api_Def a1 y1_0).vRef),vI ((rd z_api_Def a1 y1_0).vN),vL Aad1_6 ((rd z_api_Def a1 y1_0).vFields).length cad1_6],vL (rowA obv2_a0) v2.length cv2_a0,vI (w64 (y1_0+1))] (Nat.lt_succ_self m) (by simp only [patch,sc0,sc1]) ⟨(w64 (y1_0+1)),v2,obv2_a0,cv2_a0,csv2_a0,frv2_a0,_,_,_,_,_,_,_,_,_,rfl,H,hfv2_a0,hov2_a0.norm,HS7.tail⟩
   ·replace H:=of_neg H (nt c1)
    refine wp_exit ?_
    refine exit_then ?_
    obtain rfl:=Option.some.inj H
    refine leave [vL (rowA oby1_1) y1_1.length cy1_1,uy1_8,vI y1_0,vB (decide (y1_0<(a1.length:Int))),uy1_17,uy1_18,uy1_19,uy1_20,uy1_21,uy1_22,uy1_23] (by simp only [patch,sc0,sc1]) ⟨oby1_1,cy1_1,csy1_1,fry1_1,_,_,_,_,_,_,_,_,_,_,rfl,hfy1_1,hoy1_1.norm,HS2⟩
 ·rintro us w6 ⟨obo1_0,co1_0,cso1_0,fro1_0,uo1_8,uo1_15,uo1_16,uo1_17,uo1_18,uo1_19,uo1_20,uo1_21,uo1_22,uo1_23,rfl,hfo1_0,hoo1_0,HS8⟩
  replace H:=G1
  clear G1
  try simp only [patch,sc0,sc1]
  refine norm_then ?_
  refine wp_seq ?_
  refine region ?_
  refine rs (vL (rowA obo1_0) xx1.length co1_0) (r_move rfl) ?_
  refine rs (vL (rowA obo1_0) xx1.length co1_0) (r_assign rfl) ?_
  try simp only [sc0,sc1]
  refine run_nil ?_
  refine norm_then ?_
  refine wp_ret ?_
  obtain rfl:=Option.some.inj H
  refine bodyPost_ret (results_1 rfl (one_tmp rfl)) rfl ?_
  exact ⟨obo1_0,co1_0,cso1_0,fro1_0,rfl,hfo1_0,hoo1_0,HS8⟩

end Go.Proofs.YtfjppgobidjndaaDoor
namespace Go.Proofs.YtfjppgobidjndaaDoor
open Go.RowKit Go.M
def ctf_Encode.f (k:Nat) (a0:api_Types):Option ((List Int)×Int):=(ctf_valid.f k a0).bind fun v1=>(if (!v1)=true then (some (([]:List Int),80)) else ((ctf_putList_api_Def.f k ([67,84,70,1]:List Int) a0.vDefs).bind fun v2=>(some (v2,0))))
set_option maxRecDepth 20000 in
set_option maxHeartbeats 4000000 in
theorem ctf_Encode.calls (k:Nat) (a0:api_Types) (A0_0:Option Addr) (c0_0:Nat) {h0:View} {w0:World} (hv:Sees h0 w0) (hr0_0:Rd k_api_Def h0 A0_0 a0.vDefs) (hc0_0:a0.vDefs.length≤c0_0) {r:(List Int)×Int} (H:ctf_Encode.f k a0=some r):Calls Tryd.prog 37 #[Value.agg #[vL A0_0 a0.vDefs.length c0_0]] w0 (fun e w1=>∃(h1:View) (A0_0:Option Addr) (c0_0:Nat),e= .returned (Value.tuple #[vL A0_0 r.1.length c0_0,vI r.2])∧r.1.length≤c0_0∧Rd (Kd.int .u8) h1 A0_0 r.1∧Gr w0.heap.size h0 h1∧Sees h1 w1∧Ext w0 w1):=by
 unfold ctf_Encode.f at H
 have HS:St [] h0 w0 h0 [] w0:=St.init hv
 go_enter Tryd.func37,Tryd.ntmps37
 refine wp_seq ?_
 refine region ?_
 refine run_ex rfl rfl (does_box (cs:=#[vL A0_0 a0.vDefs.length c0_0]) rfl rfl) ?_
 rintro w1 _ hE1 ⟨b1,rfl,ge1,hb1⟩
 have HS1:=HS.new hE1 ge1 hb1
 refine rs (vL none 0 0) (r_assign rfl) ?_
 refine rs (vI 0) (r_assign rfl) ?_
 try simp only [sc0,sc1]
 refine run_nil ?_
 refine norm_then ?_
 refine wp_seq ?_
 refine wp_seq ?_
 refine region ?_
 refine rs (Value.agg #[vL A0_0 a0.vDefs.length c0_0]) (r_loadBoxAgg (n:=1) (vs:=[vL A0_0 a0.vDefs.length c0_0]) rfl Tryd.isAgg24 (HS1.look 0 rfl) Tryd.sizeOf24 rfl rfl) ?_
 obtain ⟨v1,H1,H⟩:=of_bind H
 refine run_eq (v:=vB v1) rfl rfl (does_call_eq Tryd.call47 rfl rfl (ctf_valid.calls k a0 A0_0 c0_0 HS1.sees hr0_0 hc0_0 H1)) ?_
 intro w2 hE2
 have HS2:=HS1.step hE2
 refine rs (vB (!v1)) (r_not rfl) ?_
 try simp only [sc0,sc1]
 refine run_nil ?_
 refine norm_then ?_
 refine wp_cond_split (t:=(!v1)) rfl (fun c1=>?_) (fun c1=>?_)
 ·replace H:=of_pos H c1
  refine wp_seq ?_
  refine region ?_
  refine rs (vL none 0 0) (r_assign rfl) ?_
  refine rs (vI 80) (r_assign rfl) ?_
  try simp only [sc0,sc1]
  refine run_nil ?_
  refine norm_then ?_
  refine wp_ret ?_
  refine ret_then ?_
  obtain rfl:=Option.some.inj H
  refine bodyPost_ret (results_2 rfl (one_tmp rfl) (one_tmp rfl)) rfl ?_
  exact ⟨h0,none,0,rfl,(Nat.le_refl 0),(Rd.nil _ _ _),HS2.gr,HS2.sees,HS2.toE⟩
 ·replace H:=of_neg H (nt c1)
  refine wp_skip ?_
  refine norm_then ?_
  refine wp_seq ?_
  refine region ?_
  refine run_bs (Kd.int .u8) (xs:=([67,84,70,1]:List Int)) (n:=4) (cs:=[Value.int .u8 67,Value.int .u8 84,Value.int .u8 70,Value.int .u8 1]) Tryd.runUnderlying80 Tryd.typeInfo5 Tryd.zeroValue5 rfl rfl (by decide) (by decide) (by decide) [Value.int .u8 67,Value.int .u8 84,Value.int .u8 70,Value.int .u8 1] (parts_any.trans rfl) rfl rfl rfl rfl (elems_cons (qs:=[Value.int .u8 67]) rfl (elems_cons (qs:=[Value.int .u8 84]) rfl (elems_cons (qs:=[Value.int .u8 70]) rfl (elems_cons (qs:=[Value.int .u8 1]) rfl (elems_nil (cs:=[])))))) HS2 ?_
  intro w3 b2 HS3 ho1
  refine Go.M.run_mark (b:=b2) (q:=0) (cs:=[Value.int .u8 67,Value.int .u8 84,Value.int .u8 70,Value.int .u8 1]) rfl rfl Tryd.runUnderlying80 Tryd.runUnderlying5 HS3 rfl ?_
  intro w4 HS4
  refine rs (vP b1 0) (r_fieldBox (n:=1) (o':=0) rfl Tryd.runUnderlying24 rfl Tryd.sizeOf22 (by decide) rfl) ?_
  refine rs (vL A0_0 a0.vDefs.length c0_0) (r_loadBox rfl Tryd.isAgg22 (HS4.look 1 rfl) rfl) ?_
  refine run_frame (by simp only [sc0,sc1];rfl) ?_
  obtain ⟨v2,H2,H⟩:=of_bind H
  have ho2:=ho1.norm
  refine run_call (vs:=[vL (rowA (some b2)) (([67,84,70,1]:List Int).length) 4,vL A0_0 a0.vDefs.length c0_0,Value.func (.func 70) #[] #[]]) (caps:=[]) Tryd.call69 rfl (map3 (show _=vL (rowA (some b2)) (([67,84,70,1]:List Int).length) 4 from by first|rfl|(rw [ho1.len];done)|(rw [ho1.len];rfl)) rfl rfl) (ctf_putList_api_Def.calls k ([67,84,70,1]:List Int) a0.vDefs (some b2) 4 [Value.int .u8 67,Value.int .u8 84,Value.int .u8 70,Value.int .u8 1] (List.length ([Value.int .u8 67,Value.int .u8 84,Value.int .u8 70,Value.int .u8 1]),List.length ([Value.int .u8 67,Value.int .u8 84,Value.int .u8 70,Value.int .u8 1])+1) A0_0 c0_0 HS4 ho2 frok_end hr0_0 hc0_0 H2) ?_
  rintro _ w5 ⟨obv2_a0,cv2_a0,csv2_a0,frv2_a0,rfl,hfv2_a0,hov2_a0,HS5⟩
  refine ⟨_,rfl,?_⟩
  refine rs (vL (rowA obv2_a0) v2.length cv2_a0) (r_assign rfl) ?_
  refine rs (vI 0) (r_assign rfl) ?_
  try simp only [sc0,sc1]
  refine run_nil ?_
  refine norm_then ?_
  refine wp_ret ?_
  obtain rfl:=Option.some.inj H
  refine bodyPost_ret (results_2 rfl (one_tmp rfl) (one_tmp rfl)) rfl ?_
  obtain ⟨h1,HS6,hs2,rdp1⟩:=row_pub HS5 (i:=0) rfl hov2_a0
  exact ⟨h1,(rowA obv2_a0),cv2_a0,rfl,hov2_a0.cap,rdp1,HS6.gr,HS6.sees,HS6.toE⟩

end Go.Proofs.YtfjppgobidjndaaDoor
namespace Go.Proofs.YtfjppgobidjndaaDoor
open Go.RowKit Go.M
def taplinelaw08_sample.f:Option (api_Types):=some (⟨([(⟨1,(⟨#[105,110,116,51,50]⟩:ByteArray),(⟨4,true⟩:api_Int),0,0,[]⟩:api_Def),(⟨4,(⟨#[116,104,114,101,97,100,95,116]⟩:ByteArray),(⟨0,false⟩:api_Int),0,24,([(⟨(⟨#[116,95,116,105,100]⟩:ByteArray),0,0⟩:api_Field),(⟨(⟨#[116,95,110,101,120,116]⟩:ByteArray),2,8⟩:api_Field),(⟨(⟨#[116,95,110,97,109,101]⟩:ByteArray),3,16⟩:api_Field)]:List api_Field)⟩:api_Def),(⟨2,ByteArray.empty,(⟨0,false⟩:api_Int),1,0,[]⟩:api_Def),(⟨3,ByteArray.empty,(⟨0,false⟩:api_Int),4,8,[]⟩:api_Def),(⟨1,(⟨#[99,104,97,114]⟩:ByteArray),(⟨1,true⟩:api_Int),0,0,[]⟩:api_Def)]:List api_Def)⟩:api_Types)
set_option maxRecDepth 20000 in
set_option maxHeartbeats 4000000 in
theorem taplinelaw08_sample.calls {h0:View} {w0:World} (hv:Sees h0 w0) {r:api_Types} (H:taplinelaw08_sample.f=some r):Calls Tryd.prog 42 #[] w0 (fun e w1=>∃(h1:View) (A0_0:Option Addr) (c0_0:Nat),e= .returned (Value.agg #[vL A0_0 r.vDefs.length c0_0])∧r.vDefs.length≤c0_0∧Rd k_api_Def h1 A0_0 r.vDefs∧Gr w0.heap.size h0 h1∧Sees h1 w1∧Ext w0 w1):=by
 unfold taplinelaw08_sample.f at H
 have HS:St [] h0 w0 h0 [] w0:=St.init hv
 go_enter Tryd.func42,Tryd.ntmps42
 refine wp_seq ?_
 refine region ?_
 refine run_ex rfl rfl (does_alloc (cs:=#[vL none 0 0]) Tryd.zeroValue24 rfl) ?_
 rintro w1 _ hE1 ⟨b1,rfl,ge1,hb1⟩
 have HS1:=HS.new hE1 ge1 hb1
 try simp only [sc0,sc1]
 refine run_nil ?_
 refine norm_then ?_
 refine wp_seq ?_
 refine region ?_
 refine rs (Value.agg #[vS (⟨#[116,95,116,105,100]⟩:ByteArray),vI 0,vI 0]) (r_build (cs:=[vS (⟨#[116,95,116,105,100]⟩:ByteArray),vI 0,vI 0]) (ps:=[(0,vS (⟨#[116,95,116,105,100]⟩:ByteArray)),(1,vI 0),(2,vI 0)]) Tryd.zeroValue36 Tryd.runUnderlying36 (pl:=#[(0,1),(1,1),(2,1)]) (fun w=>by simp [Tryd.sizeOf3,Tryd.sizeOf9]) (parts_3 (show _=vS (⟨#[116,95,116,105,100]⟩:ByteArray) from rfl) (show _=vI 0 from rfl) (show _=vI 0 from rfl)) rfl) ?_
 refine rs (Value.agg #[vS (⟨#[116,95,110,101,120,116]⟩:ByteArray),vI 2,vI 8]) (r_build (cs:=[vS (⟨#[116,95,110,101,120,116]⟩:ByteArray),vI 2,vI 8]) (ps:=[(0,vS (⟨#[116,95,110,101,120,116]⟩:ByteArray)),(1,vI 2),(2,vI 8)]) Tryd.zeroValue36 Tryd.runUnderlying36 (pl:=#[(0,1),(1,1),(2,1)]) (fun w=>by simp [Tryd.sizeOf3,Tryd.sizeOf9]) (parts_3 (show _=vS (⟨#[116,95,110,101,120,116]⟩:ByteArray) from rfl) (show _=vI 2 from rfl) (show _=vI 8 from rfl)) rfl) ?_
 refine rs (Value.agg #[vS (⟨#[116,95,110,97,109,101]⟩:ByteArray),vI 3,vI 16]) (r_build (cs:=[vS (⟨#[116,95,110,97,109,101]⟩:ByteArray),vI 3,vI 16]) (ps:=[(0,vS (⟨#[116,95,110,97,109,101]⟩:ByteArray)),(1,vI 3),(2,vI 16)]) Tryd.zeroValue36 Tryd.runUnderlying36 (pl:=#[(0,1),(1,1),(2,1)]) (fun w=>by simp [Tryd.sizeOf3,Tryd.sizeOf9]) (parts_3 (show _=vS (⟨#[116,95,110,97,109,101]⟩:ByteArray) from rfl) (show _=vI 3 from rfl) (show _=vI 16 from rfl)) rfl) ?_
 refine run_bs k_api_Field (xs:=([(⟨(⟨#[116,95,116,105,100]⟩:ByteArray),0,0⟩:api_Field),(⟨(⟨#[116,95,110,101,120,116]⟩:ByteArray),2,8⟩:api_Field),(⟨(⟨#[116,95,110,97,109,101]⟩:ByteArray),3,16⟩:api_Field)]:List api_Field)) (n:=3) (cs:=[vS (⟨#[116,95,116,105,100]⟩:ByteArray),vI 0,vI 0,vS (⟨#[116,95,110,101,120,116]⟩:ByteArray),vI 2,vI 8,vS (⟨#[116,95,110,97,109,101]⟩:ByteArray),vI 3,vI 16]) Tryd.runUnderlying32 Tryd.typeInfo36 Tryd.zeroValue36 rfl rfl (by decide) (by decide) (by decide) [Value.agg #[vS (⟨#[116,95,116,105,100]⟩:ByteArray),vI 0,vI 0],Value.agg #[vS (⟨#[116,95,110,101,120,116]⟩:ByteArray),vI 2,vI 8],Value.agg #[vS (⟨#[116,95,110,97,109,101]⟩:ByteArray),vI 3,vI 16]] (parts_any.trans rfl) rfl rfl rfl rfl (elems_cons (qs:=[vS (⟨#[116,95,116,105,100]⟩:ByteArray),vI 0,vI 0]) ⟨[vS (⟨#[116,95,116,105,100]⟩:ByteArray)],[vI 0,vI 0],rfl,rfl,⟨[vI 0],[vI 0],rfl,rfl,rfl⟩⟩ (elems_cons (qs:=[vS (⟨#[116,95,110,101,120,116]⟩:ByteArray),vI 2,vI 8]) ⟨[vS (⟨#[116,95,110,101,120,116]⟩:ByteArray)],[vI 2,vI 8],rfl,rfl,⟨[vI 2],[vI 8],rfl,rfl,rfl⟩⟩ (elems_cons (qs:=[vS (⟨#[116,95,110,97,109,101]⟩:ByteArray),vI 3,vI 16]) ⟨[vS (⟨#[116,95,110,97,109,101]⟩:ByteArray)],[vI 3,vI 16],rfl,rfl,⟨[vI 3],[vI 16],rfl,rfl,rfl⟩⟩ (elems_nil (cs:=[]))))) HS1 ?_
 intro w2 b2 HS2 ho1
 refine run_frame (by simp only [sc0,sc1];rfl) ?_
 refine rs (Value.agg #[vI 4,vS (⟨#[116,104,114,101,97,100,95,116]⟩:ByteArray),vI 0,vB false,vI 0,vI 24,vL (rowA (some b2)) 3 3]) (r_build (cs:=[vI 4,vS (⟨#[116,104,114,101,97,100,95,116]⟩:ByteArray),vI 0,vB false,vI 0,vI 24,vL (rowA (some b2)) 3 3]) (ps:=[(0,vI 4),(1,vS (⟨#[116,104,114,101,97,100,95,116]⟩:ByteArray)),(4,vI 24),(5,vL (rowA (some b2)) 3 3)]) Tryd.zeroValue34 Tryd.runUnderlying34 (pl:=#[(0,1),(1,1),(2,2),(4,1),(5,1),(6,1)]) (fun w=>by simp [Tryd.sizeOf3,Tryd.sizeOf31,Tryd.sizeOf32,Tryd.sizeOf9]) (parts_4 (show _=vI 4 from rfl) (show _=vS (⟨#[116,104,114,101,97,100,95,116]⟩:ByteArray) from rfl) (show _=vI 24 from rfl) (show _=vL (rowA (some b2)) 3 3 from rfl)) rfl) ?_
 refine run_ex rfl rfl (does_alloc (cs:=#[vI 0,vS ByteArray.empty,vI 0,vB false,vI 0,vI 0,vL none 0 0]) Tryd.zeroValue34 rfl) ?_
 rintro w3 _ hE2 ⟨b3,rfl,ge2,hb2⟩
 have HS3:=HS2.new hE2 ge2 hb2
 refine run_st (i:=0) (cs:=[vI 0,vS ByteArray.empty,vI 0,vB false,vI 0,vI 0,vL none 0 0]) (cs':=[vI 4,vS (⟨#[116,104,114,101,97,100,95,116]⟩:ByteArray),vI 0,vB false,vI 0,vI 24,vL (rowA (some b2)) 3 3]) (vs:=[vI 4,vS (⟨#[116,104,114,101,97,100,95,116]⟩:ByteArray),vI 0,vB false,vI 0,vI 24,vL (rowA (some b2)) 3 3]) (bs':=[(some b3, .cells #[vI 4,vS (⟨#[116,104,114,101,97,100,95,116]⟩:ByteArray),vI 0,vB false,vI 0,vI 24,vL (rowA (some b2)) 3 3] 34 (0,0)),((some b2), .cells ([vS (⟨#[116,95,116,105,100]⟩:ByteArray),vI 0,vI 0,vS (⟨#[116,95,110,101,120,116]⟩:ByteArray),vI 2,vI 8,vS (⟨#[116,95,110,97,109,101]⟩:ByteArray),vI 3,vI 16]).toArray 36 (0,0)),(some b1, .cells #[vL none 0 0] 24 (0,0))]) rfl rfl Tryd.sizeOf34 rfl rfl (by decide) rfl HS3 rfl (Nat.le_of_ble_eq_true rfl) rfl rfl ?_
 intro w4 HS4
 try simp only [sc0,sc1]
 refine run_nil ?_
 refine norm_then ?_
 refine wp_seq ?_
 refine region ?_
 refine rs (Value.agg #[vI 4,vB true]) (r_build (cs:=[vI 4,vB true]) (ps:=[(0,vI 4),(1,vB true)]) Tryd.zeroValue31 Tryd.runUnderlying31 (pl:=#[(0,1),(1,1)]) (fun w=>by simp [Tryd.sizeOf3,Tryd.sizeOf4]) (parts_2 (show _=vI 4 from rfl) (show _=vB true from rfl)) rfl) ?_
 refine rs (Value.agg #[vI 1,vS (⟨#[105,110,116,51,50]⟩:ByteArray),vI 4,vB true,vI 0,vI 0,vL none 0 0]) (r_build (cs:=[vI 1,vS (⟨#[105,110,116,51,50]⟩:ByteArray),vI 4,vB true,vI 0,vI 0,vL none 0 0]) (ps:=[(0,vI 1),(1,vS (⟨#[105,110,116,51,50]⟩:ByteArray)),(2,Value.agg #[vI 4,vB true])]) Tryd.zeroValue34 Tryd.runUnderlying34 (pl:=#[(0,1),(1,1),(2,2),(4,1),(5,1),(6,1)]) (fun w=>by simp [Tryd.sizeOf3,Tryd.sizeOf31,Tryd.sizeOf32,Tryd.sizeOf9]) (parts_3 (show _=vI 1 from rfl) (show _=vS (⟨#[105,110,116,51,50]⟩:ByteArray) from rfl) (show _=Value.agg #[vI 4,vB true] from rfl)) rfl) ?_
 refine rs (Value.agg #[vI 4,vS (⟨#[116,104,114,101,97,100,95,116]⟩:ByteArray),vI 0,vB false,vI 0,vI 24,vL (rowA (some b2)) 3 3]) (r_loadBoxAgg (n:=7) (vs:=[vI 4,vS (⟨#[116,104,114,101,97,100,95,116]⟩:ByteArray),vI 0,vB false,vI 0,vI 24,vL (rowA (some b2)) 3 3]) rfl Tryd.isAgg34 (HS4.look 0 rfl) Tryd.sizeOf34 rfl rfl) ?_
 refine rs (Value.agg #[vI 2,vS ByteArray.empty,vI 0,vB false,vI 1,vI 0,vL none 0 0]) (r_build (cs:=[vI 2,vS ByteArray.empty,vI 0,vB false,vI 1,vI 0,vL none 0 0]) (ps:=[(0,vI 2),(3,vI 1)]) Tryd.zeroValue34 Tryd.runUnderlying34 (pl:=#[(0,1),(1,1),(2,2),(4,1),(5,1),(6,1)]) (fun w=>by simp [Tryd.sizeOf3,Tryd.sizeOf31,Tryd.sizeOf32,Tryd.sizeOf9]) (parts_2 (show _=vI 2 from rfl) (show _=vI 1 from rfl)) rfl) ?_
 refine run_frame (by simp only [sc0,sc1];rfl) ?_
 refine rs (Value.agg #[vI 3,vS ByteArray.empty,vI 0,vB false,vI 4,vI 8,vL none 0 0]) (r_build (cs:=[vI 3,vS ByteArray.empty,vI 0,vB false,vI 4,vI 8,vL none 0 0]) (ps:=[(0,vI 3),(3,vI 4),(4,vI 8)]) Tryd.zeroValue34 Tryd.runUnderlying34 (pl:=#[(0,1),(1,1),(2,2),(4,1),(5,1),(6,1)]) (fun w=>by simp [Tryd.sizeOf3,Tryd.sizeOf31,Tryd.sizeOf32,Tryd.sizeOf9]) (parts_3 (show _=vI 3 from rfl) (show _=vI 4 from rfl) (show _=vI 8 from rfl)) rfl) ?_
 refine rs (Value.agg #[vI 1,vB true]) (r_build (cs:=[vI 1,vB true]) (ps:=[(0,vI 1),(1,vB true)]) Tryd.zeroValue31 Tryd.runUnderlying31 (pl:=#[(0,1),(1,1)]) (fun w=>by simp [Tryd.sizeOf3,Tryd.sizeOf4]) (parts_2 (show _=vI 1 from rfl) (show _=vB true from rfl)) rfl) ?_
 refine rs (Value.agg #[vI 1,vS (⟨#[99,104,97,114]⟩:ByteArray),vI 1,vB true,vI 0,vI 0,vL none 0 0]) (r_build (cs:=[vI 1,vS (⟨#[99,104,97,114]⟩:ByteArray),vI 1,vB true,vI 0,vI 0,vL none 0 0]) (ps:=[(0,vI 1),(1,vS (⟨#[99,104,97,114]⟩:ByteArray)),(2,Value.agg #[vI 1,vB true])]) Tryd.zeroValue34 Tryd.runUnderlying34 (pl:=#[(0,1),(1,1),(2,2),(4,1),(5,1),(6,1)]) (fun w=>by simp [Tryd.sizeOf3,Tryd.sizeOf31,Tryd.sizeOf32,Tryd.sizeOf9]) (parts_3 (show _=vI 1 from rfl) (show _=vS (⟨#[99,104,97,114]⟩:ByteArray) from rfl) (show _=Value.agg #[vI 1,vB true] from rfl)) rfl) ?_
 have HS5:St [] h0 w0 h0 [(some b3, .cells #[vI 4,vS (⟨#[116,104,114,101,97,100,95,116]⟩:ByteArray),vI 0,vB false,vI 0,vI 24,vL (rowA (some b2)) (([(⟨(⟨#[116,95,116,105,100]⟩:ByteArray),0,0⟩:api_Field),(⟨(⟨#[116,95,110,101,120,116]⟩:ByteArray),2,8⟩:api_Field),(⟨(⟨#[116,95,110,97,109,101]⟩:ByteArray),3,16⟩:api_Field)]:List api_Field).length) 3] 34 (0,0)),((some b2), .cells ([vS (⟨#[116,95,116,105,100]⟩:ByteArray),vI 0,vI 0,vS (⟨#[116,95,110,101,120,116]⟩:ByteArray),vI 2,vI 8,vS (⟨#[116,95,110,97,109,101]⟩:ByteArray),vI 3,vI 16]).toArray 36 (0,0)),(some b1, .cells #[vL none 0 0] 24 (0,0))] w4:=HS4.cast (by first|rfl|(rw [ho1.len];done)|(rw [ho1.len];rfl))
 have ho2:=ho1.norm
 obtain ⟨h1,HS6,hs1,rdp1⟩:=row_pub HS5 (i:=1) rfl ho2
 have HS7:St [] h0 w0 h1 [(some b3, .cells #[vI 4,vS (⟨#[116,104,114,101,97,100,95,116]⟩:ByteArray),vI 0,vB false,vI 0,vI 24,vL (rowA (some b2)) ([(⟨(⟨#[116,95,116,105,100]⟩:ByteArray),0,0⟩:api_Field),(⟨(⟨#[116,95,110,101,120,116]⟩:ByteArray),2,8⟩:api_Field),(⟨(⟨#[116,95,110,97,109,101]⟩:ByteArray),3,16⟩:api_Field)]:List api_Field).length 3] 34 (0,0)),(some b1, .cells #[vL none 0 0] 24 (0,0))] w4:=HS6
 refine run_bs k_api_Def (xs:=([(⟨1,(⟨#[105,110,116,51,50]⟩:ByteArray),(⟨4,true⟩:api_Int),0,0,[]⟩:api_Def),(⟨4,(⟨#[116,104,114,101,97,100,95,116]⟩:ByteArray),(⟨0,false⟩:api_Int),0,24,([(⟨(⟨#[116,95,116,105,100]⟩:ByteArray),0,0⟩:api_Field),(⟨(⟨#[116,95,110,101,120,116]⟩:ByteArray),2,8⟩:api_Field),(⟨(⟨#[116,95,110,97,109,101]⟩:ByteArray),3,16⟩:api_Field)]:List api_Field)⟩:api_Def),(⟨2,ByteArray.empty,(⟨0,false⟩:api_Int),1,0,[]⟩:api_Def),(⟨3,ByteArray.empty,(⟨0,false⟩:api_Int),4,8,[]⟩:api_Def),(⟨1,(⟨#[99,104,97,114]⟩:ByteArray),(⟨1,true⟩:api_Int),0,0,[]⟩:api_Def)]:List api_Def)) (n:=5) (cs:=[vI 1,vS (⟨#[105,110,116,51,50]⟩:ByteArray),vI 4,vB true,vI 0,vI 0,vL none 0 0,vI 4,vS (⟨#[116,104,114,101,97,100,95,116]⟩:ByteArray),vI 0,vB false,vI 0,vI 24,vL (rowA (some b2)) ([(⟨(⟨#[116,95,116,105,100]⟩:ByteArray),0,0⟩:api_Field),(⟨(⟨#[116,95,110,101,120,116]⟩:ByteArray),2,8⟩:api_Field),(⟨(⟨#[116,95,110,97,109,101]⟩:ByteArray),3,16⟩:api_Field)]:List api_Field).length 3,vI 2,vS ByteArray.empty,vI 0,vB false,vI 1,vI 0,vL none 0 0,vI 3,vS ByteArray.empty,vI 0,vB false,vI 4,vI 8,vL none 0 0,vI 1,vS (⟨#[99,104,97,114]⟩:ByteArray),vI 1,vB true,vI 0,vI 0,vL none 0 0]) Tryd.runUnderlying22 Tryd.typeInfo34 Tryd.zeroValue34 rfl rfl (by decide) (by decide) (by decide) [Value.agg #[vI 1,vS (⟨#[105,110,116,51,50]⟩:ByteArray),vI 4,vB true,vI 0,vI 0,vL none 0 0],Value.agg #[vI 4,vS (⟨#[116,104,114,101,97,100,95,116]⟩:ByteArray),vI 0,vB false,vI 0,vI 24,vL (rowA (some b2)) ([(⟨(⟨#[116,95,116,105,100]⟩:ByteArray),0,0⟩:api_Field),(⟨(⟨#[116,95,110,101,120,116]⟩:ByteArray),2,8⟩:api_Field),(⟨(⟨#[116,95,110,97,109,101]⟩:ByteArray),3,16⟩:api_Field)]:List api_Field).length 3],Value.agg #[vI 2,vS ByteArray.empty,vI 0,vB false,vI 1,vI 0,vL none 0 0],Value.agg #[vI 3,vS ByteArray.empty,vI 0,vB false,vI 4,vI 8,vL none 0 0],Value.agg #[vI 1,vS (⟨#[99,104,97,114]⟩:ByteArray),vI 1,vB true,vI 0,vI 0,vL none 0 0]] (parts_any.trans rfl) rfl rfl rfl rfl (elems_cons (qs:=[vI 1,vS (⟨#[105,110,116,51,50]⟩:ByteArray),vI 4,vB true,vI 0,vI 0,vL none 0 0]) ⟨[vI 1],[vS (⟨#[105,110,116,51,50]⟩:ByteArray),vI 4,vB true,vI 0,vI 0,vL none 0 0],rfl,rfl,⟨[vS (⟨#[105,110,116,51,50]⟩:ByteArray)],[vI 4,vB true,vI 0,vI 0,vL none 0 0],rfl,rfl,⟨[vI 4,vB true],[vI 0,vI 0,vL none 0 0],rfl,⟨[vI 4],[vB true],rfl,rfl,rfl⟩,⟨[vI 0],[vI 0,vL none 0 0],rfl,rfl,⟨[vI 0],[vL none 0 0],rfl,rfl,⟨none,0,rfl,(Nat.le_refl 0),(Rd.nil _ _ _)⟩⟩⟩⟩⟩⟩ (elems_cons (qs:=[vI 4,vS (⟨#[116,104,114,101,97,100,95,116]⟩:ByteArray),vI 0,vB false,vI 0,vI 24,vL (rowA (some b2)) ([(⟨(⟨#[116,95,116,105,100]⟩:ByteArray),0,0⟩:api_Field),(⟨(⟨#[116,95,110,101,120,116]⟩:ByteArray),2,8⟩:api_Field),(⟨(⟨#[116,95,110,97,109,101]⟩:ByteArray),3,16⟩:api_Field)]:List api_Field).length 3]) ⟨[vI 4],[vS (⟨#[116,104,114,101,97,100,95,116]⟩:ByteArray),vI 0,vB false,vI 0,vI 24,vL (rowA (some b2)) ([(⟨(⟨#[116,95,116,105,100]⟩:ByteArray),0,0⟩:api_Field),(⟨(⟨#[116,95,110,101,120,116]⟩:ByteArray),2,8⟩:api_Field),(⟨(⟨#[116,95,110,97,109,101]⟩:ByteArray),3,16⟩:api_Field)]:List api_Field).length 3],rfl,rfl,⟨[vS (⟨#[116,104,114,101,97,100,95,116]⟩:ByteArray)],[vI 0,vB false,vI 0,vI 24,vL (rowA (some b2)) ([(⟨(⟨#[116,95,116,105,100]⟩:ByteArray),0,0⟩:api_Field),(⟨(⟨#[116,95,110,101,120,116]⟩:ByteArray),2,8⟩:api_Field),(⟨(⟨#[116,95,110,97,109,101]⟩:ByteArray),3,16⟩:api_Field)]:List api_Field).length 3],rfl,rfl,⟨[vI 0,vB false],[vI 0,vI 24,vL (rowA (some b2)) ([(⟨(⟨#[116,95,116,105,100]⟩:ByteArray),0,0⟩:api_Field),(⟨(⟨#[116,95,110,101,120,116]⟩:ByteArray),2,8⟩:api_Field),(⟨(⟨#[116,95,110,97,109,101]⟩:ByteArray),3,16⟩:api_Field)]:List api_Field).length 3],rfl,⟨[vI 0],[vB false],rfl,rfl,rfl⟩,⟨[vI 0],[vI 24,vL (rowA (some b2)) ([(⟨(⟨#[116,95,116,105,100]⟩:ByteArray),0,0⟩:api_Field),(⟨(⟨#[116,95,110,101,120,116]⟩:ByteArray),2,8⟩:api_Field),(⟨(⟨#[116,95,110,97,109,101]⟩:ByteArray),3,16⟩:api_Field)]:List api_Field).length 3],rfl,rfl,⟨[vI 24],[vL (rowA (some b2)) ([(⟨(⟨#[116,95,116,105,100]⟩:ByteArray),0,0⟩:api_Field),(⟨(⟨#[116,95,110,101,120,116]⟩:ByteArray),2,8⟩:api_Field),(⟨(⟨#[116,95,110,97,109,101]⟩:ByteArray),3,16⟩:api_Field)]:List api_Field).length 3],rfl,rfl,⟨(rowA (some b2)),3,rfl,ho2.cap,rdp1⟩⟩⟩⟩⟩⟩ (elems_cons (qs:=[vI 2,vS ByteArray.empty,vI 0,vB false,vI 1,vI 0,vL none 0 0]) ⟨[vI 2],[vS ByteArray.empty,vI 0,vB false,vI 1,vI 0,vL none 0 0],rfl,rfl,⟨[vS ByteArray.empty],[vI 0,vB false,vI 1,vI 0,vL none 0 0],rfl,rfl,⟨[vI 0,vB false],[vI 1,vI 0,vL none 0 0],rfl,⟨[vI 0],[vB false],rfl,rfl,rfl⟩,⟨[vI 1],[vI 0,vL none 0 0],rfl,rfl,⟨[vI 0],[vL none 0 0],rfl,rfl,⟨none,0,rfl,(Nat.le_refl 0),(Rd.nil _ _ _)⟩⟩⟩⟩⟩⟩ (elems_cons (qs:=[vI 3,vS ByteArray.empty,vI 0,vB false,vI 4,vI 8,vL none 0 0]) ⟨[vI 3],[vS ByteArray.empty,vI 0,vB false,vI 4,vI 8,vL none 0 0],rfl,rfl,⟨[vS ByteArray.empty],[vI 0,vB false,vI 4,vI 8,vL none 0 0],rfl,rfl,⟨[vI 0,vB false],[vI 4,vI 8,vL none 0 0],rfl,⟨[vI 0],[vB false],rfl,rfl,rfl⟩,⟨[vI 4],[vI 8,vL none 0 0],rfl,rfl,⟨[vI 8],[vL none 0 0],rfl,rfl,⟨none,0,rfl,(Nat.le_refl 0),(Rd.nil _ _ _)⟩⟩⟩⟩⟩⟩ (elems_cons (qs:=[vI 1,vS (⟨#[99,104,97,114]⟩:ByteArray),vI 1,vB true,vI 0,vI 0,vL none 0 0]) ⟨[vI 1],[vS (⟨#[99,104,97,114]⟩:ByteArray),vI 1,vB true,vI 0,vI 0,vL none 0 0],rfl,rfl,⟨[vS (⟨#[99,104,97,114]⟩:ByteArray)],[vI 1,vB true,vI 0,vI 0,vL none 0 0],rfl,rfl,⟨[vI 1,vB true],[vI 0,vI 0,vL none 0 0],rfl,⟨[vI 1],[vB true],rfl,rfl,rfl⟩,⟨[vI 0],[vI 0,vL none 0 0],rfl,rfl,⟨[vI 0],[vL none 0 0],rfl,rfl,⟨none,0,rfl,(Nat.le_refl 0),(Rd.nil _ _ _)⟩⟩⟩⟩⟩⟩ (elems_nil (cs:=[]))))))) HS7 ?_
 intro w5 b4 HS8 ho3
 refine run_frame (by simp only [sc0,sc1];rfl) ?_
 refine rs (Value.agg #[vL (rowA (some b4)) 5 5]) (r_build (cs:=[vL (rowA (some b4)) 5 5]) (ps:=[(0,vL (rowA (some b4)) 5 5)]) Tryd.zeroValue24 Tryd.runUnderlying24 (pl:=#[(0,1)]) (fun w=>by simp [Tryd.sizeOf22]) (parts_1 (show _=vL (rowA (some b4)) 5 5 from rfl)) rfl) ?_
 refine run_st (i:=2) (cs:=[vL none 0 0]) (cs':=[vL (rowA (some b4)) 5 5]) (vs:=[vL (rowA (some b4)) 5 5]) (bs':=[((some b4), .cells ([vI 1,vS (⟨#[105,110,116,51,50]⟩:ByteArray),vI 4,vB true,vI 0,vI 0,vL none 0 0,vI 4,vS (⟨#[116,104,114,101,97,100,95,116]⟩:ByteArray),vI 0,vB false,vI 0,vI 24,vL (rowA (some b2)) ([(⟨(⟨#[116,95,116,105,100]⟩:ByteArray),0,0⟩:api_Field),(⟨(⟨#[116,95,110,101,120,116]⟩:ByteArray),2,8⟩:api_Field),(⟨(⟨#[116,95,110,97,109,101]⟩:ByteArray),3,16⟩:api_Field)]:List api_Field).length 3,vI 2,vS ByteArray.empty,vI 0,vB false,vI 1,vI 0,vL none 0 0,vI 3,vS ByteArray.empty,vI 0,vB false,vI 4,vI 8,vL none 0 0,vI 1,vS (⟨#[99,104,97,114]⟩:ByteArray),vI 1,vB true,vI 0,vI 0,vL none 0 0]).toArray 34 (0,0)),(some b3, .cells #[vI 4,vS (⟨#[116,104,114,101,97,100,95,116]⟩:ByteArray),vI 0,vB false,vI 0,vI 24,vL (rowA (some b2)) ([(⟨(⟨#[116,95,116,105,100]⟩:ByteArray),0,0⟩:api_Field),(⟨(⟨#[116,95,110,101,120,116]⟩:ByteArray),2,8⟩:api_Field),(⟨(⟨#[116,95,110,97,109,101]⟩:ByteArray),3,16⟩:api_Field)]:List api_Field).length 3] 34 (0,0)),(some b1, .cells #[vL (rowA (some b4)) 5 5] 24 (0,0))]) rfl rfl Tryd.sizeOf24 rfl rfl (by decide) rfl HS8 rfl (Nat.le_of_ble_eq_true rfl) rfl rfl ?_
 intro w6 HS9
 try simp only [sc0,sc1]
 refine run_nil ?_
 refine norm_then ?_
 refine wp_ret ?_
 obtain rfl:=Option.some.inj H
 refine bodyPost_ret (results_1 rfl (one_agg rfl Tryd.isAgg24 (HS9.look 2 rfl) Tryd.sizeOf24 rfl)) rfl ?_
 obtain ⟨h2,HS10,hs2,rdp2⟩:=row_pub HS9 (i:=0) rfl ho3
 replace rdp1:Rd k_api_Field h2 (rowA (some b2)) ([(⟨(⟨#[116,95,116,105,100]⟩:ByteArray),0,0⟩:api_Field),(⟨(⟨#[116,95,110,101,120,116]⟩:ByteArray),2,8⟩:api_Field),(⟨(⟨#[116,95,110,97,109,101]⟩:ByteArray),3,16⟩:api_Field)]:List api_Field):=rdp1.ext hs2
 exact ⟨h2,(rowA (some b4)),5,(by first|rfl|(rw [ho3.len];done)|(rw [ho3.len];rfl)),ho3.cap,rdp2,HS10.gr,HS10.sees,HS10.toE⟩

end Go.Proofs.YtfjppgobidjndaaDoor
namespace Go.Proofs.YtfjppgobidjndaaDoor
open Go.RowKit Go.M
def taplinelaw08_sane.f (k:Nat):Option (Bool):=(taplinelaw08_sample.f).bind fun v1=>((ctf_Size.f k v1 1).bind fun v2=>((ctf_Text.f k v1 3).bind fun v3=>((ctf_Member.f k v1 1 (⟨#[116,95,110,101,120,116]⟩:ByteArray)).bind fun v4=>((ctf_Path.f k v1 1 ([(⟨#[116,95,110,97,109,101]⟩:ByteArray)]:List ByteArray)).bind fun v5=>((ctf_Check.f k v1).bind fun v6=>(if (((((((((((v6 !=0)||(v2.2 !=0))||(v2.1 !=24))||(v3.2 !=0))||(!(strEq v3.1 (⟨#[99,104,97,114,32,91,56,93]⟩:ByteArray))))||(v4.2 !=0))||(v4.1.vType !=2))||(v4.1.vAt !=8))||(v5.2.2 !=0))||(v5.1 !=3))||(v5.2.1 !=16))=true then (some false) else ((ctf_Member.f k v1 2 (⟨#[116,95,116,105,100]⟩:ByteArray)).bind fun v7=>(if 0+v1.vDefs.length≤4294967296 then (if (0+v1.vDefs.length)+1≤4294967296 then ((ctf_Unique.f k (⟨((([]:List api_Def)++v1.vDefs)++([(⟨2,ByteArray.empty,(⟨0,false⟩:api_Int),1,0,[]⟩:api_Def)]:List api_Def))⟩:api_Types)).bind fun v8=>((ctf_Encode.f k (⟨[]⟩:api_Types)).bind fun v9=>((if (true&&(((v7.2==5)&&(v8.2.2==0))==true))=true then taplineref08_Same.f k v8.1 v1 else some false).bind fun v10=>((if (true&&((((v7.2==5)&&(v8.2.2==0))&&v10)==true))=true then taplineref08_SameInts.f k v8.2.1 ([0,1,2,3,4,2]:List Int) else some false).bind fun v11=>(some ((((((v7.2==5)&&(v8.2.2==0))&&v10)&&v11)&&(v9.2==0))&&(strEq (strOf v9.1) (⟨#[67,84,70,1,0]⟩:ByteArray)))))))) else none) else none))))))))
set_option maxRecDepth 20000 in
set_option maxHeartbeats 4000000 in
theorem taplinelaw08_sane.calls (k:Nat) {h0:View} {w0:World} (hv:Sees h0 w0) (ht:Tab w0) {r:Bool} (H:taplinelaw08_sane.f k=some r):Calls Tryd.prog 13 #[] w0 (fun e w1=>e= .returned (vB r)∧Ext w0 w1):=by
 unfold taplinelaw08_sane.f at H
 have HS:St [] h0 w0 h0 [] w0:=St.init hv
 go_enter Tryd.func13,Tryd.ntmps13
 refine wp_seq ?_
 refine region ?_
 refine rs (vB false) (r_assign rfl) ?_
 try simp only [sc0,sc1]
 refine run_nil ?_
 refine norm_then ?_
 refine wp_seq ?_
 refine region ?_
 obtain ⟨v1,H1,H⟩:=of_bind H
 refine run_ex rfl rfl (does_call Tryd.call42 rfl (gives_in (h:=h0) (R:=(fun hx u=>∃(Av1_0_0:Option Addr) (cv1_0_0:Nat),u=Value.agg #[vL Av1_0_0 v1.vDefs.length cv1_0_0]∧v1.vDefs.length≤cv1_0_0∧Rd k_api_Def hx Av1_0_0 v1.vDefs)) (Ext.rfl' w0) ((taplinelaw08_sample.calls HS.sees H1).mono ?_)) rfl) ?_
 ·rintro _ _ ⟨h1,Av1_0_0,cv1_0_0,rfl,hcv1_0_0,hrv1_0_0,g,ss,x⟩
  exact ⟨h1,_,rfl,⟨Av1_0_0,cv1_0_0,rfl,hcv1_0_0,hrv1_0_0⟩,g,ss,x⟩
 rintro w1 _ hE1 ⟨h1,⟨Av1_0_0,cv1_0_0,rfl,hcv1_0_0,hrv1_0_0⟩,gr1,se1⟩
 have HS1:=HS.view hE1 gr1 se1
 refine run_ex rfl rfl (does_alloc (cs:=#[vL none 0 0]) Tryd.zeroValue24 rfl) ?_
 rintro w2 _ hE2 ⟨b1,rfl,ge1,hb1⟩
 have HS2:=HS1.new hE2 ge1 hb1
 refine run_st (i:=0) (cs:=[vL none 0 0]) (cs':=[vL Av1_0_0 v1.vDefs.length cv1_0_0]) (vs:=[vL Av1_0_0 v1.vDefs.length cv1_0_0]) (bs':=[(some b1, .cells #[vL Av1_0_0 v1.vDefs.length cv1_0_0] 24 (0,0))]) rfl rfl Tryd.sizeOf24 rfl rfl (by decide) rfl HS2 rfl (Nat.le_of_ble_eq_true rfl) rfl rfl ?_
 intro w3 HS3
 try simp only [sc0,sc1]
 refine run_nil ?_
 refine norm_then ?_
 refine wp_seq ?_
 refine region ?_
 refine rs (Value.agg #[vL Av1_0_0 v1.vDefs.length cv1_0_0]) (r_loadBoxAgg (n:=1) (vs:=[vL Av1_0_0 v1.vDefs.length cv1_0_0]) rfl Tryd.isAgg24 (HS3.look 0 rfl) Tryd.sizeOf24 rfl rfl) ?_
 obtain ⟨v2,H2,H⟩:=of_bind H
 refine run_eq (v:=Value.tuple #[vI v2.1,vI v2.2]) rfl rfl (does_call_eq Tryd.call14 rfl rfl (ctf_Size.calls k v1 1 Av1_0_0 cv1_0_0 HS3.sees hrv1_0_0 hcv1_0_0 H2)) ?_
 intro w4 hE3
 have HS4:=HS3.step hE3
 refine rs (Value.tuple #[vI v2.1,vI v2.2]) (r_move rfl) ?_
 refine rs (vI v2.1) (r_extract rfl rfl) ?_
 refine run_frame (by simp only [sc0,sc1];rfl) ?_
 refine rs (vI v2.2) (r_extract rfl rfl) ?_
 refine rs (vI v2.1) (r_assign rfl) ?_
 refine rs (vI v2.2) (r_assign rfl) ?_
 try simp only [sc0,sc1]
 refine run_nil ?_
 refine norm_then ?_
 refine wp_seq ?_
 refine region ?_
 refine rs (Value.agg #[vL Av1_0_0 v1.vDefs.length cv1_0_0]) (r_loadBoxAgg (n:=1) (vs:=[vL Av1_0_0 v1.vDefs.length cv1_0_0]) rfl Tryd.isAgg24 (HS4.look 0 rfl) Tryd.sizeOf24 rfl rfl) ?_
 obtain ⟨v3,H3,H⟩:=of_bind H
 refine run_eq (v:=Value.tuple #[vS v3.1,vI v3.2]) rfl rfl (does_call_eq Tryd.call20 rfl rfl (ctf_Text.calls k v1 3 Av1_0_0 cv1_0_0 HS4.sees (ht.s HS4) hrv1_0_0 hcv1_0_0 H3)) ?_
 intro w5 hE4
 have HS5:=HS4.step hE4
 refine rs (Value.tuple #[vS v3.1,vI v3.2]) (r_move rfl) ?_
 refine rs (vS v3.1) (r_extract rfl rfl) ?_
 refine run_frame (by simp only [sc0,sc1];rfl) ?_
 refine rs (vI v3.2) (r_extract rfl rfl) ?_
 refine rs (vS v3.1) (r_assign rfl) ?_
 refine rs (vI v3.2) (r_assign rfl) ?_
 try simp only [sc0,sc1]
 refine run_nil ?_
 refine norm_then ?_
 refine wp_seq ?_
 refine region ?_
 refine rs (Value.agg #[vL Av1_0_0 v1.vDefs.length cv1_0_0]) (r_loadBoxAgg (n:=1) (vs:=[vL Av1_0_0 v1.vDefs.length cv1_0_0]) rfl Tryd.isAgg24 (HS5.look 0 rfl) Tryd.sizeOf24 rfl rfl) ?_
 obtain ⟨v4,H4,H⟩:=of_bind H
 refine run_eq (v:=Value.tuple #[Value.agg #[vS v4.1.vName,vI v4.1.vType,vI v4.1.vAt],vI v4.2]) rfl rfl (does_call_eq Tryd.call16 rfl rfl (ctf_Member.calls k v1 1 (⟨#[116,95,110,101,120,116]⟩:ByteArray) Av1_0_0 cv1_0_0 HS5.sees hrv1_0_0 hcv1_0_0 H4)) ?_
 intro w6 hE5
 have HS6:=HS5.step hE5
 refine rs (Value.tuple #[Value.agg #[vS v4.1.vName,vI v4.1.vType,vI v4.1.vAt],vI v4.2]) (r_move rfl) ?_
 refine rs (Value.agg #[vS v4.1.vName,vI v4.1.vType,vI v4.1.vAt]) (r_extract rfl rfl) ?_
 refine run_frame (by simp only [sc0,sc1];rfl) ?_
 refine rs (vI v4.2) (r_extract rfl rfl) ?_
 refine run_ex rfl rfl (does_alloc (cs:=#[vS ByteArray.empty,vI 0,vI 0]) Tryd.zeroValue36 rfl) ?_
 rintro w7 _ hE6 ⟨b2,rfl,ge2,hb2⟩
 have HS7:=HS6.new hE6 ge2 hb2
 refine run_st (i:=0) (cs:=[vS ByteArray.empty,vI 0,vI 0]) (cs':=[vS v4.1.vName,vI v4.1.vType,vI v4.1.vAt]) (vs:=[vS v4.1.vName,vI v4.1.vType,vI v4.1.vAt]) (bs':=[(some b2, .cells #[vS v4.1.vName,vI v4.1.vType,vI v4.1.vAt] 36 (0,0)),(some b1, .cells #[vL Av1_0_0 v1.vDefs.length cv1_0_0] 24 (0,0))]) rfl rfl Tryd.sizeOf36 rfl rfl (by decide) rfl HS7 rfl (Nat.le_of_ble_eq_true rfl) rfl rfl ?_
 intro w8 HS8
 refine rs (vI v4.2) (r_assign rfl) ?_
 try simp only [sc0,sc1]
 refine run_nil ?_
 refine norm_then ?_
 refine wp_seq ?_
 refine region ?_
 refine rs (Value.agg #[vL Av1_0_0 v1.vDefs.length cv1_0_0]) (r_loadBoxAgg (n:=1) (vs:=[vL Av1_0_0 v1.vDefs.length cv1_0_0]) rfl Tryd.isAgg24 (HS8.look 1 rfl) Tryd.sizeOf24 rfl rfl) ?_
 refine run_bs Kd.str (xs:=([(⟨#[116,95,110,97,109,101]⟩:ByteArray)]:List ByteArray)) (n:=1) (cs:=[vS (⟨#[116,95,110,97,109,101]⟩:ByteArray)]) Tryd.runUnderlying25 Tryd.typeInfo9 Tryd.zeroValue9 rfl rfl (by decide) (by decide) (by decide) [vS (⟨#[116,95,110,97,109,101]⟩:ByteArray)] (parts_any.trans rfl) rfl rfl rfl rfl (elems_cons (qs:=[vS (⟨#[116,95,110,97,109,101]⟩:ByteArray)]) rfl (elems_nil (cs:=[]))) HS8 ?_
 intro w9 b3 HS9 ho1
 obtain ⟨v5,H5,H⟩:=of_bind H
 obtain ⟨hl1,hs1,se2,rdl1⟩:=row_lend HS9 (i:=0) rfl ho1
 refine run_eq (v:=Value.tuple #[vI v5.1,vI v5.2.1,vI v5.2.2]) rfl rfl (does_call_eq Tryd.call17 rfl (map3 rfl rfl (show _=vL (rowA (some b3)) ([(⟨#[116,95,110,97,109,101]⟩:ByteArray)]:List ByteArray).length 1 from by rw [ho1.len];exact rfl)) (ctf_Path.calls k v1 1 ([(⟨#[116,95,110,97,109,101]⟩:ByteArray)]:List ByteArray) Av1_0_0 cv1_0_0 (rowA (some b3)) 1 se2 (hrv1_0_0.ext hs1) hcv1_0_0 rdl1 ho1.cap H5)) ?_
 intro w10 hE7
 have HS10:=HS9.step hE7
 refine rs (Value.tuple #[vI v5.1,vI v5.2.1,vI v5.2.2]) (r_move rfl) ?_
 refine run_frame (by simp only [sc0,sc1];rfl) ?_
 refine rs (vI v5.1) (r_extract rfl rfl) ?_
 refine rs (vI v5.2.1) (r_extract rfl rfl) ?_
 refine rs (vI v5.2.2) (r_extract rfl rfl) ?_
 refine rs (vI v5.1) (r_assign rfl) ?_
 refine run_frame (by simp only [sc0,sc1];rfl) ?_
 refine rs (vI v5.2.1) (r_assign rfl) ?_
 refine rs (vI v5.2.2) (r_assign rfl) ?_
 try simp only [sc0,sc1]
 refine run_nil ?_
 refine norm_then ?_
 refine wp_seq ?_
 refine wp_seq ?_
 refine region ?_
 refine rs (Value.agg #[vL Av1_0_0 v1.vDefs.length cv1_0_0]) (r_loadBoxAgg (n:=1) (vs:=[vL Av1_0_0 v1.vDefs.length cv1_0_0]) rfl Tryd.isAgg24 (HS10.look 2 rfl) Tryd.sizeOf24 rfl rfl) ?_
 obtain ⟨v6,H6,H⟩:=of_bind H
 refine run_eq (v:=vI v6) rfl rfl (does_call_eq Tryd.call18 rfl rfl (ctf_Check.calls k v1 Av1_0_0 cv1_0_0 HS10.sees hrv1_0_0 hcv1_0_0 H6)) ?_
 intro w11 hE8
 have HS11:=HS10.step hE8
 refine rs (vB (v6 !=0)) (r_bin rfl rfl rfl) ?_
 refine rs (vB (v6 !=0)) (r_move rfl) ?_
 refine run_frame (by simp only [sc0,sc1];rfl) ?_
 refine rgs (v6 !=0) true (vI v2.2) rfl rfl rfl rfl (fun hg=>(r_move rfl)) ?_
 refine rgs (v6 !=0) true (vB (v2.2 !=0)) rfl rfl rfl rfl (fun hg=>(r_bin (gvt (vI v2.2) hg rfl) rfl rfl)) ?_
 refine rs (vB ((v6 !=0)||(v2.2 !=0))) (r_pick_or rfl rfl (fun hp=>(gvt (vB (v2.2 !=0)) (and_i rfl hp) rfl))) ?_
 refine rs (vB ((v6 !=0)||(v2.2 !=0))) (r_move rfl) ?_
 refine run_frame (by simp only [sc0,sc1];rfl) ?_
 refine rgs ((v6 !=0)||(v2.2 !=0)) true (vI v2.1) rfl rfl rfl rfl (fun hg=>(r_move rfl)) ?_
 refine rgs ((v6 !=0)||(v2.2 !=0)) true (vB (v2.1 !=24)) rfl rfl rfl rfl (fun hg=>(r_bin (gvt (vI v2.1) hg rfl) rfl rfl)) ?_
 refine rs (vB (((v6 !=0)||(v2.2 !=0))||(v2.1 !=24))) (r_pick_or rfl rfl (fun hp=>(gvt (vB (v2.1 !=24)) (and_i rfl hp) rfl))) ?_
 refine rs (vB (((v6 !=0)||(v2.2 !=0))||(v2.1 !=24))) (r_move rfl) ?_
 refine run_frame (by simp only [sc0,sc1];rfl) ?_
 refine rgs (((v6 !=0)||(v2.2 !=0))||(v2.1 !=24)) true (vI v3.2) rfl rfl rfl rfl (fun hg=>(r_move rfl)) ?_
 refine rgs (((v6 !=0)||(v2.2 !=0))||(v2.1 !=24)) true (vB (v3.2 !=0)) rfl rfl rfl rfl (fun hg=>(r_bin (gvt (vI v3.2) hg rfl) rfl rfl)) ?_
 refine rs (vB ((((v6 !=0)||(v2.2 !=0))||(v2.1 !=24))||(v3.2 !=0))) (r_pick_or rfl rfl (fun hp=>(gvt (vB (v3.2 !=0)) (and_i rfl hp) rfl))) ?_
 refine rs (vB ((((v6 !=0)||(v2.2 !=0))||(v2.1 !=24))||(v3.2 !=0))) (r_move rfl) ?_
 refine run_frame (by simp only [sc0,sc1];rfl) ?_
 refine rgs ((((v6 !=0)||(v2.2 !=0))||(v2.1 !=24))||(v3.2 !=0)) true (vS v3.1) rfl rfl rfl rfl (fun hg=>(r_move rfl)) ?_
 refine rgs ((((v6 !=0)||(v2.2 !=0))||(v2.1 !=24))||(v3.2 !=0)) true (vB (!(strEq v3.1 (⟨#[99,104,97,114,32,91,56,93]⟩:ByteArray)))) rfl rfl rfl rfl (fun hg=>(r_strneq (gvt (vS v3.1) hg rfl) rfl)) ?_
 refine rs (vB (((((v6 !=0)||(v2.2 !=0))||(v2.1 !=24))||(v3.2 !=0))||(!(strEq v3.1 (⟨#[99,104,97,114,32,91,56,93]⟩:ByteArray))))) (r_pick_or rfl rfl (fun hp=>(gvt (vB (!(strEq v3.1 (⟨#[99,104,97,114,32,91,56,93]⟩:ByteArray)))) (and_i rfl hp) rfl))) ?_
 refine rs (vB (((((v6 !=0)||(v2.2 !=0))||(v2.1 !=24))||(v3.2 !=0))||(!(strEq v3.1 (⟨#[99,104,97,114,32,91,56,93]⟩:ByteArray))))) (r_move rfl) ?_
 refine run_frame (by simp only [sc0,sc1];rfl) ?_
 refine rgs (((((v6 !=0)||(v2.2 !=0))||(v2.1 !=24))||(v3.2 !=0))||(!(strEq v3.1 (⟨#[99,104,97,114,32,91,56,93]⟩:ByteArray)))) true (vI v4.2) rfl rfl rfl rfl (fun hg=>(r_move rfl)) ?_
 refine rgs (((((v6 !=0)||(v2.2 !=0))||(v2.1 !=24))||(v3.2 !=0))||(!(strEq v3.1 (⟨#[99,104,97,114,32,91,56,93]⟩:ByteArray)))) true (vB (v4.2 !=0)) rfl rfl rfl rfl (fun hg=>(r_bin (gvt (vI v4.2) hg rfl) rfl rfl)) ?_
 refine rs (vB ((((((v6 !=0)||(v2.2 !=0))||(v2.1 !=24))||(v3.2 !=0))||(!(strEq v3.1 (⟨#[99,104,97,114,32,91,56,93]⟩:ByteArray))))||(v4.2 !=0))) (r_pick_or rfl rfl (fun hp=>(gvt (vB (v4.2 !=0)) (and_i rfl hp) rfl))) ?_
 refine rs (vB ((((((v6 !=0)||(v2.2 !=0))||(v2.1 !=24))||(v3.2 !=0))||(!(strEq v3.1 (⟨#[99,104,97,114,32,91,56,93]⟩:ByteArray))))||(v4.2 !=0))) (r_move rfl) ?_
 refine run_frame (by simp only [sc0,sc1];rfl) ?_
 refine rgs ((((((v6 !=0)||(v2.2 !=0))||(v2.1 !=24))||(v3.2 !=0))||(!(strEq v3.1 (⟨#[99,104,97,114,32,91,56,93]⟩:ByteArray))))||(v4.2 !=0)) true (vP b2 1) rfl rfl rfl rfl (fun hg=>(r_fieldBox (n:=1) (o':=1) rfl Tryd.runUnderlying36 rfl Tryd.sizeOf3 (by decide) rfl)) ?_
 refine rgs ((((((v6 !=0)||(v2.2 !=0))||(v2.1 !=24))||(v3.2 !=0))||(!(strEq v3.1 (⟨#[99,104,97,114,32,91,56,93]⟩:ByteArray))))||(v4.2 !=0)) true (vI v4.1.vType) rfl rfl rfl rfl (fun hg=>(r_loadBox (gvt (vP b2 1) hg rfl) Tryd.isAgg3 (HS11.look 1 rfl) rfl)) ?_
 refine rgs ((((((v6 !=0)||(v2.2 !=0))||(v2.1 !=24))||(v3.2 !=0))||(!(strEq v3.1 (⟨#[99,104,97,114,32,91,56,93]⟩:ByteArray))))||(v4.2 !=0)) true (vB (v4.1.vType !=2)) rfl rfl rfl rfl (fun hg=>(r_bin (gvt (vI v4.1.vType) hg rfl) rfl rfl)) ?_
 refine rs (vB (((((((v6 !=0)||(v2.2 !=0))||(v2.1 !=24))||(v3.2 !=0))||(!(strEq v3.1 (⟨#[99,104,97,114,32,91,56,93]⟩:ByteArray))))||(v4.2 !=0))||(v4.1.vType !=2))) (r_pick_or rfl rfl (fun hp=>(gvt (vB (v4.1.vType !=2)) (and_i rfl hp) rfl))) ?_
 refine run_frame (by simp only [sc0,sc1];rfl) ?_
 refine rs (vB (((((((v6 !=0)||(v2.2 !=0))||(v2.1 !=24))||(v3.2 !=0))||(!(strEq v3.1 (⟨#[99,104,97,114,32,91,56,93]⟩:ByteArray))))||(v4.2 !=0))||(v4.1.vType !=2))) (r_move rfl) ?_
 refine rgs (((((((v6 !=0)||(v2.2 !=0))||(v2.1 !=24))||(v3.2 !=0))||(!(strEq v3.1 (⟨#[99,104,97,114,32,91,56,93]⟩:ByteArray))))||(v4.2 !=0))||(v4.1.vType !=2)) true (vP b2 2) rfl rfl rfl rfl (fun hg=>(r_fieldBox (n:=1) (o':=2) rfl Tryd.runUnderlying36 rfl Tryd.sizeOf3 (by decide) rfl)) ?_
 refine rgs (((((((v6 !=0)||(v2.2 !=0))||(v2.1 !=24))||(v3.2 !=0))||(!(strEq v3.1 (⟨#[99,104,97,114,32,91,56,93]⟩:ByteArray))))||(v4.2 !=0))||(v4.1.vType !=2)) true (vI v4.1.vAt) rfl rfl rfl rfl (fun hg=>(r_loadBox (gvt (vP b2 2) hg rfl) Tryd.isAgg3 (HS11.look 1 rfl) rfl)) ?_
 refine rgs (((((((v6 !=0)||(v2.2 !=0))||(v2.1 !=24))||(v3.2 !=0))||(!(strEq v3.1 (⟨#[99,104,97,114,32,91,56,93]⟩:ByteArray))))||(v4.2 !=0))||(v4.1.vType !=2)) true (vB (v4.1.vAt !=8)) rfl rfl rfl rfl (fun hg=>(r_bin (gvt (vI v4.1.vAt) hg rfl) rfl rfl)) ?_
 refine run_frame (by simp only [sc0,sc1];rfl) ?_
 refine rs (vB ((((((((v6 !=0)||(v2.2 !=0))||(v2.1 !=24))||(v3.2 !=0))||(!(strEq v3.1 (⟨#[99,104,97,114,32,91,56,93]⟩:ByteArray))))||(v4.2 !=0))||(v4.1.vType !=2))||(v4.1.vAt !=8))) (r_pick_or rfl rfl (fun hp=>(gvt (vB (v4.1.vAt !=8)) (and_i rfl hp) rfl))) ?_
 refine rs (vB ((((((((v6 !=0)||(v2.2 !=0))||(v2.1 !=24))||(v3.2 !=0))||(!(strEq v3.1 (⟨#[99,104,97,114,32,91,56,93]⟩:ByteArray))))||(v4.2 !=0))||(v4.1.vType !=2))||(v4.1.vAt !=8))) (r_move rfl) ?_
 refine rgs ((((((((v6 !=0)||(v2.2 !=0))||(v2.1 !=24))||(v3.2 !=0))||(!(strEq v3.1 (⟨#[99,104,97,114,32,91,56,93]⟩:ByteArray))))||(v4.2 !=0))||(v4.1.vType !=2))||(v4.1.vAt !=8)) true (vI v5.2.2) rfl rfl rfl rfl (fun hg=>(r_move rfl)) ?_
 refine rgs ((((((((v6 !=0)||(v2.2 !=0))||(v2.1 !=24))||(v3.2 !=0))||(!(strEq v3.1 (⟨#[99,104,97,114,32,91,56,93]⟩:ByteArray))))||(v4.2 !=0))||(v4.1.vType !=2))||(v4.1.vAt !=8)) true (vB (v5.2.2 !=0)) rfl rfl rfl rfl (fun hg=>(r_bin (gvt (vI v5.2.2) hg rfl) rfl rfl)) ?_
 refine run_frame (by simp only [sc0,sc1];rfl) ?_
 refine rs (vB (((((((((v6 !=0)||(v2.2 !=0))||(v2.1 !=24))||(v3.2 !=0))||(!(strEq v3.1 (⟨#[99,104,97,114,32,91,56,93]⟩:ByteArray))))||(v4.2 !=0))||(v4.1.vType !=2))||(v4.1.vAt !=8))||(v5.2.2 !=0))) (r_pick_or rfl rfl (fun hp=>(gvt (vB (v5.2.2 !=0)) (and_i rfl hp) rfl))) ?_
 refine rs (vB (((((((((v6 !=0)||(v2.2 !=0))||(v2.1 !=24))||(v3.2 !=0))||(!(strEq v3.1 (⟨#[99,104,97,114,32,91,56,93]⟩:ByteArray))))||(v4.2 !=0))||(v4.1.vType !=2))||(v4.1.vAt !=8))||(v5.2.2 !=0))) (r_move rfl) ?_
 refine rgs (((((((((v6 !=0)||(v2.2 !=0))||(v2.1 !=24))||(v3.2 !=0))||(!(strEq v3.1 (⟨#[99,104,97,114,32,91,56,93]⟩:ByteArray))))||(v4.2 !=0))||(v4.1.vType !=2))||(v4.1.vAt !=8))||(v5.2.2 !=0)) true (vI v5.1) rfl rfl rfl rfl (fun hg=>(r_move rfl)) ?_
 refine rgs (((((((((v6 !=0)||(v2.2 !=0))||(v2.1 !=24))||(v3.2 !=0))||(!(strEq v3.1 (⟨#[99,104,97,114,32,91,56,93]⟩:ByteArray))))||(v4.2 !=0))||(v4.1.vType !=2))||(v4.1.vAt !=8))||(v5.2.2 !=0)) true (vB (v5.1 !=3)) rfl rfl rfl rfl (fun hg=>(r_bin (gvt (vI v5.1) hg rfl) rfl rfl)) ?_
 refine run_frame (by simp only [sc0,sc1];rfl) ?_
 refine rs (vB ((((((((((v6 !=0)||(v2.2 !=0))||(v2.1 !=24))||(v3.2 !=0))||(!(strEq v3.1 (⟨#[99,104,97,114,32,91,56,93]⟩:ByteArray))))||(v4.2 !=0))||(v4.1.vType !=2))||(v4.1.vAt !=8))||(v5.2.2 !=0))||(v5.1 !=3))) (r_pick_or rfl rfl (fun hp=>(gvt (vB (v5.1 !=3)) (and_i rfl hp) rfl))) ?_
 refine rs (vB ((((((((((v6 !=0)||(v2.2 !=0))||(v2.1 !=24))||(v3.2 !=0))||(!(strEq v3.1 (⟨#[99,104,97,114,32,91,56,93]⟩:ByteArray))))||(v4.2 !=0))||(v4.1.vType !=2))||(v4.1.vAt !=8))||(v5.2.2 !=0))||(v5.1 !=3))) (r_move rfl) ?_
 refine rgs ((((((((((v6 !=0)||(v2.2 !=0))||(v2.1 !=24))||(v3.2 !=0))||(!(strEq v3.1 (⟨#[99,104,97,114,32,91,56,93]⟩:ByteArray))))||(v4.2 !=0))||(v4.1.vType !=2))||(v4.1.vAt !=8))||(v5.2.2 !=0))||(v5.1 !=3)) true (vI v5.2.1) rfl rfl rfl rfl (fun hg=>(r_move rfl)) ?_
 refine rgs ((((((((((v6 !=0)||(v2.2 !=0))||(v2.1 !=24))||(v3.2 !=0))||(!(strEq v3.1 (⟨#[99,104,97,114,32,91,56,93]⟩:ByteArray))))||(v4.2 !=0))||(v4.1.vType !=2))||(v4.1.vAt !=8))||(v5.2.2 !=0))||(v5.1 !=3)) true (vB (v5.2.1 !=16)) rfl rfl rfl rfl (fun hg=>(r_bin (gvt (vI v5.2.1) hg rfl) rfl rfl)) ?_
 refine run_frame (by simp only [sc0,sc1];rfl) ?_
 refine rs (vB (((((((((((v6 !=0)||(v2.2 !=0))||(v2.1 !=24))||(v3.2 !=0))||(!(strEq v3.1 (⟨#[99,104,97,114,32,91,56,93]⟩:ByteArray))))||(v4.2 !=0))||(v4.1.vType !=2))||(v4.1.vAt !=8))||(v5.2.2 !=0))||(v5.1 !=3))||(v5.2.1 !=16))) (r_pick_or rfl rfl (fun hp=>(gvt (vB (v5.2.1 !=16)) (and_i rfl hp) rfl))) ?_
 try simp only [sc0,sc1]
 refine run_nil ?_
 refine norm_then ?_
 refine wp_cond_split (t:=(((((((((((v6 !=0)||(v2.2 !=0))||(v2.1 !=24))||(v3.2 !=0))||(!(strEq v3.1 (⟨#[99,104,97,114,32,91,56,93]⟩:ByteArray))))||(v4.2 !=0))||(v4.1.vType !=2))||(v4.1.vAt !=8))||(v5.2.2 !=0))||(v5.1 !=3))||(v5.2.1 !=16))) rfl (fun c1=>?_) (fun c1=>?_)
 ·replace H:=of_pos H c1
  refine wp_seq ?_
  refine region ?_
  refine rs (vB false) (r_assign rfl) ?_
  try simp only [sc0,sc1]
  refine run_nil ?_
  refine norm_then ?_
  refine wp_ret ?_
  refine ret_then ?_
  obtain rfl:=Option.some.inj H
  refine bodyPost_ret (results_1 rfl (one_tmp rfl)) rfl ?_
  exact ⟨rfl,HS11.toE⟩
 ·replace H:=of_neg H (nt c1)
  refine wp_skip ?_
  refine norm_then ?_
  refine wp_seq ?_
  refine region ?_
  refine rs (Value.agg #[vL Av1_0_0 v1.vDefs.length cv1_0_0]) (r_loadBoxAgg (n:=1) (vs:=[vL Av1_0_0 v1.vDefs.length cv1_0_0]) rfl Tryd.isAgg24 (HS11.look 2 rfl) Tryd.sizeOf24 rfl rfl) ?_
  obtain ⟨v7,H7,H⟩:=of_bind H
  refine run_eq (v:=Value.tuple #[Value.agg #[vS v7.1.vName,vI v7.1.vType,vI v7.1.vAt],vI v7.2]) rfl rfl (does_call_eq Tryd.call16 rfl rfl (ctf_Member.calls k v1 2 (⟨#[116,95,116,105,100]⟩:ByteArray) Av1_0_0 cv1_0_0 HS11.sees hrv1_0_0 hcv1_0_0 H7)) ?_
  intro w12 hE9
  have HS12:=HS11.step hE9
  refine rs (Value.tuple #[Value.agg #[vS v7.1.vName,vI v7.1.vType,vI v7.1.vAt],vI v7.2]) (r_move rfl) ?_
  refine rs (Value.agg #[vS v7.1.vName,vI v7.1.vType,vI v7.1.vAt]) (r_extract rfl rfl) ?_
  refine run_frame (by simp only [sc0,sc1];rfl) ?_
  refine rs (vI v7.2) (r_extract rfl rfl) ?_
  refine run_ex rfl rfl (does_alloc (cs:=#[vS ByteArray.empty,vI 0,vI 0]) Tryd.zeroValue36 rfl) ?_
  rintro w13 _ hE10 ⟨b4,rfl,ge3,hb3⟩
  have HS13:=HS12.new hE10 ge3 hb3
  refine run_st (i:=0) (cs:=[vS ByteArray.empty,vI 0,vI 0]) (cs':=[vS v7.1.vName,vI v7.1.vType,vI v7.1.vAt]) (vs:=[vS v7.1.vName,vI v7.1.vType,vI v7.1.vAt]) (bs':=[(some b4, .cells #[vS v7.1.vName,vI v7.1.vType,vI v7.1.vAt] 36 (0,0)),((some b3), .cells ([vS (⟨#[116,95,110,97,109,101]⟩:ByteArray)]).toArray 9 (0,0)),(some b2, .cells #[vS v4.1.vName,vI v4.1.vType,vI v4.1.vAt] 36 (0,0)),(some b1, .cells #[vL Av1_0_0 v1.vDefs.length cv1_0_0] 24 (0,0))]) rfl rfl Tryd.sizeOf36 rfl rfl (by decide) rfl HS13 rfl (Nat.le_of_ble_eq_true rfl) rfl rfl ?_
  intro w14 HS14
  refine rs (vI v7.2) (r_assign rfl) ?_
  try simp only [sc0,sc1]
  refine run_nil ?_
  refine norm_then ?_
  refine wp_seq ?_
  refine region ?_
  refine run_bs0 k_api_Def Tryd.runUnderlying22 Tryd.typeInfo34 HS14 ?_
  intro w15 b5 HS15 ho2
  refine rs (vP b1 0) (r_fieldBox (n:=1) (o':=0) rfl Tryd.runUnderlying24 rfl Tryd.sizeOf22 (by decide) rfl) ?_
  refine rs (vL Av1_0_0 v1.vDefs.length cv1_0_0) (r_loadBox rfl Tryd.isAgg22 (HS15.look 4 rfl) rfl) ?_
  obtain ⟨nw1,sr1,hn1⟩:=src_rd (c:=cv1_0_0) one_api_Def Tryd.runUnderlying22 HS15.sees hrv1_0_0
  obtain ⟨hl2,H⟩:=of_ite H
  refine run_app k_api_Def (q:=0) (cs:=([]:List Value)) rfl rfl Tryd.runUnderlying22 Tryd.typeInfo34 Tryd.zeroValue34 rfl (by decide) rfl sr1 rfl hn1 hl2 HS15 rfl ho2 ?_
  intro w16 ob1 c2 cs1 HS16 ho3
  refine run_frame (by simp only [sc0,sc1];rfl) ?_
  refine rs (Value.agg #[vI 2,vS ByteArray.empty,vI 0,vB false,vI 1,vI 0,vL none 0 0]) (r_build (cs:=[vI 2,vS ByteArray.empty,vI 0,vB false,vI 1,vI 0,vL none 0 0]) (ps:=[(0,vI 2),(3,vI 1)]) Tryd.zeroValue34 Tryd.runUnderlying34 (pl:=#[(0,1),(1,1),(2,2),(4,1),(5,1),(6,1)]) (fun w=>by simp [Tryd.sizeOf3,Tryd.sizeOf31,Tryd.sizeOf32,Tryd.sizeOf9]) (parts_2 (show _=vI 2 from rfl) (show _=vI 1 from rfl)) rfl) ?_
  refine run_bs k_api_Def (xs:=([(⟨2,ByteArray.empty,(⟨0,false⟩:api_Int),1,0,[]⟩:api_Def)]:List api_Def)) (n:=1) (cs:=[vI 2,vS ByteArray.empty,vI 0,vB false,vI 1,vI 0,vL none 0 0]) Tryd.runUnderlying22 Tryd.typeInfo34 Tryd.zeroValue34 rfl rfl (by decide) (by decide) (by decide) [Value.agg #[vI 2,vS ByteArray.empty,vI 0,vB false,vI 1,vI 0,vL none 0 0]] (parts_any.trans rfl) rfl rfl rfl rfl (elems_cons (qs:=[vI 2,vS ByteArray.empty,vI 0,vB false,vI 1,vI 0,vL none 0 0]) ⟨[vI 2],[vS ByteArray.empty,vI 0,vB false,vI 1,vI 0,vL none 0 0],rfl,rfl,⟨[vS ByteArray.empty],[vI 0,vB false,vI 1,vI 0,vL none 0 0],rfl,rfl,⟨[vI 0,vB false],[vI 1,vI 0,vL none 0 0],rfl,⟨[vI 0],[vB false],rfl,rfl,rfl⟩,⟨[vI 1],[vI 0,vL none 0 0],rfl,rfl,⟨[vI 0],[vL none 0 0],rfl,rfl,⟨none,0,rfl,(Nat.le_refl 0),(Rd.nil _ _ _)⟩⟩⟩⟩⟩⟩ (elems_nil (cs:=[]))) HS16 ?_
  intro w17 b6 HS17 ho4
  obtain ⟨hl3,H⟩:=of_ite H
  refine run_app k_api_Def (q:=1) (cs:=cs1) rfl rfl Tryd.runUnderlying22 Tryd.typeInfo34 Tryd.zeroValue34 rfl (by decide) rfl (src_row Tryd.runUnderlying22 HS17 (i:=0) rfl ho4 rfl) ho4.len (src_row_elems ho4) hl3 HS17 rfl ho3 ?_
  intro w18 ob2 c3 cs2 HS18 ho5
  refine rs (Value.agg #[vL (rowA ob2) ((0+v1.vDefs.length)+1) c3]) (r_build (cs:=[vL (rowA ob2) ((0+v1.vDefs.length)+1) c3]) (ps:=[(0,vL (rowA ob2) ((0+v1.vDefs.length)+1) c3)]) Tryd.zeroValue24 Tryd.runUnderlying24 (pl:=#[(0,1)]) (fun w=>by simp [Tryd.sizeOf22]) (parts_1 (show _=vL (rowA ob2) ((0+v1.vDefs.length)+1) c3 from rfl)) rfl) ?_
  refine run_frame (by simp only [sc0,sc1];rfl) ?_
  refine run_ex rfl rfl (does_alloc (cs:=#[vL none 0 0]) Tryd.zeroValue24 rfl) ?_
  rintro w19 _ hE11 ⟨b7,rfl,ge4,hb4⟩
  have HS19:=HS18.new hE11 ge4 hb4
  refine run_st (i:=0) (cs:=[vL none 0 0]) (cs':=[vL (rowA ob2) ((0+v1.vDefs.length)+1) c3]) (vs:=[vL (rowA ob2) ((0+v1.vDefs.length)+1) c3]) (bs':=[(some b7, .cells #[vL (rowA ob2) ((0+v1.vDefs.length)+1) c3] 24 (0,0)),((some b6), .cells ([vI 2,vS ByteArray.empty,vI 0,vB false,vI 1,vI 0,vL none 0 0]).toArray 34 (0,0)),(ob2, .cells (cs2).toArray 34 (0,0)),(some b4, .cells #[vS v7.1.vName,vI v7.1.vType,vI v7.1.vAt] 36 (0,0)),((some b3), .cells ([vS (⟨#[116,95,110,97,109,101]⟩:ByteArray)]).toArray 9 (0,0)),(some b2, .cells #[vS v4.1.vName,vI v4.1.vType,vI v4.1.vAt] 36 (0,0)),(some b1, .cells #[vL Av1_0_0 v1.vDefs.length cv1_0_0] 24 (0,0))]) rfl rfl Tryd.sizeOf24 rfl rfl (by decide) rfl HS19 rfl (Nat.le_of_ble_eq_true rfl) rfl rfl ?_
  intro w20 HS20
  try simp only [sc0,sc1]
  refine run_nil ?_
  refine norm_then ?_
  refine wp_seq ?_
  refine region ?_
  refine rs (Value.agg #[vL (rowA ob2) ((0+v1.vDefs.length)+1) c3]) (r_loadBoxAgg (n:=1) (vs:=[vL (rowA ob2) ((0+v1.vDefs.length)+1) c3]) rfl Tryd.isAgg24 (HS20.look 0 rfl) Tryd.sizeOf24 rfl rfl) ?_
  have HS21:St [] h0 w0 h1 [(some b7, .cells #[vL (rowA ob2) (((([]:List api_Def)++v1.vDefs)++([(⟨2,ByteArray.empty,(⟨0,false⟩:api_Int),1,0,[]⟩:api_Def)]:List api_Def)).length) c3] 24 (0,0)),((some b6), .cells ([vI 2,vS ByteArray.empty,vI 0,vB false,vI 1,vI 0,vL none 0 0]).toArray 34 (0,0)),(ob2, .cells (cs2).toArray 34 (0,0)),(some b4, .cells #[vS v7.1.vName,vI v7.1.vType,vI v7.1.vAt] 36 (0,0)),((some b3), .cells ([vS (⟨#[116,95,110,97,109,101]⟩:ByteArray)]).toArray 9 (0,0)),(some b2, .cells #[vS v4.1.vName,vI v4.1.vType,vI v4.1.vAt] 36 (0,0)),(some b1, .cells #[vL Av1_0_0 v1.vDefs.length cv1_0_0] 24 (0,0))] w20:=HS20.cast (by first|rfl|(rw [ho5.len];done)|(rw [ho5.len];rfl))
  have ho6:=ho5.norm
  try rw [←ho5.len]
  obtain ⟨h2,HS22,hs2,rdp1⟩:=row_pub HS21 (i:=2) rfl ho6
  have HS23:St [] h0 w0 h2 [(some b7, .cells #[vL (rowA ob2) ((([]:List api_Def)++v1.vDefs)++([(⟨2,ByteArray.empty,(⟨0,false⟩:api_Int),1,0,[]⟩:api_Def)]:List api_Def)).length c3] 24 (0,0)),((some b6), .cells ([vI 2,vS ByteArray.empty,vI 0,vB false,vI 1,vI 0,vL none 0 0]).toArray 34 (0,0)),(some b4, .cells #[vS v7.1.vName,vI v7.1.vType,vI v7.1.vAt] 36 (0,0)),((some b3), .cells ([vS (⟨#[116,95,110,97,109,101]⟩:ByteArray)]).toArray 9 (0,0)),(some b2, .cells #[vS v4.1.vName,vI v4.1.vType,vI v4.1.vAt] 36 (0,0)),(some b1, .cells #[vL Av1_0_0 v1.vDefs.length cv1_0_0] 24 (0,0))] w20:=HS22
  replace hrv1_0_0:Rd k_api_Def h2 Av1_0_0 v1.vDefs:=hrv1_0_0.ext hs2
  replace ho4:=ho4.view hs2
  replace ho1:=ho1.view hs2
  obtain ⟨v8,H8,H⟩:=of_bind H
  refine run_ex rfl rfl (does_call Tryd.call28 rfl (gives_in (h:=h2) (R:=(fun hx u=>∃(Av8_0_0:Option Addr) (cv8_0_0:Nat),∃(Av8_1_0:Option Addr) (cv8_1_0:Nat),u=Value.tuple #[Value.agg #[vL Av8_0_0 v8.1.vDefs.length cv8_0_0],vL Av8_1_0 v8.2.1.length cv8_1_0,vI v8.2.2]∧v8.1.vDefs.length≤cv8_0_0∧Rd k_api_Def hx Av8_0_0 v8.1.vDefs∧v8.2.1.length≤cv8_1_0∧Rd (Kd.int .i64) hx Av8_1_0 v8.2.1)) (Ext.rfl' w20) ((ctf_Unique.calls k (⟨((([]:List api_Def)++v1.vDefs)++([(⟨2,ByteArray.empty,(⟨0,false⟩:api_Int),1,0,[]⟩:api_Def)]:List api_Def))⟩:api_Types) (rowA ob2) c3 HS23.sees (ht.s HS23) rdp1 ho6.cap H8).mono ?_)) rfl) ?_
  ·rintro _ _ ⟨h1,Av8_0_0,cv8_0_0,Av8_1_0,cv8_1_0,rfl,hcv8_0_0,hrv8_0_0,hcv8_1_0,hrv8_1_0,g,ss,x⟩
   exact ⟨h1,_,rfl,⟨Av8_0_0,cv8_0_0,Av8_1_0,cv8_1_0,rfl,hcv8_0_0,hrv8_0_0,hcv8_1_0,hrv8_1_0⟩,g,ss,x⟩
  rintro w21 _ hE12 ⟨h3,⟨Av8_0_0,cv8_0_0,Av8_1_0,cv8_1_0,rfl,hcv8_0_0,hrv8_0_0,hcv8_1_0,hrv8_1_0⟩,gr2,se3⟩
  have HS24:=HS23.view hE12 gr2 se3
  replace hrv1_0_0:Rd k_api_Def h3 Av1_0_0 v1.vDefs:=hrv1_0_0.ext gr2.1
  replace rdp1:Rd k_api_Def h3 (rowA ob2) ((([]:List api_Def)++v1.vDefs)++([(⟨2,ByteArray.empty,(⟨0,false⟩:api_Int),1,0,[]⟩:api_Def)]:List api_Def)):=rdp1.ext gr2.1
  replace ho4:=ho4.view gr2.1
  replace ho1:=ho1.view gr2.1
  refine rs (Value.tuple #[Value.agg #[vL Av8_0_0 v8.1.vDefs.length cv8_0_0],vL Av8_1_0 v8.2.1.length cv8_1_0,vI v8.2.2]) (r_move rfl) ?_
  refine rs (Value.agg #[vL Av8_0_0 v8.1.vDefs.length cv8_0_0]) (r_extract rfl rfl) ?_
  refine run_frame (by simp only [sc0,sc1];rfl) ?_
  refine rs (vL Av8_1_0 v8.2.1.length cv8_1_0) (r_extract rfl rfl) ?_
  refine rs (vI v8.2.2) (r_extract rfl rfl) ?_
  refine run_ex rfl rfl (does_alloc (cs:=#[vL none 0 0]) Tryd.zeroValue24 rfl) ?_
  rintro w22 _ hE13 ⟨b8,rfl,ge5,hb5⟩
  have HS25:=HS24.new hE13 ge5 hb5
  refine run_st (i:=0) (cs:=[vL none 0 0]) (cs':=[vL Av8_0_0 v8.1.vDefs.length cv8_0_0]) (vs:=[vL Av8_0_0 v8.1.vDefs.length cv8_0_0]) (bs':=[(some b8, .cells #[vL Av8_0_0 v8.1.vDefs.length cv8_0_0] 24 (0,0)),(some b7, .cells #[vL (rowA ob2) ((([]:List api_Def)++v1.vDefs)++([(⟨2,ByteArray.empty,(⟨0,false⟩:api_Int),1,0,[]⟩:api_Def)]:List api_Def)).length c3] 24 (0,0)),((some b6), .cells ([vI 2,vS ByteArray.empty,vI 0,vB false,vI 1,vI 0,vL none 0 0]).toArray 34 (0,0)),(some b4, .cells #[vS v7.1.vName,vI v7.1.vType,vI v7.1.vAt] 36 (0,0)),((some b3), .cells ([vS (⟨#[116,95,110,97,109,101]⟩:ByteArray)]).toArray 9 (0,0)),(some b2, .cells #[vS v4.1.vName,vI v4.1.vType,vI v4.1.vAt] 36 (0,0)),(some b1, .cells #[vL Av1_0_0 v1.vDefs.length cv1_0_0] 24 (0,0))]) rfl rfl Tryd.sizeOf24 rfl rfl (by decide) rfl HS25 rfl (Nat.le_of_ble_eq_true rfl) rfl rfl ?_
  intro w23 HS26
  refine run_frame (by simp only [sc0,sc1];rfl) ?_
  refine rs (vL Av8_1_0 v8.2.1.length cv8_1_0) (r_assign rfl) ?_
  refine rs (vI v8.2.2) (r_assign rfl) ?_
  try simp only [sc0,sc1]
  refine run_nil ?_
  refine norm_then ?_
  refine wp_seq ?_
  refine region ?_
  refine rs (Value.agg #[vL none 0 0]) (r_build0 (cs:=[vL none 0 0]) Tryd.zeroValue24 Tryd.runUnderlying24 (pl:=#[(0,1)]) (fun w=>by simp [Tryd.sizeOf22]) rfl) ?_
  obtain ⟨v9,H9,H⟩:=of_bind H
  refine run_ex rfl rfl (does_call Tryd.call37 rfl (gives_in (h:=h3) (R:=(fun hx u=>∃(Av9_0_0:Option Addr) (cv9_0_0:Nat),u=Value.tuple #[vL Av9_0_0 v9.1.length cv9_0_0,vI v9.2]∧v9.1.length≤cv9_0_0∧Rd (Kd.int .u8) hx Av9_0_0 v9.1)) (Ext.rfl' w23) ((ctf_Encode.calls k (⟨[]⟩:api_Types) none 0 HS26.sees (Rd.nil _ _ _) (Nat.le_refl 0) H9).mono ?_)) rfl) ?_
  ·rintro _ _ ⟨h1,Av9_0_0,cv9_0_0,rfl,hcv9_0_0,hrv9_0_0,g,ss,x⟩
   exact ⟨h1,_,rfl,⟨Av9_0_0,cv9_0_0,rfl,hcv9_0_0,hrv9_0_0⟩,g,ss,x⟩
  rintro w24 _ hE14 ⟨h4,⟨Av9_0_0,cv9_0_0,rfl,hcv9_0_0,hrv9_0_0⟩,gr3,se4⟩
  have HS27:=HS26.view hE14 gr3 se4
  replace hrv1_0_0:Rd k_api_Def h4 Av1_0_0 v1.vDefs:=hrv1_0_0.ext gr3.1
  replace rdp1:Rd k_api_Def h4 (rowA ob2) ((([]:List api_Def)++v1.vDefs)++([(⟨2,ByteArray.empty,(⟨0,false⟩:api_Int),1,0,[]⟩:api_Def)]:List api_Def)):=rdp1.ext gr3.1
  replace hrv8_0_0:Rd k_api_Def h4 Av8_0_0 v8.1.vDefs:=hrv8_0_0.ext gr3.1
  replace hrv8_1_0:Rd (Kd.int .i64) h4 Av8_1_0 v8.2.1:=hrv8_1_0.ext gr3.1
  replace ho4:=ho4.view gr3.1
  replace ho1:=ho1.view gr3.1
  refine rs (Value.tuple #[vL Av9_0_0 v9.1.length cv9_0_0,vI v9.2]) (r_move rfl) ?_
  refine rs (vL Av9_0_0 v9.1.length cv9_0_0) (r_extract rfl rfl) ?_
  refine run_frame (by simp only [sc0,sc1];rfl) ?_
  refine rs (vI v9.2) (r_extract rfl rfl) ?_
  refine rs (vL Av9_0_0 v9.1.length cv9_0_0) (r_assign rfl) ?_
  refine rs (vI v9.2) (r_assign rfl) ?_
  try simp only [sc0,sc1]
  refine run_nil ?_
  refine norm_then ?_
  refine wp_seq ?_
  refine region ?_
  refine rs (vI v7.2) (r_move rfl) ?_
  refine rs (vB (v7.2==5)) (r_bin rfl rfl rfl) ?_
  refine rs (vB (v7.2==5)) (r_move rfl) ?_
  refine rgs (v7.2==5) true (vI v8.2.2) rfl rfl rfl rfl (fun hg=>(r_move rfl)) ?_
  refine run_frame (by simp only [sc0,sc1];rfl) ?_
  refine rgs (v7.2==5) true (vB (v8.2.2==0)) rfl rfl rfl rfl (fun hg=>(r_bin (gvt (vI v8.2.2) hg rfl) rfl rfl)) ?_
  refine rs (vB ((v7.2==5)&&(v8.2.2==0))) (r_pick_and rfl (fun hp=>(gvt (vB (v8.2.2==0)) (and_i rfl hp) rfl)) rfl) ?_
  refine rs (vB ((v7.2==5)&&(v8.2.2==0))) (r_move rfl) ?_
  refine rgs ((v7.2==5)&&(v8.2.2==0)) true (Value.agg #[vL Av8_0_0 v8.1.vDefs.length cv8_0_0]) rfl rfl rfl rfl (fun hg=>(r_loadBoxAgg (n:=1) (vs:=[vL Av8_0_0 v8.1.vDefs.length cv8_0_0]) rfl Tryd.isAgg24 (HS27.look 0 rfl) Tryd.sizeOf24 rfl rfl)) ?_
  refine run_frame (by simp only [sc0,sc1];rfl) ?_
  refine rgs ((v7.2==5)&&(v8.2.2==0)) true (Value.agg #[vL Av1_0_0 v1.vDefs.length cv1_0_0]) rfl rfl rfl rfl (fun hg=>(r_loadBoxAgg (n:=1) (vs:=[vL Av1_0_0 v1.vDefs.length cv1_0_0]) rfl Tryd.isAgg24 (HS27.look 6 rfl) Tryd.sizeOf24 rfl rfl)) ?_
  obtain ⟨v10,H10,H⟩:=of_bind H
  refine run_g (b:=((v7.2==5)&&(v8.2.2==0))) (c:=true) (v:=vB v10) rfl rfl rfl rfl (fun hg=>(does_call_eq Tryd.call30 rfl (map2 (gvt (Value.agg #[vL Av8_0_0 v8.1.vDefs.length cv8_0_0]) hg rfl) (gvt (Value.agg #[vL Av1_0_0 v1.vDefs.length cv1_0_0]) hg rfl)) (taplineref08_Same.calls k v8.1 v1 Av8_0_0 cv8_0_0 Av1_0_0 cv1_0_0 HS27.sees hrv8_0_0 hcv8_0_0 hrv1_0_0 hcv1_0_0 (of_pos H10 hg)))) ?_
  intro w25 hE15
  have HS28:=HS27.step hE15
  refine rs (vB (((v7.2==5)&&(v8.2.2==0))&&v10)) (r_pick_and rfl (fun hp=>(gvt (vB v10) (and_i rfl hp) rfl)) rfl) ?_
  refine rs (vB (((v7.2==5)&&(v8.2.2==0))&&v10)) (r_move rfl) ?_
  refine run_frame (by simp only [sc0,sc1];rfl) ?_
  refine rgs (((v7.2==5)&&(v8.2.2==0))&&v10) true (vL Av8_1_0 v8.2.1.length cv8_1_0) rfl rfl rfl rfl (fun hg=>(r_move rfl)) ?_
  refine run_gbs (b:=(((v7.2==5)&&(v8.2.2==0))&&v10)) (c:=true) (Kd.int .i64) (xs:=([0,1,2,3,4,2]:List Int)) (n:=6) (cs:=[vI 0,vI 1,vI 2,vI 3,vI 4,vI 2]) rfl rfl Tryd.runUnderlying62 Tryd.typeInfo3 Tryd.zeroValue3 rfl rfl (by decide) (by decide) (by decide) [vI 0,vI 1,vI 2,vI 3,vI 4,vI 2] (fun _=>parts_any.trans rfl) rfl rfl rfl rfl (elems_cons (qs:=[vI 0]) rfl (elems_cons (qs:=[vI 1]) rfl (elems_cons (qs:=[vI 2]) rfl (elems_cons (qs:=[vI 3]) rfl (elems_cons (qs:=[vI 4]) rfl (elems_cons (qs:=[vI 2]) rfl (elems_nil (cs:=[])))))))) HS28 ?_
  intro w26 h5 Ag1 HS29 hs3 hq1
  replace hrv1_0_0:Rd k_api_Def h5 Av1_0_0 v1.vDefs:=hrv1_0_0.ext (And.intro hs3 trivial).1
  replace rdp1:Rd k_api_Def h5 (rowA ob2) ((([]:List api_Def)++v1.vDefs)++([(⟨2,ByteArray.empty,(⟨0,false⟩:api_Int),1,0,[]⟩:api_Def)]:List api_Def)):=rdp1.ext (And.intro hs3 trivial).1
  replace hrv8_0_0:Rd k_api_Def h5 Av8_0_0 v8.1.vDefs:=hrv8_0_0.ext (And.intro hs3 trivial).1
  replace hrv8_1_0:Rd (Kd.int .i64) h5 Av8_1_0 v8.2.1:=hrv8_1_0.ext (And.intro hs3 trivial).1
  replace hrv9_0_0:Rd (Kd.int .u8) h5 Av9_0_0 v9.1:=hrv9_0_0.ext (And.intro hs3 trivial).1
  replace ho4:=ho4.view (And.intro hs3 trivial).1
  replace ho1:=ho1.view (And.intro hs3 trivial).1
  obtain ⟨v11,H11,H⟩:=of_bind H
  refine run_g (b:=(((v7.2==5)&&(v8.2.2==0))&&v10)) (c:=true) (v:=vB v11) rfl rfl rfl rfl (fun hg=>(does_call_eq Tryd.call35 rfl (map2 (gvt (vL Av8_1_0 v8.2.1.length cv8_1_0) hg rfl) (gvt (vL Ag1 ([0,1,2,3,4,2]:List Int).length 6) hg rfl)) (taplineref08_SameInts.calls k v8.2.1 ([0,1,2,3,4,2]:List Int) Av8_1_0 cv8_1_0 Ag1 6 HS29.sees hrv8_1_0 hcv8_1_0 ((hq1 hg)) ((Nat.le_refl _)) (of_pos H11 hg)))) ?_
  intro w27 hE16
  have HS30:=HS29.step hE16
  refine rs (vB ((((v7.2==5)&&(v8.2.2==0))&&v10)&&v11)) (r_pick_and rfl (fun hp=>(gvt (vB v11) (and_i rfl hp) rfl)) rfl) ?_
  refine run_frame (by simp only [sc0,sc1];rfl) ?_
  refine rs (vB ((((v7.2==5)&&(v8.2.2==0))&&v10)&&v11)) (r_move rfl) ?_
  refine rgs ((((v7.2==5)&&(v8.2.2==0))&&v10)&&v11) true (vI v9.2) rfl rfl rfl rfl (fun hg=>(r_move rfl)) ?_
  refine rgs ((((v7.2==5)&&(v8.2.2==0))&&v10)&&v11) true (vB (v9.2==0)) rfl rfl rfl rfl (fun hg=>(r_bin (gvt (vI v9.2) hg rfl) rfl rfl)) ?_
  refine rs (vB (((((v7.2==5)&&(v8.2.2==0))&&v10)&&v11)&&(v9.2==0))) (r_pick_and rfl (fun hp=>(gvt (vB (v9.2==0)) (and_i rfl hp) rfl)) rfl) ?_
  refine run_frame (by simp only [sc0,sc1];rfl) ?_
  refine rs (vB (((((v7.2==5)&&(v8.2.2==0))&&v10)&&v11)&&(v9.2==0))) (r_move rfl) ?_
  refine rgs (((((v7.2==5)&&(v8.2.2==0))&&v10)&&v11)&&(v9.2==0)) true (vL Av9_0_0 v9.1.length cv9_0_0) rfl rfl rfl rfl (fun hg=>(r_move rfl)) ?_
  refine rgs (((((v7.2==5)&&(v8.2.2==0))&&v10)&&v11)&&(v9.2==0)) true (vS (strOf v9.1)) rfl rfl rfl rfl (fun hg=>(r_b2s (gvt (vL Av9_0_0 v9.1.length cv9_0_0) hg rfl) Tryd.runUnderlying80 Tryd.runUnderlying9 Tryd.runUnderlying5 HS30.sees hrv9_0_0)) ?_
  refine rgs (((((v7.2==5)&&(v8.2.2==0))&&v10)&&v11)&&(v9.2==0)) true (vB (strEq (strOf v9.1) (⟨#[67,84,70,1,0]⟩:ByteArray))) rfl rfl rfl rfl (fun hg=>(r_streql (gvt (vS (strOf v9.1)) hg rfl) rfl)) ?_
  refine run_frame (by simp only [sc0,sc1];rfl) ?_
  refine rs (vB ((((((v7.2==5)&&(v8.2.2==0))&&v10)&&v11)&&(v9.2==0))&&(strEq (strOf v9.1) (⟨#[67,84,70,1,0]⟩:ByteArray)))) (r_pick_and rfl (fun hp=>(gvt (vB (strEq (strOf v9.1) (⟨#[67,84,70,1,0]⟩:ByteArray))) (and_i rfl hp) rfl)) rfl) ?_
  refine rs (vB ((((((v7.2==5)&&(v8.2.2==0))&&v10)&&v11)&&(v9.2==0))&&(strEq (strOf v9.1) (⟨#[67,84,70,1,0]⟩:ByteArray)))) (r_assign rfl) ?_
  try simp only [sc0,sc1]
  refine run_nil ?_
  refine norm_then ?_
  refine wp_ret ?_
  obtain rfl:=Option.some.inj H
  refine bodyPost_ret (results_1 rfl (one_tmp rfl)) rfl ?_
  exact ⟨rfl,HS30.toE⟩

end Go.Proofs.YtfjppgobidjndaaDoor
namespace Go.Proofs.YtfjppgobidjndaaDoor
open Go.RowKit Go.M
set_option maxRecDepth 100000 in
theorem sane_at (k:Nat):taplinelaw08_sane.f (k+60)=some true:=by kernel_rfl
theorem sane_ev:Ev (fun k=>taplinelaw08_sane.f k) true:=⟨60,fun k hk=>by
  obtain ⟨m,rfl⟩:∃m,k=m+60:=⟨k-60,by omega⟩
  exact sane_at m⟩
end Go.Proofs.YtfjppgobidjndaaDoor
namespace Go.Proofs.YtfjppgobidjndaaDoor
open Go.RowKit Go.M
structure GoodSz (defs:List api_Def) (g:List Int):Prop where
  len:g.length=defs.length
  ex:∃rk:Nat→Nat,∀j,j<defs.length→0<g.getD j 0∧g.getD j 0≤512∧(∀c∈cont (defs.getD j z_api_Def),rk c.toNat<rk j)∧g.getD j 0=nval (defs.getD j z_api_Def) (inner g (defs.getD j z_api_Def))
theorem GoodT.good {t:api_Types} {l:List Int} (G:GoodT t l):GoodSz t.vDefs l:=by
  refine ⟨G.len,?_⟩
  obtain ⟨rk,B,h⟩:=G.jn
  exact ⟨rk,fun j hj=>by
    obtain ⟨h1,h2,h3,h4⟩:=h j hj (G.pos j hj)
    exact ⟨G.pos j hj,h2,fun c hc=>(h3 c hc).2,h4⟩⟩
section
variable {defs:List api_Def} {g:List Int} {rk:Nat→Nat}
structure Mid (defs:List api_Def) (g:List Int) (out:List Int) (bg:List Bool) (out':List Int) (bg':List Bool):Prop where
  lo:out'.length=defs.length
  lb:bg'.length=defs.length
  val:∀j,j<defs.length→out'.getD j 0=0∨out'.getD j 0=g.getD j 0
  keep:∀j,0<out.getD j 0→out'.getD j 0=out.getD j 0
  stk:∀j,bg'.getD j false=true→out'.getD j 0=0→bg.getD j false=true∧out.getD j 0=0
theorem Mid.trans {o1 o2 o3:List Int} {b1 b2 b3:List Bool} (h:Mid defs g o1 b1 o2 b2) (k:Mid defs g o2 b2 o3 b3):Mid defs g o1 b1 o3 b3:=
  ⟨k.lo,k.lb,k.val,fun j hj=>by rw [k.keep j (by rw [h.keep j hj];exact hj),h.keep j hj],fun j hb ho=>by
    obtain ⟨h1,h2⟩:=k.stk j hb ho
    exact h.stk j h1 h2⟩
def CallG (defs:List api_Def) (g:List Int) (i:Nat) (out:List Int) (bg:List Bool):Prop:=∃out' bg',Ev (fun k=>ctf_sizes_1.f k (i:Int) out true bg defs) (g.getD i 0,out',true,bg')∧Mid defs g out bg out' bg'∧out'.getD i 0=g.getD i 0
theorem good_loop {R:Nat} (v1:List Int) (hv:∀c∈v1,0≤c∧c<(defs.length:Int)) (hvl:v1.length≤9223372036854775807) (hr:∀c∈v1,rk c.toNat<R)
    (hc:∀(i:Nat) (out:List Int) (bg:List Bool),i<defs.length→rk i<R→out.length=defs.length→bg.length=defs.length→(∀j,j<defs.length→out.getD j 0=0∨out.getD j 0=g.getD j 0)→(∀j,bg.getD j false=true→out.getD j 0=0→rk i<rk j)→CallG defs g i out bg):
    ∀(e j:Nat) (inn:Int) (out:List Int) (bg:List Bool),j+e=v1.length→out.length=defs.length→bg.length=defs.length→(∀j,j<defs.length→out.getD j 0=0∨out.getD j 0=g.getD j 0)→(∀j,bg.getD j false=true→out.getD j 0=0→R≤rk j)→
    ∃out' bg',(∃K,∀k m,K≤k→K≤m→ctf_sizes_1.l0 (ctf_sizes_1.f k) defs v1 m inn (j:Int) true out bg=some ((v1.drop j).foldl (fun _ c=>g.getD c.toNat 0) inn,true,out',bg'))∧Mid defs g out bg out' bg':=by
  intro e
  induction e with
  |zero=>
    intro j inn out bg hj h1 h2 h3 h4
    refine ⟨out,bg,⟨1,fun k m _ hm=>?_⟩,h1,h2,h3,fun _ _=>rfl,fun j a b=>⟨a,b⟩⟩
    obtain ⟨m,rfl⟩:∃q,m=q+1:=⟨m-1,by omega⟩
    rw [ctf_sizes_1.l0,if_neg (by simp;omega),List.drop_eq_nil_of_le (by omega)]
    rfl
  |succ e ih=>
    intro j inn out bg hj h1 h2 h3 h4
    have hlt:j<v1.length:=by omega
    have hmem:=getD_mem (z:=0) hlt
    have hm:=hv _ hmem
    obtain ⟨i,hi⟩:∃i:Nat,v1.getD j 0=(i:Int):=⟨(v1.getD j 0).toNat,by omega⟩
    have hri:rk i<R:=by have:=hr _ hmem;rw [hi] at this;exact this
    obtain ⟨o1,b1,⟨K1,hK1⟩,hM1,hv1⟩:=hc i out bg (by omega) hri h1 h2 h3 (fun q a b=>by have:=h4 q a b;omega)
    obtain ⟨o2,b2,⟨K2,hK2⟩,hM2⟩:=ih (j+1) (g.getD i 0) o1 b1 (by omega) hM1.lo hM1.lb hM1.val (fun q a b=>by
      obtain ⟨x,y⟩:=hM1.stk q a b
      exact h4 q x y)
    refine ⟨o2,b2,⟨max K1 K2+1,fun k m hk hm'=>?_⟩,hM1.trans hM2⟩
    obtain ⟨m,rfl⟩:∃q,m=q+1:=⟨m-1,by omega⟩
    rw [ctf_sizes_1.l0,if_pos (by simp;omega),if_pos (by omega),rd_nat,hi,show ctf_sizes_1.f k _ _ _ _ _=_ from hK1 k (by omega)]
    simp only [Option.bind_some]
    rw [wrap_nat hlt hvl,drop_getD 0 hlt,hi]
    exact hK2 k m (by omega) (by omega)
theorem cont_few {d:api_Def} {n:Nat} (hd:ShD d n):(cont d).length≤9223372036854775807:=by
  have:=hd.few
  unfold cont
  split
  · simp
  · split
    · rw [List.length_map];omega
    · simp
theorem good_call (hS:∀d∈defs,ShD d defs.length) (hg:∀j,j<defs.length→0<g.getD j 0∧g.getD j 0≤512∧(∀c∈cont (defs.getD j z_api_Def),rk c.toNat<rk j)∧g.getD j 0=nval (defs.getD j z_api_Def) (inner g (defs.getD j z_api_Def))):
    ∀(R i:Nat) (out:List Int) (bg:List Bool),rk i=R→i<defs.length→out.length=defs.length→bg.length=defs.length→(∀j,j<defs.length→out.getD j 0=0∨out.getD j 0=g.getD j 0)→(∀j,bg.getD j false=true→out.getD j 0=0→rk i<rk j)→CallG defs g i out bg:=by
  intro R
  induction R using Nat.strongRecOn with
  |_ R ihR=>
    intro i out bg hR hi h1 h2 h3 h4
    obtain ⟨g1,g2,g3,g4⟩:=hg i hi
    rcases h3 i hi with h0|h0
    · have hb:bg.getD i false=false:=by
        cases hb:bg.getD i false with
        |false=>rfl
        |true=>exact absurd (h4 i hb h0) (by omega)
      have hd:=hS _ (getD_mem (z:=z_api_Def) hi)
      obtain ⟨Kc,hKc⟩:=contained_ev (d:=defs.getD i z_api_Def) (by have:=hd.few;omega)
      obtain ⟨o1,b1,⟨K1,hK1⟩,hM⟩:=good_loop (defs:=defs) (g:=g) (rk:=rk) (R:=R) (cont (defs.getD i z_api_Def)) (cont_range hd) (cont_few hd) (fun c hc=>by have:=g3 c hc;omega)
        (fun i' o b a1 a2 a3 a4 a5 a6=>ihR (rk i') a2 i' o b rfl a1 a3 a4 a5 a6) (cont (defs.getD i z_api_Def)).length 0 0 out (bg.set i true) (by omega) h1 (by simpa using h2) h3 (fun j a b=>by
          rw [getD_set (by omega)] at a
          split at a
          · next e=>subst e;omega
          · have:=h4 j a b;omega)
      rw [List.drop_zero] at hK1
      have hset:∀j,(o1.set i (g.getD i 0)).getD j 0=if i=j then g.getD i 0 else o1.getD j 0:=fun j=>getD_set (by rw [hM.lo];exact hi)
      refine ⟨o1.set i (g.getD i 0),b1,⟨max Kc K1+1,fun k hk=>?_⟩,⟨by simp [hM.lo],hM.lb,fun j hj=>?_,fun j hj=>?_,fun j hb' ho=>?_⟩,by rw [hset,if_pos rfl]⟩
      · obtain ⟨k,rfl⟩:∃q,k=q+1:=⟨k-1,by omega⟩
        show ctf_sizes_1.f (k+1) _ _ _ _ _=_
        rw [ctf_sizes_1.f,if_pos (by omega),rd_nat,if_neg (by simp only [Bool.not_true,Bool.or_false,decide_eq_true_eq];omega),if_pos (by omega),rd_nat,if_neg (by rw [hb];simp),if_pos (by omega),if_pos (by omega),rd_nat,show ctf_contained.f k _=_ from hKc k (by omega)]
        simp only [Option.bind_some,Int.toNat_natCast]
        rw [show ctf_sizes_1.l0 (ctf_sizes_1.f k) defs _ k 0 0 true out _=_ from hK1 k k (by omega) (by omega)]
        simp only [Option.bind_some]
        rw [if_pos (by rw [hM.lo];omega)]
        simp only [nval_eq]
        rw [show nval (defs.getD i z_api_Def) (List.foldl (fun x c=>g.getD c.toNat 0) 0 (cont (defs.getD i z_api_Def)))=g.getD i 0 from g4.symm,decide_eq_true g2]
        rfl
      · rw [hset]
        split
        · next e=>subst e;exact .inr rfl
        · exact hM.val j hj
      · rw [hset,if_neg (fun e=>by subst e;omega)]
        exact hM.keep j hj
      · rw [hset] at ho
        split at ho
        · omega
        · next hne=>
          obtain ⟨x,y⟩:=hM.stk j hb' ho
          rw [getD_set (by omega),if_neg hne] at x
          exact ⟨x,y⟩
    · refine ⟨out,bg,⟨1,fun k hk=>?_⟩,⟨h1,h2,h3,fun _ _=>rfl,fun j a b=>⟨a,b⟩⟩,h0⟩
      obtain ⟨k,rfl⟩:∃q,k=q+1:=⟨k-1,by omega⟩
      show ctf_sizes_1.f (k+1) _ _ _ _ _=_
      rw [ctf_sizes_1.f,if_pos (by omega),rd_nat,if_pos (by simp only [Bool.or_eq_true,decide_eq_true_eq];exact .inl (by omega)),if_pos (by omega),h0]
end
theorem list_ext {g h:List Int} (hl:g.length=h.length) (he:∀j,j<g.length→g.getD j 0=h.getD j 0):g=h:=by
  apply List.ext_getElem hl
  intro j h1 h2
  have:=he j h1
  rw [List.getD_eq_getElem?_getD,List.getD_eq_getElem?_getD,List.getElem?_eq_getElem h1,List.getElem?_eq_getElem h2] at this
  exact this
theorem good_all {t:api_Types} {g:List Int} {rk:Nat→Nat} (hS:∀d∈t.vDefs,ShD d t.vDefs.length) (hn:t.vDefs.length≤9223372036854775807)
    (hg:∀j,j<t.vDefs.length→0<g.getD j 0∧g.getD j 0≤512∧(∀c∈cont (t.vDefs.getD j z_api_Def),rk c.toNat<rk j)∧g.getD j 0=nval (t.vDefs.getD j z_api_Def) (inner g (t.vDefs.getD j z_api_Def))):
    ∀(e j:Nat) (bg:List Bool) (out:List Int),j+e=t.vDefs.length→out.length=t.vDefs.length→bg.length=t.vDefs.length→(∀q,q<t.vDefs.length→out.getD q 0=0∨out.getD q 0=g.getD q 0)→(∀q,bg.getD q false=true→out.getD q 0=0→False)→(∀q,q<j→out.getD q 0=g.getD q 0)→
    ∃bg' out',Ev2 (fun k m=>ctf_sizes.l0 k t m (j:Int) true bg out) (true,bg',out')∧out'.length=t.vDefs.length∧∀q,q<t.vDefs.length→out'.getD q 0=g.getD q 0:=by
  intro e
  induction e with
  |zero=>
    intro j bg out hj h1 h2 h3 h4 h5
    refine ⟨bg,out,Ev2.pure (fun k m=>?_),h1,fun q hq=>h5 q (by omega)⟩
    rw [ctf_sizes.l0,if_neg (by simp;omega)]
  |succ e ih=>
    intro j bg out hj h1 h2 h3 h4 h5
    have hlt:j<t.vDefs.length:=by omega
    obtain ⟨o1,b1,hE,hM,hv⟩:=good_call hS hg (rk j) j out bg rfl hlt h1 h2 h3 (fun q a b=>(h4 q a b).elim)
    obtain ⟨bg',out',hE2,h6,h7⟩:=ih (j+1) b1 o1 (by omega) hM.lo hM.lb hM.val (fun q a b=>by
      obtain ⟨x,y⟩:=hM.stk q a b
      exact h4 q x y) (fun q hq=>by
      by_cases hqj:q=j
      · subst hqj;exact hv
      · have h8:=h5 q (by omega)
        have h9:=(hg q (by omega)).1
        rw [hM.keep q (by omega),h8])
    refine ⟨bg',out',Ev2.step hE (r:=fun k m (v1:Int×List Int×Bool×List Bool)=>ctf_sizes.l0 k t m (IntKind.wrap .i64 ((j:Int)+1)) v1.2.2.1 v1.2.2.2 v1.2.1) ?_ (fun k m=>?_),h6,h7⟩
    · simp only
      rw [wrap_nat hlt hn]
      exact hE2
    · rw [ctf_sizes.l0,if_pos (by simp;omega)]
theorem sizes_good {t:api_Types} {g:List Int} (hS:∀d∈t.vDefs,ShD d t.vDefs.length) (hn:t.vDefs.length≤200) (G:GoodSz t.vDefs g):Ev (fun k=>ctf_sizes.f k t) (g,true):=by
  obtain ⟨rk,hg⟩:=G.ex
  have hrep:∀(n q:Nat),(List.replicate n (0:Int)).getD q 0=0:=fun n q=>by
    rw [List.getD_eq_getElem?_getD,List.getElem?_replicate]
    split<;>rfl
  have hrepb:∀(n q:Nat),(List.replicate n false).getD q false=false:=fun n q=>by
    rw [List.getD_eq_getElem?_getD,List.getElem?_replicate]
    split<;>rfl
  obtain ⟨bg,out,hE,h1,h2⟩:=good_all hS (by omega) hg t.vDefs.length 0 (List.replicate t.vDefs.length false) (List.replicate t.vDefs.length 0) (by omega) (by simp) (by simp) (fun q _=> .inl (hrep _ _)) (fun q a _=>by rw [hrepb] at a;cases a) (fun q hq=>by omega)
  have hog:out=g:=list_ext (by rw [h1,G.len]) (fun j hj=>h2 j (by omega))
  subst hog
  obtain ⟨K,hK⟩:=hE.diag
  refine ⟨K,fun k hk=>?_⟩
  show ctf_sizes.f k t=_
  unfold ctf_sizes.f
  rw [if_pos (by omega),if_pos (by omega)]
  simp only [Int.toNat_natCast]
  rw [show ctf_sizes.l0 k t k 0 true _ _=_ from hK k hk]
  rfl
theorem inner_ref {d:api_Def} {known:List Int} (hk:d.vKind=3∨d.vKind=6):inner known d=rd 0 known d.vRef∧cont d=[d.vRef]:=by
  have hcd:cont d=[d.vRef]:=by
    unfold cont
    rw [if_pos (by simp only [Bool.or_eq_true,beq_iff_eq];exact hk)]
  refine ⟨?_,hcd⟩
  unfold inner
  rw [hcd]
  rfl
theorem cont_kind {d:api_Def} {c:Int} (h:c∈cont d):d.vKind=3∨d.vKind=4∨d.vKind=6:=by
  unfold cont at h
  split at h
  · next h2=>simp only [Bool.or_eq_true,beq_iff_eq] at h2;omega
  · split at h
    · next h2=>simp only [beq_iff_eq] at h2;omega
    · cases h
theorem inner_congr {d:api_Def} {a b:List Int} (h:∀c∈cont d,a.getD c.toNat 0=b.getD c.toNat 0):inner a d=inner b d:=by
  unfold inner
  have key:∀(l:List Int) (z0:Int),(∀c∈l,a.getD c.toNat 0=b.getD c.toNat 0)→l.foldl (fun _ c=>a.getD c.toNat 0) z0=l.foldl (fun _ c=>b.getD c.toNat 0) z0:=by
    intro l
    induction l with
    |nil=>intro _ _;rfl
    |cons c l ih=>
      intro z0 hc
      rw [List.foldl_cons,List.foldl_cons,hc c List.mem_cons_self]
      exact ih _ (fun c hc'=>hc c (List.mem_cons_of_mem _ hc'))
  exact key _ _ h
theorem inner_rng {d:api_Def} {a:List Int} (h:∀c∈cont d,0≤a.getD c.toNat 0∧a.getD c.toNat 0≤513):0≤inner a d∧inner a d≤513:=by
  unfold inner
  have key:∀(l:List Int) (z0:Int),0≤z0∧z0≤513→(∀c∈l,0≤a.getD c.toNat 0∧a.getD c.toNat 0≤513)→0≤l.foldl (fun _ c=>a.getD c.toNat 0) z0∧l.foldl (fun _ c=>a.getD c.toNat 0) z0≤513:=by
    intro l
    induction l with
    |nil=>intro z0 h0 _;exact h0
    |cons c l ih=>
      intro z0 h0 hc
      rw [List.foldl_cons]
      exact ih _ (hc c List.mem_cons_self) (fun c hc'=>hc c (List.mem_cons_of_mem _ hc'))
  exact key _ _ (by omega) h
theorem cont_struct {d:api_Def} (e:d.vKind=4):cont d=d.vFields.map (·.vType):=by
  unfold cont
  rw [if_neg (by simp [e]),if_pos (by simp [e])]
structure Wf (t:api_Types) (l:List Int):Prop where
  few:t.vDefs.length≤200
  defs:defsS t.vDefs.length [] t.vDefs=true
  sz:GoodSz t.vDefs l
  ends:∀d∈t.vDefs,lostS t.vDefs t.vDefs.length d=false
  placed:∀d∈t.vDefs,d.vKind=4→placedS d l=true
theorem GoodT.wf {t:api_Types} {l:List Int} (G:GoodT t l):Wf t l:=⟨G.few,G.defs,G.good,G.ends,G.placed⟩
theorem Wf.sh {t:api_Types} {l:List Int} (W:Wf t l):∀d∈t.vDefs,ShD d t.vDefs.length:=defs_of _ _ W.defs
theorem Wf.good {t:api_Types} {l:List Int} (W:Wf t l):GoodT t l:=by
  obtain ⟨rk,h⟩:=W.sz.ex
  have hB:∀n,∃B,∀j,j<n→rk j<B:=by
    intro n
    induction n with
    |zero=>exact ⟨0,fun j hj=>by omega⟩
    |succ n ih=>
      obtain ⟨B,hB⟩:=ih
      refine ⟨max B (rk n+1),fun j hj=>?_⟩
      by_cases e:j=n
      · subst e;omega
      · have:=hB j (by omega);omega
  obtain ⟨B,hB⟩:=hB t.vDefs.length
  refine ⟨W.few,W.sh,sizes_good W.sh W.few W.sz,W.sz.len,⟨rk,B,fun j hj _=>?_⟩,fun q hq=>(h q hq).1,W.ends,W.placed,W.defs⟩
  obtain ⟨h1,h2,h3,h4⟩:=h j hj
  refine ⟨hB j hj,h2,fun c hc=>⟨?_,h3 c hc⟩,h4⟩
  have:=cont_range (W.sh _ (getD_mem (z:=z_api_Def) hj)) c hc
  exact (h c.toNat (by omega)).1
theorem valid_wf {t:api_Types} {l:List Int} (hF:∀d∈t.vDefs,FitD d) (W:Wf t l):Ev (fun k=>ctf_valid.f k t) true:=by
  have hn:=W.few
  have hS:=W.sh
  have hcond:¬decide ((t.vDefs.length:Int)>200)=true:=by simp;omega
  obtain ⟨v,hv,hp⟩:=valid_loop hF (by omega) t.vDefs.length 0 [] [] (by omega) SeenOk.nil
  rw [List.drop_zero] at hp
  obtain ⟨K,hK⟩:=hv.diag
  obtain ⟨K2,hK2⟩:=sizes_good hS hn W.sz
  obtain ⟨K3,hK3⟩:=ends_ev hS hn
  have he:t.vDefs.any (lostS t.vDefs t.vDefs.length)=false:=List.any_eq_false.2 fun d hd=>by rw [W.ends d hd];simp
  obtain ⟨K4,hK4⟩:=contains_ev (l:=t.vDefs) (p:=fun k z0=>ctf_valid_1.f k z0 l) (q:=fun _=>false) (fun d hd=>by
    by_cases h4:d.vKind=4
    · have:=placed_ev (d:=d) (l:=l) (hF d hd).len (fun f hf=>by have:=(hS d hd).typ h4 f hf;rw [W.sz.len];exact this)
      rw [W.placed d hd h4] at this
      exact (this.bind (g:=fun k v1=>some ((d.vKind==4)&&(!v1))) (b:=false) (Ev.pure fun _=>by simp)).congr fun k=>by
        unfold ctf_valid_1.f
        rw [if_pos (by simp [h4])]
    · refine Ev.pure fun k=>?_
      unfold ctf_valid_1.f
      rw [if_neg (by simp [h4])]
      simp [h4]) (by omega)
  cases v with
  |inl b=>rw [W.defs] at hp;exact absurd hp.2 (by simp)
  |inr m=>
    refine ⟨max (max K K2) (max K3 K4),fun k hk=>?_⟩
    show ctf_valid.f k t=_
    unfold ctf_valid.f
    rw [if_neg hcond,show ctf_valid.l0 k t k 0 []=_ from hK k (by omega)]
    simp only [Option.bind_some]
    rw [show ctf_sizes.f k t=_ from hK2 k (by omega)]
    simp only [Option.bind_some]
    rw [show ctf_ends.f k t=_ from hK3 k (by omega),he]
    simp only [Bool.not_true,Bool.not_false,beq_self_eq_true,Bool.and_self,if_true,Option.bind_some,Bool.or_self,Bool.false_eq_true,if_false]
    rw [show slices_ContainsFunc_api_Def_api_Def.f k t.vDefs _=_ from hK4 k (by omega)]
    simp
theorem valid_iff {t:api_Types} (hF:∀d∈t.vDefs,FitD d):(∃l,Wf t l∧Ev (fun k=>ctf_valid.f k t) true)∨((∀l,¬Wf t l)∧Ev (fun k=>ctf_valid.f k t) false):=by
  obtain ⟨b,hE,hb⟩:=valid_ev hF
  cases b with
  |true=>
    obtain ⟨l,G⟩:=hb rfl
    exact .inl ⟨l,G.wf,hE⟩
  |false=>
    refine .inr ⟨fun l W=>?_,hE⟩
    have:=hE.uniq (valid_wf hF W)
    cases this
theorem wf_uniq {t:api_Types} {l m:List Int} (W:Wf t l) (V:Wf t m):l=m:=by
  have:=W.good.sizes.uniq V.good.sizes
  exact congrArg Prod.fst this
end Go.Proofs.YtfjppgobidjndaaDoor
namespace Go.Proofs.YtfjppgobidjndaaDoor
open Go.RowKit Go.M
def ctf_find_1.f (a0:api_Def) (x0:ByteArray):Option (Bool):=(ctf_named.f a0).bind fun v1=>(some (v1&&(strEq a0.vName x0)))
set_option maxRecDepth 20000 in
set_option maxHeartbeats 4000000 in
theorem ctf_find_1.calls (a0:api_Def) (x0:ByteArray) (A0_6:Option Addr) (c0_6:Nat) (bx0:Nat) {h0:View} {w0:World} (hv:Sees h0 w0) (hr0_6:Rd k_api_Field h0 A0_6 a0.vFields) (hc0_6:a0.vFields.length≤c0_6) (hx0:w0.heap[bx0]?=some (.cells #[vS x0] 9 (0,0))) {r:Bool} (H:ctf_find_1.f a0 x0=some r):Calls Tryd.prog 101 #[Value.agg #[vI a0.vKind,vS a0.vName,vI a0.vInt.vSize,vB a0.vInt.vSigned,vI a0.vRef,vI a0.vN,vL A0_6 a0.vFields.length c0_6],vP bx0 0] w0 (fun e w1=>e= .returned (vB r)∧Ext w0 w1):=by
 unfold ctf_find_1.f at H
 have HS:St [] h0 w0 h0 [] w0:=St.init hv
 go_enter Tryd.func101,Tryd.ntmps101
 refine wp_seq ?_
 refine region ?_
 refine run_ex rfl rfl (does_box (cs:=#[vI a0.vKind,vS a0.vName,vI a0.vInt.vSize,vB a0.vInt.vSigned,vI a0.vRef,vI a0.vN,vL A0_6 a0.vFields.length c0_6]) rfl rfl) ?_
 rintro w1 _ hE1 ⟨b1,rfl,ge1,hb1⟩
 have HS1:=HS.new hE1 ge1 hb1
 refine rs (vB false) (r_assign rfl) ?_
 try simp only [sc0,sc1]
 refine run_nil ?_
 refine norm_then ?_
 refine wp_seq ?_
 refine region ?_
 refine rs (Value.agg #[vI a0.vKind,vS a0.vName,vI a0.vInt.vSize,vB a0.vInt.vSigned,vI a0.vRef,vI a0.vN,vL A0_6 a0.vFields.length c0_6]) (r_loadBoxAgg (n:=7) (vs:=[vI a0.vKind,vS a0.vName,vI a0.vInt.vSize,vB a0.vInt.vSigned,vI a0.vRef,vI a0.vN,vL A0_6 a0.vFields.length c0_6]) rfl Tryd.isAgg34 (HS1.look 0 rfl) Tryd.sizeOf34 rfl rfl) ?_
 obtain ⟨v1,H1,H⟩:=of_bind H
 refine run_eq (v:=vB v1) rfl rfl (does_call_eq Tryd.call68 rfl rfl (ctf_named.calls a0 A0_6 c0_6 HS1.sees hr0_6 hc0_6 H1)) ?_
 intro w2 hE2
 have HS2:=HS1.step hE2
 refine rs (vB v1) (r_move rfl) ?_
 refine rgs v1 true (vP b1 1) rfl rfl rfl rfl (fun hg=>(r_fieldBox (n:=1) (o':=1) rfl Tryd.runUnderlying34 rfl Tryd.sizeOf9 (by decide) rfl)) ?_
 refine run_frame (by simp only [sc0,sc1];rfl) ?_
 refine rgs v1 true (vS a0.vName) rfl rfl rfl rfl (fun hg=>(r_loadBox (gvt (vP b1 1) hg rfl) Tryd.isAgg9 (HS2.look 0 rfl) rfl)) ?_
 refine rgs v1 true (vS x0) rfl rfl rfl rfl (fun hg=>(r_loadBox rfl Tryd.isAgg9 (heap_ext hx0 HS2.toE) rfl)) ?_
 refine rgs v1 true (vB (strEq a0.vName x0)) rfl rfl rfl rfl (fun hg=>(r_streql (gvt (vS a0.vName) hg rfl) (gvt (vS x0) hg rfl))) ?_
 refine rs (vB (v1&&(strEq a0.vName x0))) (r_pick_and rfl (fun hp=>(gvt (vB (strEq a0.vName x0)) (and_i rfl hp) rfl)) rfl) ?_
 refine run_frame (by simp only [sc0,sc1];rfl) ?_
 refine rs (vB (v1&&(strEq a0.vName x0))) (r_assign rfl) ?_
 try simp only [sc0,sc1]
 refine run_nil ?_
 refine norm_then ?_
 refine wp_ret ?_
 obtain rfl:=Option.some.inj H
 refine bodyPost_ret (results_1 rfl (one_tmp rfl)) rfl ?_
 exact ⟨rfl,HS2.toE⟩

end Go.Proofs.YtfjppgobidjndaaDoor
namespace Go.Proofs.YtfjppgobidjndaaDoor
open Go.RowKit Go.M
def ctf_find.f (k:Nat) (a0:api_Types) (a1:ByteArray):Option (Int):=(slices_IndexFunc_api_Def_api_Def.f k a0.vDefs (fun z0=>ctf_find_1.f z0 a1)).bind fun v1=>(some v1)
set_option maxRecDepth 20000 in
set_option maxHeartbeats 4000000 in
theorem ctf_find.calls (k:Nat) (a0:api_Types) (a1:ByteArray) (A0_0:Option Addr) (c0_0:Nat) {h0:View} {w0:World} (hv:Sees h0 w0) (hr0_0:Rd k_api_Def h0 A0_0 a0.vDefs) (hc0_0:a0.vDefs.length≤c0_0) {r:Int} (H:ctf_find.f k a0 a1=some r):Calls Tryd.prog 54 #[Value.agg #[vL A0_0 a0.vDefs.length c0_0],vS a1] w0 (fun e w1=>e= .returned (vI r)∧Ext w0 w1):=by
 unfold ctf_find.f at H
 have HS:St [] h0 w0 h0 [] w0:=St.init hv
 go_enter Tryd.func54,Tryd.ntmps54
 refine wp_seq ?_
 refine region ?_
 refine run_ex rfl rfl (does_box (cs:=#[vL A0_0 a0.vDefs.length c0_0]) rfl rfl) ?_
 rintro w1 _ hE1 ⟨b1,rfl,ge1,hb1⟩
 have HS1:=HS.new hE1 ge1 hb1
 refine run_ex rfl rfl (does_box (cs:=#[vS a1]) rfl rfl) ?_
 rintro w2 _ hE2 ⟨b2,rfl,ge2,hb2⟩
 have HS2:=HS1.new hE2 ge2 hb2
 refine rs (vI 0) (r_assign rfl) ?_
 try simp only [sc0,sc1]
 refine run_nil ?_
 refine norm_then ?_
 refine wp_seq ?_
 refine region ?_
 refine rs (vP b1 0) (r_fieldBox (n:=1) (o':=0) rfl Tryd.runUnderlying24 rfl Tryd.sizeOf22 (by decide) rfl) ?_
 refine rs (vL A0_0 a0.vDefs.length c0_0) (r_loadBox rfl Tryd.isAgg22 (HS2.look 1 rfl) rfl) ?_
 refine rs (Value.func (.func 101) #[] #[vP b2 0]) (r_makeFunc (vs:=[vP b2 0]) rfl) ?_
 obtain ⟨v1,H1,H⟩:=of_bind H
 refine run_eq (v:=vI v1) rfl rfl (does_call_eq Tryd.call100 rfl rfl (slices_IndexFunc_api_Def_api_Def.calls k a0.vDefs (fun z0=>ctf_find_1.f z0 a1) A0_0 c0_0 101 [vP b2 0] HS2.sees hr0_0 hc0_0 Tryd.call101 (fun z0 Az0_6 cz0_6 h w hE hs hv hz0_6 hzc0_6 r H=>ctf_find_1.calls z0 a1 Az0_6 cz0_6 b2 hv hz0_6 hzc0_6 (heap_ext (HS2.look 0 rfl) hE) H) H1)) ?_
 intro w3 hE3
 have HS3:=HS2.step hE3
 refine run_frame (by simp only [sc0,sc1];rfl) ?_
 refine rs (vI v1) (r_assign rfl) ?_
 try simp only [sc0,sc1]
 refine run_nil ?_
 refine norm_then ?_
 refine wp_ret ?_
 obtain rfl:=Option.some.inj H
 refine bodyPost_ret (results_1 rfl (one_tmp rfl)) rfl ?_
 exact ⟨rfl,HS3.toE⟩

end Go.Proofs.YtfjppgobidjndaaDoor
namespace Go.Proofs.YtfjppgobidjndaaDoor
open Go.RowKit Go.M
def digIn (n:Nat):Bool:=match strconv_Itoa.f (n:Int) with|some b=>decide (b.size≤3)|_=>false
theorem dig_in:(List.range 513).all digIn=true:=by kernel_rfl
theorem dig_one {n:Int} (h1:1≤n) (h2:n≤512):∃s,strconv_Itoa.f n=some s∧s.size≤3:=by
  obtain ⟨m,rfl⟩:∃m:Nat,n=(m:Int):=⟨n.toNat,by omega⟩
  have h0:=List.all_eq_true.1 dig_in m (List.mem_range.2 (by omega))
  unfold digIn at h0
  cases hi:strconv_Itoa.f (m:Int) with
  |none=>rw [hi] at h0;cases h0
  |some b=>rw [hi] at h0;exact ⟨b,rfl,of_decide_eq_true h0⟩
theorem shaped_mem {n:Nat}:∀(ns:List ByteArray) (l:List api_Def),defsS n ns l=true→∀d∈l,shapedS d (n:Int)=true
  |_,[],_=>by simp
  |ns,d::r,h=>by
    simp only [defsS,Bool.and_eq_true] at h
    intro x hx
    rcases List.mem_cons.1 hx with rfl|hx
    · exact h.1.1
    · exact shaped_mem _ r h.2 x hx
theorem name_of {d:api_Def} {n:Int} (h:shapedS d n=true) (hn:namedS d=true):nameS d.vName=true:=by
  unfold shapedS at h
  unfold namedS at hn
  simp only [Bool.and_eq_true,bne_iff_ne,ne_eq] at hn
  cases hs:shp d.vKind with
  |none=>rw [hs] at h;cases h
  |some s=>
    rw [hs] at h
    simp only [Bool.and_eq_true] at h
    have h1:=h.1.1.1.1.1.1
    unfold shp at hs
    rw [if_neg hn.1,if_neg hn.2] at hs
    have hv:s.vname=true:=by
      repeat' split at hs
      all_goals first|(cases hs;done)|(injection hs with hs;subst hs;rfl)
    rwa [if_pos hv] at h1
theorem name_len {s:ByteArray} (h:nameS s=true):s.size≤31:=by
  unfold nameS at h
  simp only [Bool.and_eq_true,decide_eq_true_eq] at h
  omega
theorem anon_kind {d:api_Def} (hn:¬namedS d=true):d.vKind=2∨d.vKind=3:=by
  unfold namedS at hn
  by_cases h2:d.vKind=2
  · exact .inl h2
  · by_cases h3:d.vKind=3
    · exact .inr h3
    · exact absurd (by simp [h2,h3]) hn
theorem size_app (a b:ByteArray):(a++b).size=a.size+b.size:=ByteArray.size_append
theorem text_one {t:api_Types} {l:List Int} (W:Wf t l):∀(m i:Nat),m≤1000→i<t.vDefs.length→lostS t.vDefs m (t.vDefs.getD i z_api_Def)=false→
    ∃s,Ev (fun k=>ctf_text.f k t (i:Int)) s∧s.size≤31+8*m:=by
  have base:∀(m i:Nat),i<t.vDefs.length→namedS (t.vDefs.getD i z_api_Def)=true→∃s,Ev (fun k=>ctf_text.f k t (i:Int)) s∧s.size≤31+8*m:=by
    intro m i hi hn
    have hm:=getD_mem (z:=z_api_Def) hi
    have hsz:=name_len (name_of (shaped_mem _ _ W.defs _ hm) hn)
    have h2:¬((t.vDefs.getD i z_api_Def).vKind==2)=true:=by unfold namedS at hn;simp only [Bool.and_eq_true,bne_iff_ne,ne_eq] at hn;simpa using hn.1
    have h3:¬((t.vDefs.getD i z_api_Def).vKind==3)=true:=by unfold namedS at hn;simp only [Bool.and_eq_true,bne_iff_ne,ne_eq] at hn;simpa using hn.2
    refine ⟨(t.vDefs.getD i z_api_Def).vName,Ev.succ (Ev.pure fun k=>?_),by omega⟩
    rw [ctf_text.f,if_pos (by omega),rd_nat,if_neg h2,if_neg h3]
  intro m
  induction m with
  |zero=>
    intro i _ hi h
    simp only [lostS,Bool.not_eq_false'] at h
    exact base 0 i hi h
  |succ m ih=>
    intro i hm1 hi h
    simp only [lostS] at h
    by_cases hn:namedS (t.vDefs.getD i z_api_Def)=true
    · exact base (m+1) i hi hn
    · rw [if_neg hn] at h
      have hm:=getD_mem (z:=z_api_Def) hi
      have hk:=anon_kind hn
      have hr:=(W.sh _ hm).ref (by omega)
      obtain ⟨q,hq⟩:∃q:Nat,(t.vDefs.getD i z_api_Def).vRef=(q:Int):=⟨(t.vDefs.getD i z_api_Def).vRef.toNat,by omega⟩
      rw [hq,rd_nat] at h
      rw [hq] at hr
      obtain ⟨s,⟨K1,h1⟩,h3⟩:=ih q (by omega) (by omega) h
      have e2:ByteArray.size (⟨#[32,42]⟩:ByteArray)=2:=rfl
      have e3:ByteArray.size (⟨#[32,91]⟩:ByteArray)=2:=rfl
      have e1:ByteArray.size (⟨#[93]⟩:ByteArray)=1:=rfl
      by_cases hk2:(t.vDefs.getD i z_api_Def).vKind=2
      · refine ⟨s++(⟨#[32,42]⟩:ByteArray),⟨K1+1,fun k hk=>?_⟩,by rw [size_app,e2];omega⟩
        · obtain ⟨k,rfl⟩:∃q,k=q+1:=⟨k-1,by omega⟩
          show ctf_text.f (k+1) t (i:Int)=_
          rw [ctf_text.f,if_pos (by omega),rd_nat,if_pos (beqT hk2),hq,show ctf_text.f k t (q:Int)=_ from h1 k (by omega)]
          simp only [Option.bind_some]
          rw [if_pos (by rw [e2];omega)]
      · have hk3:(t.vDefs.getD i z_api_Def).vKind=3:=by omega
        have hN:=(W.sh _ hm).num (.inl hk3)
        obtain ⟨dg,hd1,hd3⟩:=dig_one hN.1 hN.2
        refine ⟨((s++(⟨#[32,91]⟩:ByteArray))++dg)++(⟨#[93]⟩:ByteArray),⟨K1+1,fun k hk=>?_⟩,by rw [size_app,size_app,size_app,e3,e1];omega⟩
        · obtain ⟨k,rfl⟩:∃q,k=q+1:=⟨k-1,by omega⟩
          show ctf_text.f (k+1) t (i:Int)=_
          rw [ctf_text.f,if_pos (by omega),rd_nat,if_neg (beqF hk2),if_pos (beqT hk3),hq,show ctf_text.f k t (q:Int)=_ from h1 k (by omega)]
          simp only [Option.bind_some]
          rw [if_pos (by rw [e3];omega),hd1]
          simp only [Option.bind_some]
          rw [if_pos (by rw [size_app,e3];omega),if_pos (by rw [size_app,size_app,e3,e1];omega)]
section
variable {t:api_Types} {l:List Int}
def nameQ (name:ByteArray) (d:api_Def):Bool:=namedS d&&strEq d.vName name
def findV (t:api_Types) (name:ByteArray):Int:=if t.vDefs.any (nameQ name)=true then ((t.vDefs.findIdx (nameQ name):Nat):Int) else-1
theorem find_ev (hn:t.vDefs.length≤200) (name:ByteArray):Ev (fun k=>ctf_find.f k t name) (findV t name):=by
  refine ⟨t.vDefs.length+1,fun k hk=>?_⟩
  show ctf_find.f k t name=_
  unfold ctf_find.f slices_IndexFunc_api_Def_api_Def.f findV
  have:=index_loop (l:=t.vDefs) (p:=fun z0=>ctf_find_1.f z0 name) (q:=nameQ name) (fun z hz=>rfl) (by omega) t.vDefs.length 0 k (by omega) (by omega)
  rw [show slices_IndexFunc_api_Def_api_Def.l0 t.vDefs _ k 0=_ from this,List.drop_zero]
  cases t.vDefs.any (nameQ name)<;>simp
end
end Go.Proofs.YtfjppgobidjndaaDoor
namespace Go.Proofs.YtfjppgobidjndaaDoor
open Go.RowKit Go.M
def dAt (t:api_Types) (i:Nat):api_Def:=t.vDefs.getD i z_api_Def
noncomputable def tx (t:api_Types) (i:Nat):ByteArray:=by
  classical exact if h:∃s,Ev (fun k=>ctf_text.f k t (i:Int)) s then Classical.choose h else ByteArray.empty
def dg (n:Int):ByteArray:=(strconv_Itoa.f n).getD ByteArray.empty
def star:ByteArray:=⟨#[32,42]⟩
def brO:ByteArray:=⟨#[32,91]⟩
def brC:ByteArray:=⟨#[93]⟩
section
variable {t u:api_Types} {l m:List Int}
theorem tx_of {i:Nat} {s:ByteArray} (h:Ev (fun k=>ctf_text.f k t (i:Int)) s):tx t i=s:=by
  have hx:∃s,Ev (fun k=>ctf_text.f k t (i:Int)) s:=⟨s,h⟩
  unfold tx
  rw [dif_pos hx]
  exact (Classical.choose_spec hx).uniq h
theorem rd_dAt (i:Nat):rd z_api_Def t.vDefs (i:Int)=dAt t i:=rd_nat i
theorem dAt_mem {i:Nat} (hi:i<t.vDefs.length):dAt t i∈t.vDefs:=getD_mem hi
theorem text_ev (W:Wf t l) {i:Nat} (hi:i<t.vDefs.length):Ev (fun k=>ctf_text.f k t (i:Int)) (tx t i)∧(tx t i).size≤2000:=by
  obtain ⟨s,h1,h3⟩:=text_one W t.vDefs.length i (by have:=W.few;omega) hi (W.ends _ (getD_mem hi))
  rw [tx_of h1]
  exact ⟨h1,by have:=W.few;omega⟩
theorem named_iff (d:api_Def):namedS d=true↔d.vKind≠2∧d.vKind≠3:=by
  unfold namedS;simp [bne_iff_ne]
theorem tx_named {i:Nat} (hi:i<t.vDefs.length) (hn:namedS (dAt t i)=true):tx t i=(dAt t i).vName:=by
  obtain ⟨h2,h3⟩:=(named_iff _).1 hn
  refine tx_of (Ev.succ (Ev.pure fun k=>?_))
  rw [ctf_text.f,if_pos (by omega),rd_dAt,if_neg (beqF h2),if_neg (beqF h3)]
theorem ref_lt (W:Wf t l) {i:Nat} (hi:i<t.vDefs.length) (hk:(dAt t i).vKind=2∨(dAt t i).vKind=3∨(dAt t i).vKind=6):(dAt t i).vRef=(((dAt t i).vRef.toNat:Nat):Int)∧(dAt t i).vRef.toNat<t.vDefs.length:=by
  have:=(W.sh _ (dAt_mem hi)).ref hk
  omega
theorem tx_ptr (W:Wf t l) {i:Nat} (hi:i<t.vDefs.length) (hk:(dAt t i).vKind=2):tx t i=tx t (dAt t i).vRef.toNat++star:=by
  obtain ⟨h1,h2⟩:=ref_lt W hi (.inl hk)
  obtain ⟨⟨K,hK⟩,h3⟩:=text_ev W h2
  refine tx_of ⟨K+1,fun k hk'=>?_⟩
  obtain ⟨k,rfl⟩:∃q,k=q+1:=⟨k-1,by omega⟩
  show ctf_text.f (k+1) t (i:Int)=_
  rw [ctf_text.f,if_pos (by omega),rd_dAt,if_pos (beqT hk)]
  rw [h1,show ctf_text.f k t _=_ from hK k (by omega)]
  simp only [Option.bind_some]
  rw [if_pos (by rw [show ByteArray.size (⟨#[32,42]⟩:ByteArray)=2 from rfl];omega)]
  simp only [Int.toNat_natCast]
  rfl
theorem dg_ok {n:Int} (h1:1≤n) (h2:n≤512):strconv_Itoa.f n=some (dg n)∧(dg n).size≤3:=by
  obtain ⟨s,h3,h4⟩:=dig_one h1 h2
  unfold dg
  rw [h3]
  exact ⟨rfl,h4⟩
theorem tx_arr (W:Wf t l) {i:Nat} (hi:i<t.vDefs.length) (hk:(dAt t i).vKind=3):tx t i=((tx t (dAt t i).vRef.toNat++brO)++dg (dAt t i).vN)++brC:=by
  obtain ⟨h1,h2⟩:=ref_lt W hi (.inr (.inl hk))
  obtain ⟨⟨K,hK⟩,h3⟩:=text_ev W h2
  obtain ⟨hN1,hN2⟩:=(W.sh _ (dAt_mem hi)).num (.inl hk)
  obtain ⟨h4,h5⟩:=dg_ok hN1 hN2
  have e3:ByteArray.size (⟨#[32,91]⟩:ByteArray)=2:=rfl
  have e1:ByteArray.size (⟨#[93]⟩:ByteArray)=1:=rfl
  refine tx_of ⟨K+1,fun k hk'=>?_⟩
  obtain ⟨k,rfl⟩:∃q,k=q+1:=⟨k-1,by omega⟩
  show ctf_text.f (k+1) t (i:Int)=_
  rw [ctf_text.f,if_pos (by omega),rd_dAt,if_neg (beqF (by omega)),if_pos (beqT hk)]
  rw [h1,show ctf_text.f k t _=_ from hK k (by omega)]
  simp only [Option.bind_some]
  rw [if_pos (by rw [e3];omega)]
  rw [h4]
  simp only [Option.bind_some]
  rw [if_pos (by rw [size_app,e3];omega),if_pos (by rw [size_app,size_app,e3,e1];omega)]
  simp only [Int.toNat_natCast]
  rfl
def bs (s:ByteArray):List UInt8:=s.data.toList
theorem bs_app (a b:ByteArray):bs (a++b)=bs a++bs b:=by
  unfold bs
  rw [ByteArray.data_append,Array.toList_append]
theorem bs_inj {a b:ByteArray} (h:bs a=bs b):a=b:=data_inj h
theorem split_at {x:UInt8}:∀{a b a' b':List UInt8},x∉a→x∉a'→a++x::b=a'++x::b'→a=a'∧b=b'
  |[],b,[],b',_,_,h=>⟨rfl,by simpa using h⟩
  |[],b,y::a',b',_,h2,h=>by
    simp only [List.nil_append,List.cons_append,List.cons.injEq] at h
    exact absurd (by rw [←h.1];exact List.mem_cons_self) h2
  |y::a,b,[],b',h1,_,h=>by
    simp only [List.nil_append,List.cons_append,List.cons.injEq] at h
    exact absurd (by rw [h.1];exact List.mem_cons_self) h1
  |y::a,b,z::a',b',h1,h2,h=>by
    simp only [List.cons_append,List.cons.injEq] at h
    obtain ⟨h3,h4⟩:=split_at (fun hm=>h1 (List.mem_cons_of_mem _ hm)) (fun hm=>h2 (List.mem_cons_of_mem _ hm)) h.2
    exact ⟨by rw [h.1,h3],h4⟩
theorem split_back {x:UInt8} {a b a' b':List UInt8} (h1:x∉b) (h2:x∉b') (h:a++x::b=a'++x::b'):a=a'∧b=b':=by
  have h3:=congrArg List.reverse h
  simp only [List.reverse_append,List.reverse_cons,List.append_assoc,List.singleton_append] at h3
  obtain ⟨h4,h5⟩:=split_at (by simpa using h1) (by simpa using h2) h3
  exact ⟨List.reverse_inj.1 h5,List.reverse_inj.1 h4⟩
def digGood (n:Nat):Bool:= !((bs (dg (n:Int))).contains 91)&&((bs (dg (n:Int))).foldl (fun a c=>a*10+(c.toNat-48)) 0==n)
theorem dig_good:(List.range 513).all digGood=true:=by kernel_rfl
theorem dg_br {n:Int} (h1:1≤n) (h2:n≤512):(91:UInt8)∉bs (dg n):=by
  obtain ⟨m,rfl⟩:∃m:Nat,n=(m:Int):=⟨n.toNat,by omega⟩
  have:=List.all_eq_true.1 dig_good m (List.mem_range.2 (by omega))
  unfold digGood at this
  simp only [Bool.and_eq_true,Bool.not_eq_true'] at this
  intro hm
  have h3:=this.1
  rw [List.contains_iff_mem.2 hm] at h3
  cases h3
theorem dg_inj {a b:Int} (h1:1≤a) (h2:a≤512) (h3:1≤b) (h4:b≤512) (h:bs (dg a)=bs (dg b)):a=b:=by
  obtain ⟨m,rfl⟩:∃m:Nat,a=(m:Int):=⟨a.toNat,by omega⟩
  obtain ⟨q,rfl⟩:∃m:Nat,b=(m:Int):=⟨b.toNat,by omega⟩
  have e1:=List.all_eq_true.1 dig_good m (List.mem_range.2 (by omega))
  have e2:=List.all_eq_true.1 dig_good q (List.mem_range.2 (by omega))
  unfold digGood at e1 e2
  simp only [Bool.and_eq_true,beq_iff_eq] at e1 e2
  rw [h] at e1
  have:=e1.2.symm.trans e2.2
  omega
theorem okFrom_byte {c:Int}:∀{j:Nat} {cs:List Int},okFrom j cs=true→c∈cs→(c≥48∧c≤57)∨(c≥65∧c≤90)∨c=95∨(c≥97∧c≤122)
  |j,[],_,h=>by cases h
  |j,x::r,h,hm=>by
    simp only [okFrom,Bool.and_eq_true] at h
    rcases List.mem_cons.1 hm with rfl|hm
    · have:=h.1
      unfold okByte at this
      simp only [Bool.or_eq_true,Bool.and_eq_true,decide_eq_true_eq,beq_iff_eq] at this
      omega
    · exact okFrom_byte h.2 hm
theorem name_bytes {s:ByteArray} (h:nameS s=true):∀c∈bs s,c≠42∧c≠93:=by
  unfold nameS at h
  simp only [Bool.and_eq_true] at h
  intro c hc
  have hm:((c.toNat:Nat):Int)∈bytesOf s:=by unfold bytesOf;exact List.mem_map.2 ⟨c,hc,rfl⟩
  have:=okFrom_byte h.1.1 hm
  constructor
  · rintro rfl;revert this;decide
  · rintro rfl;revert this;decide
theorem name_wf (W:Wf t l) {i:Nat} (hi:i<t.vDefs.length) (hn:namedS (dAt t i)=true):nameS (dAt t i).vName=true:=name_of (shaped_mem _ _ W.defs _ (dAt_mem hi)) hn
theorem tx_eq (W:Wf t l) (V:Wf u m) {i j:Nat} (hi:i<t.vDefs.length) (hj:j<u.vDefs.length) (h:tx t i=tx u j):
    (namedS (dAt t i)=true∧namedS (dAt u j)=true∧(dAt t i).vName=(dAt u j).vName)∨
    ((dAt t i).vKind=2∧(dAt u j).vKind=2∧tx t (dAt t i).vRef.toNat=tx u (dAt u j).vRef.toNat)∨
    ((dAt t i).vKind=3∧(dAt u j).vKind=3∧(dAt t i).vN=(dAt u j).vN∧tx t (dAt t i).vRef.toNat=tx u (dAt u j).vRef.toNat):=by
  have hb:=congrArg bs h
  have hs:bs star=[32,42]:=rfl
  have ho:bs brO=[32,91]:=rfl
  have hc:bs brC=[93]:=rfl
  by_cases h1:namedS (dAt t i)=true
  · rw [tx_named hi h1] at h hb
    have hnb:=name_bytes (name_wf W hi h1)
    by_cases h2:namedS (dAt u j)=true
    · rw [tx_named hj h2] at h
      exact .inl ⟨h1,h2,h⟩
    · exfalso
      rcases anon_kind h2 with e|e
      · rw [tx_ptr V hj e,bs_app,hs] at hb
        exact (hnb 42 (by rw [hb];simp)).1 rfl
      · rw [tx_arr V hj e,bs_app,hc] at hb
        exact (hnb 93 (by rw [hb];simp)).2 rfl
  · by_cases h2:namedS (dAt u j)=true
    · exfalso
      rw [tx_named hj h2] at hb
      have hnb:=name_bytes (name_wf V hj h2)
      rcases anon_kind h1 with e|e
      · rw [tx_ptr W hi e,bs_app,hs] at hb
        exact (hnb 42 (by rw [←hb];simp)).1 rfl
      · rw [tx_arr W hi e,bs_app,hc] at hb
        exact (hnb 93 (by rw [←hb];simp)).2 rfl
    · rcases anon_kind h1 with e|e<;>rcases anon_kind h2 with e'|e'
      · rw [tx_ptr W hi e,tx_ptr V hj e',bs_app,bs_app] at hb
        exact .inr (.inl ⟨e,e',bs_inj (List.append_cancel_right hb)⟩)
      · exfalso
        rw [tx_ptr W hi e,tx_arr V hj e',bs_app _ star,bs_app _ brC,hs,hc] at hb
        have:=congrArg (fun l=>l.getLast?) hb
        simp at this
      · exfalso
        rw [tx_arr W hi e,tx_ptr V hj e',bs_app _ brC,bs_app _ star,hs,hc] at hb
        have:=congrArg (fun l=>l.getLast?) hb
        simp at this
      · rw [tx_arr W hi e,tx_arr V hj e',bs_app (_++_),bs_app (_++_) brC] at hb
        have hb:=List.append_cancel_right hb
        rw [bs_app,bs_app,bs_app,bs_app,ho,List.append_assoc,List.append_assoc] at hb
        have hN1:=(W.sh _ (dAt_mem hi)).num (.inl e)
        have hN2:=(V.sh _ (dAt_mem hj)).num (.inl e')
        have hb:(bs (tx t (dAt t i).vRef.toNat)++[32])++91::bs (dg (dAt t i).vN)=(bs (tx u (dAt u j).vRef.toNat)++[32])++91::bs (dg (dAt u j).vN):=by simpa using hb
        obtain ⟨h3,h4⟩:=split_back (dg_br hN1.1 hN1.2) (dg_br hN2.1 hN2.2) hb
        exact .inr (.inr ⟨e,e',dg_inj hN1.1 hN1.2 hN2.1 hN2.2 h4,bs_inj (List.append_cancel_right h3)⟩)
theorem defs_names {n:Nat}:∀(ns:List ByteArray) (l:List api_Def),defsS n ns l=true→(∀d∈l,namedS d=true→d.vName∉ns)∧∀i j,i<j→j<l.length→namedS (l.getD j z_api_Def)=true→(l.getD i z_api_Def).vName≠(l.getD j z_api_Def).vName
  |ns,[],_=>⟨by simp,fun i j _ h=>by simp at h⟩
  |ns,d::r,h=>by
    simp only [defsS,Bool.and_eq_true,Bool.not_eq_true'] at h
    obtain ⟨⟨h1,h2⟩,h3⟩:=h
    obtain ⟨h4,h5⟩:=defs_names _ r h3
    refine ⟨fun x hx hn hm=>?_,fun i j hij hj hn=>?_⟩
    · rcases List.mem_cons.1 hx with rfl|hx
      · rw [hn,Bool.true_and] at h2
        exact absurd (strEq_iff.2 rfl) (List.any_eq_false.1 h2 _ hm)
      · exact h4 x hx hn (List.mem_cons_of_mem _ hm)
    · obtain ⟨j,rfl⟩:∃q,j=q+1:=⟨j-1,by omega⟩
      rw [List.getD_cons_succ] at hn⊢
      cases i with
      |zero=>
        rw [List.getD_cons_zero]
        intro e
        exact h4 _ (getD_mem (by simpa using hj)) hn (by rw [←e];exact List.mem_cons_self)
      |succ i=>
        rw [List.getD_cons_succ]
        exact h5 i j (by omega) (by simpa using hj) hn
theorem name_uniq (W:Wf t l) {i j:Nat} (hi:i<t.vDefs.length) (hj:j<t.vDefs.length) (h1:namedS (dAt t i)=true) (h2:namedS (dAt t j)=true) (h:(dAt t i).vName=(dAt t j).vName):i=j:=by
  have:=(defs_names _ _ W.defs).2
  rcases Nat.lt_trichotomy i j with hlt|he|hlt
  · exact absurd h (this i j hlt hj h2)
  · exact he
  · exact absurd h.symm (this j i hlt hi h1)
end
end Go.Proofs.YtfjppgobidjndaaDoor
namespace Go.Proofs.YtfjppgobidjndaaDoor
open Go.RowKit Go.M
def ctf_reached_1.l0 (rec:Int→(List (Int×Bool))→(List api_Def)→Option ((List (Int×Bool)))) (a0:Int) (x1:List api_Def):Nat→Int→(List (Int×Bool))→Option ((List (Int×Bool)))
 |0,_,_=>none
 |m+1,y1_0,y1_1=>if (decide (y1_0<(((rd z_api_Def x1 a0).vFields).length:Int)))=true then (if 0≤y1_0∧y1_0<((rd z_api_Def x1 a0).vFields).length then ((rec ((rd z_api_Field ((rd z_api_Def x1 a0).vFields) y1_0).vType) y1_1 x1).bind fun v3=>(ctf_reached_1.l0 rec a0 x1 m (IntKind.wrap .i64 (y1_0+1)) v3)) else none) else (some y1_1)
def ctf_reached_1.f:Nat→Int→(List (Int×Bool))→(List api_Def)→Option ((List (Int×Bool)))
 |0,_,_,_=>none
 |k+1,a0,x0,x1=>if ((mfind ieq x0 a0).getD false)=true then (some x0) else (if 0≤a0∧a0<x1.length then ((ctf_shapes.f).bind fun v1=>(((if ((mfind ieq v1 ((rd z_api_Def x1 a0).vKind)).getD z_ctf_shape).vref=true then ((ctf_reached_1.f k ((rd z_api_Def x1 a0).vRef) (mput ieq x0 a0 true) x1).bind fun v2=>(some v2)) else (some (mput ieq x0 a0 true))):Option ((List (Int×Bool)))).bind fun xx1=>(if ((rd z_api_Def x1 a0).vKind==4)=true then ((ctf_reached_1.l0 (ctf_reached_1.f k) a0 x1 k 0 xx1).bind fun xx2=>(some xx2)) else (some xx1)))) else none)
set_option maxRecDepth 20000 in
set_option maxHeartbeats 4000000 in
theorem ctf_reached_1.calls:∀(k:Nat) (a0:Int) (x0:List (Int×Bool)) (x1:List api_Def) (bx0:Nat) (mx0:Nat) (esx0:Array MapEntry) (clx0:Nat) (bx1:Nat) (Ax1:Option Addr) (cx1:Nat) (bx2:Nat) {h0:View} {w0:World} {h:View} {w:World} {rest:List Res} (HS:St [] h0 w0 h ((some bx0, .cells #[Value.map (some mx0)] 144 (0,0))::(some mx0, .map esx0 clx0)::(some bx1, .cells #[vL Ax1 x1.length cx1] 24 (0,0))::(some bx2, .cells #[Value.func (.func 115) #[] #[vP bx0 0,vP bx1 0,vP bx2 0]] 140 (0,0))::rest) w) (hox0:MapOk (vI) vB x0 esx0 clx0) (hrx1:Rd k_api_Def h Ax1 x1) (hcx1:x1.length≤cx1) {r:(List (Int×Bool))} (H:ctf_reached_1.f k a0 x0 x1=some r),Calls Tryd.prog 115 #[vI a0,vP bx0 0,vP bx1 0,vP bx2 0] w (fun e w1=>∃(esz_x0:Array MapEntry) (clz_x0:Nat),e= .returned (Value.tuple #[])∧MapOk (vI) vB r esz_x0 clz_x0∧St [] h0 w0 h ((some bx0, .cells #[Value.map (some mx0)] 144 (0,0))::(some mx0, .map esz_x0 clz_x0)::(some bx1, .cells #[vL Ax1 x1.length cx1] 24 (0,0))::(some bx2, .cells #[Value.func (.func 115) #[] #[vP bx0 0,vP bx1 0,vP bx2 0]] 140 (0,0))::rest) w1):=by
 intro k
 induction k with
 |zero=>
  intros
  rename_i H
  exact absurd H (by simp [ctf_reached_1.f])
 |succ k ih=>
  intro a0 x0 x1 bx0 mx0 esx0 clx0 bx1 Ax1 cx1 bx2 h0 w0 h w rest HS hox0 hrx1 hcx1 r H
  rw [ctf_reached_1.f] at H
  have hsub:Sub h h:=Sub.rfl' h
  go_enter Tryd.func115,Tryd.ntmps115
  refine wp_seq ?_
  refine wp_seq ?_
  refine region ?_
  refine rs (Value.map (some mx0)) (r_loadBox rfl Tryd.isAgg144 (HS.look 0 rfl) rfl) ?_
  refine rs (vI a0) (r_move rfl) ?_
  refine rs (vB ((mfind ieq x0 a0).getD false)) (r_mget (key_int Tryd.runUnderlying3) (k:=a0) (m:=x0) (ev:=vB) false rfl rfl Tryd.runUnderlying144 Tryd.zeroValue4 (HS.look 1 rfl) hox0) ?_
  try simp only [sc0,sc1]
  refine run_nil ?_
  refine norm_then ?_
  refine wp_cond_split (t:=((mfind ieq x0 a0).getD false)) rfl (fun c1=>?_) (fun c1=>?_)
  ·replace H:=of_pos H c1
   refine wp_ret ?_
   refine ret_then ?_
   obtain rfl:=Option.some.inj H
   refine bodyPost_ret (results_none rfl _ _ _) rfl ?_
   exact ⟨esx0,clx0,rfl,hox0,HS⟩
  ·replace H:=of_neg H (nt c1)
   refine wp_skip ?_
   refine norm_then ?_
   refine wp_seq ?_
   refine region ?_
   refine rs (Value.map (some mx0)) (r_loadBox rfl Tryd.isAgg144 (HS.look 0 rfl) rfl) ?_
   refine rs (vI a0) (r_move rfl) ?_
   refine mupd (key_int Tryd.runUnderlying3) (i:=1) (k:=a0) (v:=true) (ev:=vB) (m:=x0) (by first|exact .inl rfl|exact .inr rfl) rfl rfl rfl rfl rfl Tryd.runUnderlying144 HS rfl hox0 ?_
   intro w1 es1 cl1 HS1 ho1
   try simp only [sc0,sc1]
   refine run_nil ?_
   refine norm_then ?_
   refine wp_seq ?_
   refine region ?_
   refine rs (vP bx1 0) (r_fieldBox (n:=1) (o':=0) rfl Tryd.runUnderlying24 rfl Tryd.sizeOf22 (by decide) rfl) ?_
   refine rs (vL Ax1 x1.length cx1) (r_loadBox rfl Tryd.isAgg22 (HS1.look 2 rfl) rfl) ?_
   refine rs (vI a0) (r_move rfl) ?_
   obtain ⟨hi1,H⟩:=of_ite H
   obtain ⟨ad1,Aad1_6,cad1_6,e1,hel1,hcad1_6,hrad1_6⟩:=ld_api_Def hrx1 hi1.1 hi1.2
   refine rs (Value.pointer (some (Addr.add ad1 (a0.toNat*7)))) (r_indexA (sz:=7) rfl e1 rfl hi1.1 hi1.2 Tryd.runUnderlying22 Tryd.sizeOf34) ?_
   refine run_frame (by simp only [sc0,sc1];rfl) ?_
   refine rs (Value.agg #[vI ((rd z_api_Def x1 a0).vKind),vS ((rd z_api_Def x1 a0).vName),vI ((rd z_api_Def x1 a0).vInt.vSize),vB ((rd z_api_Def x1 a0).vInt.vSigned),vI ((rd z_api_Def x1 a0).vRef),vI ((rd z_api_Def x1 a0).vN),vL Aad1_6 ((rd z_api_Def x1 a0).vFields).length cad1_6]) (r_loadAgg rfl Tryd.isAgg34 (hel1.sees HS1.sees) Tryd.sizeOf34) ?_
   refine run_ex rfl rfl (does_alloc (cs:=#[vI 0,vS ByteArray.empty,vI 0,vB false,vI 0,vI 0,vL none 0 0]) Tryd.zeroValue34 rfl) ?_
   rintro w2 _ hE1 ⟨b1,rfl,ge1,hb1⟩
   have HS2:=HS1.new hE1 ge1 hb1
   refine run_st (i:=0) (cs:=[vI 0,vS ByteArray.empty,vI 0,vB false,vI 0,vI 0,vL none 0 0]) (cs':=[vI ((rd z_api_Def x1 a0).vKind),vS ((rd z_api_Def x1 a0).vName),vI ((rd z_api_Def x1 a0).vInt.vSize),vB ((rd z_api_Def x1 a0).vInt.vSigned),vI ((rd z_api_Def x1 a0).vRef),vI ((rd z_api_Def x1 a0).vN),vL Aad1_6 ((rd z_api_Def x1 a0).vFields).length cad1_6]) (vs:=[vI ((rd z_api_Def x1 a0).vKind),vS ((rd z_api_Def x1 a0).vName),vI ((rd z_api_Def x1 a0).vInt.vSize),vB ((rd z_api_Def x1 a0).vInt.vSigned),vI ((rd z_api_Def x1 a0).vRef),vI ((rd z_api_Def x1 a0).vN),vL Aad1_6 ((rd z_api_Def x1 a0).vFields).length cad1_6]) (bs':=((some b1, .cells #[vI ((rd z_api_Def x1 a0).vKind),vS ((rd z_api_Def x1 a0).vName),vI ((rd z_api_Def x1 a0).vInt.vSize),vB ((rd z_api_Def x1 a0).vInt.vSigned),vI ((rd z_api_Def x1 a0).vRef),vI ((rd z_api_Def x1 a0).vN),vL Aad1_6 ((rd z_api_Def x1 a0).vFields).length cad1_6] 34 (0,0))::(some bx0, .cells #[Value.map (some mx0)] 144 (0,0))::(some mx0, .map es1 cl1)::(some bx1, .cells #[vL Ax1 x1.length cx1] 24 (0,0))::(some bx2, .cells #[Value.func (.func 115) #[] #[vP bx0 0,vP bx1 0,vP bx2 0]] 140 (0,0))::rest)) rfl rfl Tryd.sizeOf34 rfl rfl (by decide) rfl HS2 rfl (Nat.le_of_ble_eq_true rfl) rfl rfl ?_
   intro w3 HS3
   try simp only [sc0,sc1]
   refine run_nil ?_
   refine norm_then ?_
   refine wp_seq ?_
   refine wp_seq ?_
   obtain ⟨v1,H1,H⟩:=of_bind H
   refine drawn [.ex (NewMap w3 (vI) e_ctf_shape v1), .eq (vP b1 0), .eq (vI ((rd z_api_Def x1 a0).vKind)), .eq (Value.agg #[vB (((mfind ieq v1 ((rd z_api_Def x1 a0).vKind)).getD z_ctf_shape).vname),vB (((mfind ieq v1 ((rd z_api_Def x1 a0).vKind)).getD z_ctf_shape).vint),vB (((mfind ieq v1 ((rd z_api_Def x1 a0).vKind)).getD z_ctf_shape).vref),vB (((mfind ieq v1 ((rd z_api_Def x1 a0).vKind)).getD z_ctf_shape).vn),vB (((mfind ieq v1 ((rd z_api_Def x1 a0).vKind)).getD z_ctf_shape).vfields)]), .eq (vB (((mfind ieq v1 ((rd z_api_Def x1 a0).vKind)).getD z_ctf_shape).vref))] [18,19,20,21,22] hmix (by kernel_rfl) rfl (stable_ex NewMap.stable (stable_eq (stable_eq (stable_eq (stable_eq stable_nil))))) ⟨ob_plain rfl (fun a' w' hE hk=>by have HSd:=HS3.step hE;exact does_call Tryd.call116 rfl (map_in hE (ctf_shapes.calls HSd.sees H1)) rfl),ob_plain rfl (fun a' w' hE hk=>by have HSd:=HS3.step hE;exact does_eq (r_fieldBox (n:=1) (o':=0) (show _=vP b1 0 from hk 5 rfl) Tryd.runUnderlying34 rfl Tryd.sizeOf3 (by decide) rfl)),ob_plain rfl (fun a' w' hE hk=>by have HSd:=HS3.step hE;exact does_eq (r_loadBox (show _=vP b1 0 from hk 19 rfl) Tryd.isAgg3 (HSd.look 0 rfl) rfl)),ob_plain rfl (fun a' w' hE hk=>by obtain ⟨_,_,_,e18,_,hb18,ho18⟩:=hk 18 rfl;have HSd:=HS3.step hE;exact does_eq (r_mget (key_int Tryd.runUnderlying3) (k:=((rd z_api_Def x1 a0).vKind)) (m:=v1) (ev:=e_ctf_shape) z_ctf_shape e18 (show _=vI ((rd z_api_Def x1 a0).vKind) from hk 20 rfl) Tryd.runUnderlying172 Tryd.zeroValue171 hb18 ho18)),ob_plain rfl (fun a' w' hE hk=>by have HSd:=HS3.step hE;exact does_eq (r_field (show _=Value.agg #[vB (((mfind ieq v1 ((rd z_api_Def x1 a0).vKind)).getD z_ctf_shape).vname),vB (((mfind ieq v1 ((rd z_api_Def x1 a0).vKind)).getD z_ctf_shape).vint),vB (((mfind ieq v1 ((rd z_api_Def x1 a0).vKind)).getD z_ctf_shape).vref),vB (((mfind ieq v1 ((rd z_api_Def x1 a0).vKind)).getD z_ctf_shape).vn),vB (((mfind ieq v1 ((rd z_api_Def x1 a0).vKind)).getD z_ctf_shape).vfields)] from hk 21 rfl) Tryd.runUnderlying171 rfl Tryd.isAgg4 rfl)),trivial⟩ ?_
   intro w4 hE2
   simp only [List.zip_cons_cons,List.zip_nil_left,List.zip_nil_right,finL,sc0,sc1,List.length_cons,List.length_nil,List.drop_succ_cons,List.drop_zero,Nat.zero_add,Nat.reduceAdd]
   rintro _ ⟨b2,es2,cl2,rfl,ge2,hb2,ho2⟩
   have HS4:=HS3.new hE2 ge2 hb2
   refine run_nil ?_
   refine norm_then ?_
   obtain ⟨xx1,H,G1⟩:=of_bind H
   refine cut_patch [23,24,25,26] (fun us w'=>∃(esj1_0:Array MapEntry) (clj1_0:Nat),∃uj1_23 uj1_24 uj1_25 uj1_26:Value,us=[uj1_23,uj1_24,uj1_25,uj1_26]∧MapOk (vI) vB xx1 esj1_0 clj1_0∧St [] h0 w0 h ((some b2, .map es2 cl2)::(some b1, .cells #[vI ((rd z_api_Def x1 a0).vKind),vS ((rd z_api_Def x1 a0).vName),vI ((rd z_api_Def x1 a0).vInt.vSize),vB ((rd z_api_Def x1 a0).vInt.vSigned),vI ((rd z_api_Def x1 a0).vRef),vI ((rd z_api_Def x1 a0).vN),vL Aad1_6 ((rd z_api_Def x1 a0).vFields).length cad1_6] 34 (0,0))::(some bx0, .cells #[Value.map (some mx0)] 144 (0,0))::(some mx0, .map esj1_0 clj1_0)::(some bx1, .cells #[vL Ax1 x1.length cx1] 24 (0,0))::(some bx2, .cells #[Value.func (.func 115) #[] #[vP bx0 0,vP bx1 0,vP bx2 0]] 140 (0,0))::rest) w') ?_ ?_
   ·refine wp_cond_split (t:=((mfind ieq v1 ((rd z_api_Def x1 a0).vKind)).getD z_ctf_shape).vref) rfl (fun c2=>?_) (fun c2=>?_)
    ·replace H:=of_pos H c2
     refine region ?_
     refine rs (Value.func (.func 115) #[] #[vP bx0 0,vP bx1 0,vP bx2 0]) (r_loadBox rfl Tryd.isAgg140 (HS4.look 5 rfl) rfl) ?_
     refine rs (vP b1 4) (r_fieldBox (n:=1) (o':=4) rfl Tryd.runUnderlying34 rfl Tryd.sizeOf3 (by decide) rfl) ?_
     refine rs (vI ((rd z_api_Def x1 a0).vRef)) (r_loadBox rfl Tryd.isAgg3 (HS4.look 1 rfl) rfl) ?_
     obtain ⟨v2,H2,H⟩:=of_bind H
     have HS5:=HS4.f5
     have HS6:=HS5.f5
     have HS7:=HS6.f5
     have HS8:=HS7.f5
     refine run_call (vs:=[vI ((rd z_api_Def x1 a0).vRef)]) (caps:=[vP bx0 0,vP bx1 0,vP bx2 0]) Tryd.call115 rfl rfl (ih ((rd z_api_Def x1 a0).vRef) (mput ieq x0 a0 true) x1 bx0 mx0 es1 cl1 bx1 Ax1 cx1 bx2 HS8 ho1 hrx1 hcx1 H2) ?_
     rintro _ w5 ⟨esv2_x0,clv2_x0,rfl,hov2_x0,HS9⟩
     refine ⟨_,rfl,?_⟩
     have HS10:=HS9.f3
     have HS11:=HS10.f3
     have HS12:=HS11.f3
     have HS13:=HS12.f3
     have HS14:=HS13.f5
     have HS15:=HS14.f5
     try simp only [sc0,sc1]
     refine run_nil ?_
     obtain rfl:=Option.some.inj H
     refine met [Value.func (.func 115) #[] #[vP bx0 0,vP bx1 0,vP bx2 0],vP b1 4,vI ((rd z_api_Def x1 a0).vRef),Value.tuple #[]] (by simp only [patch,sc0,sc1]) ⟨esv2_x0,clv2_x0,_,_,_,_,rfl,hov2_x0,HS15⟩
    ·replace H:=of_neg H (nt c2)
     refine wp_skip ?_
     obtain rfl:=Option.some.inj H
     refine met [undef,undef,undef,undef] (by simp only [patch,sc0,sc1]) ⟨es1,cl1,_,_,_,_,rfl,ho1,HS4⟩
   ·rintro _ w6 ⟨esj1_0,clj1_0,uj1_23,uj1_24,uj1_25,uj1_26,rfl,hoj1_0,HS16⟩
    replace H:=G1
    clear G1
    try simp only [patch,sc0,sc1]
    refine wp_seq ?_
    refine region ?_
    refine rs (vP b1 0) (r_fieldBox (n:=1) (o':=0) rfl Tryd.runUnderlying34 rfl Tryd.sizeOf3 (by decide) rfl) ?_
    refine rs (vI ((rd z_api_Def x1 a0).vKind)) (r_loadBox rfl Tryd.isAgg3 (HS16.look 1 rfl) rfl) ?_
    refine rs (vB ((rd z_api_Def x1 a0).vKind==4)) (r_bin rfl rfl rfl) ?_
    try simp only [sc0,sc1]
    refine run_nil ?_
    refine norm_then ?_
    refine wp_cond_split (t:=((rd z_api_Def x1 a0).vKind==4)) rfl (fun c3=>?_) (fun c3=>?_)
    ·replace H:=of_pos H c3
     refine wp_seq ?_
     refine region ?_
     refine rs (vP b1 6) (r_fieldBox (n:=1) (o':=6) rfl Tryd.runUnderlying34 rfl Tryd.sizeOf32 (by decide) rfl) ?_
     refine rs (vL Aad1_6 ((rd z_api_Def x1 a0).vFields).length cad1_6) (r_loadBox rfl Tryd.isAgg32 (HS16.look 1 rfl) rfl) ?_
     refine rs (vI (((rd z_api_Def x1 a0).vFields).length:Int)) (r_len rfl Tryd.runUnderlying32) ?_
     refine rs (vI 0) (r_move rfl) ?_
     try simp only [sc0,sc1]
     refine run_nil ?_
     refine norm_then ?_
     obtain ⟨xx2,H,G2⟩:=of_bind H
     refine loop_patch [7,33,34,35,36,37,38,39,40,41] (fun m us w'=>∃(y1_0:Int),∃(y1_1:List (Int×Bool)),∃(esy1_1:Array MapEntry) (cly1_1:Nat),∃uy1_7 uy1_34 uy1_35 uy1_36 uy1_37 uy1_38 uy1_39 uy1_40 uy1_41:Value,us=[uy1_7,vI y1_0,uy1_34,uy1_35,uy1_36,uy1_37,uy1_38,uy1_39,uy1_40,uy1_41]∧ctf_reached_1.l0 (ctf_reached_1.f k) a0 x1 m y1_0 y1_1=some xx2∧MapOk (vI) vB y1_1 esy1_1 cly1_1∧St [] h0 w0 h ((some b2, .map es2 cl2)::(some b1, .cells #[vI ((rd z_api_Def x1 a0).vKind),vS ((rd z_api_Def x1 a0).vName),vI ((rd z_api_Def x1 a0).vInt.vSize),vB ((rd z_api_Def x1 a0).vInt.vSigned),vI ((rd z_api_Def x1 a0).vRef),vI ((rd z_api_Def x1 a0).vN),vL Aad1_6 ((rd z_api_Def x1 a0).vFields).length cad1_6] 34 (0,0))::(some bx0, .cells #[Value.map (some mx0)] 144 (0,0))::(some mx0, .map esy1_1 cly1_1)::(some bx1, .cells #[vL Ax1 x1.length cx1] 24 (0,0))::(some bx2, .cells #[Value.func (.func 115) #[] #[vP bx0 0,vP bx1 0,vP bx2 0]] 140 (0,0))::rest) w') (fun us w'=>∃(eso1_0:Array MapEntry) (clo1_0:Nat),∃uo1_7 uo1_33 uo1_34 uo1_35 uo1_36 uo1_37 uo1_38 uo1_39 uo1_40 uo1_41:Value,us=[uo1_7,uo1_33,uo1_34,uo1_35,uo1_36,uo1_37,uo1_38,uo1_39,uo1_40,uo1_41]∧MapOk (vI) vB xx2 eso1_0 clo1_0∧St [] h0 w0 h ((some b2, .map es2 cl2)::(some b1, .cells #[vI ((rd z_api_Def x1 a0).vKind),vS ((rd z_api_Def x1 a0).vName),vI ((rd z_api_Def x1 a0).vInt.vSize),vB ((rd z_api_Def x1 a0).vInt.vSigned),vI ((rd z_api_Def x1 a0).vRef),vI ((rd z_api_Def x1 a0).vN),vL Aad1_6 ((rd z_api_Def x1 a0).vFields).length cad1_6] 34 (0,0))::(some bx0, .cells #[Value.map (some mx0)] 144 (0,0))::(some mx0, .map eso1_0 clo1_0)::(some bx1, .cells #[vL Ax1 x1.length cx1] 24 (0,0))::(some bx2, .cells #[Value.func (.func 115) #[] #[vP bx0 0,vP bx1 0,vP bx2 0]] 140 (0,0))::rest) w') k [undef,vI 0,undef,undef,undef,undef,undef,undef,undef,undef] (by simp only [patch,sc0,sc1]) ⟨0,xx1,esj1_0,clj1_0,_,_,_,_,_,_,_,_,_,rfl,H,hoj1_0,HS16⟩ ?_ ?_
     ·rintro m us w7 ⟨y1_0,y1_1,esy1_1,cly1_1,uy1_7,uy1_34,uy1_35,uy1_36,uy1_37,uy1_38,uy1_39,uy1_40,uy1_41,rfl,H,hoy1_1,HS17⟩
      cases m with
      |zero=>exact absurd H (by simp [ctf_reached_1.l0])
      |succ m=>
       rw [ctf_reached_1.l0] at H
       try simp only [patch,sc0,sc1]
       refine wp_seq ?_
       refine region ?_
       refine rs (vB (decide (y1_0<(((rd z_api_Def x1 a0).vFields).length:Int)))) (r_bin rfl rfl rfl) ?_
       try simp only [sc0,sc1]
       refine run_nil ?_
       refine norm_then ?_
       refine wp_seq ?_
       refine wp_cond_split (t:=(decide (y1_0<(((rd z_api_Def x1 a0).vFields).length:Int)))) rfl (fun c4=>?_) (fun c4=>?_)
       ·replace H:=of_pos H c4
        refine wp_skip ?_
        refine norm_then ?_
        refine wp_seq ?_
        refine wp_block ?_
        refine wp_seq ?_
        refine region ?_
        obtain ⟨hi2,H⟩:=of_ite H
        obtain ⟨ad2,e2,hel2⟩:=ld_api_Field hrad1_6 hi2.1 hi2.2
        refine rs (Value.pointer (some (Addr.add ad2 (y1_0.toNat*3)))) (r_indexA (sz:=3) rfl e2 rfl hi2.1 hi2.2 Tryd.runUnderlying32 Tryd.sizeOf36) ?_
        refine rs (Value.agg #[vS ((rd z_api_Field ((rd z_api_Def x1 a0).vFields) y1_0).vName),vI ((rd z_api_Field ((rd z_api_Def x1 a0).vFields) y1_0).vType),vI ((rd z_api_Field ((rd z_api_Def x1 a0).vFields) y1_0).vAt)]) (r_loadAgg rfl Tryd.isAgg36 (hel2.sees HS17.sees) Tryd.sizeOf36) ?_
        refine run_ex rfl rfl (does_alloc (cs:=#[vS ByteArray.empty,vI 0,vI 0]) Tryd.zeroValue36 rfl) ?_
        rintro w8 _ hE3 ⟨b3,rfl,ge3,hb3⟩
        have HS18:=HS17.new hE3 ge3 hb3
        refine run_st (i:=0) (cs:=[vS ByteArray.empty,vI 0,vI 0]) (cs':=[vS ((rd z_api_Field ((rd z_api_Def x1 a0).vFields) y1_0).vName),vI ((rd z_api_Field ((rd z_api_Def x1 a0).vFields) y1_0).vType),vI ((rd z_api_Field ((rd z_api_Def x1 a0).vFields) y1_0).vAt)]) (vs:=[vS ((rd z_api_Field ((rd z_api_Def x1 a0).vFields) y1_0).vName),vI ((rd z_api_Field ((rd z_api_Def x1 a0).vFields) y1_0).vType),vI ((rd z_api_Field ((rd z_api_Def x1 a0).vFields) y1_0).vAt)]) (bs':=((some b3, .cells #[vS ((rd z_api_Field ((rd z_api_Def x1 a0).vFields) y1_0).vName),vI ((rd z_api_Field ((rd z_api_Def x1 a0).vFields) y1_0).vType),vI ((rd z_api_Field ((rd z_api_Def x1 a0).vFields) y1_0).vAt)] 36 (0,0))::(some b2, .map es2 cl2)::(some b1, .cells #[vI ((rd z_api_Def x1 a0).vKind),vS ((rd z_api_Def x1 a0).vName),vI ((rd z_api_Def x1 a0).vInt.vSize),vB ((rd z_api_Def x1 a0).vInt.vSigned),vI ((rd z_api_Def x1 a0).vRef),vI ((rd z_api_Def x1 a0).vN),vL Aad1_6 ((rd z_api_Def x1 a0).vFields).length cad1_6] 34 (0,0))::(some bx0, .cells #[Value.map (some mx0)] 144 (0,0))::(some mx0, .map esy1_1 cly1_1)::(some bx1, .cells #[vL Ax1 x1.length cx1] 24 (0,0))::(some bx2, .cells #[Value.func (.func 115) #[] #[vP bx0 0,vP bx1 0,vP bx2 0]] 140 (0,0))::rest)) rfl rfl Tryd.sizeOf36 rfl rfl (by decide) rfl HS18 rfl (Nat.le_of_ble_eq_true rfl) rfl rfl ?_
        intro w9 HS19
        try simp only [sc0,sc1]
        refine run_nil ?_
        refine norm_then ?_
        refine region ?_
        refine rs (Value.func (.func 115) #[] #[vP bx0 0,vP bx1 0,vP bx2 0]) (r_loadBox rfl Tryd.isAgg140 (HS19.look 6 rfl) rfl) ?_
        refine rs (vP b3 1) (r_fieldBox (n:=1) (o':=1) rfl Tryd.runUnderlying36 rfl Tryd.sizeOf3 (by decide) rfl) ?_
        refine rs (vI ((rd z_api_Field ((rd z_api_Def x1 a0).vFields) y1_0).vType)) (r_loadBox rfl Tryd.isAgg3 (HS19.look 0 rfl) rfl) ?_
        obtain ⟨v3,H3,H⟩:=of_bind H
        have HS20:=HS19.f6
        have HS21:=HS20.f6
        have HS22:=HS21.f6
        have HS23:=HS22.f6
        refine run_call (vs:=[vI ((rd z_api_Field ((rd z_api_Def x1 a0).vFields) y1_0).vType)]) (caps:=[vP bx0 0,vP bx1 0,vP bx2 0]) Tryd.call115 rfl rfl (ih ((rd z_api_Field ((rd z_api_Def x1 a0).vFields) y1_0).vType) y1_1 x1 bx0 mx0 esy1_1 cly1_1 bx1 Ax1 cx1 bx2 HS23 hoy1_1 hrx1 hcx1 H3) ?_
        rintro _ w10 ⟨esv3_x0,clv3_x0,rfl,hov3_x0,HS24⟩
        refine ⟨_,rfl,?_⟩
        have HS25:=HS24.f3
        have HS26:=HS25.f3
        have HS27:=HS26.f3
        have HS28:=HS27.f3
        have HS29:=HS28.f6
        have HS30:=HS29.f6
        have HS31:=HS30.f6
        try simp only [sc0,sc1]
        refine run_nil ?_
        refine norm_block ?_
        refine norm_then ?_
        refine region ?_
        refine rs (vI (w64 (y1_0+1))) (r_bin rfl rfl rfl) ?_
        refine rs (vI (w64 (y1_0+1))) (r_move rfl) ?_
        try simp only [sc0,sc1]
        refine run_nil ?_
        refine again m [vP b3 0,vI (w64 (y1_0+1)),vB (decide (y1_0<(((rd z_api_Def x1 a0).vFields).length:Int))),Value.pointer (some (Addr.add ad2 (y1_0.toNat*3))),Value.agg #[vS ((rd z_api_Field ((rd z_api_Def x1 a0).vFields) y1_0).vName),vI ((rd z_api_Field ((rd z_api_Def x1 a0).vFields) y1_0).vType),vI ((rd z_api_Field ((rd z_api_Def x1 a0).vFields) y1_0).vAt)],Value.func (.func 115) #[] #[vP bx0 0,vP bx1 0,vP bx2 0],vP b3 1,vI ((rd z_api_Field ((rd z_api_Def x1 a0).vFields) y1_0).vType),Value.tuple #[],vI (w64 (y1_0+1))] (Nat.lt_succ_self m) (by simp only [patch,sc0,sc1]) ⟨(w64 (y1_0+1)),v3,esv3_x0,clv3_x0,_,_,_,_,_,_,_,_,_,rfl,H,hov3_x0,HS31.tail⟩
       ·replace H:=of_neg H (nt c4)
        refine wp_exit ?_
        refine exit_then ?_
        obtain rfl:=Option.some.inj H
        refine leave [uy1_7,vI y1_0,vB (decide (y1_0<(((rd z_api_Def x1 a0).vFields).length:Int))),uy1_35,uy1_36,uy1_37,uy1_38,uy1_39,uy1_40,uy1_41] (by simp only [patch,sc0,sc1]) ⟨esy1_1,cly1_1,_,_,_,_,_,_,_,_,_,_,rfl,hoy1_1,HS17⟩
     ·rintro us w11 ⟨eso1_0,clo1_0,uo1_7,uo1_33,uo1_34,uo1_35,uo1_36,uo1_37,uo1_38,uo1_39,uo1_40,uo1_41,rfl,hoo1_0,HS32⟩
      replace H:=G2
      clear G2
      try simp only [patch,sc0,sc1]
      obtain rfl:=Option.some.inj H
      refine bodyPost_end (results_none rfl _ _ _) rfl ?_
      have HS33:=HS32.d1
      have HS34:=HS33.d0
      exact ⟨eso1_0,clo1_0,rfl,hoo1_0,HS34⟩
    ·replace H:=of_neg H (nt c3)
     refine wp_skip ?_
     obtain rfl:=Option.some.inj H
     refine bodyPost_end (results_none rfl _ _ _) rfl ?_
     have HS35:=HS16.d1
     have HS36:=HS35.d0
     exact ⟨esj1_0,clj1_0,rfl,hoj1_0,HS36⟩

end Go.Proofs.YtfjppgobidjndaaDoor
namespace Go.Proofs.YtfjppgobidjndaaDoor
open Go.RowKit Go.M
def ctf_reached.l0 (k:Nat) (a0:api_Types) (a1:List Int):Nat→Int→(List (Int×Bool))→Option ((List (Int×Bool)))
 |0,_,_=>none
 |m+1,y1_0,y1_1=>if (decide (y1_0<(a1.length:Int)))=true then (if 0≤y1_0∧y1_0<a1.length then ((ctf_reached_1.f k (rd 0 a1 y1_0) y1_1 a0.vDefs).bind fun v1=>(ctf_reached.l0 k a0 a1 m (IntKind.wrap .i64 (y1_0+1)) v1)) else none) else (some y1_1)
def ctf_reached.f (k:Nat) (a0:api_Types) (a1:List Int):Option ((List (Int×Bool))):=(ctf_reached.l0 k a0 a1 k 0 ([]:List (Int×Bool))).bind fun xx1=>(some xx1)
set_option maxRecDepth 20000 in
set_option maxHeartbeats 4000000 in
theorem ctf_reached.calls (k:Nat) (a0:api_Types) (a1:List Int) (A0_0:Option Addr) (c0_0:Nat) (A1_0:Option Addr) (c1_0:Nat) {h0:View} {w0:World} (hv:Sees h0 w0) (hr0_0:Rd k_api_Def h0 A0_0 a0.vDefs) (hc0_0:a0.vDefs.length≤c0_0) (hr1_0:Rd (Kd.int .i64) h0 A1_0 a1) (hc1_0:a1.length≤c1_0) {r:(List (Int×Bool))} (H:ctf_reached.f k a0 a1=some r):Calls Tryd.prog 84 #[Value.agg #[vL A0_0 a0.vDefs.length c0_0],vL A1_0 a1.length c1_0] w0 (fun e w1=>∃(b:Nat) (es:Array MapEntry) (cl:Nat),e= .returned (.map (some b))∧(w0.heap.size≤b∧w1.heap[b]?=some (.map es cl))∧MapOk (vI) vB r es cl∧Ext w0 w1):=by
 unfold ctf_reached.f at H
 have HS:St [] h0 w0 h0 [] w0:=St.init hv
 go_enter Tryd.func84,Tryd.ntmps84
 refine wp_seq ?_
 refine region ?_
 refine run_ex rfl rfl (does_box (cs:=#[vL A0_0 a0.vDefs.length c0_0]) rfl rfl) ?_
 rintro w1 _ hE1 ⟨b1,rfl,ge1,hb1⟩
 have HS1:=HS.new hE1 ge1 hb1
 refine rs (Value.map none) (r_assign rfl) ?_
 try simp only [sc0,sc1]
 refine run_nil ?_
 refine norm_then ?_
 refine wp_seq ?_
 refine region ?_
 refine run_mkmap HS1 ?_
 intro w2 b2 HS2
 refine run_ex rfl rfl (does_alloc (cs:=#[Value.map none]) Tryd.zeroValue144 rfl) ?_
 rintro w3 _ hE2 ⟨b3,rfl,ge2,hb2⟩
 have HS3:=HS2.new hE2 ge2 hb2
 refine run_st (i:=0) (cs:=[Value.map none]) (cs':=[Value.map (some b2)]) (vs:=[Value.map (some b2)]) (bs':=[(some b3, .cells #[Value.map (some b2)] 144 (0,0)),(some b2, .map #[] 0),(some b1, .cells #[vL A0_0 a0.vDefs.length c0_0] 24 (0,0))]) rfl rfl Tryd.sizeOf144 rfl rfl (by decide) rfl HS3 rfl (Nat.le_of_ble_eq_true rfl) rfl rfl ?_
 intro w4 HS4
 try simp only [sc0,sc1]
 refine run_nil ?_
 refine norm_then ?_
 refine wp_seq ?_
 refine region ?_
 refine run_ex rfl rfl (does_alloc (cs:=#[Value.nilFunc]) Tryd.zeroValue140 rfl) ?_
 rintro w5 _ hE3 ⟨b4,rfl,ge3,hb3⟩
 have HS5:=HS4.new hE3 ge3 hb3
 try simp only [sc0,sc1]
 refine run_nil ?_
 refine norm_then ?_
 refine wp_seq ?_
 refine region ?_
 refine rs (Value.func (.func 115) #[] #[vP b3 0,vP b1 0,vP b4 0]) (r_makeFunc (vs:=[vP b3 0,vP b1 0,vP b4 0]) rfl) ?_
 refine run_st (i:=0) (cs:=[Value.nilFunc]) (cs':=[Value.func (.func 115) #[] #[vP b3 0,vP b1 0,vP b4 0]]) (vs:=[Value.func (.func 115) #[] #[vP b3 0,vP b1 0,vP b4 0]]) (bs':=[(some b4, .cells #[Value.func (.func 115) #[] #[vP b3 0,vP b1 0,vP b4 0]] 140 (0,0)),(some b3, .cells #[Value.map (some b2)] 144 (0,0)),(some b2, .map #[] 0),(some b1, .cells #[vL A0_0 a0.vDefs.length c0_0] 24 (0,0))]) rfl rfl Tryd.sizeOf140 rfl rfl (by decide) rfl HS5 rfl (Nat.le_of_ble_eq_true rfl) rfl rfl ?_
 intro w6 HS6
 try simp only [sc0,sc1]
 refine run_nil ?_
 refine norm_then ?_
 refine wp_seq ?_
 refine wp_seq ?_
 refine region ?_
 refine rs (vL A1_0 a1.length c1_0) (r_move rfl) ?_
 refine rs (vI (a1.length:Int)) (r_len rfl Tryd.runUnderlying62) ?_
 refine rs (vI 0) (r_move rfl) ?_
 try simp only [sc0,sc1]
 refine run_nil ?_
 refine norm_then ?_
 obtain ⟨xx1,H,G1⟩:=of_bind H
 refine loop_patch [8,13,14,15,16,17,18,19,20] (fun m us w'=>∃(y1_0:Int),∃(y1_1:List (Int×Bool)),∃(esy1_1:Array MapEntry) (cly1_1:Nat),∃uy1_8 uy1_14 uy1_15 uy1_16 uy1_17 uy1_18 uy1_19 uy1_20:Value,us=[uy1_8,vI y1_0,uy1_14,uy1_15,uy1_16,uy1_17,uy1_18,uy1_19,uy1_20]∧ctf_reached.l0 k a0 a1 m y1_0 y1_1=some xx1∧MapOk (vI) vB y1_1 esy1_1 cly1_1∧St [] h0 w0 h0 [(some b4, .cells #[Value.func (.func 115) #[] #[vP b3 0,vP b1 0,vP b4 0]] 140 (0,0)),(some b3, .cells #[Value.map (some b2)] 144 (0,0)),(some b2, .map esy1_1 cly1_1),(some b1, .cells #[vL A0_0 a0.vDefs.length c0_0] 24 (0,0))] w') (fun us w'=>∃(eso1_0:Array MapEntry) (clo1_0:Nat),∃uo1_8 uo1_13 uo1_14 uo1_15 uo1_16 uo1_17 uo1_18 uo1_19 uo1_20:Value,us=[uo1_8,uo1_13,uo1_14,uo1_15,uo1_16,uo1_17,uo1_18,uo1_19,uo1_20]∧MapOk (vI) vB xx1 eso1_0 clo1_0∧St [] h0 w0 h0 [(some b4, .cells #[Value.func (.func 115) #[] #[vP b3 0,vP b1 0,vP b4 0]] 140 (0,0)),(some b3, .cells #[Value.map (some b2)] 144 (0,0)),(some b2, .map eso1_0 clo1_0),(some b1, .cells #[vL A0_0 a0.vDefs.length c0_0] 24 (0,0))] w') k [undef,vI 0,undef,undef,undef,undef,undef,undef,undef] (by simp only [patch,sc0,sc1]) ⟨0,([]:List (Int×Bool)),#[],0,_,_,_,_,_,_,_,_,rfl,H,(MapOk.nil),HS6⟩ ?_ ?_
 ·rintro m us w7 ⟨y1_0,y1_1,esy1_1,cly1_1,uy1_8,uy1_14,uy1_15,uy1_16,uy1_17,uy1_18,uy1_19,uy1_20,rfl,H,hoy1_1,HS7⟩
  cases m with
  |zero=>exact absurd H (by simp [ctf_reached.l0])
  |succ m=>
   rw [ctf_reached.l0] at H
   try simp only [patch,sc0,sc1]
   refine wp_seq ?_
   refine region ?_
   refine rs (vB (decide (y1_0<(a1.length:Int)))) (r_bin rfl rfl rfl) ?_
   try simp only [sc0,sc1]
   refine run_nil ?_
   refine norm_then ?_
   refine wp_seq ?_
   refine wp_cond_split (t:=(decide (y1_0<(a1.length:Int)))) rfl (fun c1=>?_) (fun c1=>?_)
   ·replace H:=of_pos H c1
    refine wp_skip ?_
    refine norm_then ?_
    refine wp_seq ?_
    refine wp_block ?_
    refine wp_seq ?_
    refine region ?_
    obtain ⟨hi1,H⟩:=of_ite H
    obtain ⟨ad1,e1,hel1⟩:=ld_int hr1_0 hi1.1 hi1.2
    refine rs (Value.pointer (some (Addr.add ad1 (y1_0.toNat*1)))) (r_indexA (sz:=1) rfl e1 rfl hi1.1 hi1.2 Tryd.runUnderlying62 Tryd.sizeOf3) ?_
    refine rs (vI (rd 0 a1 y1_0)) (r_load rfl Tryd.isAgg3 (hel1.cell0 HS7.sees rfl)) ?_
    refine rs (vI (rd 0 a1 y1_0)) (r_assign rfl) ?_
    try simp only [sc0,sc1]
    refine run_nil ?_
    refine norm_then ?_
    refine region ?_
    refine rs (Value.func (.func 115) #[] #[vP b3 0,vP b1 0,vP b4 0]) (r_loadBox rfl Tryd.isAgg140 (HS7.look 0 rfl) rfl) ?_
    refine rs (vI (rd 0 a1 y1_0)) (r_move rfl) ?_
    obtain ⟨v1,H1,H⟩:=of_bind H
    have HS8:=HS7.f3
    have HS9:=HS8.f3
    have HS10:=HS9.f3
    refine run_call (vs:=[vI (rd 0 a1 y1_0)]) (caps:=[vP b3 0,vP b1 0,vP b4 0]) Tryd.call115 rfl rfl (ctf_reached_1.calls k (rd 0 a1 y1_0) y1_1 a0.vDefs b3 b2 esy1_1 cly1_1 b1 A0_0 c0_0 b4 HS10 hoy1_1 hr0_0 hc0_0 H1) ?_
    rintro _ w8 ⟨esv1_x0,clv1_x0,rfl,hov1_x0,HS11⟩
    refine ⟨_,rfl,?_⟩
    have HS12:=HS11.f2
    have HS13:=HS12.f2
    have HS14:=HS13.f2
    have HS15:=HS14.f3
    try simp only [sc0,sc1]
    refine run_nil ?_
    refine norm_block ?_
    refine norm_then ?_
    refine region ?_
    refine rs (vI (w64 (y1_0+1))) (r_bin rfl rfl rfl) ?_
    refine rs (vI (w64 (y1_0+1))) (r_move rfl) ?_
    try simp only [sc0,sc1]
    refine run_nil ?_
    refine again m [vI (rd 0 a1 y1_0),vI (w64 (y1_0+1)),vB (decide (y1_0<(a1.length:Int))),Value.pointer (some (Addr.add ad1 (y1_0.toNat*1))),vI (rd 0 a1 y1_0),Value.func (.func 115) #[] #[vP b3 0,vP b1 0,vP b4 0],vI (rd 0 a1 y1_0),Value.tuple #[],vI (w64 (y1_0+1))] (Nat.lt_succ_self m) (by simp only [patch,sc0,sc1]) ⟨(w64 (y1_0+1)),v1,esv1_x0,clv1_x0,_,_,_,_,_,_,_,_,rfl,H,hov1_x0,HS15⟩
   ·replace H:=of_neg H (nt c1)
    refine wp_exit ?_
    refine exit_then ?_
    obtain rfl:=Option.some.inj H
    refine leave [uy1_8,vI y1_0,vB (decide (y1_0<(a1.length:Int))),uy1_15,uy1_16,uy1_17,uy1_18,uy1_19,uy1_20] (by simp only [patch,sc0,sc1]) ⟨esy1_1,cly1_1,_,_,_,_,_,_,_,_,_,rfl,hoy1_1,HS7⟩
 ·rintro us w9 ⟨eso1_0,clo1_0,uo1_8,uo1_13,uo1_14,uo1_15,uo1_16,uo1_17,uo1_18,uo1_19,uo1_20,rfl,hoo1_0,HS16⟩
  replace H:=G1
  clear G1
  try simp only [patch,sc0,sc1]
  refine norm_then ?_
  refine wp_seq ?_
  refine region ?_
  refine rs (Value.map (some b2)) (r_loadBox rfl Tryd.isAgg144 (HS16.look 1 rfl) rfl) ?_
  refine rs (Value.map (some b2)) (r_assign rfl) ?_
  try simp only [sc0,sc1]
  refine run_nil ?_
  refine norm_then ?_
  refine wp_ret ?_
  obtain rfl:=Option.some.inj H
  refine bodyPost_ret (results_1 rfl (one_tmp rfl)) rfl ?_
  exact ⟨b2,eso1_0,clo1_0,rfl,HS16.fresh 2 rfl,hoo1_0,HS16.toE⟩

end Go.Proofs.YtfjppgobidjndaaDoor
namespace Go.Proofs.YtfjppgobidjndaaDoor
open Go.RowKit Go.M
def kids (d:api_Def):List Int:=if d.vKind=2∨d.vKind=3∨d.vKind=6 then [d.vRef] else if d.vKind=4 then d.vFields.map (·.vType) else []
inductive Rch (t:api_Types) (i:Nat):Nat→Prop
  |refl:Rch t i i
  |step {k:Nat} {c:Int} (h:Rch t i k) (hc:c∈kids (dAt t k)):Rch t i c.toNat
theorem kids_ref {d:api_Def} (h:d.vKind=2∨d.vKind=3∨d.vKind=6):kids d=[d.vRef]:=by unfold kids;rw [if_pos h]
theorem kids_struct {d:api_Def} (h:d.vKind=4):kids d=d.vFields.map (·.vType):=by unfold kids;rw [if_neg (by omega),if_pos h]
theorem kids_none {d:api_Def} (h:¬(d.vKind=2∨d.vKind=3∨d.vKind=6)) (h4:d.vKind≠4):kids d=[]:=by unfold kids;rw [if_neg h,if_neg h4]
section
variable {t:api_Types} {l:List Int}
theorem kids_range (W:Wf t l) {i:Nat} (hi:i<t.vDefs.length) {c:Int} (hc:c∈kids (dAt t i)):c=((c.toNat:Nat):Int)∧c.toNat<t.vDefs.length:=by
  have hd:=W.sh _ (dAt_mem hi)
  by_cases h:(dAt t i).vKind=2∨(dAt t i).vKind=3∨(dAt t i).vKind=6
  · rw [kids_ref h] at hc
    have:=hd.ref h
    rw [List.mem_singleton.1 hc]
    omega
  · by_cases h4:(dAt t i).vKind=4
    · rw [kids_struct h4] at hc
      obtain ⟨f,hf,rfl⟩:=List.mem_map.1 hc
      have:=hd.typ h4 f hf
      omega
    · rw [kids_none h h4] at hc;cases hc
theorem Rch.lt (W:Wf t l) {i k:Nat} (hi:i<t.vDefs.length) (h:Rch t i k):k<t.vDefs.length:=by
  induction h with
  |refl=>exact hi
  |step h hc ih=>exact (kids_range W ih hc).2
theorem Rch.trans {i j k:Nat} (h:Rch t i j) (g:Rch t j k):Rch t i k:=by
  induction g with
  |refl=>exact h
  |step g hc ih=>exact .step ih hc
def keysL (m:List (Int×Bool)):List Int:=m.map (·.1)
def AllT (m:List (Int×Bool)):Prop:=∀p∈m,p.2=true
theorem find_keys {m:List (Int×Bool)} (h:AllT m) (y:Int):(mfind ieq m y).getD false=true↔y∈keysL m:=by
  induction m with
  |nil=>simp [mfind,keysL]
  |cons p m ih=>
    have ih:=ih (fun q hq=>h q (List.mem_cons_of_mem _ hq))
    simp only [mfind,keysL,List.map_cons,List.mem_cons]
    by_cases hy:ieq y p.1=true
    · rw [if_pos hy]
      have e:y=p.1:=by simpa [ieq] using hy
      simp [h p List.mem_cons_self,e]
    · rw [if_neg hy]
      have e:y≠p.1:=by simpa [ieq] using hy
      rw [ih]
      simp [e,keysL]
theorem put_keys (m:List (Int×Bool)) (y z:Int) (v:Bool):z∈keysL (mput ieq m y v)↔z∈keysL m∨z=y:=by
  induction m with
  |nil=>simp [mput,keysL]
  |cons p m ih=>
    simp only [mput]
    by_cases hy:ieq y p.1=true
    · rw [if_pos hy]
      have e:y=p.1:=by simpa [ieq] using hy
      simp only [keysL,List.map_cons,List.mem_cons]
      constructor
      · rintro (h|h)
        · exact .inr h
        · exact .inl (.inr h)
      · rintro ((h|h)|h)
        · exact .inl (by rw [h,e])
        · exact .inr h
        · exact .inl h
    · rw [if_neg hy]
      simp only [keysL,List.map_cons,List.mem_cons] at ih⊢
      rw [ih]
      constructor
      · rintro (h|h|h)
        · exact .inl (.inl h)
        · exact .inl (.inr h)
        · exact .inr h
      · rintro ((h|h)|h)
        · exact .inl h
        · exact .inr (.inl h)
        · exact .inr (.inr h)
theorem put_all {m:List (Int×Bool)} (h:AllT m) (y:Int):AllT (mput ieq m y true):=by
  induction m with
  |nil=>intro p hp;simp [mput] at hp;rw [hp]
  |cons p m ih=>
    have ih:=ih (fun q hq=>h q (List.mem_cons_of_mem _ hq))
    simp only [mput]
    split
    · intro q hq
      rcases List.mem_cons.1 hq with rfl|hq
      · rfl
      · exact h q (List.mem_cons_of_mem _ hq)
    · intro q hq
      rcases List.mem_cons.1 hq with rfl|hq
      · exact h q List.mem_cons_self
      · exact ih q hq
def unv (n:Nat) (m:List (Int×Bool)):Nat:=((List.range n).filter fun k=> !(keysL m).contains ((k:Nat):Int)).length
theorem filter_less {p q:Nat→Bool}:∀{l:List Nat},(∀x∈l,q x=true→p x=true)→(∃x∈l,p x=true∧q x=false)→(l.filter q).length<(l.filter p).length
  |[],_,h=>by obtain ⟨x,hx,_⟩:=h;cases hx
  |y::l,h,hx=>by
    have hle:∀{l:List Nat},(∀x∈l,q x=true→p x=true)→(l.filter q).length≤(l.filter p).length:=by
      intro l
      induction l with
      |nil=>intro _;simp
      |cons z l ih=>
        intro h
        have:=ih (fun x hx=>h x (List.mem_cons_of_mem _ hx))
        rw [List.filter_cons,List.filter_cons]
        by_cases hq:q z=true
        · rw [if_pos hq,if_pos (h z List.mem_cons_self hq)];simpa using this
        · rw [if_neg hq]
          split
          · simp;omega
          · exact this
    rw [List.filter_cons,List.filter_cons]
    obtain ⟨x,hx,hp,hq⟩:=hx
    rcases List.mem_cons.1 hx with rfl|hx
    · rw [if_pos hp,if_neg (by rw [hq];simp)]
      have:=hle (l:=l) (fun x hx=>h x (List.mem_cons_of_mem _ hx))
      simp;omega
    · have ih:=filter_less (l:=l) (fun x hx=>h x (List.mem_cons_of_mem _ hx)) ⟨x,hx,hp,hq⟩
      by_cases hqy:q y=true
      · rw [if_pos hqy,if_pos (h y List.mem_cons_self hqy)];simpa using ih
      · rw [if_neg hqy]
        split
        · simp;omega
        · exact ih
theorem unv_put {n:Nat} {m:List (Int×Bool)} {i:Nat} (hi:i<n) (h:((i:Nat):Int)∉keysL m):unv n (mput ieq m (i:Int) true)<unv n m:=by
  unfold unv
  refine filter_less (fun x _ hx=>?_) ⟨i,List.mem_range.2 hi,?_,?_⟩
  · simp only [Bool.not_eq_true'] at hx⊢
    cases hc:(keysL m).contains ((x:Nat):Int) with
    |false=>rfl
    |true=>
      have:((x:Nat):Int)∈keysL (mput ieq m (i:Int) true):=(put_keys _ _ _ _).2 (.inl (List.contains_iff_mem.1 hc))
      rw [List.contains_iff_mem.2 this] at hx
      cases hx
  · simp only [Bool.not_eq_true']
    cases hc:(keysL m).contains ((i:Nat):Int) with
    |false=>rfl
    |true=>exact absurd (List.contains_iff_mem.1 hc) h
  · simp only [Bool.not_eq_false']
    exact List.contains_iff_mem.2 ((put_keys _ _ _ _).2 (.inr rfl))
theorem unv_le {n:Nat} {m m':List (Int×Bool)} (h:∀y∈keysL m,y∈keysL m'):unv n m'≤unv n m:=by
  unfold unv
  have hle:∀{p q:Nat→Bool} {l:List Nat},(∀x∈l,q x=true→p x=true)→(l.filter q).length≤(l.filter p).length:=by
    intro p q l
    induction l with
    |nil=>intro _;simp
    |cons z l ih=>
      intro h
      have:=ih (fun x hx=>h x (List.mem_cons_of_mem _ hx))
      rw [List.filter_cons,List.filter_cons]
      by_cases hq:q z=true
      · rw [if_pos hq,if_pos (h z List.mem_cons_self hq)];simpa using this
      · rw [if_neg hq]
        split
        · simp;omega
        · exact this
  refine hle (fun x _ hx=>?_)
  simp only [Bool.not_eq_true'] at hx⊢
  cases hc:(keysL m).contains ((x:Nat):Int) with
  |false=>rfl
  |true=>rw [List.contains_iff_mem.2 (h _ (List.contains_iff_mem.1 hc))] at hx;cases hx
structure Seen (t:api_Types) (from_:Nat→Prop) (m m':List (Int×Bool)):Prop where
  all:AllT m'
  mono:∀y∈keysL m,y∈keysL m'
  new:∀y∈keysL m',y∉keysL m→∃k:Nat,y=(k:Int)∧(∃i,from_ i∧Rch t i k)∧∀c∈kids (dAt t k),c∈keysL m'
theorem Seen.rfl' {from_:Nat→Prop} {m:List (Int×Bool)} (h:AllT m):Seen t from_ m m:=⟨h,fun _ h=>h,fun y h1 h2=>absurd h1 h2⟩
theorem Seen.then {F G H:Nat→Prop} {a b c:List (Int×Bool)} (h:Seen t F a b) (g:Seen t G b c) (hF:∀i,F i→H i) (hG:∀i,G i→H i):Seen t H a c:=by
  refine ⟨g.all,fun y hy=>g.mono y (h.mono y hy),fun y hy hn=>?_⟩
  by_cases hb:y∈keysL b
  · obtain ⟨k,e,⟨i,h1,h2⟩,h3⟩:=h.new y hb hn
    exact ⟨k,e,⟨i,hF i h1,h2⟩,fun c hc=>g.mono c (h3 c hc)⟩
  · obtain ⟨k,e,⟨i,h1,h2⟩,h3⟩:=g.new y hy hb
    exact ⟨k,e,⟨i,hG i h1,h2⟩,h3⟩
def VisitOk (t:api_Types) (i:Nat) (m:List (Int×Bool)):Prop:=∃m',Ev (fun k=>ctf_reached_1.f k (i:Int) m t.vDefs) m'∧Seen t (fun q=>q=i) m m'∧((i:Nat):Int)∈keysL m'
theorem visit_loop {i:Nat} {U:Nat} (hl:(dAt t i).vFields.length≤9223372036854775807) (hr:∀f∈(dAt t i).vFields,f.vType=((f.vType.toNat:Nat):Int)∧f.vType.toNat<t.vDefs.length)
    (hv:∀(c:Nat) (m:List (Int×Bool)),c<t.vDefs.length→AllT m→unv t.vDefs.length m<U→VisitOk t c m):∀(e j:Nat) (m:List (Int×Bool)),j+e=(dAt t i).vFields.length→AllT m→unv t.vDefs.length m<U→
    ∃m',(∃K,∀k q,K≤k→K≤q→ctf_reached_1.l0 (ctf_reached_1.f k) (i:Int) t.vDefs q (j:Int) m=some m')∧Seen t (fun q=>∃f∈(dAt t i).vFields,f.vType.toNat=q) m m'∧∀f∈(dAt t i).vFields.drop j,f.vType∈keysL m':=by
  intro e
  induction e with
  |zero=>
    intro j m hj hm hU
    refine ⟨m,⟨1,fun k q _ hq=>?_⟩,Seen.rfl' hm,?_⟩
    · obtain ⟨q,rfl⟩:∃p,q=p+1:=⟨q-1,by omega⟩
      rw [ctf_reached_1.l0,rd_dAt,if_neg (by simp;omega)]
    · rw [List.drop_eq_nil_of_le (by omega)];simp
  |succ e ih=>
    intro j m hj hm hU
    have hlt:j<(dAt t i).vFields.length:=by omega
    have hf:=hr _ (getD_mem (z:=z_api_Field) hlt)
    obtain ⟨m1,⟨K1,h1⟩,s1,k1⟩:=hv ((dAt t i).vFields.getD j z_api_Field).vType.toNat m hf.2 hm hU
    obtain ⟨m2,⟨K2,h2⟩,s2,k2⟩:=ih (j+1) m1 (by omega) s1.all (Nat.lt_of_le_of_lt (unv_le s1.mono) hU)
    refine ⟨m2,⟨max K1 K2+1,fun k q hk hq=>?_⟩,s1.then s2 (fun q hq=>⟨_,getD_mem (z:=z_api_Field) hlt,hq.symm⟩) (fun _ h=>h),?_⟩
    · obtain ⟨q,rfl⟩:∃p,q=p+1:=⟨q-1,by omega⟩
      rw [ctf_reached_1.l0,rd_dAt,if_pos (by simp;omega),if_pos (by omega),rd_nat,hf.1,show ctf_reached_1.f k _ _ _=_ from h1 k (by omega)]
      simp only [Option.bind_some]
      rw [wrap_nat hlt hl]
      exact h2 k q (by omega) (by omega)
    · rw [drop_getD z_api_Field hlt]
      intro f hfm
      rcases List.mem_cons.1 hfm with rfl|hfm
      · rw [hf.1];exact s2.mono _ k1
      · exact k2 f hfm
theorem shp_ref (k:Int):((shp k).getD z_ctf_shape).vref=decide (k=2∨k=3∨k=6):=by
  unfold shp
  repeat' split
  all_goals first|(subst_vars;rfl)|(rw [decide_eq_false (by omega)];rfl)
theorem visit (W:Wf t l):∀(U i:Nat) (m:List (Int×Bool)),unv t.vDefs.length m=U→i<t.vDefs.length→AllT m→VisitOk t i m:=by
  intro U
  induction U using Nat.strongRecOn with
  |_ U ih=>
    intro i m hU hi hm
    by_cases hin:((i:Nat):Int)∈keysL m
    · refine ⟨m,Ev.succ (Ev.pure fun k=>?_),Seen.rfl' hm,hin⟩
      rw [ctf_reached_1.f,if_pos ((find_keys hm _).2 hin)]
    · have hnf:¬(mfind ieq m (i:Int)).getD false=true:=fun h=>hin ((find_keys hm _).1 h)
      have hless:=unv_put (n:=t.vDefs.length) hi hin
      have hall:=put_all hm (i:Int)
      obtain ⟨ms,hms,hsh⟩:=shapes_find (dAt t i).vKind
      have hd:=W.sh _ (dAt_mem hi)
      have hself:((i:Nat):Int)∈keysL (mput ieq m (i:Int) true):=(put_keys _ _ _ _).2 (.inr rfl)
      by_cases hk:(dAt t i).vKind=2∨(dAt t i).vKind=3∨(dAt t i).vKind=6
      · obtain ⟨hr1,hr2⟩:=ref_lt W hi hk
        obtain ⟨m2,⟨K,hK⟩,s2,k2⟩:=ih _ (by rw [←hU];exact hless) (dAt t i).vRef.toNat (mput ieq m (i:Int) true) rfl hr2 hall
        refine ⟨m2,⟨K+1,fun k hk'=>?_⟩,⟨s2.all,fun y hy=>s2.mono y ((put_keys _ _ _ _).2 (.inl hy)),fun y hy hn=>?_⟩,s2.mono _ hself⟩
        · obtain ⟨k,rfl⟩:∃q,k=q+1:=⟨k-1,by omega⟩
          show ctf_reached_1.f (k+1) (i:Int) m t.vDefs=_
          rw [ctf_reached_1.f,if_neg hnf,if_pos (by omega),rd_dAt,hms]
          simp only [Option.bind_some]
          rw [hsh,shp_ref,if_pos (decide_eq_true hk),hr1,show ctf_reached_1.f k _ _ _=_ from hK k (by omega)]
          simp only [Option.bind_some]
          rw [if_neg (beqF (by omega))]
        · by_cases hy1:y∈keysL (mput ieq m (i:Int) true)
          · rcases (put_keys _ _ _ _).1 hy1 with h|h
            · exact absurd h hn
            · refine ⟨i,h,⟨i,rfl, .refl⟩,fun c hc=>?_⟩
              rw [kids_ref hk] at hc
              rw [List.mem_singleton.1 hc,hr1]
              exact k2
          · obtain ⟨k,e,⟨q,h1,h2⟩,h3⟩:=s2.new y hy hy1
            subst h1
            refine ⟨k,e,⟨i,rfl,?_⟩,h3⟩
            have hstep:Rch t i (dAt t i).vRef.toNat:=Rch.step (c:=(dAt t i).vRef) .refl (by rw [kids_ref hk];exact List.mem_singleton.2 rfl)
            exact hstep.trans h2
      · by_cases h4:(dAt t i).vKind=4
        · have hfr:∀f∈(dAt t i).vFields,f.vType=((f.vType.toNat:Nat):Int)∧f.vType.toNat<t.vDefs.length:=fun f hf=>by have:=hd.typ h4 f hf;omega
          obtain ⟨m2,⟨K,hK⟩,s2,k2⟩:=visit_loop (t:=t) (i:=i) (U:=unv t.vDefs.length m) (by have:=hd.few;omega) hfr (fun c m' hc hm' hlt=>ih _ (by rw [←hU];exact hlt) c m' rfl hc hm') (dAt t i).vFields.length 0 (mput ieq m (i:Int) true) (by omega) hall hless
          rw [List.drop_zero] at k2
          refine ⟨m2,⟨K+1,fun k hk'=>?_⟩,⟨s2.all,fun y hy=>s2.mono y ((put_keys _ _ _ _).2 (.inl hy)),fun y hy hn=>?_⟩,s2.mono _ hself⟩
          · obtain ⟨k,rfl⟩:∃q,k=q+1:=⟨k-1,by omega⟩
            show ctf_reached_1.f (k+1) (i:Int) m t.vDefs=_
            rw [ctf_reached_1.f,if_neg hnf,if_pos (by omega),rd_dAt,hms]
            simp only [Option.bind_some]
            rw [hsh,shp_ref,if_neg (by simpa using hk)]
            simp only [Option.bind_some]
            rw [if_pos (beqT h4),show ctf_reached_1.l0 (ctf_reached_1.f k) (i:Int) t.vDefs k 0 _=_ from hK k k (by omega) (by omega)]
            rfl
          · by_cases hy1:y∈keysL (mput ieq m (i:Int) true)
            · rcases (put_keys _ _ _ _).1 hy1 with h|h
              · exact absurd h hn
              · refine ⟨i,h,⟨i,rfl, .refl⟩,fun c hc=>?_⟩
                rw [kids_struct h4] at hc
                obtain ⟨f,hf,rfl⟩:=List.mem_map.1 hc
                exact k2 f hf
            · obtain ⟨k,e,⟨q,⟨f,hf,h1⟩,h2⟩,h3⟩:=s2.new y hy hy1
              subst h1
              refine ⟨k,e,⟨i,rfl,?_⟩,h3⟩
              have hstep:Rch t i f.vType.toNat:=Rch.step (c:=f.vType) .refl (by rw [kids_struct h4];exact List.mem_map.2 ⟨f,hf,rfl⟩)
              exact hstep.trans h2
        · refine ⟨mput ieq m (i:Int) true,Ev.succ (Ev.pure fun k=>?_),⟨hall,fun y hy=>(put_keys _ _ _ _).2 (.inl hy),fun y hy hn=>?_⟩,hself⟩
          · rw [ctf_reached_1.f,if_neg hnf,if_pos (by omega),rd_dAt,hms]
            simp only [Option.bind_some]
            rw [hsh,shp_ref,if_neg (by simpa using hk)]
            simp only [Option.bind_some]
            rw [if_neg (beqF h4)]
          · rcases (put_keys _ _ _ _).1 hy with h|h
            · exact absurd h hn
            · refine ⟨i,h,⟨i,rfl, .refl⟩,fun c hc=>?_⟩
              rw [kids_none hk h4] at hc;cases hc
def natL (l:List Nat):List Int:=l.map fun i=>((i:Nat):Int)
theorem rd_natL (l:List Nat) (j:Nat) (hj:j<l.length):rd 0 (natL l) (j:Int)=((l.getD j 0:Nat):Int):=by
  rw [rd_nat]
  unfold natL
  rw [List.getD_eq_getElem?_getD,List.getElem?_map,List.getElem?_eq_getElem hj,List.getD_eq_getElem?_getD,List.getElem?_eq_getElem hj]
  rfl
theorem reached_loop (W:Wf t l) {fr:List Nat} (hf:∀i∈fr,i<t.vDefs.length) (hl:fr.length≤9223372036854775807):∀(e j:Nat) (m:List (Int×Bool)),j+e=fr.length→AllT m→
    ∃m',Ev2 (fun k q=>ctf_reached.l0 k t (natL fr) q (j:Int) m) m'∧Seen t (fun q=>q∈fr) m m'∧∀i∈fr.drop j,((i:Nat):Int)∈keysL m':=by
  have hln:(natL fr).length=fr.length:=by unfold natL;rw [List.length_map]
  intro e
  induction e with
  |zero=>
    intro j m hj hm
    refine ⟨m,Ev2.pure (fun k q=>?_),Seen.rfl' hm,?_⟩
    · rw [ctf_reached.l0,if_neg (by rw [hln];simp;omega)]
    · rw [List.drop_eq_nil_of_le (by omega)];simp
  |succ e ih=>
    intro j m hj hm
    have hlt:j<fr.length:=by omega
    have hmem:=getD_mem (z:=0) hlt
    obtain ⟨m1,h1,s1,k1⟩:=visit W _ (fr.getD j 0) m rfl (hf _ hmem) hm
    obtain ⟨m2,h2,s2,k2⟩:=ih (j+1) m1 (by omega) s1.all
    refine ⟨m2,Ev2.step h1 (r:=fun k q v1=>ctf_reached.l0 k t (natL fr) q ((j+1:Nat):Int) v1) h2 (fun k q=>?_),s1.then s2 (fun q hq=>by rw [hq];exact hmem) (fun _ h=>h),?_⟩
    · rw [ctf_reached.l0,if_pos (by rw [hln];simp;omega),if_pos (by rw [hln];omega),rd_natL _ _ hlt,wrap_nat hlt hl]
    · rw [drop_getD 0 hlt]
      intro i him
      rcases List.mem_cons.1 him with rfl|him
      · exact s2.mono _ k1
      · exact k2 i him
theorem reached_ev (W:Wf t l) {fr:List Nat} (hf:∀i∈fr,i<t.vDefs.length) (hl:fr.length≤9223372036854775807):∃mv,Ev (fun k=>ctf_reached.f k t (natL fr)) mv∧AllT mv∧∀y,y∈keysL mv↔∃k:Nat,y=(k:Int)∧∃i∈fr,Rch t i k:=by
  obtain ⟨mv,h1,s,h2⟩:=reached_loop W hf hl fr.length 0 [] (by omega) (by intro p hp;cases hp)
  rw [List.drop_zero] at h2
  obtain ⟨K,hK⟩:=h1.diag
  have hnil:∀y,y∉keysL []:=fun y h=>by cases h
  refine ⟨mv,⟨K,fun k hk=>?_⟩,s.all,fun y=>⟨fun hy=>?_,fun h=>?_⟩⟩
  · show ctf_reached.f k t (natL fr)=_
    unfold ctf_reached.f
    rw [show ctf_reached.l0 k t (natL fr) k 0 []=_ from hK k hk]
    rfl
  · obtain ⟨k,e,⟨i,h3,h4⟩,_⟩:=s.new y hy (hnil y)
    exact ⟨k,e,i,h3,h4⟩
  · obtain ⟨k,rfl,i,hi,hr⟩:=h
    induction hr with
    |refl=>exact h2 i hi
    |step h hc ih=>
      obtain ⟨k,e,_,h5⟩:=s.new _ ih (hnil _)
      have e:_=k:=Int.ofNat.inj e
      subst e
      have h6:=h5 _ hc
      have h7:=(kids_range W (Rch.lt W (hf i hi) h) hc).1
      rw [←h7];exact h6
end
end Go.Proofs.YtfjppgobidjndaaDoor
namespace Go.M
open Go.RowKit

def allK {κ ν ρ:Type} [DecidableEq ρ] (f:κ→ν→Option (ρ⊕Unit)):List (κ×ν)→Option (ρ⊕Unit)
  |[]=>some (.inr ())
  |p::r=>(f p.1 p.2).bind fun x=>(allK f r).bind fun y=>match x,y with| .inr _,y=>some y| .inl a, .inr _=>some (.inl a)| .inl a, .inl b=>if a=b then some (.inl a) else none
section
variable {κ ν ρ:Type} [DecidableEq ρ] {f:κ→ν→Option (ρ⊕Unit)}
theorem allK_at:∀{m:List (κ×ν)} {xx:ρ⊕Unit},allK f m=some xx→∀p∈m,∃zz,f p.1 p.2=some zz∧∀a,zz= .inl a→xx= .inl a
  |[],_,_,_,hp=>by cases hp
  |q::r,xx,H,p,hp=>by
    rw [allK] at H
    obtain ⟨x,hx,H⟩:=of_bind H
    obtain ⟨y,hy,H⟩:=of_bind H
    rcases List.mem_cons.1 hp with rfl|hp
    · refine ⟨x,hx,fun a ha=>?_⟩
      subst ha
      cases y with
      |inr u=>exact (Option.some.inj H).symm
      |inl b=>
        simp only at H
        split at H
        · exact (Option.some.inj H).symm
        · cases H
    · obtain ⟨zz,hz,hzz⟩:=allK_at hy p hp
      refine ⟨zz,hz,fun a ha=>?_⟩
      have:=hzz a ha
      subst this
      cases x with
      |inr u=>exact (Option.some.inj H).symm
      |inl b=>
        simp only at H
        split at H
        · next e=>subst e;exact (Option.some.inj H).symm
        · cases H
theorem allK_none:∀{m:List (κ×ν)} {xx:ρ⊕Unit},allK f m=some xx→(∀p∈m,f p.1 p.2=some (.inr ()))→xx= .inr ()
  |[],_,H,_=>(Option.some.inj H).symm
  |q::r,xx,H,h=>by
    rw [allK] at H
    obtain ⟨x,hx,H⟩:=of_bind H
    obtain ⟨y,hy,H⟩:=of_bind H
    have h1:=h q List.mem_cons_self
    rw [hx] at h1
    obtain rfl:=Option.some.inj h1
    have h2:=allK_none hy (fun p hp=>h p (List.mem_cons_of_mem _ hp))
    subst h2
    exact (Option.some.inj H).symm
def Gone (f:κ→ν→Option (ρ⊕Unit)) (m:List (κ×ν)) (es:Array MapEntry) (sn:Array Nat):Prop:=∀p∈es.toList.zip m,p.1.born∈sn.toList→f p.2.1 p.2.2=some (.inr ())
omit [DecidableEq ρ] in
theorem gone0 {m:List (κ×ν)} {es:Array MapEntry}:Gone f m es #[]:=fun p _ h=>by cases h
theorem zip_uniq {m:List (κ×ν)}:∀{es:List MapEntry},(es.map (·.born)).Nodup→∀p∈es.zip m,∀q∈es.zip m,p.1.born=q.1.born→p=q:=by
  induction m with
  |nil=>intro es _ p hp;simp at hp
  |cons x m ih=>
    intro es hn p hp q hq e
    cases es with
    |nil=>simp at hp
    |cons y es=>
      simp only [List.map_cons,List.nodup_cons] at hn
      simp only [List.zip_cons_cons,List.mem_cons] at hp hq
      have hmem:∀z∈es.zip m,z.1.born∈es.map (·.born):=fun z hz=>List.mem_map.2 ⟨z.1,(List.of_mem_zip hz).1,rfl⟩
      rcases hp with rfl|hp
      · rcases hq with rfl|hq
        · rfl
        · exact absurd (by rw [e];exact hmem q hq) hn.1
      · rcases hq with rfl|hq
        · exact absurd (by rw [←e];exact hmem p hp) hn.1
        · exact ih hn.2 p hp q hq e
omit [DecidableEq ρ] in
theorem gone_push {m:List (κ×ν)} {es:Array MapEntry} {sn:Array Nat} {e:MapEntry} {y:κ} {z:ν} (hn:(es.toList.map (·.born)).Nodup) (h:Gone f m es sn) (hm:(e,(y,z))∈es.toList.zip m) (hf:f y z=some (.inr ())):
    Gone f m es (sn.push e.born):=fun p hp hb=>by
  rw [Array.toList_push,List.mem_append] at hb
  rcases hb with hb|hb
  · exact h p hp hb
  · have:=zip_uniq hn p hp _ hm (by simpa using hb)
    subst this;exact hf
theorem zip_all {m:List (κ×ν)}:∀{es:List MapEntry},es.length=m.length→∀p∈m,∃e,(e,p)∈es.zip m:=by
  induction m with
  |nil=>intro es _ p hp;cases hp
  |cons x m ih=>
    intro es hl p hp
    cases es with
    |nil=>simp at hl
    |cons y es=>
      rcases List.mem_cons.1 hp with rfl|hp
      · exact ⟨y,by simp⟩
      · obtain ⟨e,he⟩:=ih (by simpa using hl) p hp
        exact ⟨e,by simp [he]⟩
theorem left_none {es:Array MapEntry} {sn:Array Nat} (h:(leftOf es sn).size=0):∀e∈es.toList,e.born∈sn.toList:=fun e he=>by
  unfold leftOf at h
  have h0:es.filter (fun e=> !sn.contains e.born)=#[]:=Array.eq_empty_of_size_eq_zero h
  rw [Array.filter_eq_empty_iff] at h0
  have:=h0 e (by simpa using he)
  simpa using this
variable {ek:κ→Value} {ev':ν→Value}
theorem rng_done {m:List (κ×ν)} {es:Array MapEntry} {clock:Nat} {sn:Array Nat} {xx:ρ⊕Unit} (hm:MapOk ek ev' m es clock) (H:allK f m=some xx) (hg:Gone f m es sn) (h0:(leftOf es sn).size=0):some (Sum.inr ():ρ⊕Unit)=some xx:=by
  have hl:es.toList.length=m.length:=by have:=congrArg List.length hm.same;simpa using this
  rw [allK_none H fun p hp=>?_]
  obtain ⟨e,he⟩:=zip_all hl p hp
  exact hg (e,p) he (left_none h0 e (List.of_mem_zip he).1)
theorem rng_body {m:List (κ×ν)} {es:Array MapEntry} {xx:ρ⊕Unit} {σ:Type} (g:ρ→Option σ) {res:σ} {e:MapEntry} {y:κ} {z:ν} (H:allK f m=some xx) (hm:(e,(y,z))∈es.toList.zip m)
    (G:∀a,xx= .inl a→g a=some res):∃zz,f y z=some zz∧(match zz with| .inl r=>g r| .inr _=>some res)=some res:=by
  obtain ⟨zz,h1,h2⟩:=allK_at H (y,z) (List.of_mem_zip hm).2
  refine ⟨zz,h1,?_⟩
  cases zz with
  |inr u=>rfl
  |inl a=>
    exact G a (h2 a rfl)
theorem left_less {es:Array MapEntry} {sn:Array Nat} {e:MapEntry} (he:e∈(leftOf es sn).toList):(leftOf es (sn.push e.born)).size<(leftOf es sn).size:=by
  unfold leftOf at*
  simp only [Array.toList_filter] at he
  have e1:∀s:Array Nat,(es.filter (fun x=> !s.contains x.born)).size=(es.toList.filter (fun x=> !s.contains x.born)).length:=fun s=>by rw [←Array.toList_filter];rfl
  rw [e1,e1]
  have key:∀l:List MapEntry,e∈l.filter (fun e=> !sn.contains e.born)→(l.filter (fun x=> !(sn.push e.born).contains x.born)).length<(l.filter (fun x=> !sn.contains x.born)).length:=by
    intro l
    have hle:∀l:List MapEntry,(l.filter (fun x=> !(sn.push e.born).contains x.born)).length≤(l.filter (fun x=> !sn.contains x.born)).length:=by
      intro l
      induction l with
      |nil=>simp
      |cons x l ih=>
        rw [List.filter_cons,List.filter_cons]
        by_cases hx:sn.contains x.born=true
        · have:(sn.push e.born).contains x.born=true:=by simp at hx⊢;exact .inl hx
          rw [hx,this];simpa using ih
        · rw [Bool.not_eq_true] at hx
          rw [hx]
          by_cases hy:(sn.push e.born).contains x.born=true
          · rw [hy];simp;simp at ih;omega
          · rw [Bool.not_eq_true] at hy
            rw [hy];simp at ih⊢;omega
    induction l with
    |nil=>intro h;simp at h
    |cons x l ih=>
      intro h
      rw [List.filter_cons,List.filter_cons]
      by_cases hxe:x.born=e.born
      · have h2:sn.contains e.born=false:=by
          have:=(List.mem_filter.1 h).2
          simpa using this
        have h3:(sn.push e.born).contains x.born=true:=by simp [hxe]
        rw [h3,hxe,h2]
        have:=hle l
        simp at this⊢;omega
      · have hm:e∈l.filter (fun e=> !sn.contains e.born):=by
          rw [List.filter_cons] at h
          split at h
          · rcases List.mem_cons.1 h with rfl|h
            · exact absurd rfl hxe
            · exact h
          · exact h
        have h4:=ih hm
        by_cases hx:sn.contains x.born=true
        · have:(sn.push e.born).contains x.born=true:=by simp at hx⊢;exact .inl hx
          rw [hx,this];simpa using h4
        · rw [Bool.not_eq_true] at hx
          have:(sn.push e.born).contains x.born=false:=by simp at hx⊢;exact ⟨hx,hxe⟩
          rw [hx,this];simp at h4⊢;omega
  exact key _ he
end
section
variable {P:Program} {Q:Exit→Act→World→Prop} {l:List Value} {df:List Deferred} {ops:Array Oper} {os:List Oper} {M:List Nat} {h0 h:View} {w0 w:World} {bs:List Res} {ty:TypeId} {pos:String} {after:Array Edge}
theorem run_range {x:Operand} {t:TypeId} {kt vt:TypeId} {bm i d:Nat} {es:Array MapEntry} {clock:Nat} (hx:ev l x= .map (some bm)) (hu:P.underlying t=some (.map kt vt)) (HS:St M h0 w0 h bs w) (hi:bs[i]?=some (some bm, .map es clock))
    (k:∀w' r,St M h0 w0 h ((some r, .mapIter (some bm) clock #[] clock)::bs) w'→run P ops Q df os (l.set d (.pointer (some ⟨r,0,none⟩))) w'):
    run P ops Q df (⟨some d, .range t x,ty,pos,after,none⟩::os) l w:=by
  have hr:(execOp (ev l) ⟨some d, .range t x,ty,pos,after,none⟩).run P w= .ok (.value (.pointer (some ⟨w.heap.size,0,none⟩))) (w.alloc (.mapIter (some bm) clock #[] clock)):=by
    have:=run_range_map (P:=P) w t kt vt bm es clock hu (HS.look i hi)
    simp [execOp,hx,this]
  unfold run
  simp only [wpList,Region.wanted,if_true]
  refine .inl ?_
  unfold Oper.wp
  rw [ev_eq,hr]
  simp only [Oper.upon,put_list]
  exact k _ _ (HS.new (Ext.new _ _) (Nat.le_refl _) (heap_alloc_new _ _))
theorem drew_ext (w:World):Ext w w.drew:=⟨rfl,rfl,rfl,Nat.le_refl _,fun _ _=>rfl⟩
theorem run_next {κ ν:Type} {ek:κ→Value} {ev':ν→Value} {m:List (κ×ν)} {x:Operand} {r bm i j c0 d:Nat} {sn:Array Nat} {es:Array MapEntry} {clock:Nat} (hx:ev l x= .pointer (some ⟨r,0,none⟩)) (HS:St M h0 w0 h bs w)
    (hi:bs[i]?=some (some r, .mapIter (some bm) clock sn c0)) (hj:bs[j]?=some (some bm, .map es clock)) (hc:clock≤c0) (hm:MapOk ek ev' m es clock)
    (k1:(leftOf es sn).size=0→run P ops Q df os (l.set d (.tuple #[.bool false])) w)
    (k2:∀(e:MapEntry) (y:κ) (z:ν),e∈(leftOf es sn).toList→(e,(y,z))∈es.toList.zip m→e.key=ek y→e.val=ev' z→∀w',St M h0 w0 h (bs.set i (some r, .mapIter (some bm) clock (sn.push e.born) clock)) w'→run P ops Q df os (l.set d (.tuple #[.bool true,ek y,ev' z])) w'):
    run P ops Q df (⟨some d, .next x false,ty,pos,after,none⟩::os) l w:=by
  unfold run at*
  simp only [wpList,Region.wanted,if_true]
  refine .inl ?_
  unfold Oper.wp
  rw [ev_eq]
  rcases run_next_at (P:=P) w ty r bm clock c0 sn es clock (HS.look i hi) (HS.look j hj) hm.born hc with ⟨h1,h2⟩|⟨e,he,w1,hw1,h2⟩
  · have hr:(execOp (ev l) ⟨some d, .next x false,ty,pos,after,none⟩).run P w= .ok (.value (.tuple #[.bool false])) w:=by simp [execOp,hx,h2]
    rw [hr]
    simp only [Oper.upon,put_list]
    exact k1 h1
  · have hr:(execOp (ev l) ⟨some d, .next x false,ty,pos,after,none⟩).run P w= .ok (.value (.tuple #[.bool true,e.key,e.val])) (Go.ChangeMaps.setBlock w1 r (.mapIter (some bm) clock (sn.push e.born) clock)):=by simp [execOp,hx,h2]
    rw [hr]
    simp only [Oper.upon,put_list]
    have hee:e∈es.toList:=by unfold leftOf at he;simp at he⊢;exact he.1
    have hl:es.toList.length=m.length:=by have:=congrArg List.length hm.same;simpa using this
    obtain ⟨q,hq,heq⟩:=List.mem_iff_getElem.1 hee
    have hqm:q<m.length:=by omega
    have hz:(e,m[q])∈es.toList.zip m:=by
      rw [List.mem_iff_getElem]
      exact ⟨q,by rw [List.length_zip];omega,by rw [List.getElem_zip,heq]⟩
    have hs:=congrArg (fun l=>l[q]?) hm.same
    simp only [List.getElem?_map,List.getElem?_eq_getElem hq,List.getElem?_eq_getElem hqm,Option.map_some,Option.some.injEq] at hs
    rw [heq] at hs
    have hk:e.key=ek m[q].1:=congrArg Prod.fst hs
    have hv:e.val=ev' m[q].2:=congrArg Prod.snd hs
    have HS1:St M h0 w0 h bs w1:=by
      rcases hw1 with rfl|rfl
      · exact HS
      · exact HS.step (drew_ext _)
    have:=k2 e m[q].1 m[q].2 he hz hk hv _ (HS1.put i (.mapIter (some bm) clock (sn.push e.born) clock) hi)
    rw [←hk,←hv] at this
    exact this
theorem r_entry {ρ:Operand→Value} {dst:Option Tmp} {guard:Option (Nat×Bool)} {κ ν:Type} {ek:κ→Value} {ev':ν→Value} {m:List (κ×ν)} {x:Operand} {r bm i j:Nat} {sn:Array Nat} {es:Array MapEntry} {clock:Nat} {e:MapEntry} {y:κ} {z:ν} (hx:ρ x= .pointer (some ⟨r,0,none⟩)) (HS:St M h0 w0 h bs w)
    (hi:bs[i]?=some (some r, .mapIter (some bm) clock (sn.push e.born) clock)) (hj:bs[j]?=some (some bm, .map es clock)) (hm:MapOk ek ev' m es clock) (he:(e,(y,z))∈es.toList.zip m) (hk:e.key=ek y) (hv:e.val=ev' z):
    (execOp ρ ⟨dst, .entry x,ty,pos,after,guard⟩).run P w= .ok (.value (.tuple #[ek y,ev' z])) w:=by
  have:=run_entry_at (P:=P) w r bm clock sn es clock e (HS.look i hi) (HS.look j hj) (List.of_mem_zip he).1 hm.nodup
  rw [hk,hv] at this
  simp [execOp,hx,this]
end
end Go.M
namespace Go.Proofs.YtfjppgobidjndaaDoor
open Go.RowKit Go.M
def slices_EqualFunc_api_Field_api_Field_api_Field_api_Field.l0 (a0:List api_Field) (a1:List api_Field) (a2:(api_Field→api_Field→Option Bool)):Nat→Int→Option ((Bool)⊕(Unit))
 |0,_=>none
 |m+1,y1_0=>if (decide (y1_0<(a0.length:Int)))=true then (if 0≤y1_0∧y1_0<a0.length then (if 0≤y1_0∧y1_0<a1.length then ((a2 (rd z_api_Field a0 y1_0) (rd z_api_Field a1 y1_0)).bind fun v1=>(if (!v1)=true then (some (.inl false)) else (slices_EqualFunc_api_Field_api_Field_api_Field_api_Field.l0 a0 a1 a2 m (IntKind.wrap .i64 (y1_0+1))))) else none) else none) else (some (.inr ()))
def slices_EqualFunc_api_Field_api_Field_api_Field_api_Field.f (k:Nat) (a0:List api_Field) (a1:List api_Field) (a2:api_Field→api_Field→Option Bool):Option (Bool):=if ((a0.length:Int) !=(a1.length:Int))=true then (some false) else ((slices_EqualFunc_api_Field_api_Field_api_Field_api_Field.l0 a0 a1 a2 k 0).bind fun xx1=>(match xx1 with| .inl r=>some r| .inr s1=>some true))
set_option maxRecDepth 20000 in
set_option maxHeartbeats 4000000 in
theorem slices_EqualFunc_api_Field_api_Field_api_Field_api_Field.calls (k:Nat) (a0:List api_Field) (a1:List api_Field) (a2:api_Field→api_Field→Option Bool) (A0_0:Option Addr) (c0_0:Nat) (A1_0:Option Addr) (c1_0:Nat) (fid2:Nat) (cap2:List Value) {h0:View} {w0:World} (hv:Sees h0 w0) (hr0_0:Rd k_api_Field h0 A0_0 a0) (hc0_0:a0.length≤c0_0) (hr1_0:Rd k_api_Field h0 A1_0 a1) (hc1_0:a1.length≤c1_0) (hent2:∀args w,(callFunc fid2 args).run Tryd.prog w= .ok (.enter fid2 args) w) (hfp2:∀(z0:api_Field) (z1:api_Field) (h:View) (w:World),Ext w0 w→Sub h0 h→Sees h w→∀(r:Bool),a2 z0 z1=some r→Calls Tryd.prog fid2 ([Value.agg #[vS z0.vName,vI z0.vType,vI z0.vAt],Value.agg #[vS z1.vName,vI z1.vType,vI z1.vAt]]++cap2).toArray w (fun e w1=>e= .returned (vB r)∧Ext w w1)) {r:Bool} (H:slices_EqualFunc_api_Field_api_Field_api_Field_api_Field.f k a0 a1 a2=some r):Calls Tryd.prog 122 #[vL A0_0 a0.length c0_0,vL A1_0 a1.length c1_0,Value.func (.func fid2) #[] cap2.toArray] w0 (fun e w1=>e= .returned (vB r)∧Ext w0 w1):=by
 unfold slices_EqualFunc_api_Field_api_Field_api_Field_api_Field.f at H
 have HS:St [] h0 w0 h0 [] w0:=St.init hv
 go_enter Tryd.func122,Tryd.ntmps122
 refine wp_seq ?_
 refine region ?_
 refine rs (vB false) (r_assign rfl) ?_
 try simp only [sc0,sc1]
 refine run_nil ?_
 refine norm_then ?_
 refine wp_seq ?_
 refine wp_seq ?_
 refine region ?_
 refine rs (vL A0_0 a0.length c0_0) (r_move rfl) ?_
 refine rs (vI (a0.length:Int)) (r_len rfl Tryd.runUnderlying32) ?_
 refine rs (vL A1_0 a1.length c1_0) (r_move rfl) ?_
 refine rs (vI (a1.length:Int)) (r_len rfl Tryd.runUnderlying32) ?_
 refine run_frame (by simp only [sc0,sc1];rfl) ?_
 refine rs (vB ((a0.length:Int) !=(a1.length:Int))) (r_bin rfl rfl rfl) ?_
 try simp only [sc0,sc1]
 refine run_nil ?_
 refine norm_then ?_
 refine wp_cond_split (t:=((a0.length:Int) !=(a1.length:Int))) rfl (fun c1=>?_) (fun c1=>?_)
 ·replace H:=of_pos H c1
  refine wp_seq ?_
  refine region ?_
  refine rs (vB false) (r_assign rfl) ?_
  try simp only [sc0,sc1]
  refine run_nil ?_
  refine norm_then ?_
  refine wp_ret ?_
  refine ret_then ?_
  obtain rfl:=Option.some.inj H
  refine bodyPost_ret (results_1 rfl (one_tmp rfl)) rfl ?_
  exact ⟨rfl,HS.toE⟩
 ·replace H:=of_neg H (nt c1)
  refine wp_skip ?_
  refine norm_then ?_
  refine wp_seq ?_
  refine wp_seq ?_
  refine region ?_
  refine rs (vL A0_0 a0.length c0_0) (r_move rfl) ?_
  refine rs (vI (a0.length:Int)) (r_len rfl Tryd.runUnderlying32) ?_
  refine rs (vI 0) (r_move rfl) ?_
  try simp only [sc0,sc1]
  refine run_nil ?_
  refine norm_then ?_
  obtain ⟨xx1,H,G1⟩:=of_bind H
  refine loop_patch [6,7,8,9,17,18,19,20,21,22,23,24,25,26,27,28,29,30,31] (fun m us w'=>∃y1_0:Int,∃uy1_6 uy1_7 uy1_8 uy1_9 uy1_18 uy1_19 uy1_20 uy1_21 uy1_22 uy1_23 uy1_24 uy1_25 uy1_26 uy1_27 uy1_28 uy1_29 uy1_30 uy1_31:Value,us=[uy1_6,uy1_7,uy1_8,uy1_9,vI y1_0,uy1_18,uy1_19,uy1_20,uy1_21,uy1_22,uy1_23,uy1_24,uy1_25,uy1_26,uy1_27,uy1_28,uy1_29,uy1_30,uy1_31]∧slices_EqualFunc_api_Field_api_Field_api_Field_api_Field.l0 a0 a1 a2 m y1_0=some xx1∧St [] h0 w0 h0 [] w') (fun us w'=>∃(s1:Unit),xx1= .inr s1∧∃uo1_6 uo1_7 uo1_8 uo1_9 uo1_17 uo1_18 uo1_19 uo1_20 uo1_21 uo1_22 uo1_23 uo1_24 uo1_25 uo1_26 uo1_27 uo1_28 uo1_29 uo1_30 uo1_31:Value,us=[uo1_6,uo1_7,uo1_8,uo1_9,uo1_17,uo1_18,uo1_19,uo1_20,uo1_21,uo1_22,uo1_23,uo1_24,uo1_25,uo1_26,uo1_27,uo1_28,uo1_29,uo1_30,uo1_31]∧St [] h0 w0 h0 [] w') k [vB false,undef,undef,undef,vI 0,undef,undef,undef,undef,undef,undef,undef,undef,undef,undef,undef,undef,undef,undef] (by simp only [patch,sc0,sc1]) ⟨0,_,_,_,_,_,_,_,_,_,_,_,_,_,_,_,_,_,_,rfl,H,HS⟩ ?_ ?_
  ·rintro m us w1 ⟨y1_0,uy1_6,uy1_7,uy1_8,uy1_9,uy1_18,uy1_19,uy1_20,uy1_21,uy1_22,uy1_23,uy1_24,uy1_25,uy1_26,uy1_27,uy1_28,uy1_29,uy1_30,uy1_31,rfl,H,HS1⟩
   cases m with
   |zero=>exact absurd H (by simp [slices_EqualFunc_api_Field_api_Field_api_Field_api_Field.l0])
   |succ m=>
    rw [slices_EqualFunc_api_Field_api_Field_api_Field_api_Field.l0] at H
    try simp only [patch,sc0,sc1]
    refine wp_seq ?_
    refine region ?_
    refine rs (vB (decide (y1_0<(a0.length:Int)))) (r_bin rfl rfl rfl) ?_
    try simp only [sc0,sc1]
    refine run_nil ?_
    refine norm_then ?_
    refine wp_seq ?_
    refine wp_cond_split (t:=(decide (y1_0<(a0.length:Int)))) rfl (fun c2=>?_) (fun c2=>?_)
    ·replace H:=of_pos H c2
     refine wp_skip ?_
     refine norm_then ?_
     refine wp_seq ?_
     refine wp_block ?_
     refine wp_seq ?_
     refine region ?_
     refine rs (vI y1_0) (r_move rfl) ?_
     obtain ⟨hi1,H⟩:=of_ite H
     obtain ⟨ad1,e1,hel1⟩:=ld_api_Field hr0_0 hi1.1 hi1.2
     refine rs (Value.pointer (some (Addr.add ad1 (y1_0.toNat*3)))) (r_indexA (sz:=3) rfl e1 rfl hi1.1 hi1.2 Tryd.runUnderlying32 Tryd.sizeOf36) ?_
     refine rs (Value.agg #[vS ((rd z_api_Field a0 y1_0).vName),vI ((rd z_api_Field a0 y1_0).vType),vI ((rd z_api_Field a0 y1_0).vAt)]) (r_loadAgg rfl Tryd.isAgg36 (hel1.sees HS1.sees) Tryd.sizeOf36) ?_
     refine run_ex rfl rfl (does_alloc (cs:=#[vS ByteArray.empty,vI 0,vI 0]) Tryd.zeroValue36 rfl) ?_
     rintro w2 _ hE1 ⟨b1,rfl,ge1,hb1⟩
     have HS2:=HS1.new hE1 ge1 hb1
     refine run_frame (by simp only [sc0,sc1];rfl) ?_
     refine rs (vI y1_0) (r_assign rfl) ?_
     refine run_st (i:=0) (cs:=[vS ByteArray.empty,vI 0,vI 0]) (cs':=[vS ((rd z_api_Field a0 y1_0).vName),vI ((rd z_api_Field a0 y1_0).vType),vI ((rd z_api_Field a0 y1_0).vAt)]) (vs:=[vS ((rd z_api_Field a0 y1_0).vName),vI ((rd z_api_Field a0 y1_0).vType),vI ((rd z_api_Field a0 y1_0).vAt)]) (bs':=[(some b1, .cells #[vS ((rd z_api_Field a0 y1_0).vName),vI ((rd z_api_Field a0 y1_0).vType),vI ((rd z_api_Field a0 y1_0).vAt)] 36 (0,0))]) rfl rfl Tryd.sizeOf36 rfl rfl (by decide) rfl HS2 rfl (Nat.le_of_ble_eq_true rfl) rfl rfl ?_
     intro w3 HS3
     try simp only [sc0,sc1]
     refine run_nil ?_
     refine norm_then ?_
     refine wp_seq ?_
     refine region ?_
     refine rs (vL A1_0 a1.length c1_0) (r_move rfl) ?_
     refine rs (vI y1_0) (r_move rfl) ?_
     obtain ⟨hi2,H⟩:=of_ite H
     obtain ⟨ad2,e2,hel2⟩:=ld_api_Field hr1_0 hi2.1 hi2.2
     refine rs (Value.pointer (some (Addr.add ad2 (y1_0.toNat*3)))) (r_indexA (sz:=3) rfl e2 rfl hi2.1 hi2.2 Tryd.runUnderlying32 Tryd.sizeOf36) ?_
     refine rs (Value.agg #[vS ((rd z_api_Field a1 y1_0).vName),vI ((rd z_api_Field a1 y1_0).vType),vI ((rd z_api_Field a1 y1_0).vAt)]) (r_loadAgg rfl Tryd.isAgg36 (hel2.sees HS3.sees) Tryd.sizeOf36) ?_
     refine run_frame (by simp only [sc0,sc1];rfl) ?_
     refine run_ex rfl rfl (does_alloc (cs:=#[vS ByteArray.empty,vI 0,vI 0]) Tryd.zeroValue36 rfl) ?_
     rintro w4 _ hE2 ⟨b2,rfl,ge2,hb2⟩
     have HS4:=HS3.new hE2 ge2 hb2
     refine run_st (i:=0) (cs:=[vS ByteArray.empty,vI 0,vI 0]) (cs':=[vS ((rd z_api_Field a1 y1_0).vName),vI ((rd z_api_Field a1 y1_0).vType),vI ((rd z_api_Field a1 y1_0).vAt)]) (vs:=[vS ((rd z_api_Field a1 y1_0).vName),vI ((rd z_api_Field a1 y1_0).vType),vI ((rd z_api_Field a1 y1_0).vAt)]) (bs':=[(some b2, .cells #[vS ((rd z_api_Field a1 y1_0).vName),vI ((rd z_api_Field a1 y1_0).vType),vI ((rd z_api_Field a1 y1_0).vAt)] 36 (0,0)),(some b1, .cells #[vS ((rd z_api_Field a0 y1_0).vName),vI ((rd z_api_Field a0 y1_0).vType),vI ((rd z_api_Field a0 y1_0).vAt)] 36 (0,0))]) rfl rfl Tryd.sizeOf36 rfl rfl (by decide) rfl HS4 rfl (Nat.le_of_ble_eq_true rfl) rfl rfl ?_
     intro w5 HS5
     try simp only [sc0,sc1]
     refine run_nil ?_
     refine norm_then ?_
     refine wp_seq ?_
     refine region ?_
     refine rs (Value.func (.func fid2) #[] cap2.toArray) (r_move rfl) ?_
     refine rs (Value.agg #[vS ((rd z_api_Field a0 y1_0).vName),vI ((rd z_api_Field a0 y1_0).vType),vI ((rd z_api_Field a0 y1_0).vAt)]) (r_loadBoxAgg (n:=3) (vs:=[vS ((rd z_api_Field a0 y1_0).vName),vI ((rd z_api_Field a0 y1_0).vType),vI ((rd z_api_Field a0 y1_0).vAt)]) rfl Tryd.isAgg36 (HS5.look 1 rfl) Tryd.sizeOf36 rfl rfl) ?_
     refine rs (Value.agg #[vS ((rd z_api_Field a1 y1_0).vName),vI ((rd z_api_Field a1 y1_0).vType),vI ((rd z_api_Field a1 y1_0).vAt)]) (r_loadBoxAgg (n:=3) (vs:=[vS ((rd z_api_Field a1 y1_0).vName),vI ((rd z_api_Field a1 y1_0).vType),vI ((rd z_api_Field a1 y1_0).vAt)]) rfl Tryd.isAgg36 (HS5.look 0 rfl) Tryd.sizeOf36 rfl rfl) ?_
     obtain ⟨v1,H1,H⟩:=of_bind H
     refine run_eq (v:=vB v1) rfl rfl (does_callv (vs:=[Value.agg #[vS ((rd z_api_Field a0 y1_0).vName),vI ((rd z_api_Field a0 y1_0).vType),vI ((rd z_api_Field a0 y1_0).vAt)],Value.agg #[vS ((rd z_api_Field a1 y1_0).vName),vI ((rd z_api_Field a1 y1_0).vType),vI ((rd z_api_Field a1 y1_0).vAt)]]) (caps:=cap2) hent2 rfl rfl (hfp2 (rd z_api_Field a0 y1_0) (rd z_api_Field a1 y1_0) _ _ HS5.toE HS5.sub HS5.sees _ H1)) ?_
     intro w6 hE3
     have HS6:=HS5.step hE3
     refine run_frame (by simp only [sc0,sc1];rfl) ?_
     refine rs (vB (!v1)) (r_not rfl) ?_
     try simp only [sc0,sc1]
     refine run_nil ?_
     refine norm_then ?_
     refine wp_cond_split (t:=(!v1)) rfl (fun c3=>?_) (fun c3=>?_)
     ·replace H:=of_pos H c3
      refine wp_seq ?_
      refine region ?_
      refine rs (vB false) (r_assign rfl) ?_
      try simp only [sc0,sc1]
      refine run_nil ?_
      refine norm_then ?_
      refine wp_ret ?_
      refine ret_block ?_
      refine ret_then ?_
      refine ret_loop ?_
      refine ret_then ?_
      obtain rfl:=Option.some.inj H
      obtain rfl:=Option.some.inj G1
      refine bodyPost_ret (results_1 rfl (one_tmp rfl)) rfl ?_
      exact ⟨rfl,HS6.toE⟩
     ·replace H:=of_neg H (nt c3)
      refine wp_skip ?_
      refine norm_block ?_
      refine norm_then ?_
      refine region ?_
      refine rs (vI (w64 (y1_0+1))) (r_bin rfl rfl rfl) ?_
      refine rs (vI (w64 (y1_0+1))) (r_move rfl) ?_
      try simp only [sc0,sc1]
      refine run_nil ?_
      refine again m [uy1_6,vI y1_0,vP b1 0,vP b2 0,vI (w64 (y1_0+1)),vB (decide (y1_0<(a0.length:Int))),vI y1_0,Value.pointer (some (Addr.add ad1 (y1_0.toNat*3))),Value.agg #[vS ((rd z_api_Field a0 y1_0).vName),vI ((rd z_api_Field a0 y1_0).vType),vI ((rd z_api_Field a0 y1_0).vAt)],vL A1_0 a1.length c1_0,vI y1_0,Value.pointer (some (Addr.add ad2 (y1_0.toNat*3))),Value.agg #[vS ((rd z_api_Field a1 y1_0).vName),vI ((rd z_api_Field a1 y1_0).vType),vI ((rd z_api_Field a1 y1_0).vAt)],Value.func (.func fid2) #[] cap2.toArray,Value.agg #[vS ((rd z_api_Field a0 y1_0).vName),vI ((rd z_api_Field a0 y1_0).vType),vI ((rd z_api_Field a0 y1_0).vAt)],Value.agg #[vS ((rd z_api_Field a1 y1_0).vName),vI ((rd z_api_Field a1 y1_0).vType),vI ((rd z_api_Field a1 y1_0).vAt)],vB v1,vB (!v1),vI (w64 (y1_0+1))] (Nat.lt_succ_self m) (by simp only [patch,sc0,sc1]) ⟨(w64 (y1_0+1)),_,_,_,_,_,_,_,_,_,_,_,_,_,_,_,_,_,_,rfl,H,HS6.tail.tail⟩
    ·replace H:=of_neg H (nt c2)
     refine wp_exit ?_
     refine exit_then ?_
     obtain rfl:=Option.some.inj H
     refine leave [uy1_6,uy1_7,uy1_8,uy1_9,vI y1_0,vB (decide (y1_0<(a0.length:Int))),uy1_19,uy1_20,uy1_21,uy1_22,uy1_23,uy1_24,uy1_25,uy1_26,uy1_27,uy1_28,uy1_29,uy1_30,uy1_31] (by simp only [patch,sc0,sc1]) ⟨_,rfl,_,_,_,_,_,_,_,_,_,_,_,_,_,_,_,_,_,_,_,rfl,HS1⟩
  ·rintro us w7 ⟨s1,rfl,uo1_6,uo1_7,uo1_8,uo1_9,uo1_17,uo1_18,uo1_19,uo1_20,uo1_21,uo1_22,uo1_23,uo1_24,uo1_25,uo1_26,uo1_27,uo1_28,uo1_29,uo1_30,uo1_31,rfl,HS7⟩
   replace H:=G1
   clear G1
   try simp only [patch,sc0,sc1]
   refine norm_then ?_
   refine wp_seq ?_
   refine region ?_
   refine rs (vB true) (r_assign rfl) ?_
   try simp only [sc0,sc1]
   refine run_nil ?_
   refine norm_then ?_
   refine wp_ret ?_
   obtain rfl:=Option.some.inj H
   refine bodyPost_ret (results_1 rfl (one_tmp rfl)) rfl ?_
   exact ⟨rfl,HS7.toE⟩

end Go.Proofs.YtfjppgobidjndaaDoor
namespace Go.Proofs.YtfjppgobidjndaaDoor
open Go.RowKit Go.M
def ctf_alike_1.f (k:Nat) (a0:api_Field) (a1:api_Field) (x0:api_Def) (x1:api_Types) (x2:api_Types):Option (Bool):=(if ((true&&(((strEq a0.vName a1.vName)&&(a0.vAt==a1.vAt))==true))&&((x0.vKind !=4)==false))=true then ctf_text.f k x1 a0.vType else some ByteArray.empty).bind fun v1=>((if ((true&&(((strEq a0.vName a1.vName)&&(a0.vAt==a1.vAt))==true))&&((x0.vKind !=4)==false))=true then ctf_text.f k x2 a1.vType else some ByteArray.empty).bind fun v2=>(some (((strEq a0.vName a1.vName)&&(a0.vAt==a1.vAt))&&((x0.vKind !=4)||(strEq v1 v2)))))
set_option maxRecDepth 20000 in
set_option maxHeartbeats 4000000 in
theorem ctf_alike_1.calls (k:Nat) (a0:api_Field) (a1:api_Field) (x0:api_Def) (x1:api_Types) (x2:api_Types) (bx0:Nat) (Ax0_6:Option Addr) (cx0_6:Nat) (bx1:Nat) (Ax1_0:Option Addr) (cx1_0:Nat) (bx2:Nat) (Ax2_0:Option Addr) (cx2_0:Nat) {h0:View} {w0:World} (hv:Sees h0 w0) (ht:Tab w0) (hrx0_6:Rd k_api_Field h0 Ax0_6 x0.vFields) (hcx0_6:x0.vFields.length≤cx0_6) (hx0:w0.heap[bx0]?=some (.cells #[vI x0.vKind,vS x0.vName,vI x0.vInt.vSize,vB x0.vInt.vSigned,vI x0.vRef,vI x0.vN,vL Ax0_6 x0.vFields.length cx0_6] 34 (0,0))) (hrx1_0:Rd k_api_Def h0 Ax1_0 x1.vDefs) (hcx1_0:x1.vDefs.length≤cx1_0) (hx1:w0.heap[bx1]?=some (.cells #[vL Ax1_0 x1.vDefs.length cx1_0] 24 (0,0))) (hrx2_0:Rd k_api_Def h0 Ax2_0 x2.vDefs) (hcx2_0:x2.vDefs.length≤cx2_0) (hx2:w0.heap[bx2]?=some (.cells #[vL Ax2_0 x2.vDefs.length cx2_0] 24 (0,0))) {r:Bool} (H:ctf_alike_1.f k a0 a1 x0 x1 x2=some r):Calls Tryd.prog 123 #[Value.agg #[vS a0.vName,vI a0.vType,vI a0.vAt],Value.agg #[vS a1.vName,vI a1.vType,vI a1.vAt],vP bx0 0,vP bx1 0,vP bx2 0] w0 (fun e w1=>e= .returned (vB r)∧Ext w0 w1):=by
 unfold ctf_alike_1.f at H
 have HS:St [] h0 w0 h0 [] w0:=St.init hv
 go_enter Tryd.func123,Tryd.ntmps123
 refine wp_seq ?_
 refine region ?_
 refine run_ex rfl rfl (does_box (cs:=#[vS a0.vName,vI a0.vType,vI a0.vAt]) rfl rfl) ?_
 rintro w1 _ hE1 ⟨b1,rfl,ge1,hb1⟩
 have HS1:=HS.new hE1 ge1 hb1
 refine run_ex rfl rfl (does_box (cs:=#[vS a1.vName,vI a1.vType,vI a1.vAt]) rfl rfl) ?_
 rintro w2 _ hE2 ⟨b2,rfl,ge2,hb2⟩
 have HS2:=HS1.new hE2 ge2 hb2
 refine rs (vB false) (r_assign rfl) ?_
 try simp only [sc0,sc1]
 refine run_nil ?_
 refine norm_then ?_
 refine wp_seq ?_
 obtain ⟨v1,H1,H⟩:=of_bind H
 obtain ⟨v2,H2,H⟩:=of_bind H
 refine drawn [.eq (vP b1 0), .eq (vS a0.vName), .eq (vP b2 0), .eq (vS a1.vName), .eq (vB (strEq a0.vName a1.vName)), .eq (vB (strEq a0.vName a1.vName)), .eq (gv (true&&((strEq a0.vName a1.vName)==true)) (vP b1 2)), .eq (gv (true&&((strEq a0.vName a1.vName)==true)) (vI a0.vAt)), .eq (gv (true&&((strEq a0.vName a1.vName)==true)) (vP b2 2)), .eq (gv (true&&((strEq a0.vName a1.vName)==true)) (vI a1.vAt)), .eq (gv (true&&((strEq a0.vName a1.vName)==true)) (vB (a0.vAt==a1.vAt))), .eq (vB ((strEq a0.vName a1.vName)&&(a0.vAt==a1.vAt))), .eq (vB ((strEq a0.vName a1.vName)&&(a0.vAt==a1.vAt))), .eq (gv (true&&(((strEq a0.vName a1.vName)&&(a0.vAt==a1.vAt))==true)) (vP bx0 0)), .eq (gv (true&&(((strEq a0.vName a1.vName)&&(a0.vAt==a1.vAt))==true)) (vI x0.vKind)), .eq (gv (true&&(((strEq a0.vName a1.vName)&&(a0.vAt==a1.vAt))==true)) (vB (x0.vKind !=4))), .eq (gv (true&&(((strEq a0.vName a1.vName)&&(a0.vAt==a1.vAt))==true)) (vB (x0.vKind !=4))), .eq (gv ((true&&(((strEq a0.vName a1.vName)&&(a0.vAt==a1.vAt))==true))&&((x0.vKind !=4)==false)) (Value.agg #[vL Ax1_0 x1.vDefs.length cx1_0])), .eq (gv ((true&&(((strEq a0.vName a1.vName)&&(a0.vAt==a1.vAt))==true))&&((x0.vKind !=4)==false)) (vP b1 1)), .eq (gv ((true&&(((strEq a0.vName a1.vName)&&(a0.vAt==a1.vAt))==true))&&((x0.vKind !=4)==false)) (vI a0.vType)), .eq (gv ((true&&(((strEq a0.vName a1.vName)&&(a0.vAt==a1.vAt))==true))&&((x0.vKind !=4)==false)) (vS v1)), .eq (gv ((true&&(((strEq a0.vName a1.vName)&&(a0.vAt==a1.vAt))==true))&&((x0.vKind !=4)==false)) (Value.agg #[vL Ax2_0 x2.vDefs.length cx2_0])), .eq (gv ((true&&(((strEq a0.vName a1.vName)&&(a0.vAt==a1.vAt))==true))&&((x0.vKind !=4)==false)) (vP b2 1)), .eq (gv ((true&&(((strEq a0.vName a1.vName)&&(a0.vAt==a1.vAt))==true))&&((x0.vKind !=4)==false)) (vI a1.vType)), .eq (gv ((true&&(((strEq a0.vName a1.vName)&&(a0.vAt==a1.vAt))==true))&&((x0.vKind !=4)==false)) (vS v2)), .eq (gv ((true&&(((strEq a0.vName a1.vName)&&(a0.vAt==a1.vAt))==true))&&((x0.vKind !=4)==false)) (vB (strEq v1 v2))), .eq (gv (true&&(((strEq a0.vName a1.vName)&&(a0.vAt==a1.vAt))==true)) (vB ((x0.vKind !=4)||(strEq v1 v2)))), .eq (vB (((strEq a0.vName a1.vName)&&(a0.vAt==a1.vAt))&&((x0.vKind !=4)||(strEq v1 v2))))] [8,9,10,11,12,13,14,15,16,17,18,19,20,21,22,23,24,25,26,27,28,29,30,31,32,33,34,35] hmix (by kernel_rfl) rfl (stable_eq (stable_eq (stable_eq (stable_eq (stable_eq (stable_eq (stable_eq (stable_eq (stable_eq (stable_eq (stable_eq (stable_eq (stable_eq (stable_eq (stable_eq (stable_eq (stable_eq (stable_eq (stable_eq (stable_eq (stable_eq (stable_eq (stable_eq (stable_eq (stable_eq (stable_eq (stable_eq (stable_eq stable_nil)))))))))))))))))))))))))))) ⟨ob_plain rfl (fun a' w' hE hk=>by have HSd:=HS2.step hE;exact does_eq (r_fieldBox (n:=1) (o':=0) (show _=vP b1 0 from hk 5 rfl) Tryd.runUnderlying36 rfl Tryd.sizeOf9 (by decide) rfl)),ob_plain rfl (fun a' w' hE hk=>by have HSd:=HS2.step hE;exact does_eq (r_loadBox (show _=vP b1 0 from hk 8 rfl) Tryd.isAgg9 (HSd.look 1 rfl) rfl)),ob_plain rfl (fun a' w' hE hk=>by have HSd:=HS2.step hE;exact does_eq (r_fieldBox (n:=1) (o':=0) (show _=vP b2 0 from hk 6 rfl) Tryd.runUnderlying36 rfl Tryd.sizeOf9 (by decide) rfl)),ob_plain rfl (fun a' w' hE hk=>by have HSd:=HS2.step hE;exact does_eq (r_loadBox (show _=vP b2 0 from hk 10 rfl) Tryd.isAgg9 (HSd.look 0 rfl) rfl)),ob_plain rfl (fun a' w' hE hk=>by have HSd:=HS2.step hE;exact does_eq (r_streql (show _=vS a0.vName from hk 9 rfl) (show _=vS a1.vName from hk 11 rfl))),ob_plain rfl (fun a' w' hE hk=>by have HSd:=HS2.step hE;exact does_eq (r_move (show _=vB (strEq a0.vName a1.vName) from hk 12 rfl))),ob_guard (b:=(strEq a0.vName a1.vName)) (c:=true) rfl rfl (by decide) (fun w' u hu=>hu) (fun a' w' hE hk hg=>by have HSd:=HS2.step hE;exact does_eq (r_fieldBox (n:=1) (o':=2) (show _=vP b1 0 from hk 5 rfl) Tryd.runUnderlying36 rfl Tryd.sizeOf3 (by decide) rfl)),ob_guard (b:=(strEq a0.vName a1.vName)) (c:=true) rfl rfl (by decide) (fun w' u hu=>hu) (fun a' w' hE hk hg=>by have HSd:=HS2.step hE;exact does_eq (r_loadBox ((show _=gv (true&&((strEq a0.vName a1.vName)==true)) (vP b1 2) from (show _=gv (true&&((strEq a0.vName a1.vName)==true)) (vP b1 2) from hk 14 rfl)).trans (gv_t hg)) Tryd.isAgg3 (HSd.look 1 rfl) rfl)),ob_guard (b:=(strEq a0.vName a1.vName)) (c:=true) rfl rfl (by decide) (fun w' u hu=>hu) (fun a' w' hE hk hg=>by have HSd:=HS2.step hE;exact does_eq (r_fieldBox (n:=1) (o':=2) (show _=vP b2 0 from hk 6 rfl) Tryd.runUnderlying36 rfl Tryd.sizeOf3 (by decide) rfl)),ob_guard (b:=(strEq a0.vName a1.vName)) (c:=true) rfl rfl (by decide) (fun w' u hu=>hu) (fun a' w' hE hk hg=>by have HSd:=HS2.step hE;exact does_eq (r_loadBox ((show _=gv (true&&((strEq a0.vName a1.vName)==true)) (vP b2 2) from (show _=gv (true&&((strEq a0.vName a1.vName)==true)) (vP b2 2) from hk 16 rfl)).trans (gv_t hg)) Tryd.isAgg3 (HSd.look 0 rfl) rfl)),ob_guard (b:=(strEq a0.vName a1.vName)) (c:=true) rfl rfl (by decide) (fun w' u hu=>hu) (fun a' w' hE hk hg=>by have HSd:=HS2.step hE;exact does_eq (r_bin ((show _=gv (true&&((strEq a0.vName a1.vName)==true)) (vI a0.vAt) from (show _=gv (true&&((strEq a0.vName a1.vName)==true)) (vI a0.vAt) from hk 15 rfl)).trans (gv_t hg)) ((show _=gv (true&&((strEq a0.vName a1.vName)==true)) (vI a1.vAt) from (show _=gv (true&&((strEq a0.vName a1.vName)==true)) (vI a1.vAt) from hk 17 rfl)).trans (gv_t hg)) rfl)),ob_plain rfl (fun a' w' hE hk=>by have HSd:=HS2.step hE;exact does_eq (r_pick_and (show _=vB (strEq a0.vName a1.vName) from hk 13 rfl) (fun hp=>((show _=gv (true&&((strEq a0.vName a1.vName)==true)) (vB (a0.vAt==a1.vAt)) from (show _=gv (true&&((strEq a0.vName a1.vName)==true)) (vB (a0.vAt==a1.vAt)) from hk 18 rfl)).trans (gv_t (and_i rfl hp)))) rfl)),ob_plain rfl (fun a' w' hE hk=>by have HSd:=HS2.step hE;exact does_eq (r_move (show _=vB ((strEq a0.vName a1.vName)&&(a0.vAt==a1.vAt)) from hk 19 rfl))),ob_guard (b:=((strEq a0.vName a1.vName)&&(a0.vAt==a1.vAt))) (c:=true) rfl rfl (by decide) (fun w' u hu=>hu) (fun a' w' hE hk hg=>by have HSd:=HS2.step hE;exact does_eq (r_fieldBox (n:=1) (o':=0) (show _=vP bx0 0 from hk 2 rfl) Tryd.runUnderlying34 rfl Tryd.sizeOf3 (by decide) rfl)),ob_guard (b:=((strEq a0.vName a1.vName)&&(a0.vAt==a1.vAt))) (c:=true) rfl rfl (by decide) (fun w' u hu=>hu) (fun a' w' hE hk hg=>by have HSd:=HS2.step hE;exact does_eq (r_loadBox ((show _=gv (true&&(((strEq a0.vName a1.vName)&&(a0.vAt==a1.vAt))==true)) (vP bx0 0) from (show _=gv (true&&(((strEq a0.vName a1.vName)&&(a0.vAt==a1.vAt))==true)) (vP bx0 0) from hk 21 rfl)).trans (gv_t hg)) Tryd.isAgg3 (heap_ext hx0 HSd.toE) rfl)),ob_guard (b:=((strEq a0.vName a1.vName)&&(a0.vAt==a1.vAt))) (c:=true) rfl rfl (by decide) (fun w' u hu=>hu) (fun a' w' hE hk hg=>by have HSd:=HS2.step hE;exact does_eq (r_bin ((show _=gv (true&&(((strEq a0.vName a1.vName)&&(a0.vAt==a1.vAt))==true)) (vI x0.vKind) from (show _=gv (true&&(((strEq a0.vName a1.vName)&&(a0.vAt==a1.vAt))==true)) (vI x0.vKind) from hk 22 rfl)).trans (gv_t hg)) rfl rfl)),ob_guard (b:=((strEq a0.vName a1.vName)&&(a0.vAt==a1.vAt))) (c:=true) rfl rfl (by decide) (fun w' u hu=>hu) (fun a' w' hE hk hg=>by have HSd:=HS2.step hE;exact does_eq (r_move ((show _=gv (true&&(((strEq a0.vName a1.vName)&&(a0.vAt==a1.vAt))==true)) (vB (x0.vKind !=4)) from (show _=gv (true&&(((strEq a0.vName a1.vName)&&(a0.vAt==a1.vAt))==true)) (vB (x0.vKind !=4)) from hk 23 rfl)).trans (gv_t hg)))),ob_guard (b:=(x0.vKind !=4)) (c:=(true&&(((strEq a0.vName a1.vName)&&(a0.vAt==a1.vAt))==true))) rfl rfl (by decide) (fun w' u hu=>hu) (fun a' w' hE hk hg=>by have HSd:=HS2.step hE;exact does_eq (r_loadBoxAgg (n:=1) (vs:=[vL Ax1_0 x1.vDefs.length cx1_0]) (show _=vP bx1 0 from hk 3 rfl) Tryd.isAgg24 (heap_ext hx1 HSd.toE) Tryd.sizeOf24 rfl rfl)),ob_guard (b:=(x0.vKind !=4)) (c:=(true&&(((strEq a0.vName a1.vName)&&(a0.vAt==a1.vAt))==true))) rfl rfl (by decide) (fun w' u hu=>hu) (fun a' w' hE hk hg=>by have HSd:=HS2.step hE;exact does_eq (r_fieldBox (n:=1) (o':=1) (show _=vP b1 0 from hk 5 rfl) Tryd.runUnderlying36 rfl Tryd.sizeOf3 (by decide) rfl)),ob_guard (b:=(x0.vKind !=4)) (c:=(true&&(((strEq a0.vName a1.vName)&&(a0.vAt==a1.vAt))==true))) rfl rfl (by decide) (fun w' u hu=>hu) (fun a' w' hE hk hg=>by have HSd:=HS2.step hE;exact does_eq (r_loadBox ((show _=gv ((true&&(((strEq a0.vName a1.vName)&&(a0.vAt==a1.vAt))==true))&&((x0.vKind !=4)==false)) (vP b1 1) from (show _=gv ((true&&(((strEq a0.vName a1.vName)&&(a0.vAt==a1.vAt))==true))&&((x0.vKind !=4)==false)) (vP b1 1) from hk 26 rfl)).trans (gv_t hg)) Tryd.isAgg3 (HSd.look 1 rfl) rfl)),ob_guard (b:=(x0.vKind !=4)) (c:=(true&&(((strEq a0.vName a1.vName)&&(a0.vAt==a1.vAt))==true))) rfl rfl (by decide) (fun w' u hu=>hu) (fun a' w' hE hk hg=>by have HSd:=HS2.step hE;exact (does_call_eq Tryd.call53 rfl (map2 ((show _=gv ((true&&(((strEq a0.vName a1.vName)&&(a0.vAt==a1.vAt))==true))&&((x0.vKind !=4)==false)) (Value.agg #[vL Ax1_0 x1.vDefs.length cx1_0]) from (show _=gv ((true&&(((strEq a0.vName a1.vName)&&(a0.vAt==a1.vAt))==true))&&((x0.vKind !=4)==false)) (Value.agg #[vL Ax1_0 x1.vDefs.length cx1_0]) from hk 25 rfl)).trans (gv_t hg)) ((show _=gv ((true&&(((strEq a0.vName a1.vName)&&(a0.vAt==a1.vAt))==true))&&((x0.vKind !=4)==false)) (vI a0.vType) from (show _=gv ((true&&(((strEq a0.vName a1.vName)&&(a0.vAt==a1.vAt))==true))&&((x0.vKind !=4)==false)) (vI a0.vType) from hk 27 rfl)).trans (gv_t hg))) (ctf_text.calls k x1 a0.vType Ax1_0 cx1_0 HSd.sees (ht.s HSd) hrx1_0 hcx1_0 (of_pos H1 hg)))),ob_guard (b:=(x0.vKind !=4)) (c:=(true&&(((strEq a0.vName a1.vName)&&(a0.vAt==a1.vAt))==true))) rfl rfl (by decide) (fun w' u hu=>hu) (fun a' w' hE hk hg=>by have HSd:=HS2.step hE;exact does_eq (r_loadBoxAgg (n:=1) (vs:=[vL Ax2_0 x2.vDefs.length cx2_0]) (show _=vP bx2 0 from hk 4 rfl) Tryd.isAgg24 (heap_ext hx2 HSd.toE) Tryd.sizeOf24 rfl rfl)),ob_guard (b:=(x0.vKind !=4)) (c:=(true&&(((strEq a0.vName a1.vName)&&(a0.vAt==a1.vAt))==true))) rfl rfl (by decide) (fun w' u hu=>hu) (fun a' w' hE hk hg=>by have HSd:=HS2.step hE;exact does_eq (r_fieldBox (n:=1) (o':=1) (show _=vP b2 0 from hk 6 rfl) Tryd.runUnderlying36 rfl Tryd.sizeOf3 (by decide) rfl)),ob_guard (b:=(x0.vKind !=4)) (c:=(true&&(((strEq a0.vName a1.vName)&&(a0.vAt==a1.vAt))==true))) rfl rfl (by decide) (fun w' u hu=>hu) (fun a' w' hE hk hg=>by have HSd:=HS2.step hE;exact does_eq (r_loadBox ((show _=gv ((true&&(((strEq a0.vName a1.vName)&&(a0.vAt==a1.vAt))==true))&&((x0.vKind !=4)==false)) (vP b2 1) from (show _=gv ((true&&(((strEq a0.vName a1.vName)&&(a0.vAt==a1.vAt))==true))&&((x0.vKind !=4)==false)) (vP b2 1) from hk 30 rfl)).trans (gv_t hg)) Tryd.isAgg3 (HSd.look 0 rfl) rfl)),ob_guard (b:=(x0.vKind !=4)) (c:=(true&&(((strEq a0.vName a1.vName)&&(a0.vAt==a1.vAt))==true))) rfl rfl (by decide) (fun w' u hu=>hu) (fun a' w' hE hk hg=>by have HSd:=HS2.step hE;exact (does_call_eq Tryd.call53 rfl (map2 ((show _=gv ((true&&(((strEq a0.vName a1.vName)&&(a0.vAt==a1.vAt))==true))&&((x0.vKind !=4)==false)) (Value.agg #[vL Ax2_0 x2.vDefs.length cx2_0]) from (show _=gv ((true&&(((strEq a0.vName a1.vName)&&(a0.vAt==a1.vAt))==true))&&((x0.vKind !=4)==false)) (Value.agg #[vL Ax2_0 x2.vDefs.length cx2_0]) from hk 29 rfl)).trans (gv_t hg)) ((show _=gv ((true&&(((strEq a0.vName a1.vName)&&(a0.vAt==a1.vAt))==true))&&((x0.vKind !=4)==false)) (vI a1.vType) from (show _=gv ((true&&(((strEq a0.vName a1.vName)&&(a0.vAt==a1.vAt))==true))&&((x0.vKind !=4)==false)) (vI a1.vType) from hk 31 rfl)).trans (gv_t hg))) (ctf_text.calls k x2 a1.vType Ax2_0 cx2_0 HSd.sees (ht.s HSd) hrx2_0 hcx2_0 (of_pos H2 hg)))),ob_guard (b:=(x0.vKind !=4)) (c:=(true&&(((strEq a0.vName a1.vName)&&(a0.vAt==a1.vAt))==true))) rfl rfl (by decide) (fun w' u hu=>hu) (fun a' w' hE hk hg=>by have HSd:=HS2.step hE;exact does_eq (r_streql ((show _=gv ((true&&(((strEq a0.vName a1.vName)&&(a0.vAt==a1.vAt))==true))&&((x0.vKind !=4)==false)) (vS v1) from (show _=gv ((true&&(((strEq a0.vName a1.vName)&&(a0.vAt==a1.vAt))==true))&&((x0.vKind !=4)==false)) (vS v1) from hk 28 rfl)).trans (gv_t hg)) ((show _=gv ((true&&(((strEq a0.vName a1.vName)&&(a0.vAt==a1.vAt))==true))&&((x0.vKind !=4)==false)) (vS v2) from (show _=gv ((true&&(((strEq a0.vName a1.vName)&&(a0.vAt==a1.vAt))==true))&&((x0.vKind !=4)==false)) (vS v2) from hk 32 rfl)).trans (gv_t hg)))),ob_guard (b:=((strEq a0.vName a1.vName)&&(a0.vAt==a1.vAt))) (c:=true) rfl rfl (by decide) (fun w' u hu=>hu) (fun a' w' hE hk hg=>by have HSd:=HS2.step hE;exact does_eq (r_pick_or ((show _=gv (true&&(((strEq a0.vName a1.vName)&&(a0.vAt==a1.vAt))==true)) (vB (x0.vKind !=4)) from (show _=gv (true&&(((strEq a0.vName a1.vName)&&(a0.vAt==a1.vAt))==true)) (vB (x0.vKind !=4)) from hk 24 rfl)).trans (gv_t hg)) rfl (fun hp=>((show _=gv ((true&&(((strEq a0.vName a1.vName)&&(a0.vAt==a1.vAt))==true))&&((x0.vKind !=4)==false)) (vB (strEq v1 v2)) from (show _=gv ((true&&(((strEq a0.vName a1.vName)&&(a0.vAt==a1.vAt))==true))&&((x0.vKind !=4)==false)) (vB (strEq v1 v2)) from hk 33 rfl)).trans (gv_t (and_i hg hp)))))),ob_plain rfl (fun a' w' hE hk=>by have HSd:=HS2.step hE;exact does_eq (r_pick_and (show _=vB ((strEq a0.vName a1.vName)&&(a0.vAt==a1.vAt)) from hk 20 rfl) (fun hp=>((show _=gv (true&&(((strEq a0.vName a1.vName)&&(a0.vAt==a1.vAt))==true)) (vB ((x0.vKind !=4)||(strEq v1 v2))) from (show _=gv (true&&(((strEq a0.vName a1.vName)&&(a0.vAt==a1.vAt))==true)) (vB ((x0.vKind !=4)||(strEq v1 v2))) from hk 34 rfl)).trans (gv_t (and_i rfl hp)))) rfl)),trivial⟩ ?_
 intro w3 hE3
 simp only [List.zip_cons_cons,List.zip_nil_left,List.zip_nil_right,finL,sc0,sc1,List.length_cons,List.length_nil,List.drop_succ_cons,List.drop_zero,Nat.zero_add,Nat.reduceAdd]
 have HS3:=HS2.step hE3
 refine rs (vB (((strEq a0.vName a1.vName)&&(a0.vAt==a1.vAt))&&((x0.vKind !=4)||(strEq v1 v2)))) (r_assign rfl) ?_
 try simp only [sc0,sc1]
 refine run_nil ?_
 refine norm_then ?_
 refine wp_ret ?_
 obtain rfl:=Option.some.inj H
 refine bodyPost_ret (results_1 rfl (one_tmp rfl)) rfl ?_
 exact ⟨rfl,HS3.toE⟩

end Go.Proofs.YtfjppgobidjndaaDoor
namespace Go.Proofs.YtfjppgobidjndaaDoor
open Go.RowKit Go.M
def ctf_alike.f (k:Nat) (a0:api_Types) (a1:api_Def) (a2:api_Types) (a3:api_Def):Option (Bool):=if ((((a1.vKind !=a3.vKind)||(!(strEq a1.vName a3.vName)))||(!((a1.vInt.vSize==a3.vInt.vSize)&&((a1.vInt.vSigned==a3.vInt.vSigned)&&true))))||(a1.vN !=a3.vN))=true then (some false) else ((ctf_shapes.f).bind fun v1=>((if (true&&(((mfind ieq v1 a1.vKind).getD z_ctf_shape).vref==true))=true then ctf_text.f k a0 a1.vRef else some ByteArray.empty).bind fun v2=>((if (true&&(((mfind ieq v1 a1.vKind).getD z_ctf_shape).vref==true))=true then ctf_text.f k a2 a3.vRef else some ByteArray.empty).bind fun v3=>(if (((mfind ieq v1 a1.vKind).getD z_ctf_shape).vref&&(!(strEq v2 v3)))=true then (some false) else ((slices_EqualFunc_api_Field_api_Field_api_Field_api_Field.f k a1.vFields a3.vFields (fun z0 z1=>ctf_alike_1.f k z0 z1 a1 a0 a2)).bind fun v4=>(some v4))))))
set_option maxRecDepth 20000 in
set_option maxHeartbeats 4000000 in
theorem ctf_alike.calls (k:Nat) (a0:api_Types) (a1:api_Def) (a2:api_Types) (a3:api_Def) (A0_0:Option Addr) (c0_0:Nat) (A1_6:Option Addr) (c1_6:Nat) (A2_0:Option Addr) (c2_0:Nat) (A3_6:Option Addr) (c3_6:Nat) {h0:View} {w0:World} (hv:Sees h0 w0) (ht:Tab w0) (hr0_0:Rd k_api_Def h0 A0_0 a0.vDefs) (hc0_0:a0.vDefs.length≤c0_0) (hr1_6:Rd k_api_Field h0 A1_6 a1.vFields) (hc1_6:a1.vFields.length≤c1_6) (hr2_0:Rd k_api_Def h0 A2_0 a2.vDefs) (hc2_0:a2.vDefs.length≤c2_0) (hr3_6:Rd k_api_Field h0 A3_6 a3.vFields) (hc3_6:a3.vFields.length≤c3_6) {r:Bool} (H:ctf_alike.f k a0 a1 a2 a3=some r):Calls Tryd.prog 104 #[Value.agg #[vL A0_0 a0.vDefs.length c0_0],Value.agg #[vI a1.vKind,vS a1.vName,vI a1.vInt.vSize,vB a1.vInt.vSigned,vI a1.vRef,vI a1.vN,vL A1_6 a1.vFields.length c1_6],Value.agg #[vL A2_0 a2.vDefs.length c2_0],Value.agg #[vI a3.vKind,vS a3.vName,vI a3.vInt.vSize,vB a3.vInt.vSigned,vI a3.vRef,vI a3.vN,vL A3_6 a3.vFields.length c3_6]] w0 (fun e w1=>e= .returned (vB r)∧Ext w0 w1):=by
 unfold ctf_alike.f at H
 have HS:St [] h0 w0 h0 [] w0:=St.init hv
 go_enter Tryd.func104,Tryd.ntmps104
 refine wp_seq ?_
 refine region ?_
 refine run_ex rfl rfl (does_box (cs:=#[vL A0_0 a0.vDefs.length c0_0]) rfl rfl) ?_
 rintro w1 _ hE1 ⟨b1,rfl,ge1,hb1⟩
 have HS1:=HS.new hE1 ge1 hb1
 refine run_ex rfl rfl (does_box (cs:=#[vI a1.vKind,vS a1.vName,vI a1.vInt.vSize,vB a1.vInt.vSigned,vI a1.vRef,vI a1.vN,vL A1_6 a1.vFields.length c1_6]) rfl rfl) ?_
 rintro w2 _ hE2 ⟨b2,rfl,ge2,hb2⟩
 have HS2:=HS1.new hE2 ge2 hb2
 refine run_ex rfl rfl (does_box (cs:=#[vL A2_0 a2.vDefs.length c2_0]) rfl rfl) ?_
 rintro w3 _ hE3 ⟨b3,rfl,ge3,hb3⟩
 have HS3:=HS2.new hE3 ge3 hb3
 refine run_ex rfl rfl (does_box (cs:=#[vI a3.vKind,vS a3.vName,vI a3.vInt.vSize,vB a3.vInt.vSigned,vI a3.vRef,vI a3.vN,vL A3_6 a3.vFields.length c3_6]) rfl rfl) ?_
 rintro w4 _ hE4 ⟨b4,rfl,ge4,hb4⟩
 have HS4:=HS3.new hE4 ge4 hb4
 refine run_frame (by simp only [sc0,sc1];rfl) ?_
 refine rs (vB false) (r_assign rfl) ?_
 try simp only [sc0,sc1]
 refine run_nil ?_
 refine norm_then ?_
 refine wp_seq ?_
 refine wp_seq ?_
 refine region ?_
 refine rs (vP b2 0) (r_fieldBox (n:=1) (o':=0) rfl Tryd.runUnderlying34 rfl Tryd.sizeOf3 (by decide) rfl) ?_
 refine rs (vI a1.vKind) (r_loadBox rfl Tryd.isAgg3 (HS4.look 2 rfl) rfl) ?_
 refine rs (vP b4 0) (r_fieldBox (n:=1) (o':=0) rfl Tryd.runUnderlying34 rfl Tryd.sizeOf3 (by decide) rfl) ?_
 refine rs (vI a3.vKind) (r_loadBox rfl Tryd.isAgg3 (HS4.look 0 rfl) rfl) ?_
 refine run_frame (by simp only [sc0,sc1];rfl) ?_
 refine rs (vB (a1.vKind !=a3.vKind)) (r_bin rfl rfl rfl) ?_
 refine rs (vB (a1.vKind !=a3.vKind)) (r_move rfl) ?_
 refine rgs (a1.vKind !=a3.vKind) true (vP b2 1) rfl rfl rfl rfl (fun hg=>(r_fieldBox (n:=1) (o':=1) rfl Tryd.runUnderlying34 rfl Tryd.sizeOf9 (by decide) rfl)) ?_
 refine rgs (a1.vKind !=a3.vKind) true (vS a1.vName) rfl rfl rfl rfl (fun hg=>(r_loadBox (gvt (vP b2 1) hg rfl) Tryd.isAgg9 (HS4.look 2 rfl) rfl)) ?_
 refine run_frame (by simp only [sc0,sc1];rfl) ?_
 refine rgs (a1.vKind !=a3.vKind) true (vP b4 1) rfl rfl rfl rfl (fun hg=>(r_fieldBox (n:=1) (o':=1) rfl Tryd.runUnderlying34 rfl Tryd.sizeOf9 (by decide) rfl)) ?_
 refine rgs (a1.vKind !=a3.vKind) true (vS a3.vName) rfl rfl rfl rfl (fun hg=>(r_loadBox (gvt (vP b4 1) hg rfl) Tryd.isAgg9 (HS4.look 0 rfl) rfl)) ?_
 refine rgs (a1.vKind !=a3.vKind) true (vB (!(strEq a1.vName a3.vName))) rfl rfl rfl rfl (fun hg=>(r_strneq (gvt (vS a1.vName) hg rfl) (gvt (vS a3.vName) hg rfl))) ?_
 refine rs (vB ((a1.vKind !=a3.vKind)||(!(strEq a1.vName a3.vName)))) (r_pick_or rfl rfl (fun hp=>(gvt (vB (!(strEq a1.vName a3.vName))) (and_i rfl hp) rfl))) ?_
 refine run_frame (by simp only [sc0,sc1];rfl) ?_
 refine rs (vB ((a1.vKind !=a3.vKind)||(!(strEq a1.vName a3.vName)))) (r_move rfl) ?_
 refine rgs ((a1.vKind !=a3.vKind)||(!(strEq a1.vName a3.vName))) true (vP b2 2) rfl rfl rfl rfl (fun hg=>(r_fieldBox (n:=2) (o':=2) rfl Tryd.runUnderlying34 rfl Tryd.sizeOf31 (by decide) rfl)) ?_
 refine rgs ((a1.vKind !=a3.vKind)||(!(strEq a1.vName a3.vName))) true (Value.agg #[vI a1.vInt.vSize,vB a1.vInt.vSigned]) rfl rfl rfl rfl (fun hg=>(r_loadBoxAgg (n:=2) (vs:=[vI a1.vInt.vSize,vB a1.vInt.vSigned]) (gvt (vP b2 2) hg rfl) Tryd.isAgg31 (HS4.look 2 rfl) Tryd.sizeOf31 rfl rfl)) ?_
 refine rgs ((a1.vKind !=a3.vKind)||(!(strEq a1.vName a3.vName))) true (vP b4 2) rfl rfl rfl rfl (fun hg=>(r_fieldBox (n:=2) (o':=2) rfl Tryd.runUnderlying34 rfl Tryd.sizeOf31 (by decide) rfl)) ?_
 refine run_frame (by simp only [sc0,sc1];rfl) ?_
 refine rgs ((a1.vKind !=a3.vKind)||(!(strEq a1.vName a3.vName))) true (Value.agg #[vI a3.vInt.vSize,vB a3.vInt.vSigned]) rfl rfl rfl rfl (fun hg=>(r_loadBoxAgg (n:=2) (vs:=[vI a3.vInt.vSize,vB a3.vInt.vSigned]) (gvt (vP b4 2) hg rfl) Tryd.isAgg31 (HS4.look 0 rfl) Tryd.sizeOf31 rfl rfl)) ?_
 refine rgs ((a1.vKind !=a3.vKind)||(!(strEq a1.vName a3.vName))) true (vB (!((a1.vInt.vSize==a3.vInt.vSize)&&((a1.vInt.vSigned==a3.vInt.vSigned)&&true)))) rfl rfl rfl rfl (fun hg=>(r_aggneq (gvt (Value.agg #[vI a1.vInt.vSize,vB a1.vInt.vSigned]) hg rfl) (gvt (Value.agg #[vI a3.vInt.vSize,vB a3.vInt.vSigned]) hg rfl) Tryd.eqGuardType31 (eqr_agg Tryd.stoodInHeld31 Tryd.underlying31 (eqf_cons (by decide) (part_one Tryd.isAgg3 rfl) (part_one Tryd.isAgg3 rfl) (eqr_int Tryd.underlying3) (eqf_cons (by decide) (part_one Tryd.isAgg4 rfl) (part_one Tryd.isAgg4 rfl) (eqr_bool Tryd.underlying4) eqf_nil))))) ?_
 refine rs (vB (((a1.vKind !=a3.vKind)||(!(strEq a1.vName a3.vName)))||(!((a1.vInt.vSize==a3.vInt.vSize)&&((a1.vInt.vSigned==a3.vInt.vSigned)&&true))))) (r_pick_or rfl rfl (fun hp=>(gvt (vB (!((a1.vInt.vSize==a3.vInt.vSize)&&((a1.vInt.vSigned==a3.vInt.vSigned)&&true)))) (and_i rfl hp) rfl))) ?_
 refine rs (vB (((a1.vKind !=a3.vKind)||(!(strEq a1.vName a3.vName)))||(!((a1.vInt.vSize==a3.vInt.vSize)&&((a1.vInt.vSigned==a3.vInt.vSigned)&&true))))) (r_move rfl) ?_
 refine run_frame (by simp only [sc0,sc1];rfl) ?_
 refine rgs (((a1.vKind !=a3.vKind)||(!(strEq a1.vName a3.vName)))||(!((a1.vInt.vSize==a3.vInt.vSize)&&((a1.vInt.vSigned==a3.vInt.vSigned)&&true)))) true (vP b2 5) rfl rfl rfl rfl (fun hg=>(r_fieldBox (n:=1) (o':=5) rfl Tryd.runUnderlying34 rfl Tryd.sizeOf3 (by decide) rfl)) ?_
 refine rgs (((a1.vKind !=a3.vKind)||(!(strEq a1.vName a3.vName)))||(!((a1.vInt.vSize==a3.vInt.vSize)&&((a1.vInt.vSigned==a3.vInt.vSigned)&&true)))) true (vI a1.vN) rfl rfl rfl rfl (fun hg=>(r_loadBox (gvt (vP b2 5) hg rfl) Tryd.isAgg3 (HS4.look 2 rfl) rfl)) ?_
 refine rgs (((a1.vKind !=a3.vKind)||(!(strEq a1.vName a3.vName)))||(!((a1.vInt.vSize==a3.vInt.vSize)&&((a1.vInt.vSigned==a3.vInt.vSigned)&&true)))) true (vP b4 5) rfl rfl rfl rfl (fun hg=>(r_fieldBox (n:=1) (o':=5) rfl Tryd.runUnderlying34 rfl Tryd.sizeOf3 (by decide) rfl)) ?_
 refine rgs (((a1.vKind !=a3.vKind)||(!(strEq a1.vName a3.vName)))||(!((a1.vInt.vSize==a3.vInt.vSize)&&((a1.vInt.vSigned==a3.vInt.vSigned)&&true)))) true (vI a3.vN) rfl rfl rfl rfl (fun hg=>(r_loadBox (gvt (vP b4 5) hg rfl) Tryd.isAgg3 (HS4.look 0 rfl) rfl)) ?_
 refine run_frame (by simp only [sc0,sc1];rfl) ?_
 refine rgs (((a1.vKind !=a3.vKind)||(!(strEq a1.vName a3.vName)))||(!((a1.vInt.vSize==a3.vInt.vSize)&&((a1.vInt.vSigned==a3.vInt.vSigned)&&true)))) true (vB (a1.vN !=a3.vN)) rfl rfl rfl rfl (fun hg=>(r_bin (gvt (vI a1.vN) hg rfl) (gvt (vI a3.vN) hg rfl) rfl)) ?_
 refine rs (vB ((((a1.vKind !=a3.vKind)||(!(strEq a1.vName a3.vName)))||(!((a1.vInt.vSize==a3.vInt.vSize)&&((a1.vInt.vSigned==a3.vInt.vSigned)&&true))))||(a1.vN !=a3.vN))) (r_pick_or rfl rfl (fun hp=>(gvt (vB (a1.vN !=a3.vN)) (and_i rfl hp) rfl))) ?_
 try simp only [sc0,sc1]
 refine run_nil ?_
 refine norm_then ?_
 refine wp_cond_split (t:=((((a1.vKind !=a3.vKind)||(!(strEq a1.vName a3.vName)))||(!((a1.vInt.vSize==a3.vInt.vSize)&&((a1.vInt.vSigned==a3.vInt.vSigned)&&true))))||(a1.vN !=a3.vN))) rfl (fun c1=>?_) (fun c1=>?_)
 ·replace H:=of_pos H c1
  refine wp_seq ?_
  refine region ?_
  refine rs (vB false) (r_assign rfl) ?_
  try simp only [sc0,sc1]
  refine run_nil ?_
  refine norm_then ?_
  refine wp_ret ?_
  refine ret_then ?_
  obtain rfl:=Option.some.inj H
  refine bodyPost_ret (results_1 rfl (one_tmp rfl)) rfl ?_
  exact ⟨rfl,HS4.toE⟩
 ·replace H:=of_neg H (nt c1)
  refine wp_skip ?_
  refine norm_then ?_
  refine wp_seq ?_
  refine wp_seq ?_
  obtain ⟨v1,H1,H⟩:=of_bind H
  obtain ⟨v2,H2,H⟩:=of_bind H
  obtain ⟨v3,H3,H⟩:=of_bind H
  refine drawn [.ex (NewMap w4 (vI) e_ctf_shape v1), .eq (vP b2 0), .eq (vI a1.vKind), .eq (Value.agg #[vB (((mfind ieq v1 a1.vKind).getD z_ctf_shape).vname),vB (((mfind ieq v1 a1.vKind).getD z_ctf_shape).vint),vB (((mfind ieq v1 a1.vKind).getD z_ctf_shape).vref),vB (((mfind ieq v1 a1.vKind).getD z_ctf_shape).vn),vB (((mfind ieq v1 a1.vKind).getD z_ctf_shape).vfields)]), .eq (vB (((mfind ieq v1 a1.vKind).getD z_ctf_shape).vref)), .eq (vB (((mfind ieq v1 a1.vKind).getD z_ctf_shape).vref)), .eq (gv (true&&(((mfind ieq v1 a1.vKind).getD z_ctf_shape).vref==true)) (Value.agg #[vL A0_0 a0.vDefs.length c0_0])), .eq (gv (true&&(((mfind ieq v1 a1.vKind).getD z_ctf_shape).vref==true)) (vP b2 4)), .eq (gv (true&&(((mfind ieq v1 a1.vKind).getD z_ctf_shape).vref==true)) (vI a1.vRef)), .eq (gv (true&&(((mfind ieq v1 a1.vKind).getD z_ctf_shape).vref==true)) (vS v2)), .eq (gv (true&&(((mfind ieq v1 a1.vKind).getD z_ctf_shape).vref==true)) (Value.agg #[vL A2_0 a2.vDefs.length c2_0])), .eq (gv (true&&(((mfind ieq v1 a1.vKind).getD z_ctf_shape).vref==true)) (vP b4 4)), .eq (gv (true&&(((mfind ieq v1 a1.vKind).getD z_ctf_shape).vref==true)) (vI a3.vRef)), .eq (gv (true&&(((mfind ieq v1 a1.vKind).getD z_ctf_shape).vref==true)) (vS v3)), .eq (gv (true&&(((mfind ieq v1 a1.vKind).getD z_ctf_shape).vref==true)) (vB (!(strEq v2 v3)))), .eq (vB (((mfind ieq v1 a1.vKind).getD z_ctf_shape).vref&&(!(strEq v2 v3))))] [35,36,37,38,39,40,41,42,43,44,45,46,47,48,49,50] hmix (by kernel_rfl) rfl (stable_ex NewMap.stable (stable_eq (stable_eq (stable_eq (stable_eq (stable_eq (stable_eq (stable_eq (stable_eq (stable_eq (stable_eq (stable_eq (stable_eq (stable_eq (stable_eq (stable_eq stable_nil)))))))))))))))) ⟨ob_plain rfl (fun a' w' hE hk=>by have HSd:=HS4.step hE;exact does_call Tryd.call116 rfl (map_in hE (ctf_shapes.calls HSd.sees H1)) rfl),ob_plain rfl (fun a' w' hE hk=>by have HSd:=HS4.step hE;exact does_eq (r_fieldBox (n:=1) (o':=0) (show _=vP b2 0 from hk 5 rfl) Tryd.runUnderlying34 rfl Tryd.sizeOf3 (by decide) rfl)),ob_plain rfl (fun a' w' hE hk=>by have HSd:=HS4.step hE;exact does_eq (r_loadBox (show _=vP b2 0 from hk 36 rfl) Tryd.isAgg3 (HSd.look 2 rfl) rfl)),ob_plain rfl (fun a' w' hE hk=>by obtain ⟨_,_,_,e35,_,hb35,ho35⟩:=hk 35 rfl;have HSd:=HS4.step hE;exact does_eq (r_mget (key_int Tryd.runUnderlying3) (k:=a1.vKind) (m:=v1) (ev:=e_ctf_shape) z_ctf_shape e35 (show _=vI a1.vKind from hk 37 rfl) Tryd.runUnderlying172 Tryd.zeroValue171 hb35 ho35)),ob_plain rfl (fun a' w' hE hk=>by have HSd:=HS4.step hE;exact does_eq (r_field (show _=Value.agg #[vB (((mfind ieq v1 a1.vKind).getD z_ctf_shape).vname),vB (((mfind ieq v1 a1.vKind).getD z_ctf_shape).vint),vB (((mfind ieq v1 a1.vKind).getD z_ctf_shape).vref),vB (((mfind ieq v1 a1.vKind).getD z_ctf_shape).vn),vB (((mfind ieq v1 a1.vKind).getD z_ctf_shape).vfields)] from hk 38 rfl) Tryd.runUnderlying171 rfl Tryd.isAgg4 rfl)),ob_plain rfl (fun a' w' hE hk=>by have HSd:=HS4.step hE;exact does_eq (r_move (show _=vB (((mfind ieq v1 a1.vKind).getD z_ctf_shape).vref) from hk 39 rfl))),ob_guard (b:=((mfind ieq v1 a1.vKind).getD z_ctf_shape).vref) (c:=true) rfl rfl (by decide) (fun w' u hu=>hu) (fun a' w' hE hk hg=>by have HSd:=HS4.step hE;exact does_eq (r_loadBoxAgg (n:=1) (vs:=[vL A0_0 a0.vDefs.length c0_0]) (show _=vP b1 0 from hk 4 rfl) Tryd.isAgg24 (HSd.look 3 rfl) Tryd.sizeOf24 rfl rfl)),ob_guard (b:=((mfind ieq v1 a1.vKind).getD z_ctf_shape).vref) (c:=true) rfl rfl (by decide) (fun w' u hu=>hu) (fun a' w' hE hk hg=>by have HSd:=HS4.step hE;exact does_eq (r_fieldBox (n:=1) (o':=4) (show _=vP b2 0 from hk 5 rfl) Tryd.runUnderlying34 rfl Tryd.sizeOf3 (by decide) rfl)),ob_guard (b:=((mfind ieq v1 a1.vKind).getD z_ctf_shape).vref) (c:=true) rfl rfl (by decide) (fun w' u hu=>hu) (fun a' w' hE hk hg=>by have HSd:=HS4.step hE;exact does_eq (r_loadBox ((show _=gv (true&&(((mfind ieq v1 a1.vKind).getD z_ctf_shape).vref==true)) (vP b2 4) from (show _=gv (true&&(((mfind ieq v1 a1.vKind).getD z_ctf_shape).vref==true)) (vP b2 4) from hk 42 rfl)).trans (gv_t hg)) Tryd.isAgg3 (HSd.look 2 rfl) rfl)),ob_guard (b:=((mfind ieq v1 a1.vKind).getD z_ctf_shape).vref) (c:=true) rfl rfl (by decide) (fun w' u hu=>hu) (fun a' w' hE hk hg=>by have HSd:=HS4.step hE;exact (does_call_eq Tryd.call53 rfl (map2 ((show _=gv (true&&(((mfind ieq v1 a1.vKind).getD z_ctf_shape).vref==true)) (Value.agg #[vL A0_0 a0.vDefs.length c0_0]) from (show _=gv (true&&(((mfind ieq v1 a1.vKind).getD z_ctf_shape).vref==true)) (Value.agg #[vL A0_0 a0.vDefs.length c0_0]) from hk 41 rfl)).trans (gv_t hg)) ((show _=gv (true&&(((mfind ieq v1 a1.vKind).getD z_ctf_shape).vref==true)) (vI a1.vRef) from (show _=gv (true&&(((mfind ieq v1 a1.vKind).getD z_ctf_shape).vref==true)) (vI a1.vRef) from hk 43 rfl)).trans (gv_t hg))) (ctf_text.calls k a0 a1.vRef A0_0 c0_0 HSd.sees (ht.s HSd) hr0_0 hc0_0 (of_pos H2 hg)))),ob_guard (b:=((mfind ieq v1 a1.vKind).getD z_ctf_shape).vref) (c:=true) rfl rfl (by decide) (fun w' u hu=>hu) (fun a' w' hE hk hg=>by have HSd:=HS4.step hE;exact does_eq (r_loadBoxAgg (n:=1) (vs:=[vL A2_0 a2.vDefs.length c2_0]) (show _=vP b3 0 from hk 6 rfl) Tryd.isAgg24 (HSd.look 1 rfl) Tryd.sizeOf24 rfl rfl)),ob_guard (b:=((mfind ieq v1 a1.vKind).getD z_ctf_shape).vref) (c:=true) rfl rfl (by decide) (fun w' u hu=>hu) (fun a' w' hE hk hg=>by have HSd:=HS4.step hE;exact does_eq (r_fieldBox (n:=1) (o':=4) (show _=vP b4 0 from hk 7 rfl) Tryd.runUnderlying34 rfl Tryd.sizeOf3 (by decide) rfl)),ob_guard (b:=((mfind ieq v1 a1.vKind).getD z_ctf_shape).vref) (c:=true) rfl rfl (by decide) (fun w' u hu=>hu) (fun a' w' hE hk hg=>by have HSd:=HS4.step hE;exact does_eq (r_loadBox ((show _=gv (true&&(((mfind ieq v1 a1.vKind).getD z_ctf_shape).vref==true)) (vP b4 4) from (show _=gv (true&&(((mfind ieq v1 a1.vKind).getD z_ctf_shape).vref==true)) (vP b4 4) from hk 46 rfl)).trans (gv_t hg)) Tryd.isAgg3 (HSd.look 0 rfl) rfl)),ob_guard (b:=((mfind ieq v1 a1.vKind).getD z_ctf_shape).vref) (c:=true) rfl rfl (by decide) (fun w' u hu=>hu) (fun a' w' hE hk hg=>by have HSd:=HS4.step hE;exact (does_call_eq Tryd.call53 rfl (map2 ((show _=gv (true&&(((mfind ieq v1 a1.vKind).getD z_ctf_shape).vref==true)) (Value.agg #[vL A2_0 a2.vDefs.length c2_0]) from (show _=gv (true&&(((mfind ieq v1 a1.vKind).getD z_ctf_shape).vref==true)) (Value.agg #[vL A2_0 a2.vDefs.length c2_0]) from hk 45 rfl)).trans (gv_t hg)) ((show _=gv (true&&(((mfind ieq v1 a1.vKind).getD z_ctf_shape).vref==true)) (vI a3.vRef) from (show _=gv (true&&(((mfind ieq v1 a1.vKind).getD z_ctf_shape).vref==true)) (vI a3.vRef) from hk 47 rfl)).trans (gv_t hg))) (ctf_text.calls k a2 a3.vRef A2_0 c2_0 HSd.sees (ht.s HSd) hr2_0 hc2_0 (of_pos H3 hg)))),ob_guard (b:=((mfind ieq v1 a1.vKind).getD z_ctf_shape).vref) (c:=true) rfl rfl (by decide) (fun w' u hu=>hu) (fun a' w' hE hk hg=>by have HSd:=HS4.step hE;exact does_eq (r_strneq ((show _=gv (true&&(((mfind ieq v1 a1.vKind).getD z_ctf_shape).vref==true)) (vS v2) from (show _=gv (true&&(((mfind ieq v1 a1.vKind).getD z_ctf_shape).vref==true)) (vS v2) from hk 44 rfl)).trans (gv_t hg)) ((show _=gv (true&&(((mfind ieq v1 a1.vKind).getD z_ctf_shape).vref==true)) (vS v3) from (show _=gv (true&&(((mfind ieq v1 a1.vKind).getD z_ctf_shape).vref==true)) (vS v3) from hk 48 rfl)).trans (gv_t hg)))),ob_plain rfl (fun a' w' hE hk=>by have HSd:=HS4.step hE;exact does_eq (r_pick_and (show _=vB (((mfind ieq v1 a1.vKind).getD z_ctf_shape).vref) from hk 40 rfl) (fun hp=>((show _=gv (true&&(((mfind ieq v1 a1.vKind).getD z_ctf_shape).vref==true)) (vB (!(strEq v2 v3))) from (show _=gv (true&&(((mfind ieq v1 a1.vKind).getD z_ctf_shape).vref==true)) (vB (!(strEq v2 v3))) from hk 49 rfl)).trans (gv_t (and_i rfl hp)))) rfl)),trivial⟩ ?_
  intro w5 hE5
  simp only [List.zip_cons_cons,List.zip_nil_left,List.zip_nil_right,finL,sc0,sc1,List.length_cons,List.length_nil,List.drop_succ_cons,List.drop_zero,Nat.zero_add,Nat.reduceAdd]
  rintro _ ⟨b5,es1,cl1,rfl,ge5,hb5,ho1⟩
  have HS5:=HS4.new hE5 ge5 hb5
  refine run_nil ?_
  refine norm_then ?_
  refine wp_cond_split (t:=(((mfind ieq v1 a1.vKind).getD z_ctf_shape).vref&&(!(strEq v2 v3)))) rfl (fun c2=>?_) (fun c2=>?_)
  ·replace H:=of_pos H c2
   refine wp_seq ?_
   refine region ?_
   refine rs (vB false) (r_assign rfl) ?_
   try simp only [sc0,sc1]
   refine run_nil ?_
   refine norm_then ?_
   refine wp_ret ?_
   refine ret_then ?_
   obtain rfl:=Option.some.inj H
   refine bodyPost_ret (results_1 rfl (one_tmp rfl)) rfl ?_
   exact ⟨rfl,HS5.toE⟩
  ·replace H:=of_neg H (nt c2)
   refine wp_skip ?_
   refine norm_then ?_
   refine wp_seq ?_
   refine region ?_
   refine rs (vP b2 6) (r_fieldBox (n:=1) (o':=6) rfl Tryd.runUnderlying34 rfl Tryd.sizeOf32 (by decide) rfl) ?_
   refine rs (vL A1_6 a1.vFields.length c1_6) (r_loadBox rfl Tryd.isAgg32 (HS5.look 3 rfl) rfl) ?_
   refine rs (vP b4 6) (r_fieldBox (n:=1) (o':=6) rfl Tryd.runUnderlying34 rfl Tryd.sizeOf32 (by decide) rfl) ?_
   refine rs (vL A3_6 a3.vFields.length c3_6) (r_loadBox rfl Tryd.isAgg32 (HS5.look 1 rfl) rfl) ?_
   refine run_frame (by simp only [sc0,sc1];rfl) ?_
   refine rs (Value.func (.func 123) #[] #[vP b2 0,vP b1 0,vP b3 0]) (r_makeFunc (vs:=[vP b2 0,vP b1 0,vP b3 0]) rfl) ?_
   obtain ⟨v4,H4,H⟩:=of_bind H
   refine run_eq (v:=vB v4) rfl rfl (does_call_eq Tryd.call122 rfl rfl (slices_EqualFunc_api_Field_api_Field_api_Field_api_Field.calls k a1.vFields a3.vFields (fun z0 z1=>ctf_alike_1.f k z0 z1 a1 a0 a2) A1_6 c1_6 A3_6 c3_6 123 [vP b2 0,vP b1 0,vP b3 0] HS5.sees hr1_6 hc1_6 hr3_6 hc3_6 Tryd.call123 (fun z0 z1 h w hE hs hv r H=>ctf_alike_1.calls k z0 z1 a1 a0 a2 b2 A1_6 c1_6 b1 A0_0 c0_0 b3 A2_0 c2_0 hv ((ht.s HS5).e hE) (hr1_6.ext hs) hc1_6 (heap_ext (HS5.look 3 rfl) hE) (hr0_0.ext hs) hc0_0 (heap_ext (HS5.look 4 rfl) hE) (hr2_0.ext hs) hc2_0 (heap_ext (HS5.look 2 rfl) hE) H) H4)) ?_
   intro w6 hE6
   have HS6:=HS5.step hE6
   refine rs (vB v4) (r_assign rfl) ?_
   try simp only [sc0,sc1]
   refine run_nil ?_
   refine norm_then ?_
   refine wp_ret ?_
   obtain rfl:=Option.some.inj H
   refine bodyPost_ret (results_1 rfl (one_tmp rfl)) rfl ?_
   exact ⟨rfl,HS6.toE⟩

end Go.Proofs.YtfjppgobidjndaaDoor
namespace Go.Proofs.YtfjppgobidjndaaDoor
open Go.RowKit Go.M
def ctf_equal.l0 (k:Nat) (a0:api_Types) (a2:api_Types) (kyy1:Int) (kzy1:Bool):Option ((Bool)⊕Unit):=if 0≤kyy1∧kyy1<a0.vDefs.length then ((ctf_named.f (rd z_api_Def a0.vDefs kyy1)).bind fun v4=>(if v4=true then ((ctf_find.f k a2 ((rd z_api_Def a0.vDefs kyy1).vName)).bind fun v5=>(if (true&&((decide (v5<0))==false))=true→(0≤v5∧v5<a2.vDefs.length) then ((if (true&&((decide (v5<0))==false))=true then ctf_alike.f k a0 (rd z_api_Def a0.vDefs kyy1) a2 (rd z_api_Def a2.vDefs v5) else some false).bind fun v6=>(if ((decide (v5<0))||(!v6))=true then (some (.inl false)) else (some (.inr ())))) else none)) else (some (.inr ())))) else none
def ctf_equal.f (k:Nat) (a0:api_Types) (a1:Int) (a2:api_Types) (a3:Int):Option (Bool):=(ctf_text.f k a0 a1).bind fun v1=>((ctf_text.f k a2 a3).bind fun v2=>(if (!(strEq v1 v2))=true then (some false) else ((ctf_reached.f k a0 ([a1]:List Int)).bind fun v3=>((allK (ctf_equal.l0 k a0 a2) v3).bind fun xx1=>(match xx1 with| .inl r=>some r| .inr s1=>some true)))))
set_option maxRecDepth 20000 in
set_option maxHeartbeats 4000000 in
theorem ctf_equal.calls (k:Nat) (a0:api_Types) (a1:Int) (a2:api_Types) (a3:Int) (A0_0:Option Addr) (c0_0:Nat) (A2_0:Option Addr) (c2_0:Nat) {h0:View} {w0:World} (hv:Sees h0 w0) (ht:Tab w0) (hr0_0:Rd k_api_Def h0 A0_0 a0.vDefs) (hc0_0:a0.vDefs.length≤c0_0) (hr2_0:Rd k_api_Def h0 A2_0 a2.vDefs) (hc2_0:a2.vDefs.length≤c2_0) {r:Bool} (H:ctf_equal.f k a0 a1 a2 a3=some r):Calls Tryd.prog 61 #[Value.agg #[vL A0_0 a0.vDefs.length c0_0],vI a1,Value.agg #[vL A2_0 a2.vDefs.length c2_0],vI a3] w0 (fun e w1=>e= .returned (vB r)∧Ext w0 w1):=by
 unfold ctf_equal.f at H
 have HS:St [] h0 w0 h0 [] w0:=St.init hv
 go_enter Tryd.func61,Tryd.ntmps61
 refine wp_seq ?_
 refine region ?_
 refine run_ex rfl rfl (does_box (cs:=#[vL A0_0 a0.vDefs.length c0_0]) rfl rfl) ?_
 rintro w1 _ hE1 ⟨b1,rfl,ge1,hb1⟩
 have HS1:=HS.new hE1 ge1 hb1
 refine run_ex rfl rfl (does_box (cs:=#[vL A2_0 a2.vDefs.length c2_0]) rfl rfl) ?_
 rintro w2 _ hE2 ⟨b2,rfl,ge2,hb2⟩
 have HS2:=HS1.new hE2 ge2 hb2
 refine rs (vB false) (r_assign rfl) ?_
 try simp only [sc0,sc1]
 refine run_nil ?_
 refine norm_then ?_
 refine wp_seq ?_
 refine wp_seq ?_
 obtain ⟨v1,H1,H⟩:=of_bind H
 obtain ⟨v2,H2,H⟩:=of_bind H
 refine drawn [.eq (Value.agg #[vL A0_0 a0.vDefs.length c0_0]), .eq (vI a1), .eq (vS v1), .eq (Value.agg #[vL A2_0 a2.vDefs.length c2_0]), .eq (vI a3), .eq (vS v2), .eq (vB (!(strEq v1 v2)))] [12,13,14,15,16,17,18] hmix (by kernel_rfl) rfl (stable_eq (stable_eq (stable_eq (stable_eq (stable_eq (stable_eq (stable_eq stable_nil))))))) ⟨ob_plain rfl (fun a' w' hE hk=>by have HSd:=HS2.step hE;exact does_eq (r_loadBoxAgg (n:=1) (vs:=[vL A0_0 a0.vDefs.length c0_0]) (show _=vP b1 0 from hk 4 rfl) Tryd.isAgg24 (HSd.look 1 rfl) Tryd.sizeOf24 rfl rfl)),ob_plain rfl (fun a' w' hE hk=>by have HSd:=HS2.step hE;exact does_eq (r_move (show _=vI a1 from hk 1 rfl))),ob_plain rfl (fun a' w' hE hk=>by have HSd:=HS2.step hE;exact (does_call_eq Tryd.call53 rfl (map2 (show _=Value.agg #[vL A0_0 a0.vDefs.length c0_0] from hk 12 rfl) (show _=vI a1 from hk 13 rfl)) (ctf_text.calls k a0 a1 A0_0 c0_0 HSd.sees (ht.s HSd) hr0_0 hc0_0 H1))),ob_plain rfl (fun a' w' hE hk=>by have HSd:=HS2.step hE;exact does_eq (r_loadBoxAgg (n:=1) (vs:=[vL A2_0 a2.vDefs.length c2_0]) (show _=vP b2 0 from hk 6 rfl) Tryd.isAgg24 (HSd.look 0 rfl) Tryd.sizeOf24 rfl rfl)),ob_plain rfl (fun a' w' hE hk=>by have HSd:=HS2.step hE;exact does_eq (r_move (show _=vI a3 from hk 3 rfl))),ob_plain rfl (fun a' w' hE hk=>by have HSd:=HS2.step hE;exact (does_call_eq Tryd.call53 rfl (map2 (show _=Value.agg #[vL A2_0 a2.vDefs.length c2_0] from hk 15 rfl) (show _=vI a3 from hk 16 rfl)) (ctf_text.calls k a2 a3 A2_0 c2_0 HSd.sees (ht.s HSd) hr2_0 hc2_0 H2))),ob_plain rfl (fun a' w' hE hk=>by have HSd:=HS2.step hE;exact does_eq (r_strneq (show _=vS v1 from hk 14 rfl) (show _=vS v2 from hk 17 rfl))),trivial⟩ ?_
 intro w3 hE3
 simp only [List.zip_cons_cons,List.zip_nil_left,List.zip_nil_right,finL,sc0,sc1,List.length_cons,List.length_nil,List.drop_succ_cons,List.drop_zero,Nat.zero_add,Nat.reduceAdd]
 have HS3:=HS2.step hE3
 refine run_nil ?_
 refine norm_then ?_
 refine wp_cond_split (t:=(!(strEq v1 v2))) rfl (fun c1=>?_) (fun c1=>?_)
 ·replace H:=of_pos H c1
  refine wp_seq ?_
  refine region ?_
  refine rs (vB false) (r_assign rfl) ?_
  try simp only [sc0,sc1]
  refine run_nil ?_
  refine norm_then ?_
  refine wp_ret ?_
  refine ret_then ?_
  obtain rfl:=Option.some.inj H
  refine bodyPost_ret (results_1 rfl (one_tmp rfl)) rfl ?_
  exact ⟨rfl,HS3.toE⟩
 ·replace H:=of_neg H (nt c1)
  refine wp_skip ?_
  refine norm_then ?_
  refine wp_seq ?_
  refine wp_seq ?_
  refine region ?_
  refine rs (Value.agg #[vL A0_0 a0.vDefs.length c0_0]) (r_loadBoxAgg (n:=1) (vs:=[vL A0_0 a0.vDefs.length c0_0]) rfl Tryd.isAgg24 (HS3.look 1 rfl) Tryd.sizeOf24 rfl rfl) ?_
  refine rs (vI a1) (r_move rfl) ?_
  refine run_bs (Kd.int .i64) (xs:=([a1]:List Int)) (n:=1) (cs:=[vI a1]) Tryd.runUnderlying62 Tryd.typeInfo3 Tryd.zeroValue3 rfl rfl (by decide) (by decide) (by decide) [vI a1] (parts_any.trans rfl) rfl rfl rfl rfl (elems_cons (qs:=[vI a1]) rfl (elems_nil (cs:=[]))) HS3 ?_
  intro w4 b3 HS4 ho1
  obtain ⟨v3,H3,H⟩:=of_bind H
  obtain ⟨hl1,hs1,se1,rdl1⟩:=row_lend HS4 (i:=0) rfl ho1
  refine run_ex rfl rfl (does_call Tryd.call84 (map2 rfl (show _=vL (rowA (some b3)) ([a1]:List Int).length 1 from by rw [ho1.len];exact rfl)) (map_in (wz:=w4) (ek:=(vI)) (ev:=vB) (m:=v3) (Ext.rfl' _) (ctf_reached.calls k a0 ([a1]:List Int) A0_0 c0_0 (rowA (some b3)) 1 se1 (hr0_0.ext hs1) hc0_0 rdl1 ho1.cap H3)) rfl) ?_
  rintro w5 _ hE4 ⟨b4,es1,cl1,rfl,ge3,hb3,ho2⟩
  have HS5:=HS4.new hE4 ge3 hb3
  refine run_frame (by simp only [sc0,sc1];rfl) ?_
  refine run_range (i:=0) rfl Tryd.underlying144 HS5 rfl ?_
  intro w6 b5 HS6
  try simp only [sc0,sc1]
  refine run_nil ?_
  refine norm_then ?_
  obtain ⟨xx1,H,G1⟩:=of_bind H
  refine loop_patch [8,9,10,11,24,25,26,27,28,29,30,31,32,33,34,35,36,37,38,39,40,41,42,43,44,45,46,47,48,49,50,51,52] (fun m us w'=>∃(sny1:Array Nat) (c0y1:Nat),∃uy1_8 uy1_9 uy1_10 uy1_11 uy1_24 uy1_25 uy1_26 uy1_27 uy1_28 uy1_29 uy1_30 uy1_31 uy1_32 uy1_33 uy1_34 uy1_35 uy1_36 uy1_37 uy1_38 uy1_39 uy1_40 uy1_41 uy1_42 uy1_43 uy1_44 uy1_45 uy1_46 uy1_47 uy1_48 uy1_49 uy1_50 uy1_51 uy1_52:Value,us=[uy1_8,uy1_9,uy1_10,uy1_11,uy1_24,uy1_25,uy1_26,uy1_27,uy1_28,uy1_29,uy1_30,uy1_31,uy1_32,uy1_33,uy1_34,uy1_35,uy1_36,uy1_37,uy1_38,uy1_39,uy1_40,uy1_41,uy1_42,uy1_43,uy1_44,uy1_45,uy1_46,uy1_47,uy1_48,uy1_49,uy1_50,uy1_51,uy1_52]∧(leftOf es1 sny1).size<m∧cl1≤c0y1∧Gone (ctf_equal.l0 k a0 a2) v3 es1 sny1∧St [] h0 w0 h0 [(some b5, .mapIter (some b4) cl1 sny1 c0y1),(some b4, .map es1 cl1),((some b3), .cells ([vI a1]).toArray 3 (0,0)),(some b2, .cells #[vL A2_0 a2.vDefs.length c2_0] 24 (0,0)),(some b1, .cells #[vL A0_0 a0.vDefs.length c0_0] 24 (0,0))] w') (fun us w'=>∃(s1:Unit),xx1= .inr s1∧∃(sno1:Array Nat) (c0o1:Nat),∃uo1_8 uo1_9 uo1_10 uo1_11 uo1_24 uo1_25 uo1_26 uo1_27 uo1_28 uo1_29 uo1_30 uo1_31 uo1_32 uo1_33 uo1_34 uo1_35 uo1_36 uo1_37 uo1_38 uo1_39 uo1_40 uo1_41 uo1_42 uo1_43 uo1_44 uo1_45 uo1_46 uo1_47 uo1_48 uo1_49 uo1_50 uo1_51 uo1_52:Value,us=[uo1_8,uo1_9,uo1_10,uo1_11,uo1_24,uo1_25,uo1_26,uo1_27,uo1_28,uo1_29,uo1_30,uo1_31,uo1_32,uo1_33,uo1_34,uo1_35,uo1_36,uo1_37,uo1_38,uo1_39,uo1_40,uo1_41,uo1_42,uo1_43,uo1_44,uo1_45,uo1_46,uo1_47,uo1_48,uo1_49,uo1_50,uo1_51,uo1_52]∧St [] h0 w0 h0 [(some b5, .mapIter (some b4) cl1 sno1 c0o1),(some b4, .map es1 cl1),((some b3), .cells ([vI a1]).toArray 3 (0,0)),(some b2, .cells #[vL A2_0 a2.vDefs.length c2_0] 24 (0,0)),(some b1, .cells #[vL A0_0 a0.vDefs.length c0_0] 24 (0,0))] w') ((leftOf es1 #[]).size+1) [vB false,undef,undef,undef,undef,undef,undef,undef,undef,undef,undef,undef,undef,undef,undef,undef,undef,undef,undef,undef,undef,undef,undef,undef,undef,undef,undef,undef,undef,undef,undef,undef,undef] (by simp only [patch,sc0,sc1]) ⟨#[],cl1,_,_,_,_,_,_,_,_,_,_,_,_,_,_,_,_,_,_,_,_,_,_,_,_,_,_,_,_,_,_,_,_,_,rfl,Nat.lt_succ_self _,Nat.le_refl _,gone0,HS6⟩ ?_ ?_
  ·rintro m us w7 ⟨sny1,c0y1,uy1_8,uy1_9,uy1_10,uy1_11,uy1_24,uy1_25,uy1_26,uy1_27,uy1_28,uy1_29,uy1_30,uy1_31,uy1_32,uy1_33,uy1_34,uy1_35,uy1_36,uy1_37,uy1_38,uy1_39,uy1_40,uy1_41,uy1_42,uy1_43,uy1_44,uy1_45,uy1_46,uy1_47,uy1_48,uy1_49,uy1_50,uy1_51,uy1_52,rfl,hly1,hcy1,hgy1,HS7⟩
   try simp only [patch,sc0,sc1]
   refine wp_seq ?_
   refine region ?_
   refine run_next (i:=0) (j:=1) rfl HS7 rfl rfl hcy1 ho2 ?_ ?_
   ·intro hle
    replace H:=rng_done ho2 H hgy1 hle
    refine rs (vB false) (r_extract rfl rfl) ?_
    try simp only [sc0,sc1]
    refine run_nil ?_
    refine norm_then ?_
    refine wp_seq ?_
    refine wp_cond_false rfl ?_
    refine wp_exit ?_
    refine exit_then ?_
    obtain rfl:=Option.some.inj H
    refine leave [uy1_8,uy1_9,uy1_10,uy1_11,Value.tuple #[vB false],vB false,uy1_26,uy1_27,uy1_28,uy1_29,uy1_30,uy1_31,uy1_32,uy1_33,uy1_34,uy1_35,uy1_36,uy1_37,uy1_38,uy1_39,uy1_40,uy1_41,uy1_42,uy1_43,uy1_44,uy1_45,uy1_46,uy1_47,uy1_48,uy1_49,uy1_50,uy1_51,uy1_52] (by simp only [patch,sc0,sc1]) ⟨_,rfl,sny1,c0y1,_,_,_,_,_,_,_,_,_,_,_,_,_,_,_,_,_,_,_,_,_,_,_,_,_,_,_,_,_,_,_,_,_,rfl,HS7⟩
   ·intro e1 kyy1 kzy1 he1 hm1 hk1 hv1 w8 HS8
    obtain ⟨zz1,H,G2⟩:=rng_body (fun r=>some r) H hm1 (fun a ea=>by subst ea;exact G1)
    have Hz1:=H
    rw [ctf_equal.l0] at H
    refine rs (vB true) (r_extract rfl rfl) ?_
    try simp only [sc0,sc1]
    refine run_nil ?_
    refine norm_then ?_
    refine wp_seq ?_
    refine wp_cond_true rfl ?_
    refine wp_skip ?_
    refine norm_then ?_
    refine wp_block ?_
    refine wp_seq ?_
    refine region ?_
    refine rs (Value.tuple #[vI kyy1,vB kzy1]) (r_entry rfl HS8 (i:=0) (j:=1) rfl rfl ho2 hm1 hk1 hv1) ?_
    refine rs (vI kyy1) (r_extract rfl rfl) ?_
    refine rs (vI kyy1) (r_assign rfl) ?_
    try simp only [sc0,sc1]
    refine run_nil ?_
    refine norm_then ?_
    refine wp_seq ?_
    refine region ?_
    refine rs (vP b1 0) (r_fieldBox (n:=1) (o':=0) rfl Tryd.runUnderlying24 rfl Tryd.sizeOf22 (by decide) rfl) ?_
    refine rs (vL A0_0 a0.vDefs.length c0_0) (r_loadBox rfl Tryd.isAgg22 (HS8.look 4 rfl) rfl) ?_
    refine rs (vI kyy1) (r_move rfl) ?_
    obtain ⟨hi1,H⟩:=of_ite H
    obtain ⟨ad1,Aad1_6,cad1_6,e2,hel1,hcad1_6,hrad1_6⟩:=ld_api_Def hr0_0 hi1.1 hi1.2
    refine rs (Value.pointer (some (Addr.add ad1 (kyy1.toNat*7)))) (r_indexA (sz:=7) rfl e2 rfl hi1.1 hi1.2 Tryd.runUnderlying22 Tryd.sizeOf34) ?_
    refine run_frame (by simp only [sc0,sc1];rfl) ?_
    refine rs (Value.agg #[vI ((rd z_api_Def a0.vDefs kyy1).vKind),vS ((rd z_api_Def a0.vDefs kyy1).vName),vI ((rd z_api_Def a0.vDefs kyy1).vInt.vSize),vB ((rd z_api_Def a0.vDefs kyy1).vInt.vSigned),vI ((rd z_api_Def a0.vDefs kyy1).vRef),vI ((rd z_api_Def a0.vDefs kyy1).vN),vL Aad1_6 ((rd z_api_Def a0.vDefs kyy1).vFields).length cad1_6]) (r_loadAgg rfl Tryd.isAgg34 (hel1.sees HS8.sees) Tryd.sizeOf34) ?_
    refine run_ex rfl rfl (does_alloc (cs:=#[vI 0,vS ByteArray.empty,vI 0,vB false,vI 0,vI 0,vL none 0 0]) Tryd.zeroValue34 rfl) ?_
    rintro w9 _ hE5 ⟨b6,rfl,ge4,hb4⟩
    have HS9:=HS8.new hE5 ge4 hb4
    refine run_st (i:=0) (cs:=[vI 0,vS ByteArray.empty,vI 0,vB false,vI 0,vI 0,vL none 0 0]) (cs':=[vI ((rd z_api_Def a0.vDefs kyy1).vKind),vS ((rd z_api_Def a0.vDefs kyy1).vName),vI ((rd z_api_Def a0.vDefs kyy1).vInt.vSize),vB ((rd z_api_Def a0.vDefs kyy1).vInt.vSigned),vI ((rd z_api_Def a0.vDefs kyy1).vRef),vI ((rd z_api_Def a0.vDefs kyy1).vN),vL Aad1_6 ((rd z_api_Def a0.vDefs kyy1).vFields).length cad1_6]) (vs:=[vI ((rd z_api_Def a0.vDefs kyy1).vKind),vS ((rd z_api_Def a0.vDefs kyy1).vName),vI ((rd z_api_Def a0.vDefs kyy1).vInt.vSize),vB ((rd z_api_Def a0.vDefs kyy1).vInt.vSigned),vI ((rd z_api_Def a0.vDefs kyy1).vRef),vI ((rd z_api_Def a0.vDefs kyy1).vN),vL Aad1_6 ((rd z_api_Def a0.vDefs kyy1).vFields).length cad1_6]) (bs':=[(some b6, .cells #[vI ((rd z_api_Def a0.vDefs kyy1).vKind),vS ((rd z_api_Def a0.vDefs kyy1).vName),vI ((rd z_api_Def a0.vDefs kyy1).vInt.vSize),vB ((rd z_api_Def a0.vDefs kyy1).vInt.vSigned),vI ((rd z_api_Def a0.vDefs kyy1).vRef),vI ((rd z_api_Def a0.vDefs kyy1).vN),vL Aad1_6 ((rd z_api_Def a0.vDefs kyy1).vFields).length cad1_6] 34 (0,0)),(some b5, .mapIter (some b4) cl1 (sny1.push e1.born) cl1),(some b4, .map es1 cl1),((some b3), .cells ([vI a1]).toArray 3 (0,0)),(some b2, .cells #[vL A2_0 a2.vDefs.length c2_0] 24 (0,0)),(some b1, .cells #[vL A0_0 a0.vDefs.length c0_0] 24 (0,0))]) rfl rfl Tryd.sizeOf34 rfl rfl (by decide) rfl HS9 rfl (Nat.le_of_ble_eq_true rfl) rfl rfl ?_
    intro w10 HS10
    try simp only [sc0,sc1]
    refine run_nil ?_
    refine norm_then ?_
    refine wp_seq ?_
    refine region ?_
    refine rs (Value.agg #[vI ((rd z_api_Def a0.vDefs kyy1).vKind),vS ((rd z_api_Def a0.vDefs kyy1).vName),vI ((rd z_api_Def a0.vDefs kyy1).vInt.vSize),vB ((rd z_api_Def a0.vDefs kyy1).vInt.vSigned),vI ((rd z_api_Def a0.vDefs kyy1).vRef),vI ((rd z_api_Def a0.vDefs kyy1).vN),vL Aad1_6 ((rd z_api_Def a0.vDefs kyy1).vFields).length cad1_6]) (r_loadBoxAgg (n:=7) (vs:=[vI ((rd z_api_Def a0.vDefs kyy1).vKind),vS ((rd z_api_Def a0.vDefs kyy1).vName),vI ((rd z_api_Def a0.vDefs kyy1).vInt.vSize),vB ((rd z_api_Def a0.vDefs kyy1).vInt.vSigned),vI ((rd z_api_Def a0.vDefs kyy1).vRef),vI ((rd z_api_Def a0.vDefs kyy1).vN),vL Aad1_6 ((rd z_api_Def a0.vDefs kyy1).vFields).length cad1_6]) rfl Tryd.isAgg34 (HS10.look 0 rfl) Tryd.sizeOf34 rfl rfl) ?_
    obtain ⟨v4,H4,H⟩:=of_bind H
    refine run_eq (v:=vB v4) rfl rfl (does_call_eq Tryd.call68 rfl rfl (ctf_named.calls (rd z_api_Def a0.vDefs kyy1) Aad1_6 cad1_6 HS10.sees hrad1_6 hcad1_6 H4)) ?_
    intro w11 hE6
    have HS11:=HS10.step hE6
    try simp only [sc0,sc1]
    refine run_nil ?_
    refine norm_then ?_
    refine wp_cond_split (t:=v4) rfl (fun c2=>?_) (fun c2=>?_)
    ·replace H:=of_pos H c2
     refine wp_seq ?_
     refine region ?_
     refine rs (Value.agg #[vL A2_0 a2.vDefs.length c2_0]) (r_loadBoxAgg (n:=1) (vs:=[vL A2_0 a2.vDefs.length c2_0]) rfl Tryd.isAgg24 (HS11.look 4 rfl) Tryd.sizeOf24 rfl rfl) ?_
     refine rs (vP b6 1) (r_fieldBox (n:=1) (o':=1) rfl Tryd.runUnderlying34 rfl Tryd.sizeOf9 (by decide) rfl) ?_
     refine rs (vS ((rd z_api_Def a0.vDefs kyy1).vName)) (r_loadBox rfl Tryd.isAgg9 (HS11.look 0 rfl) rfl) ?_
     obtain ⟨v5,H5,H⟩:=of_bind H
     refine run_eq (v:=vI v5) rfl rfl (does_call_eq Tryd.call54 rfl rfl (ctf_find.calls k a2 ((rd z_api_Def a0.vDefs kyy1).vName) A2_0 c2_0 HS11.sees hr2_0 hc2_0 H5)) ?_
     intro w12 hE7
     have HS12:=HS11.step hE7
     refine run_frame (by simp only [sc0,sc1];rfl) ?_
     refine rs (vI v5) (r_assign rfl) ?_
     try simp only [sc0,sc1]
     refine run_nil ?_
     refine norm_then ?_
     refine wp_seq ?_
     obtain ⟨hi2,H⟩:=of_ite H
     obtain ⟨ad2,Aad2_6,cad2_6,hq1⟩:=gx3 (fun hC:(true&&((decide (v5<0))==false))=true=>ld_api_Def hr2_0 (hi2 hC).1 (hi2 hC).2)
     obtain ⟨v6,H6,H⟩:=of_bind H
     refine drawn [.eq (vI v5), .eq (vB (decide (v5<0))), .eq (vB (decide (v5<0))), .eq (gv (true&&((decide (v5<0))==false)) (Value.agg #[vL A0_0 a0.vDefs.length c0_0])), .eq (gv (true&&((decide (v5<0))==false)) (Value.agg #[vI ((rd z_api_Def a0.vDefs kyy1).vKind),vS ((rd z_api_Def a0.vDefs kyy1).vName),vI ((rd z_api_Def a0.vDefs kyy1).vInt.vSize),vB ((rd z_api_Def a0.vDefs kyy1).vInt.vSigned),vI ((rd z_api_Def a0.vDefs kyy1).vRef),vI ((rd z_api_Def a0.vDefs kyy1).vN),vL Aad1_6 ((rd z_api_Def a0.vDefs kyy1).vFields).length cad1_6])), .eq (gv (true&&((decide (v5<0))==false)) (Value.agg #[vL A2_0 a2.vDefs.length c2_0])), .eq (gv (true&&((decide (v5<0))==false)) (vP b2 0)), .eq (gv (true&&((decide (v5<0))==false)) (vL A2_0 a2.vDefs.length c2_0)), .eq (gv (true&&((decide (v5<0))==false)) (vI v5)), .eq (gv (true&&((decide (v5<0))==false)) (Value.pointer (some (Addr.add ad2 (v5.toNat*7))))), .eq (gv (true&&((decide (v5<0))==false)) (Value.agg #[vI ((rd z_api_Def a2.vDefs v5).vKind),vS ((rd z_api_Def a2.vDefs v5).vName),vI ((rd z_api_Def a2.vDefs v5).vInt.vSize),vB ((rd z_api_Def a2.vDefs v5).vInt.vSigned),vI ((rd z_api_Def a2.vDefs v5).vRef),vI ((rd z_api_Def a2.vDefs v5).vN),vL Aad2_6 ((rd z_api_Def a2.vDefs v5).vFields).length cad2_6])), .eq (gv (true&&((decide (v5<0))==false)) (vB v6)), .eq (gv (true&&((decide (v5<0))==false)) (vB (!v6))), .eq (vB ((decide (v5<0))||(!v6)))] [39,40,41,42,43,44,45,46,47,48,49,50,51,52] hmix (by kernel_rfl) rfl (stable_eq (stable_eq (stable_eq (stable_eq (stable_eq (stable_eq (stable_eq (stable_eq (stable_eq (stable_eq (stable_eq (stable_eq (stable_eq (stable_eq stable_nil)))))))))))))) ⟨ob_plain rfl (fun a' w' hE hk=>by have HSd:=HS12.step hE;exact does_eq (r_move (show _=vI v5 from hk 11 rfl))),ob_plain rfl (fun a' w' hE hk=>by have HSd:=HS12.step hE;exact does_eq (r_bin (show _=vI v5 from hk 39 rfl) rfl rfl)),ob_plain rfl (fun a' w' hE hk=>by have HSd:=HS12.step hE;exact does_eq (r_move (show _=vB (decide (v5<0)) from hk 40 rfl))),ob_guard (b:=(decide (v5<0))) (c:=true) rfl rfl (by decide) (fun w' u hu=>hu) (fun a' w' hE hk hg=>by have HSd:=HS12.step hE;exact does_eq (r_loadBoxAgg (n:=1) (vs:=[vL A0_0 a0.vDefs.length c0_0]) (show _=vP b1 0 from hk 4 rfl) Tryd.isAgg24 (HSd.look 5 rfl) Tryd.sizeOf24 rfl rfl)),ob_guard (b:=(decide (v5<0))) (c:=true) rfl rfl (by decide) (fun w' u hu=>hu) (fun a' w' hE hk hg=>by have HSd:=HS12.step hE;exact does_eq (r_loadBoxAgg (n:=7) (vs:=[vI ((rd z_api_Def a0.vDefs kyy1).vKind),vS ((rd z_api_Def a0.vDefs kyy1).vName),vI ((rd z_api_Def a0.vDefs kyy1).vInt.vSize),vB ((rd z_api_Def a0.vDefs kyy1).vInt.vSigned),vI ((rd z_api_Def a0.vDefs kyy1).vRef),vI ((rd z_api_Def a0.vDefs kyy1).vN),vL Aad1_6 ((rd z_api_Def a0.vDefs kyy1).vFields).length cad1_6]) (show _=vP b6 0 from hk 10 rfl) Tryd.isAgg34 (HSd.look 0 rfl) Tryd.sizeOf34 rfl rfl)),ob_guard (b:=(decide (v5<0))) (c:=true) rfl rfl (by decide) (fun w' u hu=>hu) (fun a' w' hE hk hg=>by have HSd:=HS12.step hE;exact does_eq (r_loadBoxAgg (n:=1) (vs:=[vL A2_0 a2.vDefs.length c2_0]) (show _=vP b2 0 from hk 6 rfl) Tryd.isAgg24 (HSd.look 4 rfl) Tryd.sizeOf24 rfl rfl)),ob_guard (b:=(decide (v5<0))) (c:=true) rfl rfl (by decide) (fun w' u hu=>hu) (fun a' w' hE hk hg=>by have HSd:=HS12.step hE;exact does_eq (r_fieldBox (n:=1) (o':=0) (show _=vP b2 0 from hk 6 rfl) Tryd.runUnderlying24 rfl Tryd.sizeOf22 (by decide) rfl)),ob_guard (b:=(decide (v5<0))) (c:=true) rfl rfl (by decide) (fun w' u hu=>hu) (fun a' w' hE hk hg=>by have HSd:=HS12.step hE;exact does_eq (r_loadBox ((show _=gv (true&&((decide (v5<0))==false)) (vP b2 0) from (show _=gv (true&&((decide (v5<0))==false)) (vP b2 0) from hk 45 rfl)).trans (gv_t hg)) Tryd.isAgg22 (HSd.look 4 rfl) rfl)),ob_guard (b:=(decide (v5<0))) (c:=true) rfl rfl (by decide) (fun w' u hu=>hu) (fun a' w' hE hk hg=>by have HSd:=HS12.step hE;exact does_eq (r_move (show _=vI v5 from hk 11 rfl))),ob_guard (b:=(decide (v5<0))) (c:=true) rfl rfl (by decide) (fun w' u hu=>hu) (fun a' w' hE hk hg=>by have HSd:=HS12.step hE;exact does_eq (r_indexA (sz:=7) ((show _=gv (true&&((decide (v5<0))==false)) (vL A2_0 a2.vDefs.length c2_0) from (show _=gv (true&&((decide (v5<0))==false)) (vL A2_0 a2.vDefs.length c2_0) from hk 46 rfl)).trans (gv_t hg)) (hq1 hg).1 ((show _=gv (true&&((decide (v5<0))==false)) (vI v5) from (show _=gv (true&&((decide (v5<0))==false)) (vI v5) from hk 47 rfl)).trans (gv_t hg)) (hi2 hg).1 (hi2 hg).2 Tryd.runUnderlying22 Tryd.sizeOf34)),ob_guard (b:=(decide (v5<0))) (c:=true) rfl rfl (by decide) (fun w' u hu=>hu) (fun a' w' hE hk hg=>by have HSd:=HS12.step hE;exact does_eq (r_loadAgg ((show _=gv (true&&((decide (v5<0))==false)) (Value.pointer (some (Addr.add ad2 (v5.toNat*7)))) from (show _=gv (true&&((decide (v5<0))==false)) (Value.pointer (some (Addr.add ad2 (v5.toNat*7)))) from hk 48 rfl)).trans (gv_t hg)) Tryd.isAgg34 (((hq1 hg).2.1).sees HSd.sees) Tryd.sizeOf34)),ob_guard (b:=(decide (v5<0))) (c:=true) rfl rfl (by decide) (fun w' u hu=>hu) (fun a' w' hE hk hg=>by have HSd:=HS12.step hE;exact (does_call_eq Tryd.call104 rfl (map4 ((show _=gv (true&&((decide (v5<0))==false)) (Value.agg #[vL A0_0 a0.vDefs.length c0_0]) from (show _=gv (true&&((decide (v5<0))==false)) (Value.agg #[vL A0_0 a0.vDefs.length c0_0]) from hk 42 rfl)).trans (gv_t hg)) ((show _=gv (true&&((decide (v5<0))==false)) (Value.agg #[vI ((rd z_api_Def a0.vDefs kyy1).vKind),vS ((rd z_api_Def a0.vDefs kyy1).vName),vI ((rd z_api_Def a0.vDefs kyy1).vInt.vSize),vB ((rd z_api_Def a0.vDefs kyy1).vInt.vSigned),vI ((rd z_api_Def a0.vDefs kyy1).vRef),vI ((rd z_api_Def a0.vDefs kyy1).vN),vL Aad1_6 ((rd z_api_Def a0.vDefs kyy1).vFields).length cad1_6]) from (show _=gv (true&&((decide (v5<0))==false)) (Value.agg #[vI ((rd z_api_Def a0.vDefs kyy1).vKind),vS ((rd z_api_Def a0.vDefs kyy1).vName),vI ((rd z_api_Def a0.vDefs kyy1).vInt.vSize),vB ((rd z_api_Def a0.vDefs kyy1).vInt.vSigned),vI ((rd z_api_Def a0.vDefs kyy1).vRef),vI ((rd z_api_Def a0.vDefs kyy1).vN),vL Aad1_6 ((rd z_api_Def a0.vDefs kyy1).vFields).length cad1_6]) from hk 43 rfl)).trans (gv_t hg)) ((show _=gv (true&&((decide (v5<0))==false)) (Value.agg #[vL A2_0 a2.vDefs.length c2_0]) from (show _=gv (true&&((decide (v5<0))==false)) (Value.agg #[vL A2_0 a2.vDefs.length c2_0]) from hk 44 rfl)).trans (gv_t hg)) ((show _=gv (true&&((decide (v5<0))==false)) (Value.agg #[vI ((rd z_api_Def a2.vDefs v5).vKind),vS ((rd z_api_Def a2.vDefs v5).vName),vI ((rd z_api_Def a2.vDefs v5).vInt.vSize),vB ((rd z_api_Def a2.vDefs v5).vInt.vSigned),vI ((rd z_api_Def a2.vDefs v5).vRef),vI ((rd z_api_Def a2.vDefs v5).vN),vL Aad2_6 ((rd z_api_Def a2.vDefs v5).vFields).length cad2_6]) from (show _=gv (true&&((decide (v5<0))==false)) (Value.agg #[vI ((rd z_api_Def a2.vDefs v5).vKind),vS ((rd z_api_Def a2.vDefs v5).vName),vI ((rd z_api_Def a2.vDefs v5).vInt.vSize),vB ((rd z_api_Def a2.vDefs v5).vInt.vSigned),vI ((rd z_api_Def a2.vDefs v5).vRef),vI ((rd z_api_Def a2.vDefs v5).vN),vL Aad2_6 ((rd z_api_Def a2.vDefs v5).vFields).length cad2_6]) from hk 49 rfl)).trans (gv_t hg))) (ctf_alike.calls k a0 (rd z_api_Def a0.vDefs kyy1) a2 (rd z_api_Def a2.vDefs v5) A0_0 c0_0 Aad1_6 cad1_6 A2_0 c2_0 Aad2_6 cad2_6 HSd.sees (ht.s HSd) hr0_0 hc0_0 hrad1_6 hcad1_6 hr2_0 hc2_0 ((hq1 hg).2.2.2) ((hq1 hg).2.2.1) (of_pos H6 hg)))),ob_guard (b:=(decide (v5<0))) (c:=true) rfl rfl (by decide) (fun w' u hu=>hu) (fun a' w' hE hk hg=>by have HSd:=HS12.step hE;exact does_eq (r_not ((show _=gv (true&&((decide (v5<0))==false)) (vB v6) from (show _=gv (true&&((decide (v5<0))==false)) (vB v6) from hk 50 rfl)).trans (gv_t hg)))),ob_plain rfl (fun a' w' hE hk=>by have HSd:=HS12.step hE;exact does_eq (r_pick_or (show _=vB (decide (v5<0)) from hk 41 rfl) rfl (fun hp=>((show _=gv (true&&((decide (v5<0))==false)) (vB (!v6)) from (show _=gv (true&&((decide (v5<0))==false)) (vB (!v6)) from hk 51 rfl)).trans (gv_t (and_i rfl hp)))))),trivial⟩ ?_
     intro w13 hE8
     simp only [List.zip_cons_cons,List.zip_nil_left,List.zip_nil_right,finL,sc0,sc1,List.length_cons,List.length_nil,List.drop_succ_cons,List.drop_zero,Nat.zero_add,Nat.reduceAdd]
     have HS13:=HS12.step hE8
     refine run_nil ?_
     refine norm_then ?_
     refine wp_cond_split (t:=((decide (v5<0))||(!v6))) rfl (fun c3=>?_) (fun c3=>?_)
     ·replace H:=of_pos H c3
      refine wp_seq ?_
      refine region ?_
      refine rs (vB false) (r_assign rfl) ?_
      try simp only [sc0,sc1]
      refine run_nil ?_
      refine norm_then ?_
      refine wp_ret ?_
      refine ret_block ?_
      refine ret_loop ?_
      refine ret_then ?_
      obtain rfl:=Option.some.inj H
      obtain rfl:=Option.some.inj G2
      refine bodyPost_ret (results_1 rfl (one_tmp rfl)) rfl ?_
      exact ⟨rfl,HS13.toE⟩
     ·replace H:=of_neg H (nt c3)
      refine wp_skip ?_
      refine norm_block ?_
      obtain rfl:=Option.some.inj H
      refine again (leftOf es1 sny1).size [uy1_8,vI kyy1,vP b6 0,vI v5,Value.tuple #[vB true,vI kyy1,vB kzy1],vB true,Value.tuple #[vI kyy1,vB kzy1],vI kyy1,vP b1 0,vL A0_0 a0.vDefs.length c0_0,vI kyy1,Value.pointer (some (Addr.add ad1 (kyy1.toNat*7))),Value.agg #[vI ((rd z_api_Def a0.vDefs kyy1).vKind),vS ((rd z_api_Def a0.vDefs kyy1).vName),vI ((rd z_api_Def a0.vDefs kyy1).vInt.vSize),vB ((rd z_api_Def a0.vDefs kyy1).vInt.vSigned),vI ((rd z_api_Def a0.vDefs kyy1).vRef),vI ((rd z_api_Def a0.vDefs kyy1).vN),vL Aad1_6 ((rd z_api_Def a0.vDefs kyy1).vFields).length cad1_6],Value.agg #[vI ((rd z_api_Def a0.vDefs kyy1).vKind),vS ((rd z_api_Def a0.vDefs kyy1).vName),vI ((rd z_api_Def a0.vDefs kyy1).vInt.vSize),vB ((rd z_api_Def a0.vDefs kyy1).vInt.vSigned),vI ((rd z_api_Def a0.vDefs kyy1).vRef),vI ((rd z_api_Def a0.vDefs kyy1).vN),vL Aad1_6 ((rd z_api_Def a0.vDefs kyy1).vFields).length cad1_6],vB v4,Value.agg #[vL A2_0 a2.vDefs.length c2_0],vP b6 1,vS ((rd z_api_Def a0.vDefs kyy1).vName),vI v5,vI v5,vB (decide (v5<0)),vB (decide (v5<0)),gv (true&&((decide (v5<0))==false)) (Value.agg #[vL A0_0 a0.vDefs.length c0_0]),gv (true&&((decide (v5<0))==false)) (Value.agg #[vI ((rd z_api_Def a0.vDefs kyy1).vKind),vS ((rd z_api_Def a0.vDefs kyy1).vName),vI ((rd z_api_Def a0.vDefs kyy1).vInt.vSize),vB ((rd z_api_Def a0.vDefs kyy1).vInt.vSigned),vI ((rd z_api_Def a0.vDefs kyy1).vRef),vI ((rd z_api_Def a0.vDefs kyy1).vN),vL Aad1_6 ((rd z_api_Def a0.vDefs kyy1).vFields).length cad1_6]),gv (true&&((decide (v5<0))==false)) (Value.agg #[vL A2_0 a2.vDefs.length c2_0]),gv (true&&((decide (v5<0))==false)) (vP b2 0),gv (true&&((decide (v5<0))==false)) (vL A2_0 a2.vDefs.length c2_0),gv (true&&((decide (v5<0))==false)) (vI v5),gv (true&&((decide (v5<0))==false)) (Value.pointer (some (Addr.add ad2 (v5.toNat*7)))),gv (true&&((decide (v5<0))==false)) (Value.agg #[vI ((rd z_api_Def a2.vDefs v5).vKind),vS ((rd z_api_Def a2.vDefs v5).vName),vI ((rd z_api_Def a2.vDefs v5).vInt.vSize),vB ((rd z_api_Def a2.vDefs v5).vInt.vSigned),vI ((rd z_api_Def a2.vDefs v5).vRef),vI ((rd z_api_Def a2.vDefs v5).vN),vL Aad2_6 ((rd z_api_Def a2.vDefs v5).vFields).length cad2_6]),gv (true&&((decide (v5<0))==false)) (vB v6),gv (true&&((decide (v5<0))==false)) (vB (!v6)),vB ((decide (v5<0))||(!v6))] hly1 (by simp only [patch,sc0,sc1]) ⟨sny1.push e1.born,cl1,_,_,_,_,_,_,_,_,_,_,_,_,_,_,_,_,_,_,_,_,_,_,_,_,_,_,_,_,_,_,_,_,_,rfl,left_less he1,Nat.le_refl _,gone_push ho2.nodup hgy1 hm1 Hz1,HS13.tail⟩
    ·replace H:=of_neg H (nt c2)
     refine wp_skip ?_
     refine norm_block ?_
     obtain rfl:=Option.some.inj H
     refine again (leftOf es1 sny1).size [uy1_8,vI kyy1,vP b6 0,uy1_11,Value.tuple #[vB true,vI kyy1,vB kzy1],vB true,Value.tuple #[vI kyy1,vB kzy1],vI kyy1,vP b1 0,vL A0_0 a0.vDefs.length c0_0,vI kyy1,Value.pointer (some (Addr.add ad1 (kyy1.toNat*7))),Value.agg #[vI ((rd z_api_Def a0.vDefs kyy1).vKind),vS ((rd z_api_Def a0.vDefs kyy1).vName),vI ((rd z_api_Def a0.vDefs kyy1).vInt.vSize),vB ((rd z_api_Def a0.vDefs kyy1).vInt.vSigned),vI ((rd z_api_Def a0.vDefs kyy1).vRef),vI ((rd z_api_Def a0.vDefs kyy1).vN),vL Aad1_6 ((rd z_api_Def a0.vDefs kyy1).vFields).length cad1_6],Value.agg #[vI ((rd z_api_Def a0.vDefs kyy1).vKind),vS ((rd z_api_Def a0.vDefs kyy1).vName),vI ((rd z_api_Def a0.vDefs kyy1).vInt.vSize),vB ((rd z_api_Def a0.vDefs kyy1).vInt.vSigned),vI ((rd z_api_Def a0.vDefs kyy1).vRef),vI ((rd z_api_Def a0.vDefs kyy1).vN),vL Aad1_6 ((rd z_api_Def a0.vDefs kyy1).vFields).length cad1_6],vB v4,uy1_35,uy1_36,uy1_37,uy1_38,uy1_39,uy1_40,uy1_41,uy1_42,uy1_43,uy1_44,uy1_45,uy1_46,uy1_47,uy1_48,uy1_49,uy1_50,uy1_51,uy1_52] hly1 (by simp only [patch,sc0,sc1]) ⟨sny1.push e1.born,cl1,_,_,_,_,_,_,_,_,_,_,_,_,_,_,_,_,_,_,_,_,_,_,_,_,_,_,_,_,_,_,_,_,_,rfl,left_less he1,Nat.le_refl _,gone_push ho2.nodup hgy1 hm1 Hz1,HS11.tail⟩
  ·rintro us w14 ⟨s1,rfl,sno1,c0o1,uo1_8,uo1_9,uo1_10,uo1_11,uo1_24,uo1_25,uo1_26,uo1_27,uo1_28,uo1_29,uo1_30,uo1_31,uo1_32,uo1_33,uo1_34,uo1_35,uo1_36,uo1_37,uo1_38,uo1_39,uo1_40,uo1_41,uo1_42,uo1_43,uo1_44,uo1_45,uo1_46,uo1_47,uo1_48,uo1_49,uo1_50,uo1_51,uo1_52,rfl,HS14⟩
   replace H:=G1
   clear G1
   try simp only [patch,sc0,sc1]
   refine norm_then ?_
   refine wp_seq ?_
   refine region ?_
   refine rs (vB true) (r_assign rfl) ?_
   try simp only [sc0,sc1]
   refine run_nil ?_
   refine norm_then ?_
   refine wp_ret ?_
   obtain rfl:=Option.some.inj H
   refine bodyPost_ret (results_1 rfl (one_tmp rfl)) rfl ?_
   exact ⟨rfl,HS14.toE⟩

end Go.Proofs.YtfjppgobidjndaaDoor
namespace Go.Proofs.YtfjppgobidjndaaDoor
open Go.RowKit Go.M
def ctf_Equal.f (k:Nat) (a0:api_Types) (a1:Int) (a2:api_Types) (a3:Int):Option (Bool):=(ctf_given.f k a0 a1).bind fun v1=>((if (true&&((v1==0)==true))=true then ctf_given.f k a2 a3 else some 0).bind fun v2=>((if (true&&(((v1==0)&&(v2==0))==true))=true then ctf_equal.f k a0 a1 a2 a3 else some false).bind fun v3=>(some (((v1==0)&&(v2==0))&&v3))))
set_option maxRecDepth 20000 in
set_option maxHeartbeats 4000000 in
theorem ctf_Equal.calls (k:Nat) (a0:api_Types) (a1:Int) (a2:api_Types) (a3:Int) (A0_0:Option Addr) (c0_0:Nat) (A2_0:Option Addr) (c2_0:Nat) {h0:View} {w0:World} (hv:Sees h0 w0) (ht:Tab w0) (hr0_0:Rd k_api_Def h0 A0_0 a0.vDefs) (hc0_0:a0.vDefs.length≤c0_0) (hr2_0:Rd k_api_Def h0 A2_0 a2.vDefs) (hc2_0:a2.vDefs.length≤c2_0) {r:Bool} (H:ctf_Equal.f k a0 a1 a2 a3=some r):Calls Tryd.prog 29 #[Value.agg #[vL A0_0 a0.vDefs.length c0_0],vI a1,Value.agg #[vL A2_0 a2.vDefs.length c2_0],vI a3] w0 (fun e w1=>e= .returned (vB r)∧Ext w0 w1):=by
 unfold ctf_Equal.f at H
 have HS:St [] h0 w0 h0 [] w0:=St.init hv
 go_enter Tryd.func29,Tryd.ntmps29
 refine wp_seq ?_
 refine region ?_
 refine run_ex rfl rfl (does_box (cs:=#[vL A0_0 a0.vDefs.length c0_0]) rfl rfl) ?_
 rintro w1 _ hE1 ⟨b1,rfl,ge1,hb1⟩
 have HS1:=HS.new hE1 ge1 hb1
 refine run_ex rfl rfl (does_box (cs:=#[vL A2_0 a2.vDefs.length c2_0]) rfl rfl) ?_
 rintro w2 _ hE2 ⟨b2,rfl,ge2,hb2⟩
 have HS2:=HS1.new hE2 ge2 hb2
 refine rs (vB false) (r_assign rfl) ?_
 try simp only [sc0,sc1]
 refine run_nil ?_
 refine norm_then ?_
 refine wp_seq ?_
 refine region ?_
 refine rs (Value.agg #[vL A0_0 a0.vDefs.length c0_0]) (r_loadBoxAgg (n:=1) (vs:=[vL A0_0 a0.vDefs.length c0_0]) rfl Tryd.isAgg24 (HS2.look 1 rfl) Tryd.sizeOf24 rfl rfl) ?_
 refine rs (vI a1) (r_move rfl) ?_
 obtain ⟨v1,H1,H⟩:=of_bind H
 refine run_eq (v:=vI v1) rfl rfl (does_call_eq Tryd.call43 rfl rfl (ctf_given.calls k a0 a1 A0_0 c0_0 HS2.sees hr0_0 hc0_0 H1)) ?_
 intro w3 hE3
 have HS3:=HS2.step hE3
 refine rs (vB (v1==0)) (r_bin rfl rfl rfl) ?_
 refine run_frame (by simp only [sc0,sc1];rfl) ?_
 refine rs (vB (v1==0)) (r_move rfl) ?_
 refine rgs (v1==0) true (Value.agg #[vL A2_0 a2.vDefs.length c2_0]) rfl rfl rfl rfl (fun hg=>(r_loadBoxAgg (n:=1) (vs:=[vL A2_0 a2.vDefs.length c2_0]) rfl Tryd.isAgg24 (HS3.look 0 rfl) Tryd.sizeOf24 rfl rfl)) ?_
 refine rgs (v1==0) true (vI a3) rfl rfl rfl rfl (fun hg=>(r_move rfl)) ?_
 obtain ⟨v2,H2,H⟩:=of_bind H
 refine run_g (b:=(v1==0)) (c:=true) (v:=vI v2) rfl rfl rfl rfl (fun hg=>(does_call_eq Tryd.call43 rfl (map2 (gvt (Value.agg #[vL A2_0 a2.vDefs.length c2_0]) hg rfl) (gvt (vI a3) hg rfl)) (ctf_given.calls k a2 a3 A2_0 c2_0 HS3.sees hr2_0 hc2_0 (of_pos H2 hg)))) ?_
 intro w4 hE4
 have HS4:=HS3.step hE4
 refine run_frame (by simp only [sc0,sc1];rfl) ?_
 refine rgs (v1==0) true (vB (v2==0)) rfl rfl rfl rfl (fun hg=>(r_bin (gvt (vI v2) hg rfl) rfl rfl)) ?_
 refine rs (vB ((v1==0)&&(v2==0))) (r_pick_and rfl (fun hp=>(gvt (vB (v2==0)) (and_i rfl hp) rfl)) rfl) ?_
 refine rs (vB ((v1==0)&&(v2==0))) (r_move rfl) ?_
 refine rgs ((v1==0)&&(v2==0)) true (Value.agg #[vL A0_0 a0.vDefs.length c0_0]) rfl rfl rfl rfl (fun hg=>(r_loadBoxAgg (n:=1) (vs:=[vL A0_0 a0.vDefs.length c0_0]) rfl Tryd.isAgg24 (HS4.look 1 rfl) Tryd.sizeOf24 rfl rfl)) ?_
 refine run_frame (by simp only [sc0,sc1];rfl) ?_
 refine rgs ((v1==0)&&(v2==0)) true (vI a1) rfl rfl rfl rfl (fun hg=>(r_move rfl)) ?_
 refine rgs ((v1==0)&&(v2==0)) true (Value.agg #[vL A2_0 a2.vDefs.length c2_0]) rfl rfl rfl rfl (fun hg=>(r_loadBoxAgg (n:=1) (vs:=[vL A2_0 a2.vDefs.length c2_0]) rfl Tryd.isAgg24 (HS4.look 0 rfl) Tryd.sizeOf24 rfl rfl)) ?_
 refine rgs ((v1==0)&&(v2==0)) true (vI a3) rfl rfl rfl rfl (fun hg=>(r_move rfl)) ?_
 obtain ⟨v3,H3,H⟩:=of_bind H
 refine run_g (b:=((v1==0)&&(v2==0))) (c:=true) (v:=vB v3) rfl rfl rfl rfl (fun hg=>(does_call_eq Tryd.call61 rfl (map4 (gvt (Value.agg #[vL A0_0 a0.vDefs.length c0_0]) hg rfl) (gvt (vI a1) hg rfl) (gvt (Value.agg #[vL A2_0 a2.vDefs.length c2_0]) hg rfl) (gvt (vI a3) hg rfl)) (ctf_equal.calls k a0 a1 a2 a3 A0_0 c0_0 A2_0 c2_0 HS4.sees (ht.s HS4) hr0_0 hc0_0 hr2_0 hc2_0 (of_pos H3 hg)))) ?_
 intro w5 hE5
 have HS5:=HS4.step hE5
 refine run_frame (by simp only [sc0,sc1];rfl) ?_
 refine rs (vB (((v1==0)&&(v2==0))&&v3)) (r_pick_and rfl (fun hp=>(gvt (vB v3) (and_i rfl hp) rfl)) rfl) ?_
 refine rs (vB (((v1==0)&&(v2==0))&&v3)) (r_assign rfl) ?_
 try simp only [sc0,sc1]
 refine run_nil ?_
 refine norm_then ?_
 refine wp_ret ?_
 obtain rfl:=Option.some.inj H
 refine bodyPost_ret (results_1 rfl (one_tmp rfl)) rfl ?_
 exact ⟨rfl,HS5.toE⟩

end Go.Proofs.YtfjppgobidjndaaDoor
