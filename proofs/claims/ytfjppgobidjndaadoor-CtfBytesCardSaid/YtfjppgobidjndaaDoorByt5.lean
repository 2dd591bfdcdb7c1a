/- Parts of a proof, merged by program: F75 F76 F77 F39 F79 F78 F81 F80 F82 F83 F40 F10 F11 B1 Q5 Q6 F101 F54 F21 F55 F22 F102 F56 F23 F57 F24 F58 F25 F26 F27 F4 Q8 N1 Q10 Q11 N2 Q12 Q13 Q14 F115 F84 Q15 F122 F123 F104 F61 F29 Q16 N3 G1 F63 F64 F32 F65 F67 F66 F33 F7 N4 N5. The walks (each function once) and the plain laws; no condition of their own. -/
import Derived.Test.YtfjppgobidjndaaDoorByt4
set_option linter.unusedVariables false
set_option linter.unusedSimpArgs false
set_option maxRecDepth 20000
set_option maxHeartbeats 4000000
namespace Go.Proofs.YtfjppgobidjndaaDoor
open Go.RowKit Go.M
def taplineref08_Writer_Int.l0:Nat→Int→(List Int)→Option (Int×(List Int))
 |0,_,_=>none
 |m+1,y1_0,y1_1=>if (decide (y1_0≥128))=true then (if y1_1.length+1≤4294967296 then (taplineref08_Writer_Int.l0 m (iQuo .u64 y1_0 128) (y1_1++([(IntKind.wrap .u8 ((IntKind.wrap .u8 (iRem y1_0 128))+128))]:List Int))) else none) else (some (y1_0,y1_1))
def taplineref08_Writer_Int.f (k:Nat) (p0:List Int) (a1:Int):Option ((List Int)):=((if (decide (a1<0))=true then (some (iNot .u64 (iShl .u64 (IntKind.wrap .u64 a1) 1))) else (some (iShl .u64 (IntKind.wrap .u64 a1) 1))):Option (Int)).bind fun xx1=>((taplineref08_Writer_Int.l0 k xx1 p0).bind fun xx2=>(if xx2.2.length+1≤4294967296 then (some (xx2.2++([(IntKind.wrap .u8 xx2.1)]:List Int))) else none))
theorem taplineref08_Writer_Int.calls (k:Nat) (p0:List Int) (a1:Int) (bp0:Nat) (obp0:Option Nat) (cp0:Nat) (csp0:List Value) {h0:View} {w0:World} {h:View} {w:World} {rest:List Res} (HS:St [] h0 w0 h ((some bp0, .cells #[vL (rowA obp0) p0.length cp0] 132 (0,0))::(obp0, .cells (csp0).toArray 5 (0,0))::rest) w) (hop0:RowOk (Kd.int .u8) h p0 obp0 p0.length cp0 csp0) {r:(List Int)} (H:taplineref08_Writer_Int.f k p0 a1=some r):Calls Tryd.prog 75 #[vP bp0 0,vI a1] w (fun e w1=>∃(obz_p0:Option Nat) (cz_p0:Nat) (csz_p0:List Value),e= .returned (Value.tuple #[])∧RowOk (Kd.int .u8) h r obz_p0 r.length cz_p0 csz_p0∧St [] h0 w0 h ((some bp0, .cells #[vL (rowA obz_p0) r.length cz_p0] 132 (0,0))::(obz_p0, .cells (csz_p0).toArray 5 (0,0))::rest) w1):=by
 unfold taplineref08_Writer_Int.f at H
 have hsub:Sub h h:=Sub.rfl' h
 go_enter Tryd.func75,Tryd.ntmps75
 refine wp_seq<|region<|rs (vI a1) (r_move rfl)<|rs (Value.int .u64 (IntKind.wrap .u64 a1)) (r_conv rfl Tryd.runUnderlying2 Tryd.runUnderlying168)<|rs (Value.int .u64 (iShl .u64 (IntKind.wrap .u64 a1) 1)) (r_shl rfl rfl (by decide))<|rs (Value.int .u64 (iShl .u64 (IntKind.wrap .u64 a1) 1)) (r_assign rfl) ?_
 try simp only [sc0,sc1]
 refine run_nil<|norm_then<|wp_seq<|wp_seq<|region<|rs (vI a1) (r_move rfl)<|rs (vB (decide (a1<0))) (r_bin rfl rfl rfl) ?_
 try simp only [sc0,sc1]
 refine run_nil<|norm_then ?_
 obtain ⟨xx1,H,G1⟩:=of_bind H
 refine cut_patch [4,10,11] (fun us w'=>Fit us (fun uj1=>[Value.int .u64 xx1,(uj1 1),(uj1 2)])∧St [] h0 w0 h ((some bp0, .cells #[vL (rowA obp0) p0.length cp0] 132 (0,0))::(obp0, .cells (csp0).toArray 5 (0,0))::rest) w') ?_ ?_
 ·refine wp_cond_split (t:=(decide (a1<0))) rfl (fun c1=>?_) (fun c1=>?_)
  ·replace H:=of_pos H c1
   refine region<|rs (Value.int .u64 (iShl .u64 (IntKind.wrap .u64 a1) 1)) (r_move rfl)<|rs (Value.int .u64 (iNot .u64 (iShl .u64 (IntKind.wrap .u64 a1) 1))) (r_inot rfl)<|rs (Value.int .u64 (iNot .u64 (iShl .u64 (IntKind.wrap .u64 a1) 1))) (r_assign rfl) ?_
   try simp only [sc0,sc1]
   refine run_nil ?_
   obtain rfl:=Option.some.inj H
   refine met_j rfl ⟨(fit rfl),HS⟩
  ·replace H:=of_neg H (nt c1)
   refine wp_skip ?_
   obtain rfl:=Option.some.inj H
   refine met_j rfl ⟨(fit rfl),HS⟩
 ·rintro us w1 ⟨huj1,HS1⟩
  obtain ⟨uj1,rfl⟩:=unj huj1
  replace H:=G1
  clear G1
  try simp only [patch,sc0,sc1]
  refine wp_seq ?_
  obtain ⟨xx2,H,G2⟩:=of_bind H
  refine loop_j [4,12,13,14,15,16,17,18,19,20,21,22,23,24,25,26,27,28] (fun m us w'=>∃y1_0:Int,∃y1_1:List Int,∃(oby1_1:Option Nat) (cy1_1:Nat),∃(csy1_1:List Value),Fit us (fun uy1=>[Value.int .u64 y1_0,(uy1 1),(uy1 2),(uy1 3),(uy1 4),(uy1 5),(uy1 6),(uy1 7),(uy1 8),(uy1 9),(uy1 10),(uy1 11),(uy1 12),(uy1 13),(uy1 14),(uy1 15),(uy1 16),(uy1 17)])∧taplineref08_Writer_Int.l0 m y1_0 y1_1=some xx2∧RowOk (Kd.int .u8) h y1_1 oby1_1 y1_1.length cy1_1 csy1_1∧St [] h0 w0 h ((some bp0, .cells #[vL (rowA oby1_1) y1_1.length cy1_1] 132 (0,0))::(oby1_1, .cells (csy1_1).toArray 5 (0,0))::rest) w') (fun us w'=>∃(obo1_1:Option Nat) (co1_1:Nat),∃(cso1_1:List Value),Fit us (fun uo1=>[Value.int .u64 xx2.1,(uo1 1),(uo1 2),(uo1 3),(uo1 4),(uo1 5),(uo1 6),(uo1 7),(uo1 8),(uo1 9),(uo1 10),(uo1 11),(uo1 12),(uo1 13),(uo1 14),(uo1 15),(uo1 16),(uo1 17)])∧RowOk (Kd.int .u8) h xx2.2 obo1_1 xx2.2.length co1_1 cso1_1∧St [] h0 w0 h ((some bp0, .cells #[vL (rowA obo1_1) xx2.2.length co1_1] 132 (0,0))::(obo1_1, .cells (cso1_1).toArray 5 (0,0))::rest) w') k ⟨xx1,p0,obp0,cp0,csp0,(fit rfl),H,hop0.norm,HS1⟩ ?_ ?_
  ·rintro m us w2 ⟨y1_0,y1_1,oby1_1,cy1_1,csy1_1,huy1,H,hoy1_1,HS2⟩
   obtain ⟨uy1,rfl⟩:=unj huy1
   cases m with
   |zero=>exact absurd H (by simp [taplineref08_Writer_Int.l0])
   |succ m=>
    rw [taplineref08_Writer_Int.l0] at H
    try simp only [patch,sc0,sc1]
    refine wp_seq<|wp_seq<|region<|rs (Value.int .u64 y1_0) (r_move rfl)<|rs (vB (decide (y1_0≥128))) (r_bin rfl rfl rfl) ?_
    try simp only [sc0,sc1]
    refine run_nil<|norm_then<|wp_cond_split (t:=(decide (y1_0≥128))) rfl (fun c2=>?_) (fun c2=>?_)
    ·replace H:=of_pos H c2
     refine wp_skip<|norm_then<|wp_block<|wp_seq<|region<|rs (vP bp0 0) (r_move rfl)<|rs (vP bp0 0) (r_move rfl)<|rs (vP bp0 0) (r_nilCheck rfl)<|rs (vP bp0 0) (r_fieldBox (n:=1) (o':=0) rfl Tryd.runUnderlying132 rfl Tryd.sizeOf80 (by decide) rfl)<|run_frame (by simp only [sc0,sc1];rfl) ?_
     refine rs (vL (rowA oby1_1) y1_1.length cy1_1) (r_loadBox rfl Tryd.isAgg80 (HS2.look 0 rfl) rfl)<|rs (Value.int .u64 y1_0) (r_move rfl)<|rs (Value.int .u64 (iRem y1_0 128)) (r_rem rfl rfl (by decide))<|rs (Value.int .u8 (IntKind.wrap .u8 (iRem y1_0 128))) (r_conv rfl Tryd.runUnderlying168 Tryd.runUnderlying5)<|run_frame (by simp only [sc0,sc1];rfl) ?_
     refine rs (Value.int .u8 (IntKind.wrap .u8 ((IntKind.wrap .u8 (iRem y1_0 128))+128))) (r_bin rfl rfl rfl)<|run_bs (Kd.int .u8) (xs:=([(IntKind.wrap .u8 ((IntKind.wrap .u8 (iRem y1_0 128))+128))]:List Int)) (n:=1) (cs:=[Value.int .u8 (IntKind.wrap .u8 ((IntKind.wrap .u8 (iRem y1_0 128))+128))]) Tryd.runUnderlying80 Tryd.typeInfo5 Tryd.zeroValue5 rfl rfl (by decide) (by decide) (by decide) [Value.int .u8 (IntKind.wrap .u8 ((IntKind.wrap .u8 (iRem y1_0 128))+128))] (parts_any.trans rfl) rfl rfl rfl rfl (elems_cons (qs:=[Value.int .u8 (IntKind.wrap .u8 ((IntKind.wrap .u8 (iRem y1_0 128))+128))]) rfl (elems_nil (cs:=[]))) HS2 ?_
     intro w3 b1 HS3 ho1
     obtain ⟨hl1,H⟩:=of_ite H
     refine run_app (Kd.int .u8) (q:=2) (cs:=csy1_1) rfl rfl Tryd.runUnderlying80 Tryd.typeInfo5 Tryd.zeroValue5 rfl (by decide) rfl (src_row Tryd.runUnderlying80 HS3 (i:=0) rfl ho1 rfl) ho1.len (src_row_elems ho1) hl1 HS3 rfl hoy1_1 ?_
     intro w4 ob1 c3 cs1 HS4 ho2
     refine rs (vP bp0 0) (r_nilCheck rfl)<|run_frame (by simp only [sc0,sc1];rfl) ?_
     refine rs (vP bp0 0) (r_fieldBox (n:=1) (o':=0) rfl Tryd.runUnderlying132 rfl Tryd.sizeOf80 (by decide) rfl)<|run_st (i:=1) (cs:=[vL (rowA oby1_1) y1_1.length cy1_1]) (cs':=[vL (rowA ob1) (y1_1.length+1) c3]) (vs:=[vL (rowA ob1) (y1_1.length+1) c3]) (bs':=(((some b1), .cells ([Value.int .u8 (IntKind.wrap .u8 ((IntKind.wrap .u8 (iRem y1_0 128))+128))]).toArray 5 (0,0))::(some bp0, .cells #[vL (rowA ob1) (y1_1.length+1) c3] 132 (0,0))::(ob1, .cells (cs1).toArray 5 (0,0))::rest)) rfl rfl Tryd.sizeOf80 rfl rfl (by decide) rfl HS4 rfl (Nat.le_of_ble_eq_true rfl) rfl rfl ?_
     intro w5 HS5
     try simp only [sc0,sc1]
     refine run_nil<|norm_then<|region<|rs (Value.int .u64 y1_0) (r_move rfl)<|rs (Value.int .u64 (iQuo .u64 y1_0 128)) (r_quo rfl rfl (by decide))<|rs (Value.int .u64 (iQuo .u64 y1_0 128)) (r_assign rfl) ?_
     try simp only [sc0,sc1]
     refine run_nil<|norm_block ?_
     have HS6:St [] h0 w0 h (((some b1), .cells ([Value.int .u8 (IntKind.wrap .u8 ((IntKind.wrap .u8 (iRem y1_0 128))+128))]).toArray 5 (0,0))::(some bp0, .cells #[vL (rowA ob1) ((y1_1++([(IntKind.wrap .u8 ((IntKind.wrap .u8 (iRem y1_0 128))+128))]:List Int)).length) c3] 132 (0,0))::(ob1, .cells (cs1).toArray 5 (0,0))::rest) w5:=HS5.cast (by first|rfl|(rw [ho2.len];done)|(rw [ho2.len];rfl))
     have ho3:=ho2.norm
     refine again_j m (Nat.lt_succ_self m) rfl ⟨(iQuo .u64 y1_0 128),(y1_1++([(IntKind.wrap .u8 ((IntKind.wrap .u8 (iRem y1_0 128))+128))]:List Int)),ob1,c3,cs1,(fit (by first|rfl|(rw [ho2.len];done)|(rw [ho2.len];rfl))),H,ho3.norm,HS6.tail⟩
    ·replace H:=of_neg H (nt c2)
     refine wp_exit<|exit_then ?_
     obtain rfl:=Option.some.inj H
     refine leave_j rfl ⟨oby1_1,cy1_1,csy1_1,(fit rfl),hoy1_1.norm,HS2⟩
  ·rintro us w6 ⟨obo1_1,co1_1,cso1_1,huo1,hoo1_1,HS7⟩
   obtain ⟨uo1,rfl⟩:=unj huo1
   replace H:=G2
   clear G2
   try simp only [patch,sc0,sc1]
   refine norm_then<|region<|rs (vP bp0 0) (r_move rfl)<|rs (vP bp0 0) (r_move rfl)<|rs (vP bp0 0) (r_nilCheck rfl)<|rs (vP bp0 0) (r_fieldBox (n:=1) (o':=0) rfl Tryd.runUnderlying132 rfl Tryd.sizeOf80 (by decide) rfl)<|run_frame (by simp only [sc0,sc1];rfl) ?_
   refine rs (vL (rowA obo1_1) xx2.2.length co1_1) (r_loadBox rfl Tryd.isAgg80 (HS7.look 0 rfl) rfl)<|rs (Value.int .u64 xx2.1) (r_move rfl)<|rs (Value.int .u8 (IntKind.wrap .u8 xx2.1)) (r_conv rfl Tryd.runUnderlying168 Tryd.runUnderlying5)<|run_bs (Kd.int .u8) (xs:=([(IntKind.wrap .u8 xx2.1)]:List Int)) (n:=1) (cs:=[Value.int .u8 (IntKind.wrap .u8 xx2.1)]) Tryd.runUnderlying80 Tryd.typeInfo5 Tryd.zeroValue5 rfl rfl (by decide) (by decide) (by decide) [Value.int .u8 (IntKind.wrap .u8 xx2.1)] (parts_any.trans rfl) rfl rfl rfl rfl (elems_cons (qs:=[Value.int .u8 (IntKind.wrap .u8 xx2.1)]) rfl (elems_nil (cs:=[]))) HS7 ?_
   intro w7 b2 HS8 ho4
   refine run_frame (by simp only [sc0,sc1];rfl) ?_
   obtain ⟨hl2,H⟩:=of_ite H
   refine run_app (Kd.int .u8) (q:=2) (cs:=cso1_1) rfl rfl Tryd.runUnderlying80 Tryd.typeInfo5 Tryd.zeroValue5 rfl (by decide) rfl (src_row Tryd.runUnderlying80 HS8 (i:=0) rfl ho4 rfl) ho4.len (src_row_elems ho4) hl2 HS8 rfl hoo1_1 ?_
   intro w8 ob2 c4 cs2 HS9 ho5
   refine rs (vP bp0 0) (r_nilCheck rfl)<|rs (vP bp0 0) (r_fieldBox (n:=1) (o':=0) rfl Tryd.runUnderlying132 rfl Tryd.sizeOf80 (by decide) rfl)<|run_st (i:=1) (cs:=[vL (rowA obo1_1) xx2.2.length co1_1]) (cs':=[vL (rowA ob2) (xx2.2.length+1) c4]) (vs:=[vL (rowA ob2) (xx2.2.length+1) c4]) (bs':=(((some b2), .cells ([Value.int .u8 (IntKind.wrap .u8 xx2.1)]).toArray 5 (0,0))::(some bp0, .cells #[vL (rowA ob2) (xx2.2.length+1) c4] 132 (0,0))::(ob2, .cells (cs2).toArray 5 (0,0))::rest)) rfl rfl Tryd.sizeOf80 rfl rfl (by decide) rfl HS9 rfl (Nat.le_of_ble_eq_true rfl) rfl rfl ?_
   intro w9 HS10
   try simp only [sc0,sc1]
   refine run_nil ?_
   obtain rfl:=Option.some.inj H
   refine bodyPost_end (results_none rfl _ _ _) rfl ?_
   have HS11:St [] h0 w0 h (((some b2), .cells ([Value.int .u8 (IntKind.wrap .u8 xx2.1)]).toArray 5 (0,0))::(some bp0, .cells #[vL (rowA ob2) ((xx2.2++([(IntKind.wrap .u8 xx2.1)]:List Int)).length) c4] 132 (0,0))::(ob2, .cells (cs2).toArray 5 (0,0))::rest) w9:=HS10.cast (by first|rfl|(rw [ho5.len];done)|(rw [ho5.len];rfl))
   have ho6:=ho4.norm
   have ho7:=ho5.norm
   have HS12:=HS11.d0
   exact ⟨ob2,c4,cs2,rfl,ho7,HS12⟩
def taplineref08_Writer_Text.f (k:Nat) (p0:List Int) (a1:ByteArray):Option ((List Int)):=(taplineref08_Writer_Int.f k p0 (a1.size:Int)).bind fun v1=>(if v1.length+a1.size≤4294967296 then (some (v1++(bytesOf a1))) else none)
theorem taplineref08_Writer_Text.calls (k:Nat) (p0:List Int) (a1:ByteArray) (bp0:Nat) (obp0:Option Nat) (cp0:Nat) (csp0:List Value) {h0:View} {w0:World} {h:View} {w:World} {rest:List Res} (HS:St [] h0 w0 h ((some bp0, .cells #[vL (rowA obp0) p0.length cp0] 132 (0,0))::(obp0, .cells (csp0).toArray 5 (0,0))::rest) w) (hop0:RowOk (Kd.int .u8) h p0 obp0 p0.length cp0 csp0) {r:(List Int)} (H:taplineref08_Writer_Text.f k p0 a1=some r):Calls Tryd.prog 76 #[vP bp0 0,vS a1] w (fun e w1=>∃(obz_p0:Option Nat) (cz_p0:Nat) (csz_p0:List Value),e= .returned (Value.tuple #[])∧RowOk (Kd.int .u8) h r obz_p0 r.length cz_p0 csz_p0∧St [] h0 w0 h ((some bp0, .cells #[vL (rowA obz_p0) r.length cz_p0] 132 (0,0))::(obz_p0, .cells (csz_p0).toArray 5 (0,0))::rest) w1):=by
 unfold taplineref08_Writer_Text.f at H
 have hsub:Sub h h:=Sub.rfl' h
 go_enter Tryd.func76,Tryd.ntmps76
 refine wp_seq<|region<|rs (vP bp0 0) (r_move rfl)<|rs (vS a1) (r_move rfl)<|rs (vI (a1.size:Int)) (r_lenStr rfl Tryd.runUnderlying9) ?_
 obtain ⟨v1,H1,H⟩:=of_bind H
 refine run_call (vs:=[vP bp0 0,vI (a1.size:Int)]) (caps:=[]) Tryd.call75 rfl rfl (taplineref08_Writer_Int.calls k p0 (a1.size:Int) bp0 obp0 cp0 csp0 HS hop0 H1) ?_
 rintro _ w1 ⟨obv1_p0,cv1_p0,csv1_p0,rfl,hov1_p0,HS1⟩
 refine ⟨_,rfl,?_⟩
 try simp only [sc0,sc1]
 refine run_nil<|norm_then<|region<|rs (vP bp0 0) (r_move rfl)<|rs (vP bp0 0) (r_move rfl)<|rs (vP bp0 0) (r_nilCheck rfl)<|rs (vP bp0 0) (r_fieldBox (n:=1) (o':=0) rfl Tryd.runUnderlying132 rfl Tryd.sizeOf80 (by decide) rfl)<|run_frame (by simp only [sc0,sc1];rfl) ?_
 refine rs (vL (rowA obv1_p0) v1.length cv1_p0) (r_loadBox rfl Tryd.isAgg80 (HS1.look 0 rfl) rfl)<|rs (vS a1) (r_move rfl) ?_
 obtain ⟨hl1,H⟩:=of_ite H
 refine run_app (Kd.int .u8) (q:=1) (cs:=csv1_p0) rfl rfl Tryd.runUnderlying80 Tryd.typeInfo5 Tryd.zeroValue5 rfl (by decide) rfl (Src.ofString _ (under_of Tryd.runUnderlying9) a1) (bytesOf_length _) (src_str_elems _) hl1 HS1 rfl hov1_p0 ?_
 intro w2 ob1 c1 cs1 HS2 ho1
 refine rs (vP bp0 0) (r_nilCheck rfl)<|run_frame (by simp only [sc0,sc1];rfl) ?_
 refine rs (vP bp0 0) (r_fieldBox (n:=1) (o':=0) rfl Tryd.runUnderlying132 rfl Tryd.sizeOf80 (by decide) rfl)<|run_st (i:=0) (cs:=[vL (rowA obv1_p0) v1.length cv1_p0]) (cs':=[vL (rowA ob1) (v1.length+a1.size) c1]) (vs:=[vL (rowA ob1) (v1.length+a1.size) c1]) (bs':=((some bp0, .cells #[vL (rowA ob1) (v1.length+a1.size) c1] 132 (0,0))::(ob1, .cells (cs1).toArray 5 (0,0))::rest)) rfl rfl Tryd.sizeOf80 rfl rfl (by decide) rfl HS2 rfl (Nat.le_of_ble_eq_true rfl) rfl rfl ?_
 intro w3 HS3
 try simp only [sc0,sc1]
 refine run_nil ?_
 obtain rfl:=Option.some.inj H
 refine bodyPost_end (results_none rfl _ _ _) rfl ?_
 have HS4:St [] h0 w0 h ((some bp0, .cells #[vL (rowA ob1) ((v1++(bytesOf a1)).length) c1] 132 (0,0))::(ob1, .cells (cs1).toArray 5 (0,0))::rest) w3:=HS3.cast (by first|rfl|(rw [ho1.len];done)|(rw [ho1.len];rfl))
 have ho2:=ho1.norm
 exact ⟨ob1,c1,cs1,rfl,ho2,HS4⟩
def taplineref08_Writer_Bool.f (p0:List Int) (a1:Bool):Option ((List Int)):=if a1=true then (if p0.length+1≤4294967296 then (some (p0++([1]:List Int))) else none) else (if p0.length+1≤4294967296 then (some (p0++([0]:List Int))) else none)
theorem taplineref08_Writer_Bool.calls (p0:List Int) (a1:Bool) (bp0:Nat) (obp0:Option Nat) (cp0:Nat) (csp0:List Value) {h0:View} {w0:World} {h:View} {w:World} {rest:List Res} (HS:St [] h0 w0 h ((some bp0, .cells #[vL (rowA obp0) p0.length cp0] 132 (0,0))::(obp0, .cells (csp0).toArray 5 (0,0))::rest) w) (hop0:RowOk (Kd.int .u8) h p0 obp0 p0.length cp0 csp0) {r:(List Int)} (H:taplineref08_Writer_Bool.f p0 a1=some r):Calls Tryd.prog 77 #[vP bp0 0,vB a1] w (fun e w1=>∃(obz_p0:Option Nat) (cz_p0:Nat) (csz_p0:List Value),e= .returned (Value.tuple #[])∧RowOk (Kd.int .u8) h r obz_p0 r.length cz_p0 csz_p0∧St [] h0 w0 h ((some bp0, .cells #[vL (rowA obz_p0) r.length cz_p0] 132 (0,0))::(obz_p0, .cells (csz_p0).toArray 5 (0,0))::rest) w1):=by
 unfold taplineref08_Writer_Bool.f at H
 have hsub:Sub h h:=Sub.rfl' h
 go_enter Tryd.func77,Tryd.ntmps77
 refine wp_seq<|region<|rs (vB a1) (r_move rfl) ?_
 try simp only [sc0,sc1]
 refine run_nil<|norm_then<|wp_cond_split (t:=a1) rfl (fun c1=>?_) (fun c1=>?_)
 ·replace H:=of_pos H c1
  refine region<|rs (vP bp0 0) (r_move rfl)<|rs (vP bp0 0) (r_move rfl)<|rs (vP bp0 0) (r_nilCheck rfl)<|rs (vP bp0 0) (r_fieldBox (n:=1) (o':=0) rfl Tryd.runUnderlying132 rfl Tryd.sizeOf80 (by decide) rfl)<|run_frame (by simp only [sc0,sc1];rfl) ?_
  refine rs (vL (rowA obp0) p0.length cp0) (r_loadBox rfl Tryd.isAgg80 (HS.look 0 rfl) rfl)<|run_bs (Kd.int .u8) (xs:=([1]:List Int)) (n:=1) (cs:=[Value.int .u8 1]) Tryd.runUnderlying80 Tryd.typeInfo5 Tryd.zeroValue5 rfl rfl (by decide) (by decide) (by decide) [Value.int .u8 1] (parts_any.trans rfl) rfl rfl rfl rfl (elems_cons (qs:=[Value.int .u8 1]) rfl (elems_nil (cs:=[]))) HS ?_
  intro w1 b1 HS1 ho1
  obtain ⟨hl1,H⟩:=of_ite H
  refine run_app (Kd.int .u8) (q:=2) (cs:=csp0) rfl rfl Tryd.runUnderlying80 Tryd.typeInfo5 Tryd.zeroValue5 rfl (by decide) rfl (src_row Tryd.runUnderlying80 HS1 (i:=0) rfl ho1 rfl) ho1.len (src_row_elems ho1) hl1 HS1 rfl hop0 ?_
  intro w2 ob1 c2 cs1 HS2 ho2
  refine rs (vP bp0 0) (r_nilCheck rfl)<|run_frame (by simp only [sc0,sc1];rfl) ?_
  refine rs (vP bp0 0) (r_fieldBox (n:=1) (o':=0) rfl Tryd.runUnderlying132 rfl Tryd.sizeOf80 (by decide) rfl)<|run_st (i:=1) (cs:=[vL (rowA obp0) p0.length cp0]) (cs':=[vL (rowA ob1) (p0.length+1) c2]) (vs:=[vL (rowA ob1) (p0.length+1) c2]) (bs':=(((some b1), .cells ([Value.int .u8 1]).toArray 5 (0,0))::(some bp0, .cells #[vL (rowA ob1) (p0.length+1) c2] 132 (0,0))::(ob1, .cells (cs1).toArray 5 (0,0))::rest)) rfl rfl Tryd.sizeOf80 rfl rfl (by decide) rfl HS2 rfl (Nat.le_of_ble_eq_true rfl) rfl rfl ?_
  intro w3 HS3
  try simp only [sc0,sc1]
  refine run_nil ?_
  obtain rfl:=Option.some.inj H
  refine bodyPost_end (results_none rfl _ _ _) rfl ?_
  have HS4:St [] h0 w0 h (((some b1), .cells ([Value.int .u8 1]).toArray 5 (0,0))::(some bp0, .cells #[vL (rowA ob1) ((p0++([1]:List Int)).length) c2] 132 (0,0))::(ob1, .cells (cs1).toArray 5 (0,0))::rest) w3:=HS3.cast (by first|rfl|(rw [ho2.len];done)|(rw [ho2.len];rfl))
  have ho3:=ho1.norm
  have ho4:=ho2.norm
  have HS5:=HS4.d0
  exact ⟨ob1,c2,cs1,rfl,ho4,HS5⟩
 ·replace H:=of_neg H (nt c1)
  refine region<|rs (vP bp0 0) (r_move rfl)<|rs (vP bp0 0) (r_move rfl)<|rs (vP bp0 0) (r_nilCheck rfl)<|rs (vP bp0 0) (r_fieldBox (n:=1) (o':=0) rfl Tryd.runUnderlying132 rfl Tryd.sizeOf80 (by decide) rfl)<|run_frame (by simp only [sc0,sc1];rfl) ?_
  refine rs (vL (rowA obp0) p0.length cp0) (r_loadBox rfl Tryd.isAgg80 (HS.look 0 rfl) rfl)<|run_bs (Kd.int .u8) (xs:=([0]:List Int)) (n:=1) (cs:=[Value.int .u8 0]) Tryd.runUnderlying80 Tryd.typeInfo5 Tryd.zeroValue5 rfl rfl (by decide) (by decide) (by decide) [Value.int .u8 0] (parts_any.trans rfl) rfl rfl rfl rfl (elems_cons (qs:=[Value.int .u8 0]) rfl (elems_nil (cs:=[]))) HS ?_
  intro w4 b2 HS6 ho5
  obtain ⟨hl2,H⟩:=of_ite H
  refine run_app (Kd.int .u8) (q:=2) (cs:=csp0) rfl rfl Tryd.runUnderlying80 Tryd.typeInfo5 Tryd.zeroValue5 rfl (by decide) rfl (src_row Tryd.runUnderlying80 HS6 (i:=0) rfl ho5 rfl) ho5.len (src_row_elems ho5) hl2 HS6 rfl hop0 ?_
  intro w5 ob2 c3 cs2 HS7 ho6
  refine rs (vP bp0 0) (r_nilCheck rfl)<|run_frame (by simp only [sc0,sc1];rfl) ?_
  refine rs (vP bp0 0) (r_fieldBox (n:=1) (o':=0) rfl Tryd.runUnderlying132 rfl Tryd.sizeOf80 (by decide) rfl)<|run_st (i:=1) (cs:=[vL (rowA obp0) p0.length cp0]) (cs':=[vL (rowA ob2) (p0.length+1) c3]) (vs:=[vL (rowA ob2) (p0.length+1) c3]) (bs':=(((some b2), .cells ([Value.int .u8 0]).toArray 5 (0,0))::(some bp0, .cells #[vL (rowA ob2) (p0.length+1) c3] 132 (0,0))::(ob2, .cells (cs2).toArray 5 (0,0))::rest)) rfl rfl Tryd.sizeOf80 rfl rfl (by decide) rfl HS7 rfl (Nat.le_of_ble_eq_true rfl) rfl rfl ?_
  intro w6 HS8
  try simp only [sc0,sc1]
  refine run_nil ?_
  obtain rfl:=Option.some.inj H
  refine bodyPost_end (results_none rfl _ _ _) rfl ?_
  have HS9:St [] h0 w0 h (((some b2), .cells ([Value.int .u8 0]).toArray 5 (0,0))::(some bp0, .cells #[vL (rowA ob2) ((p0++([0]:List Int)).length) c3] 132 (0,0))::(ob2, .cells (cs2).toArray 5 (0,0))::rest) w6:=HS8.cast (by first|rfl|(rw [ho6.len];done)|(rw [ho6.len];rfl))
  have ho7:=ho5.norm
  have ho8:=ho6.norm
  have HS10:=HS9.d0
  exact ⟨ob2,c3,cs2,rfl,ho8,HS10⟩
def taplineref08_Encode.l1 (k:Nat) (a0:api_Types) (y1_0:Int):Nat→Int→(List Int)→Option ((List Int))
 |0,_,_=>none
 |m+1,y2_0,y2_1=>if (decide (y2_0<(((rd z_api_Def a0.vDefs y1_0).vFields).length:Int)))=true then (if 0≤y2_0∧y2_0<((rd z_api_Def a0.vDefs y1_0).vFields).length then ((taplineref08_Writer_Text.f k y2_1 ((rd z_api_Field ((rd z_api_Def a0.vDefs y1_0).vFields) y2_0).vName)).bind fun v10=>(if 0≤y2_0∧y2_0<((rd z_api_Def a0.vDefs y1_0).vFields).length then ((taplineref08_Writer_Int.f k v10 ((rd z_api_Field ((rd z_api_Def a0.vDefs y1_0).vFields) y2_0).vType)).bind fun v11=>(if 0≤y2_0∧y2_0<((rd z_api_Def a0.vDefs y1_0).vFields).length then ((taplineref08_Writer_Int.f k v11 ((rd z_api_Field ((rd z_api_Def a0.vDefs y1_0).vFields) y2_0).vAt)).bind fun v12=>(taplineref08_Encode.l1 k a0 y1_0 m (IntKind.wrap .i64 (y2_0+1)) v12)) else none)) else none)) else none) else (some y2_1)
def taplineref08_Encode.l0 (k:Nat) (a0:api_Types):Nat→Int→(List Int)→Option ((List Int))
 |0,_,_=>none
 |m+1,y1_0,y1_1=>if (decide (y1_0<(a0.vDefs.length:Int)))=true then (if 0≤y1_0∧y1_0<a0.vDefs.length then ((taplineref08_Writer_Int.f k y1_1 ((rd z_api_Def a0.vDefs y1_0).vKind)).bind fun v3=>((taplineref08_Writer_Text.f k v3 ((rd z_api_Def a0.vDefs y1_0).vName)).bind fun v4=>((taplineref08_Writer_Int.f k v4 ((rd z_api_Def a0.vDefs y1_0).vInt.vSize)).bind fun v5=>((taplineref08_Writer_Bool.f v5 ((rd z_api_Def a0.vDefs y1_0).vInt.vSigned)).bind fun v6=>((taplineref08_Writer_Int.f k v6 ((rd z_api_Def a0.vDefs y1_0).vRef)).bind fun v7=>((taplineref08_Writer_Int.f k v7 ((rd z_api_Def a0.vDefs y1_0).vN)).bind fun v8=>((taplineref08_Writer_Int.f k v8 (((rd z_api_Def a0.vDefs y1_0).vFields).length:Int)).bind fun v9=>((taplineref08_Encode.l1 k a0 y1_0 k 0 v9).bind fun xx2=>(taplineref08_Encode.l0 k a0 m (IntKind.wrap .i64 (y1_0+1)) xx2))))))))) else none) else (some y1_1)
def taplineref08_Encode.f (k:Nat) (a0:api_Types):Option (taplineref08_Coded):=(taplineref08_Check.f k a0).bind fun v1=>(if (v1 !=0)=true then (some (⟨[],v1⟩:taplineref08_Coded)) else ((taplineref08_Writer_Int.f k ([67,84,70,1]:List Int) (a0.vDefs.length:Int)).bind fun v2=>((taplineref08_Encode.l0 k a0 k 0 v2).bind fun xx1=>(some (⟨xx1,0⟩:taplineref08_Coded)))))
theorem taplineref08_Encode.calls (k:Nat) (a0:api_Types) (A0_0:Option Addr) (c0_0:Nat) {h0:View} {w0:World} (hv:Sees h0 w0) (hr0_0:Rd k_api_Def h0 A0_0 a0.vDefs) (hc0_0:a0.vDefs.length≤c0_0) {r:taplineref08_Coded} (H:taplineref08_Encode.f k a0=some r):Calls Tryd.prog 39 #[Value.agg #[vL A0_0 a0.vDefs.length c0_0]] w0 (fun e w1=>∃(h1:View) (A0_0:Option Addr) (c0_0:Nat),e= .returned (Value.agg #[vL A0_0 r.vB.length c0_0,vI r.vE])∧r.vB.length≤c0_0∧Rd (Kd.int .u8) h1 A0_0 r.vB∧Gr w0.heap.size h0 h1∧Sees h1 w1∧Ext w0 w1):=by
 unfold taplineref08_Encode.f at H
 have HS:St [] h0 w0 h0 [] w0:=St.init hv
 go_enter Tryd.func39,Tryd.ntmps39
 refine wp_seq<|region<|run_ex rfl rfl (does_box (cs:=#[vL A0_0 a0.vDefs.length c0_0]) rfl rfl) ?_
 rintro w1 _ hE1 ⟨b1,rfl,ge1,hb1⟩
 have HS1:=HS.new hE1 ge1 hb1
 refine run_ex rfl rfl (does_alloc (cs:=#[vL none 0 0,vI 0]) Tryd.zeroValue86 rfl) ?_
 rintro w2 _ hE2 ⟨b2,rfl,ge2,hb2⟩
 have HS2:=HS1.new hE2 ge2 hb2
 try simp only [sc0,sc1]
 refine run_nil<|norm_then<|wp_seq<|region<|rs (Value.agg #[vL A0_0 a0.vDefs.length c0_0]) (r_loadBoxAgg (n:=1) (vs:=[vL A0_0 a0.vDefs.length c0_0]) rfl Tryd.isAgg24 (HS2.look 1 rfl) Tryd.sizeOf24 rfl rfl) ?_
 obtain ⟨v1,H1,H⟩:=of_bind H
 refine run_eq (v:=vI v1) rfl rfl (does_call_eq Tryd.call19 rfl rfl (taplineref08_Check.calls k a0 A0_0 c0_0 HS2.sees hr0_0 hc0_0 H1)) ?_
 intro w3 hE3
 have HS3:=HS2.step hE3
 refine rs (vI v1) (r_assign rfl) ?_
 try simp only [sc0,sc1]
 refine run_nil<|norm_then<|wp_seq<|wp_seq<|region<|rs (vI v1) (r_move rfl)<|rs (vB (v1 !=0)) (r_bin rfl rfl rfl) ?_
 try simp only [sc0,sc1]
 refine run_nil<|norm_then<|wp_cond_split (t:=(v1 !=0)) rfl (fun c1=>?_) (fun c1=>?_)
 ·replace H:=of_pos H c1
  refine wp_seq<|region<|rs (vI v1) (r_move rfl)<|rs (Value.agg #[vL none 0 0,vI v1]) (r_build (cs:=[vL none 0 0,vI v1]) (ps:=[(1,vI v1)]) Tryd.zeroValue86 Tryd.runUnderlying86 (pl:=#[(0,1),(1,1)]) (fun w=>by simp [Tryd.sizeOf27,Tryd.sizeOf80]) (parts_1 (show _=vI v1 from rfl)) rfl) ?_
  refine run_st (i:=0) (cs:=[vL none 0 0,vI 0]) (cs':=[vL none 0 0,vI v1]) (vs:=[vL none 0 0,vI v1]) (bs':=[(some b2, .cells #[vL none 0 0,vI v1] 86 (0,0)),(some b1, .cells #[vL A0_0 a0.vDefs.length c0_0] 24 (0,0))]) rfl rfl Tryd.sizeOf86 rfl rfl (by decide) rfl HS3 rfl (Nat.le_of_ble_eq_true rfl) rfl rfl ?_
  intro w4 HS4
  try simp only [sc0,sc1]
  refine run_nil<|norm_then<|wp_ret<|ret_then ?_
  obtain rfl:=Option.some.inj H
  exact bodyPost_ret (results_1 rfl (one_agg rfl Tryd.isAgg86 (HS4.look 0 rfl) Tryd.sizeOf86 rfl)) rfl<|⟨h0,none,0,rfl,(Nat.le_refl 0),(Rd.nil _ _ _),HS4.gr,HS4.sees,HS4.toE⟩
 ·replace H:=of_neg H (nt c1)
  refine wp_skip<|norm_then<|wp_seq<|region<|run_bs (Kd.int .u8) (xs:=([67,84,70,1]:List Int)) (n:=4) (cs:=[Value.int .u8 67,Value.int .u8 84,Value.int .u8 70,Value.int .u8 1]) Tryd.runUnderlying80 Tryd.typeInfo5 Tryd.zeroValue5 rfl rfl (by decide) (by decide) (by decide) [Value.int .u8 67,Value.int .u8 84,Value.int .u8 70,Value.int .u8 1] (parts_any.trans rfl) rfl rfl rfl rfl (elems_cons (qs:=[Value.int .u8 67]) rfl (elems_cons (qs:=[Value.int .u8 84]) rfl (elems_cons (qs:=[Value.int .u8 70]) rfl (elems_cons (qs:=[Value.int .u8 1]) rfl (elems_nil (cs:=[])))))) HS3 ?_
  intro w5 b3 HS5 ho1
  refine rs (Value.agg #[vL (rowA (some b3)) 4 4]) (r_build (cs:=[vL (rowA (some b3)) 4 4]) (ps:=[(0,vL (rowA (some b3)) 4 4)]) Tryd.zeroValue132 Tryd.runUnderlying132 (pl:=#[(0,1)]) (fun w=>by simp [Tryd.sizeOf80]) (parts_1 (show _=vL (rowA (some b3)) 4 4 from rfl)) rfl) ?_
  refine run_ex rfl rfl (does_box (cs:=#[vL (rowA (some b3)) 4 4]) rfl rfl) ?_
  rintro w6 _ hE4 ⟨b4,rfl,ge3,hb3⟩
  have HS6:=HS5.new hE4 ge3 hb3
  refine rs (vP b4 0) (r_assign rfl) ?_
  try simp only [sc0,sc1]
  refine run_nil<|norm_then<|wp_seq<|region<|rs (vP b4 0) (r_move rfl)<|rs (vP b1 0) (r_fieldBox (n:=1) (o':=0) rfl Tryd.runUnderlying24 rfl Tryd.sizeOf22 (by decide) rfl)<|rs (vL A0_0 a0.vDefs.length c0_0) (r_loadBox rfl Tryd.isAgg22 (HS6.look 3 rfl) rfl)<|rs (vI (a0.vDefs.length:Int)) (r_len rfl Tryd.runUnderlying22)<|run_frame (by simp only [sc0,sc1];rfl) ?_
  obtain ⟨v2,H2,H⟩:=of_bind H
  have HS7:St [] h0 w0 h0 [(some b4, .cells #[vL (rowA (some b3)) (([67,84,70,1]:List Int).length) 4] 132 (0,0)),((some b3), .cells ([Value.int .u8 67,Value.int .u8 84,Value.int .u8 70,Value.int .u8 1]).toArray 5 (0,0)),(some b2, .cells #[vL none 0 0,vI 0] 86 (0,0)),(some b1, .cells #[vL A0_0 a0.vDefs.length c0_0] 24 (0,0))] w6:=HS6.cast (by first|rfl|(rw [ho1.len];done)|(rw [ho1.len];rfl))
  have ho2:=ho1.norm
  refine run_call (vs:=[vP b4 0,vI (a0.vDefs.length:Int)]) (caps:=[]) Tryd.call75 rfl rfl (taplineref08_Writer_Int.calls k ([67,84,70,1]:List Int) (a0.vDefs.length:Int) b4 (some b3) 4 [Value.int .u8 67,Value.int .u8 84,Value.int .u8 70,Value.int .u8 1] HS7 ho2 H2) ?_
  rintro _ w7 ⟨obv2_p0,cv2_p0,csv2_p0,rfl,hov2_p0,HS8⟩
  refine ⟨_,rfl,?_⟩
  try simp only [sc0,sc1]
  refine run_nil<|norm_then<|wp_seq<|wp_seq<|region<|rs (vI 0) (r_assign rfl) ?_
  try simp only [sc0,sc1]
  refine run_nil<|norm_then ?_
  obtain ⟨xx1,H,G1⟩:=of_bind H
  refine loop_j [5,6,7,22,23,24,25,26,27,28,29,30,31,32,33,34,35,36,37,38,39,40,41,42,43,44,45,46,47,48,49,50,51,52,53,54,55,56,57,58,59,60,61,62,63,64,65,66,67,68,69,70,71,72,73,74,75,76,77,78,79,80,81,82,83,84,85,86,87,88,89,90,91,92,93,94,95] (fun m us w'=>∃y1_0:Int,∃y1_1:List Int,∃(oby1_1:Option Nat) (cy1_1:Nat),∃(csy1_1:List Value),Fit us (fun uy1=>[vI y1_0,(uy1 1),(uy1 2),(uy1 3),(uy1 4),(uy1 5),(uy1 6),(uy1 7),(uy1 8),(uy1 9),(uy1 10),(uy1 11),(uy1 12),(uy1 13),(uy1 14),(uy1 15),(uy1 16),(uy1 17),(uy1 18),(uy1 19),(uy1 20),(uy1 21),(uy1 22),(uy1 23),(uy1 24),(uy1 25),(uy1 26),(uy1 27),(uy1 28),(uy1 29),(uy1 30),(uy1 31),(uy1 32),(uy1 33),(uy1 34),(uy1 35),(uy1 36),(uy1 37),(uy1 38),(uy1 39),(uy1 40),(uy1 41),(uy1 42),(uy1 43),(uy1 44),(uy1 45),(uy1 46),(uy1 47),(uy1 48),(uy1 49),(uy1 50),(uy1 51),(uy1 52),(uy1 53),(uy1 54),(uy1 55),(uy1 56),(uy1 57),(uy1 58),(uy1 59),(uy1 60),(uy1 61),(uy1 62),(uy1 63),(uy1 64),(uy1 65),(uy1 66),(uy1 67),(uy1 68),(uy1 69),(uy1 70),(uy1 71),(uy1 72),(uy1 73),(uy1 74),(uy1 75),(uy1 76)])∧taplineref08_Encode.l0 k a0 m y1_0 y1_1=some xx1∧RowOk (Kd.int .u8) h0 y1_1 oby1_1 y1_1.length cy1_1 csy1_1∧St [] h0 w0 h0 [(some b4, .cells #[vL (rowA oby1_1) y1_1.length cy1_1] 132 (0,0)),(oby1_1, .cells (csy1_1).toArray 5 (0,0)),(some b2, .cells #[vL none 0 0,vI 0] 86 (0,0)),(some b1, .cells #[vL A0_0 a0.vDefs.length c0_0] 24 (0,0))] w') (fun us w'=>∃(obo2_0:Option Nat) (co2_0:Nat),∃(cso2_0:List Value),Fit us (fun uo2=>[(uo2 0),(uo2 1),(uo2 2),(uo2 3),(uo2 4),(uo2 5),(uo2 6),(uo2 7),(uo2 8),(uo2 9),(uo2 10),(uo2 11),(uo2 12),(uo2 13),(uo2 14),(uo2 15),(uo2 16),(uo2 17),(uo2 18),(uo2 19),(uo2 20),(uo2 21),(uo2 22),(uo2 23),(uo2 24),(uo2 25),(uo2 26),(uo2 27),(uo2 28),(uo2 29),(uo2 30),(uo2 31),(uo2 32),(uo2 33),(uo2 34),(uo2 35),(uo2 36),(uo2 37),(uo2 38),(uo2 39),(uo2 40),(uo2 41),(uo2 42),(uo2 43),(uo2 44),(uo2 45),(uo2 46),(uo2 47),(uo2 48),(uo2 49),(uo2 50),(uo2 51),(uo2 52),(uo2 53),(uo2 54),(uo2 55),(uo2 56),(uo2 57),(uo2 58),(uo2 59),(uo2 60),(uo2 61),(uo2 62),(uo2 63),(uo2 64),(uo2 65),(uo2 66),(uo2 67),(uo2 68),(uo2 69),(uo2 70),(uo2 71),(uo2 72),(uo2 73),(uo2 74),(uo2 75),(uo2 76)])∧RowOk (Kd.int .u8) h0 xx1 obo2_0 xx1.length co2_0 cso2_0∧St [] h0 w0 h0 [(some b4, .cells #[vL (rowA obo2_0) xx1.length co2_0] 132 (0,0)),(obo2_0, .cells (cso2_0).toArray 5 (0,0)),(some b2, .cells #[vL none 0 0,vI 0] 86 (0,0)),(some b1, .cells #[vL A0_0 a0.vDefs.length c0_0] 24 (0,0))] w') k ⟨0,v2,obv2_p0,cv2_p0,csv2_p0,(fit rfl),H,hov2_p0.norm,HS8⟩ ?_ ?_
  ·rintro m us w8 ⟨y1_0,y1_1,oby1_1,cy1_1,csy1_1,huy1,H,hoy1_1,HS9⟩
   obtain ⟨uy1,rfl⟩:=unj huy1
   cases m with
   |zero=>exact absurd H (by simp [taplineref08_Encode.l0])
   |succ m=>
    rw [taplineref08_Encode.l0] at H
    try simp only [patch,sc0,sc1]
    refine wp_seq<|wp_seq<|region<|rs (vI y1_0) (r_move rfl)<|rs (vP b1 0) (r_fieldBox (n:=1) (o':=0) rfl Tryd.runUnderlying24 rfl Tryd.sizeOf22 (by decide) rfl)<|rs (vL A0_0 a0.vDefs.length c0_0) (r_loadBox rfl Tryd.isAgg22 (HS9.look 3 rfl) rfl)<|rs (vI (a0.vDefs.length:Int)) (r_len rfl Tryd.runUnderlying22)<|run_frame (by simp only [sc0,sc1];rfl) ?_
    refine rs (vB (decide (y1_0<(a0.vDefs.length:Int)))) (r_bin rfl rfl rfl) ?_
    try simp only [sc0,sc1]
    refine run_nil<|norm_then<|wp_cond_split (t:=(decide (y1_0<(a0.vDefs.length:Int)))) rfl (fun c2=>?_) (fun c2=>?_)
    ·replace H:=of_pos H c2
     refine wp_skip<|norm_then<|wp_seq<|wp_block<|wp_seq<|region<|rs (vP b1 0) (r_fieldBox (n:=1) (o':=0) rfl Tryd.runUnderlying24 rfl Tryd.sizeOf22 (by decide) rfl)<|rs (vL A0_0 a0.vDefs.length c0_0) (r_loadBox rfl Tryd.isAgg22 (HS9.look 3 rfl) rfl)<|rs (vI y1_0) (r_move rfl) ?_
     obtain ⟨hi1,H⟩:=of_ite H
     obtain ⟨ad1,Aad1_6,cad1_6,e1,hel1,hcad1_6,hrad1_6⟩:=ld_api_Def hr0_0 hi1.1 hi1.2
     refine rs (Value.pointer (some (Addr.add ad1 (y1_0.toNat*7)))) (r_indexA (sz:=7) rfl e1 rfl hi1.1 hi1.2 Tryd.runUnderlying22 Tryd.sizeOf34)<|run_frame (by simp only [sc0,sc1];rfl) ?_
     refine rs (Value.agg #[vI ((rd z_api_Def a0.vDefs y1_0).vKind),vS ((rd z_api_Def a0.vDefs y1_0).vName),vI ((rd z_api_Def a0.vDefs y1_0).vInt.vSize),vB ((rd z_api_Def a0.vDefs y1_0).vInt.vSigned),vI ((rd z_api_Def a0.vDefs y1_0).vRef),vI ((rd z_api_Def a0.vDefs y1_0).vN),vL Aad1_6 ((rd z_api_Def a0.vDefs y1_0).vFields).length cad1_6]) (r_loadAgg rfl Tryd.isAgg34 (hel1.sees HS9.sees) Tryd.sizeOf34)<|run_ex rfl rfl (does_alloc (cs:=#[vI 0,vS ByteArray.empty,vI 0,vB false,vI 0,vI 0,vL none 0 0]) Tryd.zeroValue34 rfl) ?_
     rintro w9 _ hE5 ⟨b5,rfl,ge4,hb4⟩
     have HS10:=HS9.new hE5 ge4 hb4
     refine run_st (i:=0) (cs:=[vI 0,vS ByteArray.empty,vI 0,vB false,vI 0,vI 0,vL none 0 0]) (cs':=[vI ((rd z_api_Def a0.vDefs y1_0).vKind),vS ((rd z_api_Def a0.vDefs y1_0).vName),vI ((rd z_api_Def a0.vDefs y1_0).vInt.vSize),vB ((rd z_api_Def a0.vDefs y1_0).vInt.vSigned),vI ((rd z_api_Def a0.vDefs y1_0).vRef),vI ((rd z_api_Def a0.vDefs y1_0).vN),vL Aad1_6 ((rd z_api_Def a0.vDefs y1_0).vFields).length cad1_6]) (vs:=[vI ((rd z_api_Def a0.vDefs y1_0).vKind),vS ((rd z_api_Def a0.vDefs y1_0).vName),vI ((rd z_api_Def a0.vDefs y1_0).vInt.vSize),vB ((rd z_api_Def a0.vDefs y1_0).vInt.vSigned),vI ((rd z_api_Def a0.vDefs y1_0).vRef),vI ((rd z_api_Def a0.vDefs y1_0).vN),vL Aad1_6 ((rd z_api_Def a0.vDefs y1_0).vFields).length cad1_6]) (bs':=[(some b5, .cells #[vI ((rd z_api_Def a0.vDefs y1_0).vKind),vS ((rd z_api_Def a0.vDefs y1_0).vName),vI ((rd z_api_Def a0.vDefs y1_0).vInt.vSize),vB ((rd z_api_Def a0.vDefs y1_0).vInt.vSigned),vI ((rd z_api_Def a0.vDefs y1_0).vRef),vI ((rd z_api_Def a0.vDefs y1_0).vN),vL Aad1_6 ((rd z_api_Def a0.vDefs y1_0).vFields).length cad1_6] 34 (0,0)),(some b4, .cells #[vL (rowA oby1_1) y1_1.length cy1_1] 132 (0,0)),(oby1_1, .cells (csy1_1).toArray 5 (0,0)),(some b2, .cells #[vL none 0 0,vI 0] 86 (0,0)),(some b1, .cells #[vL A0_0 a0.vDefs.length c0_0] 24 (0,0))]) rfl rfl Tryd.sizeOf34 rfl rfl (by decide) rfl HS10 rfl (Nat.le_of_ble_eq_true rfl) rfl rfl ?_
     intro w10 HS11
     try simp only [sc0,sc1]
     refine run_nil<|norm_then<|wp_seq<|region<|rs (vP b4 0) (r_move rfl)<|rs (vP b5 0) (r_fieldBox (n:=1) (o':=0) rfl Tryd.runUnderlying34 rfl Tryd.sizeOf3 (by decide) rfl)<|rs (vI ((rd z_api_Def a0.vDefs y1_0).vKind)) (r_loadBox rfl Tryd.isAgg3 (HS11.look 0 rfl) rfl) ?_
     obtain ⟨v3,H3,H⟩:=of_bind H
     have HS12:=HS11.f2
     have HS13:=HS12.f2
     refine run_call (vs:=[vP b4 0,vI ((rd z_api_Def a0.vDefs y1_0).vKind)]) (caps:=[]) Tryd.call75 rfl rfl (taplineref08_Writer_Int.calls k y1_1 ((rd z_api_Def a0.vDefs y1_0).vKind) b4 oby1_1 cy1_1 csy1_1 HS13 hoy1_1 H3) ?_
     rintro _ w11 ⟨obv3_p0,cv3_p0,csv3_p0,rfl,hov3_p0,HS14⟩
     refine ⟨_,rfl,?_⟩
     have HS15:=HS14.f4
     have HS16:=HS15.f4
     have HS17:=HS16.f3
     have HS18:=HS17.f3
     have HS19:=HS18.f4
     try simp only [sc0,sc1]
     refine run_nil<|norm_then<|wp_seq<|region<|rs (vP b4 0) (r_move rfl)<|rs (vP b5 1) (r_fieldBox (n:=1) (o':=1) rfl Tryd.runUnderlying34 rfl Tryd.sizeOf9 (by decide) rfl)<|rs (vS ((rd z_api_Def a0.vDefs y1_0).vName)) (r_loadBox rfl Tryd.isAgg9 (HS19.look 0 rfl) rfl) ?_
     obtain ⟨v4,H4,H⟩:=of_bind H
     have HS20:=HS19.f2
     have HS21:=HS20.f2
     refine run_call (vs:=[vP b4 0,vS ((rd z_api_Def a0.vDefs y1_0).vName)]) (caps:=[]) Tryd.call76 rfl rfl (taplineref08_Writer_Text.calls k v3 ((rd z_api_Def a0.vDefs y1_0).vName) b4 obv3_p0 cv3_p0 csv3_p0 HS21 hov3_p0 H4) ?_
     rintro _ w12 ⟨obv4_p0,cv4_p0,csv4_p0,rfl,hov4_p0,HS22⟩
     refine ⟨_,rfl,?_⟩
     have HS23:=HS22.f4
     have HS24:=HS23.f4
     have HS25:=HS24.f3
     have HS26:=HS25.f3
     have HS27:=HS26.f4
     try simp only [sc0,sc1]
     refine run_nil<|norm_then<|wp_seq<|region<|rs (vP b4 0) (r_move rfl)<|rs (vP b5 2) (r_fieldBox (n:=2) (o':=2) rfl Tryd.runUnderlying34 rfl Tryd.sizeOf31 (by decide) rfl)<|rs (vP b5 2) (r_fieldBox (n:=1) (o':=2) rfl Tryd.runUnderlying31 rfl Tryd.sizeOf3 (by decide) rfl)<|rs (vI ((rd z_api_Def a0.vDefs y1_0).vInt.vSize)) (r_loadBox rfl Tryd.isAgg3 (HS27.look 0 rfl) rfl)<|run_frame (by simp only [sc0,sc1];rfl) ?_
     obtain ⟨v5,H5,H⟩:=of_bind H
     have HS28:=HS27.f2
     have HS29:=HS28.f2
     refine run_call (vs:=[vP b4 0,vI ((rd z_api_Def a0.vDefs y1_0).vInt.vSize)]) (caps:=[]) Tryd.call75 rfl rfl (taplineref08_Writer_Int.calls k v4 ((rd z_api_Def a0.vDefs y1_0).vInt.vSize) b4 obv4_p0 cv4_p0 csv4_p0 HS29 hov4_p0 H5) ?_
     rintro _ w13 ⟨obv5_p0,cv5_p0,csv5_p0,rfl,hov5_p0,HS30⟩
     refine ⟨_,rfl,?_⟩
     have HS31:=HS30.f4
     have HS32:=HS31.f4
     have HS33:=HS32.f3
     have HS34:=HS33.f3
     have HS35:=HS34.f4
     try simp only [sc0,sc1]
     refine run_nil<|norm_then<|wp_seq<|region<|rs (vP b4 0) (r_move rfl)<|rs (vP b5 2) (r_fieldBox (n:=2) (o':=2) rfl Tryd.runUnderlying34 rfl Tryd.sizeOf31 (by decide) rfl)<|rs (vP b5 3) (r_fieldBox (n:=1) (o':=3) rfl Tryd.runUnderlying31 rfl Tryd.sizeOf4 (by decide) rfl)<|rs (vB ((rd z_api_Def a0.vDefs y1_0).vInt.vSigned)) (r_loadBox rfl Tryd.isAgg4 (HS35.look 0 rfl) rfl)<|run_frame (by simp only [sc0,sc1];rfl) ?_
     obtain ⟨v6,H6,H⟩:=of_bind H
     have HS36:=HS35.f2
     have HS37:=HS36.f2
     refine run_call (vs:=[vP b4 0,vB ((rd z_api_Def a0.vDefs y1_0).vInt.vSigned)]) (caps:=[]) Tryd.call77 rfl rfl (taplineref08_Writer_Bool.calls v5 ((rd z_api_Def a0.vDefs y1_0).vInt.vSigned) b4 obv5_p0 cv5_p0 csv5_p0 HS37 hov5_p0 H6) ?_
     rintro _ w14 ⟨obv6_p0,cv6_p0,csv6_p0,rfl,hov6_p0,HS38⟩
     refine ⟨_,rfl,?_⟩
     have HS39:=HS38.f4
     have HS40:=HS39.f4
     have HS41:=HS40.f3
     have HS42:=HS41.f3
     have HS43:=HS42.f4
     try simp only [sc0,sc1]
     refine run_nil<|norm_then<|wp_seq<|region<|rs (vP b4 0) (r_move rfl)<|rs (vP b5 4) (r_fieldBox (n:=1) (o':=4) rfl Tryd.runUnderlying34 rfl Tryd.sizeOf3 (by decide) rfl)<|rs (vI ((rd z_api_Def a0.vDefs y1_0).vRef)) (r_loadBox rfl Tryd.isAgg3 (HS43.look 0 rfl) rfl) ?_
     obtain ⟨v7,H7,H⟩:=of_bind H
     have HS44:=HS43.f2
     have HS45:=HS44.f2
     refine run_call (vs:=[vP b4 0,vI ((rd z_api_Def a0.vDefs y1_0).vRef)]) (caps:=[]) Tryd.call75 rfl rfl (taplineref08_Writer_Int.calls k v6 ((rd z_api_Def a0.vDefs y1_0).vRef) b4 obv6_p0 cv6_p0 csv6_p0 HS45 hov6_p0 H7) ?_
     rintro _ w15 ⟨obv7_p0,cv7_p0,csv7_p0,rfl,hov7_p0,HS46⟩
     refine ⟨_,rfl,?_⟩
     have HS47:=HS46.f4
     have HS48:=HS47.f4
     have HS49:=HS48.f3
     have HS50:=HS49.f3
     have HS51:=HS50.f4
     try simp only [sc0,sc1]
     refine run_nil<|norm_then<|wp_seq<|region<|rs (vP b4 0) (r_move rfl)<|rs (vP b5 5) (r_fieldBox (n:=1) (o':=5) rfl Tryd.runUnderlying34 rfl Tryd.sizeOf3 (by decide) rfl)<|rs (vI ((rd z_api_Def a0.vDefs y1_0).vN)) (r_loadBox rfl Tryd.isAgg3 (HS51.look 0 rfl) rfl) ?_
     obtain ⟨v8,H8,H⟩:=of_bind H
     have HS52:=HS51.f2
     have HS53:=HS52.f2
     refine run_call (vs:=[vP b4 0,vI ((rd z_api_Def a0.vDefs y1_0).vN)]) (caps:=[]) Tryd.call75 rfl rfl (taplineref08_Writer_Int.calls k v7 ((rd z_api_Def a0.vDefs y1_0).vN) b4 obv7_p0 cv7_p0 csv7_p0 HS53 hov7_p0 H8) ?_
     rintro _ w16 ⟨obv8_p0,cv8_p0,csv8_p0,rfl,hov8_p0,HS54⟩
     refine ⟨_,rfl,?_⟩
     have HS55:=HS54.f4
     have HS56:=HS55.f4
     have HS57:=HS56.f3
     have HS58:=HS57.f3
     have HS59:=HS58.f4
     try simp only [sc0,sc1]
     refine run_nil<|norm_then<|wp_seq<|region<|rs (vP b4 0) (r_move rfl)<|rs (vP b5 6) (r_fieldBox (n:=1) (o':=6) rfl Tryd.runUnderlying34 rfl Tryd.sizeOf32 (by decide) rfl)<|rs (vL Aad1_6 ((rd z_api_Def a0.vDefs y1_0).vFields).length cad1_6) (r_loadBox rfl Tryd.isAgg32 (HS59.look 0 rfl) rfl)<|rs (vI (((rd z_api_Def a0.vDefs y1_0).vFields).length:Int)) (r_len rfl Tryd.runUnderlying32)<|run_frame (by simp only [sc0,sc1];rfl) ?_
     obtain ⟨v9,H9,H⟩:=of_bind H
     have HS60:=HS59.f2
     have HS61:=HS60.f2
     refine run_call (vs:=[vP b4 0,vI (((rd z_api_Def a0.vDefs y1_0).vFields).length:Int)]) (caps:=[]) Tryd.call75 rfl rfl (taplineref08_Writer_Int.calls k v8 (((rd z_api_Def a0.vDefs y1_0).vFields).length:Int) b4 obv8_p0 cv8_p0 csv8_p0 HS61 hov8_p0 H9) ?_
     rintro _ w17 ⟨obv9_p0,cv9_p0,csv9_p0,rfl,hov9_p0,HS62⟩
     refine ⟨_,rfl,?_⟩
     have HS63:=HS62.f4
     have HS64:=HS63.f4
     have HS65:=HS64.f3
     have HS66:=HS65.f3
     have HS67:=HS66.f4
     try simp only [sc0,sc1]
     refine run_nil<|norm_then<|wp_seq<|region<|rs (vI 0) (r_assign rfl) ?_
     try simp only [sc0,sc1]
     refine run_nil<|norm_then ?_
     obtain ⟨xx2,H,G2⟩:=of_bind H
     refine loop_j [7,65,66,67,68,69,70,71,72,73,74,75,76,77,78,79,80,81,82,83,84,85,86,87,88,89,90,91,92,93,94,95] (fun m us w'=>∃y2_0:Int,∃y2_1:List Int,∃(oby2_1:Option Nat) (cy2_1:Nat),∃(csy2_1:List Value),Fit us (fun uy2=>[vI y2_0,(uy2 1),(uy2 2),(uy2 3),(uy2 4),(uy2 5),(uy2 6),(uy2 7),(uy2 8),(uy2 9),(uy2 10),(uy2 11),(uy2 12),(uy2 13),(uy2 14),(uy2 15),(uy2 16),(uy2 17),(uy2 18),(uy2 19),(uy2 20),(uy2 21),(uy2 22),(uy2 23),(uy2 24),(uy2 25),(uy2 26),(uy2 27),(uy2 28),(uy2 29),(uy2 30),(uy2 31)])∧taplineref08_Encode.l1 k a0 y1_0 m y2_0 y2_1=some xx2∧RowOk (Kd.int .u8) h0 y2_1 oby2_1 y2_1.length cy2_1 csy2_1∧St [] h0 w0 h0 [(some b5, .cells #[vI ((rd z_api_Def a0.vDefs y1_0).vKind),vS ((rd z_api_Def a0.vDefs y1_0).vName),vI ((rd z_api_Def a0.vDefs y1_0).vInt.vSize),vB ((rd z_api_Def a0.vDefs y1_0).vInt.vSigned),vI ((rd z_api_Def a0.vDefs y1_0).vRef),vI ((rd z_api_Def a0.vDefs y1_0).vN),vL Aad1_6 ((rd z_api_Def a0.vDefs y1_0).vFields).length cad1_6] 34 (0,0)),(some b4, .cells #[vL (rowA oby2_1) y2_1.length cy2_1] 132 (0,0)),(oby2_1, .cells (csy2_1).toArray 5 (0,0)),(some b2, .cells #[vL none 0 0,vI 0] 86 (0,0)),(some b1, .cells #[vL A0_0 a0.vDefs.length c0_0] 24 (0,0))] w') (fun us w'=>∃(obo1_0:Option Nat) (co1_0:Nat),∃(cso1_0:List Value),Fit us (fun uo1=>[(uo1 0),(uo1 1),(uo1 2),(uo1 3),(uo1 4),(uo1 5),(uo1 6),(uo1 7),(uo1 8),(uo1 9),(uo1 10),(uo1 11),(uo1 12),(uo1 13),(uo1 14),(uo1 15),(uo1 16),(uo1 17),(uo1 18),(uo1 19),(uo1 20),(uo1 21),(uo1 22),(uo1 23),(uo1 24),(uo1 25),(uo1 26),(uo1 27),(uo1 28),(uo1 29),(uo1 30),(uo1 31)])∧RowOk (Kd.int .u8) h0 xx2 obo1_0 xx2.length co1_0 cso1_0∧St [] h0 w0 h0 [(some b5, .cells #[vI ((rd z_api_Def a0.vDefs y1_0).vKind),vS ((rd z_api_Def a0.vDefs y1_0).vName),vI ((rd z_api_Def a0.vDefs y1_0).vInt.vSize),vB ((rd z_api_Def a0.vDefs y1_0).vInt.vSigned),vI ((rd z_api_Def a0.vDefs y1_0).vRef),vI ((rd z_api_Def a0.vDefs y1_0).vN),vL Aad1_6 ((rd z_api_Def a0.vDefs y1_0).vFields).length cad1_6] 34 (0,0)),(some b4, .cells #[vL (rowA obo1_0) xx2.length co1_0] 132 (0,0)),(obo1_0, .cells (cso1_0).toArray 5 (0,0)),(some b2, .cells #[vL none 0 0,vI 0] 86 (0,0)),(some b1, .cells #[vL A0_0 a0.vDefs.length c0_0] 24 (0,0))] w') k ⟨0,v9,obv9_p0,cv9_p0,csv9_p0,(fit rfl),H,hov9_p0.norm,HS67⟩ ?_ ?_
     ·rintro m us w18 ⟨y2_0,y2_1,oby2_1,cy2_1,csy2_1,huy2,H,hoy2_1,HS68⟩
      obtain ⟨uy2,rfl⟩:=unj huy2
      cases m with
      |zero=>exact absurd H (by simp [taplineref08_Encode.l1])
      |succ m=>
       rw [taplineref08_Encode.l1] at H
       try simp only [patch,sc0,sc1]
       refine wp_seq<|wp_seq<|region<|rs (vI y2_0) (r_move rfl)<|rs (vP b5 6) (r_fieldBox (n:=1) (o':=6) rfl Tryd.runUnderlying34 rfl Tryd.sizeOf32 (by decide) rfl)<|rs (vL Aad1_6 ((rd z_api_Def a0.vDefs y1_0).vFields).length cad1_6) (r_loadBox rfl Tryd.isAgg32 (HS68.look 0 rfl) rfl)<|rs (vI (((rd z_api_Def a0.vDefs y1_0).vFields).length:Int)) (r_len rfl Tryd.runUnderlying32)<|run_frame (by simp only [sc0,sc1];rfl) ?_
       refine rs (vB (decide (y2_0<(((rd z_api_Def a0.vDefs y1_0).vFields).length:Int)))) (r_bin rfl rfl rfl) ?_
       try simp only [sc0,sc1]
       refine run_nil<|norm_then<|wp_cond_split (t:=(decide (y2_0<(((rd z_api_Def a0.vDefs y1_0).vFields).length:Int)))) rfl (fun c3=>?_) (fun c3=>?_)
       ·replace H:=of_pos H c3
        refine wp_skip<|norm_then<|wp_seq<|wp_block<|wp_seq<|region<|rs (vP b4 0) (r_move rfl)<|rs (vP b5 6) (r_fieldBox (n:=1) (o':=6) rfl Tryd.runUnderlying34 rfl Tryd.sizeOf32 (by decide) rfl)<|rs (vL Aad1_6 ((rd z_api_Def a0.vDefs y1_0).vFields).length cad1_6) (r_loadBox rfl Tryd.isAgg32 (HS68.look 0 rfl) rfl)<|rs (vI y2_0) (r_move rfl)<|run_frame (by simp only [sc0,sc1];rfl) ?_
        obtain ⟨hi2,H⟩:=of_ite H
        obtain ⟨ad2,e2,hel2⟩:=ld_api_Field hrad1_6 hi2.1 hi2.2
        refine rs (Value.pointer (some (Addr.add ad2 (y2_0.toNat*3)))) (r_indexA (sz:=3) rfl e2 rfl hi2.1 hi2.2 Tryd.runUnderlying32 Tryd.sizeOf36)<|rs (Value.pointer (some (Addr.add (Addr.add ad2 (y2_0.toNat*3)) 0))) (r_fieldEl (n:=1) (o':=0) rfl Tryd.runUnderlying36 rfl Tryd.sizeOf9 (by decide) rfl)<|rs (vS ((rd z_api_Field ((rd z_api_Def a0.vDefs y1_0).vFields) y2_0).vName)) (r_load rfl Tryd.isAgg9 (hel2.cell HS68.sees 0 rfl)) ?_
        obtain ⟨v10,H10,H⟩:=of_bind H
        have HS69:=HS68.f2
        have HS70:=HS69.f2
        refine run_call (vs:=[vP b4 0,vS ((rd z_api_Field ((rd z_api_Def a0.vDefs y1_0).vFields) y2_0).vName)]) (caps:=[]) Tryd.call76 rfl rfl (taplineref08_Writer_Text.calls k y2_1 ((rd z_api_Field ((rd z_api_Def a0.vDefs y1_0).vFields) y2_0).vName) b4 oby2_1 cy2_1 csy2_1 HS70 hoy2_1 H10) ?_
        rintro _ w19 ⟨obv10_p0,cv10_p0,csv10_p0,rfl,hov10_p0,HS71⟩
        refine ⟨_,rfl,?_⟩
        have HS72:=HS71.f4
        have HS73:=HS72.f4
        have HS74:=HS73.f3
        have HS75:=HS74.f3
        have HS76:=HS75.f4
        try simp only [sc0,sc1]
        refine run_nil<|norm_then<|wp_seq<|region<|rs (vP b4 0) (r_move rfl)<|rs (vP b5 6) (r_fieldBox (n:=1) (o':=6) rfl Tryd.runUnderlying34 rfl Tryd.sizeOf32 (by decide) rfl)<|rs (vL Aad1_6 ((rd z_api_Def a0.vDefs y1_0).vFields).length cad1_6) (r_loadBox rfl Tryd.isAgg32 (HS76.look 0 rfl) rfl)<|rs (vI y2_0) (r_move rfl)<|run_frame (by simp only [sc0,sc1];rfl) ?_
        obtain ⟨hi3,H⟩:=of_ite H
        obtain ⟨ad3,e3,hel3⟩:=ld_api_Field hrad1_6 hi3.1 hi3.2
        refine rs (Value.pointer (some (Addr.add ad3 (y2_0.toNat*3)))) (r_indexA (sz:=3) rfl e3 rfl hi3.1 hi3.2 Tryd.runUnderlying32 Tryd.sizeOf36)<|rs (Value.pointer (some (Addr.add (Addr.add ad3 (y2_0.toNat*3)) 1))) (r_fieldEl (n:=1) (o':=1) rfl Tryd.runUnderlying36 rfl Tryd.sizeOf3 (by decide) rfl)<|rs (vI ((rd z_api_Field ((rd z_api_Def a0.vDefs y1_0).vFields) y2_0).vType)) (r_load rfl Tryd.isAgg3 (hel3.cell HS76.sees 1 rfl)) ?_
        obtain ⟨v11,H11,H⟩:=of_bind H
        have HS77:=HS76.f2
        have HS78:=HS77.f2
        refine run_call (vs:=[vP b4 0,vI ((rd z_api_Field ((rd z_api_Def a0.vDefs y1_0).vFields) y2_0).vType)]) (caps:=[]) Tryd.call75 rfl rfl (taplineref08_Writer_Int.calls k v10 ((rd z_api_Field ((rd z_api_Def a0.vDefs y1_0).vFields) y2_0).vType) b4 obv10_p0 cv10_p0 csv10_p0 HS78 hov10_p0 H11) ?_
        rintro _ w20 ⟨obv11_p0,cv11_p0,csv11_p0,rfl,hov11_p0,HS79⟩
        refine ⟨_,rfl,?_⟩
        have HS80:=HS79.f4
        have HS81:=HS80.f4
        have HS82:=HS81.f3
        have HS83:=HS82.f3
        have HS84:=HS83.f4
        try simp only [sc0,sc1]
        refine run_nil<|norm_then<|region<|rs (vP b4 0) (r_move rfl)<|rs (vP b5 6) (r_fieldBox (n:=1) (o':=6) rfl Tryd.runUnderlying34 rfl Tryd.sizeOf32 (by decide) rfl)<|rs (vL Aad1_6 ((rd z_api_Def a0.vDefs y1_0).vFields).length cad1_6) (r_loadBox rfl Tryd.isAgg32 (HS84.look 0 rfl) rfl)<|rs (vI y2_0) (r_move rfl)<|run_frame (by simp only [sc0,sc1];rfl) ?_
        obtain ⟨hi4,H⟩:=of_ite H
        obtain ⟨ad4,e4,hel4⟩:=ld_api_Field hrad1_6 hi4.1 hi4.2
        refine rs (Value.pointer (some (Addr.add ad4 (y2_0.toNat*3)))) (r_indexA (sz:=3) rfl e4 rfl hi4.1 hi4.2 Tryd.runUnderlying32 Tryd.sizeOf36)<|rs (Value.pointer (some (Addr.add (Addr.add ad4 (y2_0.toNat*3)) 2))) (r_fieldEl (n:=1) (o':=2) rfl Tryd.runUnderlying36 rfl Tryd.sizeOf3 (by decide) rfl)<|rs (vI ((rd z_api_Field ((rd z_api_Def a0.vDefs y1_0).vFields) y2_0).vAt)) (r_load rfl Tryd.isAgg3 (hel4.cell HS84.sees 2 rfl)) ?_
        obtain ⟨v12,H12,H⟩:=of_bind H
        have HS85:=HS84.f2
        have HS86:=HS85.f2
        refine run_call (vs:=[vP b4 0,vI ((rd z_api_Field ((rd z_api_Def a0.vDefs y1_0).vFields) y2_0).vAt)]) (caps:=[]) Tryd.call75 rfl rfl (taplineref08_Writer_Int.calls k v11 ((rd z_api_Field ((rd z_api_Def a0.vDefs y1_0).vFields) y2_0).vAt) b4 obv11_p0 cv11_p0 csv11_p0 HS86 hov11_p0 H12) ?_
        rintro _ w21 ⟨obv12_p0,cv12_p0,csv12_p0,rfl,hov12_p0,HS87⟩
        refine ⟨_,rfl,?_⟩
        have HS88:=HS87.f4
        have HS89:=HS88.f4
        have HS90:=HS89.f3
        have HS91:=HS90.f3
        have HS92:=HS91.f4
        try simp only [sc0,sc1]
        refine run_nil<|norm_block<|norm_then<|region<|rs (vI y2_0) (r_move rfl)<|rs (vI (w64 (y2_0+1))) (r_bin rfl rfl rfl)<|rs (vI (w64 (y2_0+1))) (r_assign rfl) ?_
        try simp only [sc0,sc1]
        refine run_nil<|again_j m (Nat.lt_succ_self m) rfl ⟨(w64 (y2_0+1)),v12,obv12_p0,cv12_p0,csv12_p0,(fit rfl),H,hov12_p0.norm,HS92⟩
       ·replace H:=of_neg H (nt c3)
        refine wp_exit<|exit_then ?_
        obtain rfl:=Option.some.inj H
        refine leave_j rfl ⟨oby2_1,cy2_1,csy2_1,(fit rfl),hoy2_1.norm,HS68⟩
     ·rintro us w22 ⟨obo1_0,co1_0,cso1_0,huo1,hoo1_0,HS93⟩
      obtain ⟨uo1,rfl⟩:=unj huo1
      replace H:=G2
      clear G2
      try simp only [patch,sc0,sc1]
      refine norm_block<|norm_then<|region<|rs (vI y1_0) (r_move rfl)<|rs (vI (w64 (y1_0+1))) (r_bin rfl rfl rfl)<|rs (vI (w64 (y1_0+1))) (r_assign rfl) ?_
      try simp only [sc0,sc1]
      refine run_nil<|again_j m (Nat.lt_succ_self m) rfl ⟨(w64 (y1_0+1)),xx2,obo1_0,co1_0,cso1_0,(fit rfl),H,hoo1_0.norm,HS93.tail⟩
    ·replace H:=of_neg H (nt c2)
     refine wp_exit<|exit_then ?_
     obtain rfl:=Option.some.inj H
     refine leave_j rfl ⟨oby1_1,cy1_1,csy1_1,(fit rfl),hoy1_1.norm,HS9⟩
  ·rintro us w23 ⟨obo2_0,co2_0,cso2_0,huo2,hoo2_0,HS94⟩
   obtain ⟨uo2,rfl⟩:=unj huo2
   replace H:=G1
   clear G1
   try simp only [patch,sc0,sc1]
   refine norm_then<|wp_seq<|region<|rs (vP b4 0) (r_move rfl)<|rs (vP b4 0) (r_nilCheck rfl)<|rs (vP b4 0) (r_fieldBox (n:=1) (o':=0) rfl Tryd.runUnderlying132 rfl Tryd.sizeOf80 (by decide) rfl)<|rs (vL (rowA obo2_0) xx1.length co2_0) (r_loadBox rfl Tryd.isAgg80 (HS94.look 0 rfl) rfl)<|run_frame (by simp only [sc0,sc1];rfl) ?_
   refine rs (Value.agg #[vL (rowA obo2_0) xx1.length co2_0,vI 0]) (r_build (cs:=[vL (rowA obo2_0) xx1.length co2_0,vI 0]) (ps:=[(0,vL (rowA obo2_0) xx1.length co2_0)]) Tryd.zeroValue86 Tryd.runUnderlying86 (pl:=#[(0,1),(1,1)]) (fun w=>by simp [Tryd.sizeOf27,Tryd.sizeOf80]) (parts_1 (show _=vL (rowA obo2_0) xx1.length co2_0 from rfl)) rfl) ?_
   refine run_st (i:=2) (cs:=[vL none 0 0,vI 0]) (cs':=[vL (rowA obo2_0) xx1.length co2_0,vI 0]) (vs:=[vL (rowA obo2_0) xx1.length co2_0,vI 0]) (bs':=[(some b4, .cells #[vL (rowA obo2_0) xx1.length co2_0] 132 (0,0)),(obo2_0, .cells (cso2_0).toArray 5 (0,0)),(some b2, .cells #[vL (rowA obo2_0) xx1.length co2_0,vI 0] 86 (0,0)),(some b1, .cells #[vL A0_0 a0.vDefs.length c0_0] 24 (0,0))]) rfl rfl Tryd.sizeOf86 rfl rfl (by decide) rfl HS94 rfl (Nat.le_of_ble_eq_true rfl) rfl rfl ?_
   intro w24 HS95
   try simp only [sc0,sc1]
   refine run_nil<|norm_then<|wp_ret ?_
   obtain rfl:=Option.some.inj H
   refine bodyPost_ret (results_1 rfl (one_agg rfl Tryd.isAgg86 (HS95.look 2 rfl) Tryd.sizeOf86 rfl)) rfl ?_
   obtain ⟨h1,HS96,hs12,rdp1⟩:=row_pub HS95 (i:=1) rfl hoo2_0
   exact ⟨h1,(rowA obo2_0),co2_0,rfl,hoo2_0.cap,rdp1,HS96.gr,HS96.sees,HS96.toE⟩
def taplineref08_Reader_Refuse.f (p0_0:List Int) (p0_1:Int) (p0_2:Bool) (p0_3:Int) (a1:Int):Option (Bool×Int):=if (!p0_2)=true then (some (true,a1)) else (some (p0_2,p0_3))
theorem taplineref08_Reader_Refuse.calls (p0_0:List Int) (p0_1:Int) (p0_2:Bool) (p0_3:Int) (a1:Int) (bp0:Nat) (Ap0_0:Option Addr) (cp0_0:Nat) {h0:View} {w0:World} {h:View} {w:World} {rest:List Res} (HS:St [] h0 w0 h ((some bp0, .cells #[vL Ap0_0 p0_0.length cp0_0,vI p0_1,vB p0_2,vI p0_3] 138 (0,0))::rest) w) (hrp0_0:Rd (Kd.int .u8) h Ap0_0 p0_0) (hcp0_0:p0_0.length≤cp0_0) {r:Bool×Int} (H:taplineref08_Reader_Refuse.f p0_0 p0_1 p0_2 p0_3 a1=some r):Calls Tryd.prog 79 #[vP bp0 0,vI a1] w (fun e w1=>e= .returned (Value.tuple #[])∧St [] h0 w0 h ((some bp0, .cells #[vL Ap0_0 p0_0.length cp0_0,vI p0_1,vB r.1,vI r.2] 138 (0,0))::rest) w1):=by
 unfold taplineref08_Reader_Refuse.f at H
 have hsub:Sub h h:=Sub.rfl' h
 go_enter Tryd.func79,Tryd.ntmps79
 refine wp_seq<|region<|rs (vP bp0 0) (r_move rfl)<|rs (vP bp0 0) (r_nilCheck rfl)<|rs (vP bp0 2) (r_fieldBox (n:=1) (o':=2) rfl Tryd.runUnderlying138 rfl Tryd.sizeOf4 (by decide) rfl)<|rs (vB p0_2) (r_loadBox rfl Tryd.isAgg4 (HS.look 0 rfl) rfl)<|run_frame (by simp only [sc0,sc1];rfl) ?_
 refine rs (vB (!p0_2)) (r_not rfl) ?_
 try simp only [sc0,sc1]
 refine run_nil<|norm_then<|wp_cond_split (t:=(!p0_2)) rfl (fun c1=>?_) (fun c1=>?_)
 ·replace H:=of_pos H c1
  refine wp_seq<|region<|rs (vP bp0 0) (r_move rfl)<|rs (vP bp0 0) (r_nilCheck rfl)<|rs (vP bp0 2) (r_fieldBox (n:=1) (o':=2) rfl Tryd.runUnderlying138 rfl Tryd.sizeOf4 (by decide) rfl)<|run_st (i:=0) (cs:=[vL Ap0_0 p0_0.length cp0_0,vI p0_1,vB p0_2,vI p0_3]) (cs':=[vL Ap0_0 p0_0.length cp0_0,vI p0_1,vB true,vI p0_3]) (vs:=[vB true]) (bs':=((some bp0, .cells #[vL Ap0_0 p0_0.length cp0_0,vI p0_1,vB true,vI p0_3] 138 (0,0))::rest)) rfl rfl Tryd.sizeOf4 rfl rfl (by decide) rfl HS rfl (Nat.le_of_ble_eq_true rfl) rfl rfl ?_
  intro w1 HS1
  try simp only [sc0,sc1]
  refine run_nil<|norm_then<|region<|rs (vP bp0 0) (r_move rfl)<|rs (vI a1) (r_move rfl)<|rs (vP bp0 0) (r_nilCheck rfl)<|rs (vP bp0 3) (r_fieldBox (n:=1) (o':=3) rfl Tryd.runUnderlying138 rfl Tryd.sizeOf3 (by decide) rfl)<|run_frame (by simp only [sc0,sc1];rfl) ?_
  refine run_st (i:=0) (cs:=[vL Ap0_0 p0_0.length cp0_0,vI p0_1,vB true,vI p0_3]) (cs':=[vL Ap0_0 p0_0.length cp0_0,vI p0_1,vB true,vI a1]) (vs:=[vI a1]) (bs':=((some bp0, .cells #[vL Ap0_0 p0_0.length cp0_0,vI p0_1,vB true,vI a1] 138 (0,0))::rest)) rfl rfl Tryd.sizeOf3 rfl rfl (by decide) rfl HS1 rfl (Nat.le_of_ble_eq_true rfl) rfl rfl ?_
  intro w2 HS2
  try simp only [sc0,sc1]
  refine run_nil ?_
  obtain rfl:=Option.some.inj H
  exact bodyPost_end (results_none rfl _ _ _) rfl<|⟨rfl,HS2⟩
 ·replace H:=of_neg H (nt c1)
  refine wp_skip ?_
  obtain rfl:=Option.some.inj H
  exact bodyPost_end (results_none rfl _ _ _) rfl<|⟨rfl,HS⟩
def taplineref08_Reader_Byte.f (p0_0:List Int) (p0_1:Int) (p0_2:Bool) (p0_3:Int):Option (Int×Int×Bool×Int):=if p0_2=true then (some (0,p0_1,p0_2,p0_3)) else (if (decide (p0_1≥(p0_0.length:Int)))=true then ((taplineref08_Reader_Refuse.f p0_0 p0_1 p0_2 p0_3 (p0_0.length:Int)).bind fun v1=>(some (0,p0_1,v1.1,v1.2))) else (if 0≤(IntKind.wrap .i64 ((IntKind.wrap .i64 (p0_1+1))-1))∧(IntKind.wrap .i64 ((IntKind.wrap .i64 (p0_1+1))-1))<p0_0.length then (some ((rd 0 p0_0 (IntKind.wrap .i64 ((IntKind.wrap .i64 (p0_1+1))-1))),(IntKind.wrap .i64 (p0_1+1)),p0_2,p0_3)) else none))
theorem taplineref08_Reader_Byte.calls (p0_0:List Int) (p0_1:Int) (p0_2:Bool) (p0_3:Int) (bp0:Nat) (Ap0_0:Option Addr) (cp0_0:Nat) {h0:View} {w0:World} {h:View} {w:World} {rest:List Res} (HS:St [] h0 w0 h ((some bp0, .cells #[vL Ap0_0 p0_0.length cp0_0,vI p0_1,vB p0_2,vI p0_3] 138 (0,0))::rest) w) (hrp0_0:Rd (Kd.int .u8) h Ap0_0 p0_0) (hcp0_0:p0_0.length≤cp0_0) {r:Int×Int×Bool×Int} (H:taplineref08_Reader_Byte.f p0_0 p0_1 p0_2 p0_3=some r):Calls Tryd.prog 78 #[vP bp0 0] w (fun e w1=>e= .returned (Value.int .u8 r.1)∧St [] h0 w0 h ((some bp0, .cells #[vL Ap0_0 p0_0.length cp0_0,vI r.2.1,vB r.2.2.1,vI r.2.2.2] 138 (0,0))::rest) w1):=by
 unfold taplineref08_Reader_Byte.f at H
 have hsub:Sub h h:=Sub.rfl' h
 go_enter Tryd.func78,Tryd.ntmps78
 refine wp_seq<|region<|rs (Value.int .u8 0) (r_assign rfl) ?_
 try simp only [sc0,sc1]
 refine run_nil<|norm_then<|wp_seq<|wp_seq<|region<|rs (vP bp0 0) (r_move rfl)<|rs (vP bp0 0) (r_nilCheck rfl)<|rs (vP bp0 2) (r_fieldBox (n:=1) (o':=2) rfl Tryd.runUnderlying138 rfl Tryd.sizeOf4 (by decide) rfl)<|rs (vB p0_2) (r_loadBox rfl Tryd.isAgg4 (HS.look 0 rfl) rfl) ?_
 try simp only [sc0,sc1]
 refine run_nil<|norm_then<|wp_cond_split (t:=p0_2) rfl (fun c1=>?_) (fun c1=>?_)
 ·replace H:=of_pos H c1
  refine wp_seq<|region<|rs (Value.int .u8 0) (r_assign rfl) ?_
  try simp only [sc0,sc1]
  refine run_nil<|norm_then<|wp_ret<|ret_then ?_
  obtain rfl:=Option.some.inj H
  exact bodyPost_ret (results_1 rfl (one_tmp rfl)) rfl<|⟨rfl,HS⟩
 ·replace H:=of_neg H (nt c1)
  refine wp_skip<|norm_then<|wp_seq<|wp_seq<|drawn [.eq (vP bp0 0), .eq (vP bp0 0), .eq (vP bp0 1), .eq (vI p0_1), .eq (vP bp0 0), .eq (vP bp0 0), .eq (vP bp0 0), .eq (vL Ap0_0 p0_0.length cp0_0), .eq (vI (p0_0.length:Int)), .eq (vB (decide (p0_1≥(p0_0.length:Int))))] [7,8,9,10,11,12,13,14,15,16] hmix (by kernel_rfl) rfl (stable_eq (stable_eq (stable_eq (stable_eq (stable_eq (stable_eq (stable_eq (stable_eq (stable_eq (stable_eq stable_nil)))))))))) ⟨ob_plain rfl (fun a' w' hE hk=>by have HSd:=HS.step hE;exact does_eq (r_move (show _=vP bp0 0 from hk 0 rfl))),ob_plain rfl (fun a' w' hE hk=>by have HSd:=HS.step hE;exact does_eq (r_nilCheck (show _=vP bp0 0 from hk 7 rfl))),ob_plain rfl (fun a' w' hE hk=>by have HSd:=HS.step hE;exact does_eq (r_fieldBox (n:=1) (o':=1) (show _=vP bp0 0 from hk 8 rfl) Tryd.runUnderlying138 rfl Tryd.sizeOf3 (by decide) rfl)),ob_plain rfl (fun a' w' hE hk=>by have HSd:=HS.step hE;exact does_eq (r_loadBox (show _=vP bp0 1 from hk 9 rfl) Tryd.isAgg3 (HSd.look 0 rfl) rfl)),ob_plain rfl (fun a' w' hE hk=>by have HSd:=HS.step hE;exact does_eq (r_move (show _=vP bp0 0 from hk 0 rfl))),ob_plain rfl (fun a' w' hE hk=>by have HSd:=HS.step hE;exact does_eq (r_nilCheck (show _=vP bp0 0 from hk 11 rfl))),ob_plain rfl (fun a' w' hE hk=>by have HSd:=HS.step hE;exact does_eq (r_fieldBox (n:=1) (o':=0) (show _=vP bp0 0 from hk 12 rfl) Tryd.runUnderlying138 rfl Tryd.sizeOf80 (by decide) rfl)),ob_plain rfl (fun a' w' hE hk=>by have HSd:=HS.step hE;exact does_eq (r_loadBox (show _=vP bp0 0 from hk 13 rfl) Tryd.isAgg80 (HSd.look 0 rfl) rfl)),ob_plain rfl (fun a' w' hE hk=>by have HSd:=HS.step hE;exact does_eq (r_len (show _=vL Ap0_0 p0_0.length cp0_0 from hk 14 rfl) Tryd.runUnderlying80)),ob_plain rfl (fun a' w' hE hk=>by have HSd:=HS.step hE;exact does_eq (r_bin (show _=vI p0_1 from hk 10 rfl) (show _=vI (p0_0.length:Int) from hk 15 rfl) rfl)),trivial⟩ ?_
  intro w1 hE1
  simp only [List.zip_cons_cons,List.zip_nil_left,List.zip_nil_right,finL,sc0,sc1,List.length_cons,List.length_nil,List.drop_succ_cons,List.drop_zero,Nat.zero_add,Nat.reduceAdd]
  have HS1:=HS.step hE1
  refine run_nil<|norm_then<|wp_cond_split (t:=(decide (p0_1≥(p0_0.length:Int)))) rfl (fun c2=>?_) (fun c2=>?_)
  ·replace H:=of_pos H c2
   refine wp_seq<|region<|rs (vP bp0 0) (r_move rfl)<|rs (vP bp0 0) (r_move rfl)<|rs (vP bp0 0) (r_nilCheck rfl)<|rs (vP bp0 0) (r_fieldBox (n:=1) (o':=0) rfl Tryd.runUnderlying138 rfl Tryd.sizeOf80 (by decide) rfl)<|run_frame (by simp only [sc0,sc1];rfl) ?_
   refine rs (vL Ap0_0 p0_0.length cp0_0) (r_loadBox rfl Tryd.isAgg80 (HS1.look 0 rfl) rfl)<|rs (vI (p0_0.length:Int)) (r_len rfl Tryd.runUnderlying80) ?_
   obtain ⟨v1,H1,H⟩:=of_bind H
   refine run_call (vs:=[vP bp0 0,vI (p0_0.length:Int)]) (caps:=[]) Tryd.call79 rfl rfl (taplineref08_Reader_Refuse.calls p0_0 p0_1 p0_2 p0_3 (p0_0.length:Int) bp0 Ap0_0 cp0_0 HS1 hrp0_0 hcp0_0 H1) ?_
   rintro _ w2 ⟨rfl,HS2⟩
   refine ⟨_,rfl,?_⟩
   try simp only [sc0,sc1]
   refine run_nil<|norm_then<|wp_seq<|region<|rs (Value.int .u8 0) (r_assign rfl) ?_
   try simp only [sc0,sc1]
   refine run_nil<|norm_then<|wp_ret<|ret_then ?_
   obtain rfl:=Option.some.inj H
   exact bodyPost_ret (results_1 rfl (one_tmp rfl)) rfl<|⟨rfl,HS2⟩
  ·replace H:=of_neg H (nt c2)
   refine wp_skip<|norm_then<|wp_seq<|region<|rs (vP bp0 0) (r_move rfl)<|rs (vP bp0 0) (r_move rfl)<|rs (vP bp0 0) (r_nilCheck rfl)<|rs (vP bp0 1) (r_fieldBox (n:=1) (o':=1) rfl Tryd.runUnderlying138 rfl Tryd.sizeOf3 (by decide) rfl)<|run_frame (by simp only [sc0,sc1];rfl) ?_
   refine rs (vI p0_1) (r_loadBox rfl Tryd.isAgg3 (HS1.look 0 rfl) rfl)<|rs (vI (w64 (p0_1+1))) (r_bin rfl rfl rfl)<|rs (vP bp0 0) (r_nilCheck rfl)<|rs (vP bp0 1) (r_fieldBox (n:=1) (o':=1) rfl Tryd.runUnderlying138 rfl Tryd.sizeOf3 (by decide) rfl)<|run_frame (by simp only [sc0,sc1];rfl) ?_
   refine run_st (i:=0) (cs:=[vL Ap0_0 p0_0.length cp0_0,vI p0_1,vB p0_2,vI p0_3]) (cs':=[vL Ap0_0 p0_0.length cp0_0,vI (w64 (p0_1+1)),vB p0_2,vI p0_3]) (vs:=[vI (w64 (p0_1+1))]) (bs':=((some bp0, .cells #[vL Ap0_0 p0_0.length cp0_0,vI (w64 (p0_1+1)),vB p0_2,vI p0_3] 138 (0,0))::rest)) rfl rfl Tryd.sizeOf3 rfl rfl (by decide) rfl HS1 rfl (Nat.le_of_ble_eq_true rfl) rfl rfl ?_
   intro w3 HS3
   try simp only [sc0,sc1]
   refine run_nil<|norm_then<|wp_seq ?_
   obtain ⟨hi1,H⟩:=of_ite H
   obtain ⟨ad1,e1,hel1⟩:=ld_int hrp0_0 hi1.1 hi1.2
   refine drawn [.eq (vP bp0 0), .eq (vP bp0 0), .eq (vP bp0 0), .eq (vL Ap0_0 p0_0.length cp0_0), .eq (vP bp0 0), .eq (vP bp0 0), .eq (vP bp0 1), .eq (vI (w64 (p0_1+1))), .eq (vI (w64 ((w64 (p0_1+1))-1))), .eq (Value.pointer (some (Addr.add ad1 ((w64 ((w64 (p0_1+1))-1)).toNat*1)))), .eq (Value.int .u8 (rd 0 p0_0 (w64 ((w64 (p0_1+1))-1))))] [32,33,34,35,36,37,38,39,40,41,42] hmix (by kernel_rfl) rfl (stable_eq (stable_eq (stable_eq (stable_eq (stable_eq (stable_eq (stable_eq (stable_eq (stable_eq (stable_eq (stable_eq stable_nil))))))))))) ⟨ob_plain rfl (fun a' w' hE hk=>by have HSd:=HS3.step hE;exact does_eq (r_move (show _=vP bp0 0 from hk 0 rfl))),ob_plain rfl (fun a' w' hE hk=>by have HSd:=HS3.step hE;exact does_eq (r_nilCheck (show _=vP bp0 0 from hk 32 rfl))),ob_plain rfl (fun a' w' hE hk=>by have HSd:=HS3.step hE;exact does_eq (r_fieldBox (n:=1) (o':=0) (show _=vP bp0 0 from hk 33 rfl) Tryd.runUnderlying138 rfl Tryd.sizeOf80 (by decide) rfl)),ob_plain rfl (fun a' w' hE hk=>by have HSd:=HS3.step hE;exact does_eq (r_loadBox (show _=vP bp0 0 from hk 34 rfl) Tryd.isAgg80 (HSd.look 0 rfl) rfl)),ob_plain rfl (fun a' w' hE hk=>by have HSd:=HS3.step hE;exact does_eq (r_move (show _=vP bp0 0 from hk 0 rfl))),ob_plain rfl (fun a' w' hE hk=>by have HSd:=HS3.step hE;exact does_eq (r_nilCheck (show _=vP bp0 0 from hk 36 rfl))),ob_plain rfl (fun a' w' hE hk=>by have HSd:=HS3.step hE;exact does_eq (r_fieldBox (n:=1) (o':=1) (show _=vP bp0 0 from hk 37 rfl) Tryd.runUnderlying138 rfl Tryd.sizeOf3 (by decide) rfl)),ob_plain rfl (fun a' w' hE hk=>by have HSd:=HS3.step hE;exact does_eq (r_loadBox (show _=vP bp0 1 from hk 38 rfl) Tryd.isAgg3 (HSd.look 0 rfl) rfl)),ob_plain rfl (fun a' w' hE hk=>by have HSd:=HS3.step hE;exact does_eq (r_bin (show _=vI (w64 (p0_1+1)) from hk 39 rfl) rfl rfl)),ob_plain rfl (fun a' w' hE hk=>by have HSd:=HS3.step hE;exact does_eq (r_indexA (sz:=1) (show _=vL Ap0_0 p0_0.length cp0_0 from hk 35 rfl) e1 (show _=vI (w64 ((w64 (p0_1+1))-1)) from hk 40 rfl) hi1.1 hi1.2 Tryd.runUnderlying80 Tryd.sizeOf5)),ob_plain rfl (fun a' w' hE hk=>by have HSd:=HS3.step hE;exact does_eq (r_load (show _=Value.pointer (some (Addr.add ad1 ((w64 ((w64 (p0_1+1))-1)).toNat*1))) from hk 41 rfl) Tryd.isAgg5 (hel1.cell0 HSd.sees rfl))),trivial⟩ ?_
   intro w4 hE2
   simp only [List.zip_cons_cons,List.zip_nil_left,List.zip_nil_right,finL,sc0,sc1,List.length_cons,List.length_nil,List.drop_succ_cons,List.drop_zero,Nat.zero_add,Nat.reduceAdd]
   have HS4:=HS3.step hE2
   refine rs (Value.int .u8 (rd 0 p0_0 (w64 ((w64 (p0_1+1))-1)))) (r_assign rfl) ?_
   try simp only [sc0,sc1]
   refine run_nil<|norm_then<|wp_ret ?_
   obtain rfl:=Option.some.inj H
   exact bodyPost_ret (results_1 rfl (one_tmp rfl)) rfl<|⟨rfl,HS4⟩
def taplineref08_Reader_Int.l0 (p0_0:List Int):Nat→Int→Int→Int→Bool→Int→Option ((Int×Int×Bool×Int)⊕(Int×Bool×Int))
 |0,_,_,_,_,_=>none
 |m+1,y1_0,y1_1,y1_2,y1_3,y1_4=>if ((decide (y1_1<10))&&(!y1_3))=true then ((taplineref08_Reader_Byte.f p0_0 y1_2 y1_3 y1_4).bind fun v1=>(if v1.2.2.1=true then (some (.inl (0,v1.2.1,v1.2.2.1,v1.2.2.2))) else (if (((y1_1==9)&&(decide (v1.1>1)))||((decide (y1_1>0))&&(v1.1==0)))=true then ((taplineref08_Reader_Refuse.f p0_0 v1.2.1 v1.2.2.1 v1.2.2.2 (IntKind.wrap .i64 (v1.2.1-1))).bind fun v2=>(some (.inl (0,v1.2.1,v2.1,v2.2)))) else (if 0≤(IntKind.wrap .i64 (7*y1_1)) then (if (decide (v1.1<128))=true then (if ((iRem (iOr .u64 y1_0 (iShl .u64 (IntKind.wrap .u64 (iRem v1.1 128)) (IntKind.wrap .i64 (7*y1_1)))) 2)==1)=true then (some (.inl ((IntKind.wrap .i64 ((IntKind.wrap .i64 (0-(IntKind.wrap .i64 (iShr .u64 (iOr .u64 y1_0 (iShl .u64 (IntKind.wrap .u64 (iRem v1.1 128)) (IntKind.wrap .i64 (7*y1_1)))) 1))))-1)),v1.2.1,v1.2.2.1,v1.2.2.2))) else (some (.inl ((IntKind.wrap .i64 (iShr .u64 (iOr .u64 y1_0 (iShl .u64 (IntKind.wrap .u64 (iRem v1.1 128)) (IntKind.wrap .i64 (7*y1_1)))) 1)),v1.2.1,v1.2.2.1,v1.2.2.2)))) else (taplineref08_Reader_Int.l0 p0_0 m (iOr .u64 y1_0 (iShl .u64 (IntKind.wrap .u64 (iRem v1.1 128)) (IntKind.wrap .i64 (7*y1_1)))) (IntKind.wrap .i64 (y1_1+1)) v1.2.1 v1.2.2.1 v1.2.2.2)) else none)))) else (some (.inr (y1_2,y1_3,y1_4)))
def taplineref08_Reader_Int.f (k:Nat) (p0_0:List Int) (p0_1:Int) (p0_2:Bool) (p0_3:Int):Option (Int×Int×Bool×Int):=(taplineref08_Reader_Int.l0 p0_0 k 0 0 p0_1 p0_2 p0_3).bind fun xx1=>(match xx1 with| .inl r=>some r| .inr s1=>some (0,s1.1,s1.2.1,s1.2.2))
theorem taplineref08_Reader_Int.calls (k:Nat) (p0_0:List Int) (p0_1:Int) (p0_2:Bool) (p0_3:Int) (bp0:Nat) (Ap0_0:Option Addr) (cp0_0:Nat) {h0:View} {w0:World} {h:View} {w:World} {rest:List Res} (HS:St [] h0 w0 h ((some bp0, .cells #[vL Ap0_0 p0_0.length cp0_0,vI p0_1,vB p0_2,vI p0_3] 138 (0,0))::rest) w) (hrp0_0:Rd (Kd.int .u8) h Ap0_0 p0_0) (hcp0_0:p0_0.length≤cp0_0) {r:Int×Int×Bool×Int} (H:taplineref08_Reader_Int.f k p0_0 p0_1 p0_2 p0_3=some r):Calls Tryd.prog 81 #[vP bp0 0] w (fun e w1=>e= .returned (vI r.1)∧St [] h0 w0 h ((some bp0, .cells #[vL Ap0_0 p0_0.length cp0_0,vI r.2.1,vB r.2.2.1,vI r.2.2.2] 138 (0,0))::rest) w1):=by
 unfold taplineref08_Reader_Int.f at H
 have hsub:Sub h h:=Sub.rfl' h
 go_enter Tryd.func81,Tryd.ntmps81
 refine wp_seq<|region<|rs (vI 0) (r_assign rfl) ?_
 try simp only [sc0,sc1]
 refine run_nil<|norm_then<|wp_seq<|region<|rs (Value.int .u64 0) (r_assign rfl) ?_
 try simp only [sc0,sc1]
 refine run_nil<|norm_then<|wp_seq<|wp_seq<|region<|rs (vI 0) (r_assign rfl) ?_
 try simp only [sc0,sc1]
 refine run_nil<|norm_then ?_
 obtain ⟨xx1,H,G1⟩:=of_bind H
 refine loop_j [2,3,4,5,6,7,8,9,10,11,12,13,14,15,16,17,18,19,20,21,22,23,24,25,26,27,28,29,30,31,32,33,34,35,36,37,38,39,40,41,42,43,44,45,46,47,48,49,50,51,52,53,54,55,56,57,58,59,60,61,62,63,64] (fun m us w'=>∃y1_0 y1_1 y1_2:Int,∃y1_3:Bool,∃y1_4:Int,Fit us (fun uy1=>[(uy1 0),Value.int .u64 y1_0,vI y1_1,(uy1 3),(uy1 4),(uy1 5),(uy1 6),(uy1 7),(uy1 8),(uy1 9),(uy1 10),(uy1 11),(uy1 12),(uy1 13),(uy1 14),(uy1 15),(uy1 16),(uy1 17),(uy1 18),(uy1 19),(uy1 20),(uy1 21),(uy1 22),(uy1 23),(uy1 24),(uy1 25),(uy1 26),(uy1 27),(uy1 28),(uy1 29),(uy1 30),(uy1 31),(uy1 32),(uy1 33),(uy1 34),(uy1 35),(uy1 36),(uy1 37),(uy1 38),(uy1 39),(uy1 40),(uy1 41),(uy1 42),(uy1 43),(uy1 44),(uy1 45),(uy1 46),(uy1 47),(uy1 48),(uy1 49),(uy1 50),(uy1 51),(uy1 52),(uy1 53),(uy1 54),(uy1 55),(uy1 56),(uy1 57),(uy1 58),(uy1 59),(uy1 60),(uy1 61),(uy1 62)])∧taplineref08_Reader_Int.l0 p0_0 m y1_0 y1_1 y1_2 y1_3 y1_4=some xx1∧St [] h0 w0 h ((some bp0, .cells #[vL Ap0_0 p0_0.length cp0_0,vI y1_2,vB y1_3,vI y1_4] 138 (0,0))::rest) w') (fun us w'=>∃(s1:Int×Bool×Int),xx1= .inr s1∧Fit us (fun uo1=>[(uo1 0),(uo1 1),(uo1 2),(uo1 3),(uo1 4),(uo1 5),(uo1 6),(uo1 7),(uo1 8),(uo1 9),(uo1 10),(uo1 11),(uo1 12),(uo1 13),(uo1 14),(uo1 15),(uo1 16),(uo1 17),(uo1 18),(uo1 19),(uo1 20),(uo1 21),(uo1 22),(uo1 23),(uo1 24),(uo1 25),(uo1 26),(uo1 27),(uo1 28),(uo1 29),(uo1 30),(uo1 31),(uo1 32),(uo1 33),(uo1 34),(uo1 35),(uo1 36),(uo1 37),(uo1 38),(uo1 39),(uo1 40),(uo1 41),(uo1 42),(uo1 43),(uo1 44),(uo1 45),(uo1 46),(uo1 47),(uo1 48),(uo1 49),(uo1 50),(uo1 51),(uo1 52),(uo1 53),(uo1 54),(uo1 55),(uo1 56),(uo1 57),(uo1 58),(uo1 59),(uo1 60),(uo1 61),(uo1 62)])∧St [] h0 w0 h ((some bp0, .cells #[vL Ap0_0 p0_0.length cp0_0,vI s1.1,vB s1.2.1,vI s1.2.2] 138 (0,0))::rest) w') k ⟨0,0,p0_1,p0_2,p0_3,(fit rfl),H,HS⟩ ?_ ?_
 ·rintro m us w1 ⟨y1_0,y1_1,y1_2,y1_3,y1_4,huy1,H,HS1⟩
  obtain ⟨uy1,rfl⟩:=unj huy1
  cases m with
  |zero=>exact absurd H (by simp [taplineref08_Reader_Int.l0])
  |succ m=>
   rw [taplineref08_Reader_Int.l0] at H
   try simp only [patch,sc0,sc1]
   refine wp_seq<|wp_seq<|region<|rs (vI y1_1) (r_move rfl)<|rs (vB (decide (y1_1<10))) (r_bin rfl rfl rfl)<|rs (vB (decide (y1_1<10))) (r_move rfl)<|rgs (decide (y1_1<10)) true (vP bp0 0) rfl rfl rfl rfl (fun hg=>(r_move rfl))<|run_frame (by simp only [sc0,sc1];rfl) ?_
   refine rgs (decide (y1_1<10)) true (vP bp0 0) rfl rfl rfl rfl (fun hg=>(r_nilCheck (gvt (vP bp0 0) hg rfl)))<|rgs (decide (y1_1<10)) true (vP bp0 2) rfl rfl rfl rfl (fun hg=>(r_fieldBox (n:=1) (o':=2) (gvt (vP bp0 0) hg rfl) Tryd.runUnderlying138 rfl Tryd.sizeOf4 (by decide) rfl))<|rgs (decide (y1_1<10)) true (vB y1_3) rfl rfl rfl rfl (fun hg=>(r_loadBox (gvt (vP bp0 2) hg rfl) Tryd.isAgg4 (HS1.look 0 rfl) rfl))<|rgs (decide (y1_1<10)) true (vB (!y1_3)) rfl rfl rfl rfl (fun hg=>(r_not (gvt (vB y1_3) hg rfl)))<|run_frame (by simp only [sc0,sc1];rfl) ?_
   refine rs (vB ((decide (y1_1<10))&&(!y1_3))) (r_pick_and rfl (fun hp=>(gvt (vB (!y1_3)) (and_i rfl hp) rfl)) rfl) ?_
   try simp only [sc0,sc1]
   refine run_nil<|norm_then<|wp_cond_split (t:=((decide (y1_1<10))&&(!y1_3))) rfl (fun c1=>?_) (fun c1=>?_)
   ·replace H:=of_pos H c1
    refine wp_skip<|norm_then<|wp_seq<|wp_block<|wp_seq<|region<|rs (vP bp0 0) (r_move rfl) ?_
    obtain ⟨v1,H1,H⟩:=of_bind H
    refine run_call (vs:=[vP bp0 0]) (caps:=[]) Tryd.call78 rfl rfl (taplineref08_Reader_Byte.calls p0_0 y1_2 y1_3 y1_4 bp0 Ap0_0 cp0_0 HS1 hrp0_0 hcp0_0 H1) ?_
    rintro _ w2 ⟨rfl,HS2⟩
    refine ⟨_,rfl,?_⟩
    refine rs (Value.int .u8 v1.1) (r_assign rfl) ?_
    try simp only [sc0,sc1]
    refine run_nil<|norm_then<|wp_seq<|wp_seq<|region<|rs (vP bp0 0) (r_move rfl)<|rs (vP bp0 0) (r_nilCheck rfl)<|rs (vP bp0 2) (r_fieldBox (n:=1) (o':=2) rfl Tryd.runUnderlying138 rfl Tryd.sizeOf4 (by decide) rfl)<|rs (vB v1.2.2.1) (r_loadBox rfl Tryd.isAgg4 (HS2.look 0 rfl) rfl) ?_
    try simp only [sc0,sc1]
    refine run_nil<|norm_then<|wp_cond_split (t:=v1.2.2.1) rfl (fun c2=>?_) (fun c2=>?_)
    ·replace H:=of_pos H c2
     refine wp_seq<|region<|rs (vI 0) (r_assign rfl) ?_
     try simp only [sc0,sc1]
     refine run_nil<|norm_then<|wp_ret<|ret_then<|ret_block<|ret_then<|ret_loop<|ret_then ?_
     obtain rfl:=Option.some.inj H
     obtain rfl:=Option.some.inj G1
     exact bodyPost_ret (results_1 rfl (one_tmp rfl)) rfl<|⟨rfl,HS2⟩
    ·replace H:=of_neg H (nt c2)
     refine wp_skip<|norm_then<|wp_seq<|wp_seq<|region<|rs (vI y1_1) (r_move rfl)<|rs (vB (y1_1==9)) (r_bin rfl rfl rfl)<|rs (vB (y1_1==9)) (r_move rfl)<|rgs (y1_1==9) true (Value.int .u8 v1.1) rfl rfl rfl rfl (fun hg=>(r_move rfl))<|run_frame (by simp only [sc0,sc1];rfl) ?_
     refine rgs (y1_1==9) true (vB (decide (v1.1>1))) rfl rfl rfl rfl (fun hg=>(r_bin (gvt (Value.int .u8 v1.1) hg rfl) rfl rfl))<|rs (vB ((y1_1==9)&&(decide (v1.1>1)))) (r_pick_and rfl (fun hp=>(gvt (vB (decide (v1.1>1))) (and_i rfl hp) rfl)) rfl)<|rs (vB ((y1_1==9)&&(decide (v1.1>1)))) (r_move rfl)<|rgs ((y1_1==9)&&(decide (v1.1>1))) true (vI y1_1) rfl rfl rfl rfl (fun hg=>(r_move rfl))<|run_frame (by simp only [sc0,sc1];rfl) ?_
     refine rgs ((y1_1==9)&&(decide (v1.1>1))) true (vB (decide (y1_1>0))) rfl rfl rfl rfl (fun hg=>(r_bin (gvt (vI y1_1) hg rfl) rfl rfl))<|rgs ((y1_1==9)&&(decide (v1.1>1))) true (vB (decide (y1_1>0))) rfl rfl rfl rfl (fun hg=>(r_move (gvt (vB (decide (y1_1>0))) hg rfl)))<|rgs (decide (y1_1>0)) (true&&(((y1_1==9)&&(decide (v1.1>1)))==false)) (Value.int .u8 v1.1) rfl rfl rfl rfl (fun hg=>(r_move rfl))<|rgs (decide (y1_1>0)) (true&&(((y1_1==9)&&(decide (v1.1>1)))==false)) (vB (v1.1==0)) rfl rfl rfl rfl (fun hg=>(r_bin (gvt (Value.int .u8 v1.1) hg rfl) rfl rfl))<|run_frame (by simp only [sc0,sc1];rfl) ?_
     refine rgs ((y1_1==9)&&(decide (v1.1>1))) true (vB ((decide (y1_1>0))&&(v1.1==0))) rfl rfl rfl rfl (fun hg=>(r_pick_and (gvt (vB (decide (y1_1>0))) hg rfl) (fun hp=>(gvt (vB (v1.1==0)) (and_i hg hp) rfl)) rfl))<|rs (vB (((y1_1==9)&&(decide (v1.1>1)))||((decide (y1_1>0))&&(v1.1==0)))) (r_pick_or rfl rfl (fun hp=>(gvt (vB ((decide (y1_1>0))&&(v1.1==0))) (and_i rfl hp) rfl))) ?_
     try simp only [sc0,sc1]
     refine run_nil<|norm_then<|wp_cond_split (t:=(((y1_1==9)&&(decide (v1.1>1)))||((decide (y1_1>0))&&(v1.1==0)))) rfl (fun c3=>?_) (fun c3=>?_)
     ·replace H:=of_pos H c3
      refine wp_seq<|region<|rs (vP bp0 0) (r_move rfl)<|rs (vP bp0 0) (r_move rfl)<|rs (vP bp0 0) (r_nilCheck rfl)<|rs (vP bp0 1) (r_fieldBox (n:=1) (o':=1) rfl Tryd.runUnderlying138 rfl Tryd.sizeOf3 (by decide) rfl)<|run_frame (by simp only [sc0,sc1];rfl) ?_
      refine rs (vI v1.2.1) (r_loadBox rfl Tryd.isAgg3 (HS2.look 0 rfl) rfl)<|rs (vI (w64 (v1.2.1-1))) (r_bin rfl rfl rfl) ?_
      obtain ⟨v2,H2,H⟩:=of_bind H
      refine run_call (vs:=[vP bp0 0,vI (w64 (v1.2.1-1))]) (caps:=[]) Tryd.call79 rfl rfl (taplineref08_Reader_Refuse.calls p0_0 v1.2.1 v1.2.2.1 v1.2.2.2 (w64 (v1.2.1-1)) bp0 Ap0_0 cp0_0 HS2 hrp0_0 hcp0_0 H2) ?_
      rintro _ w3 ⟨rfl,HS3⟩
      refine ⟨_,rfl,?_⟩
      try simp only [sc0,sc1]
      refine run_nil<|norm_then<|wp_seq<|region<|rs (vI 0) (r_assign rfl) ?_
      try simp only [sc0,sc1]
      refine run_nil<|norm_then<|wp_ret<|ret_then<|ret_block<|ret_then<|ret_loop<|ret_then ?_
      obtain rfl:=Option.some.inj H
      obtain rfl:=Option.some.inj G1
      exact bodyPost_ret (results_1 rfl (one_tmp rfl)) rfl<|⟨rfl,HS3⟩
     ·replace H:=of_neg H (nt c3)
      refine wp_skip<|norm_then<|wp_seq<|region<|rs (Value.int .u64 y1_0) (r_move rfl)<|rs (Value.int .u8 v1.1) (r_move rfl)<|rs (Value.int .u8 (iRem v1.1 128)) (r_rem rfl rfl (by decide))<|rs (Value.int .u64 (IntKind.wrap .u64 (iRem v1.1 128))) (r_conv rfl Tryd.runUnderlying5 Tryd.runUnderlying168)<|run_frame (by simp only [sc0,sc1];rfl) ?_
      refine rs (vI y1_1) (r_move rfl)<|rs (vI (w64 (7*y1_1))) (r_bin rfl rfl rfl) ?_
      obtain ⟨hb2,H⟩:=of_ite H
      refine rs (Value.int .u64 (iShl .u64 (IntKind.wrap .u64 (iRem v1.1 128)) (w64 (7*y1_1)))) (r_shl rfl rfl hb2)<|rs (Value.int .u64 (iOr .u64 y1_0 (iShl .u64 (IntKind.wrap .u64 (iRem v1.1 128)) (w64 (7*y1_1))))) (r_or rfl rfl)<|run_frame (by simp only [sc0,sc1];rfl) ?_
      refine rs (Value.int .u64 (iOr .u64 y1_0 (iShl .u64 (IntKind.wrap .u64 (iRem v1.1 128)) (w64 (7*y1_1))))) (r_assign rfl) ?_
      try simp only [sc0,sc1]
      refine run_nil<|norm_then<|wp_seq<|region<|rs (Value.int .u8 v1.1) (r_move rfl)<|rs (vB (decide (v1.1<128))) (r_bin rfl rfl rfl) ?_
      try simp only [sc0,sc1]
      refine run_nil<|norm_then<|wp_cond_split (t:=(decide (v1.1<128))) rfl (fun c4=>?_) (fun c4=>?_)
      ·replace H:=of_pos H c4
       refine wp_seq<|region<|rs (Value.int .u64 (iOr .u64 y1_0 (iShl .u64 (IntKind.wrap .u64 (iRem v1.1 128)) (w64 (7*y1_1))))) (r_move rfl)<|rs (Value.int .u64 (iShr .u64 (iOr .u64 y1_0 (iShl .u64 (IntKind.wrap .u64 (iRem v1.1 128)) (w64 (7*y1_1)))) 1)) (r_shr rfl rfl (by decide))<|rs (vI (w64 (iShr .u64 (iOr .u64 y1_0 (iShl .u64 (IntKind.wrap .u64 (iRem v1.1 128)) (w64 (7*y1_1)))) 1))) (r_conv rfl Tryd.runUnderlying168 Tryd.runUnderlying2)<|rs (vI (w64 (iShr .u64 (iOr .u64 y1_0 (iShl .u64 (IntKind.wrap .u64 (iRem v1.1 128)) (w64 (7*y1_1)))) 1))) (r_assign rfl) ?_
       try simp only [sc0,sc1]
       refine run_nil<|norm_then<|wp_seq<|wp_seq<|region<|rs (Value.int .u64 (iOr .u64 y1_0 (iShl .u64 (IntKind.wrap .u64 (iRem v1.1 128)) (w64 (7*y1_1))))) (r_move rfl)<|rs (Value.int .u64 (iRem (iOr .u64 y1_0 (iShl .u64 (IntKind.wrap .u64 (iRem v1.1 128)) (w64 (7*y1_1)))) 2)) (r_rem rfl rfl (by decide))<|rs (vB ((iRem (iOr .u64 y1_0 (iShl .u64 (IntKind.wrap .u64 (iRem v1.1 128)) (w64 (7*y1_1)))) 2)==1)) (r_bin rfl rfl rfl) ?_
       try simp only [sc0,sc1]
       refine run_nil<|norm_then<|wp_cond_split (t:=((iRem (iOr .u64 y1_0 (iShl .u64 (IntKind.wrap .u64 (iRem v1.1 128)) (w64 (7*y1_1)))) 2)==1)) rfl (fun c5=>?_) (fun c5=>?_)
       ·replace H:=of_pos H c5
        refine wp_seq<|region<|rs (vI (w64 (iShr .u64 (iOr .u64 y1_0 (iShl .u64 (IntKind.wrap .u64 (iRem v1.1 128)) (w64 (7*y1_1)))) 1))) (r_move rfl)<|rs (vI (w64 (0-(w64 (iShr .u64 (iOr .u64 y1_0 (iShl .u64 (IntKind.wrap .u64 (iRem v1.1 128)) (w64 (7*y1_1)))) 1))))) (r_neg rfl)<|rs (vI (w64 ((w64 (0-(w64 (iShr .u64 (iOr .u64 y1_0 (iShl .u64 (IntKind.wrap .u64 (iRem v1.1 128)) (w64 (7*y1_1)))) 1))))-1))) (r_bin rfl rfl rfl)<|rs (vI (w64 ((w64 (0-(w64 (iShr .u64 (iOr .u64 y1_0 (iShl .u64 (IntKind.wrap .u64 (iRem v1.1 128)) (w64 (7*y1_1)))) 1))))-1))) (r_assign rfl) ?_
        try simp only [sc0,sc1]
        refine run_nil<|norm_then<|wp_ret<|ret_then<|ret_block<|ret_then<|ret_loop<|ret_then ?_
        obtain rfl:=Option.some.inj H
        obtain rfl:=Option.some.inj G1
        exact bodyPost_ret (results_1 rfl (one_tmp rfl)) rfl<|⟨rfl,HS2⟩
       ·replace H:=of_neg H (nt c5)
        refine wp_skip<|norm_then<|wp_seq<|region<|rs (vI (w64 (iShr .u64 (iOr .u64 y1_0 (iShl .u64 (IntKind.wrap .u64 (iRem v1.1 128)) (w64 (7*y1_1)))) 1))) (r_move rfl)<|rs (vI (w64 (iShr .u64 (iOr .u64 y1_0 (iShl .u64 (IntKind.wrap .u64 (iRem v1.1 128)) (w64 (7*y1_1)))) 1))) (r_assign rfl) ?_
        try simp only [sc0,sc1]
        refine run_nil<|norm_then<|wp_ret<|ret_block<|ret_then<|ret_loop<|ret_then ?_
        obtain rfl:=Option.some.inj H
        obtain rfl:=Option.some.inj G1
        exact bodyPost_ret (results_1 rfl (one_tmp rfl)) rfl<|⟨rfl,HS2⟩
      ·replace H:=of_neg H (nt c4)
       refine wp_skip<|norm_block<|norm_then<|region<|rs (vI y1_1) (r_move rfl)<|rs (vI (w64 (y1_1+1))) (r_bin rfl rfl rfl)<|rs (vI (w64 (y1_1+1))) (r_assign rfl) ?_
       try simp only [sc0,sc1]
       refine run_nil<|again_j m (Nat.lt_succ_self m) rfl ⟨(iOr .u64 y1_0 (iShl .u64 (IntKind.wrap .u64 (iRem v1.1 128)) (w64 (7*y1_1)))),(w64 (y1_1+1)),v1.2.1,v1.2.2.1,v1.2.2.2,(fit rfl),H,HS2⟩
   ·replace H:=of_neg H (nt c1)
    refine wp_exit<|exit_then ?_
    obtain rfl:=Option.some.inj H
    refine leave_j rfl ⟨_,rfl,(fit rfl),HS1⟩
 ·rintro us w4 ⟨s1,rfl,huo1,HS4⟩
  obtain ⟨uo1,rfl⟩:=unj huo1
  replace H:=G1
  clear G1
  try simp only [patch,sc0,sc1]
  refine norm_then<|wp_seq<|region<|rs (vI 0) (r_assign rfl) ?_
  try simp only [sc0,sc1]
  refine run_nil<|norm_then<|wp_ret ?_
  obtain rfl:=Option.some.inj H
  exact bodyPost_ret (results_1 rfl (one_tmp rfl)) rfl<|⟨rfl,HS4⟩
def taplineref08_Reader_Len.f (k:Nat) (p0_0:List Int) (p0_1:Int) (p0_2:Bool) (p0_3:Int):Option (Int×Int×Bool×Int):=(taplineref08_Reader_Int.f k p0_0 p0_1 p0_2 p0_3).bind fun v1=>(((if ((!v1.2.2.1)&&((decide (v1.1<0))||(decide (v1.1>(IntKind.wrap .i64 ((p0_0.length:Int)-v1.2.1))))))=true then ((taplineref08_Reader_Refuse.f p0_0 v1.2.1 v1.2.2.1 v1.2.2.2 (IntKind.wrap .i64 (v1.2.1-1))).bind fun v2=>(some (v2.1,v2.2))) else (some (v1.2.2.1,v1.2.2.2))):Option (Bool×Int)).bind fun xx1=>(if xx1.1=true then (some (0,v1.2.1,xx1.1,xx1.2)) else (some (v1.1,v1.2.1,xx1.1,xx1.2))))
theorem taplineref08_Reader_Len.calls (k:Nat) (p0_0:List Int) (p0_1:Int) (p0_2:Bool) (p0_3:Int) (bp0:Nat) (Ap0_0:Option Addr) (cp0_0:Nat) {h0:View} {w0:World} {h:View} {w:World} {rest:List Res} (HS:St [] h0 w0 h ((some bp0, .cells #[vL Ap0_0 p0_0.length cp0_0,vI p0_1,vB p0_2,vI p0_3] 138 (0,0))::rest) w) (hrp0_0:Rd (Kd.int .u8) h Ap0_0 p0_0) (hcp0_0:p0_0.length≤cp0_0) {r:Int×Int×Bool×Int} (H:taplineref08_Reader_Len.f k p0_0 p0_1 p0_2 p0_3=some r):Calls Tryd.prog 80 #[vP bp0 0] w (fun e w1=>e= .returned (vI r.1)∧St [] h0 w0 h ((some bp0, .cells #[vL Ap0_0 p0_0.length cp0_0,vI r.2.1,vB r.2.2.1,vI r.2.2.2] 138 (0,0))::rest) w1):=by
 unfold taplineref08_Reader_Len.f at H
 have hsub:Sub h h:=Sub.rfl' h
 go_enter Tryd.func80,Tryd.ntmps80
 refine wp_seq<|region<|rs (vI 0) (r_assign rfl) ?_
 try simp only [sc0,sc1]
 refine run_nil<|norm_then<|wp_seq<|region<|rs (vP bp0 0) (r_move rfl) ?_
 obtain ⟨v1,H1,H⟩:=of_bind H
 refine run_call (vs:=[vP bp0 0]) (caps:=[]) Tryd.call81 rfl rfl (taplineref08_Reader_Int.calls k p0_0 p0_1 p0_2 p0_3 bp0 Ap0_0 cp0_0 HS hrp0_0 hcp0_0 H1) ?_
 rintro _ w1 ⟨rfl,HS1⟩
 refine ⟨_,rfl,?_⟩
 refine rs (vI v1.1) (r_assign rfl) ?_
 try simp only [sc0,sc1]
 refine run_nil<|norm_then<|wp_seq<|wp_seq<|drawn [.eq (vP bp0 0), .eq (vP bp0 0), .eq (vP bp0 2), .eq (vB v1.2.2.1), .eq (vB (!v1.2.2.1)), .eq (vB (!v1.2.2.1)), .eq (gv (true&&((!v1.2.2.1)==true)) (vI v1.1)), .eq (gv (true&&((!v1.2.2.1)==true)) (vB (decide (v1.1<0)))), .eq (gv (true&&((!v1.2.2.1)==true)) (vB (decide (v1.1<0)))), .eq (gv ((true&&((!v1.2.2.1)==true))&&((decide (v1.1<0))==false)) (vI v1.1)), .eq (gv ((true&&((!v1.2.2.1)==true))&&((decide (v1.1<0))==false)) (vP bp0 0)), .eq (gv ((true&&((!v1.2.2.1)==true))&&((decide (v1.1<0))==false)) (vP bp0 0)), .eq (gv ((true&&((!v1.2.2.1)==true))&&((decide (v1.1<0))==false)) (vP bp0 0)), .eq (gv ((true&&((!v1.2.2.1)==true))&&((decide (v1.1<0))==false)) (vL Ap0_0 p0_0.length cp0_0)), .eq (gv ((true&&((!v1.2.2.1)==true))&&((decide (v1.1<0))==false)) (vI (p0_0.length:Int))), .eq (gv ((true&&((!v1.2.2.1)==true))&&((decide (v1.1<0))==false)) (vP bp0 0)), .eq (gv ((true&&((!v1.2.2.1)==true))&&((decide (v1.1<0))==false)) (vP bp0 0)), .eq (gv ((true&&((!v1.2.2.1)==true))&&((decide (v1.1<0))==false)) (vP bp0 1)), .eq (gv ((true&&((!v1.2.2.1)==true))&&((decide (v1.1<0))==false)) (vI v1.2.1)), .eq (gv ((true&&((!v1.2.2.1)==true))&&((decide (v1.1<0))==false)) (vI (w64 ((p0_0.length:Int)-v1.2.1)))), .eq (gv ((true&&((!v1.2.2.1)==true))&&((decide (v1.1<0))==false)) (vB (decide (v1.1>(w64 ((p0_0.length:Int)-v1.2.1)))))), .eq (gv (true&&((!v1.2.2.1)==true)) (vB ((decide (v1.1<0))||(decide (v1.1>(w64 ((p0_0.length:Int)-v1.2.1))))))), .eq (vB ((!v1.2.2.1)&&((decide (v1.1<0))||(decide (v1.1>(w64 ((p0_0.length:Int)-v1.2.1)))))))] [6,7,8,9,10,11,12,13,14,15,16,17,18,19,20,21,22,23,24,25,26,27,28] hmix (by kernel_rfl) rfl (stable_eq (stable_eq (stable_eq (stable_eq (stable_eq (stable_eq (stable_eq (stable_eq (stable_eq (stable_eq (stable_eq (stable_eq (stable_eq (stable_eq (stable_eq (stable_eq (stable_eq (stable_eq (stable_eq (stable_eq (stable_eq (stable_eq (stable_eq stable_nil))))))))))))))))))))))) ⟨ob_plain rfl (fun a' w' hE hk=>by have HSd:=HS1.step hE;exact does_eq (r_move (show _=vP bp0 0 from hk 0 rfl))),ob_plain rfl (fun a' w' hE hk=>by have HSd:=HS1.step hE;exact does_eq (r_nilCheck (show _=vP bp0 0 from hk 6 rfl))),ob_plain rfl (fun a' w' hE hk=>by have HSd:=HS1.step hE;exact does_eq (r_fieldBox (n:=1) (o':=2) (show _=vP bp0 0 from hk 7 rfl) Tryd.runUnderlying138 rfl Tryd.sizeOf4 (by decide) rfl)),ob_plain rfl (fun a' w' hE hk=>by have HSd:=HS1.step hE;exact does_eq (r_loadBox (show _=vP bp0 2 from hk 8 rfl) Tryd.isAgg4 (HSd.look 0 rfl) rfl)),ob_plain rfl (fun a' w' hE hk=>by have HSd:=HS1.step hE;exact does_eq (r_not (show _=vB v1.2.2.1 from hk 9 rfl))),ob_plain rfl (fun a' w' hE hk=>by have HSd:=HS1.step hE;exact does_eq (r_move (show _=vB (!v1.2.2.1) from hk 10 rfl))),ob_guard (b:=(!v1.2.2.1)) (c:=true) rfl rfl (by decide) (fun w' u hu=>hu) (fun a' w' hE hk hg=>by have HSd:=HS1.step hE;exact does_eq (r_move (show _=vI v1.1 from hk 3 rfl))),ob_guard (b:=(!v1.2.2.1)) (c:=true) rfl rfl (by decide) (fun w' u hu=>hu) (fun a' w' hE hk hg=>by have HSd:=HS1.step hE;exact does_eq (r_bin ((show _=gv (true&&((!v1.2.2.1)==true)) (vI v1.1) from (show _=gv (true&&((!v1.2.2.1)==true)) (vI v1.1) from hk 12 rfl)).trans (gv_t hg)) rfl rfl)),ob_guard (b:=(!v1.2.2.1)) (c:=true) rfl rfl (by decide) (fun w' u hu=>hu) (fun a' w' hE hk hg=>by have HSd:=HS1.step hE;exact does_eq (r_move ((show _=gv (true&&((!v1.2.2.1)==true)) (vB (decide (v1.1<0))) from (show _=gv (true&&((!v1.2.2.1)==true)) (vB (decide (v1.1<0))) from hk 13 rfl)).trans (gv_t hg)))),ob_guard (b:=(decide (v1.1<0))) (c:=(true&&((!v1.2.2.1)==true))) rfl rfl (by decide) (fun w' u hu=>hu) (fun a' w' hE hk hg=>by have HSd:=HS1.step hE;exact does_eq (r_move (show _=vI v1.1 from hk 3 rfl))),ob_guard (b:=(decide (v1.1<0))) (c:=(true&&((!v1.2.2.1)==true))) rfl rfl (by decide) (fun w' u hu=>hu) (fun a' w' hE hk hg=>by have HSd:=HS1.step hE;exact does_eq (r_move (show _=vP bp0 0 from hk 0 rfl))),ob_guard (b:=(decide (v1.1<0))) (c:=(true&&((!v1.2.2.1)==true))) rfl rfl (by decide) (fun w' u hu=>hu) (fun a' w' hE hk hg=>by have HSd:=HS1.step hE;exact does_eq (r_nilCheck ((show _=gv ((true&&((!v1.2.2.1)==true))&&((decide (v1.1<0))==false)) (vP bp0 0) from (show _=gv ((true&&((!v1.2.2.1)==true))&&((decide (v1.1<0))==false)) (vP bp0 0) from hk 16 rfl)).trans (gv_t hg)))),ob_guard (b:=(decide (v1.1<0))) (c:=(true&&((!v1.2.2.1)==true))) rfl rfl (by decide) (fun w' u hu=>hu) (fun a' w' hE hk hg=>by have HSd:=HS1.step hE;exact does_eq (r_fieldBox (n:=1) (o':=0) ((show _=gv ((true&&((!v1.2.2.1)==true))&&((decide (v1.1<0))==false)) (vP bp0 0) from (show _=gv ((true&&((!v1.2.2.1)==true))&&((decide (v1.1<0))==false)) (vP bp0 0) from hk 17 rfl)).trans (gv_t hg)) Tryd.runUnderlying138 rfl Tryd.sizeOf80 (by decide) rfl)),ob_guard (b:=(decide (v1.1<0))) (c:=(true&&((!v1.2.2.1)==true))) rfl rfl (by decide) (fun w' u hu=>hu) (fun a' w' hE hk hg=>by have HSd:=HS1.step hE;exact does_eq (r_loadBox ((show _=gv ((true&&((!v1.2.2.1)==true))&&((decide (v1.1<0))==false)) (vP bp0 0) from (show _=gv ((true&&((!v1.2.2.1)==true))&&((decide (v1.1<0))==false)) (vP bp0 0) from hk 18 rfl)).trans (gv_t hg)) Tryd.isAgg80 (HSd.look 0 rfl) rfl)),ob_guard (b:=(decide (v1.1<0))) (c:=(true&&((!v1.2.2.1)==true))) rfl rfl (by decide) (fun w' u hu=>hu) (fun a' w' hE hk hg=>by have HSd:=HS1.step hE;exact does_eq (r_len ((show _=gv ((true&&((!v1.2.2.1)==true))&&((decide (v1.1<0))==false)) (vL Ap0_0 p0_0.length cp0_0) from (show _=gv ((true&&((!v1.2.2.1)==true))&&((decide (v1.1<0))==false)) (vL Ap0_0 p0_0.length cp0_0) from hk 19 rfl)).trans (gv_t hg)) Tryd.runUnderlying80)),ob_guard (b:=(decide (v1.1<0))) (c:=(true&&((!v1.2.2.1)==true))) rfl rfl (by decide) (fun w' u hu=>hu) (fun a' w' hE hk hg=>by have HSd:=HS1.step hE;exact does_eq (r_move (show _=vP bp0 0 from hk 0 rfl))),ob_guard (b:=(decide (v1.1<0))) (c:=(true&&((!v1.2.2.1)==true))) rfl rfl (by decide) (fun w' u hu=>hu) (fun a' w' hE hk hg=>by have HSd:=HS1.step hE;exact does_eq (r_nilCheck ((show _=gv ((true&&((!v1.2.2.1)==true))&&((decide (v1.1<0))==false)) (vP bp0 0) from (show _=gv ((true&&((!v1.2.2.1)==true))&&((decide (v1.1<0))==false)) (vP bp0 0) from hk 21 rfl)).trans (gv_t hg)))),ob_guard (b:=(decide (v1.1<0))) (c:=(true&&((!v1.2.2.1)==true))) rfl rfl (by decide) (fun w' u hu=>hu) (fun a' w' hE hk hg=>by have HSd:=HS1.step hE;exact does_eq (r_fieldBox (n:=1) (o':=1) ((show _=gv ((true&&((!v1.2.2.1)==true))&&((decide (v1.1<0))==false)) (vP bp0 0) from (show _=gv ((true&&((!v1.2.2.1)==true))&&((decide (v1.1<0))==false)) (vP bp0 0) from hk 22 rfl)).trans (gv_t hg)) Tryd.runUnderlying138 rfl Tryd.sizeOf3 (by decide) rfl)),ob_guard (b:=(decide (v1.1<0))) (c:=(true&&((!v1.2.2.1)==true))) rfl rfl (by decide) (fun w' u hu=>hu) (fun a' w' hE hk hg=>by have HSd:=HS1.step hE;exact does_eq (r_loadBox ((show _=gv ((true&&((!v1.2.2.1)==true))&&((decide (v1.1<0))==false)) (vP bp0 1) from (show _=gv ((true&&((!v1.2.2.1)==true))&&((decide (v1.1<0))==false)) (vP bp0 1) from hk 23 rfl)).trans (gv_t hg)) Tryd.isAgg3 (HSd.look 0 rfl) rfl)),ob_guard (b:=(decide (v1.1<0))) (c:=(true&&((!v1.2.2.1)==true))) rfl rfl (by decide) (fun w' u hu=>hu) (fun a' w' hE hk hg=>by have HSd:=HS1.step hE;exact does_eq (r_bin ((show _=gv ((true&&((!v1.2.2.1)==true))&&((decide (v1.1<0))==false)) (vI (p0_0.length:Int)) from (show _=gv ((true&&((!v1.2.2.1)==true))&&((decide (v1.1<0))==false)) (vI (p0_0.length:Int)) from hk 20 rfl)).trans (gv_t hg)) ((show _=gv ((true&&((!v1.2.2.1)==true))&&((decide (v1.1<0))==false)) (vI v1.2.1) from (show _=gv ((true&&((!v1.2.2.1)==true))&&((decide (v1.1<0))==false)) (vI v1.2.1) from hk 24 rfl)).trans (gv_t hg)) rfl)),ob_guard (b:=(decide (v1.1<0))) (c:=(true&&((!v1.2.2.1)==true))) rfl rfl (by decide) (fun w' u hu=>hu) (fun a' w' hE hk hg=>by have HSd:=HS1.step hE;exact does_eq (r_bin ((show _=gv ((true&&((!v1.2.2.1)==true))&&((decide (v1.1<0))==false)) (vI v1.1) from (show _=gv ((true&&((!v1.2.2.1)==true))&&((decide (v1.1<0))==false)) (vI v1.1) from hk 15 rfl)).trans (gv_t hg)) ((show _=gv ((true&&((!v1.2.2.1)==true))&&((decide (v1.1<0))==false)) (vI (w64 ((p0_0.length:Int)-v1.2.1))) from (show _=gv ((true&&((!v1.2.2.1)==true))&&((decide (v1.1<0))==false)) (vI (w64 ((p0_0.length:Int)-v1.2.1))) from hk 25 rfl)).trans (gv_t hg)) rfl)),ob_guard (b:=(!v1.2.2.1)) (c:=true) rfl rfl (by decide) (fun w' u hu=>hu) (fun a' w' hE hk hg=>by have HSd:=HS1.step hE;exact does_eq (r_pick_or ((show _=gv (true&&((!v1.2.2.1)==true)) (vB (decide (v1.1<0))) from (show _=gv (true&&((!v1.2.2.1)==true)) (vB (decide (v1.1<0))) from hk 14 rfl)).trans (gv_t hg)) rfl (fun hp=>((show _=gv ((true&&((!v1.2.2.1)==true))&&((decide (v1.1<0))==false)) (vB (decide (v1.1>(w64 ((p0_0.length:Int)-v1.2.1))))) from (show _=gv ((true&&((!v1.2.2.1)==true))&&((decide (v1.1<0))==false)) (vB (decide (v1.1>(w64 ((p0_0.length:Int)-v1.2.1))))) from hk 26 rfl)).trans (gv_t (and_i hg hp)))))),ob_plain rfl (fun a' w' hE hk=>by have HSd:=HS1.step hE;exact does_eq (r_pick_and (show _=vB (!v1.2.2.1) from hk 11 rfl) (fun hp=>((show _=gv (true&&((!v1.2.2.1)==true)) (vB ((decide (v1.1<0))||(decide (v1.1>(w64 ((p0_0.length:Int)-v1.2.1)))))) from (show _=gv (true&&((!v1.2.2.1)==true)) (vB ((decide (v1.1<0))||(decide (v1.1>(w64 ((p0_0.length:Int)-v1.2.1)))))) from hk 27 rfl)).trans (gv_t (and_i rfl hp)))) rfl)),trivial⟩ ?_
 intro w2 hE1
 simp only [List.zip_cons_cons,List.zip_nil_left,List.zip_nil_right,finL,sc0,sc1,List.length_cons,List.length_nil,List.drop_succ_cons,List.drop_zero,Nat.zero_add,Nat.reduceAdd]
 have HS2:=HS1.step hE1
 refine run_nil<|norm_then ?_
 obtain ⟨xx1,H,G1⟩:=of_bind H
 refine cut_patch [29,30,31,32,33,34,35] (fun us w'=>Fit us (fun uj1=>[(uj1 0),(uj1 1),(uj1 2),(uj1 3),(uj1 4),(uj1 5),(uj1 6)])∧St [] h0 w0 h ((some bp0, .cells #[vL Ap0_0 p0_0.length cp0_0,vI v1.2.1,vB xx1.1,vI xx1.2] 138 (0,0))::rest) w') ?_ ?_
 ·refine wp_cond_split (t:=((!v1.2.2.1)&&((decide (v1.1<0))||(decide (v1.1>(w64 ((p0_0.length:Int)-v1.2.1))))))) rfl (fun c1=>?_) (fun c1=>?_)
  ·replace H:=of_pos H c1
   refine region<|rs (vP bp0 0) (r_move rfl)<|rs (vP bp0 0) (r_move rfl)<|rs (vP bp0 0) (r_nilCheck rfl)<|rs (vP bp0 1) (r_fieldBox (n:=1) (o':=1) rfl Tryd.runUnderlying138 rfl Tryd.sizeOf3 (by decide) rfl)<|run_frame (by simp only [sc0,sc1];rfl) ?_
   refine rs (vI v1.2.1) (r_loadBox rfl Tryd.isAgg3 (HS2.look 0 rfl) rfl)<|rs (vI (w64 (v1.2.1-1))) (r_bin rfl rfl rfl) ?_
   obtain ⟨v2,H2,H⟩:=of_bind H
   refine run_call (vs:=[vP bp0 0,vI (w64 (v1.2.1-1))]) (caps:=[]) Tryd.call79 rfl rfl (taplineref08_Reader_Refuse.calls p0_0 v1.2.1 v1.2.2.1 v1.2.2.2 (w64 (v1.2.1-1)) bp0 Ap0_0 cp0_0 HS2 hrp0_0 hcp0_0 H2) ?_
   rintro _ w3 ⟨rfl,HS3⟩
   refine ⟨_,rfl,?_⟩
   try simp only [sc0,sc1]
   refine run_nil ?_
   obtain rfl:=Option.some.inj H
   refine met_j rfl ⟨(fit rfl),HS3⟩
  ·replace H:=of_neg H (nt c1)
   refine wp_skip ?_
   obtain rfl:=Option.some.inj H
   refine met_j rfl ⟨(fit rfl),HS2⟩
 ·rintro us w4 ⟨huj1,HS4⟩
  obtain ⟨uj1,rfl⟩:=unj huj1
  replace H:=G1
  clear G1
  try simp only [patch,sc0,sc1]
  refine wp_seq<|wp_seq<|region<|rs (vP bp0 0) (r_move rfl)<|rs (vP bp0 0) (r_nilCheck rfl)<|rs (vP bp0 2) (r_fieldBox (n:=1) (o':=2) rfl Tryd.runUnderlying138 rfl Tryd.sizeOf4 (by decide) rfl)<|rs (vB xx1.1) (r_loadBox rfl Tryd.isAgg4 (HS4.look 0 rfl) rfl) ?_
  try simp only [sc0,sc1]
  refine run_nil<|norm_then<|wp_cond_split (t:=xx1.1) rfl (fun c2=>?_) (fun c2=>?_)
  ·replace H:=of_pos H c2
   refine wp_seq<|region<|rs (vI 0) (r_assign rfl) ?_
   try simp only [sc0,sc1]
   refine run_nil<|norm_then<|wp_ret<|ret_then ?_
   obtain rfl:=Option.some.inj H
   exact bodyPost_ret (results_1 rfl (one_tmp rfl)) rfl<|⟨rfl,HS4⟩
  ·replace H:=of_neg H (nt c2)
   refine wp_skip<|norm_then<|wp_seq<|region<|rs (vI v1.1) (r_move rfl)<|rs (vI v1.1) (r_assign rfl) ?_
   try simp only [sc0,sc1]
   refine run_nil<|norm_then<|wp_ret ?_
   obtain rfl:=Option.some.inj H
   exact bodyPost_ret (results_1 rfl (one_tmp rfl)) rfl<|⟨rfl,HS4⟩
def taplineref08_Reader_Text.f (k:Nat) (p0_0:List Int) (p0_1:Int) (p0_2:Bool) (p0_3:Int):Option (ByteArray×Int×Bool×Int):=(taplineref08_Reader_Len.f k p0_0 p0_1 p0_2 p0_3).bind fun v1=>(if v1.2.2.1=true then (some (ByteArray.empty,v1.2.1,v1.2.2.1,v1.2.2.2)) else (if 0≤(IntKind.wrap .i64 ((IntKind.wrap .i64 (v1.2.1+v1.1))-v1.1))∧(IntKind.wrap .i64 ((IntKind.wrap .i64 (v1.2.1+v1.1))-v1.1))≤(IntKind.wrap .i64 (v1.2.1+v1.1))∧(IntKind.wrap .i64 (v1.2.1+v1.1))≤(p0_0.length:Int) then (some ((strOf (List.drop (IntKind.wrap .i64 ((IntKind.wrap .i64 (v1.2.1+v1.1))-v1.1)).toNat (List.take (IntKind.wrap .i64 (v1.2.1+v1.1)).toNat p0_0))),(IntKind.wrap .i64 (v1.2.1+v1.1)),v1.2.2.1,v1.2.2.2)) else none))
theorem taplineref08_Reader_Text.calls (k:Nat) (p0_0:List Int) (p0_1:Int) (p0_2:Bool) (p0_3:Int) (bp0:Nat) (Ap0_0:Option Addr) (cp0_0:Nat) {h0:View} {w0:World} {h:View} {w:World} {rest:List Res} (HS:St [] h0 w0 h ((some bp0, .cells #[vL Ap0_0 p0_0.length cp0_0,vI p0_1,vB p0_2,vI p0_3] 138 (0,0))::rest) w) (hrp0_0:Rd (Kd.int .u8) h Ap0_0 p0_0) (hcp0_0:p0_0.length≤cp0_0) {r:ByteArray×Int×Bool×Int} (H:taplineref08_Reader_Text.f k p0_0 p0_1 p0_2 p0_3=some r):Calls Tryd.prog 82 #[vP bp0 0] w (fun e w1=>e= .returned (vS r.1)∧St [] h0 w0 h ((some bp0, .cells #[vL Ap0_0 p0_0.length cp0_0,vI r.2.1,vB r.2.2.1,vI r.2.2.2] 138 (0,0))::rest) w1):=by
 unfold taplineref08_Reader_Text.f at H
 have hsub:Sub h h:=Sub.rfl' h
 go_enter Tryd.func82,Tryd.ntmps82
 refine wp_seq<|region<|rs (vS ByteArray.empty) (r_assign rfl) ?_
 try simp only [sc0,sc1]
 refine run_nil<|norm_then<|wp_seq<|region<|rs (vP bp0 0) (r_move rfl) ?_
 obtain ⟨v1,H1,H⟩:=of_bind H
 refine run_call (vs:=[vP bp0 0]) (caps:=[]) Tryd.call80 rfl rfl (taplineref08_Reader_Len.calls k p0_0 p0_1 p0_2 p0_3 bp0 Ap0_0 cp0_0 HS hrp0_0 hcp0_0 H1) ?_
 rintro _ w1 ⟨rfl,HS1⟩
 refine ⟨_,rfl,?_⟩
 refine rs (vI v1.1) (r_assign rfl) ?_
 try simp only [sc0,sc1]
 refine run_nil<|norm_then<|wp_seq<|wp_seq<|region<|rs (vP bp0 0) (r_move rfl)<|rs (vP bp0 0) (r_nilCheck rfl)<|rs (vP bp0 2) (r_fieldBox (n:=1) (o':=2) rfl Tryd.runUnderlying138 rfl Tryd.sizeOf4 (by decide) rfl)<|rs (vB v1.2.2.1) (r_loadBox rfl Tryd.isAgg4 (HS1.look 0 rfl) rfl) ?_
 try simp only [sc0,sc1]
 refine run_nil<|norm_then<|wp_cond_split (t:=v1.2.2.1) rfl (fun c1=>?_) (fun c1=>?_)
 ·replace H:=of_pos H c1
  refine wp_seq<|region<|rs (vS ByteArray.empty) (r_assign rfl) ?_
  try simp only [sc0,sc1]
  refine run_nil<|norm_then<|wp_ret<|ret_then ?_
  obtain rfl:=Option.some.inj H
  exact bodyPost_ret (results_1 rfl (one_tmp rfl)) rfl<|⟨rfl,HS1⟩
 ·replace H:=of_neg H (nt c1)
  refine wp_skip<|norm_then<|wp_seq<|region<|rs (vP bp0 0) (r_move rfl)<|rs (vP bp0 0) (r_move rfl)<|rs (vP bp0 0) (r_nilCheck rfl)<|rs (vP bp0 1) (r_fieldBox (n:=1) (o':=1) rfl Tryd.runUnderlying138 rfl Tryd.sizeOf3 (by decide) rfl)<|run_frame (by simp only [sc0,sc1];rfl) ?_
  refine rs (vI v1.2.1) (r_loadBox rfl Tryd.isAgg3 (HS1.look 0 rfl) rfl)<|rs (vI v1.1) (r_move rfl)<|rs (vI (w64 (v1.2.1+v1.1))) (r_bin rfl rfl rfl)<|rs (vP bp0 0) (r_nilCheck rfl)<|run_frame (by simp only [sc0,sc1];rfl) ?_
  refine rs (vP bp0 1) (r_fieldBox (n:=1) (o':=1) rfl Tryd.runUnderlying138 rfl Tryd.sizeOf3 (by decide) rfl)<|run_st (i:=0) (cs:=[vL Ap0_0 p0_0.length cp0_0,vI v1.2.1,vB v1.2.2.1,vI v1.2.2.2]) (cs':=[vL Ap0_0 p0_0.length cp0_0,vI (w64 (v1.2.1+v1.1)),vB v1.2.2.1,vI v1.2.2.2]) (vs:=[vI (w64 (v1.2.1+v1.1))]) (bs':=((some bp0, .cells #[vL Ap0_0 p0_0.length cp0_0,vI (w64 (v1.2.1+v1.1)),vB v1.2.2.1,vI v1.2.2.2] 138 (0,0))::rest)) rfl rfl Tryd.sizeOf3 rfl rfl (by decide) rfl HS1 rfl (Nat.le_of_ble_eq_true rfl) rfl rfl ?_
  intro w2 HS2
  try simp only [sc0,sc1]
  refine run_nil<|norm_then<|wp_seq ?_
  obtain ⟨hk1,H⟩:=of_ite H
  obtain ⟨hp1_r,hp1_c⟩:=Rd.part2 hrp0_0 hcp0_0 hk1
  refine drawn [.eq (vP bp0 0), .eq (vP bp0 0), .eq (vP bp0 0), .eq (vL Ap0_0 p0_0.length cp0_0), .eq (vP bp0 0), .eq (vP bp0 0), .eq (vP bp0 1), .eq (vI (w64 (v1.2.1+v1.1))), .eq (vI v1.1), .eq (vI (w64 ((w64 (v1.2.1+v1.1))-v1.1))), .eq (vP bp0 0), .eq (vP bp0 0), .eq (vP bp0 1), .eq (vI (w64 (v1.2.1+v1.1))), .eq (vL (partA Ap0_0 cp0_0 (w64 ((w64 (v1.2.1+v1.1))-v1.1)).toNat 1) (List.drop (w64 ((w64 (v1.2.1+v1.1))-v1.1)).toNat (List.take (w64 (v1.2.1+v1.1)).toNat p0_0)).length (cp0_0-(w64 ((w64 (v1.2.1+v1.1))-v1.1)).toNat)), .eq (vS (strOf (List.drop (w64 ((w64 (v1.2.1+v1.1))-v1.1)).toNat (List.take (w64 (v1.2.1+v1.1)).toNat p0_0))))] [19,20,21,22,23,24,25,26,27,28,29,30,31,32,33,34] hmix (by kernel_rfl) rfl (stable_eq (stable_eq (stable_eq (stable_eq (stable_eq (stable_eq (stable_eq (stable_eq (stable_eq (stable_eq (stable_eq (stable_eq (stable_eq (stable_eq (stable_eq (stable_eq stable_nil)))))))))))))))) ⟨ob_plain rfl (fun a' w' hE hk=>by have HSd:=HS2.step hE;exact does_eq (r_move (show _=vP bp0 0 from hk 0 rfl))),ob_plain rfl (fun a' w' hE hk=>by have HSd:=HS2.step hE;exact does_eq (r_nilCheck (show _=vP bp0 0 from hk 19 rfl))),ob_plain rfl (fun a' w' hE hk=>by have HSd:=HS2.step hE;exact does_eq (r_fieldBox (n:=1) (o':=0) (show _=vP bp0 0 from hk 20 rfl) Tryd.runUnderlying138 rfl Tryd.sizeOf80 (by decide) rfl)),ob_plain rfl (fun a' w' hE hk=>by have HSd:=HS2.step hE;exact does_eq (r_loadBox (show _=vP bp0 0 from hk 21 rfl) Tryd.isAgg80 (HSd.look 0 rfl) rfl)),ob_plain rfl (fun a' w' hE hk=>by have HSd:=HS2.step hE;exact does_eq (r_move (show _=vP bp0 0 from hk 0 rfl))),ob_plain rfl (fun a' w' hE hk=>by have HSd:=HS2.step hE;exact does_eq (r_nilCheck (show _=vP bp0 0 from hk 23 rfl))),ob_plain rfl (fun a' w' hE hk=>by have HSd:=HS2.step hE;exact does_eq (r_fieldBox (n:=1) (o':=1) (show _=vP bp0 0 from hk 24 rfl) Tryd.runUnderlying138 rfl Tryd.sizeOf3 (by decide) rfl)),ob_plain rfl (fun a' w' hE hk=>by have HSd:=HS2.step hE;exact does_eq (r_loadBox (show _=vP bp0 1 from hk 25 rfl) Tryd.isAgg3 (HSd.look 0 rfl) rfl)),ob_plain rfl (fun a' w' hE hk=>by have HSd:=HS2.step hE;exact does_eq (r_move (show _=vI v1.1 from hk 3 rfl))),ob_plain rfl (fun a' w' hE hk=>by have HSd:=HS2.step hE;exact does_eq (r_bin (show _=vI (w64 (v1.2.1+v1.1)) from hk 26 rfl) (show _=vI v1.1 from hk 27 rfl) rfl)),ob_plain rfl (fun a' w' hE hk=>by have HSd:=HS2.step hE;exact does_eq (r_move (show _=vP bp0 0 from hk 0 rfl))),ob_plain rfl (fun a' w' hE hk=>by have HSd:=HS2.step hE;exact does_eq (r_nilCheck (show _=vP bp0 0 from hk 29 rfl))),ob_plain rfl (fun a' w' hE hk=>by have HSd:=HS2.step hE;exact does_eq (r_fieldBox (n:=1) (o':=1) (show _=vP bp0 0 from hk 30 rfl) Tryd.runUnderlying138 rfl Tryd.sizeOf3 (by decide) rfl)),ob_plain rfl (fun a' w' hE hk=>by have HSd:=HS2.step hE;exact does_eq (r_loadBox (show _=vP bp0 1 from hk 31 rfl) Tryd.isAgg3 (HSd.look 0 rfl) rfl)),ob_plain rfl (fun a' w' hE hk=>by have HSd:=HS2.step hE;exact does_eq (r_part2 (show _=vL Ap0_0 p0_0.length cp0_0 from hk 22 rfl) hcp0_0 Tryd.runUnderlying80 Tryd.sizeOf5 (show _=vI (w64 ((w64 (v1.2.1+v1.1))-v1.1)) from hk 28 rfl) (show _=vI (w64 (v1.2.1+v1.1)) from hk 32 rfl) hk1)),ob_plain rfl (fun a' w' hE hk=>by have HSd:=HS2.step hE;exact does_eq (r_b2s (show _=vL (partA Ap0_0 cp0_0 (w64 ((w64 (v1.2.1+v1.1))-v1.1)).toNat 1) (List.drop (w64 ((w64 (v1.2.1+v1.1))-v1.1)).toNat (List.take (w64 (v1.2.1+v1.1)).toNat p0_0)).length (cp0_0-(w64 ((w64 (v1.2.1+v1.1))-v1.1)).toNat) from hk 33 rfl) Tryd.runUnderlying80 Tryd.runUnderlying9 Tryd.runUnderlying5 HSd.sees hp1_r)),trivial⟩ ?_
  intro w3 hE1
  simp only [List.zip_cons_cons,List.zip_nil_left,List.zip_nil_right,finL,sc0,sc1,List.length_cons,List.length_nil,List.drop_succ_cons,List.drop_zero,Nat.zero_add,Nat.reduceAdd]
  have HS3:=HS2.step hE1
  refine rs (vS (strOf (List.drop (w64 ((w64 (v1.2.1+v1.1))-v1.1)).toNat (List.take (w64 (v1.2.1+v1.1)).toNat p0_0)))) (r_assign rfl) ?_
  try simp only [sc0,sc1]
  refine run_nil<|norm_then<|wp_ret ?_
  obtain rfl:=Option.some.inj H
  exact bodyPost_ret (results_1 rfl (one_tmp rfl)) rfl<|⟨rfl,HS3⟩
def taplineref08_Reader_Bool.f (p0_0:List Int) (p0_1:Int) (p0_2:Bool) (p0_3:Int):Option (Bool×Int×Bool×Int):=(taplineref08_Reader_Byte.f p0_0 p0_1 p0_2 p0_3).bind fun v1=>(((if ((!v1.2.2.1)&&(decide (v1.1>1)))=true then ((taplineref08_Reader_Refuse.f p0_0 v1.2.1 v1.2.2.1 v1.2.2.2 (IntKind.wrap .i64 (v1.2.1-1))).bind fun v2=>(some (v2.1,v2.2))) else (some (v1.2.2.1,v1.2.2.2))):Option (Bool×Int)).bind fun xx1=>(some ((v1.1==1),v1.2.1,xx1.1,xx1.2)))
theorem taplineref08_Reader_Bool.calls (p0_0:List Int) (p0_1:Int) (p0_2:Bool) (p0_3:Int) (bp0:Nat) (Ap0_0:Option Addr) (cp0_0:Nat) {h0:View} {w0:World} {h:View} {w:World} {rest:List Res} (HS:St [] h0 w0 h ((some bp0, .cells #[vL Ap0_0 p0_0.length cp0_0,vI p0_1,vB p0_2,vI p0_3] 138 (0,0))::rest) w) (hrp0_0:Rd (Kd.int .u8) h Ap0_0 p0_0) (hcp0_0:p0_0.length≤cp0_0) {r:Bool×Int×Bool×Int} (H:taplineref08_Reader_Bool.f p0_0 p0_1 p0_2 p0_3=some r):Calls Tryd.prog 83 #[vP bp0 0] w (fun e w1=>e= .returned (vB r.1)∧St [] h0 w0 h ((some bp0, .cells #[vL Ap0_0 p0_0.length cp0_0,vI r.2.1,vB r.2.2.1,vI r.2.2.2] 138 (0,0))::rest) w1):=by
 unfold taplineref08_Reader_Bool.f at H
 have hsub:Sub h h:=Sub.rfl' h
 go_enter Tryd.func83,Tryd.ntmps83
 refine wp_seq<|region<|rs (vB false) (r_assign rfl) ?_
 try simp only [sc0,sc1]
 refine run_nil<|norm_then<|wp_seq<|region<|rs (vP bp0 0) (r_move rfl) ?_
 obtain ⟨v1,H1,H⟩:=of_bind H
 refine run_call (vs:=[vP bp0 0]) (caps:=[]) Tryd.call78 rfl rfl (taplineref08_Reader_Byte.calls p0_0 p0_1 p0_2 p0_3 bp0 Ap0_0 cp0_0 HS hrp0_0 hcp0_0 H1) ?_
 rintro _ w1 ⟨rfl,HS1⟩
 refine ⟨_,rfl,?_⟩
 refine rs (Value.int .u8 v1.1) (r_assign rfl) ?_
 try simp only [sc0,sc1]
 refine run_nil<|norm_then<|wp_seq<|wp_seq<|region<|rs (vP bp0 0) (r_move rfl)<|rs (vP bp0 0) (r_nilCheck rfl)<|rs (vP bp0 2) (r_fieldBox (n:=1) (o':=2) rfl Tryd.runUnderlying138 rfl Tryd.sizeOf4 (by decide) rfl)<|rs (vB v1.2.2.1) (r_loadBox rfl Tryd.isAgg4 (HS1.look 0 rfl) rfl)<|run_frame (by simp only [sc0,sc1];rfl) ?_
 refine rs (vB (!v1.2.2.1)) (r_not rfl)<|rs (vB (!v1.2.2.1)) (r_move rfl)<|rgs (!v1.2.2.1) true (Value.int .u8 v1.1) rfl rfl rfl rfl (fun hg=>(r_move rfl))<|rgs (!v1.2.2.1) true (vB (decide (v1.1>1))) rfl rfl rfl rfl (fun hg=>(r_bin (gvt (Value.int .u8 v1.1) hg rfl) rfl rfl))<|run_frame (by simp only [sc0,sc1];rfl) ?_
 refine rs (vB ((!v1.2.2.1)&&(decide (v1.1>1)))) (r_pick_and rfl (fun hp=>(gvt (vB (decide (v1.1>1))) (and_i rfl hp) rfl)) rfl) ?_
 try simp only [sc0,sc1]
 refine run_nil<|norm_then ?_
 obtain ⟨xx1,H,G1⟩:=of_bind H
 refine cut_patch [15,16,17,18,19,20,21] (fun us w'=>Fit us (fun uj1=>[(uj1 0),(uj1 1),(uj1 2),(uj1 3),(uj1 4),(uj1 5),(uj1 6)])∧St [] h0 w0 h ((some bp0, .cells #[vL Ap0_0 p0_0.length cp0_0,vI v1.2.1,vB xx1.1,vI xx1.2] 138 (0,0))::rest) w') ?_ ?_
 ·refine wp_cond_split (t:=((!v1.2.2.1)&&(decide (v1.1>1)))) rfl (fun c1=>?_) (fun c1=>?_)
  ·replace H:=of_pos H c1
   refine region<|rs (vP bp0 0) (r_move rfl)<|rs (vP bp0 0) (r_move rfl)<|rs (vP bp0 0) (r_nilCheck rfl)<|rs (vP bp0 1) (r_fieldBox (n:=1) (o':=1) rfl Tryd.runUnderlying138 rfl Tryd.sizeOf3 (by decide) rfl)<|run_frame (by simp only [sc0,sc1];rfl) ?_
   refine rs (vI v1.2.1) (r_loadBox rfl Tryd.isAgg3 (HS1.look 0 rfl) rfl)<|rs (vI (w64 (v1.2.1-1))) (r_bin rfl rfl rfl) ?_
   obtain ⟨v2,H2,H⟩:=of_bind H
   refine run_call (vs:=[vP bp0 0,vI (w64 (v1.2.1-1))]) (caps:=[]) Tryd.call79 rfl rfl (taplineref08_Reader_Refuse.calls p0_0 v1.2.1 v1.2.2.1 v1.2.2.2 (w64 (v1.2.1-1)) bp0 Ap0_0 cp0_0 HS1 hrp0_0 hcp0_0 H2) ?_
   rintro _ w2 ⟨rfl,HS2⟩
   refine ⟨_,rfl,?_⟩
   try simp only [sc0,sc1]
   refine run_nil ?_
   obtain rfl:=Option.some.inj H
   refine met_j rfl ⟨(fit rfl),HS2⟩
  ·replace H:=of_neg H (nt c1)
   refine wp_skip ?_
   obtain rfl:=Option.some.inj H
   refine met_j rfl ⟨(fit rfl),HS1⟩
 ·rintro us w3 ⟨huj1,HS3⟩
  obtain ⟨uj1,rfl⟩:=unj huj1
  replace H:=G1
  clear G1
  try simp only [patch,sc0,sc1]
  refine wp_seq<|region<|rs (Value.int .u8 v1.1) (r_move rfl)<|rs (vB (v1.1==1)) (r_bin rfl rfl rfl)<|rs (vB (v1.1==1)) (r_assign rfl) ?_
  try simp only [sc0,sc1]
  refine run_nil<|norm_then<|wp_ret ?_
  obtain rfl:=Option.some.inj H
  exact bodyPost_ret (results_1 rfl (one_tmp rfl)) rfl<|⟨rfl,HS3⟩
def taplineref08_Decode.l0 (a0:List Int):Nat→Int→Int→Bool→Int→Option (Int×Bool×Int)
 |0,_,_,_,_=>none
 |m+1,y1_0,y1_1,y1_2,y1_3=>if (decide (y1_0<((4:Nat):Int)))=true then ((taplineref08_Reader_Byte.f a0 y1_1 y1_2 y1_3).bind fun v1=>(if (true&&((!v1.2.2.1)==true))=true→(0≤y1_0∧y1_0<([67,84,70,1]:List Int).length) then (if ((!v1.2.2.1)&&(v1.1 !=(rd 0 ([67,84,70,1]:List Int) y1_0)))=true then ((taplineref08_Reader_Refuse.f a0 v1.2.1 v1.2.2.1 v1.2.2.2 y1_0).bind fun v2=>(taplineref08_Decode.l0 a0 m (IntKind.wrap .i64 (y1_0+1)) v1.2.1 v2.1 v2.2)) else (taplineref08_Decode.l0 a0 m (IntKind.wrap .i64 (y1_0+1)) v1.2.1 v1.2.2.1 v1.2.2.2)) else none)) else (some (y1_1,y1_2,y1_3))
def taplineref08_Decode.l2 (k:Nat) (a0:List Int) (v10:Int×Int×Bool×Int):Nat→Int→Int→Bool→Int→(List api_Field)→Option (Int×Bool×Int×(List api_Field))
 |0,_,_,_,_,_=>none
 |m+1,y3_0,y3_1,y3_2,y3_3,y3_4=>if ((decide (y3_0<v10.1))&&(!y3_2))=true then ((taplineref08_Reader_Text.f k a0 y3_1 y3_2 y3_3).bind fun v11=>((taplineref08_Reader_Int.f k a0 v11.2.1 v11.2.2.1 v11.2.2.2).bind fun v12=>((taplineref08_Reader_Int.f k a0 v12.2.1 v12.2.2.1 v12.2.2.2).bind fun v13=>(if y3_4.length+1≤4294967296 then (taplineref08_Decode.l2 k a0 v10 m (IntKind.wrap .i64 (y3_0+1)) v13.2.1 v13.2.2.1 v13.2.2.2 (y3_4++([(⟨v11.1,v12.1,v13.1⟩:api_Field)]:List api_Field))) else none)))) else (some (y3_1,y3_2,y3_3,y3_4))
def taplineref08_Decode.l1 (k:Nat) (a0:List Int) (v3:Int×Int×Bool×Int):Nat→Int→Int→Bool→Int→(List api_Def)→Option (Int×Bool×Int×(List api_Def))
 |0,_,_,_,_,_=>none
 |m+1,y2_0,y2_1,y2_2,y2_3,y2_4=>if ((decide (y2_0<v3.1))&&(!y2_2))=true then ((taplineref08_Reader_Int.f k a0 y2_1 y2_2 y2_3).bind fun v4=>((taplineref08_Reader_Text.f k a0 v4.2.1 v4.2.2.1 v4.2.2.2).bind fun v5=>((taplineref08_Reader_Int.f k a0 v5.2.1 v5.2.2.1 v5.2.2.2).bind fun v6=>((taplineref08_Reader_Bool.f a0 v6.2.1 v6.2.2.1 v6.2.2.2).bind fun v7=>((taplineref08_Reader_Int.f k a0 v7.2.1 v7.2.2.1 v7.2.2.2).bind fun v8=>((taplineref08_Reader_Int.f k a0 v8.2.1 v8.2.2.1 v8.2.2.2).bind fun v9=>((taplineref08_Reader_Len.f k a0 v9.2.1 v9.2.2.1 v9.2.2.2).bind fun v10=>((taplineref08_Decode.l2 k a0 v10 k 0 v10.2.1 v10.2.2.1 v10.2.2.2 ([]:List api_Field)).bind fun xx3=>(if y2_4.length+1≤4294967296 then (taplineref08_Decode.l1 k a0 v3 m (IntKind.wrap .i64 (y2_0+1)) xx3.1 xx3.2.1 xx3.2.2.1 (y2_4++([(⟨v4.1,v5.1,(⟨v6.1,v7.1⟩:api_Int),v8.1,v9.1,xx3.2.2.2⟩:api_Def)]:List api_Def))) else none))))))))) else (some (y2_1,y2_2,y2_3,y2_4))
def taplineref08_Decode.f (k:Nat) (a0:List Int):Option (taplineref08_Read):=(taplineref08_Decode.l0 a0 k 0 0 false 0).bind fun xx1=>((taplineref08_Reader_Len.f k a0 xx1.1 xx1.2.1 xx1.2.2).bind fun v3=>((taplineref08_Decode.l1 k a0 v3 k 0 v3.2.1 v3.2.2.1 v3.2.2.2 ([]:List api_Def)).bind fun xx2=>(if (xx2.2.1||(xx2.1 !=(a0.length:Int)))=true then (some (⟨(⟨[]⟩:api_Types),81⟩:taplineref08_Read)) else ((taplineref08_Check.f k (⟨xx2.2.2.2⟩:api_Types)).bind fun v14=>(if (v14 !=0)=true then (some (⟨(⟨[]⟩:api_Types),v14⟩:taplineref08_Read)) else (some (⟨(⟨xx2.2.2.2⟩:api_Types),0⟩:taplineref08_Read)))))))
theorem taplineref08_Decode.calls (k:Nat) (a0:List Int) (A0_0:Option Addr) (c0_0:Nat) {h0:View} {w0:World} (hv:Sees h0 w0) (hr0_0:Rd (Kd.int .u8) h0 A0_0 a0) (hc0_0:a0.length≤c0_0) {r:taplineref08_Read} (H:taplineref08_Decode.f k a0=some r):Calls Tryd.prog 40 #[vL A0_0 a0.length c0_0] w0 (fun e w1=>∃(h1:View) (A0_0:Option Addr) (c0_0:Nat),e= .returned (Value.agg #[vL A0_0 r.vT.vDefs.length c0_0,vI r.vE])∧r.vT.vDefs.length≤c0_0∧Rd k_api_Def h1 A0_0 r.vT.vDefs∧Gr w0.heap.size h0 h1∧Sees h1 w1∧Ext w0 w1):=by
 unfold taplineref08_Decode.f at H
 have HS:St [] h0 w0 h0 [] w0:=St.init hv
 go_enter Tryd.func40,Tryd.ntmps40
 refine wp_seq<|region<|run_ex rfl rfl (does_alloc (cs:=#[vL none 0 0,vI 0]) Tryd.zeroValue89 rfl) ?_
 rintro w1 _ hE1 ⟨b1,rfl,ge1,hb1⟩
 have HS1:=HS.new hE1 ge1 hb1
 try simp only [sc0,sc1]
 refine run_nil<|norm_then<|wp_seq<|region<|rs (vL A0_0 a0.length c0_0) (r_move rfl)<|rs (Value.agg #[vL A0_0 a0.length c0_0,vI 0,vB false,vI 0]) (r_build (cs:=[vL A0_0 a0.length c0_0,vI 0,vB false,vI 0]) (ps:=[(0,vL A0_0 a0.length c0_0)]) Tryd.zeroValue138 Tryd.runUnderlying138 (pl:=#[(0,1),(1,1),(2,1),(3,1)]) (fun w=>by simp [Tryd.sizeOf3,Tryd.sizeOf4,Tryd.sizeOf80]) (parts_1 (show _=vL A0_0 a0.length c0_0 from rfl)) rfl) ?_
 refine run_ex rfl rfl (does_box (cs:=#[vL A0_0 a0.length c0_0,vI 0,vB false,vI 0]) rfl rfl) ?_
 rintro w2 _ hE2 ⟨b2,rfl,ge2,hb2⟩
 have HS2:=HS1.new hE2 ge2 hb2
 refine rs (vP b2 0) (r_assign rfl) ?_
 try simp only [sc0,sc1]
 refine run_nil<|norm_then<|wp_seq<|region<|run_bs (Kd.int .u8) (xs:=([67,84,70,1]:List Int)) (n:=4) (cs:=[Value.int .u8 67,Value.int .u8 84,Value.int .u8 70,Value.int .u8 1]) Tryd.runUnderlying80 Tryd.typeInfo5 Tryd.zeroValue5 rfl rfl (by decide) (by decide) (by decide) [Value.int .u8 67,Value.int .u8 84,Value.int .u8 70,Value.int .u8 1] (parts_any.trans rfl) rfl rfl rfl rfl (elems_cons (qs:=[Value.int .u8 67]) rfl (elems_cons (qs:=[Value.int .u8 84]) rfl (elems_cons (qs:=[Value.int .u8 70]) rfl (elems_cons (qs:=[Value.int .u8 1]) rfl (elems_nil (cs:=[])))))) HS2 ?_
 intro w3 b3 HS3 ho1
 refine rs (vL (rowA (some b3)) 4 4) (r_assign rfl) ?_
 try simp only [sc0,sc1]
 refine run_nil<|norm_then<|wp_seq<|wp_seq<|region<|rs (vI 0) (r_assign rfl) ?_
 try simp only [sc0,sc1]
 refine run_nil<|norm_then ?_
 obtain ⟨xx1,H,G1⟩:=of_bind H
 refine loop_j [5,6,19,20,21,22,23,24,25,26,27,28,29,30,31,32,33,34,35,36,37,38,39,40,41,42] (fun m us w'=>∃y1_0 y1_1:Int,∃y1_2:Bool,∃y1_3:Int,Fit us (fun uy1=>[vI y1_0,(uy1 1),(uy1 2),(uy1 3),(uy1 4),(uy1 5),(uy1 6),(uy1 7),(uy1 8),(uy1 9),(uy1 10),(uy1 11),(uy1 12),(uy1 13),(uy1 14),(uy1 15),(uy1 16),(uy1 17),(uy1 18),(uy1 19),(uy1 20),(uy1 21),(uy1 22),(uy1 23),(uy1 24),(uy1 25)])∧taplineref08_Decode.l0 a0 m y1_0 y1_1 y1_2 y1_3=some xx1∧St [] h0 w0 h0 [((some b3), .cells ([Value.int .u8 67,Value.int .u8 84,Value.int .u8 70,Value.int .u8 1]).toArray 5 (0,0)),(some b2, .cells #[vL A0_0 a0.length c0_0,vI y1_1,vB y1_2,vI y1_3] 138 (0,0)),(some b1, .cells #[vL none 0 0,vI 0] 89 (0,0))] w') (fun us w'=>Fit us (fun uo1=>[(uo1 0),(uo1 1),(uo1 2),(uo1 3),(uo1 4),(uo1 5),(uo1 6),(uo1 7),(uo1 8),(uo1 9),(uo1 10),(uo1 11),(uo1 12),(uo1 13),(uo1 14),(uo1 15),(uo1 16),(uo1 17),(uo1 18),(uo1 19),(uo1 20),(uo1 21),(uo1 22),(uo1 23),(uo1 24),(uo1 25)])∧St [] h0 w0 h0 [((some b3), .cells ([Value.int .u8 67,Value.int .u8 84,Value.int .u8 70,Value.int .u8 1]).toArray 5 (0,0)),(some b2, .cells #[vL A0_0 a0.length c0_0,vI xx1.1,vB xx1.2.1,vI xx1.2.2] 138 (0,0)),(some b1, .cells #[vL none 0 0,vI 0] 89 (0,0))] w') k ⟨0,0,false,0,(fit rfl),H,HS3⟩ ?_ ?_
 ·rintro m us w4 ⟨y1_0,y1_1,y1_2,y1_3,huy1,H,HS4⟩
  obtain ⟨uy1,rfl⟩:=unj huy1
  cases m with
  |zero=>exact absurd H (by simp [taplineref08_Decode.l0])
  |succ m=>
   rw [taplineref08_Decode.l0] at H
   try simp only [patch,sc0,sc1]
   refine wp_seq<|wp_seq<|region<|rs (vI y1_0) (r_move rfl)<|rs (vL (rowA (some b3)) 4 4) (r_move rfl)<|rs (vI ((4:Nat):Int)) (r_lenRow rfl Tryd.runUnderlying80)<|rs (vB (decide (y1_0<((4:Nat):Int)))) (r_bin rfl rfl rfl) ?_
   try simp only [sc0,sc1]
   refine run_nil<|norm_then<|wp_cond_split (t:=(decide (y1_0<((4:Nat):Int)))) rfl (fun c1=>?_) (fun c1=>?_)
   ·replace H:=of_pos H c1
    refine wp_skip<|norm_then<|wp_seq<|wp_block<|wp_seq<|region<|rs (vP b2 0) (r_move rfl) ?_
    obtain ⟨v1,H1,H⟩:=of_bind H
    have HS5:=HS4.f1
    refine run_call (vs:=[vP b2 0]) (caps:=[]) Tryd.call78 rfl rfl (taplineref08_Reader_Byte.calls a0 y1_1 y1_2 y1_3 b2 A0_0 c0_0 HS5 hr0_0 hc0_0 H1) ?_
    rintro _ w5 ⟨rfl,HS6⟩
    refine ⟨_,rfl,?_⟩
    have HS7:=HS6.f2
    have HS8:=HS7.f1
    have HS9:=HS8.f2
    refine rs (Value.int .u8 v1.1) (r_assign rfl) ?_
    try simp only [sc0,sc1]
    refine run_nil<|norm_then<|wp_seq<|region<|rs (vP b2 0) (r_move rfl)<|rs (vP b2 0) (r_nilCheck rfl)<|rs (vP b2 2) (r_fieldBox (n:=1) (o':=2) rfl Tryd.runUnderlying138 rfl Tryd.sizeOf4 (by decide) rfl)<|rs (vB v1.2.2.1) (r_loadBox rfl Tryd.isAgg4 (HS9.look 1 rfl) rfl)<|run_frame (by simp only [sc0,sc1];rfl) ?_
    refine rs (vB (!v1.2.2.1)) (r_not rfl)<|rs (vB (!v1.2.2.1)) (r_move rfl)<|rgs (!v1.2.2.1) true (Value.int .u8 v1.1) rfl rfl rfl rfl (fun hg=>(r_move rfl))<|rgs (!v1.2.2.1) true (vL (rowA (some b3)) 4 4) rfl rfl rfl rfl (fun hg=>(r_move rfl))<|run_frame (by simp only [sc0,sc1];rfl) ?_
    refine rgs (!v1.2.2.1) true (vI y1_0) rfl rfl rfl rfl (fun hg=>(r_move rfl)) ?_
    obtain ⟨hi1,H⟩:=of_ite H
    obtain ⟨hl1,hs2,se1,rdn1⟩:=row_lend HS9 (i:=0) rfl ho1
    obtain ⟨ad1,hq1⟩:=gx1 (fun hC:(true&&((!v1.2.2.1)==true))=true=>ld_int rdn1 (hi1 hC).1 (hi1 hC).2)
    refine rgs (!v1.2.2.1) true (Value.pointer (some (Addr.add ad1 (y1_0.toNat*1)))) rfl rfl rfl rfl (fun hg=>(r_indexA (sz:=1) (gvt (vL (rowA (some b3)) 4 4) hg rfl) (hq1 hg).1 (gvt (vI y1_0) hg rfl) (hi1 hg).1 (ho1.len▸(hi1 hg).2) Tryd.runUnderlying80 Tryd.sizeOf5))<|rgs (!v1.2.2.1) true (Value.int .u8 (rd 0 ([67,84,70,1]:List Int) y1_0)) rfl rfl rfl rfl (fun hg=>(r_load (gvt (Value.pointer (some (Addr.add ad1 (y1_0.toNat*1)))) hg rfl) Tryd.isAgg5 (((hq1 hg).2).cell0 se1 rfl)))<|rgs (!v1.2.2.1) true (vB (v1.1 !=(rd 0 ([67,84,70,1]:List Int) y1_0))) rfl rfl rfl rfl (fun hg=>(r_bin (gvt (Value.int .u8 v1.1) hg rfl) (gvt (Value.int .u8 (rd 0 ([67,84,70,1]:List Int) y1_0)) hg rfl) rfl))<|run_frame (by simp only [sc0,sc1];rfl) ?_
    refine rs (vB ((!v1.2.2.1)&&(v1.1 !=(rd 0 ([67,84,70,1]:List Int) y1_0)))) (r_pick_and rfl (fun hp=>(gvt (vB (v1.1 !=(rd 0 ([67,84,70,1]:List Int) y1_0))) (and_i rfl hp) rfl)) rfl) ?_
    try simp only [sc0,sc1]
    refine run_nil<|norm_then<|wp_cond_split (t:=((!v1.2.2.1)&&(v1.1 !=(rd 0 ([67,84,70,1]:List Int) y1_0)))) rfl (fun c2=>?_) (fun c2=>?_)
    ·replace H:=of_pos H c2
     refine region<|rs (vP b2 0) (r_move rfl)<|rs (vI y1_0) (r_move rfl) ?_
     obtain ⟨v2,H2,H⟩:=of_bind H
     have HS10:=HS9.f1
     refine run_call (vs:=[vP b2 0,vI y1_0]) (caps:=[]) Tryd.call79 rfl rfl (taplineref08_Reader_Refuse.calls a0 v1.2.1 v1.2.2.1 v1.2.2.2 y1_0 b2 A0_0 c0_0 HS10 hr0_0 hc0_0 H2) ?_
     rintro _ w6 ⟨rfl,HS11⟩
     refine ⟨_,rfl,?_⟩
     have HS12:=HS11.f2
     have HS13:=HS12.f1
     have HS14:=HS13.f2
     try simp only [sc0,sc1]
     refine run_nil<|norm_block<|norm_then<|region<|rs (vI y1_0) (r_move rfl)<|rs (vI (w64 (y1_0+1))) (r_bin rfl rfl rfl)<|rs (vI (w64 (y1_0+1))) (r_assign rfl) ?_
     try simp only [sc0,sc1]
     refine run_nil<|again_j m (Nat.lt_succ_self m) rfl ⟨(w64 (y1_0+1)),v1.2.1,v2.1,v2.2,(fit rfl),H,HS14⟩
    ·replace H:=of_neg H (nt c2)
     refine wp_skip<|norm_block<|norm_then<|region<|rs (vI y1_0) (r_move rfl)<|rs (vI (w64 (y1_0+1))) (r_bin rfl rfl rfl)<|rs (vI (w64 (y1_0+1))) (r_assign rfl) ?_
     try simp only [sc0,sc1]
     refine run_nil<|again_j m (Nat.lt_succ_self m) rfl ⟨(w64 (y1_0+1)),v1.2.1,v1.2.2.1,v1.2.2.2,(fit rfl),H,HS9⟩
   ·replace H:=of_neg H (nt c1)
    refine wp_exit<|exit_then ?_
    obtain rfl:=Option.some.inj H
    refine leave_j rfl ⟨(fit rfl),HS4⟩
 ·rintro us w7 ⟨huo1,HS15⟩
  obtain ⟨uo1,rfl⟩:=unj huo1
  replace H:=G1
  clear G1
  try simp only [patch,sc0,sc1]
  refine norm_then<|wp_seq<|region<|run_ex rfl rfl (does_alloc (cs:=#[vL none 0 0]) Tryd.zeroValue24 rfl) ?_
  rintro w8 _ hE3 ⟨b4,rfl,ge3,hb3⟩
  have HS16:=HS15.new hE3 ge3 hb3
  try simp only [sc0,sc1]
  refine run_nil<|norm_then<|wp_seq<|region<|rs (vP b2 0) (r_move rfl) ?_
  obtain ⟨v3,H3,H⟩:=of_bind H
  have HS17:=HS16.f2
  refine run_call (vs:=[vP b2 0]) (caps:=[]) Tryd.call80 rfl rfl (taplineref08_Reader_Len.calls k a0 xx1.1 xx1.2.1 xx1.2.2 b2 A0_0 c0_0 HS17 hr0_0 hc0_0 H3) ?_
  rintro _ w9 ⟨rfl,HS18⟩
  refine ⟨_,rfl,?_⟩
  have HS19:=HS18.f3
  have HS20:=HS19.f1
  have HS21:=HS20.f3
  have HS22:=HS21.f3
  refine rs (vI v3.1) (r_assign rfl) ?_
  try simp only [sc0,sc1]
  refine run_nil<|norm_then<|wp_seq<|wp_seq<|region<|rs (vI 0) (r_assign rfl) ?_
  try simp only [sc0,sc1]
  refine run_nil<|norm_then ?_
  have HS23:=HS22.nothing (.cells ([]:List Value).toArray 34 (0,0))
  obtain ⟨xx2,H,G2⟩:=of_bind H
  refine loop_j [9,10,11,12,13,45,46,47,48,49,50,51,52,53,54,55,56,57,58,59,60,61,62,63,64,65,66,67,68,69,70,71,72,73,74,75,76,77,78,79,80,81,82,83,84,85,86,87,88,89,90,91,92,93,94,95,96,97,98,99,100,101,102,103,104,105,106,107,108,109,110,111,112,113] (fun m us w'=>∃y2_0 y2_1:Int,∃y2_2:Bool,∃y2_3:Int,∃y2_4:List api_Def,∃h1:View,∃(oby2_4:Option Nat) (cy2_4:Nat),∃(csy2_4:List Value),Fit us (fun uy2=>[vI y2_0,(uy2 1),(uy2 2),(uy2 3),(uy2 4),(uy2 5),(uy2 6),(uy2 7),(uy2 8),(uy2 9),(uy2 10),(uy2 11),(uy2 12),(uy2 13),(uy2 14),(uy2 15),(uy2 16),(uy2 17),(uy2 18),(uy2 19),(uy2 20),(uy2 21),(uy2 22),(uy2 23),(uy2 24),(uy2 25),(uy2 26),(uy2 27),(uy2 28),(uy2 29),(uy2 30),(uy2 31),(uy2 32),(uy2 33),(uy2 34),(uy2 35),(uy2 36),(uy2 37),(uy2 38),(uy2 39),(uy2 40),(uy2 41),(uy2 42),(uy2 43),(uy2 44),(uy2 45),(uy2 46),(uy2 47),(uy2 48),(uy2 49),(uy2 50),(uy2 51),(uy2 52),(uy2 53),(uy2 54),(uy2 55),(uy2 56),(uy2 57),(uy2 58),(uy2 59),(uy2 60),(uy2 61),(uy2 62),(uy2 63),(uy2 64),(uy2 65),(uy2 66),(uy2 67),(uy2 68),(uy2 69),(uy2 70),(uy2 71),(uy2 72),(uy2 73)])∧taplineref08_Decode.l1 k a0 v3 m y2_0 y2_1 y2_2 y2_3 y2_4=some xx2∧RowOk k_api_Def h1 y2_4 oby2_4 y2_4.length cy2_4 csy2_4∧RowOk (Kd.int .u8) h1 ([67,84,70,1]:List Int) (some b3) 4 4 [Value.int .u8 67,Value.int .u8 84,Value.int .u8 70,Value.int .u8 1]∧St [] h0 w0 h1 [(oby2_4, .cells (csy2_4).toArray 34 (0,0)),(some b4, .cells #[vL (rowA oby2_4) y2_4.length cy2_4] 24 (0,0)),((some b3), .cells ([Value.int .u8 67,Value.int .u8 84,Value.int .u8 70,Value.int .u8 1]).toArray 5 (0,0)),(some b2, .cells #[vL A0_0 a0.length c0_0,vI y2_1,vB y2_2,vI y2_3] 138 (0,0)),(some b1, .cells #[vL none 0 0,vI 0] 89 (0,0))] w') (fun us w'=>∃(h3:View),∃(obo3_3:Option Nat) (co3_3:Nat),∃(cso3_3:List Value),Fit us (fun uo3=>[(uo3 0),(uo3 1),(uo3 2),(uo3 3),(uo3 4),(uo3 5),(uo3 6),(uo3 7),(uo3 8),(uo3 9),(uo3 10),(uo3 11),(uo3 12),(uo3 13),(uo3 14),(uo3 15),(uo3 16),(uo3 17),(uo3 18),(uo3 19),(uo3 20),(uo3 21),(uo3 22),(uo3 23),(uo3 24),(uo3 25),(uo3 26),(uo3 27),(uo3 28),(uo3 29),(uo3 30),(uo3 31),(uo3 32),(uo3 33),(uo3 34),(uo3 35),(uo3 36),(uo3 37),(uo3 38),(uo3 39),(uo3 40),(uo3 41),(uo3 42),(uo3 43),(uo3 44),(uo3 45),(uo3 46),(uo3 47),(uo3 48),(uo3 49),(uo3 50),(uo3 51),(uo3 52),(uo3 53),(uo3 54),(uo3 55),(uo3 56),(uo3 57),(uo3 58),(uo3 59),(uo3 60),(uo3 61),(uo3 62),(uo3 63),(uo3 64),(uo3 65),(uo3 66),(uo3 67),(uo3 68),(uo3 69),(uo3 70),(uo3 71),(uo3 72),(uo3 73)])∧RowOk k_api_Def h3 xx2.2.2.2 obo3_3 xx2.2.2.2.length co3_3 cso3_3∧RowOk (Kd.int .u8) h3 ([67,84,70,1]:List Int) (some b3) 4 4 [Value.int .u8 67,Value.int .u8 84,Value.int .u8 70,Value.int .u8 1]∧St [] h0 w0 h3 [(obo3_3, .cells (cso3_3).toArray 34 (0,0)),(some b4, .cells #[vL (rowA obo3_3) xx2.2.2.2.length co3_3] 24 (0,0)),((some b3), .cells ([Value.int .u8 67,Value.int .u8 84,Value.int .u8 70,Value.int .u8 1]).toArray 5 (0,0)),(some b2, .cells #[vL A0_0 a0.length c0_0,vI xx2.1,vB xx2.2.1,vI xx2.2.2.1] 138 (0,0)),(some b1, .cells #[vL none 0 0,vI 0] 89 (0,0))] w') k ⟨0,v3.2.1,v3.2.2.1,v3.2.2.2,([]:List api_Def),h0,none,0,([]:List Value),(fit rfl),H,(RowOk.none' k_api_Def _).norm,ho1,HS23⟩ ?_ ?_
  ·rintro m us w10 ⟨y2_0,y2_1,y2_2,y2_3,y2_4,h1,oby2_4,cy2_4,csy2_4,huy2,H,hoy2_4,ho1,HS24⟩
   obtain ⟨uy2,rfl⟩:=unj huy2
   cases m with
   |zero=>exact absurd H (by simp [taplineref08_Decode.l1])
   |succ m=>
    rw [taplineref08_Decode.l1] at H
    try simp only [patch,sc0,sc1]
    refine wp_seq<|wp_seq<|region<|rs (vI y2_0) (r_move rfl)<|rs (vI v3.1) (r_move rfl)<|rs (vB (decide (y2_0<v3.1))) (r_bin rfl rfl rfl)<|rs (vB (decide (y2_0<v3.1))) (r_move rfl)<|run_frame (by simp only [sc0,sc1];rfl) ?_
    refine rgs (decide (y2_0<v3.1)) true (vP b2 0) rfl rfl rfl rfl (fun hg=>(r_move rfl))<|rgs (decide (y2_0<v3.1)) true (vP b2 0) rfl rfl rfl rfl (fun hg=>(r_nilCheck (gvt (vP b2 0) hg rfl)))<|rgs (decide (y2_0<v3.1)) true (vP b2 2) rfl rfl rfl rfl (fun hg=>(r_fieldBox (n:=1) (o':=2) (gvt (vP b2 0) hg rfl) Tryd.runUnderlying138 rfl Tryd.sizeOf4 (by decide) rfl))<|rgs (decide (y2_0<v3.1)) true (vB y2_2) rfl rfl rfl rfl (fun hg=>(r_loadBox (gvt (vP b2 2) hg rfl) Tryd.isAgg4 (HS24.look 3 rfl) rfl))<|run_frame (by simp only [sc0,sc1];rfl) ?_
    refine rgs (decide (y2_0<v3.1)) true (vB (!y2_2)) rfl rfl rfl rfl (fun hg=>(r_not (gvt (vB y2_2) hg rfl)))<|rs (vB ((decide (y2_0<v3.1))&&(!y2_2))) (r_pick_and rfl (fun hp=>(gvt (vB (!y2_2)) (and_i rfl hp) rfl)) rfl) ?_
    try simp only [sc0,sc1]
    refine run_nil<|norm_then<|wp_cond_split (t:=((decide (y2_0<v3.1))&&(!y2_2))) rfl (fun c3=>?_) (fun c3=>?_)
    ·replace H:=of_pos H c3
     refine wp_skip<|norm_then<|wp_seq<|wp_block<|wp_seq<|region<|rs (Value.agg #[vI 0,vS ByteArray.empty,vI 0,vB false,vI 0,vI 0,vL none 0 0]) (r_build0 (cs:=[vI 0,vS ByteArray.empty,vI 0,vB false,vI 0,vI 0,vL none 0 0]) Tryd.zeroValue34 Tryd.runUnderlying34 (pl:=#[(0,1),(1,1),(2,2),(4,1),(5,1),(6,1)]) (fun w=>by simp [Tryd.sizeOf3,Tryd.sizeOf31,Tryd.sizeOf32,Tryd.sizeOf9]) rfl) ?_
     refine run_ex rfl rfl (does_alloc (cs:=#[vI 0,vS ByteArray.empty,vI 0,vB false,vI 0,vI 0,vL none 0 0]) Tryd.zeroValue34 rfl) ?_
     rintro w11 _ hE4 ⟨b5,rfl,ge4,hb4⟩
     have HS25:=HS24.new hE4 ge4 hb4
     refine run_st (i:=0) (cs:=[vI 0,vS ByteArray.empty,vI 0,vB false,vI 0,vI 0,vL none 0 0]) (cs':=[vI 0,vS ByteArray.empty,vI 0,vB false,vI 0,vI 0,vL none 0 0]) (vs:=[vI 0,vS ByteArray.empty,vI 0,vB false,vI 0,vI 0,vL none 0 0]) (bs':=[(some b5, .cells #[vI 0,vS ByteArray.empty,vI 0,vB false,vI 0,vI 0,vL none 0 0] 34 (0,0)),(oby2_4, .cells (csy2_4).toArray 34 (0,0)),(some b4, .cells #[vL (rowA oby2_4) y2_4.length cy2_4] 24 (0,0)),((some b3), .cells ([Value.int .u8 67,Value.int .u8 84,Value.int .u8 70,Value.int .u8 1]).toArray 5 (0,0)),(some b2, .cells #[vL A0_0 a0.length c0_0,vI y2_1,vB y2_2,vI y2_3] 138 (0,0)),(some b1, .cells #[vL none 0 0,vI 0] 89 (0,0))]) rfl rfl Tryd.sizeOf34 rfl rfl (by decide) rfl HS25 rfl (Nat.le_of_ble_eq_true rfl) rfl rfl ?_
     intro w12 HS26
     try simp only [sc0,sc1]
     refine run_nil<|norm_then<|wp_seq<|region<|rs (vP b2 0) (r_move rfl) ?_
     obtain ⟨v4,H4,H⟩:=of_bind H
     have HS27:=HS26.f4
     refine run_call (vs:=[vP b2 0]) (caps:=[]) Tryd.call81 rfl rfl (taplineref08_Reader_Int.calls k a0 y2_1 y2_2 y2_3 b2 A0_0 c0_0 HS27 (hr0_0.ext HS27.sub) hc0_0 H4) ?_
     rintro _ w13 ⟨rfl,HS28⟩
     refine ⟨_,rfl,?_⟩
     have HS29:=HS28.f5
     have HS30:=HS29.f1
     have HS31:=HS30.f5
     have HS32:=HS31.f5
     have HS33:=HS32.f5
     have HS34:=HS33.f5
     refine rs (vP b5 0) (r_fieldBox (n:=1) (o':=0) rfl Tryd.runUnderlying34 rfl Tryd.sizeOf3 (by decide) rfl)<|run_st (i:=0) (cs:=[vI 0,vS ByteArray.empty,vI 0,vB false,vI 0,vI 0,vL none 0 0]) (cs':=[vI v4.1,vS ByteArray.empty,vI 0,vB false,vI 0,vI 0,vL none 0 0]) (vs:=[vI v4.1]) (bs':=[(some b5, .cells #[vI v4.1,vS ByteArray.empty,vI 0,vB false,vI 0,vI 0,vL none 0 0] 34 (0,0)),(oby2_4, .cells (csy2_4).toArray 34 (0,0)),(some b4, .cells #[vL (rowA oby2_4) y2_4.length cy2_4] 24 (0,0)),((some b3), .cells ([Value.int .u8 67,Value.int .u8 84,Value.int .u8 70,Value.int .u8 1]).toArray 5 (0,0)),(some b2, .cells #[vL A0_0 a0.length c0_0,vI v4.2.1,vB v4.2.2.1,vI v4.2.2.2] 138 (0,0)),(some b1, .cells #[vL none 0 0,vI 0] 89 (0,0))]) rfl rfl Tryd.sizeOf3 rfl rfl (by decide) rfl HS34 rfl (Nat.le_of_ble_eq_true rfl) rfl rfl ?_
     intro w14 HS35
     try simp only [sc0,sc1]
     refine run_nil<|norm_then<|wp_seq<|region<|rs (vP b2 0) (r_move rfl) ?_
     obtain ⟨v5,H5,H⟩:=of_bind H
     have HS36:=HS35.f4
     refine run_call (vs:=[vP b2 0]) (caps:=[]) Tryd.call82 rfl rfl (taplineref08_Reader_Text.calls k a0 v4.2.1 v4.2.2.1 v4.2.2.2 b2 A0_0 c0_0 HS36 (hr0_0.ext HS36.sub) hc0_0 H5) ?_
     rintro _ w15 ⟨rfl,HS37⟩
     refine ⟨_,rfl,?_⟩
     have HS38:=HS37.f5
     have HS39:=HS38.f1
     have HS40:=HS39.f5
     have HS41:=HS40.f5
     have HS42:=HS41.f5
     have HS43:=HS42.f5
     refine rs (vP b5 1) (r_fieldBox (n:=1) (o':=1) rfl Tryd.runUnderlying34 rfl Tryd.sizeOf9 (by decide) rfl)<|run_st (i:=0) (cs:=[vI v4.1,vS ByteArray.empty,vI 0,vB false,vI 0,vI 0,vL none 0 0]) (cs':=[vI v4.1,vS v5.1,vI 0,vB false,vI 0,vI 0,vL none 0 0]) (vs:=[vS v5.1]) (bs':=[(some b5, .cells #[vI v4.1,vS v5.1,vI 0,vB false,vI 0,vI 0,vL none 0 0] 34 (0,0)),(oby2_4, .cells (csy2_4).toArray 34 (0,0)),(some b4, .cells #[vL (rowA oby2_4) y2_4.length cy2_4] 24 (0,0)),((some b3), .cells ([Value.int .u8 67,Value.int .u8 84,Value.int .u8 70,Value.int .u8 1]).toArray 5 (0,0)),(some b2, .cells #[vL A0_0 a0.length c0_0,vI v5.2.1,vB v5.2.2.1,vI v5.2.2.2] 138 (0,0)),(some b1, .cells #[vL none 0 0,vI 0] 89 (0,0))]) rfl rfl Tryd.sizeOf9 rfl rfl (by decide) rfl HS43 rfl (Nat.le_of_ble_eq_true rfl) rfl rfl ?_
     intro w16 HS44
     try simp only [sc0,sc1]
     refine run_nil<|norm_then<|wp_seq<|region<|rs (vP b2 0) (r_move rfl) ?_
     obtain ⟨v6,H6,H⟩:=of_bind H
     have HS45:=HS44.f4
     refine run_call (vs:=[vP b2 0]) (caps:=[]) Tryd.call81 rfl rfl (taplineref08_Reader_Int.calls k a0 v5.2.1 v5.2.2.1 v5.2.2.2 b2 A0_0 c0_0 HS45 (hr0_0.ext HS45.sub) hc0_0 H6) ?_
     rintro _ w17 ⟨rfl,HS46⟩
     refine ⟨_,rfl,?_⟩
     have HS47:=HS46.f5
     have HS48:=HS47.f1
     have HS49:=HS48.f5
     have HS50:=HS49.f5
     have HS51:=HS50.f5
     have HS52:=HS51.f5
     refine rs (vP b5 2) (r_fieldBox (n:=2) (o':=2) rfl Tryd.runUnderlying34 rfl Tryd.sizeOf31 (by decide) rfl)<|rs (vP b5 2) (r_fieldBox (n:=1) (o':=2) rfl Tryd.runUnderlying31 rfl Tryd.sizeOf3 (by decide) rfl)<|run_frame (by simp only [sc0,sc1];rfl) ?_
     refine run_st (i:=0) (cs:=[vI v4.1,vS v5.1,vI 0,vB false,vI 0,vI 0,vL none 0 0]) (cs':=[vI v4.1,vS v5.1,vI v6.1,vB false,vI 0,vI 0,vL none 0 0]) (vs:=[vI v6.1]) (bs':=[(some b5, .cells #[vI v4.1,vS v5.1,vI v6.1,vB false,vI 0,vI 0,vL none 0 0] 34 (0,0)),(oby2_4, .cells (csy2_4).toArray 34 (0,0)),(some b4, .cells #[vL (rowA oby2_4) y2_4.length cy2_4] 24 (0,0)),((some b3), .cells ([Value.int .u8 67,Value.int .u8 84,Value.int .u8 70,Value.int .u8 1]).toArray 5 (0,0)),(some b2, .cells #[vL A0_0 a0.length c0_0,vI v6.2.1,vB v6.2.2.1,vI v6.2.2.2] 138 (0,0)),(some b1, .cells #[vL none 0 0,vI 0] 89 (0,0))]) rfl rfl Tryd.sizeOf3 rfl rfl (by decide) rfl HS52 rfl (Nat.le_of_ble_eq_true rfl) rfl rfl ?_
     intro w18 HS53
     try simp only [sc0,sc1]
     refine run_nil<|norm_then<|wp_seq<|region<|rs (vP b2 0) (r_move rfl) ?_
     obtain ⟨v7,H7,H⟩:=of_bind H
     have HS54:=HS53.f4
     refine run_call (vs:=[vP b2 0]) (caps:=[]) Tryd.call83 rfl rfl (taplineref08_Reader_Bool.calls a0 v6.2.1 v6.2.2.1 v6.2.2.2 b2 A0_0 c0_0 HS54 (hr0_0.ext HS54.sub) hc0_0 H7) ?_
     rintro _ w19 ⟨rfl,HS55⟩
     refine ⟨_,rfl,?_⟩
     have HS56:=HS55.f5
     have HS57:=HS56.f1
     have HS58:=HS57.f5
     have HS59:=HS58.f5
     have HS60:=HS59.f5
     have HS61:=HS60.f5
     refine rs (vP b5 2) (r_fieldBox (n:=2) (o':=2) rfl Tryd.runUnderlying34 rfl Tryd.sizeOf31 (by decide) rfl)<|rs (vP b5 3) (r_fieldBox (n:=1) (o':=3) rfl Tryd.runUnderlying31 rfl Tryd.sizeOf4 (by decide) rfl)<|run_frame (by simp only [sc0,sc1];rfl) ?_
     refine run_st (i:=0) (cs:=[vI v4.1,vS v5.1,vI v6.1,vB false,vI 0,vI 0,vL none 0 0]) (cs':=[vI v4.1,vS v5.1,vI v6.1,vB v7.1,vI 0,vI 0,vL none 0 0]) (vs:=[vB v7.1]) (bs':=[(some b5, .cells #[vI v4.1,vS v5.1,vI v6.1,vB v7.1,vI 0,vI 0,vL none 0 0] 34 (0,0)),(oby2_4, .cells (csy2_4).toArray 34 (0,0)),(some b4, .cells #[vL (rowA oby2_4) y2_4.length cy2_4] 24 (0,0)),((some b3), .cells ([Value.int .u8 67,Value.int .u8 84,Value.int .u8 70,Value.int .u8 1]).toArray 5 (0,0)),(some b2, .cells #[vL A0_0 a0.length c0_0,vI v7.2.1,vB v7.2.2.1,vI v7.2.2.2] 138 (0,0)),(some b1, .cells #[vL none 0 0,vI 0] 89 (0,0))]) rfl rfl Tryd.sizeOf4 rfl rfl (by decide) rfl HS61 rfl (Nat.le_of_ble_eq_true rfl) rfl rfl ?_
     intro w20 HS62
     try simp only [sc0,sc1]
     refine run_nil<|norm_then<|wp_seq<|region<|rs (vP b2 0) (r_move rfl) ?_
     obtain ⟨v8,H8,H⟩:=of_bind H
     have HS63:=HS62.f4
     refine run_call (vs:=[vP b2 0]) (caps:=[]) Tryd.call81 rfl rfl (taplineref08_Reader_Int.calls k a0 v7.2.1 v7.2.2.1 v7.2.2.2 b2 A0_0 c0_0 HS63 (hr0_0.ext HS63.sub) hc0_0 H8) ?_
     rintro _ w21 ⟨rfl,HS64⟩
     refine ⟨_,rfl,?_⟩
     have HS65:=HS64.f5
     have HS66:=HS65.f1
     have HS67:=HS66.f5
     have HS68:=HS67.f5
     have HS69:=HS68.f5
     have HS70:=HS69.f5
     refine rs (vP b5 4) (r_fieldBox (n:=1) (o':=4) rfl Tryd.runUnderlying34 rfl Tryd.sizeOf3 (by decide) rfl)<|run_st (i:=0) (cs:=[vI v4.1,vS v5.1,vI v6.1,vB v7.1,vI 0,vI 0,vL none 0 0]) (cs':=[vI v4.1,vS v5.1,vI v6.1,vB v7.1,vI v8.1,vI 0,vL none 0 0]) (vs:=[vI v8.1]) (bs':=[(some b5, .cells #[vI v4.1,vS v5.1,vI v6.1,vB v7.1,vI v8.1,vI 0,vL none 0 0] 34 (0,0)),(oby2_4, .cells (csy2_4).toArray 34 (0,0)),(some b4, .cells #[vL (rowA oby2_4) y2_4.length cy2_4] 24 (0,0)),((some b3), .cells ([Value.int .u8 67,Value.int .u8 84,Value.int .u8 70,Value.int .u8 1]).toArray 5 (0,0)),(some b2, .cells #[vL A0_0 a0.length c0_0,vI v8.2.1,vB v8.2.2.1,vI v8.2.2.2] 138 (0,0)),(some b1, .cells #[vL none 0 0,vI 0] 89 (0,0))]) rfl rfl Tryd.sizeOf3 rfl rfl (by decide) rfl HS70 rfl (Nat.le_of_ble_eq_true rfl) rfl rfl ?_
     intro w22 HS71
     try simp only [sc0,sc1]
     refine run_nil<|norm_then<|wp_seq<|region<|rs (vP b2 0) (r_move rfl) ?_
     obtain ⟨v9,H9,H⟩:=of_bind H
     have HS72:=HS71.f4
     refine run_call (vs:=[vP b2 0]) (caps:=[]) Tryd.call81 rfl rfl (taplineref08_Reader_Int.calls k a0 v8.2.1 v8.2.2.1 v8.2.2.2 b2 A0_0 c0_0 HS72 (hr0_0.ext HS72.sub) hc0_0 H9) ?_
     rintro _ w23 ⟨rfl,HS73⟩
     refine ⟨_,rfl,?_⟩
     have HS74:=HS73.f5
     have HS75:=HS74.f1
     have HS76:=HS75.f5
     have HS77:=HS76.f5
     have HS78:=HS77.f5
     have HS79:=HS78.f5
     refine rs (vP b5 5) (r_fieldBox (n:=1) (o':=5) rfl Tryd.runUnderlying34 rfl Tryd.sizeOf3 (by decide) rfl)<|run_st (i:=0) (cs:=[vI v4.1,vS v5.1,vI v6.1,vB v7.1,vI v8.1,vI 0,vL none 0 0]) (cs':=[vI v4.1,vS v5.1,vI v6.1,vB v7.1,vI v8.1,vI v9.1,vL none 0 0]) (vs:=[vI v9.1]) (bs':=[(some b5, .cells #[vI v4.1,vS v5.1,vI v6.1,vB v7.1,vI v8.1,vI v9.1,vL none 0 0] 34 (0,0)),(oby2_4, .cells (csy2_4).toArray 34 (0,0)),(some b4, .cells #[vL (rowA oby2_4) y2_4.length cy2_4] 24 (0,0)),((some b3), .cells ([Value.int .u8 67,Value.int .u8 84,Value.int .u8 70,Value.int .u8 1]).toArray 5 (0,0)),(some b2, .cells #[vL A0_0 a0.length c0_0,vI v9.2.1,vB v9.2.2.1,vI v9.2.2.2] 138 (0,0)),(some b1, .cells #[vL none 0 0,vI 0] 89 (0,0))]) rfl rfl Tryd.sizeOf3 rfl rfl (by decide) rfl HS79 rfl (Nat.le_of_ble_eq_true rfl) rfl rfl ?_
     intro w24 HS80
     try simp only [sc0,sc1]
     refine run_nil<|norm_then<|wp_seq<|region<|rs (vP b2 0) (r_move rfl) ?_
     obtain ⟨v10,H10,H⟩:=of_bind H
     have HS81:=HS80.f4
     refine run_call (vs:=[vP b2 0]) (caps:=[]) Tryd.call80 rfl rfl (taplineref08_Reader_Len.calls k a0 v9.2.1 v9.2.2.1 v9.2.2.2 b2 A0_0 c0_0 HS81 (hr0_0.ext HS81.sub) hc0_0 H10) ?_
     rintro _ w25 ⟨rfl,HS82⟩
     refine ⟨_,rfl,?_⟩
     have HS83:=HS82.f5
     have HS84:=HS83.f1
     have HS85:=HS84.f5
     have HS86:=HS85.f5
     have HS87:=HS86.f5
     have HS88:=HS87.f5
     refine rs (vI v10.1) (r_assign rfl) ?_
     try simp only [sc0,sc1]
     refine run_nil<|norm_then<|wp_seq<|wp_seq<|region<|rs (vI 0) (r_assign rfl) ?_
     try simp only [sc0,sc1]
     refine run_nil<|norm_then ?_
     have HS89:=HS88.nothing (.cells ([]:List Value).toArray 36 (0,0))
     obtain ⟨xx3,H,G3⟩:=of_bind H
     refine loop_j [12,13,80,81,82,83,84,85,86,87,88,89,90,91,92,93,94,95,96,97,98,99,100,101,102,103,104,105,106,107] (fun m us w'=>∃y3_0 y3_1:Int,∃y3_2:Bool,∃y3_3:Int,∃y3_4:List api_Field,∃(oby3_4:Option Nat) (cy3_4:Nat),∃(csy3_4:List Value),Fit us (fun uy3=>[vI y3_0,(uy3 1),(uy3 2),(uy3 3),(uy3 4),(uy3 5),(uy3 6),(uy3 7),(uy3 8),(uy3 9),(uy3 10),(uy3 11),(uy3 12),(uy3 13),(uy3 14),(uy3 15),(uy3 16),(uy3 17),(uy3 18),(uy3 19),(uy3 20),(uy3 21),(uy3 22),(uy3 23),(uy3 24),(uy3 25),(uy3 26),(uy3 27),(uy3 28),(uy3 29)])∧taplineref08_Decode.l2 k a0 v10 m y3_0 y3_1 y3_2 y3_3 y3_4=some xx3∧RowOk k_api_Field h1 y3_4 oby3_4 y3_4.length cy3_4 csy3_4∧St [] h0 w0 h1 [(oby3_4, .cells (csy3_4).toArray 36 (0,0)),(some b5, .cells #[vI v4.1,vS v5.1,vI v6.1,vB v7.1,vI v8.1,vI v9.1,vL (rowA oby3_4) y3_4.length cy3_4] 34 (0,0)),(oby2_4, .cells (csy2_4).toArray 34 (0,0)),(some b4, .cells #[vL (rowA oby2_4) y2_4.length cy2_4] 24 (0,0)),((some b3), .cells ([Value.int .u8 67,Value.int .u8 84,Value.int .u8 70,Value.int .u8 1]).toArray 5 (0,0)),(some b2, .cells #[vL A0_0 a0.length c0_0,vI y3_1,vB y3_2,vI y3_3] 138 (0,0)),(some b1, .cells #[vL none 0 0,vI 0] 89 (0,0))] w') (fun us w'=>∃(obo2_3:Option Nat) (co2_3:Nat),∃(cso2_3:List Value),Fit us (fun uo2=>[(uo2 0),(uo2 1),(uo2 2),(uo2 3),(uo2 4),(uo2 5),(uo2 6),(uo2 7),(uo2 8),(uo2 9),(uo2 10),(uo2 11),(uo2 12),(uo2 13),(uo2 14),(uo2 15),(uo2 16),(uo2 17),(uo2 18),(uo2 19),(uo2 20),(uo2 21),(uo2 22),(uo2 23),(uo2 24),(uo2 25),(uo2 26),(uo2 27),(uo2 28),(uo2 29)])∧RowOk k_api_Field h1 xx3.2.2.2 obo2_3 xx3.2.2.2.length co2_3 cso2_3∧St [] h0 w0 h1 [(obo2_3, .cells (cso2_3).toArray 36 (0,0)),(some b5, .cells #[vI v4.1,vS v5.1,vI v6.1,vB v7.1,vI v8.1,vI v9.1,vL (rowA obo2_3) xx3.2.2.2.length co2_3] 34 (0,0)),(oby2_4, .cells (csy2_4).toArray 34 (0,0)),(some b4, .cells #[vL (rowA oby2_4) y2_4.length cy2_4] 24 (0,0)),((some b3), .cells ([Value.int .u8 67,Value.int .u8 84,Value.int .u8 70,Value.int .u8 1]).toArray 5 (0,0)),(some b2, .cells #[vL A0_0 a0.length c0_0,vI xx3.1,vB xx3.2.1,vI xx3.2.2.1] 138 (0,0)),(some b1, .cells #[vL none 0 0,vI 0] 89 (0,0))] w') k ⟨0,v10.2.1,v10.2.2.1,v10.2.2.2,([]:List api_Field),none,0,([]:List Value),(fit rfl),H,(RowOk.none' k_api_Field _).norm,HS89⟩ ?_ ?_
     ·rintro m us w26 ⟨y3_0,y3_1,y3_2,y3_3,y3_4,oby3_4,cy3_4,csy3_4,huy3,H,hoy3_4,HS90⟩
      obtain ⟨uy3,rfl⟩:=unj huy3
      cases m with
      |zero=>exact absurd H (by simp [taplineref08_Decode.l2])
      |succ m=>
       rw [taplineref08_Decode.l2] at H
       try simp only [patch,sc0,sc1]
       refine wp_seq<|wp_seq<|region<|rs (vI y3_0) (r_move rfl)<|rs (vI v10.1) (r_move rfl)<|rs (vB (decide (y3_0<v10.1))) (r_bin rfl rfl rfl)<|rs (vB (decide (y3_0<v10.1))) (r_move rfl)<|run_frame (by simp only [sc0,sc1];rfl) ?_
       refine rgs (decide (y3_0<v10.1)) true (vP b2 0) rfl rfl rfl rfl (fun hg=>(r_move rfl))<|rgs (decide (y3_0<v10.1)) true (vP b2 0) rfl rfl rfl rfl (fun hg=>(r_nilCheck (gvt (vP b2 0) hg rfl)))<|rgs (decide (y3_0<v10.1)) true (vP b2 2) rfl rfl rfl rfl (fun hg=>(r_fieldBox (n:=1) (o':=2) (gvt (vP b2 0) hg rfl) Tryd.runUnderlying138 rfl Tryd.sizeOf4 (by decide) rfl))<|rgs (decide (y3_0<v10.1)) true (vB y3_2) rfl rfl rfl rfl (fun hg=>(r_loadBox (gvt (vP b2 2) hg rfl) Tryd.isAgg4 (HS90.look 5 rfl) rfl))<|run_frame (by simp only [sc0,sc1];rfl) ?_
       refine rgs (decide (y3_0<v10.1)) true (vB (!y3_2)) rfl rfl rfl rfl (fun hg=>(r_not (gvt (vB y3_2) hg rfl)))<|rs (vB ((decide (y3_0<v10.1))&&(!y3_2))) (r_pick_and rfl (fun hp=>(gvt (vB (!y3_2)) (and_i rfl hp) rfl)) rfl) ?_
       try simp only [sc0,sc1]
       refine run_nil<|norm_then<|wp_cond_split (t:=((decide (y3_0<v10.1))&&(!y3_2))) rfl (fun c4=>?_) (fun c4=>?_)
       ·replace H:=of_pos H c4
        refine wp_skip<|norm_then<|wp_seq<|wp_block<|wp_seq<|region<|rs (Value.agg #[vS ByteArray.empty,vI 0,vI 0]) (r_build0 (cs:=[vS ByteArray.empty,vI 0,vI 0]) Tryd.zeroValue36 Tryd.runUnderlying36 (pl:=#[(0,1),(1,1),(2,1)]) (fun w=>by simp [Tryd.sizeOf3,Tryd.sizeOf9]) rfl) ?_
        refine run_ex rfl rfl (does_alloc (cs:=#[vS ByteArray.empty,vI 0,vI 0]) Tryd.zeroValue36 rfl) ?_
        rintro w27 _ hE5 ⟨b6,rfl,ge5,hb5⟩
        have HS91:=HS90.new hE5 ge5 hb5
        refine run_st (i:=0) (cs:=[vS ByteArray.empty,vI 0,vI 0]) (cs':=[vS ByteArray.empty,vI 0,vI 0]) (vs:=[vS ByteArray.empty,vI 0,vI 0]) (bs':=[(some b6, .cells #[vS ByteArray.empty,vI 0,vI 0] 36 (0,0)),(oby3_4, .cells (csy3_4).toArray 36 (0,0)),(some b5, .cells #[vI v4.1,vS v5.1,vI v6.1,vB v7.1,vI v8.1,vI v9.1,vL (rowA oby3_4) y3_4.length cy3_4] 34 (0,0)),(oby2_4, .cells (csy2_4).toArray 34 (0,0)),(some b4, .cells #[vL (rowA oby2_4) y2_4.length cy2_4] 24 (0,0)),((some b3), .cells ([Value.int .u8 67,Value.int .u8 84,Value.int .u8 70,Value.int .u8 1]).toArray 5 (0,0)),(some b2, .cells #[vL A0_0 a0.length c0_0,vI y3_1,vB y3_2,vI y3_3] 138 (0,0)),(some b1, .cells #[vL none 0 0,vI 0] 89 (0,0))]) rfl rfl Tryd.sizeOf36 rfl rfl (by decide) rfl HS91 rfl (Nat.le_of_ble_eq_true rfl) rfl rfl ?_
        intro w28 HS92
        try simp only [sc0,sc1]
        refine run_nil<|norm_then<|wp_seq<|region<|rs (vP b2 0) (r_move rfl) ?_
        obtain ⟨v11,H11,H⟩:=of_bind H
        have HS93:=HS92.f6
        refine run_call (vs:=[vP b2 0]) (caps:=[]) Tryd.call82 rfl rfl (taplineref08_Reader_Text.calls k a0 y3_1 y3_2 y3_3 b2 A0_0 c0_0 HS93 (hr0_0.ext HS93.sub) hc0_0 H11) ?_
        rintro _ w29 ⟨rfl,HS94⟩
        refine ⟨_,rfl,?_⟩
        have HS95:=HS94.f7
        have HS96:=HS95.f1
        have HS97:=HS96.f7
        have HS98:=HS97.f7
        have HS99:=HS98.f7
        have HS100:=HS99.f7
        have HS101:=HS100.f7
        have HS102:=HS101.f7
        refine rs (vP b6 0) (r_fieldBox (n:=1) (o':=0) rfl Tryd.runUnderlying36 rfl Tryd.sizeOf9 (by decide) rfl)<|run_st (i:=0) (cs:=[vS ByteArray.empty,vI 0,vI 0]) (cs':=[vS v11.1,vI 0,vI 0]) (vs:=[vS v11.1]) (bs':=[(some b6, .cells #[vS v11.1,vI 0,vI 0] 36 (0,0)),(oby3_4, .cells (csy3_4).toArray 36 (0,0)),(some b5, .cells #[vI v4.1,vS v5.1,vI v6.1,vB v7.1,vI v8.1,vI v9.1,vL (rowA oby3_4) y3_4.length cy3_4] 34 (0,0)),(oby2_4, .cells (csy2_4).toArray 34 (0,0)),(some b4, .cells #[vL (rowA oby2_4) y2_4.length cy2_4] 24 (0,0)),((some b3), .cells ([Value.int .u8 67,Value.int .u8 84,Value.int .u8 70,Value.int .u8 1]).toArray 5 (0,0)),(some b2, .cells #[vL A0_0 a0.length c0_0,vI v11.2.1,vB v11.2.2.1,vI v11.2.2.2] 138 (0,0)),(some b1, .cells #[vL none 0 0,vI 0] 89 (0,0))]) rfl rfl Tryd.sizeOf9 rfl rfl (by decide) rfl HS102 rfl (Nat.le_of_ble_eq_true rfl) rfl rfl ?_
        intro w30 HS103
        try simp only [sc0,sc1]
        refine run_nil<|norm_then<|wp_seq<|region<|rs (vP b2 0) (r_move rfl) ?_
        obtain ⟨v12,H12,H⟩:=of_bind H
        have HS104:=HS103.f6
        refine run_call (vs:=[vP b2 0]) (caps:=[]) Tryd.call81 rfl rfl (taplineref08_Reader_Int.calls k a0 v11.2.1 v11.2.2.1 v11.2.2.2 b2 A0_0 c0_0 HS104 (hr0_0.ext HS104.sub) hc0_0 H12) ?_
        rintro _ w31 ⟨rfl,HS105⟩
        refine ⟨_,rfl,?_⟩
        have HS106:=HS105.f7
        have HS107:=HS106.f1
        have HS108:=HS107.f7
        have HS109:=HS108.f7
        have HS110:=HS109.f7
        have HS111:=HS110.f7
        have HS112:=HS111.f7
        have HS113:=HS112.f7
        refine rs (vP b6 1) (r_fieldBox (n:=1) (o':=1) rfl Tryd.runUnderlying36 rfl Tryd.sizeOf3 (by decide) rfl)<|run_st (i:=0) (cs:=[vS v11.1,vI 0,vI 0]) (cs':=[vS v11.1,vI v12.1,vI 0]) (vs:=[vI v12.1]) (bs':=[(some b6, .cells #[vS v11.1,vI v12.1,vI 0] 36 (0,0)),(oby3_4, .cells (csy3_4).toArray 36 (0,0)),(some b5, .cells #[vI v4.1,vS v5.1,vI v6.1,vB v7.1,vI v8.1,vI v9.1,vL (rowA oby3_4) y3_4.length cy3_4] 34 (0,0)),(oby2_4, .cells (csy2_4).toArray 34 (0,0)),(some b4, .cells #[vL (rowA oby2_4) y2_4.length cy2_4] 24 (0,0)),((some b3), .cells ([Value.int .u8 67,Value.int .u8 84,Value.int .u8 70,Value.int .u8 1]).toArray 5 (0,0)),(some b2, .cells #[vL A0_0 a0.length c0_0,vI v12.2.1,vB v12.2.2.1,vI v12.2.2.2] 138 (0,0)),(some b1, .cells #[vL none 0 0,vI 0] 89 (0,0))]) rfl rfl Tryd.sizeOf3 rfl rfl (by decide) rfl HS113 rfl (Nat.le_of_ble_eq_true rfl) rfl rfl ?_
        intro w32 HS114
        try simp only [sc0,sc1]
        refine run_nil<|norm_then<|wp_seq<|region<|rs (vP b2 0) (r_move rfl) ?_
        obtain ⟨v13,H13,H⟩:=of_bind H
        have HS115:=HS114.f6
        refine run_call (vs:=[vP b2 0]) (caps:=[]) Tryd.call81 rfl rfl (taplineref08_Reader_Int.calls k a0 v12.2.1 v12.2.2.1 v12.2.2.2 b2 A0_0 c0_0 HS115 (hr0_0.ext HS115.sub) hc0_0 H13) ?_
        rintro _ w33 ⟨rfl,HS116⟩
        refine ⟨_,rfl,?_⟩
        have HS117:=HS116.f7
        have HS118:=HS117.f1
        have HS119:=HS118.f7
        have HS120:=HS119.f7
        have HS121:=HS120.f7
        have HS122:=HS121.f7
        have HS123:=HS122.f7
        have HS124:=HS123.f7
        refine rs (vP b6 2) (r_fieldBox (n:=1) (o':=2) rfl Tryd.runUnderlying36 rfl Tryd.sizeOf3 (by decide) rfl)<|run_st (i:=0) (cs:=[vS v11.1,vI v12.1,vI 0]) (cs':=[vS v11.1,vI v12.1,vI v13.1]) (vs:=[vI v13.1]) (bs':=[(some b6, .cells #[vS v11.1,vI v12.1,vI v13.1] 36 (0,0)),(oby3_4, .cells (csy3_4).toArray 36 (0,0)),(some b5, .cells #[vI v4.1,vS v5.1,vI v6.1,vB v7.1,vI v8.1,vI v9.1,vL (rowA oby3_4) y3_4.length cy3_4] 34 (0,0)),(oby2_4, .cells (csy2_4).toArray 34 (0,0)),(some b4, .cells #[vL (rowA oby2_4) y2_4.length cy2_4] 24 (0,0)),((some b3), .cells ([Value.int .u8 67,Value.int .u8 84,Value.int .u8 70,Value.int .u8 1]).toArray 5 (0,0)),(some b2, .cells #[vL A0_0 a0.length c0_0,vI v13.2.1,vB v13.2.2.1,vI v13.2.2.2] 138 (0,0)),(some b1, .cells #[vL none 0 0,vI 0] 89 (0,0))]) rfl rfl Tryd.sizeOf3 rfl rfl (by decide) rfl HS124 rfl (Nat.le_of_ble_eq_true rfl) rfl rfl ?_
        intro w34 HS125
        try simp only [sc0,sc1]
        refine run_nil<|norm_then<|region<|rs (vP b5 6) (r_fieldBox (n:=1) (o':=6) rfl Tryd.runUnderlying34 rfl Tryd.sizeOf32 (by decide) rfl)<|rs (vL (rowA oby3_4) y3_4.length cy3_4) (r_loadBox rfl Tryd.isAgg32 (HS125.look 2 rfl) rfl)<|rs (Value.agg #[vS v11.1,vI v12.1,vI v13.1]) (r_loadBoxAgg (n:=3) (vs:=[vS v11.1,vI v12.1,vI v13.1]) rfl Tryd.isAgg36 (HS125.look 0 rfl) Tryd.sizeOf36 rfl rfl)<|run_bs k_api_Field (xs:=([(⟨v11.1,v12.1,v13.1⟩:api_Field)]:List api_Field)) (n:=1) (cs:=[vS v11.1,vI v12.1,vI v13.1]) Tryd.runUnderlying32 Tryd.typeInfo36 Tryd.zeroValue36 rfl rfl (by decide) (by decide) (by decide) [Value.agg #[vS v11.1,vI v12.1,vI v13.1]] (parts_any.trans rfl) rfl rfl rfl rfl (elems_cons (qs:=[vS v11.1,vI v12.1,vI v13.1]) ⟨[vS v11.1],[vI v12.1,vI v13.1],rfl,rfl,⟨[vI v12.1],[vI v13.1],rfl,rfl,rfl⟩⟩ (elems_nil (cs:=[]))) HS125 ?_
        intro w35 b7 HS126 ho2
        refine run_frame (by simp only [sc0,sc1];rfl) ?_
        obtain ⟨hl2,H⟩:=of_ite H
        refine run_app k_api_Field (q:=2) (cs:=csy3_4) rfl rfl Tryd.runUnderlying32 Tryd.typeInfo36 Tryd.zeroValue36 rfl (by decide) rfl (src_row Tryd.runUnderlying32 HS126 (i:=0) rfl ho2 rfl) ho2.len (src_row_elems ho2) hl2 HS126 rfl hoy3_4 ?_
        intro w36 ob1 c5 cs1 HS127 ho3
        refine rs (vP b5 6) (r_fieldBox (n:=1) (o':=6) rfl Tryd.runUnderlying34 rfl Tryd.sizeOf32 (by decide) rfl)<|run_st (i:=3) (cs:=[vI v4.1,vS v5.1,vI v6.1,vB v7.1,vI v8.1,vI v9.1,vL (rowA oby3_4) y3_4.length cy3_4]) (cs':=[vI v4.1,vS v5.1,vI v6.1,vB v7.1,vI v8.1,vI v9.1,vL (rowA ob1) (y3_4.length+1) c5]) (vs:=[vL (rowA ob1) (y3_4.length+1) c5]) (bs':=[((some b7), .cells ([vS v11.1,vI v12.1,vI v13.1]).toArray 36 (0,0)),(some b6, .cells #[vS v11.1,vI v12.1,vI v13.1] 36 (0,0)),(ob1, .cells (cs1).toArray 36 (0,0)),(some b5, .cells #[vI v4.1,vS v5.1,vI v6.1,vB v7.1,vI v8.1,vI v9.1,vL (rowA ob1) (y3_4.length+1) c5] 34 (0,0)),(oby2_4, .cells (csy2_4).toArray 34 (0,0)),(some b4, .cells #[vL (rowA oby2_4) y2_4.length cy2_4] 24 (0,0)),((some b3), .cells ([Value.int .u8 67,Value.int .u8 84,Value.int .u8 70,Value.int .u8 1]).toArray 5 (0,0)),(some b2, .cells #[vL A0_0 a0.length c0_0,vI v13.2.1,vB v13.2.2.1,vI v13.2.2.2] 138 (0,0)),(some b1, .cells #[vL none 0 0,vI 0] 89 (0,0))]) rfl rfl Tryd.sizeOf32 rfl rfl (by decide) rfl HS127 rfl (Nat.le_of_ble_eq_true rfl) rfl rfl ?_
        intro w37 HS128
        try simp only [sc0,sc1]
        refine run_nil<|norm_block<|norm_then<|region<|rs (vI y3_0) (r_move rfl)<|rs (vI (w64 (y3_0+1))) (r_bin rfl rfl rfl)<|rs (vI (w64 (y3_0+1))) (r_assign rfl) ?_
        try simp only [sc0,sc1]
        refine run_nil ?_
        have HS129:St [] h0 w0 h1 [((some b7), .cells ([vS v11.1,vI v12.1,vI v13.1]).toArray 36 (0,0)),(some b6, .cells #[vS v11.1,vI v12.1,vI v13.1] 36 (0,0)),(ob1, .cells (cs1).toArray 36 (0,0)),(some b5, .cells #[vI v4.1,vS v5.1,vI v6.1,vB v7.1,vI v8.1,vI v9.1,vL (rowA ob1) ((y3_4++([(⟨v11.1,v12.1,v13.1⟩:api_Field)]:List api_Field)).length) c5] 34 (0,0)),(oby2_4, .cells (csy2_4).toArray 34 (0,0)),(some b4, .cells #[vL (rowA oby2_4) y2_4.length cy2_4] 24 (0,0)),((some b3), .cells ([Value.int .u8 67,Value.int .u8 84,Value.int .u8 70,Value.int .u8 1]).toArray 5 (0,0)),(some b2, .cells #[vL A0_0 a0.length c0_0,vI v13.2.1,vB v13.2.2.1,vI v13.2.2.2] 138 (0,0)),(some b1, .cells #[vL none 0 0,vI 0] 89 (0,0))] w37:=HS128.cast (by first|rfl|(rw [ho3.len];done)|(rw [ho3.len];rfl))
        have ho4:=ho3.norm
        refine again_j m (Nat.lt_succ_self m) rfl ⟨(w64 (y3_0+1)),v13.2.1,v13.2.2.1,v13.2.2.2,(y3_4++([(⟨v11.1,v12.1,v13.1⟩:api_Field)]:List api_Field)),ob1,c5,cs1,(fit (by first|rfl|(rw [ho3.len];done)|(rw [ho3.len];rfl))),H,ho4.norm,HS129.tail.tail⟩
       ·replace H:=of_neg H (nt c4)
        refine wp_exit<|exit_then ?_
        obtain rfl:=Option.some.inj H
        refine leave_j rfl ⟨oby3_4,cy3_4,csy3_4,(fit rfl),hoy3_4.norm,HS90⟩
     ·rintro us w38 ⟨obo2_3,co2_3,cso2_3,huo2,hoo2_3,HS130⟩
      obtain ⟨uo2,rfl⟩:=unj huo2
      replace H:=G3
      clear G3
      try simp only [patch,sc0,sc1]
      refine norm_then<|region<|rs (vP b4 0) (r_fieldBox (n:=1) (o':=0) rfl Tryd.runUnderlying24 rfl Tryd.sizeOf22 (by decide) rfl)<|rs (vL (rowA oby2_4) y2_4.length cy2_4) (r_loadBox rfl Tryd.isAgg22 (HS130.look 3 rfl) rfl)<|rs (Value.agg #[vI v4.1,vS v5.1,vI v6.1,vB v7.1,vI v8.1,vI v9.1,vL (rowA obo2_3) xx3.2.2.2.length co2_3]) (r_loadBoxAgg (n:=7) (vs:=[vI v4.1,vS v5.1,vI v6.1,vB v7.1,vI v8.1,vI v9.1,vL (rowA obo2_3) xx3.2.2.2.length co2_3]) rfl Tryd.isAgg34 (HS130.look 1 rfl) Tryd.sizeOf34 rfl rfl) ?_
      obtain ⟨h2,HS131,hs15,rdp1⟩:=row_pub HS130 (i:=0) rfl hoo2_3
      have HS132:St [] h0 w0 h2 [(some b5, .cells #[vI v4.1,vS v5.1,vI v6.1,vB v7.1,vI v8.1,vI v9.1,vL (rowA obo2_3) xx3.2.2.2.length co2_3] 34 (0,0)),(oby2_4, .cells (csy2_4).toArray 34 (0,0)),(some b4, .cells #[vL (rowA oby2_4) y2_4.length cy2_4] 24 (0,0)),((some b3), .cells ([Value.int .u8 67,Value.int .u8 84,Value.int .u8 70,Value.int .u8 1]).toArray 5 (0,0)),(some b2, .cells #[vL A0_0 a0.length c0_0,vI xx3.1,vB xx3.2.1,vI xx3.2.2.1] 138 (0,0)),(some b1, .cells #[vL none 0 0,vI 0] 89 (0,0))] w38:=HS131
      replace hoy2_4:=hoy2_4.view hs15
      replace ho1:=ho1.view hs15
      refine run_bs k_api_Def (xs:=([(⟨v4.1,v5.1,(⟨v6.1,v7.1⟩:api_Int),v8.1,v9.1,xx3.2.2.2⟩:api_Def)]:List api_Def)) (n:=1) (cs:=[vI v4.1,vS v5.1,vI v6.1,vB v7.1,vI v8.1,vI v9.1,vL (rowA obo2_3) xx3.2.2.2.length co2_3]) Tryd.runUnderlying22 Tryd.typeInfo34 Tryd.zeroValue34 rfl rfl (by decide) (by decide) (by decide) [Value.agg #[vI v4.1,vS v5.1,vI v6.1,vB v7.1,vI v8.1,vI v9.1,vL (rowA obo2_3) xx3.2.2.2.length co2_3]] (parts_any.trans rfl) rfl rfl rfl rfl (elems_cons (qs:=[vI v4.1,vS v5.1,vI v6.1,vB v7.1,vI v8.1,vI v9.1,vL (rowA obo2_3) xx3.2.2.2.length co2_3]) ⟨[vI v4.1],[vS v5.1,vI v6.1,vB v7.1,vI v8.1,vI v9.1,vL (rowA obo2_3) xx3.2.2.2.length co2_3],rfl,rfl,⟨[vS v5.1],[vI v6.1,vB v7.1,vI v8.1,vI v9.1,vL (rowA obo2_3) xx3.2.2.2.length co2_3],rfl,rfl,⟨[vI v6.1,vB v7.1],[vI v8.1,vI v9.1,vL (rowA obo2_3) xx3.2.2.2.length co2_3],rfl,⟨[vI v6.1],[vB v7.1],rfl,rfl,rfl⟩,⟨[vI v8.1],[vI v9.1,vL (rowA obo2_3) xx3.2.2.2.length co2_3],rfl,rfl,⟨[vI v9.1],[vL (rowA obo2_3) xx3.2.2.2.length co2_3],rfl,rfl,⟨(rowA obo2_3),co2_3,rfl,hoo2_3.cap,rdp1⟩⟩⟩⟩⟩⟩ (elems_nil (cs:=[]))) HS132 ?_
      intro w39 b8 HS133 ho5
      refine run_frame (by simp only [sc0,sc1];rfl) ?_
      obtain ⟨hl3,H⟩:=of_ite H
      refine run_app k_api_Def (q:=2) (cs:=csy2_4) rfl rfl Tryd.runUnderlying22 Tryd.typeInfo34 Tryd.zeroValue34 rfl (by decide) rfl (src_row Tryd.runUnderlying22 HS133 (i:=0) rfl ho5 rfl) ho5.len (src_row_elems ho5) hl3 HS133 rfl hoy2_4 ?_
      intro w40 ob2 c6 cs2 HS134 ho6
      refine rs (vP b4 0) (r_fieldBox (n:=1) (o':=0) rfl Tryd.runUnderlying24 rfl Tryd.sizeOf22 (by decide) rfl)<|run_st (i:=3) (cs:=[vL (rowA oby2_4) y2_4.length cy2_4]) (cs':=[vL (rowA ob2) (y2_4.length+1) c6]) (vs:=[vL (rowA ob2) (y2_4.length+1) c6]) (bs':=[((some b8), .cells ([vI v4.1,vS v5.1,vI v6.1,vB v7.1,vI v8.1,vI v9.1,vL (rowA obo2_3) xx3.2.2.2.length co2_3]).toArray 34 (0,0)),(some b5, .cells #[vI v4.1,vS v5.1,vI v6.1,vB v7.1,vI v8.1,vI v9.1,vL (rowA obo2_3) xx3.2.2.2.length co2_3] 34 (0,0)),(ob2, .cells (cs2).toArray 34 (0,0)),(some b4, .cells #[vL (rowA ob2) (y2_4.length+1) c6] 24 (0,0)),((some b3), .cells ([Value.int .u8 67,Value.int .u8 84,Value.int .u8 70,Value.int .u8 1]).toArray 5 (0,0)),(some b2, .cells #[vL A0_0 a0.length c0_0,vI xx3.1,vB xx3.2.1,vI xx3.2.2.1] 138 (0,0)),(some b1, .cells #[vL none 0 0,vI 0] 89 (0,0))]) rfl rfl Tryd.sizeOf22 rfl rfl (by decide) rfl HS134 rfl (Nat.le_of_ble_eq_true rfl) rfl rfl ?_
      intro w41 HS135
      try simp only [sc0,sc1]
      refine run_nil<|norm_block<|norm_then<|region<|rs (vI y2_0) (r_move rfl)<|rs (vI (w64 (y2_0+1))) (r_bin rfl rfl rfl)<|rs (vI (w64 (y2_0+1))) (r_assign rfl) ?_
      try simp only [sc0,sc1]
      refine run_nil ?_
      have HS136:St [] h0 w0 h2 [((some b8), .cells ([vI v4.1,vS v5.1,vI v6.1,vB v7.1,vI v8.1,vI v9.1,vL (rowA obo2_3) xx3.2.2.2.length co2_3]).toArray 34 (0,0)),(some b5, .cells #[vI v4.1,vS v5.1,vI v6.1,vB v7.1,vI v8.1,vI v9.1,vL (rowA obo2_3) xx3.2.2.2.length co2_3] 34 (0,0)),(ob2, .cells (cs2).toArray 34 (0,0)),(some b4, .cells #[vL (rowA ob2) ((y2_4++([(⟨v4.1,v5.1,(⟨v6.1,v7.1⟩:api_Int),v8.1,v9.1,xx3.2.2.2⟩:api_Def)]:List api_Def)).length) c6] 24 (0,0)),((some b3), .cells ([Value.int .u8 67,Value.int .u8 84,Value.int .u8 70,Value.int .u8 1]).toArray 5 (0,0)),(some b2, .cells #[vL A0_0 a0.length c0_0,vI xx3.1,vB xx3.2.1,vI xx3.2.2.1] 138 (0,0)),(some b1, .cells #[vL none 0 0,vI 0] 89 (0,0))] w41:=HS135.cast (by first|rfl|(rw [ho6.len];done)|(rw [ho6.len];rfl))
      have ho7:=ho6.norm
      refine again_j m (Nat.lt_succ_self m) rfl ⟨(w64 (y2_0+1)),xx3.1,xx3.2.1,xx3.2.2.1,(y2_4++([(⟨v4.1,v5.1,(⟨v6.1,v7.1⟩:api_Int),v8.1,v9.1,xx3.2.2.2⟩:api_Def)]:List api_Def)),h2,ob2,c6,cs2,(fit (by first|rfl|(rw [ho6.len];done)|(rw [ho6.len];rfl))),H,ho7.norm,ho1,HS136.tail.tail⟩
    ·replace H:=of_neg H (nt c3)
     refine wp_exit<|exit_then ?_
     obtain rfl:=Option.some.inj H
     refine leave_j rfl ⟨h1,oby2_4,cy2_4,csy2_4,(fit rfl),hoy2_4.norm,ho1,HS24⟩
  ·rintro us w42 ⟨h3,obo3_3,co3_3,cso3_3,huo3,hoo3_3,ho1,HS137⟩
   obtain ⟨uo3,rfl⟩:=unj huo3
   replace H:=G2
   clear G2
   try simp only [patch,sc0,sc1]
   refine norm_then<|wp_seq<|wp_seq<|region<|rs (vP b2 0) (r_move rfl)<|rs (vP b2 0) (r_nilCheck rfl)<|rs (vP b2 2) (r_fieldBox (n:=1) (o':=2) rfl Tryd.runUnderlying138 rfl Tryd.sizeOf4 (by decide) rfl)<|rs (vB xx2.2.1) (r_loadBox rfl Tryd.isAgg4 (HS137.look 3 rfl) rfl)<|run_frame (by simp only [sc0,sc1];rfl) ?_
   refine rs (vB xx2.2.1) (r_move rfl)<|rgs xx2.2.1 true (vP b2 0) rfl rfl rfl rfl (fun hg=>(r_move rfl))<|rgs xx2.2.1 true (vP b2 0) rfl rfl rfl rfl (fun hg=>(r_nilCheck (gvt (vP b2 0) hg rfl)))<|rgs xx2.2.1 true (vP b2 1) rfl rfl rfl rfl (fun hg=>(r_fieldBox (n:=1) (o':=1) (gvt (vP b2 0) hg rfl) Tryd.runUnderlying138 rfl Tryd.sizeOf3 (by decide) rfl))<|run_frame (by simp only [sc0,sc1];rfl) ?_
   refine rgs xx2.2.1 true (vI xx2.1) rfl rfl rfl rfl (fun hg=>(r_loadBox (gvt (vP b2 1) hg rfl) Tryd.isAgg3 (HS137.look 3 rfl) rfl))<|rgs xx2.2.1 true (vL A0_0 a0.length c0_0) rfl rfl rfl rfl (fun hg=>(r_move rfl))<|rgs xx2.2.1 true (vI (a0.length:Int)) rfl rfl rfl rfl (fun hg=>(r_len (gvt (vL A0_0 a0.length c0_0) hg rfl) Tryd.runUnderlying80))<|rgs xx2.2.1 true (vB (xx2.1 !=(a0.length:Int))) rfl rfl rfl rfl (fun hg=>(r_bin (gvt (vI xx2.1) hg rfl) (gvt (vI (a0.length:Int)) hg rfl) rfl))<|run_frame (by simp only [sc0,sc1];rfl) ?_
   refine rs (vB (xx2.2.1||(xx2.1 !=(a0.length:Int)))) (r_pick_or rfl rfl (fun hp=>(gvt (vB (xx2.1 !=(a0.length:Int))) (and_i rfl hp) rfl))) ?_
   try simp only [sc0,sc1]
   refine run_nil<|norm_then<|wp_cond_split (t:=(xx2.2.1||(xx2.1 !=(a0.length:Int)))) rfl (fun c7=>?_) (fun c7=>?_)
   ·replace H:=of_pos H c7
    refine wp_seq<|region<|rs (Value.agg #[vL none 0 0,vI 81]) (r_build (cs:=[vL none 0 0,vI 81]) (ps:=[(1,vI 81)]) Tryd.zeroValue89 Tryd.runUnderlying89 (pl:=#[(0,1),(1,1)]) (fun w=>by simp [Tryd.sizeOf24,Tryd.sizeOf27]) (parts_1 (show _=vI 81 from rfl)) rfl) ?_
    refine run_st (i:=4) (cs:=[vL none 0 0,vI 0]) (cs':=[vL none 0 0,vI 81]) (vs:=[vL none 0 0,vI 81]) (bs':=[(obo3_3, .cells (cso3_3).toArray 34 (0,0)),(some b4, .cells #[vL (rowA obo3_3) xx2.2.2.2.length co3_3] 24 (0,0)),((some b3), .cells ([Value.int .u8 67,Value.int .u8 84,Value.int .u8 70,Value.int .u8 1]).toArray 5 (0,0)),(some b2, .cells #[vL A0_0 a0.length c0_0,vI xx2.1,vB xx2.2.1,vI xx2.2.2.1] 138 (0,0)),(some b1, .cells #[vL none 0 0,vI 81] 89 (0,0))]) rfl rfl Tryd.sizeOf89 rfl rfl (by decide) rfl HS137 rfl (Nat.le_of_ble_eq_true rfl) rfl rfl ?_
    intro w43 HS138
    try simp only [sc0,sc1]
    refine run_nil<|norm_then<|wp_ret<|ret_then ?_
    obtain rfl:=Option.some.inj H
    exact bodyPost_ret (results_1 rfl (one_agg rfl Tryd.isAgg89 (HS138.look 4 rfl) Tryd.sizeOf89 rfl)) rfl<|⟨h3,none,0,rfl,(Nat.le_refl 0),(Rd.nil _ _ _),HS138.gr,HS138.sees,HS138.toE⟩
   ·replace H:=of_neg H (nt c7)
    refine wp_skip<|norm_then<|wp_seq<|region<|rs (Value.agg #[vL (rowA obo3_3) xx2.2.2.2.length co3_3]) (r_loadBoxAgg (n:=1) (vs:=[vL (rowA obo3_3) xx2.2.2.2.length co3_3]) rfl Tryd.isAgg24 (HS137.look 1 rfl) Tryd.sizeOf24 rfl rfl) ?_
    obtain ⟨h4,HS139,hs16,rdp2⟩:=row_pub HS137 (i:=0) rfl hoo3_3
    have HS140:St [] h0 w0 h4 [(some b4, .cells #[vL (rowA obo3_3) xx2.2.2.2.length co3_3] 24 (0,0)),((some b3), .cells ([Value.int .u8 67,Value.int .u8 84,Value.int .u8 70,Value.int .u8 1]).toArray 5 (0,0)),(some b2, .cells #[vL A0_0 a0.length c0_0,vI xx2.1,vB xx2.2.1,vI xx2.2.2.1] 138 (0,0)),(some b1, .cells #[vL none 0 0,vI 0] 89 (0,0))] w42:=HS139
    replace ho1:=ho1.view hs16
    obtain ⟨v14,H14,H⟩:=of_bind H
    refine run_eq (v:=vI v14) rfl rfl (does_call_eq Tryd.call19 rfl rfl (taplineref08_Check.calls k (⟨xx2.2.2.2⟩:api_Types) (rowA obo3_3) co3_3 HS140.sees rdp2 hoo3_3.cap H14)) ?_
    intro w44 hE6
    have HS141:=HS140.step hE6
    refine rs (vI v14) (r_assign rfl) ?_
    try simp only [sc0,sc1]
    refine run_nil<|norm_then<|wp_seq<|wp_seq<|region<|rs (vI v14) (r_move rfl)<|rs (vB (v14 !=0)) (r_bin rfl rfl rfl) ?_
    try simp only [sc0,sc1]
    refine run_nil<|norm_then<|wp_cond_split (t:=(v14 !=0)) rfl (fun c8=>?_) (fun c8=>?_)
    ·replace H:=of_pos H c8
     refine wp_seq<|region<|rs (vI v14) (r_move rfl)<|rs (Value.agg #[vL none 0 0,vI v14]) (r_build (cs:=[vL none 0 0,vI v14]) (ps:=[(1,vI v14)]) Tryd.zeroValue89 Tryd.runUnderlying89 (pl:=#[(0,1),(1,1)]) (fun w=>by simp [Tryd.sizeOf24,Tryd.sizeOf27]) (parts_1 (show _=vI v14 from rfl)) rfl) ?_
     refine run_st (i:=3) (cs:=[vL none 0 0,vI 0]) (cs':=[vL none 0 0,vI v14]) (vs:=[vL none 0 0,vI v14]) (bs':=[(some b4, .cells #[vL (rowA obo3_3) xx2.2.2.2.length co3_3] 24 (0,0)),((some b3), .cells ([Value.int .u8 67,Value.int .u8 84,Value.int .u8 70,Value.int .u8 1]).toArray 5 (0,0)),(some b2, .cells #[vL A0_0 a0.length c0_0,vI xx2.1,vB xx2.2.1,vI xx2.2.2.1] 138 (0,0)),(some b1, .cells #[vL none 0 0,vI v14] 89 (0,0))]) rfl rfl Tryd.sizeOf89 rfl rfl (by decide) rfl HS141 rfl (Nat.le_of_ble_eq_true rfl) rfl rfl ?_
     intro w45 HS142
     try simp only [sc0,sc1]
     refine run_nil<|norm_then<|wp_ret<|ret_then ?_
     obtain rfl:=Option.some.inj H
     exact bodyPost_ret (results_1 rfl (one_agg rfl Tryd.isAgg89 (HS142.look 3 rfl) Tryd.sizeOf89 rfl)) rfl<|⟨h4,none,0,rfl,(Nat.le_refl 0),(Rd.nil _ _ _),HS142.gr,HS142.sees,HS142.toE⟩
    ·replace H:=of_neg H (nt c8)
     refine wp_skip<|norm_then<|wp_seq<|region<|rs (Value.agg #[vL (rowA obo3_3) xx2.2.2.2.length co3_3]) (r_loadBoxAgg (n:=1) (vs:=[vL (rowA obo3_3) xx2.2.2.2.length co3_3]) rfl Tryd.isAgg24 (HS141.look 0 rfl) Tryd.sizeOf24 rfl rfl)<|rs (Value.agg #[vL (rowA obo3_3) xx2.2.2.2.length co3_3,vI 0]) (r_build (cs:=[vL (rowA obo3_3) xx2.2.2.2.length co3_3,vI 0]) (ps:=[(0,Value.agg #[vL (rowA obo3_3) xx2.2.2.2.length co3_3])]) Tryd.zeroValue89 Tryd.runUnderlying89 (pl:=#[(0,1),(1,1)]) (fun w=>by simp [Tryd.sizeOf24,Tryd.sizeOf27]) (parts_1 (show _=Value.agg #[vL (rowA obo3_3) xx2.2.2.2.length co3_3] from rfl)) rfl) ?_
     refine run_st (i:=3) (cs:=[vL none 0 0,vI 0]) (cs':=[vL (rowA obo3_3) xx2.2.2.2.length co3_3,vI 0]) (vs:=[vL (rowA obo3_3) xx2.2.2.2.length co3_3,vI 0]) (bs':=[(some b4, .cells #[vL (rowA obo3_3) xx2.2.2.2.length co3_3] 24 (0,0)),((some b3), .cells ([Value.int .u8 67,Value.int .u8 84,Value.int .u8 70,Value.int .u8 1]).toArray 5 (0,0)),(some b2, .cells #[vL A0_0 a0.length c0_0,vI xx2.1,vB xx2.2.1,vI xx2.2.2.1] 138 (0,0)),(some b1, .cells #[vL (rowA obo3_3) xx2.2.2.2.length co3_3,vI 0] 89 (0,0))]) rfl rfl Tryd.sizeOf89 rfl rfl (by decide) rfl HS141 rfl (Nat.le_of_ble_eq_true rfl) rfl rfl ?_
     intro w46 HS143
     try simp only [sc0,sc1]
     refine run_nil<|norm_then<|wp_ret ?_
     obtain rfl:=Option.some.inj H
     exact bodyPost_ret (results_1 rfl (one_agg rfl Tryd.isAgg89 (HS143.look 3 rfl) Tryd.sizeOf89 rfl)) rfl<|⟨h4,(rowA obo3_3),co3_3,rfl,hoo3_3.cap,rdp2,HS143.gr,HS143.sees,HS143.toE⟩
def taplinelaw08_CtfBytes.f (k:Nat) (a0:api_Types) (a1:List Int):Option (Bool):=(taplinelaw08_sane.f k).bind fun v1=>(if (decide ((a1.length:Int)>100000))=true then (some v1) else ((ctf_Encode.f k a0).bind fun v2=>((ctf_Decode.f k a1).bind fun v3=>((taplineref08_Encode.f k a0).bind fun v4=>((taplineref08_Decode.f k a1).bind fun v5=>((if (true&&((((v1&&(v2.2==v4.vE))&&(strEq (strOf v2.1) (strOf v4.vB)))&&(v3.2==v5.vE))==true))=true then taplineref08_Same.f k v3.1 v5.vT else some false).bind fun v6=>(some ((((v1&&(v2.2==v4.vE))&&(strEq (strOf v2.1) (strOf v4.vB)))&&(v3.2==v5.vE))&&v6))))))))
theorem taplinelaw08_CtfBytes.calls (k:Nat) (a0:api_Types) (a1:List Int) (A0_0:Option Addr) (c0_0:Nat) (A1_0:Option Addr) (c1_0:Nat) {h0:View} {w0:World} (hv:Sees h0 w0) (ht:Tab w0) (hr0_0:Rd k_api_Def h0 A0_0 a0.vDefs) (hc0_0:a0.vDefs.length≤c0_0) (hr1_0:Rd (Kd.int .u8) h0 A1_0 a1) (hc1_0:a1.length≤c1_0) {r:Bool} (H:taplinelaw08_CtfBytes.f k a0 a1=some r):Calls Tryd.prog 10 #[Value.agg #[vL A0_0 a0.vDefs.length c0_0],vL A1_0 a1.length c1_0] w0 (fun e w1=>e= .returned (vB r)∧Ext w0 w1):=by
 unfold taplinelaw08_CtfBytes.f at H
 have HS:St [] h0 w0 h0 [] w0:=St.init hv
 go_enter Tryd.func10,Tryd.ntmps10
 refine wp_seq<|region<|run_ex rfl rfl (does_box (cs:=#[vL A0_0 a0.vDefs.length c0_0]) rfl rfl) ?_
 rintro w1 _ hE1 ⟨b1,rfl,ge1,hb1⟩
 have HS1:=HS.new hE1 ge1 hb1
 refine rs (vB false) (r_assign rfl) ?_
 try simp only [sc0,sc1]
 refine run_nil<|norm_then<|wp_seq<|region ?_
 obtain ⟨v1,H1,H⟩:=of_bind H
 refine run_eq (v:=vB v1) rfl rfl (does_call_eq Tryd.call13 rfl rfl (taplinelaw08_sane.calls k HS1.sees (ht.s HS1) H1)) ?_
 intro w2 hE2
 have HS2:=HS1.step hE2
 refine rs (vB v1) (r_assign rfl) ?_
 try simp only [sc0,sc1]
 refine run_nil<|norm_then<|wp_seq<|wp_seq<|region<|rs (vL A1_0 a1.length c1_0) (r_move rfl)<|rs (vI (a1.length:Int)) (r_len rfl Tryd.runUnderlying80)<|rs (vB (decide ((a1.length:Int)>100000))) (r_bin rfl rfl rfl) ?_
 try simp only [sc0,sc1]
 refine run_nil<|norm_then<|wp_cond_split (t:=(decide ((a1.length:Int)>100000))) rfl (fun c1=>?_) (fun c1=>?_)
 ·replace H:=of_pos H c1
  refine wp_seq<|region<|rs (vB v1) (r_move rfl)<|rs (vB v1) (r_assign rfl) ?_
  try simp only [sc0,sc1]
  refine run_nil<|norm_then<|wp_ret<|ret_then ?_
  obtain rfl:=Option.some.inj H
  exact bodyPost_ret (results_1 rfl (one_tmp rfl)) rfl<|⟨rfl,HS2.toE⟩
 ·replace H:=of_neg H (nt c1)
  refine wp_skip<|norm_then<|wp_seq<|region<|rs (Value.agg #[vL A0_0 a0.vDefs.length c0_0]) (r_loadBoxAgg (n:=1) (vs:=[vL A0_0 a0.vDefs.length c0_0]) rfl Tryd.isAgg24 (HS2.look 0 rfl) Tryd.sizeOf24 rfl rfl) ?_
  obtain ⟨v2,H2,H⟩:=of_bind H
  refine run_ex rfl rfl (does_call Tryd.call37 rfl (gives_in (h:=h0) (R:=(fun hx u=>∃(Av2_0_0:Option Addr) (cv2_0_0:Nat),u=Value.tuple #[vL Av2_0_0 v2.1.length cv2_0_0,vI v2.2]∧v2.1.length≤cv2_0_0∧Rd (Kd.int .u8) hx Av2_0_0 v2.1)) (Ext.rfl' w2) ((ctf_Encode.calls k a0 A0_0 c0_0 HS2.sees hr0_0 hc0_0 H2).mono ?_)) rfl) ?_
  ·rintro _ _ ⟨h1,Av2_0_0,cv2_0_0,rfl,hcv2_0_0,hrv2_0_0,g,ss,x⟩
   exact ⟨h1,_,rfl,⟨Av2_0_0,cv2_0_0,rfl,hcv2_0_0,hrv2_0_0⟩,g,ss,x⟩
  rintro w3 _ hE3 ⟨h1,⟨Av2_0_0,cv2_0_0,rfl,hcv2_0_0,hrv2_0_0⟩,gr1,se1⟩
  have HS3:=HS2.view hE3 gr1 se1
  refine rs (Value.tuple #[vL Av2_0_0 v2.1.length cv2_0_0,vI v2.2]) (r_move rfl)<|rs (vL Av2_0_0 v2.1.length cv2_0_0) (r_extract rfl rfl)<|run_frame (by simp only [sc0,sc1];rfl) ?_
  refine rs (vI v2.2) (r_extract rfl rfl)<|rs (vL Av2_0_0 v2.1.length cv2_0_0) (r_assign rfl)<|rs (vI v2.2) (r_assign rfl) ?_
  try simp only [sc0,sc1]
  refine run_nil<|norm_then<|wp_seq<|region<|rs (vL A1_0 a1.length c1_0) (r_move rfl) ?_
  obtain ⟨v3,H3,H⟩:=of_bind H
  refine run_ex rfl rfl (does_call Tryd.call38 rfl (gives_in (h:=h1) (R:=(fun hx u=>∃(Av3_0_0:Option Addr) (cv3_0_0:Nat),u=Value.tuple #[Value.agg #[vL Av3_0_0 v3.1.vDefs.length cv3_0_0],vI v3.2]∧v3.1.vDefs.length≤cv3_0_0∧Rd k_api_Def hx Av3_0_0 v3.1.vDefs)) (Ext.rfl' w3) ((ctf_Decode.calls k a1 A1_0 c1_0 HS3.sees (hr1_0.ext HS3.sub) hc1_0 H3).mono ?_)) rfl) ?_
  ·rintro _ _ ⟨h1,Av3_0_0,cv3_0_0,rfl,hcv3_0_0,hrv3_0_0,g,ss,x⟩
   exact ⟨h1,_,rfl,⟨Av3_0_0,cv3_0_0,rfl,hcv3_0_0,hrv3_0_0⟩,g,ss,x⟩
  rintro w4 _ hE4 ⟨h2,⟨Av3_0_0,cv3_0_0,rfl,hcv3_0_0,hrv3_0_0⟩,gr2,se2⟩
  have HS4:=HS3.view hE4 gr2 se2
  replace hrv2_0_0:Rd (Kd.int .u8) h2 Av2_0_0 v2.1:=hrv2_0_0.ext gr2.1
  refine rs (Value.tuple #[Value.agg #[vL Av3_0_0 v3.1.vDefs.length cv3_0_0],vI v3.2]) (r_move rfl)<|rs (Value.agg #[vL Av3_0_0 v3.1.vDefs.length cv3_0_0]) (r_extract rfl rfl)<|run_frame (by simp only [sc0,sc1];rfl) ?_
  refine rs (vI v3.2) (r_extract rfl rfl)<|run_ex rfl rfl (does_alloc (cs:=#[vL none 0 0]) Tryd.zeroValue24 rfl) ?_
  rintro w5 _ hE5 ⟨b2,rfl,ge2,hb2⟩
  have HS5:=HS4.new hE5 ge2 hb2
  refine run_st (i:=0) (cs:=[vL none 0 0]) (cs':=[vL Av3_0_0 v3.1.vDefs.length cv3_0_0]) (vs:=[vL Av3_0_0 v3.1.vDefs.length cv3_0_0]) (bs':=[(some b2, .cells #[vL Av3_0_0 v3.1.vDefs.length cv3_0_0] 24 (0,0)),(some b1, .cells #[vL A0_0 a0.vDefs.length c0_0] 24 (0,0))]) rfl rfl Tryd.sizeOf24 rfl rfl (by decide) rfl HS5 rfl (Nat.le_of_ble_eq_true rfl) rfl rfl ?_
  intro w6 HS6
  refine rs (vI v3.2) (r_assign rfl) ?_
  try simp only [sc0,sc1]
  refine run_nil<|norm_then<|wp_seq<|region<|rs (Value.agg #[vL A0_0 a0.vDefs.length c0_0]) (r_loadBoxAgg (n:=1) (vs:=[vL A0_0 a0.vDefs.length c0_0]) rfl Tryd.isAgg24 (HS6.look 1 rfl) Tryd.sizeOf24 rfl rfl) ?_
  obtain ⟨v4,H4,H⟩:=of_bind H
  refine run_ex rfl rfl (does_call Tryd.call39 rfl (gives_in (h:=h2) (R:=(fun hx u=>∃(Av4_0_0:Option Addr) (cv4_0_0:Nat),u=Value.agg #[vL Av4_0_0 v4.vB.length cv4_0_0,vI v4.vE]∧v4.vB.length≤cv4_0_0∧Rd (Kd.int .u8) hx Av4_0_0 v4.vB)) (Ext.rfl' w6) ((taplineref08_Encode.calls k a0 A0_0 c0_0 HS6.sees (hr0_0.ext HS6.sub) hc0_0 H4).mono ?_)) rfl) ?_
  ·rintro _ _ ⟨h1,Av4_0_0,cv4_0_0,rfl,hcv4_0_0,hrv4_0_0,g,ss,x⟩
   exact ⟨h1,_,rfl,⟨Av4_0_0,cv4_0_0,rfl,hcv4_0_0,hrv4_0_0⟩,g,ss,x⟩
  rintro w7 _ hE6 ⟨h3,⟨Av4_0_0,cv4_0_0,rfl,hcv4_0_0,hrv4_0_0⟩,gr3,se3⟩
  have HS7:=HS6.view hE6 gr3 se3
  replace hrv2_0_0:Rd (Kd.int .u8) h3 Av2_0_0 v2.1:=hrv2_0_0.ext gr3.1
  replace hrv3_0_0:Rd k_api_Def h3 Av3_0_0 v3.1.vDefs:=hrv3_0_0.ext gr3.1
  refine run_ex rfl rfl (does_alloc (cs:=#[vL none 0 0,vI 0]) Tryd.zeroValue86 rfl) ?_
  rintro w8 _ hE7 ⟨b3,rfl,ge3,hb3⟩
  have HS8:=HS7.new hE7 ge3 hb3
  refine run_st (i:=0) (cs:=[vL none 0 0,vI 0]) (cs':=[vL Av4_0_0 v4.vB.length cv4_0_0,vI v4.vE]) (vs:=[vL Av4_0_0 v4.vB.length cv4_0_0,vI v4.vE]) (bs':=[(some b3, .cells #[vL Av4_0_0 v4.vB.length cv4_0_0,vI v4.vE] 86 (0,0)),(some b2, .cells #[vL Av3_0_0 v3.1.vDefs.length cv3_0_0] 24 (0,0)),(some b1, .cells #[vL A0_0 a0.vDefs.length c0_0] 24 (0,0))]) rfl rfl Tryd.sizeOf86 rfl rfl (by decide) rfl HS8 rfl (Nat.le_of_ble_eq_true rfl) rfl rfl ?_
  intro w9 HS9
  try simp only [sc0,sc1]
  refine run_nil<|norm_then<|wp_seq<|region<|rs (vL A1_0 a1.length c1_0) (r_move rfl) ?_
  obtain ⟨v5,H5,H⟩:=of_bind H
  refine run_ex rfl rfl (does_call Tryd.call40 rfl (gives_in (h:=h3) (R:=(fun hx u=>∃(Av5_0_0:Option Addr) (cv5_0_0:Nat),u=Value.agg #[vL Av5_0_0 v5.vT.vDefs.length cv5_0_0,vI v5.vE]∧v5.vT.vDefs.length≤cv5_0_0∧Rd k_api_Def hx Av5_0_0 v5.vT.vDefs)) (Ext.rfl' w9) ((taplineref08_Decode.calls k a1 A1_0 c1_0 HS9.sees (hr1_0.ext HS9.sub) hc1_0 H5).mono ?_)) rfl) ?_
  ·rintro _ _ ⟨h1,Av5_0_0,cv5_0_0,rfl,hcv5_0_0,hrv5_0_0,g,ss,x⟩
   exact ⟨h1,_,rfl,⟨Av5_0_0,cv5_0_0,rfl,hcv5_0_0,hrv5_0_0⟩,g,ss,x⟩
  rintro w10 _ hE8 ⟨h4,⟨Av5_0_0,cv5_0_0,rfl,hcv5_0_0,hrv5_0_0⟩,gr4,se4⟩
  have HS10:=HS9.view hE8 gr4 se4
  replace hrv2_0_0:Rd (Kd.int .u8) h4 Av2_0_0 v2.1:=hrv2_0_0.ext gr4.1
  replace hrv3_0_0:Rd k_api_Def h4 Av3_0_0 v3.1.vDefs:=hrv3_0_0.ext gr4.1
  replace hrv4_0_0:Rd (Kd.int .u8) h4 Av4_0_0 v4.vB:=hrv4_0_0.ext gr4.1
  refine run_ex rfl rfl (does_alloc (cs:=#[vL none 0 0,vI 0]) Tryd.zeroValue89 rfl) ?_
  rintro w11 _ hE9 ⟨b4,rfl,ge4,hb4⟩
  have HS11:=HS10.new hE9 ge4 hb4
  refine run_st (i:=0) (cs:=[vL none 0 0,vI 0]) (cs':=[vL Av5_0_0 v5.vT.vDefs.length cv5_0_0,vI v5.vE]) (vs:=[vL Av5_0_0 v5.vT.vDefs.length cv5_0_0,vI v5.vE]) (bs':=[(some b4, .cells #[vL Av5_0_0 v5.vT.vDefs.length cv5_0_0,vI v5.vE] 89 (0,0)),(some b3, .cells #[vL Av4_0_0 v4.vB.length cv4_0_0,vI v4.vE] 86 (0,0)),(some b2, .cells #[vL Av3_0_0 v3.1.vDefs.length cv3_0_0] 24 (0,0)),(some b1, .cells #[vL A0_0 a0.vDefs.length c0_0] 24 (0,0))]) rfl rfl Tryd.sizeOf89 rfl rfl (by decide) rfl HS11 rfl (Nat.le_of_ble_eq_true rfl) rfl rfl ?_
  intro w12 HS12
  try simp only [sc0,sc1]
  refine run_nil<|norm_then<|wp_seq<|region<|rs (vB v1) (r_move rfl)<|rs (vB v1) (r_move rfl)<|rgs v1 true (vI v2.2) rfl rfl rfl rfl (fun hg=>(r_move rfl))<|rgs v1 true (vP b3 1) rfl rfl rfl rfl (fun hg=>(r_fieldBox (n:=1) (o':=1) rfl Tryd.runUnderlying86 rfl Tryd.sizeOf27 (by decide) rfl))<|run_frame (by simp only [sc0,sc1];rfl) ?_
  refine rgs v1 true (vI v4.vE) rfl rfl rfl rfl (fun hg=>(r_loadBox (gvt (vP b3 1) hg rfl) Tryd.isAgg27 (HS12.look 1 rfl) rfl))<|rgs v1 true (vB (v2.2==v4.vE)) rfl rfl rfl rfl (fun hg=>(r_bin (gvt (vI v2.2) hg rfl) (gvt (vI v4.vE) hg rfl) rfl))<|rs (vB (v1&&(v2.2==v4.vE))) (r_pick_and rfl (fun hp=>(gvt (vB (v2.2==v4.vE)) (and_i rfl hp) rfl)) rfl)<|rs (vB (v1&&(v2.2==v4.vE))) (r_move rfl)<|run_frame (by simp only [sc0,sc1];rfl) ?_
  refine rgs (v1&&(v2.2==v4.vE)) true (vL Av2_0_0 v2.1.length cv2_0_0) rfl rfl rfl rfl (fun hg=>(r_move rfl))<|rgs (v1&&(v2.2==v4.vE)) true (vS (strOf v2.1)) rfl rfl rfl rfl (fun hg=>(r_b2s (gvt (vL Av2_0_0 v2.1.length cv2_0_0) hg rfl) Tryd.runUnderlying80 Tryd.runUnderlying9 Tryd.runUnderlying5 HS12.sees hrv2_0_0))<|rgs (v1&&(v2.2==v4.vE)) true (vP b3 0) rfl rfl rfl rfl (fun hg=>(r_fieldBox (n:=1) (o':=0) rfl Tryd.runUnderlying86 rfl Tryd.sizeOf80 (by decide) rfl))<|rgs (v1&&(v2.2==v4.vE)) true (vL Av4_0_0 v4.vB.length cv4_0_0) rfl rfl rfl rfl (fun hg=>(r_loadBox (gvt (vP b3 0) hg rfl) Tryd.isAgg80 (HS12.look 1 rfl) rfl))<|run_frame (by simp only [sc0,sc1];rfl) ?_
  refine rgs (v1&&(v2.2==v4.vE)) true (vS (strOf v4.vB)) rfl rfl rfl rfl (fun hg=>(r_b2s (gvt (vL Av4_0_0 v4.vB.length cv4_0_0) hg rfl) Tryd.runUnderlying80 Tryd.runUnderlying9 Tryd.runUnderlying5 HS12.sees hrv4_0_0))<|rgs (v1&&(v2.2==v4.vE)) true (vB (strEq (strOf v2.1) (strOf v4.vB))) rfl rfl rfl rfl (fun hg=>(r_streql (gvt (vS (strOf v2.1)) hg rfl) (gvt (vS (strOf v4.vB)) hg rfl)))<|rs (vB ((v1&&(v2.2==v4.vE))&&(strEq (strOf v2.1) (strOf v4.vB)))) (r_pick_and rfl (fun hp=>(gvt (vB (strEq (strOf v2.1) (strOf v4.vB))) (and_i rfl hp) rfl)) rfl)<|rs (vB ((v1&&(v2.2==v4.vE))&&(strEq (strOf v2.1) (strOf v4.vB)))) (r_move rfl)<|run_frame (by simp only [sc0,sc1];rfl) ?_
  refine rgs ((v1&&(v2.2==v4.vE))&&(strEq (strOf v2.1) (strOf v4.vB))) true (vI v3.2) rfl rfl rfl rfl (fun hg=>(r_move rfl))<|rgs ((v1&&(v2.2==v4.vE))&&(strEq (strOf v2.1) (strOf v4.vB))) true (vP b4 1) rfl rfl rfl rfl (fun hg=>(r_fieldBox (n:=1) (o':=1) rfl Tryd.runUnderlying89 rfl Tryd.sizeOf27 (by decide) rfl))<|rgs ((v1&&(v2.2==v4.vE))&&(strEq (strOf v2.1) (strOf v4.vB))) true (vI v5.vE) rfl rfl rfl rfl (fun hg=>(r_loadBox (gvt (vP b4 1) hg rfl) Tryd.isAgg27 (HS12.look 0 rfl) rfl))<|rgs ((v1&&(v2.2==v4.vE))&&(strEq (strOf v2.1) (strOf v4.vB))) true (vB (v3.2==v5.vE)) rfl rfl rfl rfl (fun hg=>(r_bin (gvt (vI v3.2) hg rfl) (gvt (vI v5.vE) hg rfl) rfl))<|run_frame (by simp only [sc0,sc1];rfl) ?_
  refine rs (vB (((v1&&(v2.2==v4.vE))&&(strEq (strOf v2.1) (strOf v4.vB)))&&(v3.2==v5.vE))) (r_pick_and rfl (fun hp=>(gvt (vB (v3.2==v5.vE)) (and_i rfl hp) rfl)) rfl)<|rs (vB (((v1&&(v2.2==v4.vE))&&(strEq (strOf v2.1) (strOf v4.vB)))&&(v3.2==v5.vE))) (r_move rfl)<|rgs (((v1&&(v2.2==v4.vE))&&(strEq (strOf v2.1) (strOf v4.vB)))&&(v3.2==v5.vE)) true (Value.agg #[vL Av3_0_0 v3.1.vDefs.length cv3_0_0]) rfl rfl rfl rfl (fun hg=>(r_loadBoxAgg (n:=1) (vs:=[vL Av3_0_0 v3.1.vDefs.length cv3_0_0]) rfl Tryd.isAgg24 (HS12.look 2 rfl) Tryd.sizeOf24 rfl rfl))<|rgs (((v1&&(v2.2==v4.vE))&&(strEq (strOf v2.1) (strOf v4.vB)))&&(v3.2==v5.vE)) true (vP b4 0) rfl rfl rfl rfl (fun hg=>(r_fieldBox (n:=1) (o':=0) rfl Tryd.runUnderlying89 rfl Tryd.sizeOf24 (by decide) rfl))<|run_frame (by simp only [sc0,sc1];rfl) ?_
  refine rgs (((v1&&(v2.2==v4.vE))&&(strEq (strOf v2.1) (strOf v4.vB)))&&(v3.2==v5.vE)) true (Value.agg #[vL Av5_0_0 v5.vT.vDefs.length cv5_0_0]) rfl rfl rfl rfl (fun hg=>(r_loadBoxAgg (n:=1) (vs:=[vL Av5_0_0 v5.vT.vDefs.length cv5_0_0]) (gvt (vP b4 0) hg rfl) Tryd.isAgg24 (HS12.look 0 rfl) Tryd.sizeOf24 rfl rfl)) ?_
  obtain ⟨v6,H6,H⟩:=of_bind H
  refine run_g (b:=(((v1&&(v2.2==v4.vE))&&(strEq (strOf v2.1) (strOf v4.vB)))&&(v3.2==v5.vE))) (c:=true) (v:=vB v6) rfl rfl rfl rfl (fun hg=>(does_call_eq Tryd.call30 rfl (map2 (gvt (Value.agg #[vL Av3_0_0 v3.1.vDefs.length cv3_0_0]) hg rfl) (gvt (Value.agg #[vL Av5_0_0 v5.vT.vDefs.length cv5_0_0]) hg rfl)) (taplineref08_Same.calls k v3.1 v5.vT Av3_0_0 cv3_0_0 Av5_0_0 cv5_0_0 HS12.sees hrv3_0_0 hcv3_0_0 hrv5_0_0 hcv5_0_0 (of_pos H6 hg)))) ?_
  intro w13 hE10
  have HS13:=HS12.step hE10
  refine rs (vB ((((v1&&(v2.2==v4.vE))&&(strEq (strOf v2.1) (strOf v4.vB)))&&(v3.2==v5.vE))&&v6)) (r_pick_and rfl (fun hp=>(gvt (vB v6) (and_i rfl hp) rfl)) rfl)<|rs (vB ((((v1&&(v2.2==v4.vE))&&(strEq (strOf v2.1) (strOf v4.vB)))&&(v3.2==v5.vE))&&v6)) (r_assign rfl) ?_
  try simp only [sc0,sc1]
  refine run_nil<|norm_then<|wp_ret ?_
  obtain rfl:=Option.some.inj H
  exact bodyPost_ret (results_1 rfl (one_tmp rfl)) rfl<|⟨rfl,HS13.toE⟩
end Go.Proofs.YtfjppgobidjndaaDoor
namespace Go.M
open Go.RowKit
theorem wrapU8 (x:Int):IntKind.wrap .u8 x=x%256:=by simp [IntKind.wrap,IntKind.bits,IntKind.signed]
theorem wrapU64 (x:Int):IntKind.wrap .u64 x=x%18446744073709551616:=by simp [IntKind.wrap,IntKind.bits,IntKind.signed]
theorem wrapI64 {x:Int} (h0: -9223372036854775808≤x) (h1:x≤9223372036854775807):IntKind.wrap .i64 x=x:=by
 simp [IntKind.wrap,IntKind.bits,IntKind.signed];omega
def enc7:Nat→Nat→List Int
 |0,u=>[(u:Int)]
 |n+1,u=>if u<128 then [(u:Int)] else ((u%128+128:Nat):Int)::enc7 n (u/128)
def dec7:Nat→List Int→Option (Nat×List Int)
 |_,[]=>none
 |i,c::r=>if (i=9∧1<c)∨(0<i∧c=0) then none else if c<128 then some (c.toNat,r) else (dec7 (i+1) r).map fun q=>(c.toNat-128+128*q.1,q.2)
def zig (x:Int):Nat:=if x<0 then (-2*x-1).toNat else (2*x).toNat
def zag (u:Nat):Int:=if u%2=1 then-((u/2:Nat):Int)-1 else ((u/2:Nat):Int)
def I64 (x:Int):Prop:= -9223372036854775808≤x∧x≤9223372036854775807
def encI (x:Int):List Int:=enc7 9 (zig x)
def decI (p:List Int):Option (Int×List Int):=(dec7 0 p).map fun q=>(zag q.1,q.2)
theorem zig_lt {x:Int} (h:I64 x):zig x<2^64:=by unfold I64 at h;unfold zig;split<;>omega
theorem zag_zig (x:Int):zag (zig x)=x:=by unfold zig zag;split<;>split<;>omega
theorem zig_zag (u:Nat):zig (zag u)=u:=by unfold zig zag;split<;>split<;>omega
theorem zag_I64 {u:Nat} (h:u<2^64):I64 (zag u):=by unfold I64 zag;split<;>omega
def Bytes (p:List Int):Prop:=∀c∈p,0≤c∧c≤255
theorem Bytes.nil:Bytes []:=fun c h=>by cases h
theorem Bytes.cons {c:Int} {p:List Int} (h0:0≤c) (h1:c≤255) (h:Bytes p):Bytes (c::p):=fun x hx=>by
 rcases List.mem_cons.1 hx with rfl|hx
 ·exact ⟨h0,h1⟩
 ·exact h x hx
theorem Bytes.take {p:List Int} (h:Bytes p) (n:Nat):Bytes (p.take n):=fun x hx=>h x (List.mem_of_mem_take hx)
theorem Bytes.drop {p:List Int} (h:Bytes p) (n:Nat):Bytes (p.drop n):=fun x hx=>h x (List.mem_of_mem_drop hx)
theorem enc7_len:∀(n u:Nat),(enc7 n u).length≤n+1∧1≤(enc7 n u).length
  |0,u=>by simp [enc7]
  | n + 1, u => by
    have:=enc7_len n (u/128)
    unfold enc7
    split<;>simp<;>omega
theorem encI_len (x:Int):(encI x).length≤10∧1≤(encI x).length:=enc7_len 9 _
theorem dec_enc7 : ∀ (n i u : Nat) (r : List Int), i + n = 9 → u * 128 ^ i < 2 ^ 64 → (i = 0 ∨ 0 < u) → dec7 i (enc7 n u ++ r) = some (u, r)
  | 0, i, u, r, hi, hu, h0 => by
    obtain rfl:i=9:=by omega
    have:u=1:=by
      have h2:(128:Nat)^9=9223372036854775808:=Nat.eq_of_beq_eq_true rfl
      have h3:(2:Nat)^64=18446744073709551616:=Nat.eq_of_beq_eq_true rfl
      rw [h2,h3] at hu
      omega
    subst this
    simp [enc7,dec7]
  | n + 1, i, u, r, hi, hu, h0 => by
    unfold enc7
    by_cases h:u<128
    · rw [if_pos h]
      show dec7 i ((u:Int)::r)=_
      unfold dec7
      rw [if_neg (by omega),if_pos (by omega)]
      simp
    · rw [if_neg h]
      show dec7 i (((u%128+128:Nat):Int)::(enc7 n (u/128)++r))=_
      unfold dec7
      rw [if_neg (by omega),if_neg (by omega),dec_enc7 n (i+1) (u/128) r (by omega) ?_ (by omega)]
      · have e:u%128+128-128+128*(u/128)=u:=by omega
        simp only [Option.map_some,Int.toNat_natCast,e]
      · refine Nat.lt_of_le_of_lt ?_ hu
        rw [Nat.pow_succ,Nat.mul_comm (128^i),←Nat.mul_assoc]
        exact Nat.mul_le_mul_right _ (Nat.div_mul_le_self u 128)
theorem decI_encI {x:Int} (h:I64 x) (r:List Int):decI (encI x++r)=some (x,r):=by
 unfold decI encI
 rw [dec_enc7 9 0 (zig x) r rfl (by simpa using zig_lt h) (.inl rfl)]
 simp [zag_zig]
theorem enc_dec7 : ∀ (n i : Nat) (p : List Int) (u : Nat) (r : List Int), i + n = 9 → Bytes p → dec7 i p = some (u, r) → enc7 n u ++ r = p ∧ u * 128 ^ i < 2 ^ 64 ∧ (0 < i → 0 < u)
  |n,i,[],u,r,hi,hb,h=>by simp [dec7] at h
  | 0, i, c :: q, u, r, hi, hb, h => by
    obtain rfl:i=9:=by omega
    unfold dec7 at h
    have hc:=hb c List.mem_cons_self
    split at h
    · cases h
    · rename_i hn
      split at h
      · obtain ⟨rfl,rfl⟩:=Prod.mk.inj (Option.some.inj h)
        have:c=1:=by omega
        subst this
        exact ⟨rfl,by decide,fun _=>by decide⟩
      · omega
  | n + 1, i, c :: q, u, r, hi, hb, h => by
    unfold dec7 at h
    have hc:=hb c List.mem_cons_self
    have hq:Bytes q:=fun x hx=>hb x (List.mem_cons_of_mem _ hx)
    split at h
    · cases h
    · rename_i hn
      split at h
      · rename_i hl
        obtain ⟨rfl,rfl⟩:=Prod.mk.inj (Option.some.inj h)
        unfold enc7
        rw [if_pos (by omega)]
        refine ⟨by simp;omega,?_,fun h0=>by omega⟩
        have h1:(128:Nat)^i≤128^8:=Nat.pow_le_pow_right (by decide) (by omega)
        have h2:c.toNat<128:=by omega
        have h3:c.toNat*128^i≤127*128^8:=Nat.mul_le_mul (by omega) h1
        have h4:127*128^8+1≤2^64:=Nat.le_of_ble_eq_true rfl
        omega
      · rename_i hl
        cases hd:dec7 (i+1) q with
        |none=>rw [hd] at h;cases h
        | some v =>
          obtain ⟨v,r'⟩:=v
          rw [hd] at h
          obtain ⟨rfl,rfl⟩:=Prod.mk.inj (Option.some.inj h)
          obtain ⟨h1,h2,h3⟩:=enc_dec7 n (i+1) q v r' (by omega) hq hd
          have h3:=h3 (by omega)
          unfold enc7
          rw [if_neg (by omega)]
          have e1:(c.toNat-128+128*v)%128+128=c.toNat:=by omega
          have e2:(c.toNat-128+128*v)/128=v:=by omega
          rw [e1,e2]
          refine ⟨?_,?_,fun _=>by omega⟩
          · show ((c.toNat:Nat):Int)::(enc7 n v++r')=c::q
            rw [h1,Int.toNat_of_nonneg hc.1]
          · rw [Nat.pow_succ,Nat.mul_comm (128^i),←Nat.mul_assoc] at h2
            have h5:c.toNat-128<128:=by omega
            have h6:(c.toNat-128+128*v)≤v*128+127:=by omega
            have h7:128^(i+1)*(v+1)≤2^64:=by
              have hp:(2:Nat)^64=128^(i+1)*2^(64-7*(i+1)):=by
                rw [show (128:Nat)=2^7 from rfl,←Nat.pow_mul,←Nat.pow_add]
                congr 1
                omega
              rw [hp]
              refine Nat.mul_le_mul_left _ ?_
              have h8:128^(i+1)*v<128^(i+1)*2^(64-7*(i+1)):=by
                rw [←hp,Nat.pow_succ,Nat.mul_comm,Nat.mul_comm (128^i),←Nat.mul_assoc]
                exact h2
              exact Nat.lt_of_mul_lt_mul_left h8
            have h9:(c.toNat-128+128*v+1)*128^i≤128^(i+1)*(v+1):=by
              rw [Nat.pow_succ,Nat.mul_comm (128^i) 128,Nat.mul_comm (128*128^i),←Nat.mul_assoc]
              exact Nat.mul_le_mul_right _ (by omega)
            have h10:0<(128:Nat)^i:=Nat.pow_pos (by decide)
            have h11:(c.toNat-128+128*v+1)*128^i=(c.toNat-128+128*v)*128^i+128^i:=by rw [Nat.add_mul,Nat.one_mul]
            show (c.toNat-128+128*v)*128^i<2^64
            have h12:=Nat.le_trans h9 h7
            rw [h11] at h12
            omega
theorem encI_decI {p r:List Int} {x:Int} (hb:Bytes p) (h:decI p=some (x,r)):encI x++r=p∧I64 x:=by
  unfold decI at h
  cases hd:dec7 0 p with
  |none=>rw [hd] at h;cases h
  | some v =>
    rw [hd] at h
    obtain ⟨rfl,rfl⟩:=Prod.mk.inj (Option.some.inj h)
    obtain ⟨h1,h2,_⟩:=enc_dec7 9 0 p v.1 v.2 rfl hb hd
    unfold encI
    rw [zig_zag]
    exact ⟨h1,zag_I64 (by simpa using h2)⟩
theorem dec7_suffix : ∀ (i : Nat) (p : List Int) (u : Nat) (r : List Int), dec7 i p = some (u, r) → ∃ j, 0 < j ∧ j ≤ p.length ∧ r = p.drop j
  |i,[],u,r,h=>by simp [dec7] at h
  | i, c :: q, u, r, h => by
    unfold dec7 at h
    split at h
    · cases h
    · split at h
      · obtain ⟨rfl,rfl⟩:=Prod.mk.inj (Option.some.inj h)
        exact ⟨1,by omega,by simp,rfl⟩
      · cases hd:dec7 (i+1) q with
        |none=>rw [hd] at h;cases h
        | some v =>
          rw [hd] at h
          obtain ⟨rfl,rfl⟩:=Prod.mk.inj (Option.some.inj h)
          obtain ⟨j,h0,h1,h2⟩:=dec7_suffix (i+1) q v.1 v.2 hd
          exact ⟨j+1,by omega,by simpa using h1,by rw [h2];rfl⟩
theorem decI_suffix {p r:List Int} {x:Int} (h:decI p=some (x,r)):∃j,0<j∧j≤p.length∧r=p.drop j:=by
  unfold decI at h
  cases hd:dec7 0 p with
  |none=>rw [hd] at h;cases h
  | some v =>
    rw [hd] at h
    obtain ⟨rfl,rfl⟩:=Prod.mk.inj (Option.some.inj h)
    exact dec7_suffix 0 p v.1 v.2 hd
theorem or_u64 {a y i:Nat} (ha:a<2^i) (hy:a+y*2^i<2^64):iOr .u64 (a:Int) ((y*2^i:Nat):Int)=((a+y*2^i:Nat):Int):=by
 have e:∀n:Nat,n<2^64→(BitVec.ofInt 64 (n:Int)).toNat=n:=fun n h=>by
  rw [BitVec.toNat_ofInt]
  have:((2^64:Nat):Int)=18446744073709551616:=rfl
  rw [this]
  have:n<18446744073709551616:=h
  omega
 have hb:(BitVec.ofInt 64 (a:Int)|||BitVec.ofInt 64 ((y*2^i:Nat):Int)).toNat=a+y*2^i:=by
  rw [BitVec.toNat_or,e a (by omega),e _ (by omega),Nat.mul_comm y,Nat.or_comm,←Nat.two_pow_add_eq_or_of_lt ha y]
  omega
 show IntKind.wrap .u64 ((BitVec.ofInt 64 (a:Int)|||BitVec.ofInt 64 ((y*2^i:Nat):Int)).toNat:Int)=_
 rw [hb,wrapU64]
 have:a+y*2^i<18446744073709551616:=hy
 omega
theorem shl_u64 {y i:Nat} (hi:i<64) (hy:y*2^i<2^64):iShl .u64 (y:Int) (i:Int)=((y*2^i:Nat):Int):=by
 show IntKind.wrap .u64 ((y:Int)*2^(min (i:Int).toNat 64))=_
 have:min (i:Int).toNat 64=i:=by simp;omega
 rw [this,wrapU64,show (y:Int)*2^i=((y*2^i:Nat):Int) by simp]
 have:y*2^i<18446744073709551616:=hy
 omega
theorem and_u8 {c:Nat} (h:c<256):iAnd .u8 (c:Int) 127=((c%128:Nat):Int):=by
 have:∀c:Fin 256,iAnd .u8 ((c:Nat):Int) 127=(((c:Nat)%128:Nat):Int):=by decide+kernel
 exact this ⟨c,h⟩
theorem or_u8 {c:Nat} (h:c<256):iOr .u8 (c:Int) 128=((c%128+128:Nat):Int):=by
 have:∀c:Fin 256,iOr .u8 ((c:Nat):Int) 128=(((c:Nat)%128+128:Nat):Int):=by decide+kernel
 exact this ⟨c,h⟩
theorem shr_u64 (u i:Nat) (hi:i≤64):iShr .u64 (u:Int) (i:Int)=((u/2^i:Nat):Int):=by
 show ((u:Int)).fdiv (2^(min (i:Int).toNat 64))=_
 have:min (i:Int).toNat 64=i:=by simp;omega
 rw [this,Int.fdiv_eq_ediv_of_nonneg _ (by exact Int.le_of_lt (Int.pow_pos (by decide)))]
 simp
theorem and1_u64 {u:Nat} (h:u<2^64):iAnd .u64 (u:Int) 1=((u%2:Nat):Int):=by
 have e:(BitVec.ofInt 64 (u:Int)).toNat=u:=by
  rw [BitVec.toNat_ofInt]
  have:((2^64:Nat):Int)=18446744073709551616:=rfl
  rw [this]
  have:u<18446744073709551616:=h
  omega
 show IntKind.wrap .u64 ((BitVec.ofInt 64 (u:Int)&&&BitVec.ofInt 64 1).toNat:Int)=_
 rw [BitVec.toNat_and,e,show (BitVec.ofInt 64 1).toNat=1 from rfl,Nat.and_one_is_mod,wrapU64]
 omega
theorem not_u64 {u:Nat} (h:u<2^64):iNot .u64 (u:Int)=((2^64-1-u:Nat):Int):=by
 have h':u<18446744073709551616:=h
 show IntKind.wrap .u64 ((BitVec.ofInt 64 (IntKind.max .u64)^^^BitVec.ofInt 64 (u:Int)).toNat:Int)=_
 have e1:BitVec.ofInt 64 (IntKind.max .u64)=BitVec.allOnes 64:=by decide
 have e2:BitVec.ofInt 64 (u:Int)=BitVec.ofNat 64 u:=by
  apply BitVec.eq_of_toNat_eq
  rw [BitVec.toNat_ofInt,BitVec.toNat_ofNat]
  have:((2^64:Nat):Int)=18446744073709551616:=rfl
  rw [this]
  omega
 rw [e1,e2,BitVec.allOnes_xor,BitVec.toNat_not,BitVec.toNat_ofNat,wrapU64]
 omega
theorem not_i64 {n:Nat} (h:n<2^63):iNot .i64 (n:Int)= -(n:Int)-1:=by
 have h':n<9223372036854775808:=h
 show IntKind.wrap .i64 ((BitVec.ofInt 64 (-1)^^^BitVec.ofInt 64 (n:Int)).toNat:Int)=_
 have e1:BitVec.ofInt 64 (-1)=BitVec.allOnes 64:=by decide
 have e2:BitVec.ofInt 64 (n:Int)=BitVec.ofNat 64 n:=by
  apply BitVec.eq_of_toNat_eq
  rw [BitVec.toNat_ofInt,BitVec.toNat_ofNat]
  have:((2^64:Nat):Int)=18446744073709551616:=rfl
  rw [this]
  omega
 rw [e1,e2,BitVec.allOnes_xor,BitVec.toNat_not,BitVec.toNat_ofNat]
 have:2^64-1-n%2^64=18446744073709551615-n:=by omega
 rw [this]
 simp [IntKind.wrap,IntKind.bits,IntKind.signed]
 omega
end Go.M
namespace Go.Proofs.YtfjppgobidjndaaDoor
open Go.RowKit Go.M
section
variable {t:api_Types} {l:List Int}
structure MemOk (t:api_Types) (mem:Nat→ByteArray→api_Field×Int):Prop where
 ev:∀i name,i<t.vDefs.length→Ev (fun k=>ctf_member.f k t (i:Int) name) (mem i name)
 typ:∀i name,i<t.vDefs.length→(mem i name).2=0→0≤(mem i name).1.vType∧(mem i name).1.vType<t.vDefs.length
end
set_option maxRecDepth 100000 in
theorem sane_at (k:Nat):taplinelaw08_sane.f (k+60)=some true:=by kernel_rfl
theorem sane_ev : Ev (fun k => taplinelaw08_sane.f k) true := ⟨60, fun k hk => by
 obtain ⟨m,rfl⟩:∃m,k=m+60:=⟨k-60,by omega⟩
 exact sane_at m⟩
theorem byteAt_rd (s:ByteArray) (i:Int):byteAt s i=rd 0 (bytesOf s) i:=by
 unfold byteAt rd bytesOf
 rw [List.getD_eq_getElem?_getD,List.getD_eq_getElem?_getD,List.getElem?_map]
 cases s.data.toList[i.toNat]?<;>rfl
theorem rname_loop {s:ByteArray} (hl:s.size≤9223372036854775807):∀(d j m:Nat),j+d=s.size→d<m→
    taplineref08_Name.l0 s m (j:Int)=some (if okFrom j ((bytesOf s).drop j)=true then .inr () else .inl false):=by
  have hb:=bytesOf_length s
  intro d
  induction d with
  | zero =>
    intro j m hj hm
    obtain ⟨m,rfl⟩:∃q,m=q+1:=⟨m-1,by omega⟩
    rw [taplineref08_Name.l0,if_neg (by simp;omega),List.drop_eq_nil_of_le (by omega)]
    rfl
  | succ d ih =>
    intro j m hj hm
    obtain ⟨m,rfl⟩:∃q,m=q+1:=⟨m-1,by omega⟩
    have hlt:j<s.size:=by omega
    have h1:=name_loop (s:=s) (by omega) (d+1) j (m+1) (by omega) (by omega)
    rw [ctf_isName.l0,if_pos (by simp;omega),if_pos (by omega)] at h1
    rw [taplineref08_Name.l0,if_pos (by simp;omega),if_pos (by omega),byteAt_rd]
    rw [←h1]
    split
    · rfl
    · rw [wrap_nat hlt hl,ih (j+1) m (by omega) (by omega),name_loop (by omega) d (j+1) m (by omega) (by omega)]
theorem empty_iff (s:ByteArray):strEq s ByteArray.empty=decide (s.size=0):=by
 by_cases h:s.size=0
 ·have:s=ByteArray.empty:=by
   cases s with|mk d=>
   have:d=#[]:=Array.size_eq_zero_iff.1 h
   subst this;rfl
  rw [decide_eq_true h];exact strEq_iff.2 this
 ·rw [decide_eq_false h]
  cases hs:strEq s ByteArray.empty with
  |false=>rfl
  |true=>exact absurd (by rw [strEq_iff.1 hs];rfl) h
theorem rname_ev {s:ByteArray} (hs:s.size≤9223372036854775807):Ev (fun k=>taplineref08_Name.f k s) (nameS s):=by
 refine ⟨s.size+1,fun k hk=>?_⟩
 show taplineref08_Name.f k s=_
 unfold taplineref08_Name.f nameS
 rw [empty_iff]
 by_cases h0:s.size=0
 ·rw [if_pos (by simp [h0])];simp [h0]
 ·by_cases h1:(s.size:Int)≤31
  ·rw [if_neg (by simp only [Bool.or_eq_true,beq_iff_eq,decide_eq_true_eq];omega),show (0:Int)=((0:Nat):Int) from rfl,rname_loop hs s.size 0 k (by omega) (by omega),List.drop_zero]
   cases okFrom 0 (bytesOf s)<;>simp [h0,h1]
  ·rw [if_pos (by simp only [Bool.or_eq_true,beq_iff_eq,decide_eq_true_eq];omega)];simp [h1]
def namesS:List ByteArray→List api_Field→Bool
 |_,[]=>true
 |ns,f::r=>nameS f.vName&& !(ns.any (strEq f.vName))&&namesS (f.vName::ns) r
theorem fieldsS_eq (d:api_Def) (n:Int):∀(l:List api_Field) (ns:List ByteArray),fieldsS d n ns l=(namesS ns l&&l.all (fieldOk d n))
  |[],ns=>rfl
  | f :: r, ns => by
    simp only [fieldsS,namesS,fieldsS_eq d n r,List.all_cons]
    cases nameS f.vName<;>cases (ns.any (strEq f.vName))<;>cases (fieldOk d n f)<;>cases (namesS (f.vName::ns) r)<;>rfl
theorem seen_loop {l:List api_Field} (hl:l.length≤9223372036854775807) {i:Nat} (hi:i<l.length):∀(e j m:Nat),j+e=i→e<m→
    taplineref08_fields.l1 l (i:Int) m (j:Int)=some (if (((l.take i).drop j).any fun f=>strEq f.vName (l.getD i z_api_Field).vName)=true then .inl false else .inr ()):=by
  intro e
  induction e with
  | zero =>
    intro j m hj hm
    obtain ⟨m,rfl⟩:∃q,m=q+1:=⟨m-1,by omega⟩
    rw [taplineref08_fields.l1,if_neg (by simp;omega),List.drop_eq_nil_of_le (by simp;omega)]
    rfl
  | succ e ih =>
    intro j m hj hm
    obtain ⟨m,rfl⟩:∃q,m=q+1:=⟨m-1,by omega⟩
    have hlt:j<l.length:=by omega
    have hd:(l.take i).drop j=l.getD j z_api_Field::(l.take i).drop (j+1):=by
      rw [drop_getD z_api_Field (by simp;omega)]
      congr 1
      rw [List.getD_eq_getElem?_getD,List.getD_eq_getElem?_getD,List.getElem?_take,if_pos (by omega)]
    rw [taplineref08_fields.l1,if_pos (by simp;omega),if_pos (by omega),if_pos (by omega),rd_nat,rd_nat,hd,List.any_cons]
    by_cases h:strEq (l.getD j z_api_Field).vName (l.getD i z_api_Field).vName=true
    · rw [if_pos h,h];rfl
    · rw [if_neg h,wrap_nat hlt hl,ih (j+1) m (by omega) (by omega)]
      rw [Bool.not_eq_true] at h
      rw [h,Bool.false_or]
theorem any_rev (l:List api_Field) (s:ByteArray):((l.map (·.vName)).reverse.any (strEq s))=l.any fun f=>strEq f.vName s:=by
 rw [List.any_reverse,List.any_map]
 congr 1
 funext f
 exact strEq_comm _ _
theorem fields_loop {l : List api_Field} (hl : l.length ≤ 9223372036854775807) (hz : ∀ f ∈ l, f.vName.size ≤ 9223372036854775807) : ∀ (e j : Nat), j + e = l.length →
    Ev2 (fun k m=>taplineref08_fields.l0 k l m (j:Int)) (if namesS ((l.take j).map (·.vName)).reverse (l.drop j)=true then .inr () else .inl false):=by
  intro e
  induction e with
  | zero =>
    intro j hj
    refine Ev2.pure fun k m=>?_
    rw [taplineref08_fields.l0,if_neg (by simp;omega),List.drop_eq_nil_of_le (by omega)]
    rfl
  | succ e ih =>
    intro j hj
    have hlt:j<l.length:=by omega
    have hmem:=getD_mem (z:=z_api_Field) hlt
    have h1:=rname_ev (hz _ hmem)
    have h2:=ih (j+1) (by omega)
    have ht:((l.take (j+1)).map (·.vName)).reverse=(l.getD j z_api_Field).vName::((l.take j).map (·.vName)).reverse:=by
      rw [List.take_add_one,List.map_append,List.reverse_append]
      rw [List.getD_eq_getElem?_getD,List.getElem?_eq_getElem hlt]
      rfl
    rw [ht] at h2
    rw [drop_getD z_api_Field hlt,namesS]
    refine Ev2.step h1 (r:=fun k m v1=>if (!v1)=true then (some (.inl false)) else ((taplineref08_fields.l1 l (j:Int) k 0).bind fun xx2=>(match xx2 with| .inl r=>some (.inl r)| .inr s1=>taplineref08_fields.l0 k l m ((j+1:Nat):Int)))) ?_ (fun k m=>?_)
    · rcases Bool.eq_false_or_eq_true (nameS (l.getD j z_api_Field).vName) with hn|hn
      · obtain ⟨K,hK⟩:=h2
        rw [hn]
        refine ⟨max K (j+1),fun k m hk hm=>?_⟩
        have h3:=seen_loop hl hlt j 0 k (by omega) (by omega)
        rw [List.drop_zero] at h3
        simp only [Bool.not_true,Bool.false_eq_true,if_false,Bool.true_and]
        rw [show taplineref08_fields.l1 l (j:Int) k 0=_ from h3,any_rev]
        cases ha:(l.take j).any fun f=>strEq f.vName (l.getD j z_api_Field).vName with
        |true=>simp
        |false=>simpa using hK k m (by omega) (by omega)
      · exact ⟨0,fun k m _ _=>by rw [hn];rfl⟩
    · rw [taplineref08_fields.l0,if_pos (by simp;omega),if_pos (by omega),rd_nat,wrap_nat hlt hl]
      try rfl
theorem fields_ev {l:List api_Field} (hl:l.length≤9223372036854775807) (hz:∀f∈l,f.vName.size≤9223372036854775807):
  Ev (fun k=>taplineref08_fields.f k l) (decide (0<l.length)&&decide (l.length≤32)&&namesS [] l):=by
 by_cases h:l.length=0∨32<l.length
 ·refine Ev.pure fun k=>?_
  unfold taplineref08_fields.f
  rw [if_pos (by simp only [Bool.or_eq_true,beq_iff_eq,decide_eq_true_eq];omega)]
  rcases h with h|h
  ·simp [h]
  ·rw [decide_eq_false (p:=l.length≤32) (by omega)];simp
 ·obtain ⟨K,hK⟩:=(fields_loop hl hz l.length 0 (by omega)).diag
  refine ⟨K,fun k hk=>?_⟩
  show taplineref08_fields.f k l=_
  unfold taplineref08_fields.f
  rw [if_neg (by simp only [Bool.or_eq_true,beq_iff_eq,decide_eq_true_eq];omega),show taplineref08_fields.l0 k l k 0=_ from hK k hk,decide_eq_true (p:=0<l.length) (by omega),decide_eq_true (p:=l.length≤32) (by omega)]
  simp only [List.take_zero,List.map_nil,List.reverse_nil,List.drop_zero]
  cases namesS [] l<;>rfl
theorem rshaped_loop {t : api_Types} {d : api_Def} (hl : d.vFields.length ≤ 9223372036854775807) : ∀ (e j m : Nat), j + e = d.vFields.length → e < m →
    taplineref08_shaped.l0 t d m (j:Int)=some (if (d.vFields.drop j).all (fieldOk d (t.vDefs.length:Int))=true then .inr () else .inl false):=by
  intro e
  induction e with
  | zero =>
    intro j m hj hm
    obtain ⟨m,rfl⟩:∃q,m=q+1:=⟨m-1,by omega⟩
    rw [taplineref08_shaped.l0,if_neg (by simp;omega),List.drop_eq_nil_of_le (by omega)]
    rfl
  | succ e ih =>
    intro j m hj hm
    obtain ⟨m,rfl⟩:∃q,m=q+1:=⟨m-1,by omega⟩
    have hlt:j<d.vFields.length:=by omega
    rw [taplineref08_shaped.l0,if_pos (by simp;omega),if_pos (by omega),rd_nat,drop_getD z_api_Field hlt,wrap_nat hlt hl,ih (j+1) m (by omega) (by omega),List.all_cons]
    generalize d.vFields.getD j z_api_Field=f
    unfold fieldOk taplineref08_Index.f
    by_cases h4:d.vKind=4
    · have h5:(d.vKind==5)=false:=by simp [h4]
      by_cases ha:f.vType<0
      · simp [h4,h5,ha]
        intro h;omega
      · by_cases hb:f.vType<(t.vDefs.length:Int)
        · have h0:(0:Int)≤f.vType:=by omega
          have h1:¬((t.vDefs.length:Int)≤f.vType):=by omega
          simp [h4,h5,ha,hb,h0,h1]
        · have h1:(t.vDefs.length:Int)≤f.vType:=by omega
          simp [h4,h5,ha,hb,h1]
    · by_cases h5:d.vKind=5
      · cases hx:((f.vType !=0)||(decide (f.vAt<(-2147483648))))||(decide (f.vAt>2147483647))<;>simp [h5,hx]
      · simp [h4,h5]
theorem all_fields_free {d:api_Def} {n:Int} (h4:d.vKind≠4) (h5:d.vKind≠5) (l:List api_Field):l.all (fieldOk d n)=true:=by
 rw [List.all_eq_true]
 intro f _
 unfold fieldOk
 simp [h4,h5]
theorem rshaped_ev {t:api_Types} {d:api_Def} (hl:d.vFields.length≤9223372036854775807) (hz:∀f∈d.vFields,f.vName.size≤9223372036854775807) (hz0:d.vName.size≤9223372036854775807):
  Ev (fun k=>taplineref08_shaped.f k t d) (shapedS d (t.vDefs.length:Int)):=by
 obtain ⟨Kn,hKn⟩:=rname_ev hz0
 obtain ⟨Kf,hKf⟩:=fields_ev hl hz
 have hw:strEq d.vName ByteArray.empty=true→nameS d.vName=false:=by
  intro h;unfold nameS;rw [h];simp
 refine ⟨max (max Kn Kf) (d.vFields.length+1),fun k hk=>?_⟩
 show taplineref08_shaped.f k t d=_
 have h1:=hKn k (by omega)
 have h2:=hKf k (by omega)
 have h3:=rshaped_loop (t:=t) (d:=d) hl d.vFields.length 0 k (by omega) (by omega)
 rw [List.drop_zero] at h3
 unfold taplineref08_shaped.f taplineref08_unused.f taplineref08_Named.f taplineref08_Index.f shapedS shp
 simp only [h1,h2,show taplineref08_shaped.l0 t d k 0=_ from h3,fieldsS_eq]
 have hlen:∀n:Nat,((n:Int)==0)=decide (n=0):=by intro n;by_cases h:n=0<;>simp [h]
 have hpos:∀n:Nat,decide (0<n)= !decide (n=0):=by intro n;by_cases h:n=0<;>simp [h];omega
 rw [hlen,hpos]
 have hnil:decide (d.vFields.length=0)=true→namesS [] d.vFields=true:=by
  intro h
  have:d.vFields=[]:=List.length_eq_zero_iff.1 (of_decide_eq_true h)
  rw [this];rfl
 have hz32:decide (d.vFields.length=0)=true→decide (d.vFields.length≤32)=true:=by
  intro h
  exact decide_eq_true (by have:=of_decide_eq_true h;omega)
 have h55:∀x:Int,(x==0)=decide (x=0):=by intro x;by_cases h:x=0<;>simp [h]
 have hcase:d.vKind<1∨d.vKind>6∨d.vKind=1∨d.vKind=2∨d.vKind=3∨d.vKind=4∨d.vKind=5∨d.vKind=6:=by omega
 have hall:=fun a b=>all_fields_free (d:=d) (n:=(t.vDefs.length:Int)) a b d.vFields
 generalize d.vFields.all (fieldOk d (t.vDefs.length:Int))=F at*
 generalize nameS d.vName=A at*
 generalize strEq d.vName ByteArray.empty=B at*
 generalize decide (d.vFields.length=0)=C at*
 generalize decide (d.vFields.length≤32)=D at*
 generalize namesS [] d.vFields=E at*
 generalize d.vKind=K at*
 generalize d.vInt=I at*
 generalize d.vN=N at*
 generalize d.vRef=R at*
 clear h1 h2 h3 hKn hKf hl hz hz0
 have hI:(I.vSigned==false)= !I.vSigned:=by cases I.vSigned<;>rfl
 have hge:decide (R≥0)=decide (0≤R):=rfl
 have hgN:decide (N≥1)=decide (1≤N):=rfl
 rcases hcase with h|h|rfl|rfl|rfl|rfl|rfl|rfl
 ·simp only [show¬K=1 from by omega,show¬K=2 from by omega,show¬K=3 from by omega,show¬K=4 from by omega,show¬K=5 from by omega,show¬K=6 from by omega,if_false,decide_eq_true h]
  simp
 ·simp only [show¬K=1 from by omega,show¬K=2 from by omega,show¬K=3 from by omega,show¬K=4 from by omega,show¬K=5 from by omega,show¬K=6 from by omega,if_false,decide_eq_true h]
  simp
 ·rw [hall (by omega) (by omega)]
  simp only [okI,hI,hge,hgN,Int.reduceBEq,Int.reduceBNe,Int.reduceLT,Int.reduceGT,Int.reduceEq,bne,eq_self,Bool.false_eq_true,Bool.not_true,Bool.not_false,Bool.true_and,Bool.false_and,Bool.and_true,Bool.and_false,Bool.or_self,Bool.or_false,Bool.false_or,Bool.true_or,Option.bind_some,if_true,if_false,decide_true,decide_false]
  generalize (I.vSize==1||I.vSize==2||I.vSize==4||I.vSize==8)=a at*
  generalize (I.vSize==0)=a0 at*
  generalize I.vSigned=b at*
  generalize (R==0)=r at*
  generalize (N==0)=n at*
  revert hw hz32 hnil
  clear hall hlen hpos h55 hI hge hgN
  clear a0 b
  revert A B C D E a r n
  decide
 ·rw [hall (by omega) (by omega)]
  simp only [okI,hI,hge,hgN,Int.reduceBEq,Int.reduceBNe,Int.reduceLT,Int.reduceGT,Int.reduceEq,bne,eq_self,Bool.false_eq_true,Bool.not_true,Bool.not_false,Bool.true_and,Bool.false_and,Bool.and_true,Bool.and_false,Bool.or_self,Bool.or_false,Bool.false_or,Bool.true_or,Option.bind_some,if_true,if_false,decide_true,decide_false]
  generalize (I.vSize==0)=a at*
  generalize I.vSigned=b at*
  generalize decide (0≤R)=r at*
  generalize decide (R<(t.vDefs.length:Int))=r2 at*
  generalize (N==0)=n at*
  revert hw hz32 hnil
  clear hall hlen hpos h55 hI hge hgN
  revert A B C D E a b r r2 n
  decide
 ·rw [hall (by omega) (by omega)]
  simp only [okI,hI,hge,hgN,Int.reduceBEq,Int.reduceBNe,Int.reduceLT,Int.reduceGT,Int.reduceEq,bne,eq_self,Bool.false_eq_true,Bool.not_true,Bool.not_false,Bool.true_and,Bool.false_and,Bool.and_true,Bool.and_false,Bool.or_self,Bool.or_false,Bool.false_or,Bool.true_or,Option.bind_some,if_true,if_false,decide_true,decide_false]
  generalize (I.vSize==0)=a at*
  generalize I.vSigned=b at*
  generalize decide (0≤R)=r at*
  generalize decide (R<(t.vDefs.length:Int))=r2 at*
  generalize decide (1≤N)=n at*
  generalize decide (N≤512)=n2 at*
  revert hw hz32 hnil
  clear hall hlen hpos h55 hI hge hgN
  revert A B C D E a b r r2 n n2
  decide
 ·simp only [okI,hI,hge,hgN,Int.reduceBEq,Int.reduceBNe,Int.reduceLT,Int.reduceGT,Int.reduceEq,bne,eq_self,Bool.false_eq_true,Bool.not_true,Bool.not_false,Bool.true_and,Bool.false_and,Bool.and_true,Bool.and_false,Bool.or_self,Bool.or_false,Bool.false_or,Bool.true_or,Option.bind_some,if_true,if_false,decide_true,decide_false]
  generalize (I.vSize==0)=a at*
  generalize I.vSigned=b at*
  generalize (R==0)=r at*
  generalize decide (1≤N)=n at*
  generalize decide (N≤512)=n2 at*
  revert hw hz32 hnil
  clear hall hlen hpos h55 hI hge hgN
  revert A B C D E F a b r n n2
  decide
 ·simp only [okI,hI,hge,hgN,Int.reduceBEq,Int.reduceBNe,Int.reduceLT,Int.reduceGT,Int.reduceEq,bne,eq_self,Bool.false_eq_true,Bool.not_true,Bool.not_false,Bool.true_and,Bool.false_and,Bool.and_true,Bool.and_false,Bool.or_self,Bool.or_false,Bool.false_or,Bool.true_or,Option.bind_some,if_true,if_false,decide_true,decide_false]
  generalize (I.vSize==0)=a at*
  generalize I.vSigned=b at*
  generalize (R==0)=r at*
  generalize (N==0)=n at*
  generalize decide (1≤N)=n1 at*
  generalize decide (N≤512)=n2 at*
  revert hw hz32 hnil
  clear hall hlen hpos h55 hI hge hgN
  clear n1 n2
  revert A B C D E F a b r n
  decide
 ·rw [hall (by omega) (by omega)]
  simp only [okI,hI,hge,hgN,Int.reduceBEq,Int.reduceBNe,Int.reduceLT,Int.reduceGT,Int.reduceEq,bne,eq_self,Bool.false_eq_true,Bool.not_true,Bool.not_false,Bool.true_and,Bool.false_and,Bool.and_true,Bool.and_false,Bool.or_self,Bool.or_false,Bool.false_or,Bool.true_or,Option.bind_some,if_true,if_false,decide_true,decide_false]
  generalize (I.vSize==0)=a at*
  generalize I.vSigned=b at*
  generalize decide (0≤R)=r at*
  generalize decide (R<(t.vDefs.length:Int))=r2 at*
  generalize (N==0)=n at*
  revert hw hz32 hnil
  clear hall hlen hpos h55 hI hge hgN
  revert A B C D E a b r r2 n
  decide
structure GoodSz (defs:List api_Def) (g:List Int):Prop where
 len:g.length=defs.length
 ex:∃rk:Nat→Nat,∀j,j<defs.length→0<g.getD j 0∧g.getD j 0≤512∧(∀c∈cont (defs.getD j z_api_Def),rk c.toNat<rk j)∧g.getD j 0=nval (defs.getD j z_api_Def) (inner g (defs.getD j z_api_Def))
theorem GoodT.good {t:api_Types} {l:List Int} (G:GoodT t l):GoodSz t.vDefs l:=by
 refine ⟨G.len,?_⟩
 obtain ⟨rk,B,h⟩:=G.jn
 exact ⟨rk, fun j hj => by
  obtain ⟨h1,h2,h3,h4⟩:=h j hj (G.pos j hj)
  exact ⟨G.pos j hj, h2, fun c hc => (h3 c hc).2, h4⟩⟩
section
variable {defs:List api_Def} {g:List Int} {rk:Nat→Nat}
structure Mid (defs:List api_Def) (g:List Int) (out:List Int) (bg:List Bool) (out':List Int) (bg':List Bool):Prop where
 lo:out'.length=defs.length
 lb:bg'.length=defs.length
 val:∀j,j<defs.length→out'.getD j 0=0∨out'.getD j 0=g.getD j 0
 keep:∀j,0<out.getD j 0→out'.getD j 0=out.getD j 0
 stk:∀j,bg'.getD j false=true→out'.getD j 0=0→bg.getD j false=true∧out.getD j 0=0
theorem Mid.trans {o1 o2 o3:List Int} {b1 b2 b3:List Bool} (h:Mid defs g o1 b1 o2 b2) (k:Mid defs g o2 b2 o3 b3):Mid defs g o1 b1 o3 b3:=
 ⟨k.lo, k.lb, k.val, fun j hj => by rw [k.keep j (by rw [h.keep j hj]; exact hj), h.keep j hj], fun j hb ho => by
  obtain ⟨h1,h2⟩:=k.stk j hb ho
  exact h.stk j h1 h2⟩
def CallG (defs:List api_Def) (g:List Int) (i:Nat) (out:List Int) (bg:List Bool):Prop:=∃out' bg',Ev (fun k=>ctf_sizes_1.f k (i:Int) out true bg defs) (g.getD i 0,out',true,bg')∧Mid defs g out bg out' bg'∧out'.getD i 0=g.getD i 0
theorem good_loop {R:Nat} (v1:List Int) (hv:∀c∈v1,0≤c∧c<(defs.length:Int)) (hvl:v1.length≤9223372036854775807) (hr:∀c∈v1,rk c.toNat<R)
    (hc:∀(i:Nat) (out:List Int) (bg:List Bool),i<defs.length→rk i<R→out.length=defs.length→bg.length=defs.length→(∀j,j<defs.length→out.getD j 0=0∨out.getD j 0=g.getD j 0)→(∀j,bg.getD j false=true→out.getD j 0=0→rk i<rk j)→CallG defs g i out bg):
    ∀(e j:Nat) (inn:Int) (out:List Int) (bg:List Bool),j+e=v1.length→out.length=defs.length→bg.length=defs.length→(∀j,j<defs.length→out.getD j 0=0∨out.getD j 0=g.getD j 0)→(∀j,bg.getD j false=true→out.getD j 0=0→R≤rk j)→
    ∃out' bg',(∃K,∀k m,K≤k→K≤m→ctf_sizes_1.l0 (ctf_sizes_1.f k) defs v1 m inn (j:Int) true out bg=some ((v1.drop j).foldl (fun _ c=>g.getD c.toNat 0) inn,true,out',bg'))∧Mid defs g out bg out' bg':=by
  intro e
  induction e with
  | zero =>
    intro j inn out bg hj h1 h2 h3 h4
    refine ⟨out,bg,⟨1,fun k m _ hm=>?_⟩,h1,h2,h3,fun _ _=>rfl,fun j a b=>⟨a,b⟩⟩
    obtain ⟨m,rfl⟩:∃q,m=q+1:=⟨m-1,by omega⟩
    rw [ctf_sizes_1.l0,if_neg (by simp;omega),List.drop_eq_nil_of_le (by omega)]
    rfl
  | succ e ih =>
    intro j inn out bg hj h1 h2 h3 h4
    have hlt:j<v1.length:=by omega
    have hmem:=getD_mem (z:=0) hlt
    have hm:=hv _ hmem
    obtain ⟨i,hi⟩:∃i:Nat,v1.getD j 0=(i:Int):=⟨(v1.getD j 0).toNat,by omega⟩
    have hri:rk i<R:=by have:=hr _ hmem;rw [hi] at this;exact this
    obtain ⟨o1,b1,⟨K1,hK1⟩,hM1,hv1⟩:=hc i out bg (by omega) hri h1 h2 h3 (fun q a b=>by have:=h4 q a b;omega)
    obtain ⟨o2, b2, ⟨K2, hK2⟩, hM2⟩ := ih (j + 1) (g.getD i 0) o1 b1 (by omega) hM1.lo hM1.lb hM1.val (fun q a b => by
      obtain ⟨x,y⟩:=hM1.stk q a b
      exact h4 q x y)
    refine ⟨o2,b2,⟨max K1 K2+1,fun k m hk hm'=>?_⟩,hM1.trans hM2⟩
    obtain ⟨m,rfl⟩:∃q,m=q+1:=⟨m-1,by omega⟩
    rw [ctf_sizes_1.l0,if_pos (by simp;omega),if_pos (by omega),rd_nat,hi,show ctf_sizes_1.f k _ _ _ _ _=_ from hK1 k (by omega)]
    simp only [Option.bind_some]
    rw [wrap_nat hlt hvl,drop_getD 0 hlt,hi]
    exact hK2 k m (by omega) (by omega)
theorem cont_few {d:api_Def} {n:Nat} (hd:ShD d n):(cont d).length≤9223372036854775807:=by
 have:=hd.few
 unfold cont
 split
 ·simp
 ·split
  ·rw [List.length_map];omega
  ·simp
theorem good_call (hS : ∀ d ∈ defs, ShD d defs.length) (hg : ∀ j, j < defs.length → 0 < g.getD j 0 ∧ g.getD j 0 ≤ 512 ∧ (∀ c ∈ cont (defs.getD j z_api_Def), rk c.toNat < rk j) ∧ g.getD j 0 = nval (defs.getD j z_api_Def) (inner g (defs.getD j z_api_Def))) :
    ∀(R i:Nat) (out:List Int) (bg:List Bool),rk i=R→i<defs.length→out.length=defs.length→bg.length=defs.length→(∀j,j<defs.length→out.getD j 0=0∨out.getD j 0=g.getD j 0)→(∀j,bg.getD j false=true→out.getD j 0=0→rk i<rk j)→CallG defs g i out bg:=by
  intro R
  induction R using Nat.strongRecOn with
  | _ R ihR =>
    intro i out bg hR hi h1 h2 h3 h4
    obtain ⟨g1,g2,g3,g4⟩:=hg i hi
    rcases h3 i hi with h0|h0
    · have hb:bg.getD i false=false:=by
        cases hb:bg.getD i false with
        |false=>rfl
        |true=>exact absurd (h4 i hb h0) (by omega)
      have hd:=hS _ (getD_mem (z:=z_api_Def) hi)
      obtain ⟨Kc,hKc⟩:=contained_ev (d:=defs.getD i z_api_Def) (by have:=hd.few;omega)
      obtain ⟨o1,b1,⟨K1,hK1⟩,hM⟩:=good_loop (defs:=defs) (g:=g) (rk:=rk) (R:=R) (cont (defs.getD i z_api_Def)) (cont_range hd) (cont_few hd) (fun c hc=>by have:=g3 c hc;omega)
        (fun i' o b a1 a2 a3 a4 a5 a6 => ihR (rk i') a2 i' o b rfl a1 a3 a4 a5 a6) (cont (defs.getD i z_api_Def)).length 0 0 out (bg.set i true) (by omega) h1 (by simpa using h2) h3 (fun j a b => by
          rw [getD_set (by omega)] at a
          split at a
          · next e=>subst e;omega
          · have := h4 j a b; omega)
      rw [List.drop_zero] at hK1
      have hset:∀j,(o1.set i (g.getD i 0)).getD j 0=if i=j then g.getD i 0 else o1.getD j 0:=fun j=>getD_set (by rw [hM.lo];exact hi)
      refine ⟨o1.set i (g.getD i 0),b1,⟨max Kc K1+1,fun k hk=>?_⟩,⟨by simp [hM.lo],hM.lb,fun j hj=>?_,fun j hj=>?_,fun j hb' ho=>?_⟩,by rw [hset,if_pos rfl]⟩
      · obtain ⟨k,rfl⟩:∃q,k=q+1:=⟨k-1,by omega⟩
        show ctf_sizes_1.f (k+1) _ _ _ _ _=_
        rw [ctf_sizes_1.f,if_pos (by omega),rd_nat,if_neg (by simp only [Bool.not_true,Bool.or_false,decide_eq_true_eq];omega),if_pos (by omega),rd_nat,if_neg (by rw [hb];simp),if_pos (by omega),if_pos (by omega),rd_nat,show ctf_contained.f k _=_ from hKc k (by omega)]
        simp only [Option.bind_some,Int.toNat_natCast]
        rw [show ctf_sizes_1.l0 (ctf_sizes_1.f k) defs _ k 0 0 true out _=_ from hK1 k k (by omega) (by omega)]
        simp only [Option.bind_some]
        rw [if_pos (by rw [hM.lo];omega)]
        simp only [nval_eq]
        rw [show nval (defs.getD i z_api_Def) (List.foldl (fun x c=>g.getD c.toNat 0) 0 (cont (defs.getD i z_api_Def)))=g.getD i 0 from g4.symm,decide_eq_true g2]
        rfl
      · rw [hset]
        split
        · next e=>subst e;exact .inr rfl
        · exact hM.val j hj
      · rw [hset,if_neg (fun e=>by subst e;omega)]
        exact hM.keep j hj
      · rw [hset] at ho
        split at ho
        · omega
        · next hne=>
          obtain ⟨x,y⟩:=hM.stk j hb' ho
          rw [getD_set (by omega),if_neg hne] at x
          exact ⟨x,y⟩
    · refine ⟨out,bg,⟨1,fun k hk=>?_⟩,⟨h1,h2,h3,fun _ _=>rfl,fun j a b=>⟨a,b⟩⟩,h0⟩
      obtain ⟨k,rfl⟩:∃q,k=q+1:=⟨k-1,by omega⟩
      show ctf_sizes_1.f (k+1) _ _ _ _ _=_
      rw [ctf_sizes_1.f,if_pos (by omega),rd_nat,if_pos (by simp only [Bool.or_eq_true,decide_eq_true_eq];exact .inl (by omega)),if_pos (by omega),h0]
end
theorem list_ext {g h:List Int} (hl:g.length=h.length) (he:∀j,j<g.length→g.getD j 0=h.getD j 0):g=h:=by
 apply List.ext_getElem hl
 intro j h1 h2
 have:=he j h1
 rw [List.getD_eq_getElem?_getD,List.getD_eq_getElem?_getD,List.getElem?_eq_getElem h1,List.getElem?_eq_getElem h2] at this
 exact this
theorem good_all {t : api_Types} {g : List Int} {rk : Nat → Nat} (hS : ∀ d ∈ t.vDefs, ShD d t.vDefs.length) (hn : t.vDefs.length ≤ 9223372036854775807)
    (hg:∀j,j<t.vDefs.length→0<g.getD j 0∧g.getD j 0≤512∧(∀c∈cont (t.vDefs.getD j z_api_Def),rk c.toNat<rk j)∧g.getD j 0=nval (t.vDefs.getD j z_api_Def) (inner g (t.vDefs.getD j z_api_Def))):
    ∀(e j:Nat) (bg:List Bool) (out:List Int),j+e=t.vDefs.length→out.length=t.vDefs.length→bg.length=t.vDefs.length→(∀q,q<t.vDefs.length→out.getD q 0=0∨out.getD q 0=g.getD q 0)→(∀q,bg.getD q false=true→out.getD q 0=0→False)→(∀q,q<j→out.getD q 0=g.getD q 0)→
    ∃bg' out',Ev2 (fun k m=>ctf_sizes.l0 k t m (j:Int) true bg out) (true,bg',out')∧out'.length=t.vDefs.length∧∀q,q<t.vDefs.length→out'.getD q 0=g.getD q 0:=by
  intro e
  induction e with
  | zero =>
    intro j bg out hj h1 h2 h3 h4 h5
    refine ⟨bg,out,Ev2.pure (fun k m=>?_),h1,fun q hq=>h5 q (by omega)⟩
    rw [ctf_sizes.l0,if_neg (by simp;omega)]
  | succ e ih =>
    intro j bg out hj h1 h2 h3 h4 h5
    have hlt:j<t.vDefs.length:=by omega
    obtain ⟨o1,b1,hE,hM,hv⟩:=good_call hS hg (rk j) j out bg rfl hlt h1 h2 h3 (fun q a b=>(h4 q a b).elim)
    obtain ⟨bg', out', hE2, h6, h7⟩ := ih (j + 1) b1 o1 (by omega) hM.lo hM.lb hM.val (fun q a b => by
      obtain ⟨x,y⟩:=hM.stk q a b
      exact h4 q x y) (fun q hq=>by
      by_cases hqj:q=j
      · subst hqj;exact hv
      · have h8:=h5 q (by omega)
        have h9:=(hg q (by omega)).1
        rw [hM.keep q (by omega), h8])
    refine ⟨bg',out',Ev2.step hE (r:=fun k m (v1:Int×List Int×Bool×List Bool)=>ctf_sizes.l0 k t m (IntKind.wrap .i64 ((j:Int)+1)) v1.2.2.1 v1.2.2.2 v1.2.1) ?_ (fun k m=>?_),h6,h7⟩
    · simp only
      rw [wrap_nat hlt hn]
      exact hE2
    · rw [ctf_sizes.l0,if_pos (by simp;omega)]
theorem sizes_good {t:api_Types} {g:List Int} (hS:∀d∈t.vDefs,ShD d t.vDefs.length) (hn:t.vDefs.length≤200) (G:GoodSz t.vDefs g):Ev (fun k=>ctf_sizes.f k t) (g,true):=by
 obtain ⟨rk,hg⟩:=G.ex
 have hrep:∀(n q:Nat),(List.replicate n (0:Int)).getD q 0=0:=fun n q=>by
  rw [List.getD_eq_getElem?_getD,List.getElem?_replicate]
  split<;>rfl
 have hrepb:∀(n q:Nat),(List.replicate n false).getD q false=false:=fun n q=>by
  rw [List.getD_eq_getElem?_getD,List.getElem?_replicate]
  split<;>rfl
 obtain ⟨bg,out,hE,h1,h2⟩:=good_all hS (by omega) hg t.vDefs.length 0 (List.replicate t.vDefs.length false) (List.replicate t.vDefs.length 0) (by omega) (by simp) (by simp) (fun q _=> .inl (hrep _ _)) (fun q a _=>by rw [hrepb] at a;cases a) (fun q hq=>by omega)
 have hog:out=g:=list_ext (by rw [h1,G.len]) (fun j hj=>h2 j (by omega))
 subst hog
 obtain ⟨K,hK⟩:=hE.diag
 refine ⟨K,fun k hk=>?_⟩
 show ctf_sizes.f k t=_
 unfold ctf_sizes.f
 rw [if_pos (by omega),if_pos (by omega)]
 simp only [Int.toNat_natCast]
 rw [show ctf_sizes.l0 k t k 0 true _ _=_ from hK k hk]
 rfl
theorem inner_ref {d:api_Def} {known:List Int} (hk:d.vKind=3∨d.vKind=6):inner known d=rd 0 known d.vRef∧cont d=[d.vRef]:=by
 have hcd:cont d=[d.vRef]:=by
  unfold cont
  rw [if_pos (by simp only [Bool.or_eq_true,beq_iff_eq];exact hk)]
 refine ⟨?_,hcd⟩
 unfold inner
 rw [hcd]
 rfl
theorem cont_kind {d:api_Def} {c:Int} (h:c∈cont d):d.vKind=3∨d.vKind=4∨d.vKind=6:=by
 unfold cont at h
 split at h
 ·next h2=>simp only [Bool.or_eq_true,beq_iff_eq] at h2;omega
 ·split at h
  ·next h2=>simp only [beq_iff_eq] at h2;omega
  ·cases h
theorem inner_congr {d:api_Def} {a b:List Int} (h:∀c∈cont d,a.getD c.toNat 0=b.getD c.toNat 0):inner a d=inner b d:=by
  unfold inner
  have key:∀(l:List Int) (z0:Int),(∀c∈l,a.getD c.toNat 0=b.getD c.toNat 0)→l.foldl (fun _ c=>a.getD c.toNat 0) z0=l.foldl (fun _ c=>b.getD c.toNat 0) z0:=by
    intro l
    induction l with
    |nil=>intro _ _;rfl
    | cons c l ih =>
      intro z0 hc
      rw [List.foldl_cons,List.foldl_cons,hc c List.mem_cons_self]
      exact ih _ (fun c hc'=>hc c (List.mem_cons_of_mem _ hc'))
  exact key _ _ h
theorem cont_struct {d:api_Def} (e:d.vKind=4):cont d=d.vFields.map (·.vType):=by
 unfold cont
 rw [if_neg (by simp [e]),if_pos (by simp [e])]
structure Wf (t:api_Types) (l:List Int):Prop where
 few:t.vDefs.length≤200
 defs:defsS t.vDefs.length [] t.vDefs=true
 sz:GoodSz t.vDefs l
 ends:∀d∈t.vDefs,lostS t.vDefs t.vDefs.length d=false
 placed:∀d∈t.vDefs,d.vKind=4→placedS d l=true
theorem GoodT.wf {t:api_Types} {l:List Int} (G:GoodT t l):Wf t l:=⟨G.few,G.defs,G.good,G.ends,G.placed⟩
theorem Wf.sh {t:api_Types} {l:List Int} (W:Wf t l):∀d∈t.vDefs,ShD d t.vDefs.length:=defs_of _ _ W.defs
theorem Wf.good {t:api_Types} {l:List Int} (W:Wf t l):GoodT t l:=by
  obtain ⟨rk,h⟩:=W.sz.ex
  have hB:∀n,∃B,∀j,j<n→rk j<B:=by
    intro n
    induction n with
    |zero=>exact ⟨0,fun j hj=>by omega⟩
    | succ n ih =>
      obtain ⟨B,hB⟩:=ih
      refine ⟨max B (rk n+1),fun j hj=>?_⟩
      by_cases e:j=n
      · subst e;omega
      · have:=hB j (by omega);omega
  obtain ⟨B,hB⟩:=hB t.vDefs.length
  refine ⟨W.few,W.sh,sizes_good W.sh W.few W.sz,W.sz.len,⟨rk,B,fun j hj _=>?_⟩,fun q hq=>(h q hq).1,W.ends,W.placed,W.defs⟩
  obtain ⟨h1,h2,h3,h4⟩:=h j hj
  refine ⟨hB j hj,h2,fun c hc=>⟨?_,h3 c hc⟩,h4⟩
  have:=cont_range (W.sh _ (getD_mem (z:=z_api_Def) hj)) c hc
  exact (h c.toNat (by omega)).1
theorem valid_wf {t : api_Types} {l : List Int} (hF : ∀ d ∈ t.vDefs, FitD d) (W : Wf t l) : Ev (fun k => ctf_valid.f k t) true := by
  have hn:=W.few
  have hS:=W.sh
  have hcond:¬decide ((t.vDefs.length:Int)>200)=true:=by simp;omega
  obtain ⟨v,hv,hp⟩:=valid_loop hF (by omega) t.vDefs.length 0 [] [] (by omega) SeenOk.nil
  rw [List.drop_zero] at hp
  obtain ⟨K,hK⟩:=hv.diag
  obtain ⟨K2,hK2⟩:=sizes_good hS hn W.sz
  obtain ⟨K3,hK3⟩:=ends_ev hS hn
  have he:t.vDefs.any (lostS t.vDefs t.vDefs.length)=false:=List.any_eq_false.2 fun d hd=>by rw [W.ends d hd];simp
  obtain ⟨K4, hK4⟩ := contains_ev (l := t.vDefs) (p := fun k z0 => ctf_valid_1.f k z0 l) (q := fun _ => false) (fun d hd => by
    by_cases h4:d.vKind=4
    · have:=placed_ev (d:=d) (l:=l) (hF d hd).len (fun f hf=>by have:=(hS d hd).typ h4 f hf;rw [W.sz.len];exact this)
      rw [W.placed d hd h4] at this
      exact (this.bind (g:=fun k v1=>some ((d.vKind==4)&&(!v1))) (b:=false) (Ev.pure fun _=>by simp)).congr fun k=>by
        unfold ctf_valid_1.f
        rw [if_pos (by simp [h4])]
    · refine Ev.pure fun k=>?_
      unfold ctf_valid_1.f
      rw [if_neg (by simp [h4])]
      simp [h4]) (by omega)
  cases v with
  |inl b=>rw [W.defs] at hp;exact absurd hp.2 (by simp)
  | inr m =>
    refine ⟨max (max K K2) (max K3 K4),fun k hk=>?_⟩
    show ctf_valid.f k t=_
    unfold ctf_valid.f
    rw [if_neg hcond,show ctf_valid.l0 k t k 0 []=_ from hK k (by omega)]
    simp only [Option.bind_some]
    rw [show ctf_sizes.f k t=_ from hK2 k (by omega)]
    simp only [Option.bind_some]
    rw [show ctf_ends.f k t=_ from hK3 k (by omega),he]
    simp only [Bool.not_true,Bool.not_false,beq_self_eq_true,Bool.and_self,if_true,Option.bind_some,Bool.or_self,Bool.false_eq_true,if_false]
    rw [show slices_ContainsFunc_api_Def_api_Def.f k t.vDefs _=_ from hK4 k (by omega)]
    simp
theorem valid_iff {t:api_Types} (hF:∀d∈t.vDefs,FitD d):(∃l,Wf t l∧Ev (fun k=>ctf_valid.f k t) true)∨((∀l,¬Wf t l)∧Ev (fun k=>ctf_valid.f k t) false):=by
  obtain ⟨b,hE,hb⟩:=valid_ev hF
  cases b with
  | true =>
    obtain ⟨l,G⟩:=hb rfl
    exact .inl ⟨l,G.wf,hE⟩
  | false =>
    refine .inr ⟨fun l W=>?_,hE⟩
    have:=hE.uniq (valid_wf hF W)
    cases this
def rsizeS (d:api_Def) (known:List Int):Int:=if d.vKind=4∧(d.vFields.any fun f=>rd 0 known f.vType==0)=true then 0 else nval d (inner known d)
theorem rsize_loop {d:api_Def} {known:List Int} (hl:d.vFields.length≤9223372036854775807) (ht:∀f∈d.vFields,0≤f.vType∧f.vType<known.length):∀(e j m:Nat),j+e=d.vFields.length→e<m→
    taplineref08_size.l0 d known m (j:Int)=some (if ((d.vFields.drop j).any fun f=>rd 0 known f.vType==0)=true then .inl 0 else .inr ()):=by
  intro e
  induction e with
  | zero =>
    intro j m hj hm
    obtain ⟨m,rfl⟩:∃q,m=q+1:=⟨m-1,by omega⟩
    rw [taplineref08_size.l0,if_neg (by simp;omega),List.drop_eq_nil_of_le (by omega)]
    rfl
  | succ e ih =>
    intro j m hj hm
    obtain ⟨m,rfl⟩:∃q,m=q+1:=⟨m-1,by omega⟩
    have hlt:j<d.vFields.length:=by omega
    have hf:=ht _ (getD_mem (z:=z_api_Field) hlt)
    rw [taplineref08_size.l0,if_pos (by simp;omega),if_pos (by omega),rd_nat,if_pos hf,drop_getD z_api_Field hlt,List.any_cons]
    by_cases hc:(rd 0 known (d.vFields.getD j z_api_Field).vType==0)=true
    · rw [if_pos hc,hc];rfl
    · rw [if_neg hc,wrap_nat hlt hl,ih (j+1) m (by omega) (by omega)]
      rw [Bool.not_eq_true] at hc
      rw [hc,Bool.false_or]
theorem rsize_ev {d : api_Def} {known : List Int} {n : Nat} (hd : ShD d n) (hn : known.length = n) : Ev (fun k => taplineref08_size.f k d known) (rsizeS d known) := by
  have hfew:=hd.few
  have hkind:=hd.kind
  refine ⟨d.vFields.length+1,fun k hk=>?_⟩
  show taplineref08_size.f k d known=_
  unfold taplineref08_size.f rsizeS nval
  simp only [beq_iff_eq]
  by_cases e1:d.vKind=1
  · rw [if_pos e1,if_neg (by omega),if_pos e1]
  · rw [if_neg e1]
    by_cases e2:d.vKind=2
    · rw [if_pos e2,if_neg (by omega),if_neg e1,if_pos e2]
    · rw [if_neg e2]
      by_cases e3:d.vKind=3
      · have hr:=hd.ref (by omega)
        rw [if_pos e3,if_pos (by omega),if_neg (by omega),if_neg e1,if_neg e2,if_pos e3,(inner_ref (.inl e3)).1]
      · rw [if_neg e3]
        by_cases e5:d.vKind=5
        · rw [if_pos e5,if_neg (by omega),if_neg e1,if_neg e2,if_neg e3,if_neg (by omega),if_pos e5]
        · rw [if_neg e5]
          by_cases e6:d.vKind=6
          · have hr:=hd.ref (by omega)
            rw [if_pos e6,if_pos (by omega),if_neg (by omega),if_neg e1,if_neg e2,if_neg e3,if_neg (by omega),if_neg e5,if_pos e6,(inner_ref (.inr e6)).1]
          · have e4:d.vKind=4:=by omega
            have ht:=hd.typ e4
            rw [if_neg e6,show taplineref08_size.l0 d known k 0=_ from rsize_loop (by omega) (fun f hf=>by have:=ht f hf;omega) d.vFields.length 0 k (by omega) (by omega),List.drop_zero]
            rw [if_neg e1,if_neg e2,if_neg e3,if_pos e4]
            cases hany:d.vFields.any fun f=>rd 0 known f.vType==0 with
            |true=>simp [e4]
            |false=>simp [e4]
structure Inv (defs:List api_Def) (known:List Int):Prop where
 len:known.length=defs.length
 rng:∀j,j<defs.length→0≤known.getD j 0∧known.getD j 0≤513
 ex:∃(rk:Nat→Nat) (B:Nat),∀j,j<defs.length→known.getD j 0≠0→rk j<B∧(∀c∈cont (defs.getD j z_api_Def),known.getD c.toNat 0≠0∧rk c.toNat<rk j)∧known.getD j 0=iMin (nval (defs.getD j z_api_Def) (inner known (defs.getD j z_api_Def))) 513
theorem rsize_pos {d : api_Def} {known : List Int} {n : Nat} (hd : ShD d n) (h : 0 < rsizeS d known) : 0 < nval d (inner known d) ∧ rsizeS d known = nval d (inner known d) ∧ ∀ c ∈ cont d, known.getD c.toNat 0 ≠ 0 := by
  unfold rsizeS at h⊢
  split at h
  · omega
  · next hc=>
    rw [if_neg hc]
    refine ⟨h,rfl,fun c hcm=>?_⟩
    rcases cont_kind hcm with e|e|e
    · obtain ⟨h1,h2⟩:=inner_ref (known:=known) (.inl e)
      rw [h2] at hcm
      rw [List.mem_singleton.1 hcm]
      intro h0
      unfold nval at h
      rw [h1,show rd 0 known d.vRef=0 from h0,Int.mul_zero,if_neg (by omega),if_neg (by omega),if_pos e] at h
      exact absurd h (by decide)
    · have hcd:cont d=d.vFields.map (·.vType):=by
        unfold cont
        rw [if_neg (by simp [e]),if_pos (by simp [e])]
      rw [hcd] at hcm
      obtain ⟨f,hf,rfl⟩:=List.mem_map.1 hcm
      intro h0
      exact hc ⟨e,List.any_eq_true.2 ⟨f,hf,by rw [beq_iff_eq];exact h0⟩⟩
    · obtain ⟨h1,h2⟩:=inner_ref (known:=known) (.inr e)
      rw [h2] at hcm
      rw [List.mem_singleton.1 hcm]
      intro h0
      unfold nval at h
      rw [h1,show rd 0 known d.vRef=0 from h0,if_neg (by omega),if_neg (by omega),if_neg (by omega),if_neg (by omega),if_neg (by omega),if_pos e] at h
      omega
def zer (l:List Int):Nat:=(l.filter fun x=>x==0).length
theorem zer_set:∀(a:List Int) (i:Nat) (v:Int),i<a.length→a.getD i 0=0→v≠0→zer (a.set i v)+1=zer a
  |[],i,v,h,_,_=>by simp at h
  | x :: a, 0, v, h, hi, hv => by
    simp only [List.getD_cons_zero] at hi
    subst hi
    simp [zer,hv]
  | x :: a, i + 1, v, h, hi, hv => by
    have:=zer_set a i v (by simpa using h) (by simpa using hi) hv
    unfold zer at*
    rw [List.set_cons_succ,List.filter_cons,List.filter_cons]
    by_cases hx:(x==0)=true
    · rw [if_pos hx,if_pos hx,List.length_cons,List.length_cons];omega
    · rw [if_neg hx,if_neg hx];exact this
theorem inv_set {defs : List api_Def} {known : List Int} (hS : ∀ d ∈ defs, ShD d defs.length) (I : Inv defs known) {i : Nat} (hi : i < defs.length) (h0 : known.getD i 0 = 0) (hp : 0 < rsizeS (defs.getD i z_api_Def) known) :
    Inv defs (known.set i (iMin (rsizeS (defs.getD i z_api_Def) known) 513))∧iMin (rsizeS (defs.getD i z_api_Def) known) 513≠0:=by
  obtain ⟨hp1,hp2,hp3⟩:=rsize_pos (hS _ (getD_mem hi)) hp
  obtain ⟨rk,B,hB⟩:=I.ex
  have hv:0<iMin (rsizeS (defs.getD i z_api_Def) known) 513∧iMin (rsizeS (defs.getD i z_api_Def) known) 513≤513:=by
    unfold iMin
    split<;>omega
  generalize hV:iMin (rsizeS (defs.getD i z_api_Def) known) 513=V at*
  have hset:∀j,(known.set i V).getD j 0=if i=j then V else known.getD j 0:=fun j=>getD_set (by rw [I.len];exact hi)
  have hne:∀c:Int,known.getD c.toNat 0≠0→¬i=c.toNat:=fun c hc e=>by rw [←e] at hc;exact hc h0
  refine ⟨⟨by simp [I.len],fun j hj=>?_,fun j=>if i=j then B else rk j,B+1,fun j hj hj0=>?_⟩,by omega⟩
  · rw [hset]
    split
    · omega
    · exact I.rng j hj
  · show (if i=j then B else rk j)<B+1∧(∀c:Int,c∈cont (defs.getD j z_api_Def)→_∧(if i=c.toNat then B else rk c.toNat)<(if i=j then B else rk j))∧_
    by_cases hij:i=j
    · subst hij
      rw [if_pos rfl]
      refine ⟨by omega,fun c hc=>?_,?_⟩
      · have h5:=hp3 c hc
        have h6:=cont_range (hS _ (getD_mem (z:=z_api_Def) hi)) c hc
        rw [hset,if_neg (hne c h5),if_neg (hne c h5)]
        exact ⟨h5,(hB c.toNat (by omega) h5).1⟩
      · rw [hp2] at hV
        refine (hset i).trans ?_
        rw [if_pos rfl]
        refine hV.symm.trans ?_
        congr 2
        exact inner_congr (fun c hc=>by rw [hset,if_neg (hne c (hp3 c hc))])
    · rw [hset,if_neg hij] at hj0
      obtain ⟨h5,h7,h8⟩:=hB j hj hj0
      rw [if_neg hij,hset,if_neg hij]
      refine ⟨by omega,fun c hc=>?_,?_⟩
      · obtain ⟨h9,h10⟩:=h7 c hc
        rw [hset,if_neg (hne c h9),if_neg (hne c h9)]
        exact ⟨h9,h10⟩
      · rw [h8]
        congr 2
        exact inner_congr (fun c hc=>by rw [hset,if_neg (hne c (h7 c hc).1)])
theorem pass_loop {t : api_Types} (hS : ∀ d ∈ t.vDefs, ShD d t.vDefs.length) (hn : t.vDefs.length ≤ 9223372036854775807) : ∀ (e j : Nat) (more : Bool) (known : List Int), j + e = t.vDefs.length → Inv t.vDefs known →
    ∃ more' known', Ev2 (fun k m => taplineref08_sizes.l1 k t m more (j : Int) known) (more', known') ∧ Inv t.vDefs known' ∧ (more' = false → more = false ∧ known' = known ∧ ∀ q, j ≤ q → q < t.vDefs.length → known.getD q 0 = 0 → rsizeS (t.vDefs.getD q z_api_Def) known ≤ 0) ∧
      zer known'≤zer known∧(more'=true→more=true∨zer known'<zer known):=by
  intro e
  induction e with
  | zero =>
    intro j more known hj I
    refine ⟨more,known,Ev2.pure (fun k m=>?_),I,fun h=>⟨h,rfl,fun q _ _=>by omega⟩,Nat.le_refl _,fun h=> .inl h⟩
    rw [taplineref08_sizes.l1,if_neg (by simp;omega)]
  | succ e ih =>
    intro j more known hj I
    have hlt:j<t.vDefs.length:=by omega
    have hd:=hS _ (getD_mem (z:=z_api_Def) hlt)
    by_cases h0:known.getD j 0=0
    · have hs:=rsize_ev hd I.len
      by_cases hp:0<rsizeS (t.vDefs.getD j z_api_Def) known
      · obtain ⟨I2,hv⟩:=inv_set hS I hlt h0 hp
        have hz:=zer_set known j _ (by rw [I.len];exact hlt) h0 hv
        obtain ⟨more',known',hE,I3,h1,h2,h3⟩:=ih (j+1) true _ (by omega) I2
        refine ⟨more',known',Ev2.step hs (r:=fun k m v1=>if (decide (v1>0))=true then (if 0≤(j:Int)∧(j:Int)<(((t.vDefs.length:Int).toNat:Nat):Int) then (taplineref08_sizes.l1 k t m true (IntKind.wrap .i64 ((j:Int)+1)) (List.set known j (iMin v1 513))) else none) else (taplineref08_sizes.l1 k t m more (IntKind.wrap .i64 ((j:Int)+1)) known)) ?_ (fun k m=>?_),I3,?_,by omega,fun _=> .inr (by omega)⟩
        · obtain ⟨K,hK⟩:=hE
          refine ⟨K,fun k m hk hm=>?_⟩
          show (if _ then _ else _)=_
          rw [if_pos (decide_eq_true hp),if_pos (by omega),wrap_nat hlt hn]
          exact hK k m hk hm
        · rw [taplineref08_sizes.l1,if_pos (by simp;omega),if_pos (by omega),rd_nat,if_neg (by rw [h0];decide),if_pos (by omega),rd_nat]
          simp only [Int.toNat_natCast]
        · intro h;have:=(h1 h).1;cases this
      · obtain ⟨more',known',hE,I3,h1,h2,h3⟩:=ih (j+1) more known (by omega) I
        refine ⟨more',known',Ev2.step hs (r:=fun k m v1=>if (decide (v1>0))=true then (if 0≤(j:Int)∧(j:Int)<(((t.vDefs.length:Int).toNat:Nat):Int) then (taplineref08_sizes.l1 k t m true (IntKind.wrap .i64 ((j:Int)+1)) (List.set known j (iMin v1 513))) else none) else (taplineref08_sizes.l1 k t m more (IntKind.wrap .i64 ((j:Int)+1)) known)) ?_ (fun k m=>?_),I3,?_,h2,h3⟩
        · obtain ⟨K,hK⟩:=hE
          refine ⟨K,fun k m hk hm=>?_⟩
          show (if _ then _ else _)=_
          rw [if_neg (by simpa using hp),wrap_nat hlt hn]
          exact hK k m hk hm
        · rw [taplineref08_sizes.l1,if_pos (by simp;omega),if_pos (by omega),rd_nat,if_neg (by rw [h0];decide),if_pos (by omega),rd_nat]
          simp only [Int.toNat_natCast]
        · intro h
          obtain ⟨a,b,c⟩:=h1 h
          refine ⟨a,b,fun q hq hq2 hq0=>?_⟩
          by_cases hqj:q=j
          · subst hqj;omega
          · exact c q (by omega) hq2 hq0
    · obtain ⟨more',known',hE,I3,h1,h2,h3⟩:=ih (j+1) more known (by omega) I
      refine ⟨more',known',Ev2.next (r:=fun k m=>taplineref08_sizes.l1 k t m more ((j+1:Nat):Int) known) hE (fun k m=>?_),I3,?_,h2,h3⟩
      · rw [taplineref08_sizes.l1,if_pos (by simp;omega),if_pos (by omega),rd_nat,if_pos (by simpa using h0),wrap_nat hlt hn]
      · intro h
        obtain ⟨a,b,c⟩:=h1 h
        refine ⟨a,b,fun q hq hq2 hq0=>?_⟩
        by_cases hqj:q=j
        · subst hqj;exact absurd hq0 h0
        · exact c q (by omega) hq2 hq0
def Fin (defs:List api_Def) (known:List Int):Prop:=∀q,q<defs.length→known.getD q 0=0→rsizeS (defs.getD q z_api_Def) known≤0
theorem rounds {t : api_Types} (hS : ∀ d ∈ t.vDefs, ShD d t.vDefs.length) (hn : t.vDefs.length ≤ 9223372036854775807) : ∀ (z : Nat) (known : List Int), zer known = z → Inv t.vDefs known →
    ∃known',Ev2 (fun k m=>taplineref08_sizes.l0 k t m true known) known'∧Inv t.vDefs known'∧Fin t.vDefs known':=by
  intro z
  induction z using Nat.strongRecOn with
  | _ z ih =>
    intro known hz I
    obtain ⟨more',known',hE,I2,h1,h2,h3⟩:=pass_loop hS hn t.vDefs.length 0 false known (by omega) I
    cases more' with
    | false =>
      obtain ⟨_,rfl,hf⟩:=h1 rfl
      refine ⟨known',Ev2.step hE.diag (r:=fun k m (x:Bool×List Int)=>taplineref08_sizes.l0 k t m x.1 x.2) (Ev2.pure fun k m=>?_) (fun k m=>?_),I2,fun q hq h0=>hf q (by omega) hq h0⟩
      · show taplineref08_sizes.l0 k t (m+1) false known'=_
        rw [taplineref08_sizes.l0,if_neg (by simp)]
      · rw [taplineref08_sizes.l0,if_pos rfl]
        rfl
    | true =>
      have hlt:zer known'<z:=by
        rcases h3 rfl with h|h
        · cases h
        · omega
      obtain ⟨k3,hE3,I3,F3⟩:=ih (zer known') hlt known' rfl I2
      refine ⟨k3,Ev2.step hE.diag (r:=fun k m (x:Bool×List Int)=>taplineref08_sizes.l0 k t m x.1 x.2) hE3 (fun k m=>?_),I3,F3⟩
      rw [taplineref08_sizes.l0,if_pos rfl]
      rfl
theorem rsizes_ev {t:api_Types} (hS:∀d∈t.vDefs,ShD d t.vDefs.length) (hn:t.vDefs.length≤200):∃known,Ev (fun k=>taplineref08_sizes.f k t) known∧Inv t.vDefs known∧Fin t.vDefs known:=by
 have hrep:∀(n q:Nat),(List.replicate n (0:Int)).getD q 0=0:=fun n q=>by
  rw [List.getD_eq_getElem?_getD,List.getElem?_replicate]
  split<;>rfl
 obtain ⟨known,hE,I,F⟩:=rounds hS (by omega) _ (List.replicate t.vDefs.length (0:Int)) rfl ⟨by simp,fun j hj=>by rw [hrep];omega,fun _=>0,0,fun j hj h=>absurd (hrep _ _) h⟩
 obtain ⟨K,hK⟩:=hE.diag
 refine ⟨known,⟨K,fun k hk=>?_⟩,I,F⟩
 show taplineref08_sizes.f k t=_
 unfold taplineref08_sizes.f
 rw [if_pos (by omega)]
 simp only [Int.toNat_natCast]
 rw [show taplineref08_sizes.l0 k t k true _=_ from hK k hk]
 rfl
theorem iMin_low {x:Int} (h:iMin x 513≤512):iMin x 513=x:=by
 unfold iMin at*
 split
 ·next h2=>rw [if_pos h2] at h;omega
 ·rfl
theorem rsizes_good {defs : List api_Def} {known g : List Int} (hS : ∀ d ∈ defs, ShD d defs.length) (I : Inv defs known) (F : Fin defs known) (G : GoodSz defs g) : known = g := by
  obtain ⟨rk,hg⟩:=G.ex
  refine list_ext (by rw [I.len,G.len]) (fun j hj=>?_)
  rw [I.len] at hj
  obtain ⟨rk2,B,hB⟩:=I.ex
  have key:∀(R q:Nat),rk q=R→q<defs.length→known.getD q 0=g.getD q 0:=by
    intro R
    induction R using Nat.strongRecOn with
    | _ R ih =>
      intro q hR hq
      obtain ⟨g1,g2,g3,g4⟩:=hg q hq
      have hd:=hS _ (getD_mem (z:=z_api_Def) hq)
      have hch:∀c∈cont (defs.getD q z_api_Def),known.getD c.toNat 0=g.getD c.toNat 0:=fun c hc=>by
        have h6:=cont_range hd c hc
        exact ih _ (by have:=g3 c hc;omega) c.toNat rfl (by omega)
      have hin:=inner_congr hch
      by_cases h0:known.getD q 0=0
      · exfalso
        have h1:=F q hq h0
        unfold rsizeS at h1
        rw [if_neg,hin,←g4] at h1
        · omega
        · rintro ⟨e4,ha⟩
          obtain ⟨f,hf,hf0⟩:=List.any_eq_true.1 ha
          have hcm:f.vType∈cont (defs.getD q z_api_Def):=by
            rw [cont_struct e4]
            exact List.mem_map.2 ⟨f,hf,rfl⟩
          have h2:=hch _ hcm
          have h6:=cont_range hd _ hcm
          have h3:=(hg f.vType.toNat (by omega)).1
          rw [beq_iff_eq] at hf0
          rw [show known.getD f.vType.toNat 0=0 from hf0] at h2
          omega
      · obtain ⟨_,_,h3⟩:=hB q hq h0
        rw [hin,←g4] at h3
        rw [h3]
        unfold iMin
        rw [if_neg (by omega)]
  exact key (rk j) j rfl hj
theorem rsizes_conv {defs:List api_Def} {known:List Int} (I:Inv defs known) (h:∀j,j<defs.length→known.getD j 0≠0∧known.getD j 0≤512):GoodSz defs known:=by
 obtain ⟨rk,B,hB⟩:=I.ex
 refine ⟨I.len,rk,fun j hj=>?_⟩
 obtain ⟨h1,h2⟩:=h j hj
 have h3:=I.rng j hj
 obtain ⟨_,h4,h5⟩:=hB j hj h1
 refine ⟨by omega,h2,fun c hc=>(h4 c hc).2,?_⟩
 rw [h5] at h2⊢
 exact iMin_low h2
theorem rends_loop {t : api_Types} (hS : ∀ d ∈ t.vDefs, ShD d t.vDefs.length) (hn : t.vDefs.length ≤ 9223372036854775000) : ∀ (e j m : Nat) (i : Int), 0 ≤ i → i < t.vDefs.length → j + e = t.vDefs.length → e + 1 < m →
    ((taplineref08_ends.l0 t m i (j:Int)).bind fun xx1=>(match xx1 with| .inl r=>some r| .inr s1=>some false))=some (!lostS t.vDefs e (rd z_api_Def t.vDefs i)):=by
  intro e
  induction e with
  | zero =>
    intro j m i h0 h1 hj hm
    obtain ⟨m,rfl⟩:∃q,m=q+1:=⟨m-1,by omega⟩
    obtain ⟨m,rfl⟩:∃q,m=q+1:=⟨m-1,by omega⟩
    rw [taplineref08_ends.l0,if_pos (by simp;omega),if_pos ⟨h0,h1⟩]
    simp only [taplineref08_Named.f,Option.bind_some,lostS]
    show (Option.bind (if namedS _=true then _ else _) _)=_
    by_cases hnm:namedS (rd z_api_Def t.vDefs i)=true
    · rw [if_pos hnm,hnm];rfl
    · rw [if_neg hnm,if_pos ⟨h0,h1⟩,wrap_id (by omega) (by omega),taplineref08_ends.l0,if_neg (by simp;omega)]
      rw [Bool.not_eq_true] at hnm
      rw [hnm];rfl
  | succ e ih =>
    intro j m i h0 h1 hj hm
    obtain ⟨m,rfl⟩:∃q,m=q+1:=⟨m-1,by omega⟩
    rw [taplineref08_ends.l0,if_pos (by simp;omega),if_pos ⟨h0,h1⟩]
    simp only [taplineref08_Named.f,Option.bind_some,lostS]
    show (Option.bind (if namedS _=true then _ else _) _)=_
    by_cases hnm:namedS (rd z_api_Def t.vDefs i)=true
    · rw [if_pos hnm,if_pos hnm];rfl
    · rw [if_neg hnm,if_neg hnm,if_pos ⟨h0,h1⟩]
      have hk:(rd z_api_Def t.vDefs i).vKind=2∨(rd z_api_Def t.vDefs i).vKind=3:=by
        unfold namedS at hnm
        by_cases h2:(rd z_api_Def t.vDefs i).vKind=2
        · exact .inl h2
        · by_cases h3:(rd z_api_Def t.vDefs i).vKind=3
          · exact .inr h3
          · exact absurd (by simp [h2,h3]) hnm
      have hr:=(hS _ (rd_mem (z:=z_api_Def) h0 h1)).ref (by omega)
      rw [wrap_nat (show j<t.vDefs.length by omega) (by omega)]
      exact ih (j+1) m _ hr.1 hr.2 (by omega) (by omega)
theorem rends_ev {t:api_Types} (hS:∀d∈t.vDefs,ShD d t.vDefs.length) (hn:t.vDefs.length≤200) {i:Nat} (hi:i<t.vDefs.length):Ev (fun k=>taplineref08_ends.f k t (i:Int)) (!lostS t.vDefs t.vDefs.length (t.vDefs.getD i z_api_Def)):=
 ⟨t.vDefs.length + 2, fun k hk => by
  show taplineref08_ends.f k t _=_
  unfold taplineref08_ends.f
  have:=rends_loop hS (by omega) t.vDefs.length 0 k (i:Int) (by omega) (by omega) (by omega) (by omega)
  rw [rd_nat] at this
  exact this⟩
def rplacedAt (l:List Int) (N:Int):Int→List api_Field→Option Int
 |at_,[]=>some at_
 |at_,f::r=>if ((decide (f.vAt<at_))||(decide (f.vAt>N)))=true then none else rplacedAt l N (IntKind.wrap .i64 (f.vAt+rd 0 l f.vType)) r
def rplacedS (d:api_Def) (l:List Int):Bool:=match rplacedAt l d.vN 0 d.vFields with|none=>false|some e=>decide (e≤d.vN)
theorem rplaced_loop {d:api_Def} {l:List Int} (hl:d.vFields.length≤9223372036854775807) (ht:∀f∈d.vFields,0≤f.vType∧f.vType<l.length):∀(e j m:Nat) (at_:Int),j+e=d.vFields.length→e<m→
    taplineref08_placed.l0 d l m at_ (j:Int)=some (match rplacedAt l d.vN at_ (d.vFields.drop j) with|none=> .inl false|some a=> .inr a):=by
  intro e
  induction e with
  | zero =>
    intro j m at_ hj hm
    obtain ⟨m,rfl⟩:∃q,m=q+1:=⟨m-1,by omega⟩
    rw [taplineref08_placed.l0,if_neg (by simp;omega),List.drop_eq_nil_of_le (by omega)]
    rfl
  | succ e ih =>
    intro j m at_ hj hm
    obtain ⟨m,rfl⟩:∃q,m=q+1:=⟨m-1,by omega⟩
    have hlt:j<d.vFields.length:=by omega
    have hf:=ht _ (getD_mem (z:=z_api_Field) hlt)
    rw [taplineref08_placed.l0,if_pos (by simp;omega),if_pos (by omega),rd_nat,drop_getD z_api_Field hlt]
    simp only [rplacedAt]
    by_cases hc:((decide ((d.vFields.getD j z_api_Field).vAt<at_))||(decide ((d.vFields.getD j z_api_Field).vAt>d.vN)))=true
    · rw [if_pos hc,if_pos hc]
    · rw [if_neg hc,if_neg hc,if_pos hf,wrap_nat hlt hl,ih (j+1) m _ (by omega) (by omega)]
theorem rplaced_ev {d:api_Def} {l:List Int} (hl:d.vFields.length≤9223372036854775807) (ht:∀f∈d.vFields,0≤f.vType∧f.vType<l.length):Ev (fun k=>taplineref08_placed.f k d l) (rplacedS d l):=by
 refine ⟨d.vFields.length+1,fun k hk=>?_⟩
 show taplineref08_placed.f k d l=_
 unfold taplineref08_placed.f rplacedS
 rw [show taplineref08_placed.l0 d l k 0 0=_ from rplaced_loop hl ht d.vFields.length 0 k 0 (by omega) (by omega),List.drop_zero]
 cases rplacedAt l d.vN 0 d.vFields<;>rfl
theorem placed_over {l:List Int} {N:Int} (hN:0≤N):∀(fs:List api_Field) (a:Int),N<a→a≤1024→(∀f∈fs,0<rd 0 l f.vType∧rd 0 l f.vType≤512)→(match placedAt l a fs with|none=>false|some e=>decide (e≤N))=false:=by
  intro fs
  induction fs with
  |nil=>intro a h1 h2 _;simp only [placedAt];exact decide_eq_false (by omega)
  | cons f r ih =>
    intro a h1 h2 hf
    have h3:=hf f List.mem_cons_self
    simp only [placedAt]
    by_cases hc:((decide (f.vAt<a))||(decide (f.vAt>512)))=true
    · rw [if_pos hc]
    · rw [if_neg hc]
      simp only [Bool.or_eq_true,decide_eq_true_eq,not_or] at hc
      rw [wrap_id (by omega) (by omega)]
      exact ih _ (by omega) (by omega) (fun g hg=>hf g (List.mem_cons_of_mem _ hg))
theorem placed_same {l : List Int} {N : Int} (hN : 0 ≤ N) (hN2 : N ≤ 512) : ∀ (fs : List api_Field) (a : Int), 0 ≤ a → (∀ f ∈ fs, 0 < rd 0 l f.vType ∧ rd 0 l f.vType ≤ 512) →
    (match rplacedAt l N a fs with|none=>false|some e=>decide (e≤N))=(match placedAt l a fs with|none=>false|some e=>decide (e≤N)):=by
  intro fs
  induction fs with
  |nil=>intro a _ _;rfl
  | cons f r ih =>
    intro a h0 hf
    have h3:=hf f List.mem_cons_self
    simp only [placedAt,rplacedAt]
    by_cases hc:((decide (f.vAt<a))||(decide (f.vAt>N)))=true
    · rw [if_pos hc]
      by_cases hc2:((decide (f.vAt<a))||(decide (f.vAt>512)))=true
      · rw [if_pos hc2]
      · rw [if_neg hc2]
        simp only [Bool.or_eq_true,decide_eq_true_eq,not_or] at hc hc2
        rw [wrap_id (by omega) (by omega)]
        exact (placed_over hN r _ (by omega) (by omega) (fun g hg=>hf g (List.mem_cons_of_mem _ hg))).symm
    · rw [if_neg hc,if_neg]
      · simp only [Bool.or_eq_true,decide_eq_true_eq,not_or] at hc
        rw [wrap_id (by omega) (by omega)]
        exact ih _ (by omega) (fun g hg=>hf g (List.mem_cons_of_mem _ hg))
      · simp only [Bool.or_eq_true,decide_eq_true_eq,not_or] at hc⊢
        omega
theorem rplaced_same {defs:List api_Def} {l:List Int} (G:GoodSz defs l) (hS:∀d∈defs,ShD d defs.length) {d:api_Def} (hd:d∈defs) (h4:d.vKind=4):rplacedS d l=placedS d l:=by
 obtain ⟨rk,h⟩:=G.ex
 have h1:=(hS d hd).num (.inr h4)
 have h2:=(hS d hd).typ h4
 exact placed_same (by omega) h1.2 _ _ (by omega) (fun f hf => by
  have h3:=h2 f hf
  have:=h f.vType.toNat (by omega)
  exact ⟨this.1, this.2.1⟩)
theorem rseen_loop {t:api_Types} (hl:t.vDefs.length≤9223372036854775807) {i:Nat} (hi:i<t.vDefs.length):∀(e j m:Nat),j+e=i→e<m→
    taplineref08_Check.l1 t (i:Int) m (j:Int)=some (if (namedS (t.vDefs.getD i z_api_Def)&&(((t.vDefs.take i).drop j).any fun f=>strEq f.vName (t.vDefs.getD i z_api_Def).vName))=true then .inl 80 else .inr ()):=by
  intro e
  induction e with
  | zero =>
    intro j m hj hm
    obtain ⟨m,rfl⟩:∃q,m=q+1:=⟨m-1,by omega⟩
    rw [taplineref08_Check.l1,if_neg (by simp;omega),List.drop_eq_nil_of_le (by simp;omega)]
    simp
  | succ e ih =>
    intro j m hj hm
    obtain ⟨m,rfl⟩:∃q,m=q+1:=⟨m-1,by omega⟩
    have hlt:j<t.vDefs.length:=by omega
    have hd:(t.vDefs.take i).drop j=t.vDefs.getD j z_api_Def::(t.vDefs.take i).drop (j+1):=by
      rw [drop_getD z_api_Def (by simp;omega)]
      congr 1
      rw [List.getD_eq_getElem?_getD,List.getD_eq_getElem?_getD,List.getElem?_take,if_pos (by omega)]
    rw [taplineref08_Check.l1,if_pos (by simp;omega),if_pos (by omega),rd_nat,rd_nat,hd,List.any_cons]
    simp only [taplineref08_Named.f,Option.bind_some]
    rw [if_pos (fun _=>by omega),if_pos (fun _=>by omega),wrap_nat hlt hl,ih (j+1) m (by omega) (by omega)]
    show (if (namedS (t.vDefs.getD i z_api_Def)&&_)=true then _ else _)=_
    cases namedS (t.vDefs.getD i z_api_Def)<;>cases (strEq (t.vDefs.getD j z_api_Def).vName (t.vDefs.getD i z_api_Def).vName)<;>cases (((t.vDefs.take i).drop (j+1)).any fun f=>strEq f.vName (t.vDefs.getD i z_api_Def).vName)<;>rfl
theorem any_revD (l:List api_Def) (s:ByteArray):((l.map (·.vName)).reverse.any (strEq s))=l.any fun f=>strEq f.vName s:=by
 rw [List.any_reverse,List.any_map]
 congr 1
 funext f
 exact strEq_comm _ _
theorem rdefs_loop {t : api_Types} (hF : ∀ d ∈ t.vDefs, FitD d) (hl : t.vDefs.length ≤ 9223372036854775807) : ∀ (e j : Nat), j + e = t.vDefs.length →
    Ev2 (fun k m=>taplineref08_Check.l0 k t m (j:Int)) (if defsS t.vDefs.length ((t.vDefs.take j).map (·.vName)).reverse (t.vDefs.drop j)=true then .inr () else .inl 80):=by
  intro e
  induction e with
  | zero =>
    intro j hj
    refine Ev2.pure fun k m=>?_
    rw [taplineref08_Check.l0,if_neg (by simp;omega),List.drop_eq_nil_of_le (by omega)]
    rfl
  | succ e ih =>
    intro j hj
    have hlt:j<t.vDefs.length:=by omega
    have hmem:=getD_mem (z:=z_api_Def) hlt
    have hFd:=hF _ hmem
    have h1:=rshaped_ev (t:=t) hFd.len hFd.names hFd.name
    have h2:=ih (j+1) (by omega)
    have ht:((t.vDefs.take (j+1)).map (·.vName)).reverse=(t.vDefs.getD j z_api_Def).vName::((t.vDefs.take j).map (·.vName)).reverse:=by
      rw [List.take_add_one,List.map_append,List.reverse_append]
      rw [List.getD_eq_getElem?_getD,List.getElem?_eq_getElem hlt]
      rfl
    rw [ht] at h2
    rw [drop_getD z_api_Def hlt,defsS]
    refine Ev2.step h1 (r:=fun k m v1=>if (!v1)=true then (some (.inl 80)) else ((taplineref08_Check.l1 t (j:Int) k 0).bind fun xx2=>(match xx2 with| .inl r=>some (.inl r)| .inr s1=>taplineref08_Check.l0 k t m ((j+1:Nat):Int)))) ?_ (fun k m=>?_)
    · rcases Bool.eq_false_or_eq_true (shapedS (t.vDefs.getD j z_api_Def) (t.vDefs.length:Int)) with hn|hn
      · obtain ⟨K,hK⟩:=h2
        rw [hn]
        refine ⟨max K (j+1),fun k m hk hm=>?_⟩
        have h3:=rseen_loop hl hlt j 0 k (by omega) (by omega)
        rw [List.drop_zero] at h3
        simp only [Bool.not_true,Bool.false_eq_true,if_false,Bool.true_and]
        rw [show taplineref08_Check.l1 t (j:Int) k 0=_ from h3,any_revD]
        cases ha:namedS (t.vDefs.getD j z_api_Def)&&(t.vDefs.take j).any fun f=>strEq f.vName (t.vDefs.getD j z_api_Def).vName with
        |true=>simp
        |false=>simpa using hK k m (by omega) (by omega)
      · exact ⟨0,fun k m _ _=>by rw [hn];rfl⟩
    · rw [taplineref08_Check.l0,if_pos (by simp;omega),if_pos (by omega),rd_nat,wrap_nat hlt hl]
      try rfl
def CondQ (t:api_Types) (known:List Int) (q:Nat):Prop:=known.getD q 0≠0∧known.getD q 0≤512∧lostS t.vDefs t.vDefs.length (t.vDefs.getD q z_api_Def)=false∧((t.vDefs.getD q z_api_Def).vKind=4→rplacedS (t.vDefs.getD q z_api_Def) known=true)
theorem rlast_loop {t : api_Types} {known : List Int} (hF : ∀ d ∈ t.vDefs, FitD d) (hS : ∀ d ∈ t.vDefs, ShD d t.vDefs.length) (hn : t.vDefs.length ≤ 200) (hk : known.length = t.vDefs.length) : ∀ (e j : Nat), j + e = t.vDefs.length →
    ∃v,Ev2 (fun k m=>taplineref08_Check.l2 k t known m (j:Int)) v∧((v= .inr ()∧∀q,j≤q→q<t.vDefs.length→CondQ t known q)∨(v= .inl 80∧¬∀q,j≤q→q<t.vDefs.length→CondQ t known q)):=by
  intro e
  induction e with
  | zero =>
    intro j hj
    refine ⟨.inr (),Ev2.pure fun k m=>?_, .inl ⟨rfl,fun q _ _=>by omega⟩⟩
    rw [taplineref08_Check.l2,if_neg (by simp;omega)]
  | succ e ih =>
    intro j hj
    have hlt:j<t.vDefs.length:=by omega
    have hmem:=getD_mem (z:=z_api_Def) hlt
    have he:=rends_ev hS hn hlt
    obtain ⟨v,hv,hp⟩:=ih (j+1) (by omega)
    by_cases hc:CondQ t known j
    · obtain ⟨c1,c2,c3,c4⟩:=hc
      refine ⟨v,?_,?_⟩
      · obtain ⟨K1,hK1⟩:=he
        obtain ⟨K2,hK2⟩:=hv
        by_cases h4:(t.vDefs.getD j z_api_Def).vKind=4
        · obtain ⟨K3,hK3⟩:=rplaced_ev (d:=t.vDefs.getD j z_api_Def) (l:=known) (hF _ hmem).len (fun f hf=>by have:=(hS _ hmem).typ h4 f hf;rw [hk];exact this)
          refine ⟨max (max K1 K2) K3+1,fun k m hk1 hm1=>?_⟩
          obtain ⟨m,rfl⟩:∃q,m=q+1:=⟨m-1,by omega⟩
          show taplineref08_Check.l2 k t known (m+1) (j:Int)=_
          rw [taplineref08_Check.l2,if_pos (by simp;omega),if_pos (by omega),if_pos (fun _=>by omega),rd_nat,rd_nat,show taplineref08_ends.f k t (j:Int)=_ from hK1 k (by omega),c3]
          rw [show (known.getD j 0==0)=false from by simpa using c1,show decide (known.getD j 0>512)=false from decide_eq_false (by omega)]
          simp only [Bool.or_self,beq_self_eq_true,Bool.and_self,if_true,Bool.not_false,Option.bind_some,Bool.not_true,Bool.false_eq_true,if_false]
          rw [if_pos (by omega),if_pos (fun _=>by omega),show ((t.vDefs.getD j z_api_Def).vKind==4)=true from by simpa using h4]
          simp only [Bool.true_and,beq_self_eq_true,if_true]
          rw [show taplineref08_placed.f k _ known=_ from hK3 k (by omega),c4 h4]
          simp only [Option.bind_some,Bool.not_true,Bool.false_eq_true,if_false]
          rw [wrap_nat hlt (by omega)]
          exact hK2 k m (by omega) (by omega)
        · refine ⟨max K1 K2+1,fun k m hk1 hm1=>?_⟩
          obtain ⟨m,rfl⟩:∃q,m=q+1:=⟨m-1,by omega⟩
          show taplineref08_Check.l2 k t known (m+1) (j:Int)=_
          rw [taplineref08_Check.l2,if_pos (by simp;omega),if_pos (by omega),if_pos (fun _=>by omega),rd_nat,rd_nat,show taplineref08_ends.f k t (j:Int)=_ from hK1 k (by omega),c3]
          rw [show (known.getD j 0==0)=false from by simpa using c1,show decide (known.getD j 0>512)=false from decide_eq_false (by omega)]
          simp only [Bool.or_self,beq_self_eq_true,Bool.and_self,if_true,Bool.not_false,Option.bind_some,Bool.not_true,Bool.false_eq_true,if_false]
          rw [if_pos (by omega),if_pos (fun _=>by omega),show ((t.vDefs.getD j z_api_Def).vKind==4)=false from by simpa using h4]
          simp only [Bool.true_and,Bool.false_and,Bool.false_eq_true,if_false,Option.bind_some,show (false==true)=false from rfl]
          rw [wrap_nat hlt (by omega)]
          exact hK2 k m (by omega) (by omega)
      · rcases hp with ⟨a,b⟩|⟨a,b⟩
        · refine .inl ⟨a,fun q hq hq2=>?_⟩
          by_cases hqj:q=j
          · subst hqj;exact ⟨c1,c2,c3,c4⟩
          · exact b q (by omega) hq2
        · exact .inr ⟨a,fun h=>b (fun q hq hq2=>h q (by omega) hq2)⟩
    · refine ⟨.inl 80,?_, .inr ⟨rfl,fun h=>hc (h j (by omega) hlt)⟩⟩
      obtain ⟨K1,hK1⟩:=he
      by_cases c1:known.getD j 0=0
      · refine ⟨K1+1,fun k m hk1 hm1=>?_⟩
        obtain ⟨m,rfl⟩:∃q,m=q+1:=⟨m-1,by omega⟩
        show taplineref08_Check.l2 k t known (m+1) (j:Int)=_
        rw [taplineref08_Check.l2,if_pos (by simp;omega),if_pos (by omega),if_pos (fun _=>by omega),rd_nat,c1]
        rfl
      · by_cases c2:known.getD j 0≤512
        · cases c3:lostS t.vDefs t.vDefs.length (t.vDefs.getD j z_api_Def) with
          | true =>
            refine ⟨K1+1,fun k m hk1 hm1=>?_⟩
            obtain ⟨m,rfl⟩:∃q,m=q+1:=⟨m-1,by omega⟩
            show taplineref08_Check.l2 k t known (m+1) (j:Int)=_
            rw [taplineref08_Check.l2,if_pos (by simp;omega),if_pos (by omega),if_pos (fun _=>by omega),rd_nat,show taplineref08_ends.f k t (j:Int)=_ from hK1 k (by omega),c3]
            rw [show (known.getD j 0==0)=false from by simpa using c1,show decide (known.getD j 0>512)=false from decide_eq_false (by omega)]
            rfl
          | false =>
            have h4:(t.vDefs.getD j z_api_Def).vKind=4:=Classical.byContradiction fun h=>hc ⟨c1,c2,c3,fun h2=>absurd h2 h⟩
            have hpf:rplacedS (t.vDefs.getD j z_api_Def) known=false:=by
              cases hpp:rplacedS (t.vDefs.getD j z_api_Def) known with
              |false=>rfl
              |true=>exact absurd ⟨c1,c2,c3,fun _=>hpp⟩ hc
            obtain ⟨K3,hK3⟩:=rplaced_ev (d:=t.vDefs.getD j z_api_Def) (l:=known) (hF _ hmem).len (fun f hf=>by have:=(hS _ hmem).typ h4 f hf;rw [hk];exact this)
            refine ⟨max K1 K3+1,fun k m hk1 hm1=>?_⟩
            obtain ⟨m,rfl⟩:∃q,m=q+1:=⟨m-1,by omega⟩
            show taplineref08_Check.l2 k t known (m+1) (j:Int)=_
            rw [taplineref08_Check.l2,if_pos (by simp;omega),if_pos (by omega),if_pos (fun _=>by omega),rd_nat,rd_nat,show taplineref08_ends.f k t (j:Int)=_ from hK1 k (by omega),c3]
            rw [show (known.getD j 0==0)=false from by simpa using c1,show decide (known.getD j 0>512)=false from decide_eq_false (by omega)]
            simp only [Bool.or_self,beq_self_eq_true,Bool.and_self,if_true,Bool.not_false,Option.bind_some,Bool.not_true,Bool.false_eq_true,if_false]
            rw [if_pos (by omega),if_pos (fun _=>by omega),show ((t.vDefs.getD j z_api_Def).vKind==4)=true from by simpa using h4]
            simp only [Bool.true_and,beq_self_eq_true,if_true]
            rw [show taplineref08_placed.f k _ known=_ from hK3 k (by omega),hpf]
            rfl
        · refine ⟨K1+1,fun k m hk1 hm1=>?_⟩
          obtain ⟨m,rfl⟩:∃q,m=q+1:=⟨m-1,by omega⟩
          show taplineref08_Check.l2 k t known (m+1) (j:Int)=_
          rw [taplineref08_Check.l2,if_pos (by simp;omega),if_pos (by omega),if_pos (fun _=>by omega),rd_nat]
          rw [show (known.getD j 0==0)=false from by simpa using c1,show decide (known.getD j 0>512)=true from decide_eq_true (by omega)]
          rfl
theorem rcheck_iff {t : api_Types} (hF : ∀ d ∈ t.vDefs, FitD d) : (∃ l, Wf t l ∧ Ev (fun k => taplineref08_sizes.f k t) l ∧ Ev (fun k => taplineref08_Check.f k t) 0) ∨ ((∀ l, ¬ Wf t l) ∧ Ev (fun k => taplineref08_Check.f k t) 80) := by
  by_cases hn:(t.vDefs.length:Int)>200
  · refine .inr ⟨fun l W=>by have:=W.few;omega,Ev.pure fun k=>?_⟩
    unfold taplineref08_Check.f
    rw [if_pos (by simpa using hn)]
  · have hn:t.vDefs.length≤200:=by omega
    have hcond:¬decide ((t.vDefs.length:Int)>200)=true:=by simp;omega
    obtain ⟨K,hK⟩:=(rdefs_loop hF (by omega) t.vDefs.length 0 (by omega)).diag
    simp only [List.take_zero,List.map_nil,List.reverse_nil,List.drop_zero] at hK
    cases hd:defsS t.vDefs.length [] t.vDefs with
    | false =>
      rw [hd] at hK
      refine .inr ⟨fun l W=>(by have:=W.defs;rw [hd] at this;cases this),⟨K,fun k hk=>?_⟩⟩
      show taplineref08_Check.f k t=_
      unfold taplineref08_Check.f
      rw [if_neg hcond,show taplineref08_Check.l0 k t k 0=_ from hK k hk]
      rfl
    | true =>
      rw [hd] at hK
      have hS:=defs_of _ _ hd
      obtain ⟨known,hsz,I,F⟩:=rsizes_ev hS hn
      obtain ⟨v,hv,hp⟩:=rlast_loop hF hS hn I.len t.vDefs.length 0 (by omega)
      obtain ⟨K2,hK2⟩:=hv.diag
      obtain ⟨K3,hK3⟩:=hsz
      rcases hp with ⟨rfl,hp⟩|⟨rfl,hp⟩
      · have hg:=rsizes_conv I (fun j hj=>⟨(hp j (by omega) hj).1,(hp j (by omega) hj).2.1⟩)
        have hidx:∀d∈t.vDefs,∃q,q<t.vDefs.length∧t.vDefs.getD q z_api_Def=d:=fun d hd=>by
          obtain ⟨q,hq,e⟩:=List.mem_iff_getElem.1 hd
          exact ⟨q,hq,by rw [List.getD_eq_getElem?_getD,List.getElem?_eq_getElem hq];exact e⟩
        refine .inl ⟨known,⟨hn,hd,hg,fun d hd=>?_,fun d hd h4=>?_⟩,⟨K3,hK3⟩,⟨max (max K K2) K3,fun k hk=>?_⟩⟩
        · obtain ⟨q,hq,rfl⟩:=hidx d hd
          exact (hp q (by omega) hq).2.2.1
        · rw [←rplaced_same hg hS hd h4]
          obtain ⟨q,hq,rfl⟩:=hidx d hd
          exact (hp q (by omega) hq).2.2.2 h4
        · show taplineref08_Check.f k t=_
          unfold taplineref08_Check.f
          rw [if_neg hcond,show taplineref08_Check.l0 k t k 0=_ from hK k (by omega)]
          simp only [if_true,Option.bind_some]
          rw [show taplineref08_sizes.f k t=_ from hK3 k (by omega)]
          simp only [Option.bind_some]
          rw [show taplineref08_Check.l2 k t known k 0=_ from hK2 k (by omega)]
          rfl
      · refine .inr ⟨fun l W=>?_,⟨max (max K K2) K3,fun k hk=>?_⟩⟩
        · have hkl:=rsizes_good hS I F W.sz
          subst hkl
          refine hp fun q _ hq=>?_
          obtain ⟨rk,h⟩:=W.sz.ex
          have hm:=getD_mem (z:=z_api_Def) hq
          refine ⟨by have:=(h q hq).1;omega,(h q hq).2.1,W.ends _ hm,fun h4=>?_⟩
          rw [rplaced_same W.sz hS hm h4]
          exact W.placed _ hm h4
        · show taplineref08_Check.f k t=_
          unfold taplineref08_Check.f
          rw [if_neg hcond,show taplineref08_Check.l0 k t k 0=_ from hK k (by omega)]
          simp only [if_true,Option.bind_some]
          rw [show taplineref08_sizes.f k t=_ from hK3 k (by omega)]
          simp only [Option.bind_some]
          rw [show taplineref08_Check.l2 k t known k 0=_ from hK2 k (by omega)]
          rfl
section
variable {t:api_Types} {l:List Int}
end
section
variable {t:api_Types} {l:List Int}
end
section
variable {t:api_Types} {l:List Int}
end
def dAt (t:api_Types) (i:Nat):api_Def:=t.vDefs.getD i z_api_Def
noncomputable def tx (t:api_Types) (i:Nat):ByteArray:=by
 classical exact if h:∃s,Ev (fun k=>ctf_text.f k t (i:Int)) s then Classical.choose h else ByteArray.empty
section
variable {t u:api_Types} {l m:List Int}
theorem dAt_mem {i:Nat} (hi:i<t.vDefs.length):dAt t i∈t.vDefs:=getD_mem hi
def bs (s:ByteArray):List UInt8:=s.data.toList
end
def kids (d:api_Def):List Int:=if d.vKind=2∨d.vKind=3∨d.vKind=6 then [d.vRef] else if d.vKind=4 then d.vFields.map (·.vType) else []
inductive Rch (t:api_Types) (i:Nat):Nat→Prop
 |refl:Rch t i i
 |step {k:Nat} {c:Int} (h:Rch t i k) (hc:c∈kids (dAt t k)):Rch t i c.toNat
theorem kids_ref {d:api_Def} (h:d.vKind=2∨d.vKind=3∨d.vKind=6):kids d=[d.vRef]:=by unfold kids;rw [if_pos h]
theorem kids_struct {d:api_Def} (h:d.vKind=4):kids d=d.vFields.map (·.vType):=by unfold kids;rw [if_neg (by omega),if_pos h]
theorem kids_none {d:api_Def} (h:¬(d.vKind=2∨d.vKind=3∨d.vKind=6)) (h4:d.vKind≠4):kids d=[]:=by unfold kids;rw [if_neg h,if_neg h4]
section
variable {t:api_Types} {l:List Int}
theorem kids_range (W:Wf t l) {i:Nat} (hi:i<t.vDefs.length) {c:Int} (hc:c∈kids (dAt t i)):c=((c.toNat:Nat):Int)∧c.toNat<t.vDefs.length:=by
 have hd:=W.sh _ (dAt_mem hi)
 by_cases h:(dAt t i).vKind=2∨(dAt t i).vKind=3∨(dAt t i).vKind=6
 ·rw [kids_ref h] at hc
  have:=hd.ref h
  rw [List.mem_singleton.1 hc]
  omega
 ·by_cases h4:(dAt t i).vKind=4
  ·rw [kids_struct h4] at hc
   obtain ⟨f,hf,rfl⟩:=List.mem_map.1 hc
   have:=hd.typ h4 f hf
   omega
  ·rw [kids_none h h4] at hc;cases hc
theorem Rch.lt (W:Wf t l) {i k:Nat} (hi:i<t.vDefs.length) (h:Rch t i k):k<t.vDefs.length:=by
 induction h with
 |refl=>exact hi
 |step h hc ih=>exact (kids_range W ih hc).2
theorem Rch.trans {i j k:Nat} (h:Rch t i j) (g:Rch t j k):Rch t i k:=by
 induction g with
 |refl=>exact h
 |step g hc ih=>exact .step ih hc
def keysL (m:List (Int×Bool)):List Int:=m.map (·.1)
def AllT (m:List (Int×Bool)):Prop:=∀p∈m,p.2=true
structure Seen (t:api_Types) (from_:Nat→Prop) (m m':List (Int×Bool)):Prop where
 all:AllT m'
 mono:∀y∈keysL m,y∈keysL m'
 new:∀y∈keysL m',y∉keysL m→∃k:Nat,y=(k:Int)∧(∃i,from_ i∧Rch t i k)∧∀c∈kids (dAt t k),c∈keysL m'
theorem Seen.rfl' {from_:Nat→Prop} {m:List (Int×Bool)} (h:AllT m):Seen t from_ m m:=⟨h,fun _ h=>h,fun y h1 h2=>absurd h1 h2⟩
theorem Seen.then {F G H:Nat→Prop} {a b c:List (Int×Bool)} (h:Seen t F a b) (g:Seen t G b c) (hF:∀i,F i→H i) (hG:∀i,G i→H i):Seen t H a c:=by
 refine ⟨g.all,fun y hy=>g.mono y (h.mono y hy),fun y hy hn=>?_⟩
 by_cases hb:y∈keysL b
 ·obtain ⟨k,e,⟨i,h1,h2⟩,h3⟩:=h.new y hb hn
  exact ⟨k,e,⟨i,hF i h1,h2⟩,fun c hc=>g.mono c (h3 c hc)⟩
 ·obtain ⟨k,e,⟨i,h1,h2⟩,h3⟩:=g.new y hy hb
  exact ⟨k,e,⟨i,hG i h1,h2⟩,h3⟩
end
noncomputable def tell (p:Prop):Bool:=by classical exact decide p
theorem tell_t {p:Prop} (h:p):tell p=true:=by unfold tell;simp [h]
theorem tell_f {p:Prop} (h:¬p):tell p=false:=by unfold tell;simp [h]
theorem tell_iff {p:Prop}:tell p=true↔p:=by unfold tell;simp
theorem tell_of {p:Prop} {b:Bool} (h:b=true↔p):b=tell p:=by
 by_cases hp:p
 ·rw [tell_t hp];exact h.2 hp
 ·rw [tell_f hp]
  cases b with
  |false=>rfl
  |true=>exact absurd (h.1 rfl) hp
theorem tell_congr {p q:Prop} (h:p↔q):tell p=tell q:=tell_of (tell_iff.trans h)
def fAt (d:api_Def) (j:Nat):api_Field:=d.vFields.getD j z_api_Field
def AlikeF (t:api_Types) (u:api_Types) (k:Int) (f g:api_Field):Prop:=f.vName=g.vName∧f.vAt=g.vAt∧(k=4→tx t f.vType.toNat=tx u g.vType.toNat)
structure AlikeS (t:api_Types) (d:api_Def) (u:api_Types) (g:api_Def):Prop where
 kind:d.vKind=g.vKind
 name:d.vName=g.vName
 int:d.vInt.vSize=g.vInt.vSize∧d.vInt.vSigned=g.vInt.vSigned
 num:d.vN=g.vN
 ref:d.vKind=2∨d.vKind=3∨d.vKind=6→tx t d.vRef.toNat=tx u g.vRef.toNat
 len:d.vFields.length=g.vFields.length
 fld:∀j,j<d.vFields.length→AlikeF t u d.vKind (fAt d j) (fAt g j)
section
variable {t u:api_Types} {l m:List Int}
end
section
variable {t:api_Types} {l:List Int}
structure RInv (t:api_Types) (fr:List Nat) (is:List Bool) (todo:List Int):Prop where
 len:is.length=t.vDefs.length
 mark:∀k,is.getD k false=true→∃i∈fr,Rch t i k
 todo_in:∀x∈todo,x=((x.toNat:Nat):Int)∧x.toNat<t.vDefs.length∧∃i∈fr,Rch t i x.toNat
 closed:∀k,is.getD k false=true→∀c∈kids (dAt t k),is.getD c.toNat false=true∨c∈todo
 start:∀i∈fr,is.getD i false=true∨((i:Nat):Int)∈todo
end
end Go.Proofs.YtfjppgobidjndaaDoor
namespace Go.Proofs.YtfjppgobidjndaaDoor
open Go.RowKit Go.M
end Go.Proofs.YtfjppgobidjndaaDoor
/-taplineref08.Reach:a list that is cut at its front and appended to. -/
namespace Go.Proofs.YtfjppgobidjndaaDoor
open Go.RowKit Go.M
/-- a row of numbers of one's own, that may begin within its block -/
def RowA (h:View) (xs:List Int) (A:Option Addr) (ob:Option Nat) (c:Nat) (cs:List Value):Prop:=∃pre body,cs=pre++body∧OffA A ob pre.length c∧RowOk (Kd.int .i64) h xs ob xs.length c body
theorem RowA.cap {h:View} {xs:List Int} {A:Option Addr} {ob:Option Nat} {c:Nat} {cs:List Value} (ho:RowA h xs A ob c cs):xs.length≤c:=by
 obtain ⟨pre,body,_,_,h⟩:=ho;exact h.le
theorem RowA.view {h h':View} {xs:List Int} {A:Option Addr} {ob:Option Nat} {c:Nat} {cs:List Value} (ho:RowA h xs A ob c cs) (hs:Sub h h'):RowA h' xs A ob c cs:=by
 obtain ⟨pre,body,h1,h2,h3⟩:=ho;exact ⟨pre,body,h1,h2,h3.view hs⟩
section
variable {P:Program} {ops:Array Oper} {Q:Exit→Act→World→Prop} {l:List Value} {df:List Deferred} {w:World} {os:List Oper} {M:List Nat} {h0 h:View} {w0:World} {bs:List Res} {dst:Tmp} {ty:TypeId} {pos:String} {after:Array Edge}
end
set_option maxRecDepth 20000
set_option maxHeartbeats 4000000
end Go.Proofs.YtfjppgobidjndaaDoor
namespace Go.Proofs.YtfjppgobidjndaaDoor
open Go.RowKit Go.M
def slices_EqualFunc_api_Def_api_Def_api_Def_api_Def.l0 (a0:List api_Def) (a1:List api_Def) (a2:(api_Def→api_Def→Option Bool)):Nat→Int→Option ((Bool)⊕(Unit))
 |0,_=>none
 |m+1,y1_0=>if (decide (y1_0<(a0.length:Int)))=true then (if 0≤y1_0∧y1_0<a0.length then (if 0≤y1_0∧y1_0<a1.length then ((a2 (rd z_api_Def a0 y1_0) (rd z_api_Def a1 y1_0)).bind fun v1=>(if (!v1)=true then (some (.inl false)) else (slices_EqualFunc_api_Def_api_Def_api_Def_api_Def.l0 a0 a1 a2 m (IntKind.wrap .i64 (y1_0+1))))) else none) else none) else (some (.inr ()))
def slices_EqualFunc_api_Def_api_Def_api_Def_api_Def.f (k:Nat) (a0:List api_Def) (a1:List api_Def) (a2:api_Def→api_Def→Option Bool):Option (Bool):=if ((a0.length:Int) !=(a1.length:Int))=true then (some false) else ((slices_EqualFunc_api_Def_api_Def_api_Def_api_Def.l0 a0 a1 a2 k 0).bind fun xx1=>(match xx1 with| .inl r=>some r| .inr s1=>some true))
def slices_Equal_api_Field_api_Field.l0 (a0:List api_Field) (a1:List api_Field):Nat→Int→Option ((Bool)⊕(Unit))
 |0,_=>none
 |m+1,y1_0=>if (decide (y1_0<(a0.length:Int)))=true then (if 0≤y1_0∧y1_0<a0.length then (if 0≤y1_0∧y1_0<a1.length then (if (!((strEq ((rd z_api_Field a0 y1_0).vName) ((rd z_api_Field a1 y1_0).vName))&&(((rd z_api_Field a0 y1_0).vType==(rd z_api_Field a1 y1_0).vType)&&(((rd z_api_Field a0 y1_0).vAt==(rd z_api_Field a1 y1_0).vAt)&&true))))=true then (some (.inl false)) else (slices_Equal_api_Field_api_Field.l0 a0 a1 m (IntKind.wrap .i64 (y1_0+1)))) else none) else none) else (some (.inr ()))
def slices_Equal_api_Field_api_Field.f (k:Nat) (a0:List api_Field) (a1:List api_Field):Option (Bool):=if ((a0.length:Int) !=(a1.length:Int))=true then (some false) else ((slices_Equal_api_Field_api_Field.l0 a0 a1 k 0).bind fun xx1=>(match xx1 with| .inl r=>some r| .inr s1=>some true))
def ctf_Same_1.f (k:Nat) (a0:api_Def) (a1:api_Def):Option (Bool):=(if (true&&((((((a0.vKind==a1.vKind)&&(strEq a0.vName a1.vName))&&((a0.vInt.vSize==a1.vInt.vSize)&&((a0.vInt.vSigned==a1.vInt.vSigned)&&true)))&&(a0.vRef==a1.vRef))&&(a0.vN==a1.vN))==true))=true then slices_Equal_api_Field_api_Field.f k a0.vFields a1.vFields else some false).bind fun v1=>(some ((((((a0.vKind==a1.vKind)&&(strEq a0.vName a1.vName))&&((a0.vInt.vSize==a1.vInt.vSize)&&((a0.vInt.vSigned==a1.vInt.vSigned)&&true)))&&(a0.vRef==a1.vRef))&&(a0.vN==a1.vN))&&v1))
def ctf_Same.f (k:Nat) (a0:api_Types) (a1:api_Types):Option (Bool):=(slices_EqualFunc_api_Def_api_Def_api_Def_api_Def.f k a0.vDefs a1.vDefs (fun z0 z1=>ctf_Same_1.f k z0 z1)).bind fun v1=>(some v1)
section
variable {t u:api_Types} {l lu:List Int}
end
theorem sameFields_l0 (a b:List api_Field):∀(m:Nat) (y:Int),taplineref08_SameFields.l0 a b m y=slices_Equal_api_Field_api_Field.l0 a b m y
 |0,_=>rfl
 |m+1,y=>by rw [taplineref08_SameFields.l0,slices_Equal_api_Field_api_Field.l0,sameFields_l0 a b m]
theorem sameFields_eq (k:Nat) (a b:List api_Field):taplineref08_SameFields.f k a b=slices_Equal_api_Field_api_Field.f k a b:=by
 unfold taplineref08_SameFields.f slices_Equal_api_Field_api_Field.f
 rw [sameFields_l0]
 split
 ·rfl
 ·cases slices_Equal_api_Field_api_Field.l0 a b k 0 with
  |none=>rfl
  |some x=>cases x<;>rfl
theorem sameDef_eq (k:Nat) (a b:api_Def):taplineref08_SameDef.f k a b=ctf_Same_1.f k a b:=by
 unfold taplineref08_SameDef.f ctf_Same_1.f
 rw [sameFields_eq]
theorem same_l0 (k:Nat) (t u:api_Types):∀(m:Nat) (y:Int),taplineref08_Same.l0 k t u m y=slices_EqualFunc_api_Def_api_Def_api_Def_api_Def.l0 t.vDefs u.vDefs (fun z0 z1=>ctf_Same_1.f k z0 z1) m y
 |0,_=>rfl
 |m+1,y=>by rw [taplineref08_Same.l0,slices_EqualFunc_api_Def_api_Def_api_Def_api_Def.l0,same_l0 k t u m,sameDef_eq]
theorem same_eq (k:Nat) (t u:api_Types):taplineref08_Same.f k t u=ctf_Same.f k t u:=by
 unfold taplineref08_Same.f ctf_Same.f slices_EqualFunc_api_Def_api_Def_api_Def_api_Def.f
 simp only [same_l0]
 split
 ·rfl
 ·cases slices_EqualFunc_api_Def_api_Def_api_Def_api_Def.l0 t.vDefs u.vDefs (fun z0 z1=>ctf_Same_1.f k z0 z1) k 0 with
  |none=>rfl
  |some x=>cases x<;>rfl
def feqS (f g:api_Field):Bool:=(strEq f.vName g.vName)&&((f.vType==g.vType)&&((f.vAt==g.vAt)&&true))
theorem feqS_refl (f:api_Field):feqS f f=true:=by unfold feqS;rw [strEq_iff.2 rfl];simp
theorem flds_loop {a b : List api_Field} (hl : a.length ≤ 9223372036854775807) (hab : a.length = b.length) : ∀ (e j m : Nat), j + e = a.length → e < m →
    slices_Equal_api_Field_api_Field.l0 a b m (j:Int)=some (if tell (∀i,j≤i→i<a.length→feqS (a.getD i z_api_Field) (b.getD i z_api_Field)=true)=true then .inr () else .inl false):=by
  intro e
  induction e with
  | zero =>
    intro j m hj hm
    obtain ⟨m,rfl⟩:∃q,m=q+1:=⟨m-1,by omega⟩
    rw [slices_Equal_api_Field_api_Field.l0,if_neg (by simp;omega),if_pos (tell_t (fun i h1 h2=>by omega))]
  | succ e ih =>
    intro j m hj hm
    obtain ⟨m,rfl⟩:∃q,m=q+1:=⟨m-1,by omega⟩
    have hlt:j<a.length:=by omega
    rw [slices_Equal_api_Field_api_Field.l0,if_pos (by simp;omega),if_pos (by omega),if_pos (by omega),rd_nat,rd_nat,wrap_nat hlt hl,ih (j+1) m (by omega) (by omega)]
    show (if (!feqS (a.getD j z_api_Field) (b.getD j z_api_Field))=true then _ else _)=_
    by_cases hq:feqS (a.getD j z_api_Field) (b.getD j z_api_Field)=true
    · rw [hq,if_neg (by simp),tell_congr (p:=∀i,j+1≤i→i<a.length→feqS (a.getD i z_api_Field) (b.getD i z_api_Field)=true) (q:=∀i,j≤i→i<a.length→feqS (a.getD i z_api_Field) (b.getD i z_api_Field)=true)]
      exact ⟨fun h i h1 h2 => by
        by_cases e:i=j
        · subst e;exact hq
        · exact h i (by omega) h2, fun h i h1 h2 => h i (by omega) h2⟩
    · rw [tell_f (p:=∀i,j≤i→i<a.length→feqS (a.getD i z_api_Field) (b.getD i z_api_Field)=true) (fun h=>hq (h j (Nat.le_refl _) hlt)),if_pos (by simpa using hq)]
      rfl
theorem flds_ev {a b:List api_Field} (hl:a.length≤9223372036854775807):Ev (fun k=>slices_Equal_api_Field_api_Field.f k a b) (tell (a.length=b.length∧∀i,i<a.length→feqS (a.getD i z_api_Field) (b.getD i z_api_Field)=true)):=by
 by_cases hab:a.length=b.length
 ·refine ⟨a.length+1,fun k hk=>?_⟩
  show slices_Equal_api_Field_api_Field.f k a b=_
  unfold slices_Equal_api_Field_api_Field.f
  rw [if_neg (by simp;omega),show slices_Equal_api_Field_api_Field.l0 a b k 0=_ from flds_loop hl hab a.length 0 k (by omega) (by omega)]
  rw [tell_congr (p:=∀i,0≤i→i<a.length→feqS (a.getD i z_api_Field) (b.getD i z_api_Field)=true) (q:=a.length=b.length∧∀i,i<a.length→feqS (a.getD i z_api_Field) (b.getD i z_api_Field)=true) ⟨fun h=>⟨hab,fun i hi=>h i (by omega) hi⟩,fun h i _ hi=>h.2 i hi⟩]
  generalize tell (a.length=b.length∧∀i,i<a.length→feqS (a.getD i z_api_Field) (b.getD i z_api_Field)=true)=x
  cases x<;>rfl
 ·refine Ev.pure fun k=>?_
  unfold slices_Equal_api_Field_api_Field.f
  rw [if_pos (by simp;omega),tell_f (fun h=>hab h.1)]
def headS (a b:api_Def):Bool:=((((a.vKind==b.vKind)&&(strEq a.vName b.vName))&&((a.vInt.vSize==b.vInt.vSize)&&((a.vInt.vSigned==b.vInt.vSigned)&&true)))&&(a.vRef==b.vRef))&&(a.vN==b.vN)
def SameD (a b:api_Def):Prop:=headS a b=true∧a.vFields.length=b.vFields.length∧∀i,i<a.vFields.length→feqS (a.vFields.getD i z_api_Field) (b.vFields.getD i z_api_Field)=true
theorem SameD.refl (a:api_Def):SameD a a:=⟨by unfold headS;rw [strEq_iff.2 rfl];simp,rfl,fun i _=>feqS_refl _⟩
theorem sameD_ev {a b:api_Def} (hl:a.vFields.length≤9223372036854775807):Ev (fun k=>ctf_Same_1.f k a b) (tell (SameD a b)):=by
  obtain ⟨K,hK⟩:=flds_ev (a:=a.vFields) (b:=b.vFields) hl
  refine ⟨K,fun k hk=>?_⟩
  show ctf_Same_1.f k a b=_
  unfold ctf_Same_1.f
  show ((if (true&&(headS a b==true))=true then _ else _:Option Bool).bind fun v1=>some (headS a b&&v1))=_
  cases hh:headS a b with
  | true =>
    rw [if_pos (show (true&&(true==true))=true from rfl),show slices_Equal_api_Field_api_Field.f k a.vFields b.vFields=_ from hK k hk]
    exact congrArg some (tell_congr ⟨fun h=>⟨hh,h⟩,fun h=>h.2⟩)
  | false =>
    rw [tell_f (fun h:SameD a b=>by rw [SameD,hh] at h;cases h.1)]
    rfl
theorem eqfuncD_loop {a b : List api_Def} {p : Nat → api_Def → api_Def → Option Bool} {q : api_Def → api_Def → Prop} (hl : a.length ≤ 9223372036854775807) (hab : a.length = b.length)
    (hp:∀j,j<a.length→Ev (fun k=>p k (a.getD j z_api_Def) (b.getD j z_api_Def)) (tell (q (a.getD j z_api_Def) (b.getD j z_api_Def)))):∀(e j:Nat),j+e=a.length→
    Ev2 (fun k m=>slices_EqualFunc_api_Def_api_Def_api_Def_api_Def.l0 a b (p k) m (j:Int)) (if tell (∀i,j≤i→i<a.length→q (a.getD i z_api_Def) (b.getD i z_api_Def))=true then .inr () else .inl false):=by
  intro e
  induction e with
  | zero =>
    intro j hj
    refine Ev2.pure fun k m=>?_
    rw [slices_EqualFunc_api_Def_api_Def_api_Def_api_Def.l0,if_neg (by simp;omega),if_pos (tell_t (fun i h1 h2=>by omega))]
  | succ e ih =>
    intro j hj
    have hlt:j<a.length:=by omega
    have h2:=ih (j+1) (by omega)
    refine Ev2.step (hp j hlt) (r:=fun k m v1=>if (!v1)=true then (some (.inl false)) else (slices_EqualFunc_api_Def_api_Def_api_Def_api_Def.l0 a b (p k) m ((j+1:Nat):Int))) ?_ (fun k m=>?_)
    · by_cases hq:q (a.getD j z_api_Def) (b.getD j z_api_Def)
      · rw [tell_t hq]
        obtain ⟨K,hK⟩:=h2
        refine ⟨K,fun k m hk hm=>?_⟩
        simp only [Bool.not_true,Bool.false_eq_true,if_false]
        rw [show slices_EqualFunc_api_Def_api_Def_api_Def_api_Def.l0 a b (p k) m ((j+1:Nat):Int)=_ from hK k m hk hm]
        congr 2
        rw [tell_congr (p:=∀i,j+1≤i→i<a.length→q (a.getD i z_api_Def) (b.getD i z_api_Def)) (q:=∀i,j≤i→i<a.length→q (a.getD i z_api_Def) (b.getD i z_api_Def))]
        exact ⟨fun h i h1 h2 => by
          by_cases e:i=j
          · subst e;exact hq
          · exact h i (by omega) h2, fun h i h1 h2 => h i (by omega) h2⟩
      · rw [tell_f hq,if_neg (by rw [tell_f (fun h=>hq (h j (Nat.le_refl _) hlt))];simp)]
        exact ⟨0,fun k m _ _=>rfl⟩
    · rw [slices_EqualFunc_api_Def_api_Def_api_Def_api_Def.l0,if_pos (by simp;omega),if_pos (by omega),if_pos (by omega),rd_nat,rd_nat,wrap_nat hlt hl]
theorem eqfuncD_ev {a b:List api_Def} {p:Nat→api_Def→api_Def→Option Bool} {q:api_Def→api_Def→Prop} (hl:a.length≤9223372036854775807)
  (hp:a.length=b.length→∀j,j<a.length→Ev (fun k=>p k (a.getD j z_api_Def) (b.getD j z_api_Def)) (tell (q (a.getD j z_api_Def) (b.getD j z_api_Def)))):
  Ev (fun k=>slices_EqualFunc_api_Def_api_Def_api_Def_api_Def.f k a b (p k)) (tell (a.length=b.length∧∀i,i<a.length→q (a.getD i z_api_Def) (b.getD i z_api_Def))):=by
 by_cases hab:a.length=b.length
 ·obtain ⟨K,hK⟩:=(eqfuncD_loop hl hab (hp hab) a.length 0 (by omega)).diag
  refine ⟨K,fun k hk=>?_⟩
  show slices_EqualFunc_api_Def_api_Def_api_Def_api_Def.f k a b (p k)=_
  unfold slices_EqualFunc_api_Def_api_Def_api_Def_api_Def.f
  rw [if_neg (by simp;omega),show slices_EqualFunc_api_Def_api_Def_api_Def_api_Def.l0 a b (p k) k 0=_ from hK k hk]
  rw [tell_congr (p:=∀i,0≤i→i<a.length→q (a.getD i z_api_Def) (b.getD i z_api_Def)) (q:=a.length=b.length∧∀i,i<a.length→q (a.getD i z_api_Def) (b.getD i z_api_Def)) ⟨fun h=>⟨hab,fun i hi=>h i (by omega) hi⟩,fun h i _ hi=>h.2 i hi⟩]
  generalize tell (a.length=b.length∧∀i,i<a.length→q (a.getD i z_api_Def) (b.getD i z_api_Def))=x
  cases x<;>rfl
 ·refine Ev.pure fun k=>?_
  unfold slices_EqualFunc_api_Def_api_Def_api_Def_api_Def.f
  rw [if_pos (by simp;omega),tell_f (fun h=>hab h.1)]
theorem same_ev {t u:api_Types} (hF:FitT t):Ev (fun k=>ctf_Same.f k t u) (tell (t.vDefs.length=u.vDefs.length∧∀i,i<t.vDefs.length→SameD (t.vDefs.getD i z_api_Def) (u.vDefs.getD i z_api_Def))):=by
 obtain ⟨K,hK⟩:=eqfuncD_ev (a:=t.vDefs) (b:=u.vDefs) (p:=fun k z0 z1=>ctf_Same_1.f k z0 z1) (q:=SameD) hF.1 (fun _ j hj=>sameD_ev (hF.2 _ (getD_mem hj)).len)
 refine ⟨K,fun k hk=>?_⟩
 show ctf_Same.f k t u=_
 unfold ctf_Same.f
 rw [show slices_EqualFunc_api_Def_api_Def_api_Def_api_Def.f k t.vDefs u.vDefs (fun z0 z1=>ctf_Same_1.f k z0 z1)=_ from hK k hk]
 rfl
end Go.Proofs.YtfjppgobidjndaaDoor
