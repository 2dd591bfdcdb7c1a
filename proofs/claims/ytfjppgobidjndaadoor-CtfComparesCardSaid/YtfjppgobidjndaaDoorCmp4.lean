/- Parts of a proof, merged by program: F13 Q6 N1 F101 F54 N2 Q14 F115 F84 Q15 F122 F123 F104 F61 F29 Q16 N3 F49 F94 F95 F96 F97 F48. The walks (each function once) and the plain laws; no condition of their own. -/
import Derived.Test.YtfjppgobidjndaaDoorCmp3
set_option linter.unusedVariables false
set_option linter.unusedSimpArgs false
set_option maxRecDepth 20000
set_option maxHeartbeats 4000000
namespace Go.Proofs.YtfjppgobidjndaaDoor
open Go.RowKit Go.M
def taplinelaw08_sane.f (k:Nat):Option (Bool):=(taplinelaw08_sample.f).bind fun v1=>((ctf_Size.f k v1 1).bind fun v2=>((ctf_Text.f k v1 3).bind fun v3=>((ctf_Member.f k v1 1 (⟨#[116,95,110,101,120,116]⟩:ByteArray)).bind fun v4=>((ctf_Path.f k v1 1 ([(⟨#[116,95,110,97,109,101]⟩:ByteArray)]:List ByteArray)).bind fun v5=>((ctf_Check.f k v1).bind fun v6=>(if (((((((((((v6 !=0)||(v2.2 !=0))||(v2.1 !=24))||(v3.2 !=0))||(!(strEq v3.1 (⟨#[99,104,97,114,32,91,56,93]⟩:ByteArray))))||(v4.2 !=0))||(v4.1.vType !=2))||(v4.1.vAt !=8))||(v5.2.2 !=0))||(v5.1 !=3))||(v5.2.1 !=16))=true then (some false) else ((ctf_Member.f k v1 2 (⟨#[116,95,116,105,100]⟩:ByteArray)).bind fun v7=>(if 0+v1.vDefs.length≤4294967296 then (if (0+v1.vDefs.length)+1≤4294967296 then ((ctf_Unique.f k (⟨((([]:List api_Def)++v1.vDefs)++([(⟨2,ByteArray.empty,(⟨0,false⟩:api_Int),1,0,[]⟩:api_Def)]:List api_Def))⟩:api_Types)).bind fun v8=>((ctf_Encode.f k (⟨[]⟩:api_Types)).bind fun v9=>((if (true&&(((v7.2==5)&&(v8.2.2==0))==true))=true then taplineref08_Same.f k v8.1 v1 else some false).bind fun v10=>((if (true&&((((v7.2==5)&&(v8.2.2==0))&&v10)==true))=true then taplineref08_SameInts.f k v8.2.1 ([0,1,2,3,4,2]:List Int) else some false).bind fun v11=>(some ((((((v7.2==5)&&(v8.2.2==0))&&v10)&&v11)&&(v9.2==0))&&(strEq (strOf v9.1) (⟨#[67,84,70,1,0]⟩:ByteArray)))))))) else none) else none))))))))
theorem taplinelaw08_sane.calls (k:Nat) {h0:View} {w0:World} (hv:Sees h0 w0) (ht:Tab w0) {r:Bool} (H:taplinelaw08_sane.f k=some r):Calls Tryd.prog 13 #[] w0 (fun e w1=>e= .returned (vB r)∧Ext w0 w1):=by
 unfold taplinelaw08_sane.f at H
 have HS:St [] h0 w0 h0 [] w0:=St.init hv
 go_enter Tryd.func13,Tryd.ntmps13
 refine wp_seq<|region<|rs (vB false) (r_assign rfl) ?_
 try simp only [sc0,sc1]
 refine run_nil<|norm_then<|wp_seq<|region ?_
 obtain ⟨v1,H1,H⟩:=of_bind H
 refine run_ex rfl rfl (does_call Tryd.call42 rfl (gives_in (h:=h0) (R:=(fun hx u=>∃(Av1_0_0:Option Addr) (cv1_0_0:Nat),u=Value.agg #[vL Av1_0_0 v1.vDefs.length cv1_0_0]∧v1.vDefs.length≤cv1_0_0∧Rd k_api_Def hx Av1_0_0 v1.vDefs)) (Ext.rfl' w0) ((taplinelaw08_sample.calls HS.sees H1).mono ?_)) rfl) ?_
 ·rintro _ _ ⟨h1,Av1_0_0,cv1_0_0,rfl,hcv1_0_0,hrv1_0_0,g,ss,x⟩
  exact ⟨h1,_,rfl,⟨Av1_0_0,cv1_0_0,rfl,hcv1_0_0,hrv1_0_0⟩,g,ss,x⟩
 rintro w1 _ hE1 ⟨h1,⟨Av1_0_0,cv1_0_0,rfl,hcv1_0_0,hrv1_0_0⟩,gr1,se1⟩
 have HS1:=HS.view hE1 gr1 se1
 refine run_ex rfl rfl (does_alloc (cs:=#[vL none 0 0]) Tryd.zeroValue24 rfl) ?_
 rintro w2 _ hE2 ⟨b1,rfl,ge1,hb1⟩
 have HS2:=HS1.new hE2 ge1 hb1
 refine run_st (i:=0) (cs:=[vL none 0 0]) (cs':=[vL Av1_0_0 v1.vDefs.length cv1_0_0]) (vs:=[vL Av1_0_0 v1.vDefs.length cv1_0_0]) (bs':=[(some b1, .cells #[vL Av1_0_0 v1.vDefs.length cv1_0_0] 24 (0,0))]) rfl rfl Tryd.sizeOf24 rfl rfl (by decide) rfl HS2 rfl (Nat.le_of_ble_eq_true rfl) rfl rfl ?_
 intro w3 HS3
 try simp only [sc0,sc1]
 refine run_nil<|norm_then<|wp_seq<|region<|rs (Value.agg #[vL Av1_0_0 v1.vDefs.length cv1_0_0]) (r_loadBoxAgg (n:=1) (vs:=[vL Av1_0_0 v1.vDefs.length cv1_0_0]) rfl Tryd.isAgg24 (HS3.look 0 rfl) Tryd.sizeOf24 rfl rfl) ?_
 obtain ⟨v2,H2,H⟩:=of_bind H
 refine run_eq (v:=Value.tuple #[vI v2.1,vI v2.2]) rfl rfl (does_call_eq Tryd.call14 rfl rfl (ctf_Size.calls k v1 1 Av1_0_0 cv1_0_0 HS3.sees hrv1_0_0 hcv1_0_0 H2)) ?_
 intro w4 hE3
 have HS4:=HS3.step hE3
 refine rs (Value.tuple #[vI v2.1,vI v2.2]) (r_move rfl)<|rs (vI v2.1) (r_extract rfl rfl)<|run_frame (by simp only [sc0,sc1];rfl) ?_
 refine rs (vI v2.2) (r_extract rfl rfl)<|rs (vI v2.1) (r_assign rfl)<|rs (vI v2.2) (r_assign rfl) ?_
 try simp only [sc0,sc1]
 refine run_nil<|norm_then<|wp_seq<|region<|rs (Value.agg #[vL Av1_0_0 v1.vDefs.length cv1_0_0]) (r_loadBoxAgg (n:=1) (vs:=[vL Av1_0_0 v1.vDefs.length cv1_0_0]) rfl Tryd.isAgg24 (HS4.look 0 rfl) Tryd.sizeOf24 rfl rfl) ?_
 obtain ⟨v3,H3,H⟩:=of_bind H
 refine run_eq (v:=Value.tuple #[vS v3.1,vI v3.2]) rfl rfl (does_call_eq Tryd.call20 rfl rfl (ctf_Text.calls k v1 3 Av1_0_0 cv1_0_0 HS4.sees (ht.s HS4) hrv1_0_0 hcv1_0_0 H3)) ?_
 intro w5 hE4
 have HS5:=HS4.step hE4
 refine rs (Value.tuple #[vS v3.1,vI v3.2]) (r_move rfl)<|rs (vS v3.1) (r_extract rfl rfl)<|run_frame (by simp only [sc0,sc1];rfl) ?_
 refine rs (vI v3.2) (r_extract rfl rfl)<|rs (vS v3.1) (r_assign rfl)<|rs (vI v3.2) (r_assign rfl) ?_
 try simp only [sc0,sc1]
 refine run_nil<|norm_then<|wp_seq<|region<|rs (Value.agg #[vL Av1_0_0 v1.vDefs.length cv1_0_0]) (r_loadBoxAgg (n:=1) (vs:=[vL Av1_0_0 v1.vDefs.length cv1_0_0]) rfl Tryd.isAgg24 (HS5.look 0 rfl) Tryd.sizeOf24 rfl rfl) ?_
 obtain ⟨v4,H4,H⟩:=of_bind H
 refine run_eq (v:=Value.tuple #[Value.agg #[vS v4.1.vName,vI v4.1.vType,vI v4.1.vAt],vI v4.2]) rfl rfl (does_call_eq Tryd.call16 rfl rfl (ctf_Member.calls k v1 1 (⟨#[116,95,110,101,120,116]⟩:ByteArray) Av1_0_0 cv1_0_0 HS5.sees hrv1_0_0 hcv1_0_0 H4)) ?_
 intro w6 hE5
 have HS6:=HS5.step hE5
 refine rs (Value.tuple #[Value.agg #[vS v4.1.vName,vI v4.1.vType,vI v4.1.vAt],vI v4.2]) (r_move rfl)<|rs (Value.agg #[vS v4.1.vName,vI v4.1.vType,vI v4.1.vAt]) (r_extract rfl rfl)<|run_frame (by simp only [sc0,sc1];rfl) ?_
 refine rs (vI v4.2) (r_extract rfl rfl)<|run_ex rfl rfl (does_alloc (cs:=#[vS ByteArray.empty,vI 0,vI 0]) Tryd.zeroValue36 rfl) ?_
 rintro w7 _ hE6 ⟨b2,rfl,ge2,hb2⟩
 have HS7:=HS6.new hE6 ge2 hb2
 refine run_st (i:=0) (cs:=[vS ByteArray.empty,vI 0,vI 0]) (cs':=[vS v4.1.vName,vI v4.1.vType,vI v4.1.vAt]) (vs:=[vS v4.1.vName,vI v4.1.vType,vI v4.1.vAt]) (bs':=[(some b2, .cells #[vS v4.1.vName,vI v4.1.vType,vI v4.1.vAt] 36 (0,0)),(some b1, .cells #[vL Av1_0_0 v1.vDefs.length cv1_0_0] 24 (0,0))]) rfl rfl Tryd.sizeOf36 rfl rfl (by decide) rfl HS7 rfl (Nat.le_of_ble_eq_true rfl) rfl rfl ?_
 intro w8 HS8
 refine rs (vI v4.2) (r_assign rfl) ?_
 try simp only [sc0,sc1]
 refine run_nil<|norm_then<|wp_seq<|region<|rs (Value.agg #[vL Av1_0_0 v1.vDefs.length cv1_0_0]) (r_loadBoxAgg (n:=1) (vs:=[vL Av1_0_0 v1.vDefs.length cv1_0_0]) rfl Tryd.isAgg24 (HS8.look 1 rfl) Tryd.sizeOf24 rfl rfl)<|run_bs Kd.str (xs:=([(⟨#[116,95,110,97,109,101]⟩:ByteArray)]:List ByteArray)) (n:=1) (cs:=[vS (⟨#[116,95,110,97,109,101]⟩:ByteArray)]) Tryd.runUnderlying25 Tryd.typeInfo9 Tryd.zeroValue9 rfl rfl (by decide) (by decide) (by decide) [vS (⟨#[116,95,110,97,109,101]⟩:ByteArray)] (parts_any.trans rfl) rfl rfl rfl rfl (elems_cons (qs:=[vS (⟨#[116,95,110,97,109,101]⟩:ByteArray)]) rfl (elems_nil (cs:=[]))) HS8 ?_
 intro w9 b3 HS9 ho1
 obtain ⟨v5,H5,H⟩:=of_bind H
 obtain ⟨hl1,hs1,se2,rdl1⟩:=row_lend HS9 (i:=0) rfl ho1
 refine run_eq (v:=Value.tuple #[vI v5.1,vI v5.2.1,vI v5.2.2]) rfl rfl (does_call_eq Tryd.call17 rfl (map3 rfl rfl (show _=vL (rowA (some b3)) ([(⟨#[116,95,110,97,109,101]⟩:ByteArray)]:List ByteArray).length 1 from by rw [ho1.len];exact rfl)) (ctf_Path.calls k v1 1 ([(⟨#[116,95,110,97,109,101]⟩:ByteArray)]:List ByteArray) Av1_0_0 cv1_0_0 (rowA (some b3)) 1 se2 (hrv1_0_0.ext hs1) hcv1_0_0 rdl1 ho1.cap H5)) ?_
 intro w10 hE7
 have HS10:=HS9.step hE7
 refine rs (Value.tuple #[vI v5.1,vI v5.2.1,vI v5.2.2]) (r_move rfl)<|run_frame (by simp only [sc0,sc1];rfl) ?_
 refine rs (vI v5.1) (r_extract rfl rfl)<|rs (vI v5.2.1) (r_extract rfl rfl)<|rs (vI v5.2.2) (r_extract rfl rfl)<|rs (vI v5.1) (r_assign rfl)<|run_frame (by simp only [sc0,sc1];rfl) ?_
 refine rs (vI v5.2.1) (r_assign rfl)<|rs (vI v5.2.2) (r_assign rfl) ?_
 try simp only [sc0,sc1]
 refine run_nil<|norm_then<|wp_seq<|wp_seq<|region<|rs (Value.agg #[vL Av1_0_0 v1.vDefs.length cv1_0_0]) (r_loadBoxAgg (n:=1) (vs:=[vL Av1_0_0 v1.vDefs.length cv1_0_0]) rfl Tryd.isAgg24 (HS10.look 2 rfl) Tryd.sizeOf24 rfl rfl) ?_
 obtain ⟨v6,H6,H⟩:=of_bind H
 refine run_eq (v:=vI v6) rfl rfl (does_call_eq Tryd.call18 rfl rfl (ctf_Check.calls k v1 Av1_0_0 cv1_0_0 HS10.sees hrv1_0_0 hcv1_0_0 H6)) ?_
 intro w11 hE8
 have HS11:=HS10.step hE8
 refine rs (vB (v6 !=0)) (r_bin rfl rfl rfl)<|rs (vB (v6 !=0)) (r_move rfl)<|run_frame (by simp only [sc0,sc1];rfl) ?_
 refine rgs (v6 !=0) true (vI v2.2) rfl rfl rfl rfl (fun hg=>(r_move rfl))<|rgs (v6 !=0) true (vB (v2.2 !=0)) rfl rfl rfl rfl (fun hg=>(r_bin (gvt (vI v2.2) hg rfl) rfl rfl))<|rs (vB ((v6 !=0)||(v2.2 !=0))) (r_pick_or rfl rfl (fun hp=>(gvt (vB (v2.2 !=0)) (and_i rfl hp) rfl)))<|rs (vB ((v6 !=0)||(v2.2 !=0))) (r_move rfl)<|run_frame (by simp only [sc0,sc1];rfl) ?_
 refine rgs ((v6 !=0)||(v2.2 !=0)) true (vI v2.1) rfl rfl rfl rfl (fun hg=>(r_move rfl))<|rgs ((v6 !=0)||(v2.2 !=0)) true (vB (v2.1 !=24)) rfl rfl rfl rfl (fun hg=>(r_bin (gvt (vI v2.1) hg rfl) rfl rfl))<|rs (vB (((v6 !=0)||(v2.2 !=0))||(v2.1 !=24))) (r_pick_or rfl rfl (fun hp=>(gvt (vB (v2.1 !=24)) (and_i rfl hp) rfl)))<|rs (vB (((v6 !=0)||(v2.2 !=0))||(v2.1 !=24))) (r_move rfl)<|run_frame (by simp only [sc0,sc1];rfl) ?_
 refine rgs (((v6 !=0)||(v2.2 !=0))||(v2.1 !=24)) true (vI v3.2) rfl rfl rfl rfl (fun hg=>(r_move rfl))<|rgs (((v6 !=0)||(v2.2 !=0))||(v2.1 !=24)) true (vB (v3.2 !=0)) rfl rfl rfl rfl (fun hg=>(r_bin (gvt (vI v3.2) hg rfl) rfl rfl))<|rs (vB ((((v6 !=0)||(v2.2 !=0))||(v2.1 !=24))||(v3.2 !=0))) (r_pick_or rfl rfl (fun hp=>(gvt (vB (v3.2 !=0)) (and_i rfl hp) rfl)))<|rs (vB ((((v6 !=0)||(v2.2 !=0))||(v2.1 !=24))||(v3.2 !=0))) (r_move rfl)<|run_frame (by simp only [sc0,sc1];rfl) ?_
 refine rgs ((((v6 !=0)||(v2.2 !=0))||(v2.1 !=24))||(v3.2 !=0)) true (vS v3.1) rfl rfl rfl rfl (fun hg=>(r_move rfl))<|rgs ((((v6 !=0)||(v2.2 !=0))||(v2.1 !=24))||(v3.2 !=0)) true (vB (!(strEq v3.1 (⟨#[99,104,97,114,32,91,56,93]⟩:ByteArray)))) rfl rfl rfl rfl (fun hg=>(r_strneq (gvt (vS v3.1) hg rfl) rfl))<|rs (vB (((((v6 !=0)||(v2.2 !=0))||(v2.1 !=24))||(v3.2 !=0))||(!(strEq v3.1 (⟨#[99,104,97,114,32,91,56,93]⟩:ByteArray))))) (r_pick_or rfl rfl (fun hp=>(gvt (vB (!(strEq v3.1 (⟨#[99,104,97,114,32,91,56,93]⟩:ByteArray)))) (and_i rfl hp) rfl)))<|rs (vB (((((v6 !=0)||(v2.2 !=0))||(v2.1 !=24))||(v3.2 !=0))||(!(strEq v3.1 (⟨#[99,104,97,114,32,91,56,93]⟩:ByteArray))))) (r_move rfl)<|run_frame (by simp only [sc0,sc1];rfl) ?_
 refine rgs (((((v6 !=0)||(v2.2 !=0))||(v2.1 !=24))||(v3.2 !=0))||(!(strEq v3.1 (⟨#[99,104,97,114,32,91,56,93]⟩:ByteArray)))) true (vI v4.2) rfl rfl rfl rfl (fun hg=>(r_move rfl))<|rgs (((((v6 !=0)||(v2.2 !=0))||(v2.1 !=24))||(v3.2 !=0))||(!(strEq v3.1 (⟨#[99,104,97,114,32,91,56,93]⟩:ByteArray)))) true (vB (v4.2 !=0)) rfl rfl rfl rfl (fun hg=>(r_bin (gvt (vI v4.2) hg rfl) rfl rfl))<|rs (vB ((((((v6 !=0)||(v2.2 !=0))||(v2.1 !=24))||(v3.2 !=0))||(!(strEq v3.1 (⟨#[99,104,97,114,32,91,56,93]⟩:ByteArray))))||(v4.2 !=0))) (r_pick_or rfl rfl (fun hp=>(gvt (vB (v4.2 !=0)) (and_i rfl hp) rfl)))<|rs (vB ((((((v6 !=0)||(v2.2 !=0))||(v2.1 !=24))||(v3.2 !=0))||(!(strEq v3.1 (⟨#[99,104,97,114,32,91,56,93]⟩:ByteArray))))||(v4.2 !=0))) (r_move rfl)<|run_frame (by simp only [sc0,sc1];rfl) ?_
 refine rgs ((((((v6 !=0)||(v2.2 !=0))||(v2.1 !=24))||(v3.2 !=0))||(!(strEq v3.1 (⟨#[99,104,97,114,32,91,56,93]⟩:ByteArray))))||(v4.2 !=0)) true (vP b2 1) rfl rfl rfl rfl (fun hg=>(r_fieldBox (n:=1) (o':=1) rfl Tryd.runUnderlying36 rfl Tryd.sizeOf3 (by decide) rfl))<|rgs ((((((v6 !=0)||(v2.2 !=0))||(v2.1 !=24))||(v3.2 !=0))||(!(strEq v3.1 (⟨#[99,104,97,114,32,91,56,93]⟩:ByteArray))))||(v4.2 !=0)) true (vI v4.1.vType) rfl rfl rfl rfl (fun hg=>(r_loadBox (gvt (vP b2 1) hg rfl) Tryd.isAgg3 (HS11.look 1 rfl) rfl))<|rgs ((((((v6 !=0)||(v2.2 !=0))||(v2.1 !=24))||(v3.2 !=0))||(!(strEq v3.1 (⟨#[99,104,97,114,32,91,56,93]⟩:ByteArray))))||(v4.2 !=0)) true (vB (v4.1.vType !=2)) rfl rfl rfl rfl (fun hg=>(r_bin (gvt (vI v4.1.vType) hg rfl) rfl rfl))<|rs (vB (((((((v6 !=0)||(v2.2 !=0))||(v2.1 !=24))||(v3.2 !=0))||(!(strEq v3.1 (⟨#[99,104,97,114,32,91,56,93]⟩:ByteArray))))||(v4.2 !=0))||(v4.1.vType !=2))) (r_pick_or rfl rfl (fun hp=>(gvt (vB (v4.1.vType !=2)) (and_i rfl hp) rfl)))<|run_frame (by simp only [sc0,sc1];rfl) ?_
 refine rs (vB (((((((v6 !=0)||(v2.2 !=0))||(v2.1 !=24))||(v3.2 !=0))||(!(strEq v3.1 (⟨#[99,104,97,114,32,91,56,93]⟩:ByteArray))))||(v4.2 !=0))||(v4.1.vType !=2))) (r_move rfl)<|rgs (((((((v6 !=0)||(v2.2 !=0))||(v2.1 !=24))||(v3.2 !=0))||(!(strEq v3.1 (⟨#[99,104,97,114,32,91,56,93]⟩:ByteArray))))||(v4.2 !=0))||(v4.1.vType !=2)) true (vP b2 2) rfl rfl rfl rfl (fun hg=>(r_fieldBox (n:=1) (o':=2) rfl Tryd.runUnderlying36 rfl Tryd.sizeOf3 (by decide) rfl))<|rgs (((((((v6 !=0)||(v2.2 !=0))||(v2.1 !=24))||(v3.2 !=0))||(!(strEq v3.1 (⟨#[99,104,97,114,32,91,56,93]⟩:ByteArray))))||(v4.2 !=0))||(v4.1.vType !=2)) true (vI v4.1.vAt) rfl rfl rfl rfl (fun hg=>(r_loadBox (gvt (vP b2 2) hg rfl) Tryd.isAgg3 (HS11.look 1 rfl) rfl))<|rgs (((((((v6 !=0)||(v2.2 !=0))||(v2.1 !=24))||(v3.2 !=0))||(!(strEq v3.1 (⟨#[99,104,97,114,32,91,56,93]⟩:ByteArray))))||(v4.2 !=0))||(v4.1.vType !=2)) true (vB (v4.1.vAt !=8)) rfl rfl rfl rfl (fun hg=>(r_bin (gvt (vI v4.1.vAt) hg rfl) rfl rfl))<|run_frame (by simp only [sc0,sc1];rfl) ?_
 refine rs (vB ((((((((v6 !=0)||(v2.2 !=0))||(v2.1 !=24))||(v3.2 !=0))||(!(strEq v3.1 (⟨#[99,104,97,114,32,91,56,93]⟩:ByteArray))))||(v4.2 !=0))||(v4.1.vType !=2))||(v4.1.vAt !=8))) (r_pick_or rfl rfl (fun hp=>(gvt (vB (v4.1.vAt !=8)) (and_i rfl hp) rfl)))<|rs (vB ((((((((v6 !=0)||(v2.2 !=0))||(v2.1 !=24))||(v3.2 !=0))||(!(strEq v3.1 (⟨#[99,104,97,114,32,91,56,93]⟩:ByteArray))))||(v4.2 !=0))||(v4.1.vType !=2))||(v4.1.vAt !=8))) (r_move rfl)<|rgs ((((((((v6 !=0)||(v2.2 !=0))||(v2.1 !=24))||(v3.2 !=0))||(!(strEq v3.1 (⟨#[99,104,97,114,32,91,56,93]⟩:ByteArray))))||(v4.2 !=0))||(v4.1.vType !=2))||(v4.1.vAt !=8)) true (vI v5.2.2) rfl rfl rfl rfl (fun hg=>(r_move rfl))<|rgs ((((((((v6 !=0)||(v2.2 !=0))||(v2.1 !=24))||(v3.2 !=0))||(!(strEq v3.1 (⟨#[99,104,97,114,32,91,56,93]⟩:ByteArray))))||(v4.2 !=0))||(v4.1.vType !=2))||(v4.1.vAt !=8)) true (vB (v5.2.2 !=0)) rfl rfl rfl rfl (fun hg=>(r_bin (gvt (vI v5.2.2) hg rfl) rfl rfl))<|run_frame (by simp only [sc0,sc1];rfl) ?_
 refine rs (vB (((((((((v6 !=0)||(v2.2 !=0))||(v2.1 !=24))||(v3.2 !=0))||(!(strEq v3.1 (⟨#[99,104,97,114,32,91,56,93]⟩:ByteArray))))||(v4.2 !=0))||(v4.1.vType !=2))||(v4.1.vAt !=8))||(v5.2.2 !=0))) (r_pick_or rfl rfl (fun hp=>(gvt (vB (v5.2.2 !=0)) (and_i rfl hp) rfl)))<|rs (vB (((((((((v6 !=0)||(v2.2 !=0))||(v2.1 !=24))||(v3.2 !=0))||(!(strEq v3.1 (⟨#[99,104,97,114,32,91,56,93]⟩:ByteArray))))||(v4.2 !=0))||(v4.1.vType !=2))||(v4.1.vAt !=8))||(v5.2.2 !=0))) (r_move rfl)<|rgs (((((((((v6 !=0)||(v2.2 !=0))||(v2.1 !=24))||(v3.2 !=0))||(!(strEq v3.1 (⟨#[99,104,97,114,32,91,56,93]⟩:ByteArray))))||(v4.2 !=0))||(v4.1.vType !=2))||(v4.1.vAt !=8))||(v5.2.2 !=0)) true (vI v5.1) rfl rfl rfl rfl (fun hg=>(r_move rfl))<|rgs (((((((((v6 !=0)||(v2.2 !=0))||(v2.1 !=24))||(v3.2 !=0))||(!(strEq v3.1 (⟨#[99,104,97,114,32,91,56,93]⟩:ByteArray))))||(v4.2 !=0))||(v4.1.vType !=2))||(v4.1.vAt !=8))||(v5.2.2 !=0)) true (vB (v5.1 !=3)) rfl rfl rfl rfl (fun hg=>(r_bin (gvt (vI v5.1) hg rfl) rfl rfl))<|run_frame (by simp only [sc0,sc1];rfl) ?_
 refine rs (vB ((((((((((v6 !=0)||(v2.2 !=0))||(v2.1 !=24))||(v3.2 !=0))||(!(strEq v3.1 (⟨#[99,104,97,114,32,91,56,93]⟩:ByteArray))))||(v4.2 !=0))||(v4.1.vType !=2))||(v4.1.vAt !=8))||(v5.2.2 !=0))||(v5.1 !=3))) (r_pick_or rfl rfl (fun hp=>(gvt (vB (v5.1 !=3)) (and_i rfl hp) rfl)))<|rs (vB ((((((((((v6 !=0)||(v2.2 !=0))||(v2.1 !=24))||(v3.2 !=0))||(!(strEq v3.1 (⟨#[99,104,97,114,32,91,56,93]⟩:ByteArray))))||(v4.2 !=0))||(v4.1.vType !=2))||(v4.1.vAt !=8))||(v5.2.2 !=0))||(v5.1 !=3))) (r_move rfl)<|rgs ((((((((((v6 !=0)||(v2.2 !=0))||(v2.1 !=24))||(v3.2 !=0))||(!(strEq v3.1 (⟨#[99,104,97,114,32,91,56,93]⟩:ByteArray))))||(v4.2 !=0))||(v4.1.vType !=2))||(v4.1.vAt !=8))||(v5.2.2 !=0))||(v5.1 !=3)) true (vI v5.2.1) rfl rfl rfl rfl (fun hg=>(r_move rfl))<|rgs ((((((((((v6 !=0)||(v2.2 !=0))||(v2.1 !=24))||(v3.2 !=0))||(!(strEq v3.1 (⟨#[99,104,97,114,32,91,56,93]⟩:ByteArray))))||(v4.2 !=0))||(v4.1.vType !=2))||(v4.1.vAt !=8))||(v5.2.2 !=0))||(v5.1 !=3)) true (vB (v5.2.1 !=16)) rfl rfl rfl rfl (fun hg=>(r_bin (gvt (vI v5.2.1) hg rfl) rfl rfl))<|run_frame (by simp only [sc0,sc1];rfl) ?_
 refine rs (vB (((((((((((v6 !=0)||(v2.2 !=0))||(v2.1 !=24))||(v3.2 !=0))||(!(strEq v3.1 (⟨#[99,104,97,114,32,91,56,93]⟩:ByteArray))))||(v4.2 !=0))||(v4.1.vType !=2))||(v4.1.vAt !=8))||(v5.2.2 !=0))||(v5.1 !=3))||(v5.2.1 !=16))) (r_pick_or rfl rfl (fun hp=>(gvt (vB (v5.2.1 !=16)) (and_i rfl hp) rfl))) ?_
 try simp only [sc0,sc1]
 refine run_nil<|norm_then<|wp_cond_split (t:=(((((((((((v6 !=0)||(v2.2 !=0))||(v2.1 !=24))||(v3.2 !=0))||(!(strEq v3.1 (⟨#[99,104,97,114,32,91,56,93]⟩:ByteArray))))||(v4.2 !=0))||(v4.1.vType !=2))||(v4.1.vAt !=8))||(v5.2.2 !=0))||(v5.1 !=3))||(v5.2.1 !=16))) rfl (fun c1=>?_) (fun c1=>?_)
 ·replace H:=of_pos H c1
  refine wp_seq<|region<|rs (vB false) (r_assign rfl) ?_
  try simp only [sc0,sc1]
  refine run_nil<|norm_then<|wp_ret<|ret_then ?_
  obtain rfl:=Option.some.inj H
  exact bodyPost_ret (results_1 rfl (one_tmp rfl)) rfl<|⟨rfl,HS11.toE⟩
 ·replace H:=of_neg H (nt c1)
  refine wp_skip<|norm_then<|wp_seq<|region<|rs (Value.agg #[vL Av1_0_0 v1.vDefs.length cv1_0_0]) (r_loadBoxAgg (n:=1) (vs:=[vL Av1_0_0 v1.vDefs.length cv1_0_0]) rfl Tryd.isAgg24 (HS11.look 2 rfl) Tryd.sizeOf24 rfl rfl) ?_
  obtain ⟨v7,H7,H⟩:=of_bind H
  refine run_eq (v:=Value.tuple #[Value.agg #[vS v7.1.vName,vI v7.1.vType,vI v7.1.vAt],vI v7.2]) rfl rfl (does_call_eq Tryd.call16 rfl rfl (ctf_Member.calls k v1 2 (⟨#[116,95,116,105,100]⟩:ByteArray) Av1_0_0 cv1_0_0 HS11.sees hrv1_0_0 hcv1_0_0 H7)) ?_
  intro w12 hE9
  have HS12:=HS11.step hE9
  refine rs (Value.tuple #[Value.agg #[vS v7.1.vName,vI v7.1.vType,vI v7.1.vAt],vI v7.2]) (r_move rfl)<|rs (Value.agg #[vS v7.1.vName,vI v7.1.vType,vI v7.1.vAt]) (r_extract rfl rfl)<|run_frame (by simp only [sc0,sc1];rfl) ?_
  refine rs (vI v7.2) (r_extract rfl rfl)<|run_ex rfl rfl (does_alloc (cs:=#[vS ByteArray.empty,vI 0,vI 0]) Tryd.zeroValue36 rfl) ?_
  rintro w13 _ hE10 ⟨b4,rfl,ge3,hb3⟩
  have HS13:=HS12.new hE10 ge3 hb3
  refine run_st (i:=0) (cs:=[vS ByteArray.empty,vI 0,vI 0]) (cs':=[vS v7.1.vName,vI v7.1.vType,vI v7.1.vAt]) (vs:=[vS v7.1.vName,vI v7.1.vType,vI v7.1.vAt]) (bs':=[(some b4, .cells #[vS v7.1.vName,vI v7.1.vType,vI v7.1.vAt] 36 (0,0)),((some b3), .cells ([vS (⟨#[116,95,110,97,109,101]⟩:ByteArray)]).toArray 9 (0,0)),(some b2, .cells #[vS v4.1.vName,vI v4.1.vType,vI v4.1.vAt] 36 (0,0)),(some b1, .cells #[vL Av1_0_0 v1.vDefs.length cv1_0_0] 24 (0,0))]) rfl rfl Tryd.sizeOf36 rfl rfl (by decide) rfl HS13 rfl (Nat.le_of_ble_eq_true rfl) rfl rfl ?_
  intro w14 HS14
  refine rs (vI v7.2) (r_assign rfl) ?_
  try simp only [sc0,sc1]
  refine run_nil<|norm_then<|wp_seq<|region<|run_bs0 k_api_Def Tryd.runUnderlying22 Tryd.typeInfo34 HS14 ?_
  intro w15 b5 HS15 ho2
  refine rs (vP b1 0) (r_fieldBox (n:=1) (o':=0) rfl Tryd.runUnderlying24 rfl Tryd.sizeOf22 (by decide) rfl)<|rs (vL Av1_0_0 v1.vDefs.length cv1_0_0) (r_loadBox rfl Tryd.isAgg22 (HS15.look 4 rfl) rfl) ?_
  obtain ⟨nw1,sr1,hn1⟩:=src_rd (c:=cv1_0_0) one_api_Def Tryd.runUnderlying22 HS15.sees hrv1_0_0
  obtain ⟨hl2,H⟩:=of_ite H
  refine run_app k_api_Def (q:=0) (cs:=([]:List Value)) rfl rfl Tryd.runUnderlying22 Tryd.typeInfo34 Tryd.zeroValue34 rfl (by decide) rfl sr1 rfl hn1 hl2 HS15 rfl ho2 ?_
  intro w16 ob1 c2 cs1 HS16 ho3
  refine run_frame (by simp only [sc0,sc1];rfl) ?_
  refine rs (Value.agg #[vI 2,vS ByteArray.empty,vI 0,vB false,vI 1,vI 0,vL none 0 0]) (r_build (cs:=[vI 2,vS ByteArray.empty,vI 0,vB false,vI 1,vI 0,vL none 0 0]) (ps:=[(0,vI 2),(3,vI 1)]) Tryd.zeroValue34 Tryd.runUnderlying34 (pl:=#[(0,1),(1,1),(2,2),(4,1),(5,1),(6,1)]) (fun w=>by simp [Tryd.sizeOf3,Tryd.sizeOf31,Tryd.sizeOf32,Tryd.sizeOf9]) (parts_2 (show _=vI 2 from rfl) (show _=vI 1 from rfl)) rfl) ?_
  refine run_bs k_api_Def (xs:=([(⟨2,ByteArray.empty,(⟨0,false⟩:api_Int),1,0,[]⟩:api_Def)]:List api_Def)) (n:=1) (cs:=[vI 2,vS ByteArray.empty,vI 0,vB false,vI 1,vI 0,vL none 0 0]) Tryd.runUnderlying22 Tryd.typeInfo34 Tryd.zeroValue34 rfl rfl (by decide) (by decide) (by decide) [Value.agg #[vI 2,vS ByteArray.empty,vI 0,vB false,vI 1,vI 0,vL none 0 0]] (parts_any.trans rfl) rfl rfl rfl rfl (elems_cons (qs:=[vI 2,vS ByteArray.empty,vI 0,vB false,vI 1,vI 0,vL none 0 0]) ⟨[vI 2],[vS ByteArray.empty,vI 0,vB false,vI 1,vI 0,vL none 0 0],rfl,rfl,⟨[vS ByteArray.empty],[vI 0,vB false,vI 1,vI 0,vL none 0 0],rfl,rfl,⟨[vI 0,vB false],[vI 1,vI 0,vL none 0 0],rfl,⟨[vI 0],[vB false],rfl,rfl,rfl⟩,⟨[vI 1],[vI 0,vL none 0 0],rfl,rfl,⟨[vI 0],[vL none 0 0],rfl,rfl,⟨none,0,rfl,(Nat.le_refl 0),(Rd.nil _ _ _)⟩⟩⟩⟩⟩⟩ (elems_nil (cs:=[]))) HS16 ?_
  intro w17 b6 HS17 ho4
  obtain ⟨hl3,H⟩:=of_ite H
  refine run_app k_api_Def (q:=1) (cs:=cs1) rfl rfl Tryd.runUnderlying22 Tryd.typeInfo34 Tryd.zeroValue34 rfl (by decide) rfl (src_row Tryd.runUnderlying22 HS17 (i:=0) rfl ho4 rfl) ho4.len (src_row_elems ho4) hl3 HS17 rfl ho3 ?_
  intro w18 ob2 c3 cs2 HS18 ho5
  refine rs (Value.agg #[vL (rowA ob2) ((0+v1.vDefs.length)+1) c3]) (r_build (cs:=[vL (rowA ob2) ((0+v1.vDefs.length)+1) c3]) (ps:=[(0,vL (rowA ob2) ((0+v1.vDefs.length)+1) c3)]) Tryd.zeroValue24 Tryd.runUnderlying24 (pl:=#[(0,1)]) (fun w=>by simp [Tryd.sizeOf22]) (parts_1 (show _=vL (rowA ob2) ((0+v1.vDefs.length)+1) c3 from rfl)) rfl) ?_
  refine run_frame (by simp only [sc0,sc1];rfl) ?_
  refine run_ex rfl rfl (does_alloc (cs:=#[vL none 0 0]) Tryd.zeroValue24 rfl) ?_
  rintro w19 _ hE11 ⟨b7,rfl,ge4,hb4⟩
  have HS19:=HS18.new hE11 ge4 hb4
  refine run_st (i:=0) (cs:=[vL none 0 0]) (cs':=[vL (rowA ob2) ((0+v1.vDefs.length)+1) c3]) (vs:=[vL (rowA ob2) ((0+v1.vDefs.length)+1) c3]) (bs':=[(some b7, .cells #[vL (rowA ob2) ((0+v1.vDefs.length)+1) c3] 24 (0,0)),((some b6), .cells ([vI 2,vS ByteArray.empty,vI 0,vB false,vI 1,vI 0,vL none 0 0]).toArray 34 (0,0)),(ob2, .cells (cs2).toArray 34 (0,0)),(some b4, .cells #[vS v7.1.vName,vI v7.1.vType,vI v7.1.vAt] 36 (0,0)),((some b3), .cells ([vS (⟨#[116,95,110,97,109,101]⟩:ByteArray)]).toArray 9 (0,0)),(some b2, .cells #[vS v4.1.vName,vI v4.1.vType,vI v4.1.vAt] 36 (0,0)),(some b1, .cells #[vL Av1_0_0 v1.vDefs.length cv1_0_0] 24 (0,0))]) rfl rfl Tryd.sizeOf24 rfl rfl (by decide) rfl HS19 rfl (Nat.le_of_ble_eq_true rfl) rfl rfl ?_
  intro w20 HS20
  try simp only [sc0,sc1]
  refine run_nil<|norm_then<|wp_seq<|region<|rs (Value.agg #[vL (rowA ob2) ((0+v1.vDefs.length)+1) c3]) (r_loadBoxAgg (n:=1) (vs:=[vL (rowA ob2) ((0+v1.vDefs.length)+1) c3]) rfl Tryd.isAgg24 (HS20.look 0 rfl) Tryd.sizeOf24 rfl rfl) ?_
  have HS21:St [] h0 w0 h1 [(some b7, .cells #[vL (rowA ob2) (((([]:List api_Def)++v1.vDefs)++([(⟨2,ByteArray.empty,(⟨0,false⟩:api_Int),1,0,[]⟩:api_Def)]:List api_Def)).length) c3] 24 (0,0)),((some b6), .cells ([vI 2,vS ByteArray.empty,vI 0,vB false,vI 1,vI 0,vL none 0 0]).toArray 34 (0,0)),(ob2, .cells (cs2).toArray 34 (0,0)),(some b4, .cells #[vS v7.1.vName,vI v7.1.vType,vI v7.1.vAt] 36 (0,0)),((some b3), .cells ([vS (⟨#[116,95,110,97,109,101]⟩:ByteArray)]).toArray 9 (0,0)),(some b2, .cells #[vS v4.1.vName,vI v4.1.vType,vI v4.1.vAt] 36 (0,0)),(some b1, .cells #[vL Av1_0_0 v1.vDefs.length cv1_0_0] 24 (0,0))] w20:=HS20.cast (by first|rfl|(rw [ho5.len];done)|(rw [ho5.len];rfl))
  have ho6:=ho5.norm
  try rw [←ho5.len]
  obtain ⟨h2,HS22,hs2,rdp1⟩:=row_pub HS21 (i:=2) rfl ho6
  have HS23:St [] h0 w0 h2 [(some b7, .cells #[vL (rowA ob2) ((([]:List api_Def)++v1.vDefs)++([(⟨2,ByteArray.empty,(⟨0,false⟩:api_Int),1,0,[]⟩:api_Def)]:List api_Def)).length c3] 24 (0,0)),((some b6), .cells ([vI 2,vS ByteArray.empty,vI 0,vB false,vI 1,vI 0,vL none 0 0]).toArray 34 (0,0)),(some b4, .cells #[vS v7.1.vName,vI v7.1.vType,vI v7.1.vAt] 36 (0,0)),((some b3), .cells ([vS (⟨#[116,95,110,97,109,101]⟩:ByteArray)]).toArray 9 (0,0)),(some b2, .cells #[vS v4.1.vName,vI v4.1.vType,vI v4.1.vAt] 36 (0,0)),(some b1, .cells #[vL Av1_0_0 v1.vDefs.length cv1_0_0] 24 (0,0))] w20:=HS22
  replace hrv1_0_0:Rd k_api_Def h2 Av1_0_0 v1.vDefs:=hrv1_0_0.ext hs2
  replace ho4:=ho4.view hs2
  replace ho1:=ho1.view hs2
  obtain ⟨v8,H8,H⟩:=of_bind H
  refine run_ex rfl rfl (does_call Tryd.call28 rfl (gives_in (h:=h2) (R:=(fun hx u=>∃(Av8_0_0:Option Addr) (cv8_0_0:Nat),∃(Av8_1_0:Option Addr) (cv8_1_0:Nat),u=Value.tuple #[Value.agg #[vL Av8_0_0 v8.1.vDefs.length cv8_0_0],vL Av8_1_0 v8.2.1.length cv8_1_0,vI v8.2.2]∧v8.1.vDefs.length≤cv8_0_0∧Rd k_api_Def hx Av8_0_0 v8.1.vDefs∧v8.2.1.length≤cv8_1_0∧Rd (Kd.int .i64) hx Av8_1_0 v8.2.1)) (Ext.rfl' w20) ((ctf_Unique.calls k (⟨((([]:List api_Def)++v1.vDefs)++([(⟨2,ByteArray.empty,(⟨0,false⟩:api_Int),1,0,[]⟩:api_Def)]:List api_Def))⟩:api_Types) (rowA ob2) c3 HS23.sees (ht.s HS23) rdp1 ho6.cap H8).mono ?_)) rfl) ?_
  ·rintro _ _ ⟨h1,Av8_0_0,cv8_0_0,Av8_1_0,cv8_1_0,rfl,hcv8_0_0,hrv8_0_0,hcv8_1_0,hrv8_1_0,g,ss,x⟩
   exact ⟨h1,_,rfl,⟨Av8_0_0,cv8_0_0,Av8_1_0,cv8_1_0,rfl,hcv8_0_0,hrv8_0_0,hcv8_1_0,hrv8_1_0⟩,g,ss,x⟩
  rintro w21 _ hE12 ⟨h3,⟨Av8_0_0,cv8_0_0,Av8_1_0,cv8_1_0,rfl,hcv8_0_0,hrv8_0_0,hcv8_1_0,hrv8_1_0⟩,gr2,se3⟩
  have HS24:=HS23.view hE12 gr2 se3
  replace hrv1_0_0:Rd k_api_Def h3 Av1_0_0 v1.vDefs:=hrv1_0_0.ext gr2.1
  replace rdp1:Rd k_api_Def h3 (rowA ob2) ((([]:List api_Def)++v1.vDefs)++([(⟨2,ByteArray.empty,(⟨0,false⟩:api_Int),1,0,[]⟩:api_Def)]:List api_Def)):=rdp1.ext gr2.1
  replace ho4:=ho4.view gr2.1
  replace ho1:=ho1.view gr2.1
  refine rs (Value.tuple #[Value.agg #[vL Av8_0_0 v8.1.vDefs.length cv8_0_0],vL Av8_1_0 v8.2.1.length cv8_1_0,vI v8.2.2]) (r_move rfl)<|rs (Value.agg #[vL Av8_0_0 v8.1.vDefs.length cv8_0_0]) (r_extract rfl rfl)<|run_frame (by simp only [sc0,sc1];rfl) ?_
  refine rs (vL Av8_1_0 v8.2.1.length cv8_1_0) (r_extract rfl rfl)<|rs (vI v8.2.2) (r_extract rfl rfl)<|run_ex rfl rfl (does_alloc (cs:=#[vL none 0 0]) Tryd.zeroValue24 rfl) ?_
  rintro w22 _ hE13 ⟨b8,rfl,ge5,hb5⟩
  have HS25:=HS24.new hE13 ge5 hb5
  refine run_st (i:=0) (cs:=[vL none 0 0]) (cs':=[vL Av8_0_0 v8.1.vDefs.length cv8_0_0]) (vs:=[vL Av8_0_0 v8.1.vDefs.length cv8_0_0]) (bs':=[(some b8, .cells #[vL Av8_0_0 v8.1.vDefs.length cv8_0_0] 24 (0,0)),(some b7, .cells #[vL (rowA ob2) ((([]:List api_Def)++v1.vDefs)++([(⟨2,ByteArray.empty,(⟨0,false⟩:api_Int),1,0,[]⟩:api_Def)]:List api_Def)).length c3] 24 (0,0)),((some b6), .cells ([vI 2,vS ByteArray.empty,vI 0,vB false,vI 1,vI 0,vL none 0 0]).toArray 34 (0,0)),(some b4, .cells #[vS v7.1.vName,vI v7.1.vType,vI v7.1.vAt] 36 (0,0)),((some b3), .cells ([vS (⟨#[116,95,110,97,109,101]⟩:ByteArray)]).toArray 9 (0,0)),(some b2, .cells #[vS v4.1.vName,vI v4.1.vType,vI v4.1.vAt] 36 (0,0)),(some b1, .cells #[vL Av1_0_0 v1.vDefs.length cv1_0_0] 24 (0,0))]) rfl rfl Tryd.sizeOf24 rfl rfl (by decide) rfl HS25 rfl (Nat.le_of_ble_eq_true rfl) rfl rfl ?_
  intro w23 HS26
  refine run_frame (by simp only [sc0,sc1];rfl) ?_
  refine rs (vL Av8_1_0 v8.2.1.length cv8_1_0) (r_assign rfl)<|rs (vI v8.2.2) (r_assign rfl) ?_
  try simp only [sc0,sc1]
  refine run_nil<|norm_then<|wp_seq<|region<|rs (Value.agg #[vL none 0 0]) (r_build0 (cs:=[vL none 0 0]) Tryd.zeroValue24 Tryd.runUnderlying24 (pl:=#[(0,1)]) (fun w=>by simp [Tryd.sizeOf22]) rfl) ?_
  obtain ⟨v9,H9,H⟩:=of_bind H
  refine run_ex rfl rfl (does_call Tryd.call37 rfl (gives_in (h:=h3) (R:=(fun hx u=>∃(Av9_0_0:Option Addr) (cv9_0_0:Nat),u=Value.tuple #[vL Av9_0_0 v9.1.length cv9_0_0,vI v9.2]∧v9.1.length≤cv9_0_0∧Rd (Kd.int .u8) hx Av9_0_0 v9.1)) (Ext.rfl' w23) ((ctf_Encode.calls k (⟨[]⟩:api_Types) none 0 HS26.sees (Rd.nil _ _ _) (Nat.le_refl 0) H9).mono ?_)) rfl) ?_
  ·rintro _ _ ⟨h1,Av9_0_0,cv9_0_0,rfl,hcv9_0_0,hrv9_0_0,g,ss,x⟩
   exact ⟨h1,_,rfl,⟨Av9_0_0,cv9_0_0,rfl,hcv9_0_0,hrv9_0_0⟩,g,ss,x⟩
  rintro w24 _ hE14 ⟨h4,⟨Av9_0_0,cv9_0_0,rfl,hcv9_0_0,hrv9_0_0⟩,gr3,se4⟩
  have HS27:=HS26.view hE14 gr3 se4
  replace hrv1_0_0:Rd k_api_Def h4 Av1_0_0 v1.vDefs:=hrv1_0_0.ext gr3.1
  replace rdp1:Rd k_api_Def h4 (rowA ob2) ((([]:List api_Def)++v1.vDefs)++([(⟨2,ByteArray.empty,(⟨0,false⟩:api_Int),1,0,[]⟩:api_Def)]:List api_Def)):=rdp1.ext gr3.1
  replace hrv8_0_0:Rd k_api_Def h4 Av8_0_0 v8.1.vDefs:=hrv8_0_0.ext gr3.1
  replace hrv8_1_0:Rd (Kd.int .i64) h4 Av8_1_0 v8.2.1:=hrv8_1_0.ext gr3.1
  replace ho4:=ho4.view gr3.1
  replace ho1:=ho1.view gr3.1
  refine rs (Value.tuple #[vL Av9_0_0 v9.1.length cv9_0_0,vI v9.2]) (r_move rfl)<|rs (vL Av9_0_0 v9.1.length cv9_0_0) (r_extract rfl rfl)<|run_frame (by simp only [sc0,sc1];rfl) ?_
  refine rs (vI v9.2) (r_extract rfl rfl)<|rs (vL Av9_0_0 v9.1.length cv9_0_0) (r_assign rfl)<|rs (vI v9.2) (r_assign rfl) ?_
  try simp only [sc0,sc1]
  refine run_nil<|norm_then<|wp_seq<|region<|rs (vI v7.2) (r_move rfl)<|rs (vB (v7.2==5)) (r_bin rfl rfl rfl)<|rs (vB (v7.2==5)) (r_move rfl)<|rgs (v7.2==5) true (vI v8.2.2) rfl rfl rfl rfl (fun hg=>(r_move rfl))<|run_frame (by simp only [sc0,sc1];rfl) ?_
  refine rgs (v7.2==5) true (vB (v8.2.2==0)) rfl rfl rfl rfl (fun hg=>(r_bin (gvt (vI v8.2.2) hg rfl) rfl rfl))<|rs (vB ((v7.2==5)&&(v8.2.2==0))) (r_pick_and rfl (fun hp=>(gvt (vB (v8.2.2==0)) (and_i rfl hp) rfl)) rfl)<|rs (vB ((v7.2==5)&&(v8.2.2==0))) (r_move rfl)<|rgs ((v7.2==5)&&(v8.2.2==0)) true (Value.agg #[vL Av8_0_0 v8.1.vDefs.length cv8_0_0]) rfl rfl rfl rfl (fun hg=>(r_loadBoxAgg (n:=1) (vs:=[vL Av8_0_0 v8.1.vDefs.length cv8_0_0]) rfl Tryd.isAgg24 (HS27.look 0 rfl) Tryd.sizeOf24 rfl rfl))<|run_frame (by simp only [sc0,sc1];rfl) ?_
  refine rgs ((v7.2==5)&&(v8.2.2==0)) true (Value.agg #[vL Av1_0_0 v1.vDefs.length cv1_0_0]) rfl rfl rfl rfl (fun hg=>(r_loadBoxAgg (n:=1) (vs:=[vL Av1_0_0 v1.vDefs.length cv1_0_0]) rfl Tryd.isAgg24 (HS27.look 6 rfl) Tryd.sizeOf24 rfl rfl)) ?_
  obtain ⟨v10,H10,H⟩:=of_bind H
  refine run_g (b:=((v7.2==5)&&(v8.2.2==0))) (c:=true) (v:=vB v10) rfl rfl rfl rfl (fun hg=>(does_call_eq Tryd.call30 rfl (map2 (gvt (Value.agg #[vL Av8_0_0 v8.1.vDefs.length cv8_0_0]) hg rfl) (gvt (Value.agg #[vL Av1_0_0 v1.vDefs.length cv1_0_0]) hg rfl)) (taplineref08_Same.calls k v8.1 v1 Av8_0_0 cv8_0_0 Av1_0_0 cv1_0_0 HS27.sees hrv8_0_0 hcv8_0_0 hrv1_0_0 hcv1_0_0 (of_pos H10 hg)))) ?_
  intro w25 hE15
  have HS28:=HS27.step hE15
  refine rs (vB (((v7.2==5)&&(v8.2.2==0))&&v10)) (r_pick_and rfl (fun hp=>(gvt (vB v10) (and_i rfl hp) rfl)) rfl)<|rs (vB (((v7.2==5)&&(v8.2.2==0))&&v10)) (r_move rfl)<|run_frame (by simp only [sc0,sc1];rfl) ?_
  refine rgs (((v7.2==5)&&(v8.2.2==0))&&v10) true (vL Av8_1_0 v8.2.1.length cv8_1_0) rfl rfl rfl rfl (fun hg=>(r_move rfl))<|run_gbs (b:=(((v7.2==5)&&(v8.2.2==0))&&v10)) (c:=true) (Kd.int .i64) (xs:=([0,1,2,3,4,2]:List Int)) (n:=6) (cs:=[vI 0,vI 1,vI 2,vI 3,vI 4,vI 2]) rfl rfl Tryd.runUnderlying62 Tryd.typeInfo3 Tryd.zeroValue3 rfl rfl (by decide) (by decide) (by decide) [vI 0,vI 1,vI 2,vI 3,vI 4,vI 2] (fun _=>parts_any.trans rfl) rfl rfl rfl rfl (elems_cons (qs:=[vI 0]) rfl (elems_cons (qs:=[vI 1]) rfl (elems_cons (qs:=[vI 2]) rfl (elems_cons (qs:=[vI 3]) rfl (elems_cons (qs:=[vI 4]) rfl (elems_cons (qs:=[vI 2]) rfl (elems_nil (cs:=[])))))))) HS28 ?_
  intro w26 h5 Ag1 HS29 hs3 hq1
  replace hrv1_0_0:Rd k_api_Def h5 Av1_0_0 v1.vDefs:=hrv1_0_0.ext (And.intro hs3 trivial).1
  replace rdp1:Rd k_api_Def h5 (rowA ob2) ((([]:List api_Def)++v1.vDefs)++([(⟨2,ByteArray.empty,(⟨0,false⟩:api_Int),1,0,[]⟩:api_Def)]:List api_Def)):=rdp1.ext (And.intro hs3 trivial).1
  replace hrv8_0_0:Rd k_api_Def h5 Av8_0_0 v8.1.vDefs:=hrv8_0_0.ext (And.intro hs3 trivial).1
  replace hrv8_1_0:Rd (Kd.int .i64) h5 Av8_1_0 v8.2.1:=hrv8_1_0.ext (And.intro hs3 trivial).1
  replace hrv9_0_0:Rd (Kd.int .u8) h5 Av9_0_0 v9.1:=hrv9_0_0.ext (And.intro hs3 trivial).1
  replace ho4:=ho4.view (And.intro hs3 trivial).1
  replace ho1:=ho1.view (And.intro hs3 trivial).1
  obtain ⟨v11,H11,H⟩:=of_bind H
  refine run_g (b:=(((v7.2==5)&&(v8.2.2==0))&&v10)) (c:=true) (v:=vB v11) rfl rfl rfl rfl (fun hg=>(does_call_eq Tryd.call35 rfl (map2 (gvt (vL Av8_1_0 v8.2.1.length cv8_1_0) hg rfl) (gvt (vL Ag1 ([0,1,2,3,4,2]:List Int).length 6) hg rfl)) (taplineref08_SameInts.calls k v8.2.1 ([0,1,2,3,4,2]:List Int) Av8_1_0 cv8_1_0 Ag1 6 HS29.sees hrv8_1_0 hcv8_1_0 ((hq1 hg)) ((Nat.le_refl _)) (of_pos H11 hg)))) ?_
  intro w27 hE16
  have HS30:=HS29.step hE16
  refine rs (vB ((((v7.2==5)&&(v8.2.2==0))&&v10)&&v11)) (r_pick_and rfl (fun hp=>(gvt (vB v11) (and_i rfl hp) rfl)) rfl)<|run_frame (by simp only [sc0,sc1];rfl) ?_
  refine rs (vB ((((v7.2==5)&&(v8.2.2==0))&&v10)&&v11)) (r_move rfl)<|rgs ((((v7.2==5)&&(v8.2.2==0))&&v10)&&v11) true (vI v9.2) rfl rfl rfl rfl (fun hg=>(r_move rfl))<|rgs ((((v7.2==5)&&(v8.2.2==0))&&v10)&&v11) true (vB (v9.2==0)) rfl rfl rfl rfl (fun hg=>(r_bin (gvt (vI v9.2) hg rfl) rfl rfl))<|rs (vB (((((v7.2==5)&&(v8.2.2==0))&&v10)&&v11)&&(v9.2==0))) (r_pick_and rfl (fun hp=>(gvt (vB (v9.2==0)) (and_i rfl hp) rfl)) rfl)<|run_frame (by simp only [sc0,sc1];rfl) ?_
  refine rs (vB (((((v7.2==5)&&(v8.2.2==0))&&v10)&&v11)&&(v9.2==0))) (r_move rfl)<|rgs (((((v7.2==5)&&(v8.2.2==0))&&v10)&&v11)&&(v9.2==0)) true (vL Av9_0_0 v9.1.length cv9_0_0) rfl rfl rfl rfl (fun hg=>(r_move rfl))<|rgs (((((v7.2==5)&&(v8.2.2==0))&&v10)&&v11)&&(v9.2==0)) true (vS (strOf v9.1)) rfl rfl rfl rfl (fun hg=>(r_b2s (gvt (vL Av9_0_0 v9.1.length cv9_0_0) hg rfl) Tryd.runUnderlying80 Tryd.runUnderlying9 Tryd.runUnderlying5 HS30.sees hrv9_0_0))<|rgs (((((v7.2==5)&&(v8.2.2==0))&&v10)&&v11)&&(v9.2==0)) true (vB (strEq (strOf v9.1) (⟨#[67,84,70,1,0]⟩:ByteArray))) rfl rfl rfl rfl (fun hg=>(r_streql (gvt (vS (strOf v9.1)) hg rfl) rfl))<|run_frame (by simp only [sc0,sc1];rfl) ?_
  refine rs (vB ((((((v7.2==5)&&(v8.2.2==0))&&v10)&&v11)&&(v9.2==0))&&(strEq (strOf v9.1) (⟨#[67,84,70,1,0]⟩:ByteArray)))) (r_pick_and rfl (fun hp=>(gvt (vB (strEq (strOf v9.1) (⟨#[67,84,70,1,0]⟩:ByteArray))) (and_i rfl hp) rfl)) rfl)<|rs (vB ((((((v7.2==5)&&(v8.2.2==0))&&v10)&&v11)&&(v9.2==0))&&(strEq (strOf v9.1) (⟨#[67,84,70,1,0]⟩:ByteArray)))) (r_assign rfl) ?_
  try simp only [sc0,sc1]
  refine run_nil<|norm_then<|wp_ret ?_
  obtain rfl:=Option.some.inj H
  exact bodyPost_ret (results_1 rfl (one_tmp rfl)) rfl<|⟨rfl,HS30.toE⟩
set_option maxRecDepth 100000 in
theorem sane_at (k:Nat):taplinelaw08_sane.f (k+60)=some true:=by kernel_rfl
theorem sane_ev : Ev (fun k => taplinelaw08_sane.f k) true := ⟨60, fun k hk => by
 obtain ⟨m,rfl⟩:∃m,k=m+60:=⟨k-60,by omega⟩
 exact sane_at m⟩
structure GoodSz (defs:List api_Def) (g:List Int):Prop where
 len:g.length=defs.length
 ex:∃rk:Nat→Nat,∀j,j<defs.length→0<g.getD j 0∧g.getD j 0≤512∧(∀c∈cont (defs.getD j z_api_Def),rk c.toNat<rk j)∧g.getD j 0=nval (defs.getD j z_api_Def) (inner g (defs.getD j z_api_Def))
theorem GoodT.good {t:api_Types} {l:List Int} (G:GoodT t l):GoodSz t.vDefs l:=by
 refine ⟨G.len,?_⟩
 obtain ⟨rk,B,h⟩:=G.jn
 exact ⟨rk, fun j hj => by
  obtain ⟨h1,h2,h3,h4⟩:=h j hj (G.pos j hj)
  exact ⟨G.pos j hj, h2, fun c hc => (h3 c hc).2, h4⟩⟩
section
variable {defs:List api_Def} {g:List Int} {rk:Nat→Nat}
structure Mid (defs:List api_Def) (g:List Int) (out:List Int) (bg:List Bool) (out':List Int) (bg':List Bool):Prop where
 lo:out'.length=defs.length
 lb:bg'.length=defs.length
 val:∀j,j<defs.length→out'.getD j 0=0∨out'.getD j 0=g.getD j 0
 keep:∀j,0<out.getD j 0→out'.getD j 0=out.getD j 0
 stk:∀j,bg'.getD j false=true→out'.getD j 0=0→bg.getD j false=true∧out.getD j 0=0
theorem Mid.trans {o1 o2 o3:List Int} {b1 b2 b3:List Bool} (h:Mid defs g o1 b1 o2 b2) (k:Mid defs g o2 b2 o3 b3):Mid defs g o1 b1 o3 b3:=
 ⟨k.lo, k.lb, k.val, fun j hj => by rw [k.keep j (by rw [h.keep j hj]; exact hj), h.keep j hj], fun j hb ho => by
  obtain ⟨h1,h2⟩:=k.stk j hb ho
  exact h.stk j h1 h2⟩
def CallG (defs:List api_Def) (g:List Int) (i:Nat) (out:List Int) (bg:List Bool):Prop:=∃out' bg',Ev (fun k=>ctf_sizes_1.f k (i:Int) out true bg defs) (g.getD i 0,out',true,bg')∧Mid defs g out bg out' bg'∧out'.getD i 0=g.getD i 0
theorem good_loop {R:Nat} (v1:List Int) (hv:∀c∈v1,0≤c∧c<(defs.length:Int)) (hvl:v1.length≤9223372036854775807) (hr:∀c∈v1,rk c.toNat<R)
    (hc:∀(i:Nat) (out:List Int) (bg:List Bool),i<defs.length→rk i<R→out.length=defs.length→bg.length=defs.length→(∀j,j<defs.length→out.getD j 0=0∨out.getD j 0=g.getD j 0)→(∀j,bg.getD j false=true→out.getD j 0=0→rk i<rk j)→CallG defs g i out bg):
    ∀(e j:Nat) (inn:Int) (out:List Int) (bg:List Bool),j+e=v1.length→out.length=defs.length→bg.length=defs.length→(∀j,j<defs.length→out.getD j 0=0∨out.getD j 0=g.getD j 0)→(∀j,bg.getD j false=true→out.getD j 0=0→R≤rk j)→
    ∃out' bg',(∃K,∀k m,K≤k→K≤m→ctf_sizes_1.l0 (ctf_sizes_1.f k) defs v1 m inn (j:Int) true out bg=some ((v1.drop j).foldl (fun _ c=>g.getD c.toNat 0) inn,true,out',bg'))∧Mid defs g out bg out' bg':=by
  intro e
  induction e with
  | zero =>
    intro j inn out bg hj h1 h2 h3 h4
    refine ⟨out,bg,⟨1,fun k m _ hm=>?_⟩,h1,h2,h3,fun _ _=>rfl,fun j a b=>⟨a,b⟩⟩
    obtain ⟨m,rfl⟩:∃q,m=q+1:=⟨m-1,by omega⟩
    rw [ctf_sizes_1.l0,if_neg (by simp;omega),List.drop_eq_nil_of_le (by omega)]
    rfl
  | succ e ih =>
    intro j inn out bg hj h1 h2 h3 h4
    have hlt:j<v1.length:=by omega
    have hmem:=getD_mem (z:=0) hlt
    have hm:=hv _ hmem
    obtain ⟨i,hi⟩:∃i:Nat,v1.getD j 0=(i:Int):=⟨(v1.getD j 0).toNat,by omega⟩
    have hri:rk i<R:=by have:=hr _ hmem;rw [hi] at this;exact this
    obtain ⟨o1,b1,⟨K1,hK1⟩,hM1,hv1⟩:=hc i out bg (by omega) hri h1 h2 h3 (fun q a b=>by have:=h4 q a b;omega)
    obtain ⟨o2, b2, ⟨K2, hK2⟩, hM2⟩ := ih (j + 1) (g.getD i 0) o1 b1 (by omega) hM1.lo hM1.lb hM1.val (fun q a b => by
      obtain ⟨x,y⟩:=hM1.stk q a b
      exact h4 q x y)
    refine ⟨o2,b2,⟨max K1 K2+1,fun k m hk hm'=>?_⟩,hM1.trans hM2⟩
    obtain ⟨m,rfl⟩:∃q,m=q+1:=⟨m-1,by omega⟩
    rw [ctf_sizes_1.l0,if_pos (by simp;omega),if_pos (by omega),rd_nat,hi,show ctf_sizes_1.f k _ _ _ _ _=_ from hK1 k (by omega)]
    simp only [Option.bind_some]
    rw [wrap_nat hlt hvl,drop_getD 0 hlt,hi]
    exact hK2 k m (by omega) (by omega)
theorem cont_few {d:api_Def} {n:Nat} (hd:ShD d n):(cont d).length≤9223372036854775807:=by
 have:=hd.few
 unfold cont
 split
 ·simp
 ·split
  ·rw [List.length_map];omega
  ·simp
theorem good_call (hS : ∀ d ∈ defs, ShD d defs.length) (hg : ∀ j, j < defs.length → 0 < g.getD j 0 ∧ g.getD j 0 ≤ 512 ∧ (∀ c ∈ cont (defs.getD j z_api_Def), rk c.toNat < rk j) ∧ g.getD j 0 = nval (defs.getD j z_api_Def) (inner g (defs.getD j z_api_Def))) :
    ∀(R i:Nat) (out:List Int) (bg:List Bool),rk i=R→i<defs.length→out.length=defs.length→bg.length=defs.length→(∀j,j<defs.length→out.getD j 0=0∨out.getD j 0=g.getD j 0)→(∀j,bg.getD j false=true→out.getD j 0=0→rk i<rk j)→CallG defs g i out bg:=by
  intro R
  induction R using Nat.strongRecOn with
  | _ R ihR =>
    intro i out bg hR hi h1 h2 h3 h4
    obtain ⟨g1,g2,g3,g4⟩:=hg i hi
    rcases h3 i hi with h0|h0
    · have hb:bg.getD i false=false:=by
        cases hb:bg.getD i false with
        |false=>rfl
        |true=>exact absurd (h4 i hb h0) (by omega)
      have hd:=hS _ (getD_mem (z:=z_api_Def) hi)
      obtain ⟨Kc,hKc⟩:=contained_ev (d:=defs.getD i z_api_Def) (by have:=hd.few;omega)
      obtain ⟨o1,b1,⟨K1,hK1⟩,hM⟩:=good_loop (defs:=defs) (g:=g) (rk:=rk) (R:=R) (cont (defs.getD i z_api_Def)) (cont_range hd) (cont_few hd) (fun c hc=>by have:=g3 c hc;omega)
        (fun i' o b a1 a2 a3 a4 a5 a6 => ihR (rk i') a2 i' o b rfl a1 a3 a4 a5 a6) (cont (defs.getD i z_api_Def)).length 0 0 out (bg.set i true) (by omega) h1 (by simpa using h2) h3 (fun j a b => by
          rw [getD_set (by omega)] at a
          split at a
          · next e=>subst e;omega
          · have := h4 j a b; omega)
      rw [List.drop_zero] at hK1
      have hset:∀j,(o1.set i (g.getD i 0)).getD j 0=if i=j then g.getD i 0 else o1.getD j 0:=fun j=>getD_set (by rw [hM.lo];exact hi)
      refine ⟨o1.set i (g.getD i 0),b1,⟨max Kc K1+1,fun k hk=>?_⟩,⟨by simp [hM.lo],hM.lb,fun j hj=>?_,fun j hj=>?_,fun j hb' ho=>?_⟩,by rw [hset,if_pos rfl]⟩
      · obtain ⟨k,rfl⟩:∃q,k=q+1:=⟨k-1,by omega⟩
        show ctf_sizes_1.f (k+1) _ _ _ _ _=_
        rw [ctf_sizes_1.f,if_pos (by omega),rd_nat,if_neg (by simp only [Bool.not_true,Bool.or_false,decide_eq_true_eq];omega),if_pos (by omega),rd_nat,if_neg (by rw [hb];simp),if_pos (by omega),if_pos (by omega),rd_nat,show ctf_contained.f k _=_ from hKc k (by omega)]
        simp only [Option.bind_some,Int.toNat_natCast]
        rw [show ctf_sizes_1.l0 (ctf_sizes_1.f k) defs _ k 0 0 true out _=_ from hK1 k k (by omega) (by omega)]
        simp only [Option.bind_some]
        rw [if_pos (by rw [hM.lo];omega)]
        simp only [nval_eq]
        rw [show nval (defs.getD i z_api_Def) (List.foldl (fun x c=>g.getD c.toNat 0) 0 (cont (defs.getD i z_api_Def)))=g.getD i 0 from g4.symm,decide_eq_true g2]
        rfl
      · rw [hset]
        split
        · next e=>subst e;exact .inr rfl
        · exact hM.val j hj
      · rw [hset,if_neg (fun e=>by subst e;omega)]
        exact hM.keep j hj
      · rw [hset] at ho
        split at ho
        · omega
        · next hne=>
          obtain ⟨x,y⟩:=hM.stk j hb' ho
          rw [getD_set (by omega),if_neg hne] at x
          exact ⟨x,y⟩
    · refine ⟨out,bg,⟨1,fun k hk=>?_⟩,⟨h1,h2,h3,fun _ _=>rfl,fun j a b=>⟨a,b⟩⟩,h0⟩
      obtain ⟨k,rfl⟩:∃q,k=q+1:=⟨k-1,by omega⟩
      show ctf_sizes_1.f (k+1) _ _ _ _ _=_
      rw [ctf_sizes_1.f,if_pos (by omega),rd_nat,if_pos (by simp only [Bool.or_eq_true,decide_eq_true_eq];exact .inl (by omega)),if_pos (by omega),h0]
end
theorem list_ext {g h:List Int} (hl:g.length=h.length) (he:∀j,j<g.length→g.getD j 0=h.getD j 0):g=h:=by
 apply List.ext_getElem hl
 intro j h1 h2
 have:=he j h1
 rw [List.getD_eq_getElem?_getD,List.getD_eq_getElem?_getD,List.getElem?_eq_getElem h1,List.getElem?_eq_getElem h2] at this
 exact this
theorem good_all {t : api_Types} {g : List Int} {rk : Nat → Nat} (hS : ∀ d ∈ t.vDefs, ShD d t.vDefs.length) (hn : t.vDefs.length ≤ 9223372036854775807)
    (hg:∀j,j<t.vDefs.length→0<g.getD j 0∧g.getD j 0≤512∧(∀c∈cont (t.vDefs.getD j z_api_Def),rk c.toNat<rk j)∧g.getD j 0=nval (t.vDefs.getD j z_api_Def) (inner g (t.vDefs.getD j z_api_Def))):
    ∀(e j:Nat) (bg:List Bool) (out:List Int),j+e=t.vDefs.length→out.length=t.vDefs.length→bg.length=t.vDefs.length→(∀q,q<t.vDefs.length→out.getD q 0=0∨out.getD q 0=g.getD q 0)→(∀q,bg.getD q false=true→out.getD q 0=0→False)→(∀q,q<j→out.getD q 0=g.getD q 0)→
    ∃bg' out',Ev2 (fun k m=>ctf_sizes.l0 k t m (j:Int) true bg out) (true,bg',out')∧out'.length=t.vDefs.length∧∀q,q<t.vDefs.length→out'.getD q 0=g.getD q 0:=by
  intro e
  induction e with
  | zero =>
    intro j bg out hj h1 h2 h3 h4 h5
    refine ⟨bg,out,Ev2.pure (fun k m=>?_),h1,fun q hq=>h5 q (by omega)⟩
    rw [ctf_sizes.l0,if_neg (by simp;omega)]
  | succ e ih =>
    intro j bg out hj h1 h2 h3 h4 h5
    have hlt:j<t.vDefs.length:=by omega
    obtain ⟨o1,b1,hE,hM,hv⟩:=good_call hS hg (rk j) j out bg rfl hlt h1 h2 h3 (fun q a b=>(h4 q a b).elim)
    obtain ⟨bg', out', hE2, h6, h7⟩ := ih (j + 1) b1 o1 (by omega) hM.lo hM.lb hM.val (fun q a b => by
      obtain ⟨x,y⟩:=hM.stk q a b
      exact h4 q x y) (fun q hq=>by
      by_cases hqj:q=j
      · subst hqj;exact hv
      · have h8:=h5 q (by omega)
        have h9:=(hg q (by omega)).1
        rw [hM.keep q (by omega), h8])
    refine ⟨bg',out',Ev2.step hE (r:=fun k m (v1:Int×List Int×Bool×List Bool)=>ctf_sizes.l0 k t m (IntKind.wrap .i64 ((j:Int)+1)) v1.2.2.1 v1.2.2.2 v1.2.1) ?_ (fun k m=>?_),h6,h7⟩
    · simp only
      rw [wrap_nat hlt hn]
      exact hE2
    · rw [ctf_sizes.l0,if_pos (by simp;omega)]
theorem sizes_good {t:api_Types} {g:List Int} (hS:∀d∈t.vDefs,ShD d t.vDefs.length) (hn:t.vDefs.length≤200) (G:GoodSz t.vDefs g):Ev (fun k=>ctf_sizes.f k t) (g,true):=by
 obtain ⟨rk,hg⟩:=G.ex
 have hrep:∀(n q:Nat),(List.replicate n (0:Int)).getD q 0=0:=fun n q=>by
  rw [List.getD_eq_getElem?_getD,List.getElem?_replicate]
  split<;>rfl
 have hrepb:∀(n q:Nat),(List.replicate n false).getD q false=false:=fun n q=>by
  rw [List.getD_eq_getElem?_getD,List.getElem?_replicate]
  split<;>rfl
 obtain ⟨bg,out,hE,h1,h2⟩:=good_all hS (by omega) hg t.vDefs.length 0 (List.replicate t.vDefs.length false) (List.replicate t.vDefs.length 0) (by omega) (by simp) (by simp) (fun q _=> .inl (hrep _ _)) (fun q a _=>by rw [hrepb] at a;cases a) (fun q hq=>by omega)
 have hog:out=g:=list_ext (by rw [h1,G.len]) (fun j hj=>h2 j (by omega))
 subst hog
 obtain ⟨K,hK⟩:=hE.diag
 refine ⟨K,fun k hk=>?_⟩
 show ctf_sizes.f k t=_
 unfold ctf_sizes.f
 rw [if_pos (by omega),if_pos (by omega)]
 simp only [Int.toNat_natCast]
 rw [show ctf_sizes.l0 k t k 0 true _ _=_ from hK k hk]
 rfl
theorem inner_ref {d:api_Def} {known:List Int} (hk:d.vKind=3∨d.vKind=6):inner known d=rd 0 known d.vRef∧cont d=[d.vRef]:=by
 have hcd:cont d=[d.vRef]:=by
  unfold cont
  rw [if_pos (by simp only [Bool.or_eq_true,beq_iff_eq];exact hk)]
 refine ⟨?_,hcd⟩
 unfold inner
 rw [hcd]
 rfl
theorem cont_kind {d:api_Def} {c:Int} (h:c∈cont d):d.vKind=3∨d.vKind=4∨d.vKind=6:=by
 unfold cont at h
 split at h
 ·next h2=>simp only [Bool.or_eq_true,beq_iff_eq] at h2;omega
 ·split at h
  ·next h2=>simp only [beq_iff_eq] at h2;omega
  ·cases h
theorem inner_congr {d:api_Def} {a b:List Int} (h:∀c∈cont d,a.getD c.toNat 0=b.getD c.toNat 0):inner a d=inner b d:=by
  unfold inner
  have key:∀(l:List Int) (z0:Int),(∀c∈l,a.getD c.toNat 0=b.getD c.toNat 0)→l.foldl (fun _ c=>a.getD c.toNat 0) z0=l.foldl (fun _ c=>b.getD c.toNat 0) z0:=by
    intro l
    induction l with
    |nil=>intro _ _;rfl
    | cons c l ih =>
      intro z0 hc
      rw [List.foldl_cons,List.foldl_cons,hc c List.mem_cons_self]
      exact ih _ (fun c hc'=>hc c (List.mem_cons_of_mem _ hc'))
  exact key _ _ h
theorem cont_struct {d:api_Def} (e:d.vKind=4):cont d=d.vFields.map (·.vType):=by
 unfold cont
 rw [if_neg (by simp [e]),if_pos (by simp [e])]
structure Wf (t:api_Types) (l:List Int):Prop where
 few:t.vDefs.length≤200
 defs:defsS t.vDefs.length [] t.vDefs=true
 sz:GoodSz t.vDefs l
 ends:∀d∈t.vDefs,lostS t.vDefs t.vDefs.length d=false
 placed:∀d∈t.vDefs,d.vKind=4→placedS d l=true
theorem GoodT.wf {t:api_Types} {l:List Int} (G:GoodT t l):Wf t l:=⟨G.few,G.defs,G.good,G.ends,G.placed⟩
theorem Wf.sh {t:api_Types} {l:List Int} (W:Wf t l):∀d∈t.vDefs,ShD d t.vDefs.length:=defs_of _ _ W.defs
theorem Wf.good {t:api_Types} {l:List Int} (W:Wf t l):GoodT t l:=by
  obtain ⟨rk,h⟩:=W.sz.ex
  have hB:∀n,∃B,∀j,j<n→rk j<B:=by
    intro n
    induction n with
    |zero=>exact ⟨0,fun j hj=>by omega⟩
    | succ n ih =>
      obtain ⟨B,hB⟩:=ih
      refine ⟨max B (rk n+1),fun j hj=>?_⟩
      by_cases e:j=n
      · subst e;omega
      · have:=hB j (by omega);omega
  obtain ⟨B,hB⟩:=hB t.vDefs.length
  refine ⟨W.few,W.sh,sizes_good W.sh W.few W.sz,W.sz.len,⟨rk,B,fun j hj _=>?_⟩,fun q hq=>(h q hq).1,W.ends,W.placed,W.defs⟩
  obtain ⟨h1,h2,h3,h4⟩:=h j hj
  refine ⟨hB j hj,h2,fun c hc=>⟨?_,h3 c hc⟩,h4⟩
  have:=cont_range (W.sh _ (getD_mem (z:=z_api_Def) hj)) c hc
  exact (h c.toNat (by omega)).1
theorem valid_wf {t : api_Types} {l : List Int} (hF : ∀ d ∈ t.vDefs, FitD d) (W : Wf t l) : Ev (fun k => ctf_valid.f k t) true := by
  have hn:=W.few
  have hS:=W.sh
  have hcond:¬decide ((t.vDefs.length:Int)>200)=true:=by simp;omega
  obtain ⟨v,hv,hp⟩:=valid_loop hF (by omega) t.vDefs.length 0 [] [] (by omega) SeenOk.nil
  rw [List.drop_zero] at hp
  obtain ⟨K,hK⟩:=hv.diag
  obtain ⟨K2,hK2⟩:=sizes_good hS hn W.sz
  obtain ⟨K3,hK3⟩:=ends_ev hS hn
  have he:t.vDefs.any (lostS t.vDefs t.vDefs.length)=false:=List.any_eq_false.2 fun d hd=>by rw [W.ends d hd];simp
  obtain ⟨K4, hK4⟩ := contains_ev (l := t.vDefs) (p := fun k z0 => ctf_valid_1.f k z0 l) (q := fun _ => false) (fun d hd => by
    by_cases h4:d.vKind=4
    · have:=placed_ev (d:=d) (l:=l) (hF d hd).len (fun f hf=>by have:=(hS d hd).typ h4 f hf;rw [W.sz.len];exact this)
      rw [W.placed d hd h4] at this
      exact (this.bind (g:=fun k v1=>some ((d.vKind==4)&&(!v1))) (b:=false) (Ev.pure fun _=>by simp)).congr fun k=>by
        unfold ctf_valid_1.f
        rw [if_pos (by simp [h4])]
    · refine Ev.pure fun k=>?_
      unfold ctf_valid_1.f
      rw [if_neg (by simp [h4])]
      simp [h4]) (by omega)
  cases v with
  |inl b=>rw [W.defs] at hp;exact absurd hp.2 (by simp)
  | inr m =>
    refine ⟨max (max K K2) (max K3 K4),fun k hk=>?_⟩
    show ctf_valid.f k t=_
    unfold ctf_valid.f
    rw [if_neg hcond,show ctf_valid.l0 k t k 0 []=_ from hK k (by omega)]
    simp only [Option.bind_some]
    rw [show ctf_sizes.f k t=_ from hK2 k (by omega)]
    simp only [Option.bind_some]
    rw [show ctf_ends.f k t=_ from hK3 k (by omega),he]
    simp only [Bool.not_true,Bool.not_false,beq_self_eq_true,Bool.and_self,if_true,Option.bind_some,Bool.or_self,Bool.false_eq_true,if_false]
    rw [show slices_ContainsFunc_api_Def_api_Def.f k t.vDefs _=_ from hK4 k (by omega)]
    simp
theorem valid_iff {t:api_Types} (hF:∀d∈t.vDefs,FitD d):(∃l,Wf t l∧Ev (fun k=>ctf_valid.f k t) true)∨((∀l,¬Wf t l)∧Ev (fun k=>ctf_valid.f k t) false):=by
  obtain ⟨b,hE,hb⟩:=valid_ev hF
  cases b with
  | true =>
    obtain ⟨l,G⟩:=hb rfl
    exact .inl ⟨l,G.wf,hE⟩
  | false =>
    refine .inr ⟨fun l W=>?_,hE⟩
    have:=hE.uniq (valid_wf hF W)
    cases this
def ctf_find_1.f (a0:api_Def) (x0:ByteArray):Option (Bool):=(ctf_named.f a0).bind fun v1=>(some (v1&&(strEq a0.vName x0)))
theorem ctf_find_1.calls (a0:api_Def) (x0:ByteArray) (A0_6:Option Addr) (c0_6:Nat) (bx0:Nat) {h0:View} {w0:World} (hv:Sees h0 w0) (hr0_6:Rd k_api_Field h0 A0_6 a0.vFields) (hc0_6:a0.vFields.length≤c0_6) (hx0:w0.heap[bx0]?=some (.cells #[vS x0] 9 (0,0))) {r:Bool} (H:ctf_find_1.f a0 x0=some r):Calls Tryd.prog 101 #[Value.agg #[vI a0.vKind,vS a0.vName,vI a0.vInt.vSize,vB a0.vInt.vSigned,vI a0.vRef,vI a0.vN,vL A0_6 a0.vFields.length c0_6],vP bx0 0] w0 (fun e w1=>e= .returned (vB r)∧Ext w0 w1):=by
 unfold ctf_find_1.f at H
 have HS:St [] h0 w0 h0 [] w0:=St.init hv
 go_enter Tryd.func101,Tryd.ntmps101
 refine wp_seq<|region<|run_ex rfl rfl (does_box (cs:=#[vI a0.vKind,vS a0.vName,vI a0.vInt.vSize,vB a0.vInt.vSigned,vI a0.vRef,vI a0.vN,vL A0_6 a0.vFields.length c0_6]) rfl rfl) ?_
 rintro w1 _ hE1 ⟨b1,rfl,ge1,hb1⟩
 have HS1:=HS.new hE1 ge1 hb1
 refine rs (vB false) (r_assign rfl) ?_
 try simp only [sc0,sc1]
 refine run_nil<|norm_then<|wp_seq<|region<|rs (Value.agg #[vI a0.vKind,vS a0.vName,vI a0.vInt.vSize,vB a0.vInt.vSigned,vI a0.vRef,vI a0.vN,vL A0_6 a0.vFields.length c0_6]) (r_loadBoxAgg (n:=7) (vs:=[vI a0.vKind,vS a0.vName,vI a0.vInt.vSize,vB a0.vInt.vSigned,vI a0.vRef,vI a0.vN,vL A0_6 a0.vFields.length c0_6]) rfl Tryd.isAgg34 (HS1.look 0 rfl) Tryd.sizeOf34 rfl rfl) ?_
 obtain ⟨v1,H1,H⟩:=of_bind H
 refine run_eq (v:=vB v1) rfl rfl (does_call_eq Tryd.call68 rfl rfl (ctf_named.calls a0 A0_6 c0_6 HS1.sees hr0_6 hc0_6 H1)) ?_
 intro w2 hE2
 have HS2:=HS1.step hE2
 refine rs (vB v1) (r_move rfl)<|rgs v1 true (vP b1 1) rfl rfl rfl rfl (fun hg=>(r_fieldBox (n:=1) (o':=1) rfl Tryd.runUnderlying34 rfl Tryd.sizeOf9 (by decide) rfl))<|run_frame (by simp only [sc0,sc1];rfl) ?_
 refine rgs v1 true (vS a0.vName) rfl rfl rfl rfl (fun hg=>(r_loadBox (gvt (vP b1 1) hg rfl) Tryd.isAgg9 (HS2.look 0 rfl) rfl))<|rgs v1 true (vS x0) rfl rfl rfl rfl (fun hg=>(r_loadBox rfl Tryd.isAgg9 (heap_ext hx0 HS2.toE) rfl))<|rgs v1 true (vB (strEq a0.vName x0)) rfl rfl rfl rfl (fun hg=>(r_streql (gvt (vS a0.vName) hg rfl) (gvt (vS x0) hg rfl)))<|rs (vB (v1&&(strEq a0.vName x0))) (r_pick_and rfl (fun hp=>(gvt (vB (strEq a0.vName x0)) (and_i rfl hp) rfl)) rfl)<|run_frame (by simp only [sc0,sc1];rfl) ?_
 refine rs (vB (v1&&(strEq a0.vName x0))) (r_assign rfl) ?_
 try simp only [sc0,sc1]
 refine run_nil<|norm_then<|wp_ret ?_
 obtain rfl:=Option.some.inj H
 exact bodyPost_ret (results_1 rfl (one_tmp rfl)) rfl<|⟨rfl,HS2.toE⟩
def ctf_find.f (k:Nat) (a0:api_Types) (a1:ByteArray):Option (Int):=(slices_IndexFunc_api_Def_api_Def.f k a0.vDefs (fun z0=>ctf_find_1.f z0 a1)).bind fun v1=>(some v1)
theorem ctf_find.calls (k:Nat) (a0:api_Types) (a1:ByteArray) (A0_0:Option Addr) (c0_0:Nat) {h0:View} {w0:World} (hv:Sees h0 w0) (hr0_0:Rd k_api_Def h0 A0_0 a0.vDefs) (hc0_0:a0.vDefs.length≤c0_0) {r:Int} (H:ctf_find.f k a0 a1=some r):Calls Tryd.prog 54 #[Value.agg #[vL A0_0 a0.vDefs.length c0_0],vS a1] w0 (fun e w1=>e= .returned (vI r)∧Ext w0 w1):=by
 unfold ctf_find.f at H
 have HS:St [] h0 w0 h0 [] w0:=St.init hv
 go_enter Tryd.func54,Tryd.ntmps54
 refine wp_seq<|region<|run_ex rfl rfl (does_box (cs:=#[vL A0_0 a0.vDefs.length c0_0]) rfl rfl) ?_
 rintro w1 _ hE1 ⟨b1,rfl,ge1,hb1⟩
 have HS1:=HS.new hE1 ge1 hb1
 refine run_ex rfl rfl (does_box (cs:=#[vS a1]) rfl rfl) ?_
 rintro w2 _ hE2 ⟨b2,rfl,ge2,hb2⟩
 have HS2:=HS1.new hE2 ge2 hb2
 refine rs (vI 0) (r_assign rfl) ?_
 try simp only [sc0,sc1]
 refine run_nil<|norm_then<|wp_seq<|region<|rs (vP b1 0) (r_fieldBox (n:=1) (o':=0) rfl Tryd.runUnderlying24 rfl Tryd.sizeOf22 (by decide) rfl)<|rs (vL A0_0 a0.vDefs.length c0_0) (r_loadBox rfl Tryd.isAgg22 (HS2.look 1 rfl) rfl)<|rs (Value.func (.func 101) #[] #[vP b2 0]) (r_makeFunc (vs:=[vP b2 0]) rfl) ?_
 obtain ⟨v1,H1,H⟩:=of_bind H
 refine run_eq (v:=vI v1) rfl rfl (does_call_eq Tryd.call100 rfl rfl (slices_IndexFunc_api_Def_api_Def.calls k a0.vDefs (fun z0=>ctf_find_1.f z0 a1) A0_0 c0_0 101 [vP b2 0] HS2.sees hr0_0 hc0_0 Tryd.call101 (fun z0 Az0_6 cz0_6 h w hE hs hv hz0_6 hzc0_6 r H=>ctf_find_1.calls z0 a1 Az0_6 cz0_6 b2 hv hz0_6 hzc0_6 (heap_ext (HS2.look 0 rfl) hE) H) H1)) ?_
 intro w3 hE3
 have HS3:=HS2.step hE3
 refine run_frame (by simp only [sc0,sc1];rfl) ?_
 refine rs (vI v1) (r_assign rfl) ?_
 try simp only [sc0,sc1]
 refine run_nil<|norm_then<|wp_ret ?_
 obtain rfl:=Option.some.inj H
 exact bodyPost_ret (results_1 rfl (one_tmp rfl)) rfl<|⟨rfl,HS3.toE⟩
def digIn (n:Nat):Bool:=match strconv_Itoa.f (n:Int) with|some b=>decide (b.size≤3)|_=>false
theorem dig_in:(List.range 513).all digIn=true:=by kernel_rfl
theorem dig_one {n:Int} (h1:1≤n) (h2:n≤512):∃s,strconv_Itoa.f n=some s∧s.size≤3:=by
 obtain ⟨m,rfl⟩:∃m:Nat,n=(m:Int):=⟨n.toNat,by omega⟩
 have h0:=List.all_eq_true.1 dig_in m (List.mem_range.2 (by omega))
 unfold digIn at h0
 cases hi:strconv_Itoa.f (m:Int) with
 |none=>rw [hi] at h0;cases h0
 |some b=>rw [hi] at h0;exact ⟨b,rfl,of_decide_eq_true h0⟩
theorem shaped_mem {n:Nat}:∀(ns:List ByteArray) (l:List api_Def),defsS n ns l=true→∀d∈l,shapedS d (n:Int)=true
  |_,[],_=>by simp
  | ns, d :: r, h => by
    simp only [defsS,Bool.and_eq_true] at h
    intro x hx
    rcases List.mem_cons.1 hx with rfl|hx
    · exact h.1.1
    · exact shaped_mem _ r h.2 x hx
theorem name_of {d:api_Def} {n:Int} (h:shapedS d n=true) (hn:namedS d=true):nameS d.vName=true:=by
  unfold shapedS at h
  unfold namedS at hn
  simp only [Bool.and_eq_true,bne_iff_ne,ne_eq] at hn
  cases hs:shp d.vKind with
  |none=>rw [hs] at h;cases h
  | some s =>
    rw [hs] at h
    simp only [Bool.and_eq_true] at h
    have h1:=h.1.1.1.1.1.1
    unfold shp at hs
    rw [if_neg hn.1,if_neg hn.2] at hs
    have hv:s.vname=true:=by
      repeat' split at hs
      all_goals first|(cases hs;done)|(injection hs with hs;subst hs;rfl)
    rwa [if_pos hv] at h1
theorem name_len {s:ByteArray} (h:nameS s=true):s.size≤31:=by
 unfold nameS at h
 simp only [Bool.and_eq_true,decide_eq_true_eq] at h
 omega
theorem anon_kind {d:api_Def} (hn:¬namedS d=true):d.vKind=2∨d.vKind=3:=by
 unfold namedS at hn
 by_cases h2:d.vKind=2
 ·exact .inl h2
 ·by_cases h3:d.vKind=3
  ·exact .inr h3
  ·exact absurd (by simp [h2,h3]) hn
theorem size_app (a b:ByteArray):(a++b).size=a.size+b.size:=ByteArray.size_append
theorem text_one {t : api_Types} {l : List Int} (W : Wf t l) : ∀ (m i : Nat), m ≤ 1000 → i < t.vDefs.length → lostS t.vDefs m (t.vDefs.getD i z_api_Def) = false →
    ∃s,Ev (fun k=>ctf_text.f k t (i:Int)) s∧s.size≤31+8*m:=by
  have base:∀(m i:Nat),i<t.vDefs.length→namedS (t.vDefs.getD i z_api_Def)=true→∃s,Ev (fun k=>ctf_text.f k t (i:Int)) s∧s.size≤31+8*m:=by
    intro m i hi hn
    have hm:=getD_mem (z:=z_api_Def) hi
    have hsz:=name_len (name_of (shaped_mem _ _ W.defs _ hm) hn)
    have h2:¬((t.vDefs.getD i z_api_Def).vKind==2)=true:=by unfold namedS at hn;simp only [Bool.and_eq_true,bne_iff_ne,ne_eq] at hn;simpa using hn.1
    have h3:¬((t.vDefs.getD i z_api_Def).vKind==3)=true:=by unfold namedS at hn;simp only [Bool.and_eq_true,bne_iff_ne,ne_eq] at hn;simpa using hn.2
    refine ⟨(t.vDefs.getD i z_api_Def).vName,Ev.succ (Ev.pure fun k=>?_),by omega⟩
    rw [ctf_text.f,if_pos (by omega),rd_nat,if_neg h2,if_neg h3]
  intro m
  induction m with
  | zero =>
    intro i _ hi h
    simp only [lostS,Bool.not_eq_false'] at h
    exact base 0 i hi h
  | succ m ih =>
    intro i hm1 hi h
    simp only [lostS] at h
    by_cases hn:namedS (t.vDefs.getD i z_api_Def)=true
    · exact base (m+1) i hi hn
    · rw [if_neg hn] at h
      have hm:=getD_mem (z:=z_api_Def) hi
      have hk:=anon_kind hn
      have hr:=(W.sh _ hm).ref (by omega)
      obtain ⟨q,hq⟩:∃q:Nat,(t.vDefs.getD i z_api_Def).vRef=(q:Int):=⟨(t.vDefs.getD i z_api_Def).vRef.toNat,by omega⟩
      rw [hq,rd_nat] at h
      rw [hq] at hr
      obtain ⟨s,⟨K1,h1⟩,h3⟩:=ih q (by omega) (by omega) h
      have e2:ByteArray.size (⟨#[32,42]⟩:ByteArray)=2:=rfl
      have e3:ByteArray.size (⟨#[32,91]⟩:ByteArray)=2:=rfl
      have e1:ByteArray.size (⟨#[93]⟩:ByteArray)=1:=rfl
      by_cases hk2:(t.vDefs.getD i z_api_Def).vKind=2
      · refine ⟨s++(⟨#[32,42]⟩:ByteArray),⟨K1+1,fun k hk=>?_⟩,by rw [size_app,e2];omega⟩
        · obtain ⟨k,rfl⟩:∃q,k=q+1:=⟨k-1,by omega⟩
          show ctf_text.f (k+1) t (i:Int)=_
          rw [ctf_text.f,if_pos (by omega),rd_nat,if_pos (beqT hk2),hq,show ctf_text.f k t (q:Int)=_ from h1 k (by omega)]
          simp only [Option.bind_some]
          rw [if_pos (by rw [e2];omega)]
      · have hk3:(t.vDefs.getD i z_api_Def).vKind=3:=by omega
        have hN:=(W.sh _ hm).num (.inl hk3)
        obtain ⟨dg,hd1,hd3⟩:=dig_one hN.1 hN.2
        refine ⟨((s++(⟨#[32,91]⟩:ByteArray))++dg)++(⟨#[93]⟩:ByteArray),⟨K1+1,fun k hk=>?_⟩,by rw [size_app,size_app,size_app,e3,e1];omega⟩
        · obtain ⟨k,rfl⟩:∃q,k=q+1:=⟨k-1,by omega⟩
          show ctf_text.f (k+1) t (i:Int)=_
          rw [ctf_text.f,if_pos (by omega),rd_nat,if_neg (beqF hk2),if_pos (beqT hk3),hq,show ctf_text.f k t (q:Int)=_ from h1 k (by omega)]
          simp only [Option.bind_some]
          rw [if_pos (by rw [e3];omega),hd1]
          simp only [Option.bind_some]
          rw [if_pos (by rw [size_app,e3];omega),if_pos (by rw [size_app,size_app,e3,e1];omega)]
section
variable {t:api_Types} {l:List Int}
def nameQ (name:ByteArray) (d:api_Def):Bool:=namedS d&&strEq d.vName name
def findV (t:api_Types) (name:ByteArray):Int:=if t.vDefs.any (nameQ name)=true then ((t.vDefs.findIdx (nameQ name):Nat):Int) else-1
theorem find_ev (hn:t.vDefs.length≤200) (name:ByteArray):Ev (fun k=>ctf_find.f k t name) (findV t name):=by
 refine ⟨t.vDefs.length+1,fun k hk=>?_⟩
 show ctf_find.f k t name=_
 unfold ctf_find.f slices_IndexFunc_api_Def_api_Def.f findV
 have:=index_loop (l:=t.vDefs) (p:=fun z0=>ctf_find_1.f z0 name) (q:=nameQ name) (fun z hz=>rfl) (by omega) t.vDefs.length 0 k (by omega) (by omega)
 rw [show slices_IndexFunc_api_Def_api_Def.l0 t.vDefs _ k 0=_ from this,List.drop_zero]
 cases t.vDefs.any (nameQ name)<;>simp
end
def dAt (t:api_Types) (i:Nat):api_Def:=t.vDefs.getD i z_api_Def
noncomputable def tx (t:api_Types) (i:Nat):ByteArray:=by
 classical exact if h:∃s,Ev (fun k=>ctf_text.f k t (i:Int)) s then Classical.choose h else ByteArray.empty
def dg (n:Int):ByteArray:=(strconv_Itoa.f n).getD ByteArray.empty
section
variable {t u:api_Types} {l m:List Int}
theorem tx_of {i:Nat} {s:ByteArray} (h:Ev (fun k=>ctf_text.f k t (i:Int)) s):tx t i=s:=by
 have hx:∃s,Ev (fun k=>ctf_text.f k t (i:Int)) s:=⟨s,h⟩
 unfold tx
 rw [dif_pos hx]
 exact (Classical.choose_spec hx).uniq h
theorem rd_dAt (i:Nat):rd z_api_Def t.vDefs (i:Int)=dAt t i:=rd_nat i
theorem dAt_mem {i:Nat} (hi:i<t.vDefs.length):dAt t i∈t.vDefs:=getD_mem hi
theorem text_ev (W:Wf t l) {i:Nat} (hi:i<t.vDefs.length):Ev (fun k=>ctf_text.f k t (i:Int)) (tx t i)∧(tx t i).size≤2000:=by
 obtain ⟨s,h1,h3⟩:=text_one W t.vDefs.length i (by have:=W.few;omega) hi (W.ends _ (getD_mem hi))
 rw [tx_of h1]
 exact ⟨h1,by have:=W.few;omega⟩
theorem named_iff (d:api_Def):namedS d=true↔d.vKind≠2∧d.vKind≠3:=by
 unfold namedS;simp [bne_iff_ne]
theorem ref_lt (W:Wf t l) {i:Nat} (hi:i<t.vDefs.length) (hk:(dAt t i).vKind=2∨(dAt t i).vKind=3∨(dAt t i).vKind=6):(dAt t i).vRef=(((dAt t i).vRef.toNat:Nat):Int)∧(dAt t i).vRef.toNat<t.vDefs.length:=by
 have:=(W.sh _ (dAt_mem hi)).ref hk
 omega
def bs (s:ByteArray):List UInt8:=s.data.toList
theorem defs_names {n : Nat} : ∀ (ns : List ByteArray) (l : List api_Def), defsS n ns l = true → (∀ d ∈ l, namedS d = true → d.vName ∉ ns) ∧ ∀ i j, i < j → j < l.length → namedS (l.getD j z_api_Def) = true → (l.getD i z_api_Def).vName ≠ (l.getD j z_api_Def).vName
  |ns,[],_=>⟨by simp,fun i j _ h=>by simp at h⟩
  | ns, d :: r, h => by
    simp only [defsS,Bool.and_eq_true,Bool.not_eq_true'] at h
    obtain ⟨⟨h1,h2⟩,h3⟩:=h
    obtain ⟨h4,h5⟩:=defs_names _ r h3
    refine ⟨fun x hx hn hm=>?_,fun i j hij hj hn=>?_⟩
    · rcases List.mem_cons.1 hx with rfl|hx
      · rw [hn,Bool.true_and] at h2
        exact absurd (strEq_iff.2 rfl) (List.any_eq_false.1 h2 _ hm)
      · exact h4 x hx hn (List.mem_cons_of_mem _ hm)
    · obtain ⟨j,rfl⟩:∃q,j=q+1:=⟨j-1,by omega⟩
      rw [List.getD_cons_succ] at hn⊢
      cases i with
      | zero =>
        rw [List.getD_cons_zero]
        intro e
        exact h4 _ (getD_mem (by simpa using hj)) hn (by rw [←e];exact List.mem_cons_self)
      | succ i =>
        rw [List.getD_cons_succ]
        exact h5 i j (by omega) (by simpa using hj) hn
theorem name_uniq (W:Wf t l) {i j:Nat} (hi:i<t.vDefs.length) (hj:j<t.vDefs.length) (h1:namedS (dAt t i)=true) (h2:namedS (dAt t j)=true) (h:(dAt t i).vName=(dAt t j).vName):i=j:=by
 have:=(defs_names _ _ W.defs).2
 rcases Nat.lt_trichotomy i j with hlt|he|hlt
 ·exact absurd h (this i j hlt hj h2)
 ·exact he
 ·exact absurd h.symm (this j i hlt hi h1)
end
def ctf_reached_1.l0 (rec:Int→(List (Int×Bool))→(List api_Def)→Option ((List (Int×Bool)))) (a0:Int) (x1:List api_Def):Nat→Int→(List (Int×Bool))→Option ((List (Int×Bool)))
 |0,_,_=>none
 |m+1,y1_0,y1_1=>if (decide (y1_0<(((rd z_api_Def x1 a0).vFields).length:Int)))=true then (if 0≤y1_0∧y1_0<((rd z_api_Def x1 a0).vFields).length then ((rec ((rd z_api_Field ((rd z_api_Def x1 a0).vFields) y1_0).vType) y1_1 x1).bind fun v3=>(ctf_reached_1.l0 rec a0 x1 m (IntKind.wrap .i64 (y1_0+1)) v3)) else none) else (some y1_1)
def ctf_reached_1.f:Nat→Int→(List (Int×Bool))→(List api_Def)→Option ((List (Int×Bool)))
 |0,_,_,_=>none
 |k+1,a0,x0,x1=>if ((mfind ieq x0 a0).getD false)=true then (some x0) else (if 0≤a0∧a0<x1.length then ((ctf_shapes.f).bind fun v1=>(((if ((mfind ieq v1 ((rd z_api_Def x1 a0).vKind)).getD z_ctf_shape).vref=true then ((ctf_reached_1.f k ((rd z_api_Def x1 a0).vRef) (mput ieq x0 a0 true) x1).bind fun v2=>(some v2)) else (some (mput ieq x0 a0 true))):Option ((List (Int×Bool)))).bind fun xx1=>(if ((rd z_api_Def x1 a0).vKind==4)=true then ((ctf_reached_1.l0 (ctf_reached_1.f k) a0 x1 k 0 xx1).bind fun xx2=>(some xx2)) else (some xx1)))) else none)
theorem ctf_reached_1.calls:∀(k:Nat) (a0:Int) (x0:List (Int×Bool)) (x1:List api_Def) (bx0:Nat) (mx0:Nat) (esx0:Array MapEntry) (clx0:Nat) (bx1:Nat) (Ax1:Option Addr) (cx1:Nat) (bx2:Nat) {h0:View} {w0:World} {h:View} {w:World} {rest:List Res} (HS:St [] h0 w0 h ((some bx0, .cells #[Value.map (some mx0)] 144 (0,0))::(some mx0, .map esx0 clx0)::(some bx1, .cells #[vL Ax1 x1.length cx1] 24 (0,0))::(some bx2, .cells #[Value.func (.func 115) #[] #[vP bx0 0,vP bx1 0,vP bx2 0]] 140 (0,0))::rest) w) (hox0:MapOk (vI) vB x0 esx0 clx0) (hrx1:Rd k_api_Def h Ax1 x1) (hcx1:x1.length≤cx1) {r:(List (Int×Bool))} (H:ctf_reached_1.f k a0 x0 x1=some r),Calls Tryd.prog 115 #[vI a0,vP bx0 0,vP bx1 0,vP bx2 0] w (fun e w1=>∃(esz_x0:Array MapEntry) (clz_x0:Nat),e= .returned (Value.tuple #[])∧MapOk (vI) vB r esz_x0 clz_x0∧St [] h0 w0 h ((some bx0, .cells #[Value.map (some mx0)] 144 (0,0))::(some mx0, .map esz_x0 clz_x0)::(some bx1, .cells #[vL Ax1 x1.length cx1] 24 (0,0))::(some bx2, .cells #[Value.func (.func 115) #[] #[vP bx0 0,vP bx1 0,vP bx2 0]] 140 (0,0))::rest) w1):=by
 intro k
 induction k with
 |zero=>
  intros
  rename_i H
  exact absurd H (by simp [ctf_reached_1.f])
 |succ k ih=>
  intro a0 x0 x1 bx0 mx0 esx0 clx0 bx1 Ax1 cx1 bx2 h0 w0 h w rest HS hox0 hrx1 hcx1 r H
  rw [ctf_reached_1.f] at H
  have hsub:Sub h h:=Sub.rfl' h
  go_enter Tryd.func115,Tryd.ntmps115
  refine wp_seq<|wp_seq<|region<|rs (Value.map (some mx0)) (r_loadBox rfl Tryd.isAgg144 (HS.look 0 rfl) rfl)<|rs (vI a0) (r_move rfl)<|rs (vB ((mfind ieq x0 a0).getD false)) (r_mget (key_int Tryd.runUnderlying3) (k:=a0) (m:=x0) (ev:=vB) false rfl rfl Tryd.runUnderlying144 Tryd.zeroValue4 (HS.look 1 rfl) hox0) ?_
  try simp only [sc0,sc1]
  refine run_nil<|norm_then<|wp_cond_split (t:=((mfind ieq x0 a0).getD false)) rfl (fun c1=>?_) (fun c1=>?_)
  ·replace H:=of_pos H c1
   refine wp_ret<|ret_then ?_
   obtain rfl:=Option.some.inj H
   exact bodyPost_ret (results_none rfl _ _ _) rfl<|⟨esx0,clx0,rfl,hox0,HS⟩
  ·replace H:=of_neg H (nt c1)
   refine wp_skip<|norm_then<|wp_seq<|region<|rs (Value.map (some mx0)) (r_loadBox rfl Tryd.isAgg144 (HS.look 0 rfl) rfl)<|rs (vI a0) (r_move rfl)<|mupd (key_int Tryd.runUnderlying3) (i:=1) (k:=a0) (v:=true) (ev:=vB) (m:=x0) (by first|exact .inl rfl|exact .inr rfl) rfl rfl rfl rfl rfl Tryd.runUnderlying144 HS rfl hox0 ?_
   intro w1 es1 cl1 HS1 ho1
   try simp only [sc0,sc1]
   refine run_nil<|norm_then<|wp_seq<|region<|rs (vP bx1 0) (r_fieldBox (n:=1) (o':=0) rfl Tryd.runUnderlying24 rfl Tryd.sizeOf22 (by decide) rfl)<|rs (vL Ax1 x1.length cx1) (r_loadBox rfl Tryd.isAgg22 (HS1.look 2 rfl) rfl)<|rs (vI a0) (r_move rfl) ?_
   obtain ⟨hi1,H⟩:=of_ite H
   obtain ⟨ad1,Aad1_6,cad1_6,e1,hel1,hcad1_6,hrad1_6⟩:=ld_api_Def hrx1 hi1.1 hi1.2
   refine rs (Value.pointer (some (Addr.add ad1 (a0.toNat*7)))) (r_indexA (sz:=7) rfl e1 rfl hi1.1 hi1.2 Tryd.runUnderlying22 Tryd.sizeOf34)<|run_frame (by simp only [sc0,sc1];rfl) ?_
   refine rs (Value.agg #[vI ((rd z_api_Def x1 a0).vKind),vS ((rd z_api_Def x1 a0).vName),vI ((rd z_api_Def x1 a0).vInt.vSize),vB ((rd z_api_Def x1 a0).vInt.vSigned),vI ((rd z_api_Def x1 a0).vRef),vI ((rd z_api_Def x1 a0).vN),vL Aad1_6 ((rd z_api_Def x1 a0).vFields).length cad1_6]) (r_loadAgg rfl Tryd.isAgg34 (hel1.sees HS1.sees) Tryd.sizeOf34)<|run_ex rfl rfl (does_alloc (cs:=#[vI 0,vS ByteArray.empty,vI 0,vB false,vI 0,vI 0,vL none 0 0]) Tryd.zeroValue34 rfl) ?_
   rintro w2 _ hE1 ⟨b1,rfl,ge1,hb1⟩
   have HS2:=HS1.new hE1 ge1 hb1
   refine run_st (i:=0) (cs:=[vI 0,vS ByteArray.empty,vI 0,vB false,vI 0,vI 0,vL none 0 0]) (cs':=[vI ((rd z_api_Def x1 a0).vKind),vS ((rd z_api_Def x1 a0).vName),vI ((rd z_api_Def x1 a0).vInt.vSize),vB ((rd z_api_Def x1 a0).vInt.vSigned),vI ((rd z_api_Def x1 a0).vRef),vI ((rd z_api_Def x1 a0).vN),vL Aad1_6 ((rd z_api_Def x1 a0).vFields).length cad1_6]) (vs:=[vI ((rd z_api_Def x1 a0).vKind),vS ((rd z_api_Def x1 a0).vName),vI ((rd z_api_Def x1 a0).vInt.vSize),vB ((rd z_api_Def x1 a0).vInt.vSigned),vI ((rd z_api_Def x1 a0).vRef),vI ((rd z_api_Def x1 a0).vN),vL Aad1_6 ((rd z_api_Def x1 a0).vFields).length cad1_6]) (bs':=((some b1, .cells #[vI ((rd z_api_Def x1 a0).vKind),vS ((rd z_api_Def x1 a0).vName),vI ((rd z_api_Def x1 a0).vInt.vSize),vB ((rd z_api_Def x1 a0).vInt.vSigned),vI ((rd z_api_Def x1 a0).vRef),vI ((rd z_api_Def x1 a0).vN),vL Aad1_6 ((rd z_api_Def x1 a0).vFields).length cad1_6] 34 (0,0))::(some bx0, .cells #[Value.map (some mx0)] 144 (0,0))::(some mx0, .map es1 cl1)::(some bx1, .cells #[vL Ax1 x1.length cx1] 24 (0,0))::(some bx2, .cells #[Value.func (.func 115) #[] #[vP bx0 0,vP bx1 0,vP bx2 0]] 140 (0,0))::rest)) rfl rfl Tryd.sizeOf34 rfl rfl (by decide) rfl HS2 rfl (Nat.le_of_ble_eq_true rfl) rfl rfl ?_
   intro w3 HS3
   try simp only [sc0,sc1]
   refine run_nil<|norm_then<|wp_seq<|wp_seq ?_
   obtain ⟨v1,H1,H⟩:=of_bind H
   refine drawn [.ex (NewMap w3 (vI) e_ctf_shape v1), .eq (vP b1 0), .eq (vI ((rd z_api_Def x1 a0).vKind)), .eq (Value.agg #[vB (((mfind ieq v1 ((rd z_api_Def x1 a0).vKind)).getD z_ctf_shape).vname),vB (((mfind ieq v1 ((rd z_api_Def x1 a0).vKind)).getD z_ctf_shape).vint),vB (((mfind ieq v1 ((rd z_api_Def x1 a0).vKind)).getD z_ctf_shape).vref),vB (((mfind ieq v1 ((rd z_api_Def x1 a0).vKind)).getD z_ctf_shape).vn),vB (((mfind ieq v1 ((rd z_api_Def x1 a0).vKind)).getD z_ctf_shape).vfields)]), .eq (vB (((mfind ieq v1 ((rd z_api_Def x1 a0).vKind)).getD z_ctf_shape).vref))] [18,19,20,21,22] hmix (by kernel_rfl) rfl (stable_ex NewMap.stable (stable_eq (stable_eq (stable_eq (stable_eq stable_nil))))) ⟨ob_plain rfl (fun a' w' hE hk=>by have HSd:=HS3.step hE;exact does_call Tryd.call116 rfl (map_in hE (ctf_shapes.calls HSd.sees H1)) rfl),ob_plain rfl (fun a' w' hE hk=>by have HSd:=HS3.step hE;exact does_eq (r_fieldBox (n:=1) (o':=0) (show _=vP b1 0 from hk 5 rfl) Tryd.runUnderlying34 rfl Tryd.sizeOf3 (by decide) rfl)),ob_plain rfl (fun a' w' hE hk=>by have HSd:=HS3.step hE;exact does_eq (r_loadBox (show _=vP b1 0 from hk 19 rfl) Tryd.isAgg3 (HSd.look 0 rfl) rfl)),ob_plain rfl (fun a' w' hE hk=>by obtain ⟨_,_,_,e18,_,hb18,ho18⟩:=hk 18 rfl;have HSd:=HS3.step hE;exact does_eq (r_mget (key_int Tryd.runUnderlying3) (k:=((rd z_api_Def x1 a0).vKind)) (m:=v1) (ev:=e_ctf_shape) z_ctf_shape e18 (show _=vI ((rd z_api_Def x1 a0).vKind) from hk 20 rfl) Tryd.runUnderlying172 Tryd.zeroValue171 hb18 ho18)),ob_plain rfl (fun a' w' hE hk=>by have HSd:=HS3.step hE;exact does_eq (r_field (show _=Value.agg #[vB (((mfind ieq v1 ((rd z_api_Def x1 a0).vKind)).getD z_ctf_shape).vname),vB (((mfind ieq v1 ((rd z_api_Def x1 a0).vKind)).getD z_ctf_shape).vint),vB (((mfind ieq v1 ((rd z_api_Def x1 a0).vKind)).getD z_ctf_shape).vref),vB (((mfind ieq v1 ((rd z_api_Def x1 a0).vKind)).getD z_ctf_shape).vn),vB (((mfind ieq v1 ((rd z_api_Def x1 a0).vKind)).getD z_ctf_shape).vfields)] from hk 21 rfl) Tryd.runUnderlying171 rfl Tryd.isAgg4 rfl)),trivial⟩ ?_
   intro w4 hE2
   simp only [List.zip_cons_cons,List.zip_nil_left,List.zip_nil_right,finL,sc0,sc1,List.length_cons,List.length_nil,List.drop_succ_cons,List.drop_zero,Nat.zero_add,Nat.reduceAdd]
   rintro _ ⟨b2,es2,cl2,rfl,ge2,hb2,ho2⟩
   have HS4:=HS3.new hE2 ge2 hb2
   refine run_nil<|norm_then ?_
   obtain ⟨xx1,H,G1⟩:=of_bind H
   refine cut_patch [23,24,25,26] (fun us w'=>∃(esj1_0:Array MapEntry) (clj1_0:Nat),Fit us (fun uj1=>[(uj1 0),(uj1 1),(uj1 2),(uj1 3)])∧MapOk (vI) vB xx1 esj1_0 clj1_0∧St [] h0 w0 h ((some b2, .map es2 cl2)::(some b1, .cells #[vI ((rd z_api_Def x1 a0).vKind),vS ((rd z_api_Def x1 a0).vName),vI ((rd z_api_Def x1 a0).vInt.vSize),vB ((rd z_api_Def x1 a0).vInt.vSigned),vI ((rd z_api_Def x1 a0).vRef),vI ((rd z_api_Def x1 a0).vN),vL Aad1_6 ((rd z_api_Def x1 a0).vFields).length cad1_6] 34 (0,0))::(some bx0, .cells #[Value.map (some mx0)] 144 (0,0))::(some mx0, .map esj1_0 clj1_0)::(some bx1, .cells #[vL Ax1 x1.length cx1] 24 (0,0))::(some bx2, .cells #[Value.func (.func 115) #[] #[vP bx0 0,vP bx1 0,vP bx2 0]] 140 (0,0))::rest) w') ?_ ?_
   ·refine wp_cond_split (t:=((mfind ieq v1 ((rd z_api_Def x1 a0).vKind)).getD z_ctf_shape).vref) rfl (fun c2=>?_) (fun c2=>?_)
    ·replace H:=of_pos H c2
     refine region<|rs (Value.func (.func 115) #[] #[vP bx0 0,vP bx1 0,vP bx2 0]) (r_loadBox rfl Tryd.isAgg140 (HS4.look 5 rfl) rfl)<|rs (vP b1 4) (r_fieldBox (n:=1) (o':=4) rfl Tryd.runUnderlying34 rfl Tryd.sizeOf3 (by decide) rfl)<|rs (vI ((rd z_api_Def x1 a0).vRef)) (r_loadBox rfl Tryd.isAgg3 (HS4.look 1 rfl) rfl) ?_
     obtain ⟨v2,H2,H⟩:=of_bind H
     have HS5:=HS4.f5
     have HS6:=HS5.f5
     have HS7:=HS6.f5
     have HS8:=HS7.f5
     refine run_call (vs:=[vI ((rd z_api_Def x1 a0).vRef)]) (caps:=[vP bx0 0,vP bx1 0,vP bx2 0]) Tryd.call115 rfl rfl (ih ((rd z_api_Def x1 a0).vRef) (mput ieq x0 a0 true) x1 bx0 mx0 es1 cl1 bx1 Ax1 cx1 bx2 HS8 ho1 hrx1 hcx1 H2) ?_
     rintro _ w5 ⟨esv2_x0,clv2_x0,rfl,hov2_x0,HS9⟩
     refine ⟨_,rfl,?_⟩
     have HS10:=HS9.f3
     have HS11:=HS10.f3
     have HS12:=HS11.f3
     have HS13:=HS12.f3
     have HS14:=HS13.f5
     have HS15:=HS14.f5
     try simp only [sc0,sc1]
     refine run_nil ?_
     obtain rfl:=Option.some.inj H
     refine met_j rfl ⟨esv2_x0,clv2_x0,(fit rfl),hov2_x0,HS15⟩
    ·replace H:=of_neg H (nt c2)
     refine wp_skip ?_
     obtain rfl:=Option.some.inj H
     refine met_j rfl ⟨es1,cl1,(fit rfl),ho1,HS4⟩
   ·rintro us w6 ⟨esj1_0,clj1_0,huj1,hoj1_0,HS16⟩
    obtain ⟨uj1,rfl⟩:=unj huj1
    replace H:=G1
    clear G1
    try simp only [patch,sc0,sc1]
    refine wp_seq<|region<|rs (vP b1 0) (r_fieldBox (n:=1) (o':=0) rfl Tryd.runUnderlying34 rfl Tryd.sizeOf3 (by decide) rfl)<|rs (vI ((rd z_api_Def x1 a0).vKind)) (r_loadBox rfl Tryd.isAgg3 (HS16.look 1 rfl) rfl)<|rs (vB ((rd z_api_Def x1 a0).vKind==4)) (r_bin rfl rfl rfl) ?_
    try simp only [sc0,sc1]
    refine run_nil<|norm_then<|wp_cond_split (t:=((rd z_api_Def x1 a0).vKind==4)) rfl (fun c3=>?_) (fun c3=>?_)
    ·replace H:=of_pos H c3
     refine wp_seq<|region<|rs (vP b1 6) (r_fieldBox (n:=1) (o':=6) rfl Tryd.runUnderlying34 rfl Tryd.sizeOf32 (by decide) rfl)<|rs (vL Aad1_6 ((rd z_api_Def x1 a0).vFields).length cad1_6) (r_loadBox rfl Tryd.isAgg32 (HS16.look 1 rfl) rfl)<|rs (vI (((rd z_api_Def x1 a0).vFields).length:Int)) (r_len rfl Tryd.runUnderlying32)<|rs (vI 0) (r_move rfl) ?_
     try simp only [sc0,sc1]
     refine run_nil<|norm_then ?_
     obtain ⟨xx2,H,G2⟩:=of_bind H
     refine loop_j [7,33,34,35,36,37,38,39,40,41] (fun m us w'=>∃(y1_0:Int),∃(y1_1:List (Int×Bool)),∃(esy1_1:Array MapEntry) (cly1_1:Nat),Fit us (fun uy1=>[(uy1 0),vI y1_0,(uy1 2),(uy1 3),(uy1 4),(uy1 5),(uy1 6),(uy1 7),(uy1 8),(uy1 9)])∧ctf_reached_1.l0 (ctf_reached_1.f k) a0 x1 m y1_0 y1_1=some xx2∧MapOk (vI) vB y1_1 esy1_1 cly1_1∧St [] h0 w0 h ((some b2, .map es2 cl2)::(some b1, .cells #[vI ((rd z_api_Def x1 a0).vKind),vS ((rd z_api_Def x1 a0).vName),vI ((rd z_api_Def x1 a0).vInt.vSize),vB ((rd z_api_Def x1 a0).vInt.vSigned),vI ((rd z_api_Def x1 a0).vRef),vI ((rd z_api_Def x1 a0).vN),vL Aad1_6 ((rd z_api_Def x1 a0).vFields).length cad1_6] 34 (0,0))::(some bx0, .cells #[Value.map (some mx0)] 144 (0,0))::(some mx0, .map esy1_1 cly1_1)::(some bx1, .cells #[vL Ax1 x1.length cx1] 24 (0,0))::(some bx2, .cells #[Value.func (.func 115) #[] #[vP bx0 0,vP bx1 0,vP bx2 0]] 140 (0,0))::rest) w') (fun us w'=>∃(eso1_0:Array MapEntry) (clo1_0:Nat),Fit us (fun uo1=>[(uo1 0),(uo1 1),(uo1 2),(uo1 3),(uo1 4),(uo1 5),(uo1 6),(uo1 7),(uo1 8),(uo1 9)])∧MapOk (vI) vB xx2 eso1_0 clo1_0∧St [] h0 w0 h ((some b2, .map es2 cl2)::(some b1, .cells #[vI ((rd z_api_Def x1 a0).vKind),vS ((rd z_api_Def x1 a0).vName),vI ((rd z_api_Def x1 a0).vInt.vSize),vB ((rd z_api_Def x1 a0).vInt.vSigned),vI ((rd z_api_Def x1 a0).vRef),vI ((rd z_api_Def x1 a0).vN),vL Aad1_6 ((rd z_api_Def x1 a0).vFields).length cad1_6] 34 (0,0))::(some bx0, .cells #[Value.map (some mx0)] 144 (0,0))::(some mx0, .map eso1_0 clo1_0)::(some bx1, .cells #[vL Ax1 x1.length cx1] 24 (0,0))::(some bx2, .cells #[Value.func (.func 115) #[] #[vP bx0 0,vP bx1 0,vP bx2 0]] 140 (0,0))::rest) w') k ⟨0,xx1,esj1_0,clj1_0,(fit rfl),H,hoj1_0,HS16⟩ ?_ ?_
     ·rintro m us w7 ⟨y1_0,y1_1,esy1_1,cly1_1,huy1,H,hoy1_1,HS17⟩
      obtain ⟨uy1,rfl⟩:=unj huy1
      cases m with
      |zero=>exact absurd H (by simp [ctf_reached_1.l0])
      |succ m=>
       rw [ctf_reached_1.l0] at H
       try simp only [patch,sc0,sc1]
       refine wp_seq<|region<|rs (vB (decide (y1_0<(((rd z_api_Def x1 a0).vFields).length:Int)))) (r_bin rfl rfl rfl) ?_
       try simp only [sc0,sc1]
       refine run_nil<|norm_then<|wp_seq<|wp_cond_split (t:=(decide (y1_0<(((rd z_api_Def x1 a0).vFields).length:Int)))) rfl (fun c4=>?_) (fun c4=>?_)
       ·replace H:=of_pos H c4
        refine wp_skip<|norm_then<|wp_seq<|wp_block<|wp_seq<|region ?_
        obtain ⟨hi2,H⟩:=of_ite H
        obtain ⟨ad2,e2,hel2⟩:=ld_api_Field hrad1_6 hi2.1 hi2.2
        refine rs (Value.pointer (some (Addr.add ad2 (y1_0.toNat*3)))) (r_indexA (sz:=3) rfl e2 rfl hi2.1 hi2.2 Tryd.runUnderlying32 Tryd.sizeOf36)<|rs (Value.agg #[vS ((rd z_api_Field ((rd z_api_Def x1 a0).vFields) y1_0).vName),vI ((rd z_api_Field ((rd z_api_Def x1 a0).vFields) y1_0).vType),vI ((rd z_api_Field ((rd z_api_Def x1 a0).vFields) y1_0).vAt)]) (r_loadAgg rfl Tryd.isAgg36 (hel2.sees HS17.sees) Tryd.sizeOf36)<|run_ex rfl rfl (does_alloc (cs:=#[vS ByteArray.empty,vI 0,vI 0]) Tryd.zeroValue36 rfl) ?_
        rintro w8 _ hE3 ⟨b3,rfl,ge3,hb3⟩
        have HS18:=HS17.new hE3 ge3 hb3
        refine run_st (i:=0) (cs:=[vS ByteArray.empty,vI 0,vI 0]) (cs':=[vS ((rd z_api_Field ((rd z_api_Def x1 a0).vFields) y1_0).vName),vI ((rd z_api_Field ((rd z_api_Def x1 a0).vFields) y1_0).vType),vI ((rd z_api_Field ((rd z_api_Def x1 a0).vFields) y1_0).vAt)]) (vs:=[vS ((rd z_api_Field ((rd z_api_Def x1 a0).vFields) y1_0).vName),vI ((rd z_api_Field ((rd z_api_Def x1 a0).vFields) y1_0).vType),vI ((rd z_api_Field ((rd z_api_Def x1 a0).vFields) y1_0).vAt)]) (bs':=((some b3, .cells #[vS ((rd z_api_Field ((rd z_api_Def x1 a0).vFields) y1_0).vName),vI ((rd z_api_Field ((rd z_api_Def x1 a0).vFields) y1_0).vType),vI ((rd z_api_Field ((rd z_api_Def x1 a0).vFields) y1_0).vAt)] 36 (0,0))::(some b2, .map es2 cl2)::(some b1, .cells #[vI ((rd z_api_Def x1 a0).vKind),vS ((rd z_api_Def x1 a0).vName),vI ((rd z_api_Def x1 a0).vInt.vSize),vB ((rd z_api_Def x1 a0).vInt.vSigned),vI ((rd z_api_Def x1 a0).vRef),vI ((rd z_api_Def x1 a0).vN),vL Aad1_6 ((rd z_api_Def x1 a0).vFields).length cad1_6] 34 (0,0))::(some bx0, .cells #[Value.map (some mx0)] 144 (0,0))::(some mx0, .map esy1_1 cly1_1)::(some bx1, .cells #[vL Ax1 x1.length cx1] 24 (0,0))::(some bx2, .cells #[Value.func (.func 115) #[] #[vP bx0 0,vP bx1 0,vP bx2 0]] 140 (0,0))::rest)) rfl rfl Tryd.sizeOf36 rfl rfl (by decide) rfl HS18 rfl (Nat.le_of_ble_eq_true rfl) rfl rfl ?_
        intro w9 HS19
        try simp only [sc0,sc1]
        refine run_nil<|norm_then<|region<|rs (Value.func (.func 115) #[] #[vP bx0 0,vP bx1 0,vP bx2 0]) (r_loadBox rfl Tryd.isAgg140 (HS19.look 6 rfl) rfl)<|rs (vP b3 1) (r_fieldBox (n:=1) (o':=1) rfl Tryd.runUnderlying36 rfl Tryd.sizeOf3 (by decide) rfl)<|rs (vI ((rd z_api_Field ((rd z_api_Def x1 a0).vFields) y1_0).vType)) (r_loadBox rfl Tryd.isAgg3 (HS19.look 0 rfl) rfl) ?_
        obtain ⟨v3,H3,H⟩:=of_bind H
        have HS20:=HS19.f6
        have HS21:=HS20.f6
        have HS22:=HS21.f6
        have HS23:=HS22.f6
        refine run_call (vs:=[vI ((rd z_api_Field ((rd z_api_Def x1 a0).vFields) y1_0).vType)]) (caps:=[vP bx0 0,vP bx1 0,vP bx2 0]) Tryd.call115 rfl rfl (ih ((rd z_api_Field ((rd z_api_Def x1 a0).vFields) y1_0).vType) y1_1 x1 bx0 mx0 esy1_1 cly1_1 bx1 Ax1 cx1 bx2 HS23 hoy1_1 hrx1 hcx1 H3) ?_
        rintro _ w10 ⟨esv3_x0,clv3_x0,rfl,hov3_x0,HS24⟩
        refine ⟨_,rfl,?_⟩
        have HS25:=HS24.f3
        have HS26:=HS25.f3
        have HS27:=HS26.f3
        have HS28:=HS27.f3
        have HS29:=HS28.f6
        have HS30:=HS29.f6
        have HS31:=HS30.f6
        try simp only [sc0,sc1]
        refine run_nil<|norm_block<|norm_then<|region<|rs (vI (w64 (y1_0+1))) (r_bin rfl rfl rfl)<|rs (vI (w64 (y1_0+1))) (r_move rfl) ?_
        try simp only [sc0,sc1]
        refine run_nil<|again_j m (Nat.lt_succ_self m) rfl ⟨(w64 (y1_0+1)),v3,esv3_x0,clv3_x0,(fit rfl),H,hov3_x0,HS31.tail⟩
       ·replace H:=of_neg H (nt c4)
        refine wp_exit<|exit_then ?_
        obtain rfl:=Option.some.inj H
        refine leave_j rfl ⟨esy1_1,cly1_1,(fit rfl),hoy1_1,HS17⟩
     ·rintro us w11 ⟨eso1_0,clo1_0,huo1,hoo1_0,HS32⟩
      obtain ⟨uo1,rfl⟩:=unj huo1
      replace H:=G2
      clear G2
      try simp only [patch,sc0,sc1]
      obtain rfl:=Option.some.inj H
      refine bodyPost_end (results_none rfl _ _ _) rfl ?_
      have HS33:=HS32.d1
      have HS34:=HS33.d0
      exact ⟨eso1_0,clo1_0,rfl,hoo1_0,HS34⟩
    ·replace H:=of_neg H (nt c3)
     refine wp_skip ?_
     obtain rfl:=Option.some.inj H
     refine bodyPost_end (results_none rfl _ _ _) rfl ?_
     have HS35:=HS16.d1
     have HS36:=HS35.d0
     exact ⟨esj1_0,clj1_0,rfl,hoj1_0,HS36⟩
def ctf_reached.l0 (k:Nat) (a0:api_Types) (a1:List Int):Nat→Int→(List (Int×Bool))→Option ((List (Int×Bool)))
 |0,_,_=>none
 |m+1,y1_0,y1_1=>if (decide (y1_0<(a1.length:Int)))=true then (if 0≤y1_0∧y1_0<a1.length then ((ctf_reached_1.f k (rd 0 a1 y1_0) y1_1 a0.vDefs).bind fun v1=>(ctf_reached.l0 k a0 a1 m (IntKind.wrap .i64 (y1_0+1)) v1)) else none) else (some y1_1)
def ctf_reached.f (k:Nat) (a0:api_Types) (a1:List Int):Option ((List (Int×Bool))):=(ctf_reached.l0 k a0 a1 k 0 ([]:List (Int×Bool))).bind fun xx1=>(some xx1)
theorem ctf_reached.calls (k:Nat) (a0:api_Types) (a1:List Int) (A0_0:Option Addr) (c0_0:Nat) (A1_0:Option Addr) (c1_0:Nat) {h0:View} {w0:World} (hv:Sees h0 w0) (hr0_0:Rd k_api_Def h0 A0_0 a0.vDefs) (hc0_0:a0.vDefs.length≤c0_0) (hr1_0:Rd (Kd.int .i64) h0 A1_0 a1) (hc1_0:a1.length≤c1_0) {r:(List (Int×Bool))} (H:ctf_reached.f k a0 a1=some r):Calls Tryd.prog 84 #[Value.agg #[vL A0_0 a0.vDefs.length c0_0],vL A1_0 a1.length c1_0] w0 (fun e w1=>∃(b:Nat) (es:Array MapEntry) (cl:Nat),e= .returned (.map (some b))∧(w0.heap.size≤b∧w1.heap[b]?=some (.map es cl))∧MapOk (vI) vB r es cl∧Ext w0 w1):=by
 unfold ctf_reached.f at H
 have HS:St [] h0 w0 h0 [] w0:=St.init hv
 go_enter Tryd.func84,Tryd.ntmps84
 refine wp_seq<|region<|run_ex rfl rfl (does_box (cs:=#[vL A0_0 a0.vDefs.length c0_0]) rfl rfl) ?_
 rintro w1 _ hE1 ⟨b1,rfl,ge1,hb1⟩
 have HS1:=HS.new hE1 ge1 hb1
 refine rs (Value.map none) (r_assign rfl) ?_
 try simp only [sc0,sc1]
 refine run_nil<|norm_then<|wp_seq<|region<|run_mkmap HS1 ?_
 intro w2 b2 HS2
 refine run_ex rfl rfl (does_alloc (cs:=#[Value.map none]) Tryd.zeroValue144 rfl) ?_
 rintro w3 _ hE2 ⟨b3,rfl,ge2,hb2⟩
 have HS3:=HS2.new hE2 ge2 hb2
 refine run_st (i:=0) (cs:=[Value.map none]) (cs':=[Value.map (some b2)]) (vs:=[Value.map (some b2)]) (bs':=[(some b3, .cells #[Value.map (some b2)] 144 (0,0)),(some b2, .map #[] 0),(some b1, .cells #[vL A0_0 a0.vDefs.length c0_0] 24 (0,0))]) rfl rfl Tryd.sizeOf144 rfl rfl (by decide) rfl HS3 rfl (Nat.le_of_ble_eq_true rfl) rfl rfl ?_
 intro w4 HS4
 try simp only [sc0,sc1]
 refine run_nil<|norm_then<|wp_seq<|region<|run_ex rfl rfl (does_alloc (cs:=#[Value.nilFunc]) Tryd.zeroValue140 rfl) ?_
 rintro w5 _ hE3 ⟨b4,rfl,ge3,hb3⟩
 have HS5:=HS4.new hE3 ge3 hb3
 try simp only [sc0,sc1]
 refine run_nil<|norm_then<|wp_seq<|region<|rs (Value.func (.func 115) #[] #[vP b3 0,vP b1 0,vP b4 0]) (r_makeFunc (vs:=[vP b3 0,vP b1 0,vP b4 0]) rfl)<|run_st (i:=0) (cs:=[Value.nilFunc]) (cs':=[Value.func (.func 115) #[] #[vP b3 0,vP b1 0,vP b4 0]]) (vs:=[Value.func (.func 115) #[] #[vP b3 0,vP b1 0,vP b4 0]]) (bs':=[(some b4, .cells #[Value.func (.func 115) #[] #[vP b3 0,vP b1 0,vP b4 0]] 140 (0,0)),(some b3, .cells #[Value.map (some b2)] 144 (0,0)),(some b2, .map #[] 0),(some b1, .cells #[vL A0_0 a0.vDefs.length c0_0] 24 (0,0))]) rfl rfl Tryd.sizeOf140 rfl rfl (by decide) rfl HS5 rfl (Nat.le_of_ble_eq_true rfl) rfl rfl ?_
 intro w6 HS6
 try simp only [sc0,sc1]
 refine run_nil<|norm_then<|wp_seq<|wp_seq<|region<|rs (vL A1_0 a1.length c1_0) (r_move rfl)<|rs (vI (a1.length:Int)) (r_len rfl Tryd.runUnderlying62)<|rs (vI 0) (r_move rfl) ?_
 try simp only [sc0,sc1]
 refine run_nil<|norm_then ?_
 obtain ⟨xx1,H,G1⟩:=of_bind H
 refine loop_j [8,13,14,15,16,17,18,19,20] (fun m us w'=>∃(y1_0:Int),∃(y1_1:List (Int×Bool)),∃(esy1_1:Array MapEntry) (cly1_1:Nat),Fit us (fun uy1=>[(uy1 0),vI y1_0,(uy1 2),(uy1 3),(uy1 4),(uy1 5),(uy1 6),(uy1 7),(uy1 8)])∧ctf_reached.l0 k a0 a1 m y1_0 y1_1=some xx1∧MapOk (vI) vB y1_1 esy1_1 cly1_1∧St [] h0 w0 h0 [(some b4, .cells #[Value.func (.func 115) #[] #[vP b3 0,vP b1 0,vP b4 0]] 140 (0,0)),(some b3, .cells #[Value.map (some b2)] 144 (0,0)),(some b2, .map esy1_1 cly1_1),(some b1, .cells #[vL A0_0 a0.vDefs.length c0_0] 24 (0,0))] w') (fun us w'=>∃(eso1_0:Array MapEntry) (clo1_0:Nat),Fit us (fun uo1=>[(uo1 0),(uo1 1),(uo1 2),(uo1 3),(uo1 4),(uo1 5),(uo1 6),(uo1 7),(uo1 8)])∧MapOk (vI) vB xx1 eso1_0 clo1_0∧St [] h0 w0 h0 [(some b4, .cells #[Value.func (.func 115) #[] #[vP b3 0,vP b1 0,vP b4 0]] 140 (0,0)),(some b3, .cells #[Value.map (some b2)] 144 (0,0)),(some b2, .map eso1_0 clo1_0),(some b1, .cells #[vL A0_0 a0.vDefs.length c0_0] 24 (0,0))] w') k ⟨0,([]:List (Int×Bool)),#[],0,(fit rfl),H,(MapOk.nil),HS6⟩ ?_ ?_
 ·rintro m us w7 ⟨y1_0,y1_1,esy1_1,cly1_1,huy1,H,hoy1_1,HS7⟩
  obtain ⟨uy1,rfl⟩:=unj huy1
  cases m with
  |zero=>exact absurd H (by simp [ctf_reached.l0])
  |succ m=>
   rw [ctf_reached.l0] at H
   try simp only [patch,sc0,sc1]
   refine wp_seq<|region<|rs (vB (decide (y1_0<(a1.length:Int)))) (r_bin rfl rfl rfl) ?_
   try simp only [sc0,sc1]
   refine run_nil<|norm_then<|wp_seq<|wp_cond_split (t:=(decide (y1_0<(a1.length:Int)))) rfl (fun c1=>?_) (fun c1=>?_)
   ·replace H:=of_pos H c1
    refine wp_skip<|norm_then<|wp_seq<|wp_block<|wp_seq<|region ?_
    obtain ⟨hi1,H⟩:=of_ite H
    obtain ⟨ad1,e1,hel1⟩:=ld_int hr1_0 hi1.1 hi1.2
    refine rs (Value.pointer (some (Addr.add ad1 (y1_0.toNat*1)))) (r_indexA (sz:=1) rfl e1 rfl hi1.1 hi1.2 Tryd.runUnderlying62 Tryd.sizeOf3)<|rs (vI (rd 0 a1 y1_0)) (r_load rfl Tryd.isAgg3 (hel1.cell0 HS7.sees rfl))<|rs (vI (rd 0 a1 y1_0)) (r_assign rfl) ?_
    try simp only [sc0,sc1]
    refine run_nil<|norm_then<|region<|rs (Value.func (.func 115) #[] #[vP b3 0,vP b1 0,vP b4 0]) (r_loadBox rfl Tryd.isAgg140 (HS7.look 0 rfl) rfl)<|rs (vI (rd 0 a1 y1_0)) (r_move rfl) ?_
    obtain ⟨v1,H1,H⟩:=of_bind H
    have HS8:=HS7.f3
    have HS9:=HS8.f3
    have HS10:=HS9.f3
    refine run_call (vs:=[vI (rd 0 a1 y1_0)]) (caps:=[vP b3 0,vP b1 0,vP b4 0]) Tryd.call115 rfl rfl (ctf_reached_1.calls k (rd 0 a1 y1_0) y1_1 a0.vDefs b3 b2 esy1_1 cly1_1 b1 A0_0 c0_0 b4 HS10 hoy1_1 hr0_0 hc0_0 H1) ?_
    rintro _ w8 ⟨esv1_x0,clv1_x0,rfl,hov1_x0,HS11⟩
    refine ⟨_,rfl,?_⟩
    have HS12:=HS11.f2
    have HS13:=HS12.f2
    have HS14:=HS13.f2
    have HS15:=HS14.f3
    try simp only [sc0,sc1]
    refine run_nil<|norm_block<|norm_then<|region<|rs (vI (w64 (y1_0+1))) (r_bin rfl rfl rfl)<|rs (vI (w64 (y1_0+1))) (r_move rfl) ?_
    try simp only [sc0,sc1]
    refine run_nil<|again_j m (Nat.lt_succ_self m) rfl ⟨(w64 (y1_0+1)),v1,esv1_x0,clv1_x0,(fit rfl),H,hov1_x0,HS15⟩
   ·replace H:=of_neg H (nt c1)
    refine wp_exit<|exit_then ?_
    obtain rfl:=Option.some.inj H
    refine leave_j rfl ⟨esy1_1,cly1_1,(fit rfl),hoy1_1,HS7⟩
 ·rintro us w9 ⟨eso1_0,clo1_0,huo1,hoo1_0,HS16⟩
  obtain ⟨uo1,rfl⟩:=unj huo1
  replace H:=G1
  clear G1
  try simp only [patch,sc0,sc1]
  refine norm_then<|wp_seq<|region<|rs (Value.map (some b2)) (r_loadBox rfl Tryd.isAgg144 (HS16.look 1 rfl) rfl)<|rs (Value.map (some b2)) (r_assign rfl) ?_
  try simp only [sc0,sc1]
  refine run_nil<|norm_then<|wp_ret ?_
  obtain rfl:=Option.some.inj H
  exact bodyPost_ret (results_1 rfl (one_tmp rfl)) rfl<|⟨b2,eso1_0,clo1_0,rfl,HS16.fresh 2 rfl,hoo1_0,HS16.toE⟩
def kids (d:api_Def):List Int:=if d.vKind=2∨d.vKind=3∨d.vKind=6 then [d.vRef] else if d.vKind=4 then d.vFields.map (·.vType) else []
inductive Rch (t:api_Types) (i:Nat):Nat→Prop
 |refl:Rch t i i
 |step {k:Nat} {c:Int} (h:Rch t i k) (hc:c∈kids (dAt t k)):Rch t i c.toNat
theorem kids_ref {d:api_Def} (h:d.vKind=2∨d.vKind=3∨d.vKind=6):kids d=[d.vRef]:=by unfold kids;rw [if_pos h]
theorem kids_struct {d:api_Def} (h:d.vKind=4):kids d=d.vFields.map (·.vType):=by unfold kids;rw [if_neg (by omega),if_pos h]
theorem kids_none {d:api_Def} (h:¬(d.vKind=2∨d.vKind=3∨d.vKind=6)) (h4:d.vKind≠4):kids d=[]:=by unfold kids;rw [if_neg h,if_neg h4]
section
variable {t:api_Types} {l:List Int}
theorem kids_range (W:Wf t l) {i:Nat} (hi:i<t.vDefs.length) {c:Int} (hc:c∈kids (dAt t i)):c=((c.toNat:Nat):Int)∧c.toNat<t.vDefs.length:=by
 have hd:=W.sh _ (dAt_mem hi)
 by_cases h:(dAt t i).vKind=2∨(dAt t i).vKind=3∨(dAt t i).vKind=6
 ·rw [kids_ref h] at hc
  have:=hd.ref h
  rw [List.mem_singleton.1 hc]
  omega
 ·by_cases h4:(dAt t i).vKind=4
  ·rw [kids_struct h4] at hc
   obtain ⟨f,hf,rfl⟩:=List.mem_map.1 hc
   have:=hd.typ h4 f hf
   omega
  ·rw [kids_none h h4] at hc;cases hc
theorem Rch.lt (W:Wf t l) {i k:Nat} (hi:i<t.vDefs.length) (h:Rch t i k):k<t.vDefs.length:=by
 induction h with
 |refl=>exact hi
 |step h hc ih=>exact (kids_range W ih hc).2
theorem Rch.trans {i j k:Nat} (h:Rch t i j) (g:Rch t j k):Rch t i k:=by
 induction g with
 |refl=>exact h
 |step g hc ih=>exact .step ih hc
def keysL (m:List (Int×Bool)):List Int:=m.map (·.1)
def AllT (m:List (Int×Bool)):Prop:=∀p∈m,p.2=true
theorem find_keys {m:List (Int×Bool)} (h:AllT m) (y:Int):(mfind ieq m y).getD false=true↔y∈keysL m:=by
  induction m with
  |nil=>simp [mfind,keysL]
  | cons p m ih =>
    have ih:=ih (fun q hq=>h q (List.mem_cons_of_mem _ hq))
    simp only [mfind,keysL,List.map_cons,List.mem_cons]
    by_cases hy:ieq y p.1=true
    · rw [if_pos hy]
      have e:y=p.1:=by simpa [ieq] using hy
      simp [h p List.mem_cons_self,e]
    · rw [if_neg hy]
      have e:y≠p.1:=by simpa [ieq] using hy
      rw [ih]
      simp [e,keysL]
theorem put_keys (m : List (Int × Bool)) (y z : Int) (v : Bool) : z ∈ keysL (mput ieq m y v) ↔ z ∈ keysL m ∨ z = y := by
  induction m with
  |nil=>simp [mput,keysL]
  | cons p m ih =>
    simp only [mput]
    by_cases hy:ieq y p.1=true
    · rw [if_pos hy]
      have e:y=p.1:=by simpa [ieq] using hy
      simp only [keysL,List.map_cons,List.mem_cons]
      constructor
      · rintro (h|h)
        · exact .inr h
        · exact .inl (.inr h)
      · rintro ((h|h)|h)
        · exact .inl (by rw [h,e])
        · exact .inr h
        · exact .inl h
    · rw [if_neg hy]
      simp only [keysL,List.map_cons,List.mem_cons] at ih⊢
      rw [ih]
      constructor
      · rintro (h|h|h)
        · exact .inl (.inl h)
        · exact .inl (.inr h)
        · exact .inr h
      · rintro ((h|h)|h)
        · exact .inl h
        · exact .inr (.inl h)
        · exact .inr (.inr h)
theorem put_all {m:List (Int×Bool)} (h:AllT m) (y:Int):AllT (mput ieq m y true):=by
  induction m with
  |nil=>intro p hp;simp [mput] at hp;rw [hp]
  | cons p m ih =>
    have ih:=ih (fun q hq=>h q (List.mem_cons_of_mem _ hq))
    simp only [mput]
    split
    · intro q hq
      rcases List.mem_cons.1 hq with rfl|hq
      · rfl
      · exact h q (List.mem_cons_of_mem _ hq)
    · intro q hq
      rcases List.mem_cons.1 hq with rfl|hq
      · exact h q List.mem_cons_self
      · exact ih q hq
def unv (n:Nat) (m:List (Int×Bool)):Nat:=((List.range n).filter fun k=> !(keysL m).contains ((k:Nat):Int)).length
theorem filter_less {p q : Nat → Bool} : ∀ {l : List Nat}, (∀ x ∈ l, q x = true → p x = true) → (∃ x ∈ l, p x = true ∧ q x = false) → (l.filter q).length < (l.filter p).length
  |[],_,h=>by obtain ⟨x,hx,_⟩:=h;cases hx
  | y :: l, h, hx => by
    have hle:∀{l:List Nat},(∀x∈l,q x=true→p x=true)→(l.filter q).length≤(l.filter p).length:=by
      intro l
      induction l with
      |nil=>intro _;simp
      | cons z l ih =>
        intro h
        have:=ih (fun x hx=>h x (List.mem_cons_of_mem _ hx))
        rw [List.filter_cons,List.filter_cons]
        by_cases hq:q z=true
        · rw [if_pos hq,if_pos (h z List.mem_cons_self hq)];simpa using this
        · rw [if_neg hq]
          split
          · simp;omega
          · exact this
    rw [List.filter_cons,List.filter_cons]
    obtain ⟨x,hx,hp,hq⟩:=hx
    rcases List.mem_cons.1 hx with rfl|hx
    · rw [if_pos hp,if_neg (by rw [hq];simp)]
      have:=hle (l:=l) (fun x hx=>h x (List.mem_cons_of_mem _ hx))
      simp;omega
    · have ih:=filter_less (l:=l) (fun x hx=>h x (List.mem_cons_of_mem _ hx)) ⟨x,hx,hp,hq⟩
      by_cases hqy:q y=true
      · rw [if_pos hqy,if_pos (h y List.mem_cons_self hqy)];simpa using ih
      · rw [if_neg hqy]
        split
        · simp;omega
        · exact ih
theorem unv_put {n:Nat} {m:List (Int×Bool)} {i:Nat} (hi:i<n) (h:((i:Nat):Int)∉keysL m):unv n (mput ieq m (i:Int) true)<unv n m:=by
  unfold unv
  refine filter_less (fun x _ hx=>?_) ⟨i,List.mem_range.2 hi,?_,?_⟩
  · simp only [Bool.not_eq_true'] at hx⊢
    cases hc:(keysL m).contains ((x:Nat):Int) with
    |false=>rfl
    | true =>
      have:((x:Nat):Int)∈keysL (mput ieq m (i:Int) true):=(put_keys _ _ _ _).2 (.inl (List.contains_iff_mem.1 hc))
      rw [List.contains_iff_mem.2 this] at hx
      cases hx
  · simp only [Bool.not_eq_true']
    cases hc:(keysL m).contains ((i:Nat):Int) with
    |false=>rfl
    |true=>exact absurd (List.contains_iff_mem.1 hc) h
  · simp only [Bool.not_eq_false']
    exact List.contains_iff_mem.2 ((put_keys _ _ _ _).2 (.inr rfl))
theorem unv_le {n : Nat} {m m' : List (Int × Bool)} (h : ∀ y ∈ keysL m, y ∈ keysL m') : unv n m' ≤ unv n m := by
  unfold unv
  have hle:∀{p q:Nat→Bool} {l:List Nat},(∀x∈l,q x=true→p x=true)→(l.filter q).length≤(l.filter p).length:=by
    intro p q l
    induction l with
    |nil=>intro _;simp
    | cons z l ih =>
      intro h
      have:=ih (fun x hx=>h x (List.mem_cons_of_mem _ hx))
      rw [List.filter_cons,List.filter_cons]
      by_cases hq:q z=true
      · rw [if_pos hq,if_pos (h z List.mem_cons_self hq)];simpa using this
      · rw [if_neg hq]
        split
        · simp;omega
        · exact this
  refine hle (fun x _ hx=>?_)
  simp only [Bool.not_eq_true'] at hx⊢
  cases hc:(keysL m).contains ((x:Nat):Int) with
  |false=>rfl
  |true=>rw [List.contains_iff_mem.2 (h _ (List.contains_iff_mem.1 hc))] at hx;cases hx
structure Seen (t:api_Types) (from_:Nat→Prop) (m m':List (Int×Bool)):Prop where
 all:AllT m'
 mono:∀y∈keysL m,y∈keysL m'
 new:∀y∈keysL m',y∉keysL m→∃k:Nat,y=(k:Int)∧(∃i,from_ i∧Rch t i k)∧∀c∈kids (dAt t k),c∈keysL m'
theorem Seen.rfl' {from_:Nat→Prop} {m:List (Int×Bool)} (h:AllT m):Seen t from_ m m:=⟨h,fun _ h=>h,fun y h1 h2=>absurd h1 h2⟩
theorem Seen.then {F G H:Nat→Prop} {a b c:List (Int×Bool)} (h:Seen t F a b) (g:Seen t G b c) (hF:∀i,F i→H i) (hG:∀i,G i→H i):Seen t H a c:=by
 refine ⟨g.all,fun y hy=>g.mono y (h.mono y hy),fun y hy hn=>?_⟩
 by_cases hb:y∈keysL b
 ·obtain ⟨k,e,⟨i,h1,h2⟩,h3⟩:=h.new y hb hn
  exact ⟨k,e,⟨i,hF i h1,h2⟩,fun c hc=>g.mono c (h3 c hc)⟩
 ·obtain ⟨k,e,⟨i,h1,h2⟩,h3⟩:=g.new y hy hb
  exact ⟨k,e,⟨i,hG i h1,h2⟩,h3⟩
def VisitOk (t:api_Types) (i:Nat) (m:List (Int×Bool)):Prop:=∃m',Ev (fun k=>ctf_reached_1.f k (i:Int) m t.vDefs) m'∧Seen t (fun q=>q=i) m m'∧((i:Nat):Int)∈keysL m'
theorem visit_loop {i:Nat} {U:Nat} (hl:(dAt t i).vFields.length≤9223372036854775807) (hr:∀f∈(dAt t i).vFields,f.vType=((f.vType.toNat:Nat):Int)∧f.vType.toNat<t.vDefs.length)
    (hv:∀(c:Nat) (m:List (Int×Bool)),c<t.vDefs.length→AllT m→unv t.vDefs.length m<U→VisitOk t c m):∀(e j:Nat) (m:List (Int×Bool)),j+e=(dAt t i).vFields.length→AllT m→unv t.vDefs.length m<U→
    ∃m',(∃K,∀k q,K≤k→K≤q→ctf_reached_1.l0 (ctf_reached_1.f k) (i:Int) t.vDefs q (j:Int) m=some m')∧Seen t (fun q=>∃f∈(dAt t i).vFields,f.vType.toNat=q) m m'∧∀f∈(dAt t i).vFields.drop j,f.vType∈keysL m':=by
  intro e
  induction e with
  | zero =>
    intro j m hj hm hU
    refine ⟨m,⟨1,fun k q _ hq=>?_⟩,Seen.rfl' hm,?_⟩
    · obtain ⟨q,rfl⟩:∃p,q=p+1:=⟨q-1,by omega⟩
      rw [ctf_reached_1.l0,rd_dAt,if_neg (by simp;omega)]
    · rw [List.drop_eq_nil_of_le (by omega)];simp
  | succ e ih =>
    intro j m hj hm hU
    have hlt:j<(dAt t i).vFields.length:=by omega
    have hf:=hr _ (getD_mem (z:=z_api_Field) hlt)
    obtain ⟨m1,⟨K1,h1⟩,s1,k1⟩:=hv ((dAt t i).vFields.getD j z_api_Field).vType.toNat m hf.2 hm hU
    obtain ⟨m2,⟨K2,h2⟩,s2,k2⟩:=ih (j+1) m1 (by omega) s1.all (Nat.lt_of_le_of_lt (unv_le s1.mono) hU)
    refine ⟨m2,⟨max K1 K2+1,fun k q hk hq=>?_⟩,s1.then s2 (fun q hq=>⟨_,getD_mem (z:=z_api_Field) hlt,hq.symm⟩) (fun _ h=>h),?_⟩
    · obtain ⟨q,rfl⟩:∃p,q=p+1:=⟨q-1,by omega⟩
      rw [ctf_reached_1.l0,rd_dAt,if_pos (by simp;omega),if_pos (by omega),rd_nat,hf.1,show ctf_reached_1.f k _ _ _=_ from h1 k (by omega)]
      simp only [Option.bind_some]
      rw [wrap_nat hlt hl]
      exact h2 k q (by omega) (by omega)
    · rw [drop_getD z_api_Field hlt]
      intro f hfm
      rcases List.mem_cons.1 hfm with rfl|hfm
      · rw [hf.1];exact s2.mono _ k1
      · exact k2 f hfm
theorem shp_ref (k:Int):((shp k).getD z_ctf_shape).vref=decide (k=2∨k=3∨k=6):=by
 unfold shp
 repeat' split
 all_goals first|(subst_vars;rfl)|(rw [decide_eq_false (by omega)];rfl)
theorem visit (W : Wf t l) : ∀ (U i : Nat) (m : List (Int × Bool)), unv t.vDefs.length m = U → i < t.vDefs.length → AllT m → VisitOk t i m := by
  intro U
  induction U using Nat.strongRecOn with
  | _ U ih =>
    intro i m hU hi hm
    by_cases hin:((i:Nat):Int)∈keysL m
    · refine ⟨m,Ev.succ (Ev.pure fun k=>?_),Seen.rfl' hm,hin⟩
      rw [ctf_reached_1.f,if_pos ((find_keys hm _).2 hin)]
    · have hnf:¬(mfind ieq m (i:Int)).getD false=true:=fun h=>hin ((find_keys hm _).1 h)
      have hless:=unv_put (n:=t.vDefs.length) hi hin
      have hall:=put_all hm (i:Int)
      obtain ⟨ms,hms,hsh⟩:=shapes_find (dAt t i).vKind
      have hd:=W.sh _ (dAt_mem hi)
      have hself:((i:Nat):Int)∈keysL (mput ieq m (i:Int) true):=(put_keys _ _ _ _).2 (.inr rfl)
      by_cases hk:(dAt t i).vKind=2∨(dAt t i).vKind=3∨(dAt t i).vKind=6
      · obtain ⟨hr1,hr2⟩:=ref_lt W hi hk
        obtain ⟨m2,⟨K,hK⟩,s2,k2⟩:=ih _ (by rw [←hU];exact hless) (dAt t i).vRef.toNat (mput ieq m (i:Int) true) rfl hr2 hall
        refine ⟨m2,⟨K+1,fun k hk'=>?_⟩,⟨s2.all,fun y hy=>s2.mono y ((put_keys _ _ _ _).2 (.inl hy)),fun y hy hn=>?_⟩,s2.mono _ hself⟩
        · obtain ⟨k,rfl⟩:∃q,k=q+1:=⟨k-1,by omega⟩
          show ctf_reached_1.f (k+1) (i:Int) m t.vDefs=_
          rw [ctf_reached_1.f,if_neg hnf,if_pos (by omega),rd_dAt,hms]
          simp only [Option.bind_some]
          rw [hsh,shp_ref,if_pos (decide_eq_true hk),hr1,show ctf_reached_1.f k _ _ _=_ from hK k (by omega)]
          simp only [Option.bind_some]
          rw [if_neg (beqF (by omega))]
        · by_cases hy1:y∈keysL (mput ieq m (i:Int) true)
          · rcases (put_keys _ _ _ _).1 hy1 with h|h
            · exact absurd h hn
            · refine ⟨i,h,⟨i,rfl, .refl⟩,fun c hc=>?_⟩
              rw [kids_ref hk] at hc
              rw [List.mem_singleton.1 hc,hr1]
              exact k2
          · obtain ⟨k,e,⟨q,h1,h2⟩,h3⟩:=s2.new y hy hy1
            subst h1
            refine ⟨k,e,⟨i,rfl,?_⟩,h3⟩
            have hstep:Rch t i (dAt t i).vRef.toNat:=Rch.step (c:=(dAt t i).vRef) .refl (by rw [kids_ref hk];exact List.mem_singleton.2 rfl)
            exact hstep.trans h2
      · by_cases h4:(dAt t i).vKind=4
        · have hfr:∀f∈(dAt t i).vFields,f.vType=((f.vType.toNat:Nat):Int)∧f.vType.toNat<t.vDefs.length:=fun f hf=>by have:=hd.typ h4 f hf;omega
          obtain ⟨m2,⟨K,hK⟩,s2,k2⟩:=visit_loop (t:=t) (i:=i) (U:=unv t.vDefs.length m) (by have:=hd.few;omega) hfr (fun c m' hc hm' hlt=>ih _ (by rw [←hU];exact hlt) c m' rfl hc hm') (dAt t i).vFields.length 0 (mput ieq m (i:Int) true) (by omega) hall hless
          rw [List.drop_zero] at k2
          refine ⟨m2,⟨K+1,fun k hk'=>?_⟩,⟨s2.all,fun y hy=>s2.mono y ((put_keys _ _ _ _).2 (.inl hy)),fun y hy hn=>?_⟩,s2.mono _ hself⟩
          · obtain ⟨k,rfl⟩:∃q,k=q+1:=⟨k-1,by omega⟩
            show ctf_reached_1.f (k+1) (i:Int) m t.vDefs=_
            rw [ctf_reached_1.f,if_neg hnf,if_pos (by omega),rd_dAt,hms]
            simp only [Option.bind_some]
            rw [hsh,shp_ref,if_neg (by simpa using hk)]
            simp only [Option.bind_some]
            rw [if_pos (beqT h4),show ctf_reached_1.l0 (ctf_reached_1.f k) (i:Int) t.vDefs k 0 _=_ from hK k k (by omega) (by omega)]
            rfl
          · by_cases hy1:y∈keysL (mput ieq m (i:Int) true)
            · rcases (put_keys _ _ _ _).1 hy1 with h|h
              · exact absurd h hn
              · refine ⟨i,h,⟨i,rfl, .refl⟩,fun c hc=>?_⟩
                rw [kids_struct h4] at hc
                obtain ⟨f,hf,rfl⟩:=List.mem_map.1 hc
                exact k2 f hf
            · obtain ⟨k,e,⟨q,⟨f,hf,h1⟩,h2⟩,h3⟩:=s2.new y hy hy1
              subst h1
              refine ⟨k,e,⟨i,rfl,?_⟩,h3⟩
              have hstep:Rch t i f.vType.toNat:=Rch.step (c:=f.vType) .refl (by rw [kids_struct h4];exact List.mem_map.2 ⟨f,hf,rfl⟩)
              exact hstep.trans h2
        · refine ⟨mput ieq m (i:Int) true,Ev.succ (Ev.pure fun k=>?_),⟨hall,fun y hy=>(put_keys _ _ _ _).2 (.inl hy),fun y hy hn=>?_⟩,hself⟩
          · rw [ctf_reached_1.f,if_neg hnf,if_pos (by omega),rd_dAt,hms]
            simp only [Option.bind_some]
            rw [hsh,shp_ref,if_neg (by simpa using hk)]
            simp only [Option.bind_some]
            rw [if_neg (beqF h4)]
          · rcases (put_keys _ _ _ _).1 hy with h|h
            · exact absurd h hn
            · refine ⟨i,h,⟨i,rfl, .refl⟩,fun c hc=>?_⟩
              rw [kids_none hk h4] at hc;cases hc
def natL (l:List Nat):List Int:=l.map fun i=>((i:Nat):Int)
theorem rd_natL (l:List Nat) (j:Nat) (hj:j<l.length):rd 0 (natL l) (j:Int)=((l.getD j 0:Nat):Int):=by
 rw [rd_nat]
 unfold natL
 rw [List.getD_eq_getElem?_getD,List.getElem?_map,List.getElem?_eq_getElem hj,List.getD_eq_getElem?_getD,List.getElem?_eq_getElem hj]
 rfl
theorem reached_loop (W:Wf t l) {fr:List Nat} (hf:∀i∈fr,i<t.vDefs.length) (hl:fr.length≤9223372036854775807):∀(e j:Nat) (m:List (Int×Bool)),j+e=fr.length→AllT m→
    ∃m',Ev2 (fun k q=>ctf_reached.l0 k t (natL fr) q (j:Int) m) m'∧Seen t (fun q=>q∈fr) m m'∧∀i∈fr.drop j,((i:Nat):Int)∈keysL m':=by
  have hln:(natL fr).length=fr.length:=by unfold natL;rw [List.length_map]
  intro e
  induction e with
  | zero =>
    intro j m hj hm
    refine ⟨m,Ev2.pure (fun k q=>?_),Seen.rfl' hm,?_⟩
    · rw [ctf_reached.l0,if_neg (by rw [hln];simp;omega)]
    · rw [List.drop_eq_nil_of_le (by omega)];simp
  | succ e ih =>
    intro j m hj hm
    have hlt:j<fr.length:=by omega
    have hmem:=getD_mem (z:=0) hlt
    obtain ⟨m1,h1,s1,k1⟩:=visit W _ (fr.getD j 0) m rfl (hf _ hmem) hm
    obtain ⟨m2,h2,s2,k2⟩:=ih (j+1) m1 (by omega) s1.all
    refine ⟨m2,Ev2.step h1 (r:=fun k q v1=>ctf_reached.l0 k t (natL fr) q ((j+1:Nat):Int) v1) h2 (fun k q=>?_),s1.then s2 (fun q hq=>by rw [hq];exact hmem) (fun _ h=>h),?_⟩
    · rw [ctf_reached.l0,if_pos (by rw [hln];simp;omega),if_pos (by rw [hln];omega),rd_natL _ _ hlt,wrap_nat hlt hl]
    · rw [drop_getD 0 hlt]
      intro i him
      rcases List.mem_cons.1 him with rfl|him
      · exact s2.mono _ k1
      · exact k2 i him
theorem reached_ev (W:Wf t l) {fr:List Nat} (hf:∀i∈fr,i<t.vDefs.length) (hl:fr.length≤9223372036854775807):∃mv,Ev (fun k=>ctf_reached.f k t (natL fr)) mv∧AllT mv∧∀y,y∈keysL mv↔∃k:Nat,y=(k:Int)∧∃i∈fr,Rch t i k:=by
  obtain ⟨mv,h1,s,h2⟩:=reached_loop W hf hl fr.length 0 [] (by omega) (by intro p hp;cases hp)
  rw [List.drop_zero] at h2
  obtain ⟨K,hK⟩:=h1.diag
  have hnil:∀y,y∉keysL []:=fun y h=>by cases h
  refine ⟨mv,⟨K,fun k hk=>?_⟩,s.all,fun y=>⟨fun hy=>?_,fun h=>?_⟩⟩
  · show ctf_reached.f k t (natL fr)=_
    unfold ctf_reached.f
    rw [show ctf_reached.l0 k t (natL fr) k 0 []=_ from hK k hk]
    rfl
  · obtain ⟨k,e,⟨i,h3,h4⟩,_⟩:=s.new y hy (hnil y)
    exact ⟨k,e,i,h3,h4⟩
  · obtain ⟨k,rfl,i,hi,hr⟩:=h
    induction hr with
    |refl=>exact h2 i hi
    | step h hc ih =>
      obtain ⟨k,e,_,h5⟩:=s.new _ ih (hnil _)
      have e:_=k:=Int.ofNat.inj e
      subst e
      have h6:=h5 _ hc
      have h7:=(kids_range W (Rch.lt W (hf i hi) h) hc).1
      rw [←h7];exact h6
end
def slices_EqualFunc_api_Field_api_Field_api_Field_api_Field.l0 (a0:List api_Field) (a1:List api_Field) (a2:(api_Field→api_Field→Option Bool)):Nat→Int→Option ((Bool)⊕(Unit))
 |0,_=>none
 |m+1,y1_0=>if (decide (y1_0<(a0.length:Int)))=true then (if 0≤y1_0∧y1_0<a0.length then (if 0≤y1_0∧y1_0<a1.length then ((a2 (rd z_api_Field a0 y1_0) (rd z_api_Field a1 y1_0)).bind fun v1=>(if (!v1)=true then (some (.inl false)) else (slices_EqualFunc_api_Field_api_Field_api_Field_api_Field.l0 a0 a1 a2 m (IntKind.wrap .i64 (y1_0+1))))) else none) else none) else (some (.inr ()))
def slices_EqualFunc_api_Field_api_Field_api_Field_api_Field.f (k:Nat) (a0:List api_Field) (a1:List api_Field) (a2:api_Field→api_Field→Option Bool):Option (Bool):=if ((a0.length:Int) !=(a1.length:Int))=true then (some false) else ((slices_EqualFunc_api_Field_api_Field_api_Field_api_Field.l0 a0 a1 a2 k 0).bind fun xx1=>(match xx1 with| .inl r=>some r| .inr s1=>some true))
theorem slices_EqualFunc_api_Field_api_Field_api_Field_api_Field.calls (k:Nat) (a0:List api_Field) (a1:List api_Field) (a2:api_Field→api_Field→Option Bool) (A0_0:Option Addr) (c0_0:Nat) (A1_0:Option Addr) (c1_0:Nat) (fid2:Nat) (cap2:List Value) {h0:View} {w0:World} (hv:Sees h0 w0) (hr0_0:Rd k_api_Field h0 A0_0 a0) (hc0_0:a0.length≤c0_0) (hr1_0:Rd k_api_Field h0 A1_0 a1) (hc1_0:a1.length≤c1_0) (hent2:∀args w,(callFunc fid2 args).run Tryd.prog w= .ok (.enter fid2 args) w) (hfp2:∀(z0:api_Field) (z1:api_Field) (h:View) (w:World),Ext w0 w→Sub h0 h→Sees h w→∀(r:Bool),a2 z0 z1=some r→Calls Tryd.prog fid2 ([Value.agg #[vS z0.vName,vI z0.vType,vI z0.vAt],Value.agg #[vS z1.vName,vI z1.vType,vI z1.vAt]]++cap2).toArray w (fun e w1=>e= .returned (vB r)∧Ext w w1)) {r:Bool} (H:slices_EqualFunc_api_Field_api_Field_api_Field_api_Field.f k a0 a1 a2=some r):Calls Tryd.prog 122 #[vL A0_0 a0.length c0_0,vL A1_0 a1.length c1_0,Value.func (.func fid2) #[] cap2.toArray] w0 (fun e w1=>e= .returned (vB r)∧Ext w0 w1):=by
 unfold slices_EqualFunc_api_Field_api_Field_api_Field_api_Field.f at H
 have HS:St [] h0 w0 h0 [] w0:=St.init hv
 go_enter Tryd.func122,Tryd.ntmps122
 refine wp_seq<|region<|rs (vB false) (r_assign rfl) ?_
 try simp only [sc0,sc1]
 refine run_nil<|norm_then<|wp_seq<|wp_seq<|region<|rs (vL A0_0 a0.length c0_0) (r_move rfl)<|rs (vI (a0.length:Int)) (r_len rfl Tryd.runUnderlying32)<|rs (vL A1_0 a1.length c1_0) (r_move rfl)<|rs (vI (a1.length:Int)) (r_len rfl Tryd.runUnderlying32)<|run_frame (by simp only [sc0,sc1];rfl) ?_
 refine rs (vB ((a0.length:Int) !=(a1.length:Int))) (r_bin rfl rfl rfl) ?_
 try simp only [sc0,sc1]
 refine run_nil<|norm_then<|wp_cond_split (t:=((a0.length:Int) !=(a1.length:Int))) rfl (fun c1=>?_) (fun c1=>?_)
 ·replace H:=of_pos H c1
  refine wp_seq<|region<|rs (vB false) (r_assign rfl) ?_
  try simp only [sc0,sc1]
  refine run_nil<|norm_then<|wp_ret<|ret_then ?_
  obtain rfl:=Option.some.inj H
  exact bodyPost_ret (results_1 rfl (one_tmp rfl)) rfl<|⟨rfl,HS.toE⟩
 ·replace H:=of_neg H (nt c1)
  refine wp_skip<|norm_then<|wp_seq<|wp_seq<|region<|rs (vL A0_0 a0.length c0_0) (r_move rfl)<|rs (vI (a0.length:Int)) (r_len rfl Tryd.runUnderlying32)<|rs (vI 0) (r_move rfl) ?_
  try simp only [sc0,sc1]
  refine run_nil<|norm_then ?_
  obtain ⟨xx1,H,G1⟩:=of_bind H
  refine loop_j [6,7,8,9,17,18,19,20,21,22,23,24,25,26,27,28,29,30,31] (fun m us w'=>∃(y1_0:Int),Fit us (fun uy1=>[(uy1 0),(uy1 1),(uy1 2),(uy1 3),vI y1_0,(uy1 5),(uy1 6),(uy1 7),(uy1 8),(uy1 9),(uy1 10),(uy1 11),(uy1 12),(uy1 13),(uy1 14),(uy1 15),(uy1 16),(uy1 17),(uy1 18)])∧slices_EqualFunc_api_Field_api_Field_api_Field_api_Field.l0 a0 a1 a2 m y1_0=some xx1∧St [] h0 w0 h0 [] w') (fun us w'=>∃(s1:Unit),xx1= .inr s1∧Fit us (fun uo1=>[(uo1 0),(uo1 1),(uo1 2),(uo1 3),(uo1 4),(uo1 5),(uo1 6),(uo1 7),(uo1 8),(uo1 9),(uo1 10),(uo1 11),(uo1 12),(uo1 13),(uo1 14),(uo1 15),(uo1 16),(uo1 17),(uo1 18)])∧St [] h0 w0 h0 [] w') k ⟨0,(fit rfl),H,HS⟩ ?_ ?_
  ·rintro m us w1 ⟨y1_0,huy1,H,HS1⟩
   obtain ⟨uy1,rfl⟩:=unj huy1
   cases m with
   |zero=>exact absurd H (by simp [slices_EqualFunc_api_Field_api_Field_api_Field_api_Field.l0])
   |succ m=>
    rw [slices_EqualFunc_api_Field_api_Field_api_Field_api_Field.l0] at H
    try simp only [patch,sc0,sc1]
    refine wp_seq<|region<|rs (vB (decide (y1_0<(a0.length:Int)))) (r_bin rfl rfl rfl) ?_
    try simp only [sc0,sc1]
    refine run_nil<|norm_then<|wp_seq<|wp_cond_split (t:=(decide (y1_0<(a0.length:Int)))) rfl (fun c2=>?_) (fun c2=>?_)
    ·replace H:=of_pos H c2
     refine wp_skip<|norm_then<|wp_seq<|wp_block<|wp_seq<|region<|rs (vI y1_0) (r_move rfl) ?_
     obtain ⟨hi1,H⟩:=of_ite H
     obtain ⟨ad1,e1,hel1⟩:=ld_api_Field hr0_0 hi1.1 hi1.2
     refine rs (Value.pointer (some (Addr.add ad1 (y1_0.toNat*3)))) (r_indexA (sz:=3) rfl e1 rfl hi1.1 hi1.2 Tryd.runUnderlying32 Tryd.sizeOf36)<|rs (Value.agg #[vS ((rd z_api_Field a0 y1_0).vName),vI ((rd z_api_Field a0 y1_0).vType),vI ((rd z_api_Field a0 y1_0).vAt)]) (r_loadAgg rfl Tryd.isAgg36 (hel1.sees HS1.sees) Tryd.sizeOf36)<|run_ex rfl rfl (does_alloc (cs:=#[vS ByteArray.empty,vI 0,vI 0]) Tryd.zeroValue36 rfl) ?_
     rintro w2 _ hE1 ⟨b1,rfl,ge1,hb1⟩
     have HS2:=HS1.new hE1 ge1 hb1
     refine run_frame (by simp only [sc0,sc1];rfl) ?_
     refine rs (vI y1_0) (r_assign rfl)<|run_st (i:=0) (cs:=[vS ByteArray.empty,vI 0,vI 0]) (cs':=[vS ((rd z_api_Field a0 y1_0).vName),vI ((rd z_api_Field a0 y1_0).vType),vI ((rd z_api_Field a0 y1_0).vAt)]) (vs:=[vS ((rd z_api_Field a0 y1_0).vName),vI ((rd z_api_Field a0 y1_0).vType),vI ((rd z_api_Field a0 y1_0).vAt)]) (bs':=[(some b1, .cells #[vS ((rd z_api_Field a0 y1_0).vName),vI ((rd z_api_Field a0 y1_0).vType),vI ((rd z_api_Field a0 y1_0).vAt)] 36 (0,0))]) rfl rfl Tryd.sizeOf36 rfl rfl (by decide) rfl HS2 rfl (Nat.le_of_ble_eq_true rfl) rfl rfl ?_
     intro w3 HS3
     try simp only [sc0,sc1]
     refine run_nil<|norm_then<|wp_seq<|region<|rs (vL A1_0 a1.length c1_0) (r_move rfl)<|rs (vI y1_0) (r_move rfl) ?_
     obtain ⟨hi2,H⟩:=of_ite H
     obtain ⟨ad2,e2,hel2⟩:=ld_api_Field hr1_0 hi2.1 hi2.2
     refine rs (Value.pointer (some (Addr.add ad2 (y1_0.toNat*3)))) (r_indexA (sz:=3) rfl e2 rfl hi2.1 hi2.2 Tryd.runUnderlying32 Tryd.sizeOf36)<|rs (Value.agg #[vS ((rd z_api_Field a1 y1_0).vName),vI ((rd z_api_Field a1 y1_0).vType),vI ((rd z_api_Field a1 y1_0).vAt)]) (r_loadAgg rfl Tryd.isAgg36 (hel2.sees HS3.sees) Tryd.sizeOf36)<|run_frame (by simp only [sc0,sc1];rfl) ?_
     refine run_ex rfl rfl (does_alloc (cs:=#[vS ByteArray.empty,vI 0,vI 0]) Tryd.zeroValue36 rfl) ?_
     rintro w4 _ hE2 ⟨b2,rfl,ge2,hb2⟩
     have HS4:=HS3.new hE2 ge2 hb2
     refine run_st (i:=0) (cs:=[vS ByteArray.empty,vI 0,vI 0]) (cs':=[vS ((rd z_api_Field a1 y1_0).vName),vI ((rd z_api_Field a1 y1_0).vType),vI ((rd z_api_Field a1 y1_0).vAt)]) (vs:=[vS ((rd z_api_Field a1 y1_0).vName),vI ((rd z_api_Field a1 y1_0).vType),vI ((rd z_api_Field a1 y1_0).vAt)]) (bs':=[(some b2, .cells #[vS ((rd z_api_Field a1 y1_0).vName),vI ((rd z_api_Field a1 y1_0).vType),vI ((rd z_api_Field a1 y1_0).vAt)] 36 (0,0)),(some b1, .cells #[vS ((rd z_api_Field a0 y1_0).vName),vI ((rd z_api_Field a0 y1_0).vType),vI ((rd z_api_Field a0 y1_0).vAt)] 36 (0,0))]) rfl rfl Tryd.sizeOf36 rfl rfl (by decide) rfl HS4 rfl (Nat.le_of_ble_eq_true rfl) rfl rfl ?_
     intro w5 HS5
     try simp only [sc0,sc1]
     refine run_nil<|norm_then<|wp_seq<|region<|rs (Value.func (.func fid2) #[] cap2.toArray) (r_move rfl)<|rs (Value.agg #[vS ((rd z_api_Field a0 y1_0).vName),vI ((rd z_api_Field a0 y1_0).vType),vI ((rd z_api_Field a0 y1_0).vAt)]) (r_loadBoxAgg (n:=3) (vs:=[vS ((rd z_api_Field a0 y1_0).vName),vI ((rd z_api_Field a0 y1_0).vType),vI ((rd z_api_Field a0 y1_0).vAt)]) rfl Tryd.isAgg36 (HS5.look 1 rfl) Tryd.sizeOf36 rfl rfl)<|rs (Value.agg #[vS ((rd z_api_Field a1 y1_0).vName),vI ((rd z_api_Field a1 y1_0).vType),vI ((rd z_api_Field a1 y1_0).vAt)]) (r_loadBoxAgg (n:=3) (vs:=[vS ((rd z_api_Field a1 y1_0).vName),vI ((rd z_api_Field a1 y1_0).vType),vI ((rd z_api_Field a1 y1_0).vAt)]) rfl Tryd.isAgg36 (HS5.look 0 rfl) Tryd.sizeOf36 rfl rfl) ?_
     obtain ⟨v1,H1,H⟩:=of_bind H
     refine run_eq (v:=vB v1) rfl rfl (does_callv (vs:=[Value.agg #[vS ((rd z_api_Field a0 y1_0).vName),vI ((rd z_api_Field a0 y1_0).vType),vI ((rd z_api_Field a0 y1_0).vAt)],Value.agg #[vS ((rd z_api_Field a1 y1_0).vName),vI ((rd z_api_Field a1 y1_0).vType),vI ((rd z_api_Field a1 y1_0).vAt)]]) (caps:=cap2) hent2 rfl rfl (hfp2 (rd z_api_Field a0 y1_0) (rd z_api_Field a1 y1_0) _ _ HS5.toE HS5.sub HS5.sees _ H1)) ?_
     intro w6 hE3
     have HS6:=HS5.step hE3
     refine run_frame (by simp only [sc0,sc1];rfl) ?_
     refine rs (vB (!v1)) (r_not rfl) ?_
     try simp only [sc0,sc1]
     refine run_nil<|norm_then<|wp_cond_split (t:=(!v1)) rfl (fun c3=>?_) (fun c3=>?_)
     ·replace H:=of_pos H c3
      refine wp_seq<|region<|rs (vB false) (r_assign rfl) ?_
      try simp only [sc0,sc1]
      refine run_nil<|norm_then<|wp_ret<|ret_block<|ret_then<|ret_loop<|ret_then ?_
      obtain rfl:=Option.some.inj H
      obtain rfl:=Option.some.inj G1
      exact bodyPost_ret (results_1 rfl (one_tmp rfl)) rfl<|⟨rfl,HS6.toE⟩
     ·replace H:=of_neg H (nt c3)
      refine wp_skip<|norm_block<|norm_then<|region<|rs (vI (w64 (y1_0+1))) (r_bin rfl rfl rfl)<|rs (vI (w64 (y1_0+1))) (r_move rfl) ?_
      try simp only [sc0,sc1]
      refine run_nil<|again_j m (Nat.lt_succ_self m) rfl ⟨(w64 (y1_0+1)),(fit rfl),H,HS6.tail.tail⟩
    ·replace H:=of_neg H (nt c2)
     refine wp_exit<|exit_then ?_
     obtain rfl:=Option.some.inj H
     refine leave_j rfl ⟨_,rfl,(fit rfl),HS1⟩
  ·rintro us w7 ⟨s1,rfl,huo1,HS7⟩
   obtain ⟨uo1,rfl⟩:=unj huo1
   replace H:=G1
   clear G1
   try simp only [patch,sc0,sc1]
   refine norm_then<|wp_seq<|region<|rs (vB true) (r_assign rfl) ?_
   try simp only [sc0,sc1]
   refine run_nil<|norm_then<|wp_ret ?_
   obtain rfl:=Option.some.inj H
   exact bodyPost_ret (results_1 rfl (one_tmp rfl)) rfl<|⟨rfl,HS7.toE⟩
def ctf_alike_1.f (k:Nat) (a0:api_Field) (a1:api_Field) (x0:api_Def) (x1:api_Types) (x2:api_Types):Option (Bool):=(if ((true&&(((strEq a0.vName a1.vName)&&(a0.vAt==a1.vAt))==true))&&((x0.vKind !=4)==false))=true then ctf_text.f k x1 a0.vType else some ByteArray.empty).bind fun v1=>((if ((true&&(((strEq a0.vName a1.vName)&&(a0.vAt==a1.vAt))==true))&&((x0.vKind !=4)==false))=true then ctf_text.f k x2 a1.vType else some ByteArray.empty).bind fun v2=>(some (((strEq a0.vName a1.vName)&&(a0.vAt==a1.vAt))&&((x0.vKind !=4)||(strEq v1 v2)))))
theorem ctf_alike_1.calls (k:Nat) (a0:api_Field) (a1:api_Field) (x0:api_Def) (x1:api_Types) (x2:api_Types) (bx0:Nat) (Ax0_6:Option Addr) (cx0_6:Nat) (bx1:Nat) (Ax1_0:Option Addr) (cx1_0:Nat) (bx2:Nat) (Ax2_0:Option Addr) (cx2_0:Nat) {h0:View} {w0:World} (hv:Sees h0 w0) (ht:Tab w0) (hrx0_6:Rd k_api_Field h0 Ax0_6 x0.vFields) (hcx0_6:x0.vFields.length≤cx0_6) (hx0:w0.heap[bx0]?=some (.cells #[vI x0.vKind,vS x0.vName,vI x0.vInt.vSize,vB x0.vInt.vSigned,vI x0.vRef,vI x0.vN,vL Ax0_6 x0.vFields.length cx0_6] 34 (0,0))) (hrx1_0:Rd k_api_Def h0 Ax1_0 x1.vDefs) (hcx1_0:x1.vDefs.length≤cx1_0) (hx1:w0.heap[bx1]?=some (.cells #[vL Ax1_0 x1.vDefs.length cx1_0] 24 (0,0))) (hrx2_0:Rd k_api_Def h0 Ax2_0 x2.vDefs) (hcx2_0:x2.vDefs.length≤cx2_0) (hx2:w0.heap[bx2]?=some (.cells #[vL Ax2_0 x2.vDefs.length cx2_0] 24 (0,0))) {r:Bool} (H:ctf_alike_1.f k a0 a1 x0 x1 x2=some r):Calls Tryd.prog 123 #[Value.agg #[vS a0.vName,vI a0.vType,vI a0.vAt],Value.agg #[vS a1.vName,vI a1.vType,vI a1.vAt],vP bx0 0,vP bx1 0,vP bx2 0] w0 (fun e w1=>e= .returned (vB r)∧Ext w0 w1):=by
 unfold ctf_alike_1.f at H
 have HS:St [] h0 w0 h0 [] w0:=St.init hv
 go_enter Tryd.func123,Tryd.ntmps123
 refine wp_seq<|region<|run_ex rfl rfl (does_box (cs:=#[vS a0.vName,vI a0.vType,vI a0.vAt]) rfl rfl) ?_
 rintro w1 _ hE1 ⟨b1,rfl,ge1,hb1⟩
 have HS1:=HS.new hE1 ge1 hb1
 refine run_ex rfl rfl (does_box (cs:=#[vS a1.vName,vI a1.vType,vI a1.vAt]) rfl rfl) ?_
 rintro w2 _ hE2 ⟨b2,rfl,ge2,hb2⟩
 have HS2:=HS1.new hE2 ge2 hb2
 refine rs (vB false) (r_assign rfl) ?_
 try simp only [sc0,sc1]
 refine run_nil<|norm_then<|wp_seq ?_
 obtain ⟨v1,H1,H⟩:=of_bind H
 obtain ⟨v2,H2,H⟩:=of_bind H
 refine drawn [.eq (vP b1 0), .eq (vS a0.vName), .eq (vP b2 0), .eq (vS a1.vName), .eq (vB (strEq a0.vName a1.vName)), .eq (vB (strEq a0.vName a1.vName)), .eq (gv (true&&((strEq a0.vName a1.vName)==true)) (vP b1 2)), .eq (gv (true&&((strEq a0.vName a1.vName)==true)) (vI a0.vAt)), .eq (gv (true&&((strEq a0.vName a1.vName)==true)) (vP b2 2)), .eq (gv (true&&((strEq a0.vName a1.vName)==true)) (vI a1.vAt)), .eq (gv (true&&((strEq a0.vName a1.vName)==true)) (vB (a0.vAt==a1.vAt))), .eq (vB ((strEq a0.vName a1.vName)&&(a0.vAt==a1.vAt))), .eq (vB ((strEq a0.vName a1.vName)&&(a0.vAt==a1.vAt))), .eq (gv (true&&(((strEq a0.vName a1.vName)&&(a0.vAt==a1.vAt))==true)) (vP bx0 0)), .eq (gv (true&&(((strEq a0.vName a1.vName)&&(a0.vAt==a1.vAt))==true)) (vI x0.vKind)), .eq (gv (true&&(((strEq a0.vName a1.vName)&&(a0.vAt==a1.vAt))==true)) (vB (x0.vKind !=4))), .eq (gv (true&&(((strEq a0.vName a1.vName)&&(a0.vAt==a1.vAt))==true)) (vB (x0.vKind !=4))), .eq (gv ((true&&(((strEq a0.vName a1.vName)&&(a0.vAt==a1.vAt))==true))&&((x0.vKind !=4)==false)) (Value.agg #[vL Ax1_0 x1.vDefs.length cx1_0])), .eq (gv ((true&&(((strEq a0.vName a1.vName)&&(a0.vAt==a1.vAt))==true))&&((x0.vKind !=4)==false)) (vP b1 1)), .eq (gv ((true&&(((strEq a0.vName a1.vName)&&(a0.vAt==a1.vAt))==true))&&((x0.vKind !=4)==false)) (vI a0.vType)), .eq (gv ((true&&(((strEq a0.vName a1.vName)&&(a0.vAt==a1.vAt))==true))&&((x0.vKind !=4)==false)) (vS v1)), .eq (gv ((true&&(((strEq a0.vName a1.vName)&&(a0.vAt==a1.vAt))==true))&&((x0.vKind !=4)==false)) (Value.agg #[vL Ax2_0 x2.vDefs.length cx2_0])), .eq (gv ((true&&(((strEq a0.vName a1.vName)&&(a0.vAt==a1.vAt))==true))&&((x0.vKind !=4)==false)) (vP b2 1)), .eq (gv ((true&&(((strEq a0.vName a1.vName)&&(a0.vAt==a1.vAt))==true))&&((x0.vKind !=4)==false)) (vI a1.vType)), .eq (gv ((true&&(((strEq a0.vName a1.vName)&&(a0.vAt==a1.vAt))==true))&&((x0.vKind !=4)==false)) (vS v2)), .eq (gv ((true&&(((strEq a0.vName a1.vName)&&(a0.vAt==a1.vAt))==true))&&((x0.vKind !=4)==false)) (vB (strEq v1 v2))), .eq (gv (true&&(((strEq a0.vName a1.vName)&&(a0.vAt==a1.vAt))==true)) (vB ((x0.vKind !=4)||(strEq v1 v2)))), .eq (vB (((strEq a0.vName a1.vName)&&(a0.vAt==a1.vAt))&&((x0.vKind !=4)||(strEq v1 v2))))] [8,9,10,11,12,13,14,15,16,17,18,19,20,21,22,23,24,25,26,27,28,29,30,31,32,33,34,35] hmix (by kernel_rfl) rfl (stable_eq (stable_eq (stable_eq (stable_eq (stable_eq (stable_eq (stable_eq (stable_eq (stable_eq (stable_eq (stable_eq (stable_eq (stable_eq (stable_eq (stable_eq (stable_eq (stable_eq (stable_eq (stable_eq (stable_eq (stable_eq (stable_eq (stable_eq (stable_eq (stable_eq (stable_eq (stable_eq (stable_eq stable_nil)))))))))))))))))))))))))))) ⟨ob_plain rfl (fun a' w' hE hk=>by have HSd:=HS2.step hE;exact does_eq (r_fieldBox (n:=1) (o':=0) (show _=vP b1 0 from hk 5 rfl) Tryd.runUnderlying36 rfl Tryd.sizeOf9 (by decide) rfl)),ob_plain rfl (fun a' w' hE hk=>by have HSd:=HS2.step hE;exact does_eq (r_loadBox (show _=vP b1 0 from hk 8 rfl) Tryd.isAgg9 (HSd.look 1 rfl) rfl)),ob_plain rfl (fun a' w' hE hk=>by have HSd:=HS2.step hE;exact does_eq (r_fieldBox (n:=1) (o':=0) (show _=vP b2 0 from hk 6 rfl) Tryd.runUnderlying36 rfl Tryd.sizeOf9 (by decide) rfl)),ob_plain rfl (fun a' w' hE hk=>by have HSd:=HS2.step hE;exact does_eq (r_loadBox (show _=vP b2 0 from hk 10 rfl) Tryd.isAgg9 (HSd.look 0 rfl) rfl)),ob_plain rfl (fun a' w' hE hk=>by have HSd:=HS2.step hE;exact does_eq (r_streql (show _=vS a0.vName from hk 9 rfl) (show _=vS a1.vName from hk 11 rfl))),ob_plain rfl (fun a' w' hE hk=>by have HSd:=HS2.step hE;exact does_eq (r_move (show _=vB (strEq a0.vName a1.vName) from hk 12 rfl))),ob_guard (b:=(strEq a0.vName a1.vName)) (c:=true) rfl rfl (by decide) (fun w' u hu=>hu) (fun a' w' hE hk hg=>by have HSd:=HS2.step hE;exact does_eq (r_fieldBox (n:=1) (o':=2) (show _=vP b1 0 from hk 5 rfl) Tryd.runUnderlying36 rfl Tryd.sizeOf3 (by decide) rfl)),ob_guard (b:=(strEq a0.vName a1.vName)) (c:=true) rfl rfl (by decide) (fun w' u hu=>hu) (fun a' w' hE hk hg=>by have HSd:=HS2.step hE;exact does_eq (r_loadBox ((show _=gv (true&&((strEq a0.vName a1.vName)==true)) (vP b1 2) from (show _=gv (true&&((strEq a0.vName a1.vName)==true)) (vP b1 2) from hk 14 rfl)).trans (gv_t hg)) Tryd.isAgg3 (HSd.look 1 rfl) rfl)),ob_guard (b:=(strEq a0.vName a1.vName)) (c:=true) rfl rfl (by decide) (fun w' u hu=>hu) (fun a' w' hE hk hg=>by have HSd:=HS2.step hE;exact does_eq (r_fieldBox (n:=1) (o':=2) (show _=vP b2 0 from hk 6 rfl) Tryd.runUnderlying36 rfl Tryd.sizeOf3 (by decide) rfl)),ob_guard (b:=(strEq a0.vName a1.vName)) (c:=true) rfl rfl (by decide) (fun w' u hu=>hu) (fun a' w' hE hk hg=>by have HSd:=HS2.step hE;exact does_eq (r_loadBox ((show _=gv (true&&((strEq a0.vName a1.vName)==true)) (vP b2 2) from (show _=gv (true&&((strEq a0.vName a1.vName)==true)) (vP b2 2) from hk 16 rfl)).trans (gv_t hg)) Tryd.isAgg3 (HSd.look 0 rfl) rfl)),ob_guard (b:=(strEq a0.vName a1.vName)) (c:=true) rfl rfl (by decide) (fun w' u hu=>hu) (fun a' w' hE hk hg=>by have HSd:=HS2.step hE;exact does_eq (r_bin ((show _=gv (true&&((strEq a0.vName a1.vName)==true)) (vI a0.vAt) from (show _=gv (true&&((strEq a0.vName a1.vName)==true)) (vI a0.vAt) from hk 15 rfl)).trans (gv_t hg)) ((show _=gv (true&&((strEq a0.vName a1.vName)==true)) (vI a1.vAt) from (show _=gv (true&&((strEq a0.vName a1.vName)==true)) (vI a1.vAt) from hk 17 rfl)).trans (gv_t hg)) rfl)),ob_plain rfl (fun a' w' hE hk=>by have HSd:=HS2.step hE;exact does_eq (r_pick_and (show _=vB (strEq a0.vName a1.vName) from hk 13 rfl) (fun hp=>((show _=gv (true&&((strEq a0.vName a1.vName)==true)) (vB (a0.vAt==a1.vAt)) from (show _=gv (true&&((strEq a0.vName a1.vName)==true)) (vB (a0.vAt==a1.vAt)) from hk 18 rfl)).trans (gv_t (and_i rfl hp)))) rfl)),ob_plain rfl (fun a' w' hE hk=>by have HSd:=HS2.step hE;exact does_eq (r_move (show _=vB ((strEq a0.vName a1.vName)&&(a0.vAt==a1.vAt)) from hk 19 rfl))),ob_guard (b:=((strEq a0.vName a1.vName)&&(a0.vAt==a1.vAt))) (c:=true) rfl rfl (by decide) (fun w' u hu=>hu) (fun a' w' hE hk hg=>by have HSd:=HS2.step hE;exact does_eq (r_fieldBox (n:=1) (o':=0) (show _=vP bx0 0 from hk 2 rfl) Tryd.runUnderlying34 rfl Tryd.sizeOf3 (by decide) rfl)),ob_guard (b:=((strEq a0.vName a1.vName)&&(a0.vAt==a1.vAt))) (c:=true) rfl rfl (by decide) (fun w' u hu=>hu) (fun a' w' hE hk hg=>by have HSd:=HS2.step hE;exact does_eq (r_loadBox ((show _=gv (true&&(((strEq a0.vName a1.vName)&&(a0.vAt==a1.vAt))==true)) (vP bx0 0) from (show _=gv (true&&(((strEq a0.vName a1.vName)&&(a0.vAt==a1.vAt))==true)) (vP bx0 0) from hk 21 rfl)).trans (gv_t hg)) Tryd.isAgg3 (heap_ext hx0 HSd.toE) rfl)),ob_guard (b:=((strEq a0.vName a1.vName)&&(a0.vAt==a1.vAt))) (c:=true) rfl rfl (by decide) (fun w' u hu=>hu) (fun a' w' hE hk hg=>by have HSd:=HS2.step hE;exact does_eq (r_bin ((show _=gv (true&&(((strEq a0.vName a1.vName)&&(a0.vAt==a1.vAt))==true)) (vI x0.vKind) from (show _=gv (true&&(((strEq a0.vName a1.vName)&&(a0.vAt==a1.vAt))==true)) (vI x0.vKind) from hk 22 rfl)).trans (gv_t hg)) rfl rfl)),ob_guard (b:=((strEq a0.vName a1.vName)&&(a0.vAt==a1.vAt))) (c:=true) rfl rfl (by decide) (fun w' u hu=>hu) (fun a' w' hE hk hg=>by have HSd:=HS2.step hE;exact does_eq (r_move ((show _=gv (true&&(((strEq a0.vName a1.vName)&&(a0.vAt==a1.vAt))==true)) (vB (x0.vKind !=4)) from (show _=gv (true&&(((strEq a0.vName a1.vName)&&(a0.vAt==a1.vAt))==true)) (vB (x0.vKind !=4)) from hk 23 rfl)).trans (gv_t hg)))),ob_guard (b:=(x0.vKind !=4)) (c:=(true&&(((strEq a0.vName a1.vName)&&(a0.vAt==a1.vAt))==true))) rfl rfl (by decide) (fun w' u hu=>hu) (fun a' w' hE hk hg=>by have HSd:=HS2.step hE;exact does_eq (r_loadBoxAgg (n:=1) (vs:=[vL Ax1_0 x1.vDefs.length cx1_0]) (show _=vP bx1 0 from hk 3 rfl) Tryd.isAgg24 (heap_ext hx1 HSd.toE) Tryd.sizeOf24 rfl rfl)),ob_guard (b:=(x0.vKind !=4)) (c:=(true&&(((strEq a0.vName a1.vName)&&(a0.vAt==a1.vAt))==true))) rfl rfl (by decide) (fun w' u hu=>hu) (fun a' w' hE hk hg=>by have HSd:=HS2.step hE;exact does_eq (r_fieldBox (n:=1) (o':=1) (show _=vP b1 0 from hk 5 rfl) Tryd.runUnderlying36 rfl Tryd.sizeOf3 (by decide) rfl)),ob_guard (b:=(x0.vKind !=4)) (c:=(true&&(((strEq a0.vName a1.vName)&&(a0.vAt==a1.vAt))==true))) rfl rfl (by decide) (fun w' u hu=>hu) (fun a' w' hE hk hg=>by have HSd:=HS2.step hE;exact does_eq (r_loadBox ((show _=gv ((true&&(((strEq a0.vName a1.vName)&&(a0.vAt==a1.vAt))==true))&&((x0.vKind !=4)==false)) (vP b1 1) from (show _=gv ((true&&(((strEq a0.vName a1.vName)&&(a0.vAt==a1.vAt))==true))&&((x0.vKind !=4)==false)) (vP b1 1) from hk 26 rfl)).trans (gv_t hg)) Tryd.isAgg3 (HSd.look 1 rfl) rfl)),ob_guard (b:=(x0.vKind !=4)) (c:=(true&&(((strEq a0.vName a1.vName)&&(a0.vAt==a1.vAt))==true))) rfl rfl (by decide) (fun w' u hu=>hu) (fun a' w' hE hk hg=>by have HSd:=HS2.step hE;exact (does_call_eq Tryd.call53 rfl (map2 ((show _=gv ((true&&(((strEq a0.vName a1.vName)&&(a0.vAt==a1.vAt))==true))&&((x0.vKind !=4)==false)) (Value.agg #[vL Ax1_0 x1.vDefs.length cx1_0]) from (show _=gv ((true&&(((strEq a0.vName a1.vName)&&(a0.vAt==a1.vAt))==true))&&((x0.vKind !=4)==false)) (Value.agg #[vL Ax1_0 x1.vDefs.length cx1_0]) from hk 25 rfl)).trans (gv_t hg)) ((show _=gv ((true&&(((strEq a0.vName a1.vName)&&(a0.vAt==a1.vAt))==true))&&((x0.vKind !=4)==false)) (vI a0.vType) from (show _=gv ((true&&(((strEq a0.vName a1.vName)&&(a0.vAt==a1.vAt))==true))&&((x0.vKind !=4)==false)) (vI a0.vType) from hk 27 rfl)).trans (gv_t hg))) (ctf_text.calls k x1 a0.vType Ax1_0 cx1_0 HSd.sees (ht.s HSd) hrx1_0 hcx1_0 (of_pos H1 hg)))),ob_guard (b:=(x0.vKind !=4)) (c:=(true&&(((strEq a0.vName a1.vName)&&(a0.vAt==a1.vAt))==true))) rfl rfl (by decide) (fun w' u hu=>hu) (fun a' w' hE hk hg=>by have HSd:=HS2.step hE;exact does_eq (r_loadBoxAgg (n:=1) (vs:=[vL Ax2_0 x2.vDefs.length cx2_0]) (show _=vP bx2 0 from hk 4 rfl) Tryd.isAgg24 (heap_ext hx2 HSd.toE) Tryd.sizeOf24 rfl rfl)),ob_guard (b:=(x0.vKind !=4)) (c:=(true&&(((strEq a0.vName a1.vName)&&(a0.vAt==a1.vAt))==true))) rfl rfl (by decide) (fun w' u hu=>hu) (fun a' w' hE hk hg=>by have HSd:=HS2.step hE;exact does_eq (r_fieldBox (n:=1) (o':=1) (show _=vP b2 0 from hk 6 rfl) Tryd.runUnderlying36 rfl Tryd.sizeOf3 (by decide) rfl)),ob_guard (b:=(x0.vKind !=4)) (c:=(true&&(((strEq a0.vName a1.vName)&&(a0.vAt==a1.vAt))==true))) rfl rfl (by decide) (fun w' u hu=>hu) (fun a' w' hE hk hg=>by have HSd:=HS2.step hE;exact does_eq (r_loadBox ((show _=gv ((true&&(((strEq a0.vName a1.vName)&&(a0.vAt==a1.vAt))==true))&&((x0.vKind !=4)==false)) (vP b2 1) from (show _=gv ((true&&(((strEq a0.vName a1.vName)&&(a0.vAt==a1.vAt))==true))&&((x0.vKind !=4)==false)) (vP b2 1) from hk 30 rfl)).trans (gv_t hg)) Tryd.isAgg3 (HSd.look 0 rfl) rfl)),ob_guard (b:=(x0.vKind !=4)) (c:=(true&&(((strEq a0.vName a1.vName)&&(a0.vAt==a1.vAt))==true))) rfl rfl (by decide) (fun w' u hu=>hu) (fun a' w' hE hk hg=>by have HSd:=HS2.step hE;exact (does_call_eq Tryd.call53 rfl (map2 ((show _=gv ((true&&(((strEq a0.vName a1.vName)&&(a0.vAt==a1.vAt))==true))&&((x0.vKind !=4)==false)) (Value.agg #[vL Ax2_0 x2.vDefs.length cx2_0]) from (show _=gv ((true&&(((strEq a0.vName a1.vName)&&(a0.vAt==a1.vAt))==true))&&((x0.vKind !=4)==false)) (Value.agg #[vL Ax2_0 x2.vDefs.length cx2_0]) from hk 29 rfl)).trans (gv_t hg)) ((show _=gv ((true&&(((strEq a0.vName a1.vName)&&(a0.vAt==a1.vAt))==true))&&((x0.vKind !=4)==false)) (vI a1.vType) from (show _=gv ((true&&(((strEq a0.vName a1.vName)&&(a0.vAt==a1.vAt))==true))&&((x0.vKind !=4)==false)) (vI a1.vType) from hk 31 rfl)).trans (gv_t hg))) (ctf_text.calls k x2 a1.vType Ax2_0 cx2_0 HSd.sees (ht.s HSd) hrx2_0 hcx2_0 (of_pos H2 hg)))),ob_guard (b:=(x0.vKind !=4)) (c:=(true&&(((strEq a0.vName a1.vName)&&(a0.vAt==a1.vAt))==true))) rfl rfl (by decide) (fun w' u hu=>hu) (fun a' w' hE hk hg=>by have HSd:=HS2.step hE;exact does_eq (r_streql ((show _=gv ((true&&(((strEq a0.vName a1.vName)&&(a0.vAt==a1.vAt))==true))&&((x0.vKind !=4)==false)) (vS v1) from (show _=gv ((true&&(((strEq a0.vName a1.vName)&&(a0.vAt==a1.vAt))==true))&&((x0.vKind !=4)==false)) (vS v1) from hk 28 rfl)).trans (gv_t hg)) ((show _=gv ((true&&(((strEq a0.vName a1.vName)&&(a0.vAt==a1.vAt))==true))&&((x0.vKind !=4)==false)) (vS v2) from (show _=gv ((true&&(((strEq a0.vName a1.vName)&&(a0.vAt==a1.vAt))==true))&&((x0.vKind !=4)==false)) (vS v2) from hk 32 rfl)).trans (gv_t hg)))),ob_guard (b:=((strEq a0.vName a1.vName)&&(a0.vAt==a1.vAt))) (c:=true) rfl rfl (by decide) (fun w' u hu=>hu) (fun a' w' hE hk hg=>by have HSd:=HS2.step hE;exact does_eq (r_pick_or ((show _=gv (true&&(((strEq a0.vName a1.vName)&&(a0.vAt==a1.vAt))==true)) (vB (x0.vKind !=4)) from (show _=gv (true&&(((strEq a0.vName a1.vName)&&(a0.vAt==a1.vAt))==true)) (vB (x0.vKind !=4)) from hk 24 rfl)).trans (gv_t hg)) rfl (fun hp=>((show _=gv ((true&&(((strEq a0.vName a1.vName)&&(a0.vAt==a1.vAt))==true))&&((x0.vKind !=4)==false)) (vB (strEq v1 v2)) from (show _=gv ((true&&(((strEq a0.vName a1.vName)&&(a0.vAt==a1.vAt))==true))&&((x0.vKind !=4)==false)) (vB (strEq v1 v2)) from hk 33 rfl)).trans (gv_t (and_i hg hp)))))),ob_plain rfl (fun a' w' hE hk=>by have HSd:=HS2.step hE;exact does_eq (r_pick_and (show _=vB ((strEq a0.vName a1.vName)&&(a0.vAt==a1.vAt)) from hk 20 rfl) (fun hp=>((show _=gv (true&&(((strEq a0.vName a1.vName)&&(a0.vAt==a1.vAt))==true)) (vB ((x0.vKind !=4)||(strEq v1 v2))) from (show _=gv (true&&(((strEq a0.vName a1.vName)&&(a0.vAt==a1.vAt))==true)) (vB ((x0.vKind !=4)||(strEq v1 v2))) from hk 34 rfl)).trans (gv_t (and_i rfl hp)))) rfl)),trivial⟩ ?_
 intro w3 hE3
 simp only [List.zip_cons_cons,List.zip_nil_left,List.zip_nil_right,finL,sc0,sc1,List.length_cons,List.length_nil,List.drop_succ_cons,List.drop_zero,Nat.zero_add,Nat.reduceAdd]
 have HS3:=HS2.step hE3
 refine rs (vB (((strEq a0.vName a1.vName)&&(a0.vAt==a1.vAt))&&((x0.vKind !=4)||(strEq v1 v2)))) (r_assign rfl) ?_
 try simp only [sc0,sc1]
 refine run_nil<|norm_then<|wp_ret ?_
 obtain rfl:=Option.some.inj H
 exact bodyPost_ret (results_1 rfl (one_tmp rfl)) rfl<|⟨rfl,HS3.toE⟩
def ctf_alike.f (k:Nat) (a0:api_Types) (a1:api_Def) (a2:api_Types) (a3:api_Def):Option (Bool):=if ((((a1.vKind !=a3.vKind)||(!(strEq a1.vName a3.vName)))||(!((a1.vInt.vSize==a3.vInt.vSize)&&((a1.vInt.vSigned==a3.vInt.vSigned)&&true))))||(a1.vN !=a3.vN))=true then (some false) else ((ctf_shapes.f).bind fun v1=>((if (true&&(((mfind ieq v1 a1.vKind).getD z_ctf_shape).vref==true))=true then ctf_text.f k a0 a1.vRef else some ByteArray.empty).bind fun v2=>((if (true&&(((mfind ieq v1 a1.vKind).getD z_ctf_shape).vref==true))=true then ctf_text.f k a2 a3.vRef else some ByteArray.empty).bind fun v3=>(if (((mfind ieq v1 a1.vKind).getD z_ctf_shape).vref&&(!(strEq v2 v3)))=true then (some false) else ((slices_EqualFunc_api_Field_api_Field_api_Field_api_Field.f k a1.vFields a3.vFields (fun z0 z1=>ctf_alike_1.f k z0 z1 a1 a0 a2)).bind fun v4=>(some v4))))))
theorem ctf_alike.calls (k:Nat) (a0:api_Types) (a1:api_Def) (a2:api_Types) (a3:api_Def) (A0_0:Option Addr) (c0_0:Nat) (A1_6:Option Addr) (c1_6:Nat) (A2_0:Option Addr) (c2_0:Nat) (A3_6:Option Addr) (c3_6:Nat) {h0:View} {w0:World} (hv:Sees h0 w0) (ht:Tab w0) (hr0_0:Rd k_api_Def h0 A0_0 a0.vDefs) (hc0_0:a0.vDefs.length≤c0_0) (hr1_6:Rd k_api_Field h0 A1_6 a1.vFields) (hc1_6:a1.vFields.length≤c1_6) (hr2_0:Rd k_api_Def h0 A2_0 a2.vDefs) (hc2_0:a2.vDefs.length≤c2_0) (hr3_6:Rd k_api_Field h0 A3_6 a3.vFields) (hc3_6:a3.vFields.length≤c3_6) {r:Bool} (H:ctf_alike.f k a0 a1 a2 a3=some r):Calls Tryd.prog 104 #[Value.agg #[vL A0_0 a0.vDefs.length c0_0],Value.agg #[vI a1.vKind,vS a1.vName,vI a1.vInt.vSize,vB a1.vInt.vSigned,vI a1.vRef,vI a1.vN,vL A1_6 a1.vFields.length c1_6],Value.agg #[vL A2_0 a2.vDefs.length c2_0],Value.agg #[vI a3.vKind,vS a3.vName,vI a3.vInt.vSize,vB a3.vInt.vSigned,vI a3.vRef,vI a3.vN,vL A3_6 a3.vFields.length c3_6]] w0 (fun e w1=>e= .returned (vB r)∧Ext w0 w1):=by
 unfold ctf_alike.f at H
 have HS:St [] h0 w0 h0 [] w0:=St.init hv
 go_enter Tryd.func104,Tryd.ntmps104
 refine wp_seq<|region<|run_ex rfl rfl (does_box (cs:=#[vL A0_0 a0.vDefs.length c0_0]) rfl rfl) ?_
 rintro w1 _ hE1 ⟨b1,rfl,ge1,hb1⟩
 have HS1:=HS.new hE1 ge1 hb1
 refine run_ex rfl rfl (does_box (cs:=#[vI a1.vKind,vS a1.vName,vI a1.vInt.vSize,vB a1.vInt.vSigned,vI a1.vRef,vI a1.vN,vL A1_6 a1.vFields.length c1_6]) rfl rfl) ?_
 rintro w2 _ hE2 ⟨b2,rfl,ge2,hb2⟩
 have HS2:=HS1.new hE2 ge2 hb2
 refine run_ex rfl rfl (does_box (cs:=#[vL A2_0 a2.vDefs.length c2_0]) rfl rfl) ?_
 rintro w3 _ hE3 ⟨b3,rfl,ge3,hb3⟩
 have HS3:=HS2.new hE3 ge3 hb3
 refine run_ex rfl rfl (does_box (cs:=#[vI a3.vKind,vS a3.vName,vI a3.vInt.vSize,vB a3.vInt.vSigned,vI a3.vRef,vI a3.vN,vL A3_6 a3.vFields.length c3_6]) rfl rfl) ?_
 rintro w4 _ hE4 ⟨b4,rfl,ge4,hb4⟩
 have HS4:=HS3.new hE4 ge4 hb4
 refine run_frame (by simp only [sc0,sc1];rfl) ?_
 refine rs (vB false) (r_assign rfl) ?_
 try simp only [sc0,sc1]
 refine run_nil<|norm_then<|wp_seq<|wp_seq<|region<|rs (vP b2 0) (r_fieldBox (n:=1) (o':=0) rfl Tryd.runUnderlying34 rfl Tryd.sizeOf3 (by decide) rfl)<|rs (vI a1.vKind) (r_loadBox rfl Tryd.isAgg3 (HS4.look 2 rfl) rfl)<|rs (vP b4 0) (r_fieldBox (n:=1) (o':=0) rfl Tryd.runUnderlying34 rfl Tryd.sizeOf3 (by decide) rfl)<|rs (vI a3.vKind) (r_loadBox rfl Tryd.isAgg3 (HS4.look 0 rfl) rfl)<|run_frame (by simp only [sc0,sc1];rfl) ?_
 refine rs (vB (a1.vKind !=a3.vKind)) (r_bin rfl rfl rfl)<|rs (vB (a1.vKind !=a3.vKind)) (r_move rfl)<|rgs (a1.vKind !=a3.vKind) true (vP b2 1) rfl rfl rfl rfl (fun hg=>(r_fieldBox (n:=1) (o':=1) rfl Tryd.runUnderlying34 rfl Tryd.sizeOf9 (by decide) rfl))<|rgs (a1.vKind !=a3.vKind) true (vS a1.vName) rfl rfl rfl rfl (fun hg=>(r_loadBox (gvt (vP b2 1) hg rfl) Tryd.isAgg9 (HS4.look 2 rfl) rfl))<|run_frame (by simp only [sc0,sc1];rfl) ?_
 refine rgs (a1.vKind !=a3.vKind) true (vP b4 1) rfl rfl rfl rfl (fun hg=>(r_fieldBox (n:=1) (o':=1) rfl Tryd.runUnderlying34 rfl Tryd.sizeOf9 (by decide) rfl))<|rgs (a1.vKind !=a3.vKind) true (vS a3.vName) rfl rfl rfl rfl (fun hg=>(r_loadBox (gvt (vP b4 1) hg rfl) Tryd.isAgg9 (HS4.look 0 rfl) rfl))<|rgs (a1.vKind !=a3.vKind) true (vB (!(strEq a1.vName a3.vName))) rfl rfl rfl rfl (fun hg=>(r_strneq (gvt (vS a1.vName) hg rfl) (gvt (vS a3.vName) hg rfl)))<|rs (vB ((a1.vKind !=a3.vKind)||(!(strEq a1.vName a3.vName)))) (r_pick_or rfl rfl (fun hp=>(gvt (vB (!(strEq a1.vName a3.vName))) (and_i rfl hp) rfl)))<|run_frame (by simp only [sc0,sc1];rfl) ?_
 refine rs (vB ((a1.vKind !=a3.vKind)||(!(strEq a1.vName a3.vName)))) (r_move rfl)<|rgs ((a1.vKind !=a3.vKind)||(!(strEq a1.vName a3.vName))) true (vP b2 2) rfl rfl rfl rfl (fun hg=>(r_fieldBox (n:=2) (o':=2) rfl Tryd.runUnderlying34 rfl Tryd.sizeOf31 (by decide) rfl))<|rgs ((a1.vKind !=a3.vKind)||(!(strEq a1.vName a3.vName))) true (Value.agg #[vI a1.vInt.vSize,vB a1.vInt.vSigned]) rfl rfl rfl rfl (fun hg=>(r_loadBoxAgg (n:=2) (vs:=[vI a1.vInt.vSize,vB a1.vInt.vSigned]) (gvt (vP b2 2) hg rfl) Tryd.isAgg31 (HS4.look 2 rfl) Tryd.sizeOf31 rfl rfl))<|rgs ((a1.vKind !=a3.vKind)||(!(strEq a1.vName a3.vName))) true (vP b4 2) rfl rfl rfl rfl (fun hg=>(r_fieldBox (n:=2) (o':=2) rfl Tryd.runUnderlying34 rfl Tryd.sizeOf31 (by decide) rfl))<|run_frame (by simp only [sc0,sc1];rfl) ?_
 refine rgs ((a1.vKind !=a3.vKind)||(!(strEq a1.vName a3.vName))) true (Value.agg #[vI a3.vInt.vSize,vB a3.vInt.vSigned]) rfl rfl rfl rfl (fun hg=>(r_loadBoxAgg (n:=2) (vs:=[vI a3.vInt.vSize,vB a3.vInt.vSigned]) (gvt (vP b4 2) hg rfl) Tryd.isAgg31 (HS4.look 0 rfl) Tryd.sizeOf31 rfl rfl))<|rgs ((a1.vKind !=a3.vKind)||(!(strEq a1.vName a3.vName))) true (vB (!((a1.vInt.vSize==a3.vInt.vSize)&&((a1.vInt.vSigned==a3.vInt.vSigned)&&true)))) rfl rfl rfl rfl (fun hg=>(r_aggneq (gvt (Value.agg #[vI a1.vInt.vSize,vB a1.vInt.vSigned]) hg rfl) (gvt (Value.agg #[vI a3.vInt.vSize,vB a3.vInt.vSigned]) hg rfl) Tryd.eqGuardType31 (eqr_agg Tryd.stoodInHeld31 Tryd.underlying31 (eqf_cons (by decide) (part_one Tryd.isAgg3 rfl) (part_one Tryd.isAgg3 rfl) (eqr_int Tryd.underlying3) (eqf_cons (by decide) (part_one Tryd.isAgg4 rfl) (part_one Tryd.isAgg4 rfl) (eqr_bool Tryd.underlying4) eqf_nil)))))<|rs (vB (((a1.vKind !=a3.vKind)||(!(strEq a1.vName a3.vName)))||(!((a1.vInt.vSize==a3.vInt.vSize)&&((a1.vInt.vSigned==a3.vInt.vSigned)&&true))))) (r_pick_or rfl rfl (fun hp=>(gvt (vB (!((a1.vInt.vSize==a3.vInt.vSize)&&((a1.vInt.vSigned==a3.vInt.vSigned)&&true)))) (and_i rfl hp) rfl)))<|rs (vB (((a1.vKind !=a3.vKind)||(!(strEq a1.vName a3.vName)))||(!((a1.vInt.vSize==a3.vInt.vSize)&&((a1.vInt.vSigned==a3.vInt.vSigned)&&true))))) (r_move rfl)<|run_frame (by simp only [sc0,sc1];rfl) ?_
 refine rgs (((a1.vKind !=a3.vKind)||(!(strEq a1.vName a3.vName)))||(!((a1.vInt.vSize==a3.vInt.vSize)&&((a1.vInt.vSigned==a3.vInt.vSigned)&&true)))) true (vP b2 5) rfl rfl rfl rfl (fun hg=>(r_fieldBox (n:=1) (o':=5) rfl Tryd.runUnderlying34 rfl Tryd.sizeOf3 (by decide) rfl))<|rgs (((a1.vKind !=a3.vKind)||(!(strEq a1.vName a3.vName)))||(!((a1.vInt.vSize==a3.vInt.vSize)&&((a1.vInt.vSigned==a3.vInt.vSigned)&&true)))) true (vI a1.vN) rfl rfl rfl rfl (fun hg=>(r_loadBox (gvt (vP b2 5) hg rfl) Tryd.isAgg3 (HS4.look 2 rfl) rfl))<|rgs (((a1.vKind !=a3.vKind)||(!(strEq a1.vName a3.vName)))||(!((a1.vInt.vSize==a3.vInt.vSize)&&((a1.vInt.vSigned==a3.vInt.vSigned)&&true)))) true (vP b4 5) rfl rfl rfl rfl (fun hg=>(r_fieldBox (n:=1) (o':=5) rfl Tryd.runUnderlying34 rfl Tryd.sizeOf3 (by decide) rfl))<|rgs (((a1.vKind !=a3.vKind)||(!(strEq a1.vName a3.vName)))||(!((a1.vInt.vSize==a3.vInt.vSize)&&((a1.vInt.vSigned==a3.vInt.vSigned)&&true)))) true (vI a3.vN) rfl rfl rfl rfl (fun hg=>(r_loadBox (gvt (vP b4 5) hg rfl) Tryd.isAgg3 (HS4.look 0 rfl) rfl))<|run_frame (by simp only [sc0,sc1];rfl) ?_
 refine rgs (((a1.vKind !=a3.vKind)||(!(strEq a1.vName a3.vName)))||(!((a1.vInt.vSize==a3.vInt.vSize)&&((a1.vInt.vSigned==a3.vInt.vSigned)&&true)))) true (vB (a1.vN !=a3.vN)) rfl rfl rfl rfl (fun hg=>(r_bin (gvt (vI a1.vN) hg rfl) (gvt (vI a3.vN) hg rfl) rfl))<|rs (vB ((((a1.vKind !=a3.vKind)||(!(strEq a1.vName a3.vName)))||(!((a1.vInt.vSize==a3.vInt.vSize)&&((a1.vInt.vSigned==a3.vInt.vSigned)&&true))))||(a1.vN !=a3.vN))) (r_pick_or rfl rfl (fun hp=>(gvt (vB (a1.vN !=a3.vN)) (and_i rfl hp) rfl))) ?_
 try simp only [sc0,sc1]
 refine run_nil<|norm_then<|wp_cond_split (t:=((((a1.vKind !=a3.vKind)||(!(strEq a1.vName a3.vName)))||(!((a1.vInt.vSize==a3.vInt.vSize)&&((a1.vInt.vSigned==a3.vInt.vSigned)&&true))))||(a1.vN !=a3.vN))) rfl (fun c1=>?_) (fun c1=>?_)
 ·replace H:=of_pos H c1
  refine wp_seq<|region<|rs (vB false) (r_assign rfl) ?_
  try simp only [sc0,sc1]
  refine run_nil<|norm_then<|wp_ret<|ret_then ?_
  obtain rfl:=Option.some.inj H
  exact bodyPost_ret (results_1 rfl (one_tmp rfl)) rfl<|⟨rfl,HS4.toE⟩
 ·replace H:=of_neg H (nt c1)
  refine wp_skip<|norm_then<|wp_seq<|wp_seq ?_
  obtain ⟨v1,H1,H⟩:=of_bind H
  obtain ⟨v2,H2,H⟩:=of_bind H
  obtain ⟨v3,H3,H⟩:=of_bind H
  refine drawn [.ex (NewMap w4 (vI) e_ctf_shape v1), .eq (vP b2 0), .eq (vI a1.vKind), .eq (Value.agg #[vB (((mfind ieq v1 a1.vKind).getD z_ctf_shape).vname),vB (((mfind ieq v1 a1.vKind).getD z_ctf_shape).vint),vB (((mfind ieq v1 a1.vKind).getD z_ctf_shape).vref),vB (((mfind ieq v1 a1.vKind).getD z_ctf_shape).vn),vB (((mfind ieq v1 a1.vKind).getD z_ctf_shape).vfields)]), .eq (vB (((mfind ieq v1 a1.vKind).getD z_ctf_shape).vref)), .eq (vB (((mfind ieq v1 a1.vKind).getD z_ctf_shape).vref)), .eq (gv (true&&(((mfind ieq v1 a1.vKind).getD z_ctf_shape).vref==true)) (Value.agg #[vL A0_0 a0.vDefs.length c0_0])), .eq (gv (true&&(((mfind ieq v1 a1.vKind).getD z_ctf_shape).vref==true)) (vP b2 4)), .eq (gv (true&&(((mfind ieq v1 a1.vKind).getD z_ctf_shape).vref==true)) (vI a1.vRef)), .eq (gv (true&&(((mfind ieq v1 a1.vKind).getD z_ctf_shape).vref==true)) (vS v2)), .eq (gv (true&&(((mfind ieq v1 a1.vKind).getD z_ctf_shape).vref==true)) (Value.agg #[vL A2_0 a2.vDefs.length c2_0])), .eq (gv (true&&(((mfind ieq v1 a1.vKind).getD z_ctf_shape).vref==true)) (vP b4 4)), .eq (gv (true&&(((mfind ieq v1 a1.vKind).getD z_ctf_shape).vref==true)) (vI a3.vRef)), .eq (gv (true&&(((mfind ieq v1 a1.vKind).getD z_ctf_shape).vref==true)) (vS v3)), .eq (gv (true&&(((mfind ieq v1 a1.vKind).getD z_ctf_shape).vref==true)) (vB (!(strEq v2 v3)))), .eq (vB (((mfind ieq v1 a1.vKind).getD z_ctf_shape).vref&&(!(strEq v2 v3))))] [35,36,37,38,39,40,41,42,43,44,45,46,47,48,49,50] hmix (by kernel_rfl) rfl (stable_ex NewMap.stable (stable_eq (stable_eq (stable_eq (stable_eq (stable_eq (stable_eq (stable_eq (stable_eq (stable_eq (stable_eq (stable_eq (stable_eq (stable_eq (stable_eq (stable_eq stable_nil)))))))))))))))) ⟨ob_plain rfl (fun a' w' hE hk=>by have HSd:=HS4.step hE;exact does_call Tryd.call116 rfl (map_in hE (ctf_shapes.calls HSd.sees H1)) rfl),ob_plain rfl (fun a' w' hE hk=>by have HSd:=HS4.step hE;exact does_eq (r_fieldBox (n:=1) (o':=0) (show _=vP b2 0 from hk 5 rfl) Tryd.runUnderlying34 rfl Tryd.sizeOf3 (by decide) rfl)),ob_plain rfl (fun a' w' hE hk=>by have HSd:=HS4.step hE;exact does_eq (r_loadBox (show _=vP b2 0 from hk 36 rfl) Tryd.isAgg3 (HSd.look 2 rfl) rfl)),ob_plain rfl (fun a' w' hE hk=>by obtain ⟨_,_,_,e35,_,hb35,ho35⟩:=hk 35 rfl;have HSd:=HS4.step hE;exact does_eq (r_mget (key_int Tryd.runUnderlying3) (k:=a1.vKind) (m:=v1) (ev:=e_ctf_shape) z_ctf_shape e35 (show _=vI a1.vKind from hk 37 rfl) Tryd.runUnderlying172 Tryd.zeroValue171 hb35 ho35)),ob_plain rfl (fun a' w' hE hk=>by have HSd:=HS4.step hE;exact does_eq (r_field (show _=Value.agg #[vB (((mfind ieq v1 a1.vKind).getD z_ctf_shape).vname),vB (((mfind ieq v1 a1.vKind).getD z_ctf_shape).vint),vB (((mfind ieq v1 a1.vKind).getD z_ctf_shape).vref),vB (((mfind ieq v1 a1.vKind).getD z_ctf_shape).vn),vB (((mfind ieq v1 a1.vKind).getD z_ctf_shape).vfields)] from hk 38 rfl) Tryd.runUnderlying171 rfl Tryd.isAgg4 rfl)),ob_plain rfl (fun a' w' hE hk=>by have HSd:=HS4.step hE;exact does_eq (r_move (show _=vB (((mfind ieq v1 a1.vKind).getD z_ctf_shape).vref) from hk 39 rfl))),ob_guard (b:=((mfind ieq v1 a1.vKind).getD z_ctf_shape).vref) (c:=true) rfl rfl (by decide) (fun w' u hu=>hu) (fun a' w' hE hk hg=>by have HSd:=HS4.step hE;exact does_eq (r_loadBoxAgg (n:=1) (vs:=[vL A0_0 a0.vDefs.length c0_0]) (show _=vP b1 0 from hk 4 rfl) Tryd.isAgg24 (HSd.look 3 rfl) Tryd.sizeOf24 rfl rfl)),ob_guard (b:=((mfind ieq v1 a1.vKind).getD z_ctf_shape).vref) (c:=true) rfl rfl (by decide) (fun w' u hu=>hu) (fun a' w' hE hk hg=>by have HSd:=HS4.step hE;exact does_eq (r_fieldBox (n:=1) (o':=4) (show _=vP b2 0 from hk 5 rfl) Tryd.runUnderlying34 rfl Tryd.sizeOf3 (by decide) rfl)),ob_guard (b:=((mfind ieq v1 a1.vKind).getD z_ctf_shape).vref) (c:=true) rfl rfl (by decide) (fun w' u hu=>hu) (fun a' w' hE hk hg=>by have HSd:=HS4.step hE;exact does_eq (r_loadBox ((show _=gv (true&&(((mfind ieq v1 a1.vKind).getD z_ctf_shape).vref==true)) (vP b2 4) from (show _=gv (true&&(((mfind ieq v1 a1.vKind).getD z_ctf_shape).vref==true)) (vP b2 4) from hk 42 rfl)).trans (gv_t hg)) Tryd.isAgg3 (HSd.look 2 rfl) rfl)),ob_guard (b:=((mfind ieq v1 a1.vKind).getD z_ctf_shape).vref) (c:=true) rfl rfl (by decide) (fun w' u hu=>hu) (fun a' w' hE hk hg=>by have HSd:=HS4.step hE;exact (does_call_eq Tryd.call53 rfl (map2 ((show _=gv (true&&(((mfind ieq v1 a1.vKind).getD z_ctf_shape).vref==true)) (Value.agg #[vL A0_0 a0.vDefs.length c0_0]) from (show _=gv (true&&(((mfind ieq v1 a1.vKind).getD z_ctf_shape).vref==true)) (Value.agg #[vL A0_0 a0.vDefs.length c0_0]) from hk 41 rfl)).trans (gv_t hg)) ((show _=gv (true&&(((mfind ieq v1 a1.vKind).getD z_ctf_shape).vref==true)) (vI a1.vRef) from (show _=gv (true&&(((mfind ieq v1 a1.vKind).getD z_ctf_shape).vref==true)) (vI a1.vRef) from hk 43 rfl)).trans (gv_t hg))) (ctf_text.calls k a0 a1.vRef A0_0 c0_0 HSd.sees (ht.s HSd) hr0_0 hc0_0 (of_pos H2 hg)))),ob_guard (b:=((mfind ieq v1 a1.vKind).getD z_ctf_shape).vref) (c:=true) rfl rfl (by decide) (fun w' u hu=>hu) (fun a' w' hE hk hg=>by have HSd:=HS4.step hE;exact does_eq (r_loadBoxAgg (n:=1) (vs:=[vL A2_0 a2.vDefs.length c2_0]) (show _=vP b3 0 from hk 6 rfl) Tryd.isAgg24 (HSd.look 1 rfl) Tryd.sizeOf24 rfl rfl)),ob_guard (b:=((mfind ieq v1 a1.vKind).getD z_ctf_shape).vref) (c:=true) rfl rfl (by decide) (fun w' u hu=>hu) (fun a' w' hE hk hg=>by have HSd:=HS4.step hE;exact does_eq (r_fieldBox (n:=1) (o':=4) (show _=vP b4 0 from hk 7 rfl) Tryd.runUnderlying34 rfl Tryd.sizeOf3 (by decide) rfl)),ob_guard (b:=((mfind ieq v1 a1.vKind).getD z_ctf_shape).vref) (c:=true) rfl rfl (by decide) (fun w' u hu=>hu) (fun a' w' hE hk hg=>by have HSd:=HS4.step hE;exact does_eq (r_loadBox ((show _=gv (true&&(((mfind ieq v1 a1.vKind).getD z_ctf_shape).vref==true)) (vP b4 4) from (show _=gv (true&&(((mfind ieq v1 a1.vKind).getD z_ctf_shape).vref==true)) (vP b4 4) from hk 46 rfl)).trans (gv_t hg)) Tryd.isAgg3 (HSd.look 0 rfl) rfl)),ob_guard (b:=((mfind ieq v1 a1.vKind).getD z_ctf_shape).vref) (c:=true) rfl rfl (by decide) (fun w' u hu=>hu) (fun a' w' hE hk hg=>by have HSd:=HS4.step hE;exact (does_call_eq Tryd.call53 rfl (map2 ((show _=gv (true&&(((mfind ieq v1 a1.vKind).getD z_ctf_shape).vref==true)) (Value.agg #[vL A2_0 a2.vDefs.length c2_0]) from (show _=gv (true&&(((mfind ieq v1 a1.vKind).getD z_ctf_shape).vref==true)) (Value.agg #[vL A2_0 a2.vDefs.length c2_0]) from hk 45 rfl)).trans (gv_t hg)) ((show _=gv (true&&(((mfind ieq v1 a1.vKind).getD z_ctf_shape).vref==true)) (vI a3.vRef) from (show _=gv (true&&(((mfind ieq v1 a1.vKind).getD z_ctf_shape).vref==true)) (vI a3.vRef) from hk 47 rfl)).trans (gv_t hg))) (ctf_text.calls k a2 a3.vRef A2_0 c2_0 HSd.sees (ht.s HSd) hr2_0 hc2_0 (of_pos H3 hg)))),ob_guard (b:=((mfind ieq v1 a1.vKind).getD z_ctf_shape).vref) (c:=true) rfl rfl (by decide) (fun w' u hu=>hu) (fun a' w' hE hk hg=>by have HSd:=HS4.step hE;exact does_eq (r_strneq ((show _=gv (true&&(((mfind ieq v1 a1.vKind).getD z_ctf_shape).vref==true)) (vS v2) from (show _=gv (true&&(((mfind ieq v1 a1.vKind).getD z_ctf_shape).vref==true)) (vS v2) from hk 44 rfl)).trans (gv_t hg)) ((show _=gv (true&&(((mfind ieq v1 a1.vKind).getD z_ctf_shape).vref==true)) (vS v3) from (show _=gv (true&&(((mfind ieq v1 a1.vKind).getD z_ctf_shape).vref==true)) (vS v3) from hk 48 rfl)).trans (gv_t hg)))),ob_plain rfl (fun a' w' hE hk=>by have HSd:=HS4.step hE;exact does_eq (r_pick_and (show _=vB (((mfind ieq v1 a1.vKind).getD z_ctf_shape).vref) from hk 40 rfl) (fun hp=>((show _=gv (true&&(((mfind ieq v1 a1.vKind).getD z_ctf_shape).vref==true)) (vB (!(strEq v2 v3))) from (show _=gv (true&&(((mfind ieq v1 a1.vKind).getD z_ctf_shape).vref==true)) (vB (!(strEq v2 v3))) from hk 49 rfl)).trans (gv_t (and_i rfl hp)))) rfl)),trivial⟩ ?_
  intro w5 hE5
  simp only [List.zip_cons_cons,List.zip_nil_left,List.zip_nil_right,finL,sc0,sc1,List.length_cons,List.length_nil,List.drop_succ_cons,List.drop_zero,Nat.zero_add,Nat.reduceAdd]
  rintro _ ⟨b5,es1,cl1,rfl,ge5,hb5,ho1⟩
  have HS5:=HS4.new hE5 ge5 hb5
  refine run_nil<|norm_then<|wp_cond_split (t:=(((mfind ieq v1 a1.vKind).getD z_ctf_shape).vref&&(!(strEq v2 v3)))) rfl (fun c2=>?_) (fun c2=>?_)
  ·replace H:=of_pos H c2
   refine wp_seq<|region<|rs (vB false) (r_assign rfl) ?_
   try simp only [sc0,sc1]
   refine run_nil<|norm_then<|wp_ret<|ret_then ?_
   obtain rfl:=Option.some.inj H
   exact bodyPost_ret (results_1 rfl (one_tmp rfl)) rfl<|⟨rfl,HS5.toE⟩
  ·replace H:=of_neg H (nt c2)
   refine wp_skip<|norm_then<|wp_seq<|region<|rs (vP b2 6) (r_fieldBox (n:=1) (o':=6) rfl Tryd.runUnderlying34 rfl Tryd.sizeOf32 (by decide) rfl)<|rs (vL A1_6 a1.vFields.length c1_6) (r_loadBox rfl Tryd.isAgg32 (HS5.look 3 rfl) rfl)<|rs (vP b4 6) (r_fieldBox (n:=1) (o':=6) rfl Tryd.runUnderlying34 rfl Tryd.sizeOf32 (by decide) rfl)<|rs (vL A3_6 a3.vFields.length c3_6) (r_loadBox rfl Tryd.isAgg32 (HS5.look 1 rfl) rfl)<|run_frame (by simp only [sc0,sc1];rfl) ?_
   refine rs (Value.func (.func 123) #[] #[vP b2 0,vP b1 0,vP b3 0]) (r_makeFunc (vs:=[vP b2 0,vP b1 0,vP b3 0]) rfl) ?_
   obtain ⟨v4,H4,H⟩:=of_bind H
   refine run_eq (v:=vB v4) rfl rfl (does_call_eq Tryd.call122 rfl rfl (slices_EqualFunc_api_Field_api_Field_api_Field_api_Field.calls k a1.vFields a3.vFields (fun z0 z1=>ctf_alike_1.f k z0 z1 a1 a0 a2) A1_6 c1_6 A3_6 c3_6 123 [vP b2 0,vP b1 0,vP b3 0] HS5.sees hr1_6 hc1_6 hr3_6 hc3_6 Tryd.call123 (fun z0 z1 h w hE hs hv r H=>ctf_alike_1.calls k z0 z1 a1 a0 a2 b2 A1_6 c1_6 b1 A0_0 c0_0 b3 A2_0 c2_0 hv ((ht.s HS5).e hE) (hr1_6.ext hs) hc1_6 (heap_ext (HS5.look 3 rfl) hE) (hr0_0.ext hs) hc0_0 (heap_ext (HS5.look 4 rfl) hE) (hr2_0.ext hs) hc2_0 (heap_ext (HS5.look 2 rfl) hE) H) H4)) ?_
   intro w6 hE6
   have HS6:=HS5.step hE6
   refine rs (vB v4) (r_assign rfl) ?_
   try simp only [sc0,sc1]
   refine run_nil<|norm_then<|wp_ret ?_
   obtain rfl:=Option.some.inj H
   exact bodyPost_ret (results_1 rfl (one_tmp rfl)) rfl<|⟨rfl,HS6.toE⟩
def ctf_equal.l0 (k:Nat) (a0:api_Types) (a2:api_Types) (kyy1:Int) (kzy1:Bool):Option ((Bool)⊕Unit):=if 0≤kyy1∧kyy1<a0.vDefs.length then ((ctf_named.f (rd z_api_Def a0.vDefs kyy1)).bind fun v4=>(if v4=true then ((ctf_find.f k a2 ((rd z_api_Def a0.vDefs kyy1).vName)).bind fun v5=>(if (true&&((decide (v5<0))==false))=true→(0≤v5∧v5<a2.vDefs.length) then ((if (true&&((decide (v5<0))==false))=true then ctf_alike.f k a0 (rd z_api_Def a0.vDefs kyy1) a2 (rd z_api_Def a2.vDefs v5) else some false).bind fun v6=>(if ((decide (v5<0))||(!v6))=true then (some (.inl false)) else (some (.inr ())))) else none)) else (some (.inr ())))) else none
def ctf_equal.f (k:Nat) (a0:api_Types) (a1:Int) (a2:api_Types) (a3:Int):Option (Bool):=(ctf_text.f k a0 a1).bind fun v1=>((ctf_text.f k a2 a3).bind fun v2=>(if (!(strEq v1 v2))=true then (some false) else ((ctf_reached.f k a0 ([a1]:List Int)).bind fun v3=>((allK (ctf_equal.l0 k a0 a2) v3).bind fun xx1=>(match xx1 with| .inl r=>some r| .inr s1=>some true)))))
theorem ctf_equal.calls (k:Nat) (a0:api_Types) (a1:Int) (a2:api_Types) (a3:Int) (A0_0:Option Addr) (c0_0:Nat) (A2_0:Option Addr) (c2_0:Nat) {h0:View} {w0:World} (hv:Sees h0 w0) (ht:Tab w0) (hr0_0:Rd k_api_Def h0 A0_0 a0.vDefs) (hc0_0:a0.vDefs.length≤c0_0) (hr2_0:Rd k_api_Def h0 A2_0 a2.vDefs) (hc2_0:a2.vDefs.length≤c2_0) {r:Bool} (H:ctf_equal.f k a0 a1 a2 a3=some r):Calls Tryd.prog 61 #[Value.agg #[vL A0_0 a0.vDefs.length c0_0],vI a1,Value.agg #[vL A2_0 a2.vDefs.length c2_0],vI a3] w0 (fun e w1=>e= .returned (vB r)∧Ext w0 w1):=by
 unfold ctf_equal.f at H
 have HS:St [] h0 w0 h0 [] w0:=St.init hv
 go_enter Tryd.func61,Tryd.ntmps61
 refine wp_seq<|region<|run_ex rfl rfl (does_box (cs:=#[vL A0_0 a0.vDefs.length c0_0]) rfl rfl) ?_
 rintro w1 _ hE1 ⟨b1,rfl,ge1,hb1⟩
 have HS1:=HS.new hE1 ge1 hb1
 refine run_ex rfl rfl (does_box (cs:=#[vL A2_0 a2.vDefs.length c2_0]) rfl rfl) ?_
 rintro w2 _ hE2 ⟨b2,rfl,ge2,hb2⟩
 have HS2:=HS1.new hE2 ge2 hb2
 refine rs (vB false) (r_assign rfl) ?_
 try simp only [sc0,sc1]
 refine run_nil<|norm_then<|wp_seq<|wp_seq ?_
 obtain ⟨v1,H1,H⟩:=of_bind H
 obtain ⟨v2,H2,H⟩:=of_bind H
 refine drawn [.eq (Value.agg #[vL A0_0 a0.vDefs.length c0_0]), .eq (vI a1), .eq (vS v1), .eq (Value.agg #[vL A2_0 a2.vDefs.length c2_0]), .eq (vI a3), .eq (vS v2), .eq (vB (!(strEq v1 v2)))] [12,13,14,15,16,17,18] hmix (by kernel_rfl) rfl (stable_eq (stable_eq (stable_eq (stable_eq (stable_eq (stable_eq (stable_eq stable_nil))))))) ⟨ob_plain rfl (fun a' w' hE hk=>by have HSd:=HS2.step hE;exact does_eq (r_loadBoxAgg (n:=1) (vs:=[vL A0_0 a0.vDefs.length c0_0]) (show _=vP b1 0 from hk 4 rfl) Tryd.isAgg24 (HSd.look 1 rfl) Tryd.sizeOf24 rfl rfl)),ob_plain rfl (fun a' w' hE hk=>by have HSd:=HS2.step hE;exact does_eq (r_move (show _=vI a1 from hk 1 rfl))),ob_plain rfl (fun a' w' hE hk=>by have HSd:=HS2.step hE;exact (does_call_eq Tryd.call53 rfl (map2 (show _=Value.agg #[vL A0_0 a0.vDefs.length c0_0] from hk 12 rfl) (show _=vI a1 from hk 13 rfl)) (ctf_text.calls k a0 a1 A0_0 c0_0 HSd.sees (ht.s HSd) hr0_0 hc0_0 H1))),ob_plain rfl (fun a' w' hE hk=>by have HSd:=HS2.step hE;exact does_eq (r_loadBoxAgg (n:=1) (vs:=[vL A2_0 a2.vDefs.length c2_0]) (show _=vP b2 0 from hk 6 rfl) Tryd.isAgg24 (HSd.look 0 rfl) Tryd.sizeOf24 rfl rfl)),ob_plain rfl (fun a' w' hE hk=>by have HSd:=HS2.step hE;exact does_eq (r_move (show _=vI a3 from hk 3 rfl))),ob_plain rfl (fun a' w' hE hk=>by have HSd:=HS2.step hE;exact (does_call_eq Tryd.call53 rfl (map2 (show _=Value.agg #[vL A2_0 a2.vDefs.length c2_0] from hk 15 rfl) (show _=vI a3 from hk 16 rfl)) (ctf_text.calls k a2 a3 A2_0 c2_0 HSd.sees (ht.s HSd) hr2_0 hc2_0 H2))),ob_plain rfl (fun a' w' hE hk=>by have HSd:=HS2.step hE;exact does_eq (r_strneq (show _=vS v1 from hk 14 rfl) (show _=vS v2 from hk 17 rfl))),trivial⟩ ?_
 intro w3 hE3
 simp only [List.zip_cons_cons,List.zip_nil_left,List.zip_nil_right,finL,sc0,sc1,List.length_cons,List.length_nil,List.drop_succ_cons,List.drop_zero,Nat.zero_add,Nat.reduceAdd]
 have HS3:=HS2.step hE3
 refine run_nil<|norm_then<|wp_cond_split (t:=(!(strEq v1 v2))) rfl (fun c1=>?_) (fun c1=>?_)
 ·replace H:=of_pos H c1
  refine wp_seq<|region<|rs (vB false) (r_assign rfl) ?_
  try simp only [sc0,sc1]
  refine run_nil<|norm_then<|wp_ret<|ret_then ?_
  obtain rfl:=Option.some.inj H
  exact bodyPost_ret (results_1 rfl (one_tmp rfl)) rfl<|⟨rfl,HS3.toE⟩
 ·replace H:=of_neg H (nt c1)
  refine wp_skip<|norm_then<|wp_seq<|wp_seq<|region<|rs (Value.agg #[vL A0_0 a0.vDefs.length c0_0]) (r_loadBoxAgg (n:=1) (vs:=[vL A0_0 a0.vDefs.length c0_0]) rfl Tryd.isAgg24 (HS3.look 1 rfl) Tryd.sizeOf24 rfl rfl)<|rs (vI a1) (r_move rfl)<|run_bs (Kd.int .i64) (xs:=([a1]:List Int)) (n:=1) (cs:=[vI a1]) Tryd.runUnderlying62 Tryd.typeInfo3 Tryd.zeroValue3 rfl rfl (by decide) (by decide) (by decide) [vI a1] (parts_any.trans rfl) rfl rfl rfl rfl (elems_cons (qs:=[vI a1]) rfl (elems_nil (cs:=[]))) HS3 ?_
  intro w4 b3 HS4 ho1
  obtain ⟨v3,H3,H⟩:=of_bind H
  obtain ⟨hl1,hs1,se1,rdl1⟩:=row_lend HS4 (i:=0) rfl ho1
  refine run_ex rfl rfl (does_call Tryd.call84 (map2 rfl (show _=vL (rowA (some b3)) ([a1]:List Int).length 1 from by rw [ho1.len];exact rfl)) (map_in (wz:=w4) (ek:=(vI)) (ev:=vB) (m:=v3) (Ext.rfl' _) (ctf_reached.calls k a0 ([a1]:List Int) A0_0 c0_0 (rowA (some b3)) 1 se1 (hr0_0.ext hs1) hc0_0 rdl1 ho1.cap H3)) rfl) ?_
  rintro w5 _ hE4 ⟨b4,es1,cl1,rfl,ge3,hb3,ho2⟩
  have HS5:=HS4.new hE4 ge3 hb3
  refine run_frame (by simp only [sc0,sc1];rfl) ?_
  refine run_range (i:=0) rfl Tryd.underlying144 HS5 rfl ?_
  intro w6 b5 HS6
  try simp only [sc0,sc1]
  refine run_nil<|norm_then ?_
  obtain ⟨xx1,H,G1⟩:=of_bind H
  refine loop_j [8,9,10,11,24,25,26,27,28,29,30,31,32,33,34,35,36,37,38,39,40,41,42,43,44,45,46,47,48,49,50,51,52] (fun m us w'=>∃(sny1:Array Nat) (c0y1:Nat),Fit us (fun uy1=>[(uy1 0),(uy1 1),(uy1 2),(uy1 3),(uy1 4),(uy1 5),(uy1 6),(uy1 7),(uy1 8),(uy1 9),(uy1 10),(uy1 11),(uy1 12),(uy1 13),(uy1 14),(uy1 15),(uy1 16),(uy1 17),(uy1 18),(uy1 19),(uy1 20),(uy1 21),(uy1 22),(uy1 23),(uy1 24),(uy1 25),(uy1 26),(uy1 27),(uy1 28),(uy1 29),(uy1 30),(uy1 31),(uy1 32)])∧(leftOf es1 sny1).size<m∧cl1≤c0y1∧Gone (ctf_equal.l0 k a0 a2) v3 es1 sny1∧St [] h0 w0 h0 [(some b5, .mapIter (some b4) cl1 sny1 c0y1),(some b4, .map es1 cl1),((some b3), .cells ([vI a1]).toArray 3 (0,0)),(some b2, .cells #[vL A2_0 a2.vDefs.length c2_0] 24 (0,0)),(some b1, .cells #[vL A0_0 a0.vDefs.length c0_0] 24 (0,0))] w') (fun us w'=>∃(s1:Unit),xx1= .inr s1∧∃(sno1:Array Nat) (c0o1:Nat),Fit us (fun uo1=>[(uo1 0),(uo1 1),(uo1 2),(uo1 3),(uo1 4),(uo1 5),(uo1 6),(uo1 7),(uo1 8),(uo1 9),(uo1 10),(uo1 11),(uo1 12),(uo1 13),(uo1 14),(uo1 15),(uo1 16),(uo1 17),(uo1 18),(uo1 19),(uo1 20),(uo1 21),(uo1 22),(uo1 23),(uo1 24),(uo1 25),(uo1 26),(uo1 27),(uo1 28),(uo1 29),(uo1 30),(uo1 31),(uo1 32)])∧St [] h0 w0 h0 [(some b5, .mapIter (some b4) cl1 sno1 c0o1),(some b4, .map es1 cl1),((some b3), .cells ([vI a1]).toArray 3 (0,0)),(some b2, .cells #[vL A2_0 a2.vDefs.length c2_0] 24 (0,0)),(some b1, .cells #[vL A0_0 a0.vDefs.length c0_0] 24 (0,0))] w') ((leftOf es1 #[]).size+1) ⟨#[],cl1,(fit rfl),Nat.lt_succ_self _,Nat.le_refl _,gone0,HS6⟩ ?_ ?_
  ·rintro m us w7 ⟨sny1,c0y1,huy1,hly1,hcy1,hgy1,HS7⟩
   obtain ⟨uy1,rfl⟩:=unj huy1
   try simp only [patch,sc0,sc1]
   refine wp_seq<|region<|run_next (i:=0) (j:=1) rfl HS7 rfl rfl hcy1 ho2 ?_ ?_
   ·intro hle
    replace H:=rng_done ho2 H hgy1 hle
    refine rs (vB false) (r_extract rfl rfl) ?_
    try simp only [sc0,sc1]
    refine run_nil<|norm_then<|wp_seq<|wp_cond_false rfl<|wp_exit<|exit_then ?_
    obtain rfl:=Option.some.inj H
    refine leave_j rfl ⟨_,rfl,sny1,c0y1,(fit rfl),HS7⟩
   ·intro e1 kyy1 kzy1 he1 hm1 hk1 hv1 w8 HS8
    obtain ⟨zz1,H,G2⟩:=rng_body (fun r=>some r) H hm1 (fun a ea=>by subst ea;exact G1)
    have Hz1:=H
    rw [ctf_equal.l0] at H
    refine rs (vB true) (r_extract rfl rfl) ?_
    try simp only [sc0,sc1]
    refine run_nil<|norm_then<|wp_seq<|wp_cond_true rfl<|wp_skip<|norm_then<|wp_block<|wp_seq<|region<|rs (Value.tuple #[vI kyy1,vB kzy1]) (r_entry rfl HS8 (i:=0) (j:=1) rfl rfl ho2 hm1 hk1 hv1)<|rs (vI kyy1) (r_extract rfl rfl) ?_
    refine rs (vI kyy1) (r_assign rfl) ?_
    try simp only [sc0,sc1]
    refine run_nil<|norm_then<|wp_seq<|region<|rs (vP b1 0) (r_fieldBox (n:=1) (o':=0) rfl Tryd.runUnderlying24 rfl Tryd.sizeOf22 (by decide) rfl)<|rs (vL A0_0 a0.vDefs.length c0_0) (r_loadBox rfl Tryd.isAgg22 (HS8.look 4 rfl) rfl)<|rs (vI kyy1) (r_move rfl) ?_
    obtain ⟨hi1,H⟩:=of_ite H
    obtain ⟨ad1,Aad1_6,cad1_6,e2,hel1,hcad1_6,hrad1_6⟩:=ld_api_Def hr0_0 hi1.1 hi1.2
    refine rs (Value.pointer (some (Addr.add ad1 (kyy1.toNat*7)))) (r_indexA (sz:=7) rfl e2 rfl hi1.1 hi1.2 Tryd.runUnderlying22 Tryd.sizeOf34)<|run_frame (by simp only [sc0,sc1];rfl) ?_
    refine rs (Value.agg #[vI ((rd z_api_Def a0.vDefs kyy1).vKind),vS ((rd z_api_Def a0.vDefs kyy1).vName),vI ((rd z_api_Def a0.vDefs kyy1).vInt.vSize),vB ((rd z_api_Def a0.vDefs kyy1).vInt.vSigned),vI ((rd z_api_Def a0.vDefs kyy1).vRef),vI ((rd z_api_Def a0.vDefs kyy1).vN),vL Aad1_6 ((rd z_api_Def a0.vDefs kyy1).vFields).length cad1_6]) (r_loadAgg rfl Tryd.isAgg34 (hel1.sees HS8.sees) Tryd.sizeOf34)<|run_ex rfl rfl (does_alloc (cs:=#[vI 0,vS ByteArray.empty,vI 0,vB false,vI 0,vI 0,vL none 0 0]) Tryd.zeroValue34 rfl) ?_
    rintro w9 _ hE5 ⟨b6,rfl,ge4,hb4⟩
    have HS9:=HS8.new hE5 ge4 hb4
    refine run_st (i:=0) (cs:=[vI 0,vS ByteArray.empty,vI 0,vB false,vI 0,vI 0,vL none 0 0]) (cs':=[vI ((rd z_api_Def a0.vDefs kyy1).vKind),vS ((rd z_api_Def a0.vDefs kyy1).vName),vI ((rd z_api_Def a0.vDefs kyy1).vInt.vSize),vB ((rd z_api_Def a0.vDefs kyy1).vInt.vSigned),vI ((rd z_api_Def a0.vDefs kyy1).vRef),vI ((rd z_api_Def a0.vDefs kyy1).vN),vL Aad1_6 ((rd z_api_Def a0.vDefs kyy1).vFields).length cad1_6]) (vs:=[vI ((rd z_api_Def a0.vDefs kyy1).vKind),vS ((rd z_api_Def a0.vDefs kyy1).vName),vI ((rd z_api_Def a0.vDefs kyy1).vInt.vSize),vB ((rd z_api_Def a0.vDefs kyy1).vInt.vSigned),vI ((rd z_api_Def a0.vDefs kyy1).vRef),vI ((rd z_api_Def a0.vDefs kyy1).vN),vL Aad1_6 ((rd z_api_Def a0.vDefs kyy1).vFields).length cad1_6]) (bs':=[(some b6, .cells #[vI ((rd z_api_Def a0.vDefs kyy1).vKind),vS ((rd z_api_Def a0.vDefs kyy1).vName),vI ((rd z_api_Def a0.vDefs kyy1).vInt.vSize),vB ((rd z_api_Def a0.vDefs kyy1).vInt.vSigned),vI ((rd z_api_Def a0.vDefs kyy1).vRef),vI ((rd z_api_Def a0.vDefs kyy1).vN),vL Aad1_6 ((rd z_api_Def a0.vDefs kyy1).vFields).length cad1_6] 34 (0,0)),(some b5, .mapIter (some b4) cl1 (sny1.push e1.born) cl1),(some b4, .map es1 cl1),((some b3), .cells ([vI a1]).toArray 3 (0,0)),(some b2, .cells #[vL A2_0 a2.vDefs.length c2_0] 24 (0,0)),(some b1, .cells #[vL A0_0 a0.vDefs.length c0_0] 24 (0,0))]) rfl rfl Tryd.sizeOf34 rfl rfl (by decide) rfl HS9 rfl (Nat.le_of_ble_eq_true rfl) rfl rfl ?_
    intro w10 HS10
    try simp only [sc0,sc1]
    refine run_nil<|norm_then<|wp_seq<|region<|rs (Value.agg #[vI ((rd z_api_Def a0.vDefs kyy1).vKind),vS ((rd z_api_Def a0.vDefs kyy1).vName),vI ((rd z_api_Def a0.vDefs kyy1).vInt.vSize),vB ((rd z_api_Def a0.vDefs kyy1).vInt.vSigned),vI ((rd z_api_Def a0.vDefs kyy1).vRef),vI ((rd z_api_Def a0.vDefs kyy1).vN),vL Aad1_6 ((rd z_api_Def a0.vDefs kyy1).vFields).length cad1_6]) (r_loadBoxAgg (n:=7) (vs:=[vI ((rd z_api_Def a0.vDefs kyy1).vKind),vS ((rd z_api_Def a0.vDefs kyy1).vName),vI ((rd z_api_Def a0.vDefs kyy1).vInt.vSize),vB ((rd z_api_Def a0.vDefs kyy1).vInt.vSigned),vI ((rd z_api_Def a0.vDefs kyy1).vRef),vI ((rd z_api_Def a0.vDefs kyy1).vN),vL Aad1_6 ((rd z_api_Def a0.vDefs kyy1).vFields).length cad1_6]) rfl Tryd.isAgg34 (HS10.look 0 rfl) Tryd.sizeOf34 rfl rfl) ?_
    obtain ⟨v4,H4,H⟩:=of_bind H
    refine run_eq (v:=vB v4) rfl rfl (does_call_eq Tryd.call68 rfl rfl (ctf_named.calls (rd z_api_Def a0.vDefs kyy1) Aad1_6 cad1_6 HS10.sees hrad1_6 hcad1_6 H4)) ?_
    intro w11 hE6
    have HS11:=HS10.step hE6
    try simp only [sc0,sc1]
    refine run_nil<|norm_then<|wp_cond_split (t:=v4) rfl (fun c2=>?_) (fun c2=>?_)
    ·replace H:=of_pos H c2
     refine wp_seq<|region<|rs (Value.agg #[vL A2_0 a2.vDefs.length c2_0]) (r_loadBoxAgg (n:=1) (vs:=[vL A2_0 a2.vDefs.length c2_0]) rfl Tryd.isAgg24 (HS11.look 4 rfl) Tryd.sizeOf24 rfl rfl)<|rs (vP b6 1) (r_fieldBox (n:=1) (o':=1) rfl Tryd.runUnderlying34 rfl Tryd.sizeOf9 (by decide) rfl)<|rs (vS ((rd z_api_Def a0.vDefs kyy1).vName)) (r_loadBox rfl Tryd.isAgg9 (HS11.look 0 rfl) rfl) ?_
     obtain ⟨v5,H5,H⟩:=of_bind H
     refine run_eq (v:=vI v5) rfl rfl (does_call_eq Tryd.call54 rfl rfl (ctf_find.calls k a2 ((rd z_api_Def a0.vDefs kyy1).vName) A2_0 c2_0 HS11.sees hr2_0 hc2_0 H5)) ?_
     intro w12 hE7
     have HS12:=HS11.step hE7
     refine run_frame (by simp only [sc0,sc1];rfl) ?_
     refine rs (vI v5) (r_assign rfl) ?_
     try simp only [sc0,sc1]
     refine run_nil<|norm_then<|wp_seq ?_
     obtain ⟨hi2,H⟩:=of_ite H
     obtain ⟨ad2,Aad2_6,cad2_6,hq1⟩:=gx3 (fun hC:(true&&((decide (v5<0))==false))=true=>ld_api_Def hr2_0 (hi2 hC).1 (hi2 hC).2)
     obtain ⟨v6,H6,H⟩:=of_bind H
     refine drawn [.eq (vI v5), .eq (vB (decide (v5<0))), .eq (vB (decide (v5<0))), .eq (gv (true&&((decide (v5<0))==false)) (Value.agg #[vL A0_0 a0.vDefs.length c0_0])), .eq (gv (true&&((decide (v5<0))==false)) (Value.agg #[vI ((rd z_api_Def a0.vDefs kyy1).vKind),vS ((rd z_api_Def a0.vDefs kyy1).vName),vI ((rd z_api_Def a0.vDefs kyy1).vInt.vSize),vB ((rd z_api_Def a0.vDefs kyy1).vInt.vSigned),vI ((rd z_api_Def a0.vDefs kyy1).vRef),vI ((rd z_api_Def a0.vDefs kyy1).vN),vL Aad1_6 ((rd z_api_Def a0.vDefs kyy1).vFields).length cad1_6])), .eq (gv (true&&((decide (v5<0))==false)) (Value.agg #[vL A2_0 a2.vDefs.length c2_0])), .eq (gv (true&&((decide (v5<0))==false)) (vP b2 0)), .eq (gv (true&&((decide (v5<0))==false)) (vL A2_0 a2.vDefs.length c2_0)), .eq (gv (true&&((decide (v5<0))==false)) (vI v5)), .eq (gv (true&&((decide (v5<0))==false)) (Value.pointer (some (Addr.add ad2 (v5.toNat*7))))), .eq (gv (true&&((decide (v5<0))==false)) (Value.agg #[vI ((rd z_api_Def a2.vDefs v5).vKind),vS ((rd z_api_Def a2.vDefs v5).vName),vI ((rd z_api_Def a2.vDefs v5).vInt.vSize),vB ((rd z_api_Def a2.vDefs v5).vInt.vSigned),vI ((rd z_api_Def a2.vDefs v5).vRef),vI ((rd z_api_Def a2.vDefs v5).vN),vL Aad2_6 ((rd z_api_Def a2.vDefs v5).vFields).length cad2_6])), .eq (gv (true&&((decide (v5<0))==false)) (vB v6)), .eq (gv (true&&((decide (v5<0))==false)) (vB (!v6))), .eq (vB ((decide (v5<0))||(!v6)))] [39,40,41,42,43,44,45,46,47,48,49,50,51,52] hmix (by kernel_rfl) rfl (stable_eq (stable_eq (stable_eq (stable_eq (stable_eq (stable_eq (stable_eq (stable_eq (stable_eq (stable_eq (stable_eq (stable_eq (stable_eq (stable_eq stable_nil)))))))))))))) ⟨ob_plain rfl (fun a' w' hE hk=>by have HSd:=HS12.step hE;exact does_eq (r_move (show _=vI v5 from hk 11 rfl))),ob_plain rfl (fun a' w' hE hk=>by have HSd:=HS12.step hE;exact does_eq (r_bin (show _=vI v5 from hk 39 rfl) rfl rfl)),ob_plain rfl (fun a' w' hE hk=>by have HSd:=HS12.step hE;exact does_eq (r_move (show _=vB (decide (v5<0)) from hk 40 rfl))),ob_guard (b:=(decide (v5<0))) (c:=true) rfl rfl (by decide) (fun w' u hu=>hu) (fun a' w' hE hk hg=>by have HSd:=HS12.step hE;exact does_eq (r_loadBoxAgg (n:=1) (vs:=[vL A0_0 a0.vDefs.length c0_0]) (show _=vP b1 0 from hk 4 rfl) Tryd.isAgg24 (HSd.look 5 rfl) Tryd.sizeOf24 rfl rfl)),ob_guard (b:=(decide (v5<0))) (c:=true) rfl rfl (by decide) (fun w' u hu=>hu) (fun a' w' hE hk hg=>by have HSd:=HS12.step hE;exact does_eq (r_loadBoxAgg (n:=7) (vs:=[vI ((rd z_api_Def a0.vDefs kyy1).vKind),vS ((rd z_api_Def a0.vDefs kyy1).vName),vI ((rd z_api_Def a0.vDefs kyy1).vInt.vSize),vB ((rd z_api_Def a0.vDefs kyy1).vInt.vSigned),vI ((rd z_api_Def a0.vDefs kyy1).vRef),vI ((rd z_api_Def a0.vDefs kyy1).vN),vL Aad1_6 ((rd z_api_Def a0.vDefs kyy1).vFields).length cad1_6]) (show _=vP b6 0 from hk 10 rfl) Tryd.isAgg34 (HSd.look 0 rfl) Tryd.sizeOf34 rfl rfl)),ob_guard (b:=(decide (v5<0))) (c:=true) rfl rfl (by decide) (fun w' u hu=>hu) (fun a' w' hE hk hg=>by have HSd:=HS12.step hE;exact does_eq (r_loadBoxAgg (n:=1) (vs:=[vL A2_0 a2.vDefs.length c2_0]) (show _=vP b2 0 from hk 6 rfl) Tryd.isAgg24 (HSd.look 4 rfl) Tryd.sizeOf24 rfl rfl)),ob_guard (b:=(decide (v5<0))) (c:=true) rfl rfl (by decide) (fun w' u hu=>hu) (fun a' w' hE hk hg=>by have HSd:=HS12.step hE;exact does_eq (r_fieldBox (n:=1) (o':=0) (show _=vP b2 0 from hk 6 rfl) Tryd.runUnderlying24 rfl Tryd.sizeOf22 (by decide) rfl)),ob_guard (b:=(decide (v5<0))) (c:=true) rfl rfl (by decide) (fun w' u hu=>hu) (fun a' w' hE hk hg=>by have HSd:=HS12.step hE;exact does_eq (r_loadBox ((show _=gv (true&&((decide (v5<0))==false)) (vP b2 0) from (show _=gv (true&&((decide (v5<0))==false)) (vP b2 0) from hk 45 rfl)).trans (gv_t hg)) Tryd.isAgg22 (HSd.look 4 rfl) rfl)),ob_guard (b:=(decide (v5<0))) (c:=true) rfl rfl (by decide) (fun w' u hu=>hu) (fun a' w' hE hk hg=>by have HSd:=HS12.step hE;exact does_eq (r_move (show _=vI v5 from hk 11 rfl))),ob_guard (b:=(decide (v5<0))) (c:=true) rfl rfl (by decide) (fun w' u hu=>hu) (fun a' w' hE hk hg=>by have HSd:=HS12.step hE;exact does_eq (r_indexA (sz:=7) ((show _=gv (true&&((decide (v5<0))==false)) (vL A2_0 a2.vDefs.length c2_0) from (show _=gv (true&&((decide (v5<0))==false)) (vL A2_0 a2.vDefs.length c2_0) from hk 46 rfl)).trans (gv_t hg)) (hq1 hg).1 ((show _=gv (true&&((decide (v5<0))==false)) (vI v5) from (show _=gv (true&&((decide (v5<0))==false)) (vI v5) from hk 47 rfl)).trans (gv_t hg)) (hi2 hg).1 (hi2 hg).2 Tryd.runUnderlying22 Tryd.sizeOf34)),ob_guard (b:=(decide (v5<0))) (c:=true) rfl rfl (by decide) (fun w' u hu=>hu) (fun a' w' hE hk hg=>by have HSd:=HS12.step hE;exact does_eq (r_loadAgg ((show _=gv (true&&((decide (v5<0))==false)) (Value.pointer (some (Addr.add ad2 (v5.toNat*7)))) from (show _=gv (true&&((decide (v5<0))==false)) (Value.pointer (some (Addr.add ad2 (v5.toNat*7)))) from hk 48 rfl)).trans (gv_t hg)) Tryd.isAgg34 (((hq1 hg).2.1).sees HSd.sees) Tryd.sizeOf34)),ob_guard (b:=(decide (v5<0))) (c:=true) rfl rfl (by decide) (fun w' u hu=>hu) (fun a' w' hE hk hg=>by have HSd:=HS12.step hE;exact (does_call_eq Tryd.call104 rfl (map4 ((show _=gv (true&&((decide (v5<0))==false)) (Value.agg #[vL A0_0 a0.vDefs.length c0_0]) from (show _=gv (true&&((decide (v5<0))==false)) (Value.agg #[vL A0_0 a0.vDefs.length c0_0]) from hk 42 rfl)).trans (gv_t hg)) ((show _=gv (true&&((decide (v5<0))==false)) (Value.agg #[vI ((rd z_api_Def a0.vDefs kyy1).vKind),vS ((rd z_api_Def a0.vDefs kyy1).vName),vI ((rd z_api_Def a0.vDefs kyy1).vInt.vSize),vB ((rd z_api_Def a0.vDefs kyy1).vInt.vSigned),vI ((rd z_api_Def a0.vDefs kyy1).vRef),vI ((rd z_api_Def a0.vDefs kyy1).vN),vL Aad1_6 ((rd z_api_Def a0.vDefs kyy1).vFields).length cad1_6]) from (show _=gv (true&&((decide (v5<0))==false)) (Value.agg #[vI ((rd z_api_Def a0.vDefs kyy1).vKind),vS ((rd z_api_Def a0.vDefs kyy1).vName),vI ((rd z_api_Def a0.vDefs kyy1).vInt.vSize),vB ((rd z_api_Def a0.vDefs kyy1).vInt.vSigned),vI ((rd z_api_Def a0.vDefs kyy1).vRef),vI ((rd z_api_Def a0.vDefs kyy1).vN),vL Aad1_6 ((rd z_api_Def a0.vDefs kyy1).vFields).length cad1_6]) from hk 43 rfl)).trans (gv_t hg)) ((show _=gv (true&&((decide (v5<0))==false)) (Value.agg #[vL A2_0 a2.vDefs.length c2_0]) from (show _=gv (true&&((decide (v5<0))==false)) (Value.agg #[vL A2_0 a2.vDefs.length c2_0]) from hk 44 rfl)).trans (gv_t hg)) ((show _=gv (true&&((decide (v5<0))==false)) (Value.agg #[vI ((rd z_api_Def a2.vDefs v5).vKind),vS ((rd z_api_Def a2.vDefs v5).vName),vI ((rd z_api_Def a2.vDefs v5).vInt.vSize),vB ((rd z_api_Def a2.vDefs v5).vInt.vSigned),vI ((rd z_api_Def a2.vDefs v5).vRef),vI ((rd z_api_Def a2.vDefs v5).vN),vL Aad2_6 ((rd z_api_Def a2.vDefs v5).vFields).length cad2_6]) from (show _=gv (true&&((decide (v5<0))==false)) (Value.agg #[vI ((rd z_api_Def a2.vDefs v5).vKind),vS ((rd z_api_Def a2.vDefs v5).vName),vI ((rd z_api_Def a2.vDefs v5).vInt.vSize),vB ((rd z_api_Def a2.vDefs v5).vInt.vSigned),vI ((rd z_api_Def a2.vDefs v5).vRef),vI ((rd z_api_Def a2.vDefs v5).vN),vL Aad2_6 ((rd z_api_Def a2.vDefs v5).vFields).length cad2_6]) from hk 49 rfl)).trans (gv_t hg))) (ctf_alike.calls k a0 (rd z_api_Def a0.vDefs kyy1) a2 (rd z_api_Def a2.vDefs v5) A0_0 c0_0 Aad1_6 cad1_6 A2_0 c2_0 Aad2_6 cad2_6 HSd.sees (ht.s HSd) hr0_0 hc0_0 hrad1_6 hcad1_6 hr2_0 hc2_0 ((hq1 hg).2.2.2) ((hq1 hg).2.2.1) (of_pos H6 hg)))),ob_guard (b:=(decide (v5<0))) (c:=true) rfl rfl (by decide) (fun w' u hu=>hu) (fun a' w' hE hk hg=>by have HSd:=HS12.step hE;exact does_eq (r_not ((show _=gv (true&&((decide (v5<0))==false)) (vB v6) from (show _=gv (true&&((decide (v5<0))==false)) (vB v6) from hk 50 rfl)).trans (gv_t hg)))),ob_plain rfl (fun a' w' hE hk=>by have HSd:=HS12.step hE;exact does_eq (r_pick_or (show _=vB (decide (v5<0)) from hk 41 rfl) rfl (fun hp=>((show _=gv (true&&((decide (v5<0))==false)) (vB (!v6)) from (show _=gv (true&&((decide (v5<0))==false)) (vB (!v6)) from hk 51 rfl)).trans (gv_t (and_i rfl hp)))))),trivial⟩ ?_
     intro w13 hE8
     simp only [List.zip_cons_cons,List.zip_nil_left,List.zip_nil_right,finL,sc0,sc1,List.length_cons,List.length_nil,List.drop_succ_cons,List.drop_zero,Nat.zero_add,Nat.reduceAdd]
     have HS13:=HS12.step hE8
     refine run_nil<|norm_then<|wp_cond_split (t:=((decide (v5<0))||(!v6))) rfl (fun c3=>?_) (fun c3=>?_)
     ·replace H:=of_pos H c3
      refine wp_seq<|region<|rs (vB false) (r_assign rfl) ?_
      try simp only [sc0,sc1]
      refine run_nil<|norm_then<|wp_ret<|ret_block<|ret_loop<|ret_then ?_
      obtain rfl:=Option.some.inj H
      obtain rfl:=Option.some.inj G2
      exact bodyPost_ret (results_1 rfl (one_tmp rfl)) rfl<|⟨rfl,HS13.toE⟩
     ·replace H:=of_neg H (nt c3)
      refine wp_skip<|norm_block ?_
      obtain rfl:=Option.some.inj H
      refine again_j (leftOf es1 sny1).size hly1 rfl ⟨sny1.push e1.born,cl1,(fit rfl),left_less he1,Nat.le_refl _,gone_push ho2.nodup hgy1 hm1 Hz1,HS13.tail⟩
    ·replace H:=of_neg H (nt c2)
     refine wp_skip<|norm_block ?_
     obtain rfl:=Option.some.inj H
     refine again_j (leftOf es1 sny1).size hly1 rfl ⟨sny1.push e1.born,cl1,(fit rfl),left_less he1,Nat.le_refl _,gone_push ho2.nodup hgy1 hm1 Hz1,HS11.tail⟩
  ·rintro us w14 ⟨s1,rfl,sno1,c0o1,huo1,HS14⟩
   obtain ⟨uo1,rfl⟩:=unj huo1
   replace H:=G1
   clear G1
   try simp only [patch,sc0,sc1]
   refine norm_then<|wp_seq<|region<|rs (vB true) (r_assign rfl) ?_
   try simp only [sc0,sc1]
   refine run_nil<|norm_then<|wp_ret ?_
   obtain rfl:=Option.some.inj H
   exact bodyPost_ret (results_1 rfl (one_tmp rfl)) rfl<|⟨rfl,HS14.toE⟩
def ctf_Equal.f (k:Nat) (a0:api_Types) (a1:Int) (a2:api_Types) (a3:Int):Option (Bool):=(ctf_given.f k a0 a1).bind fun v1=>((if (true&&((v1==0)==true))=true then ctf_given.f k a2 a3 else some 0).bind fun v2=>((if (true&&(((v1==0)&&(v2==0))==true))=true then ctf_equal.f k a0 a1 a2 a3 else some false).bind fun v3=>(some (((v1==0)&&(v2==0))&&v3))))
theorem ctf_Equal.calls (k:Nat) (a0:api_Types) (a1:Int) (a2:api_Types) (a3:Int) (A0_0:Option Addr) (c0_0:Nat) (A2_0:Option Addr) (c2_0:Nat) {h0:View} {w0:World} (hv:Sees h0 w0) (ht:Tab w0) (hr0_0:Rd k_api_Def h0 A0_0 a0.vDefs) (hc0_0:a0.vDefs.length≤c0_0) (hr2_0:Rd k_api_Def h0 A2_0 a2.vDefs) (hc2_0:a2.vDefs.length≤c2_0) {r:Bool} (H:ctf_Equal.f k a0 a1 a2 a3=some r):Calls Tryd.prog 29 #[Value.agg #[vL A0_0 a0.vDefs.length c0_0],vI a1,Value.agg #[vL A2_0 a2.vDefs.length c2_0],vI a3] w0 (fun e w1=>e= .returned (vB r)∧Ext w0 w1):=by
 unfold ctf_Equal.f at H
 have HS:St [] h0 w0 h0 [] w0:=St.init hv
 go_enter Tryd.func29,Tryd.ntmps29
 refine wp_seq<|region<|run_ex rfl rfl (does_box (cs:=#[vL A0_0 a0.vDefs.length c0_0]) rfl rfl) ?_
 rintro w1 _ hE1 ⟨b1,rfl,ge1,hb1⟩
 have HS1:=HS.new hE1 ge1 hb1
 refine run_ex rfl rfl (does_box (cs:=#[vL A2_0 a2.vDefs.length c2_0]) rfl rfl) ?_
 rintro w2 _ hE2 ⟨b2,rfl,ge2,hb2⟩
 have HS2:=HS1.new hE2 ge2 hb2
 refine rs (vB false) (r_assign rfl) ?_
 try simp only [sc0,sc1]
 refine run_nil<|norm_then<|wp_seq<|region<|rs (Value.agg #[vL A0_0 a0.vDefs.length c0_0]) (r_loadBoxAgg (n:=1) (vs:=[vL A0_0 a0.vDefs.length c0_0]) rfl Tryd.isAgg24 (HS2.look 1 rfl) Tryd.sizeOf24 rfl rfl)<|rs (vI a1) (r_move rfl) ?_
 obtain ⟨v1,H1,H⟩:=of_bind H
 refine run_eq (v:=vI v1) rfl rfl (does_call_eq Tryd.call43 rfl rfl (ctf_given.calls k a0 a1 A0_0 c0_0 HS2.sees hr0_0 hc0_0 H1)) ?_
 intro w3 hE3
 have HS3:=HS2.step hE3
 refine rs (vB (v1==0)) (r_bin rfl rfl rfl)<|run_frame (by simp only [sc0,sc1];rfl) ?_
 refine rs (vB (v1==0)) (r_move rfl)<|rgs (v1==0) true (Value.agg #[vL A2_0 a2.vDefs.length c2_0]) rfl rfl rfl rfl (fun hg=>(r_loadBoxAgg (n:=1) (vs:=[vL A2_0 a2.vDefs.length c2_0]) rfl Tryd.isAgg24 (HS3.look 0 rfl) Tryd.sizeOf24 rfl rfl))<|rgs (v1==0) true (vI a3) rfl rfl rfl rfl (fun hg=>(r_move rfl)) ?_
 obtain ⟨v2,H2,H⟩:=of_bind H
 refine run_g (b:=(v1==0)) (c:=true) (v:=vI v2) rfl rfl rfl rfl (fun hg=>(does_call_eq Tryd.call43 rfl (map2 (gvt (Value.agg #[vL A2_0 a2.vDefs.length c2_0]) hg rfl) (gvt (vI a3) hg rfl)) (ctf_given.calls k a2 a3 A2_0 c2_0 HS3.sees hr2_0 hc2_0 (of_pos H2 hg)))) ?_
 intro w4 hE4
 have HS4:=HS3.step hE4
 refine run_frame (by simp only [sc0,sc1];rfl) ?_
 refine rgs (v1==0) true (vB (v2==0)) rfl rfl rfl rfl (fun hg=>(r_bin (gvt (vI v2) hg rfl) rfl rfl))<|rs (vB ((v1==0)&&(v2==0))) (r_pick_and rfl (fun hp=>(gvt (vB (v2==0)) (and_i rfl hp) rfl)) rfl)<|rs (vB ((v1==0)&&(v2==0))) (r_move rfl)<|rgs ((v1==0)&&(v2==0)) true (Value.agg #[vL A0_0 a0.vDefs.length c0_0]) rfl rfl rfl rfl (fun hg=>(r_loadBoxAgg (n:=1) (vs:=[vL A0_0 a0.vDefs.length c0_0]) rfl Tryd.isAgg24 (HS4.look 1 rfl) Tryd.sizeOf24 rfl rfl))<|run_frame (by simp only [sc0,sc1];rfl) ?_
 refine rgs ((v1==0)&&(v2==0)) true (vI a1) rfl rfl rfl rfl (fun hg=>(r_move rfl))<|rgs ((v1==0)&&(v2==0)) true (Value.agg #[vL A2_0 a2.vDefs.length c2_0]) rfl rfl rfl rfl (fun hg=>(r_loadBoxAgg (n:=1) (vs:=[vL A2_0 a2.vDefs.length c2_0]) rfl Tryd.isAgg24 (HS4.look 0 rfl) Tryd.sizeOf24 rfl rfl))<|rgs ((v1==0)&&(v2==0)) true (vI a3) rfl rfl rfl rfl (fun hg=>(r_move rfl)) ?_
 obtain ⟨v3,H3,H⟩:=of_bind H
 refine run_g (b:=((v1==0)&&(v2==0))) (c:=true) (v:=vB v3) rfl rfl rfl rfl (fun hg=>(does_call_eq Tryd.call61 rfl (map4 (gvt (Value.agg #[vL A0_0 a0.vDefs.length c0_0]) hg rfl) (gvt (vI a1) hg rfl) (gvt (Value.agg #[vL A2_0 a2.vDefs.length c2_0]) hg rfl) (gvt (vI a3) hg rfl)) (ctf_equal.calls k a0 a1 a2 a3 A0_0 c0_0 A2_0 c2_0 HS4.sees (ht.s HS4) hr0_0 hc0_0 hr2_0 hc2_0 (of_pos H3 hg)))) ?_
 intro w5 hE5
 have HS5:=HS4.step hE5
 refine run_frame (by simp only [sc0,sc1];rfl) ?_
 refine rs (vB (((v1==0)&&(v2==0))&&v3)) (r_pick_and rfl (fun hp=>(gvt (vB v3) (and_i rfl hp) rfl)) rfl)<|rs (vB (((v1==0)&&(v2==0))&&v3)) (r_assign rfl) ?_
 try simp only [sc0,sc1]
 refine run_nil<|norm_then<|wp_ret ?_
 obtain rfl:=Option.some.inj H
 exact bodyPost_ret (results_1 rfl (one_tmp rfl)) rfl<|⟨rfl,HS5.toE⟩
noncomputable def tell (p:Prop):Bool:=by classical exact decide p
theorem tell_t {p:Prop} (h:p):tell p=true:=by unfold tell;simp [h]
theorem tell_f {p:Prop} (h:¬p):tell p=false:=by unfold tell;simp [h]
theorem tell_iff {p:Prop}:tell p=true↔p:=by unfold tell;simp
theorem tell_of {p:Prop} {b:Bool} (h:b=true↔p):b=tell p:=by
 by_cases hp:p
 ·rw [tell_t hp];exact h.2 hp
 ·rw [tell_f hp]
  cases b with
  |false=>rfl
  |true=>exact absurd (h.1 rfl) hp
theorem tell_congr {p q:Prop} (h:p↔q):tell p=tell q:=tell_of (tell_iff.trans h)
def fAt (d:api_Def) (j:Nat):api_Field:=d.vFields.getD j z_api_Field
def AlikeF (t:api_Types) (u:api_Types) (k:Int) (f g:api_Field):Prop:=f.vName=g.vName∧f.vAt=g.vAt∧(k=4→tx t f.vType.toNat=tx u g.vType.toNat)
structure AlikeS (t:api_Types) (d:api_Def) (u:api_Types) (g:api_Def):Prop where
 kind:d.vKind=g.vKind
 name:d.vName=g.vName
 int:d.vInt.vSize=g.vInt.vSize∧d.vInt.vSigned=g.vInt.vSigned
 num:d.vN=g.vN
 ref:d.vKind=2∨d.vKind=3∨d.vKind=6→tx t d.vRef.toNat=tx u g.vRef.toNat
 len:d.vFields.length=g.vFields.length
 fld:∀j,j<d.vFields.length→AlikeF t u d.vKind (fAt d j) (fAt g j)
theorem eqfunc_loop {a b : List api_Field} {p : Nat → api_Field → api_Field → Option Bool} {q : api_Field → api_Field → Prop} (hl : a.length ≤ 9223372036854775807) (hab : a.length = b.length)
    (hp:∀j,j<a.length→Ev (fun k=>p k (a.getD j z_api_Field) (b.getD j z_api_Field)) (tell (q (a.getD j z_api_Field) (b.getD j z_api_Field)))):∀(e j:Nat),j+e=a.length→
    Ev2 (fun k m=>slices_EqualFunc_api_Field_api_Field_api_Field_api_Field.l0 a b (p k) m (j:Int)) (if tell (∀i,j≤i→i<a.length→q (a.getD i z_api_Field) (b.getD i z_api_Field))=true then .inr () else .inl false):=by
  intro e
  induction e with
  | zero =>
    intro j hj
    refine Ev2.pure fun k m=>?_
    rw [slices_EqualFunc_api_Field_api_Field_api_Field_api_Field.l0,if_neg (by simp;omega),if_pos (tell_t (fun i h1 h2=>by omega))]
  | succ e ih =>
    intro j hj
    have hlt:j<a.length:=by omega
    have h2:=ih (j+1) (by omega)
    refine Ev2.step (hp j hlt) (r:=fun k m v1=>if (!v1)=true then (some (.inl false)) else (slices_EqualFunc_api_Field_api_Field_api_Field_api_Field.l0 a b (p k) m ((j+1:Nat):Int))) ?_ (fun k m=>?_)
    · by_cases hq:q (a.getD j z_api_Field) (b.getD j z_api_Field)
      · rw [tell_t hq]
        obtain ⟨K,hK⟩:=h2
        refine ⟨K,fun k m hk hm=>?_⟩
        simp only [Bool.not_true,Bool.false_eq_true,if_false]
        rw [show slices_EqualFunc_api_Field_api_Field_api_Field_api_Field.l0 a b (p k) m ((j+1:Nat):Int)=_ from hK k m hk hm]
        congr 2
        rw [tell_congr (p:=∀i,j+1≤i→i<a.length→q (a.getD i z_api_Field) (b.getD i z_api_Field)) (q:=∀i,j≤i→i<a.length→q (a.getD i z_api_Field) (b.getD i z_api_Field))]
        exact ⟨fun h i h1 h2 => by
          by_cases e:i=j
          · subst e;exact hq
          · exact h i (by omega) h2, fun h i h1 h2 => h i (by omega) h2⟩
      · rw [tell_f hq,if_neg (by rw [tell_f (fun h=>hq (h j (Nat.le_refl _) hlt))];simp)]
        exact ⟨0,fun k m _ _=>rfl⟩
    · rw [slices_EqualFunc_api_Field_api_Field_api_Field_api_Field.l0,if_pos (by simp;omega),if_pos (by omega),if_pos (by omega),rd_nat,rd_nat,wrap_nat hlt hl]
theorem eqfunc_ev {a b:List api_Field} {p:Nat→api_Field→api_Field→Option Bool} {q:api_Field→api_Field→Prop} (hl:a.length≤9223372036854775807)
  (hp:a.length=b.length→∀j,j<a.length→Ev (fun k=>p k (a.getD j z_api_Field) (b.getD j z_api_Field)) (tell (q (a.getD j z_api_Field) (b.getD j z_api_Field)))):
  Ev (fun k=>slices_EqualFunc_api_Field_api_Field_api_Field_api_Field.f k a b (p k)) (tell (a.length=b.length∧∀i,i<a.length→q (a.getD i z_api_Field) (b.getD i z_api_Field))):=by
 by_cases hab:a.length=b.length
 ·obtain ⟨K,hK⟩:=(eqfunc_loop hl hab (hp hab) a.length 0 (by omega)).diag
  refine ⟨K,fun k hk=>?_⟩
  show slices_EqualFunc_api_Field_api_Field_api_Field_api_Field.f k a b (p k)=_
  unfold slices_EqualFunc_api_Field_api_Field_api_Field_api_Field.f
  rw [if_neg (by simp;omega),show slices_EqualFunc_api_Field_api_Field_api_Field_api_Field.l0 a b (p k) k 0=_ from hK k hk]
  rw [tell_congr (p:=∀i,0≤i→i<a.length→q (a.getD i z_api_Field) (b.getD i z_api_Field)) (q:=a.length=b.length∧∀i,i<a.length→q (a.getD i z_api_Field) (b.getD i z_api_Field)) ⟨fun h=>⟨hab,fun i hi=>h i (by omega) hi⟩,fun h i _ hi=>h.2 i hi⟩]
  generalize tell (a.length=b.length∧∀i,i<a.length→q (a.getD i z_api_Field) (b.getD i z_api_Field))=x
  cases x<;>rfl
 ·refine Ev.pure fun k=>?_
  unfold slices_EqualFunc_api_Field_api_Field_api_Field_api_Field.f
  rw [if_pos (by simp;omega),tell_f (fun h=>hab h.1)]
section
variable {t u:api_Types} {l m:List Int}
theorem alikeF_ev {k : Int} {d : api_Def} {f g : api_Field} (hd : d.vKind = k) (h : k = 4 → Ev (fun k => ctf_text.f k t f.vType) (tx t f.vType.toNat) ∧ Ev (fun k => ctf_text.f k u g.vType) (tx u g.vType.toNat)) :
    Ev (fun k=>ctf_alike_1.f k f g d t u) (tell (AlikeF t u k f g)):=by
  have hs:∀a b:ByteArray,strEq a b=tell (a=b):=fun a b=>tell_of strEq_iff
  have hi:∀a b:Int,(a==b)=tell (a=b):=fun a b=>tell_of beq_iff_eq
  by_cases h4:k=4
  · obtain ⟨⟨K1,h1⟩,⟨K2,h2⟩⟩:=h h4
    refine ⟨max K1 K2,fun n hn=>?_⟩
    show ctf_alike_1.f n f g d t u=_
    unfold ctf_alike_1.f
    rw [show ctf_text.f n t f.vType=_ from h1 n (by omega),show ctf_text.f n u g.vType=_ from h2 n (by omega),hd,h4,hs f.vName,hi f.vAt]
    by_cases c1:f.vName=g.vName
    · by_cases c2:f.vAt=g.vAt
      · simp only [tell_t c1,tell_t c2,Bool.and_self,beq_self_eq_true,bne_self_eq_false,if_true,Option.bind_some,Bool.true_and,Bool.false_or,hs (tx t f.vType.toNat)]
        exact congrArg some (tell_congr ⟨fun h=>⟨c1,c2,fun _=>h⟩,fun h=>h.2.2 rfl⟩)
      · rw [tell_t c1,tell_f c2,tell_f (fun h:AlikeF t u 4 f g=>c2 h.2.1)];rfl
    · rw [tell_f c1,tell_f (fun h:AlikeF t u 4 f g=>c1 h.1)];rfl
  · refine Ev.pure fun n=>?_
    unfold ctf_alike_1.f
    rw [show (d.vKind !=4)=true from by rw [hd];simpa using h4,hs f.vName,hi f.vAt]
    by_cases c1:f.vName=g.vName
    · by_cases c2:f.vAt=g.vAt
      · rw [tell_t c1,tell_t c2,tell_t (show AlikeF t u k f g from ⟨c1,c2,fun h=>absurd h h4⟩)];rfl
      · rw [tell_t c1,tell_f c2,tell_f (fun h:AlikeF t u k f g=>c2 h.2.1)];rfl
    · rw [tell_f c1,tell_f (fun h:AlikeF t u k f g=>c1 h.1)];rfl
theorem alike_ev (W : Wf t l) (V : Wf u m) {i j : Nat} (hi : i < t.vDefs.length) (hj : j < u.vDefs.length) : Ev (fun k => ctf_alike.f k t (dAt t i) u (dAt u j)) (tell (AlikeS t (dAt t i) u (dAt u j))) := by
  have hD:=W.sh _ (dAt_mem hi)
  have hG:=V.sh _ (dAt_mem hj)
  have hlen:=hD.few
  have htx:∀{t:api_Types} {l:List Int} (W:Wf t l) {c:Int},0≤c→c<t.vDefs.length→Ev (fun k=>ctf_text.f k t c) (tx t c.toNat):=fun {t l} W {c} h0 h1=>by
    have:=(text_ev W (i:=c.toNat) (by omega)).1
    rwa [show ((c.toNat:Nat):Int)=c by omega] at this
  by_cases hne:(dAt t i).vKind=(dAt u j).vKind∧(dAt t i).vName=(dAt u j).vName∧((dAt t i).vInt.vSize=(dAt u j).vInt.vSize∧(dAt t i).vInt.vSigned=(dAt u j).vInt.vSigned)∧(dAt t i).vN=(dAt u j).vN
  · obtain ⟨n1,n2,⟨n3,n4⟩,n5⟩:=hne
    obtain ⟨ms,hms,hsh⟩:=shapes_find (dAt t i).vKind
    have hF := eqfunc_ev (a := (dAt t i).vFields) (b := (dAt u j).vFields) (p := fun k z0 z1 => ctf_alike_1.f k z0 z1 (dAt t i) t u) (q := AlikeF t u (dAt t i).vKind) (by omega) (fun hab x hx => alikeF_ev rfl (fun h4 => by
      have r1:=hD.typ h4 _ (getD_mem (z:=z_api_Field) hx)
      have r2:=hG.typ (by omega) _ (getD_mem (z:=z_api_Field) (by omega:x<(dAt u j).vFields.length))
      exact ⟨htx W r1.1 r1.2, htx V r2.1 r2.2⟩))
    obtain ⟨K3,h3⟩:=hF
    have hcond:¬((((((dAt t i).vKind !=(dAt u j).vKind)||(!(strEq (dAt t i).vName (dAt u j).vName)))||(!(((dAt t i).vInt.vSize==(dAt u j).vInt.vSize)&&(((dAt t i).vInt.vSigned==(dAt u j).vInt.vSigned)&&true))))||((dAt t i).vN !=(dAt u j).vN))=true):=by
      rw [n1,n2,n3,n4,n5,strEq_iff.2 rfl];simp
    by_cases hk:(dAt t i).vKind=2∨(dAt t i).vKind=3∨(dAt t i).vKind=6
    · have r1:=hD.ref hk
      have r2:=hG.ref (by rw [←n1];exact hk)
      obtain ⟨K1,h1⟩:=htx W r1.1 r1.2
      obtain ⟨K2,h2⟩:=htx V r2.1 r2.2
      refine ⟨K1+K2+K3,fun k hk'=>?_⟩
      show ctf_alike.f k t (dAt t i) u (dAt u j)=_
      unfold ctf_alike.f
      rw [if_neg hcond,hms]
      simp only [Option.bind_some]
      rw [hsh,shp_ref,decide_eq_true hk]
      simp only [beq_self_eq_true,Bool.and_self,if_true]
      rw [show ctf_text.f k t (dAt t i).vRef=_ from h1 k (by omega),show ctf_text.f k u (dAt u j).vRef=_ from h2 k (by omega)]
      simp only [Option.bind_some,Bool.true_and]
      by_cases c:tx t (dAt t i).vRef.toNat=tx u (dAt u j).vRef.toNat
      · rw [strEq_iff.2 c,if_neg (by simp),show slices_EqualFunc_api_Field_api_Field_api_Field_api_Field.f k _ _ _=_ from h3 k (by omega)]
        exact congrArg some (tell_congr ⟨fun h=>⟨n1,n2,⟨n3,n4⟩,n5,fun _=>c,h.1,h.2⟩,fun h=>⟨h.len,h.fld⟩⟩)
      · rw [if_pos (by
          cases hs:strEq (tx t (dAt t i).vRef.toNat) (tx u (dAt u j).vRef.toNat) with
          |false=>rfl
          | true => exact absurd (strEq_iff.1 hs) c), tell_f (fun h => c (h.ref hk))]
    · refine ⟨K3,fun k hk'=>?_⟩
      show ctf_alike.f k t (dAt t i) u (dAt u j)=_
      unfold ctf_alike.f
      rw [if_neg hcond,hms]
      simp only [Option.bind_some]
      rw [hsh,shp_ref,decide_eq_false hk]
      simp only [show (false==true)=false from rfl,Bool.true_and,Bool.false_and,Bool.false_eq_true,if_false,Option.bind_some]
      rw [show slices_EqualFunc_api_Field_api_Field_api_Field_api_Field.f k _ _ _=_ from h3 k (by omega)]
      exact congrArg some (tell_congr ⟨fun h=>⟨n1,n2,⟨n3,n4⟩,n5,fun h'=>absurd h' hk,h.1,h.2⟩,fun h=>⟨h.len,h.fld⟩⟩)
  · refine Ev.pure fun k=>?_
    unfold ctf_alike.f
    rw [if_pos,tell_f (fun h=>hne ⟨h.kind,h.name,h.int,h.num⟩)]
    by_cases a1:(dAt t i).vKind=(dAt u j).vKind
    · by_cases a2:(dAt t i).vName=(dAt u j).vName
      · by_cases a3:(dAt t i).vInt.vSize=(dAt u j).vInt.vSize∧(dAt t i).vInt.vSigned=(dAt u j).vInt.vSigned
        · have a4:(dAt t i).vN≠(dAt u j).vN:=fun h=>hne ⟨a1,a2,a3,h⟩
          rw [bneT a4];simp
        · have:((((dAt t i).vInt.vSize==(dAt u j).vInt.vSize)&&(((dAt t i).vInt.vSigned==(dAt u j).vInt.vSigned)&&true)))=false:=by
            rw [Bool.eq_false_iff]
            intro h
            simp only [Bool.and_true,Bool.and_eq_true,beq_iff_eq] at h
            exact a3 h
          rw [this];simp
      · have:strEq (dAt t i).vName (dAt u j).vName=false:=by
          rw [Bool.eq_false_iff]
          exact fun h=>a2 (strEq_iff.1 h)
        rw [this];simp
    · rw [bneT a1];simp
theorem findV_pos {name:ByteArray} (h:0≤findV t name):∃k:Nat,findV t name=(k:Int)∧k<t.vDefs.length∧namedS (dAt t k)=true∧(dAt t k).vName=name:=by
 unfold findV at h⊢
 split at h
 ·next ha=>
  rw [if_pos ha]
  obtain ⟨x,hx,hq⟩:=List.any_eq_true.1 ha
  have hlt:=List.findIdx_lt_length_of_exists ⟨x,hx,hq⟩
  refine ⟨_,rfl,hlt,?_⟩
  have hg:=List.findIdx_getElem (w:=hlt)
  have he:dAt t (t.vDefs.findIdx (nameQ name))=t.vDefs[t.vDefs.findIdx (nameQ name)]:=by
   unfold dAt
   rw [List.getD_eq_getElem?_getD,List.getElem?_eq_getElem hlt]
   rfl
  rw [he]
  unfold nameQ at hg
  simp only [Bool.and_eq_true] at hg
  exact ⟨hg.1,strEq_iff.1 hg.2⟩
 ·omega
theorem findV_neg {name:ByteArray} (h:¬0≤findV t name):∀k,k<t.vDefs.length→namedS (dAt t k)=true→(dAt t k).vName≠name:=by
 unfold findV at h
 split at h
 ·omega
 ·next ha=>
  intro k hk hn he
  refine ha (List.any_eq_true.2 ⟨dAt t k,dAt_mem hk,?_⟩)
  unfold nameQ
  rw [hn,he,strEq_iff.2 rfl];rfl
def CondK (t u:api_Types) (k:Nat):Prop:=namedS (dAt t k)=true→∃j,j<u.vDefs.length∧namedS (dAt u j)=true∧AlikeS t (dAt t k) u (dAt u j)
def EqS (t:api_Types) (i:Nat) (u:api_Types) (j:Nat):Prop:=tx t i=tx u j∧∀k,Rch t i k→CondK t u k
theorem body_ev (W : Wf t l) (V : Wf u m) {k : Nat} (hk : k < t.vDefs.length) (z : Bool) : Ev (fun n => ctf_equal.l0 n t u (k : Int) z) (if tell (CondK t u k) = true then .inr () else .inl false) := by
  by_cases hn:namedS (dAt t k)=true
  · obtain ⟨K1,h1⟩:=find_ev V.few (dAt t k).vName
    by_cases h0:0≤findV u (dAt t k).vName
    · obtain ⟨j,e,hj,hnj,hname⟩:=findV_pos h0
      obtain ⟨K2,h2⟩:=alike_ev W V hk hj
      refine ⟨K1+K2,fun n hn'=>?_⟩
      show ctf_equal.l0 n t u (k:Int) z=_
      rw [ctf_equal.l0,if_pos (by omega),rd_dAt]
      simp only [ctf_named.f,Option.bind_some]
      show (if namedS (dAt t k)=true then _ else _)=_
      rw [if_pos hn,show ctf_find.f n u _=_ from h1 n (by omega),e]
      simp only [Option.bind_some]
      rw [show decide (((j:Nat):Int)<0)=false from decide_eq_false (by omega),rd_dAt]
      simp only [beq_self_eq_true,Bool.and_self,if_true]
      rw [if_pos (fun _=>by omega),show ctf_alike.f n t (dAt t k) u (dAt u j)=_ from h2 n (by omega)]
      simp only [Option.bind_some,Bool.false_or]
      have hc : tell (AlikeS t (dAt t k) u (dAt u j)) = tell (CondK t u k) := tell_congr ⟨fun h _ => ⟨j, hj, hnj, h⟩, fun h => by
        obtain ⟨j',hj',hn',ha⟩:=h hn
        have:=name_uniq V hj hj' hnj hn' (by rw [hname,ha.name])
        subst this
        exact ha⟩
      rw [hc]
      cases tell (CondK t u k)<;>rfl
    · refine ⟨K1,fun n hn'=>?_⟩
      have hlt:findV u (dAt t k).vName<0:=by omega
      show ctf_equal.l0 n t u (k:Int) z=_
      rw [ctf_equal.l0,if_pos (by omega),rd_dAt]
      simp only [ctf_named.f,Option.bind_some]
      show (if namedS (dAt t k)=true then _ else _)=_
      rw [if_pos hn,show ctf_find.f n u _=_ from h1 n (by omega)]
      simp only [Option.bind_some]
      rw [decide_eq_true hlt, tell_f (fun h => by
        obtain ⟨j',hj',hn',ha⟩:=h hn
        exact findV_neg h0 j' hj' hn' ha.name.symm)]
      simp
  · refine Ev.pure fun n=>?_
    rw [ctf_equal.l0,if_pos (by omega),rd_dAt]
    simp only [ctf_named.f,Option.bind_some]
    show (if namedS (dAt t k)=true then _ else _)=_
    rw [if_neg hn,tell_t (show CondK t u k from fun h=>absurd h hn)]
    rfl
theorem allK_ev {f : Nat → Int → Bool → Option (Bool ⊕ Unit)} {g : Int × Bool → Prop} : ∀ (mv : List (Int × Bool)), (∀ p ∈ mv, Ev (fun n => f n p.1 p.2) (if tell (g p) = true then .inr () else .inl false)) → Ev (fun n => allK (f n) mv) (if tell (∀ p ∈ mv, g p) = true then .inr () else .inl false)
  | [], _ => by
    rw [tell_t (by intro p hp;cases hp)]
    exact Ev.pure fun n=>rfl
  | p :: r, h => by
    obtain ⟨K1,h1⟩:=h p List.mem_cons_self
    obtain ⟨K2,h2⟩:=allK_ev r (fun q hq=>h q (List.mem_cons_of_mem _ hq))
    refine ⟨K1+K2,fun n hn=>?_⟩
    show allK (f n) (p::r)=_
    rw [allK,show f n p.1 p.2=_ from h1 n (by omega),show allK (f n) r=_ from h2 n (by omega)]
    simp only [Option.bind_some]
    by_cases c1:g p
    · by_cases c2:∀q∈r,g q
      · rw [tell_t c1, tell_t c2, tell_t (by
          intro q hq
          rcases List.mem_cons.1 hq with rfl|hq
          · exact c1
          · exact c2 q hq)]
        rfl
      · rw [tell_t c1,tell_f c2,tell_f (p:=∀q∈p::r,g q) (fun h=>c2 fun q hq=>h q (List.mem_cons_of_mem _ hq))]
        rfl
    · rw [tell_f c1,tell_f (p:=∀q∈p::r,g q) (fun h=>c1 (h p List.mem_cons_self))]
      by_cases c2:∀q∈r,g q
      · rw [tell_t c2];rfl
      · rw [tell_f c2];rfl
theorem equal_ev (W:Wf t l) (V:Wf u m) {i j:Nat} (hi:i<t.vDefs.length) (hj:j<u.vDefs.length):Ev (fun k=>ctf_equal.f k t (i:Int) u (j:Int)) (tell (EqS t i u j)):=by
 obtain ⟨⟨K1,h1⟩,_⟩:=text_ev W hi
 obtain ⟨⟨K2,h2⟩,_⟩:=text_ev V hj
 by_cases c:tx t i=tx u j
 ·obtain ⟨mv,⟨K3,h3⟩,hall,hkeys⟩:=reached_ev W (fr:=[i]) (by intro x hx;rw [List.mem_singleton.1 hx];exact hi) (by simp)
  have hp:∀p∈mv,∃k:Nat,p.1=(k:Int)∧k<t.vDefs.length∧Rch t i k:=fun p hp=>by
   obtain ⟨k,e,x,hx,hr⟩:=(hkeys p.1).1 (List.mem_map.2 ⟨p,hp,rfl⟩)
   rw [List.mem_singleton.1 hx] at hr
   exact ⟨k,e,hr.lt W hi,hr⟩
  obtain ⟨K4, h4⟩ := allK_ev (f := fun n => ctf_equal.l0 n t u) (g := fun p => CondK t u p.1.toNat) mv (fun p hpm => by
   obtain ⟨k,e,hk,_⟩:=hp p hpm
   rw [e]
   exact body_ev W V hk p.2)
  refine ⟨K1+K2+K3+K4,fun k hk=>?_⟩
  show ctf_equal.f k t (i:Int) u (j:Int)=_
  unfold ctf_equal.f
  rw [show ctf_text.f k t (i:Int)=_ from h1 k (by omega),show ctf_text.f k u (j:Int)=_ from h2 k (by omega)]
  simp only [Option.bind_some]
  rw [strEq_iff.2 c,if_neg (by simp),show ctf_reached.f k t [((i:Nat):Int)]=_ from h3 k (by omega)]
  simp only [Option.bind_some]
  rw [show allK (ctf_equal.l0 k t u) mv=_ from h4 k (by omega)]
  rw [tell_congr (p := ∀ p ∈ mv, CondK t u p.1.toNat) (q := EqS t i u j) ⟨fun h => ⟨c, fun q hr => by
   obtain ⟨p,hpm,e⟩:=List.mem_map.1 ((hkeys ((q:Nat):Int)).2 ⟨q,rfl,i,List.mem_singleton.2 rfl,hr⟩)
   have:=h p hpm
   rw [e] at this
   exact this⟩, fun h p hpm => by
   obtain ⟨k,e,hk,hr⟩:=hp p hpm
   rw [e]
   exact h.2 k hr⟩]
  cases tell (EqS t i u j)<;>rfl
 ·refine ⟨K1+K2,fun k hk=>?_⟩
  show ctf_equal.f k t (i:Int) u (j:Int)=_
  unfold ctf_equal.f
  rw [show ctf_text.f k t (i:Int)=_ from h1 k (by omega),show ctf_text.f k u (j:Int)=_ from h2 k (by omega)]
  simp only [Option.bind_some]
  rw [if_pos (by
   cases hs:strEq (tx t i) (tx u j) with
   |false=>rfl
   | true => exact absurd (strEq_iff.1 hs) c), tell_f (fun h => c h.1)]
end
def Typ (t:api_Types) (a:Int) (i:Nat):Prop:=a=(i:Int)∧i<t.vDefs.length∧∃l,Wf t l
theorem given_ev {t:api_Types} (hF:∀d∈t.vDefs,FitD d) (a:Int):(∃i l,a=((i:Nat):Int)∧i<t.vDefs.length∧Wf t l∧Ev (fun k=>ctf_valid.f k t) true∧Ev (fun k=>ctf_given.f k t a) 0)∨(∃e,e≠0∧(∀i,¬Typ t a i)∧Ev (fun k=>ctf_given.f k t a) e):=by
 rcases valid_iff hF with ⟨l,W,hv⟩|⟨hno,hv⟩
 ·have h1:=given_good hv a
  by_cases h:0≤a∧a<t.vDefs.length
  ·rw [if_pos h] at h1
   exact .inl ⟨a.toNat,l,by omega,by omega,W,hv,h1⟩
  ·rw [if_neg h] at h1
   exact .inr ⟨3,by decide,fun i hi=>h ⟨by have:=hi.1;omega,by have:=hi.1;have:=hi.2.1;omega⟩,h1⟩
 ·exact .inr ⟨80,by decide,fun i hi=>by obtain ⟨_,_,l,W⟩:=hi;exact hno l W,given_bad hv a⟩
def EqX (t:api_Types) (a:Int) (u:api_Types) (b:Int):Prop:=∃i j,Typ t a i∧Typ u b j∧EqS t i u j
theorem Equal_ev {t u : api_Types} (hF : ∀ d ∈ t.vDefs, FitD d) (hG : ∀ d ∈ u.vDefs, FitD d) (a b : Int) : Ev (fun k => ctf_Equal.f k t a u b) (tell (EqX t a u b)) := by
  rcases given_ev hF a with ⟨i,l,rfl,hi,W,hv,⟨K1,h1⟩⟩|⟨e,he,hno,⟨K1,h1⟩⟩
  · rcases given_ev hG b with ⟨j,m,rfl,hj,V,hv2,⟨K2,h2⟩⟩|⟨e,he,hno,⟨K2,h2⟩⟩
    · obtain ⟨K3,h3⟩:=equal_ev W V hi hj
      refine ⟨K1+K2+K3,fun k hk=>?_⟩
      show ctf_Equal.f k t (i:Int) u (j:Int)=_
      unfold ctf_Equal.f
      rw [show ctf_given.f k t (i:Int)=_ from h1 k (by omega),show ctf_given.f k u (j:Int)=_ from h2 k (by omega)]
      simp only [Option.bind_some,beq_self_eq_true,Bool.and_self,if_true]
      rw [show ctf_equal.f k t (i:Int) u (j:Int)=_ from h3 k (by omega)]
      simp only [Option.bind_some,Bool.true_and]
      exact congrArg some (tell_congr ⟨fun h => ⟨i, j, ⟨rfl, hi, l, W⟩, ⟨rfl, hj, m, V⟩, h⟩, fun h => by
        obtain ⟨i',j',hi',hj',h⟩:=h
        have e1:i=i':=Int.ofNat.inj hi'.1
        have e2:j=j':=Int.ofNat.inj hj'.1
        subst e1 e2
        exact h⟩)
    · refine ⟨K1+K2,fun k hk=>?_⟩
      show ctf_Equal.f k t (i:Int) u b=_
      unfold ctf_Equal.f
      rw [show ctf_given.f k t (i:Int)=_ from h1 k (by omega),show ctf_given.f k u b=_ from h2 k (by omega)]
      simp only [Option.bind_some,beq_self_eq_true,Bool.and_self,if_true]
      rw [show (e == 0) = false from by simpa using he, tell_f (fun h => by
        obtain ⟨i',j',hi',hj',h⟩:=h
        exact hno j' hj')]
      rfl
  · refine ⟨K1,fun k hk=>?_⟩
    show ctf_Equal.f k t a u b=_
    unfold ctf_Equal.f
    rw [show ctf_given.f k t a=_ from h1 k (by omega)]
    simp only [Option.bind_some]
    rw [show (e == 0) = false from by simpa using he, tell_f (fun h => by
      obtain ⟨i',j',hi',hj',h⟩:=h
      exact hno i' hi')]
    rfl
def cf:List Bool→Nat
 |[]=>0
 |b::r=>(if b then 0 else 1)+cf r
theorem cf_set:∀{is:List Bool} {i:Nat},i<is.length→is.getD i false=false→cf (is.set i true)+1=cf is
  |[],i,h,_=>by simp at h
  | b :: r, 0, _, h => by
    obtain rfl:b=false:=h
    simp [cf];omega
  | b :: r, i + 1, h, h2 => by
    have:=cf_set (is:=r) (i:=i) (by simpa using h) h2
    simp only [List.set_cons_succ,cf]
    omega
theorem gd_set {is:List Bool} {i k:Nat} (h:i<is.length):(is.set i true).getD k false=if i=k then true else is.getD k false:=by
 rw [List.getD_eq_getElem?_getD,List.getD_eq_getElem?_getD,List.getElem?_set]
 by_cases e:i=k
 ·subst e;rw [if_pos rfl,if_pos rfl,if_pos h];rfl
 ·rw [if_neg e,if_neg e]
def reachW (t : api_Types) : Nat → List Bool → List Int → Option (List Bool)
  |0,_,_=>none
  | m + 1, is, todo => match todo with
    |[]=>some is
    |i::r=>if is.getD i.toNat false=true then reachW t m is r else reachW t m (is.set i.toNat true) (r++kids (dAt t i.toNat))
section
variable {t:api_Types} {l:List Int}
structure RInv (t:api_Types) (fr:List Nat) (is:List Bool) (todo:List Int):Prop where
 len:is.length=t.vDefs.length
 mark:∀k,is.getD k false=true→∃i∈fr,Rch t i k
 todo_in:∀x∈todo,x=((x.toNat:Nat):Int)∧x.toNat<t.vDefs.length∧∃i∈fr,Rch t i x.toNat
 closed:∀k,is.getD k false=true→∀c∈kids (dAt t k),is.getD c.toNat false=true∨c∈todo
 start:∀i∈fr,is.getD i false=true∨((i:Nat):Int)∈todo
theorem reach_run (W : Wf t l) {fr : List Nat} : ∀ (N : Nat) (is : List Bool), cf is ≤ N → ∀ (todo : List Int), RInv t fr is todo →
    ∃is',(∃K,∀k,K≤k→reachW t k is todo=some is')∧RInv t fr is' []:=by
  intro N
  induction N with
  | zero =>
    intro is hN todo
    induction todo with
    |nil=>exact fun h=>⟨is,⟨1,fun k hk=>by obtain ⟨k,rfl⟩:∃q,k=q+1:=⟨k-1,by omega⟩;rfl⟩,h⟩
    | cons x r ih =>
      intro h
      obtain ⟨hx1,hx2,hx3⟩:=h.todo_in x List.mem_cons_self
      have hs:is.getD x.toNat false=true:=by
        cases hb:is.getD x.toNat false with
        |true=>rfl
        | false =>
          have:=cf_set (by rw [h.len];exact hx2) hb
          omega
      obtain ⟨is', ⟨K, hK⟩, hI⟩ := ih ⟨h.len, h.mark, fun y hy => h.todo_in y (List.mem_cons_of_mem _ hy), fun k hk c hc => by
        rcases h.closed k hk c hc with h1|h1
        · exact .inl h1
        · rcases List.mem_cons.1 h1 with rfl|h1
          · exact .inl hs
          · exact .inr h1,fun i hi=>by
        rcases h.start i hi with h1|h1
        · exact .inl h1
        · rcases List.mem_cons.1 h1 with h2|h1
          · exact .inl (by rw [←h2] at hs;exact hs)
          · exact .inr h1⟩
      refine ⟨is',⟨K+1,fun k hk=>?_⟩,hI⟩
      obtain ⟨k,rfl⟩:∃q,k=q+1:=⟨k-1,by omega⟩
      rw [reachW,if_pos hs]
      exact hK k (by omega)
  | succ N ihN =>
    intro is hN todo
    induction todo with
    |nil=>exact fun h=>⟨is,⟨1,fun k hk=>by obtain ⟨k,rfl⟩:∃q,k=q+1:=⟨k-1,by omega⟩;rfl⟩,h⟩
    | cons x r ih =>
      intro h
      obtain ⟨hx1,hx2,hx3⟩:=h.todo_in x List.mem_cons_self
      cases hb:is.getD x.toNat false with
      | true =>
        obtain ⟨is', ⟨K, hK⟩, hI⟩ := ih ⟨h.len, h.mark, fun y hy => h.todo_in y (List.mem_cons_of_mem _ hy), fun k hk c hc => by
          rcases h.closed k hk c hc with h1|h1
          · exact .inl h1
          · rcases List.mem_cons.1 h1 with rfl|h1
            · exact .inl hb
            · exact .inr h1,fun i hi=>by
          rcases h.start i hi with h1|h1
          · exact .inl h1
          · rcases List.mem_cons.1 h1 with h2|h1
            · exact .inl (by rw [←h2] at hb;exact hb)
            · exact .inr h1⟩
        refine ⟨is',⟨K+1,fun k hk=>?_⟩,hI⟩
        obtain ⟨k,rfl⟩:∃q,k=q+1:=⟨k-1,by omega⟩
        rw [reachW,if_pos hb]
        exact hK k (by omega)
      | false =>
        have hlt:x.toNat<is.length:=by rw [h.len];exact hx2
        have hcf:=cf_set hlt hb
        obtain ⟨is', ⟨K, hK⟩, hI⟩ := ihN (is.set x.toNat true) (by omega) (r ++ kids (dAt t x.toNat)) ⟨by rw [List.length_set]; exact h.len, fun k hk => by
          rw [gd_set hlt] at hk
          by_cases e:x.toNat=k
          · subst e;exact hx3
          · rw [if_neg e] at hk;exact h.mark k hk,fun y hy=>by
          rcases List.mem_append.1 hy with hy|hy
          · exact h.todo_in y (List.mem_cons_of_mem _ hy)
          · obtain ⟨h1,h2⟩:=kids_range W hx2 hy
            obtain ⟨i,hi,hr⟩:=hx3
            exact ⟨h1,h2,i,hi, .step hr hy⟩,fun k hk c hc=>by
          rw [gd_set hlt] at hk
          rw [gd_set hlt]
          by_cases e:x.toNat=k
          · subst e;exact .inr (List.mem_append_right _ hc)
          · rw [if_neg e] at hk
            rcases h.closed k hk c hc with h1|h1
            · refine .inl ?_
              split
              · rfl
              · exact h1
            · rcases List.mem_cons.1 h1 with rfl|h1
              · exact .inl (by rw [if_pos rfl])
              · exact .inr (List.mem_append_left _ h1),fun i hi=>by
          rw [gd_set hlt]
          rcases h.start i hi with h1|h1
          · refine .inl ?_
            split
            · rfl
            · exact h1
          · rcases List.mem_cons.1 h1 with h2|h1
            · exact .inl (by rw [if_pos (by rw [←h2];rfl)])
            · exact .inr (List.mem_append_left _ h1)⟩
        refine ⟨is',⟨K+1,fun k hk=>?_⟩,hI⟩
        obtain ⟨k,rfl⟩:∃q,k=q+1:=⟨k-1,by omega⟩
        rw [reachW,if_neg (by rw [hb];simp)]
        exact hK k (by omega)
theorem reachW_ev (W:Wf t l) {fr:List Nat} (hf:∀i∈fr,i<t.vDefs.length):∃is',(∃K,∀k,K≤k→reachW t k (List.replicate t.vDefs.length false) (natL fr)=some is')∧is'.length=t.vDefs.length∧∀k,is'.getD k false=true↔∃i∈fr,Rch t i k:=by
  have hrep:∀k,(List.replicate t.vDefs.length false).getD k false=false:=fun k=>by
    rw [List.getD_eq_getElem?_getD,List.getElem?_replicate]
    split<;>rfl
  have hin:∀x∈natL fr,x=((x.toNat:Nat):Int)∧x.toNat<t.vDefs.length∧∃i∈fr,Rch t i x.toNat:=fun x hx=>by
    obtain ⟨i,hi,rfl⟩:=List.mem_map.1 hx
    exact ⟨rfl,hf i hi,i,hi, .refl⟩
  have hno:∀k,¬(List.replicate t.vDefs.length false).getD k false=true:=fun k hk=>by rw [hrep] at hk;cases hk
  have h0:RInv t fr (List.replicate t.vDefs.length false) (natL fr):=⟨by simp,fun k hk=>absurd hk (hno k),hin,fun k hk=>absurd hk (hno k),fun i hi=> .inr (List.mem_map.2 ⟨i,hi,rfl⟩)⟩
  obtain ⟨is',hK,hI⟩:=reach_run W (fr:=fr) _ (List.replicate t.vDefs.length false) (Nat.le_refl _) (natL fr) h0
  refine ⟨is',hK,hI.len,fun k=>⟨hI.mark k,?_⟩⟩
  rintro ⟨i,hi,hr⟩
  induction hr with
  | refl =>
    rcases hI.start i hi with h|h
    · exact h
    · cases h
  | step hr hc ih =>
    rcases hI.closed _ ih _ hc with h|h
    · exact h
    · cases h
end
def taplineref08_Named.f (a0:api_Def):Option (Bool):=some ((a0.vKind !=2)&&(a0.vKind !=3))
theorem taplineref08_Named.calls (a0:api_Def) (A0_6:Option Addr) (c0_6:Nat) {h0:View} {w0:World} (hv:Sees h0 w0) (hr0_6:Rd k_api_Field h0 A0_6 a0.vFields) (hc0_6:a0.vFields.length≤c0_6) {r:Bool} (H:taplineref08_Named.f a0=some r):Calls Tryd.prog 49 #[Value.agg #[vI a0.vKind,vS a0.vName,vI a0.vInt.vSize,vB a0.vInt.vSigned,vI a0.vRef,vI a0.vN,vL A0_6 a0.vFields.length c0_6]] w0 (fun e w1=>e= .returned (vB r)∧Ext w0 w1):=by
 unfold taplineref08_Named.f at H
 have HS:St [] h0 w0 h0 [] w0:=St.init hv
 go_enter Tryd.func49,Tryd.ntmps49
 refine wp_seq<|region<|run_ex rfl rfl (does_box (cs:=#[vI a0.vKind,vS a0.vName,vI a0.vInt.vSize,vB a0.vInt.vSigned,vI a0.vRef,vI a0.vN,vL A0_6 a0.vFields.length c0_6]) rfl rfl) ?_
 rintro w1 _ hE1 ⟨b1,rfl,ge1,hb1⟩
 have HS1:=HS.new hE1 ge1 hb1
 refine rs (vB false) (r_assign rfl) ?_
 try simp only [sc0,sc1]
 refine run_nil<|norm_then<|wp_seq<|region<|rs (vP b1 0) (r_fieldBox (n:=1) (o':=0) rfl Tryd.runUnderlying34 rfl Tryd.sizeOf3 (by decide) rfl)<|rs (vI a0.vKind) (r_loadBox rfl Tryd.isAgg3 (HS1.look 0 rfl) rfl)<|rs (vB (a0.vKind !=2)) (r_bin rfl rfl rfl)<|rs (vB (a0.vKind !=2)) (r_move rfl)<|run_frame (by simp only [sc0,sc1];rfl) ?_
 refine rgs (a0.vKind !=2) true (vP b1 0) rfl rfl rfl rfl (fun hg=>(r_fieldBox (n:=1) (o':=0) rfl Tryd.runUnderlying34 rfl Tryd.sizeOf3 (by decide) rfl))<|rgs (a0.vKind !=2) true (vI a0.vKind) rfl rfl rfl rfl (fun hg=>(r_loadBox (gvt (vP b1 0) hg rfl) Tryd.isAgg3 (HS1.look 0 rfl) rfl))<|rgs (a0.vKind !=2) true (vB (a0.vKind !=3)) rfl rfl rfl rfl (fun hg=>(r_bin (gvt (vI a0.vKind) hg rfl) rfl rfl))<|rs (vB ((a0.vKind !=2)&&(a0.vKind !=3))) (r_pick_and rfl (fun hp=>(gvt (vB (a0.vKind !=3)) (and_i rfl hp) rfl)) rfl)<|run_frame (by simp only [sc0,sc1];rfl) ?_
 refine rs (vB ((a0.vKind !=2)&&(a0.vKind !=3))) (r_assign rfl) ?_
 try simp only [sc0,sc1]
 refine run_nil<|norm_then<|wp_ret ?_
 obtain rfl:=Option.some.inj H
 exact bodyPost_ret (results_1 rfl (one_tmp rfl)) rfl<|⟨rfl,HS1.toE⟩
def taplineref08_unused.f (a0:api_Def):Option (Bool):=(taplineref08_Named.f a0).bind fun v1=>(if (v1 !=(!(strEq a0.vName ByteArray.empty)))=true then (some false) else (if ((a0.vKind !=1)&&((a0.vInt.vSize !=0)||a0.vInt.vSigned))=true then (some false) else (if ((((a0.vKind !=2)&&(a0.vKind !=3))&&(a0.vKind !=6))&&(a0.vRef !=0))=true then (some false) else (if (((a0.vKind !=3)&&(a0.vKind !=4))&&(a0.vN !=0))=true then (some false) else (some (((a0.vKind==4)||(a0.vKind==5))||((a0.vFields.length:Int)==0)))))))
theorem taplineref08_unused.calls (a0:api_Def) (A0_6:Option Addr) (c0_6:Nat) {h0:View} {w0:World} (hv:Sees h0 w0) (hr0_6:Rd k_api_Field h0 A0_6 a0.vFields) (hc0_6:a0.vFields.length≤c0_6) {r:Bool} (H:taplineref08_unused.f a0=some r):Calls Tryd.prog 94 #[Value.agg #[vI a0.vKind,vS a0.vName,vI a0.vInt.vSize,vB a0.vInt.vSigned,vI a0.vRef,vI a0.vN,vL A0_6 a0.vFields.length c0_6]] w0 (fun e w1=>e= .returned (vB r)∧Ext w0 w1):=by
 unfold taplineref08_unused.f at H
 have HS:St [] h0 w0 h0 [] w0:=St.init hv
 go_enter Tryd.func94,Tryd.ntmps94
 refine wp_seq<|region<|run_ex rfl rfl (does_box (cs:=#[vI a0.vKind,vS a0.vName,vI a0.vInt.vSize,vB a0.vInt.vSigned,vI a0.vRef,vI a0.vN,vL A0_6 a0.vFields.length c0_6]) rfl rfl) ?_
 rintro w1 _ hE1 ⟨b1,rfl,ge1,hb1⟩
 have HS1:=HS.new hE1 ge1 hb1
 refine rs (vB false) (r_assign rfl) ?_
 try simp only [sc0,sc1]
 refine run_nil<|norm_then<|wp_seq<|wp_seq ?_
 obtain ⟨v1,H1,H⟩:=of_bind H
 refine drawn [.eq (Value.agg #[vI a0.vKind,vS a0.vName,vI a0.vInt.vSize,vB a0.vInt.vSigned,vI a0.vRef,vI a0.vN,vL A0_6 a0.vFields.length c0_6]), .eq (vB v1), .eq (vP b1 1), .eq (vS a0.vName), .eq (vB (!(strEq a0.vName ByteArray.empty))), .eq (vB (v1 !=(!(strEq a0.vName ByteArray.empty))))] [3,4,5,6,7,8] hmix (by kernel_rfl) rfl (stable_eq (stable_eq (stable_eq (stable_eq (stable_eq (stable_eq stable_nil)))))) ⟨ob_plain rfl (fun a' w' hE hk=>by have HSd:=HS1.step hE;exact does_eq (r_loadBoxAgg (n:=7) (vs:=[vI a0.vKind,vS a0.vName,vI a0.vInt.vSize,vB a0.vInt.vSigned,vI a0.vRef,vI a0.vN,vL A0_6 a0.vFields.length c0_6]) (show _=vP b1 0 from hk 1 rfl) Tryd.isAgg34 (HSd.look 0 rfl) Tryd.sizeOf34 rfl rfl)),ob_plain rfl (fun a' w' hE hk=>by have HSd:=HS1.step hE;exact (does_call_eq Tryd.call49 rfl (map1 (show _=Value.agg #[vI a0.vKind,vS a0.vName,vI a0.vInt.vSize,vB a0.vInt.vSigned,vI a0.vRef,vI a0.vN,vL A0_6 a0.vFields.length c0_6] from hk 3 rfl)) (taplineref08_Named.calls a0 A0_6 c0_6 HSd.sees hr0_6 hc0_6 H1))),ob_plain rfl (fun a' w' hE hk=>by have HSd:=HS1.step hE;exact does_eq (r_fieldBox (n:=1) (o':=1) (show _=vP b1 0 from hk 1 rfl) Tryd.runUnderlying34 rfl Tryd.sizeOf9 (by decide) rfl)),ob_plain rfl (fun a' w' hE hk=>by have HSd:=HS1.step hE;exact does_eq (r_loadBox (show _=vP b1 1 from hk 5 rfl) Tryd.isAgg9 (HSd.look 0 rfl) rfl)),ob_plain rfl (fun a' w' hE hk=>by have HSd:=HS1.step hE;exact does_eq (r_strneq (show _=vS a0.vName from hk 6 rfl) rfl)),ob_plain rfl (fun a' w' hE hk=>by have HSd:=HS1.step hE;exact does_eq (r_boolneq (show _=vB v1 from hk 4 rfl) (show _=vB (!(strEq a0.vName ByteArray.empty)) from hk 7 rfl) Tryd.runUnderlying4)),trivial⟩ ?_
 intro w2 hE2
 simp only [List.zip_cons_cons,List.zip_nil_left,List.zip_nil_right,finL,sc0,sc1,List.length_cons,List.length_nil,List.drop_succ_cons,List.drop_zero,Nat.zero_add,Nat.reduceAdd]
 have HS2:=HS1.step hE2
 refine run_nil<|norm_then<|wp_cond_split (t:=(v1 !=(!(strEq a0.vName ByteArray.empty)))) rfl (fun c1=>?_) (fun c1=>?_)
 ·replace H:=of_pos H c1
  refine wp_seq<|region<|rs (vB false) (r_assign rfl) ?_
  try simp only [sc0,sc1]
  refine run_nil<|norm_then<|wp_ret<|ret_then ?_
  obtain rfl:=Option.some.inj H
  exact bodyPost_ret (results_1 rfl (one_tmp rfl)) rfl<|⟨rfl,HS2.toE⟩
 ·replace H:=of_neg H (nt c1)
  refine wp_skip<|norm_then<|wp_seq<|wp_seq<|region<|rs (vP b1 0) (r_fieldBox (n:=1) (o':=0) rfl Tryd.runUnderlying34 rfl Tryd.sizeOf3 (by decide) rfl)<|rs (vI a0.vKind) (r_loadBox rfl Tryd.isAgg3 (HS2.look 0 rfl) rfl)<|rs (vB (a0.vKind !=1)) (r_bin rfl rfl rfl)<|rs (vB (a0.vKind !=1)) (r_move rfl)<|run_frame (by simp only [sc0,sc1];rfl) ?_
  refine rgs (a0.vKind !=1) true (vP b1 2) rfl rfl rfl rfl (fun hg=>(r_fieldBox (n:=2) (o':=2) rfl Tryd.runUnderlying34 rfl Tryd.sizeOf31 (by decide) rfl))<|rgs (a0.vKind !=1) true (vP b1 2) rfl rfl rfl rfl (fun hg=>(r_fieldBox (n:=1) (o':=2) (gvt (vP b1 2) hg rfl) Tryd.runUnderlying31 rfl Tryd.sizeOf3 (by decide) rfl))<|rgs (a0.vKind !=1) true (vI a0.vInt.vSize) rfl rfl rfl rfl (fun hg=>(r_loadBox (gvt (vP b1 2) hg rfl) Tryd.isAgg3 (HS2.look 0 rfl) rfl))<|rgs (a0.vKind !=1) true (vB (a0.vInt.vSize !=0)) rfl rfl rfl rfl (fun hg=>(r_bin (gvt (vI a0.vInt.vSize) hg rfl) rfl rfl))<|run_frame (by simp only [sc0,sc1];rfl) ?_
  refine rgs (a0.vKind !=1) true (vB (a0.vInt.vSize !=0)) rfl rfl rfl rfl (fun hg=>(r_move (gvt (vB (a0.vInt.vSize !=0)) hg rfl)))<|rgs (a0.vInt.vSize !=0) (true&&((a0.vKind !=1)==true)) (vP b1 2) rfl rfl rfl rfl (fun hg=>(r_fieldBox (n:=2) (o':=2) rfl Tryd.runUnderlying34 rfl Tryd.sizeOf31 (by decide) rfl))<|rgs (a0.vInt.vSize !=0) (true&&((a0.vKind !=1)==true)) (vP b1 3) rfl rfl rfl rfl (fun hg=>(r_fieldBox (n:=1) (o':=3) (gvt (vP b1 2) hg rfl) Tryd.runUnderlying31 rfl Tryd.sizeOf4 (by decide) rfl))<|rgs (a0.vInt.vSize !=0) (true&&((a0.vKind !=1)==true)) (vB a0.vInt.vSigned) rfl rfl rfl rfl (fun hg=>(r_loadBox (gvt (vP b1 3) hg rfl) Tryd.isAgg4 (HS2.look 0 rfl) rfl))<|run_frame (by simp only [sc0,sc1];rfl) ?_
  refine rgs (a0.vKind !=1) true (vB ((a0.vInt.vSize !=0)||a0.vInt.vSigned)) rfl rfl rfl rfl (fun hg=>(r_pick_or (gvt (vB (a0.vInt.vSize !=0)) hg rfl) rfl (fun hp=>(gvt (vB a0.vInt.vSigned) (and_i hg hp) rfl))))<|rs (vB ((a0.vKind !=1)&&((a0.vInt.vSize !=0)||a0.vInt.vSigned))) (r_pick_and rfl (fun hp=>(gvt (vB ((a0.vInt.vSize !=0)||a0.vInt.vSigned)) (and_i rfl hp) rfl)) rfl) ?_
  try simp only [sc0,sc1]
  refine run_nil<|norm_then<|wp_cond_split (t:=((a0.vKind !=1)&&((a0.vInt.vSize !=0)||a0.vInt.vSigned))) rfl (fun c2=>?_) (fun c2=>?_)
  ·replace H:=of_pos H c2
   refine wp_seq<|region<|rs (vB false) (r_assign rfl) ?_
   try simp only [sc0,sc1]
   refine run_nil<|norm_then<|wp_ret<|ret_then ?_
   obtain rfl:=Option.some.inj H
   exact bodyPost_ret (results_1 rfl (one_tmp rfl)) rfl<|⟨rfl,HS2.toE⟩
  ·replace H:=of_neg H (nt c2)
   refine wp_skip<|norm_then<|wp_seq<|wp_seq<|region<|rs (vP b1 0) (r_fieldBox (n:=1) (o':=0) rfl Tryd.runUnderlying34 rfl Tryd.sizeOf3 (by decide) rfl)<|rs (vI a0.vKind) (r_loadBox rfl Tryd.isAgg3 (HS2.look 0 rfl) rfl)<|rs (vB (a0.vKind !=2)) (r_bin rfl rfl rfl)<|rs (vB (a0.vKind !=2)) (r_move rfl)<|run_frame (by simp only [sc0,sc1];rfl) ?_
   refine rgs (a0.vKind !=2) true (vP b1 0) rfl rfl rfl rfl (fun hg=>(r_fieldBox (n:=1) (o':=0) rfl Tryd.runUnderlying34 rfl Tryd.sizeOf3 (by decide) rfl))<|rgs (a0.vKind !=2) true (vI a0.vKind) rfl rfl rfl rfl (fun hg=>(r_loadBox (gvt (vP b1 0) hg rfl) Tryd.isAgg3 (HS2.look 0 rfl) rfl))<|rgs (a0.vKind !=2) true (vB (a0.vKind !=3)) rfl rfl rfl rfl (fun hg=>(r_bin (gvt (vI a0.vKind) hg rfl) rfl rfl))<|rs (vB ((a0.vKind !=2)&&(a0.vKind !=3))) (r_pick_and rfl (fun hp=>(gvt (vB (a0.vKind !=3)) (and_i rfl hp) rfl)) rfl)<|run_frame (by simp only [sc0,sc1];rfl) ?_
   refine rs (vB ((a0.vKind !=2)&&(a0.vKind !=3))) (r_move rfl)<|rgs ((a0.vKind !=2)&&(a0.vKind !=3)) true (vP b1 0) rfl rfl rfl rfl (fun hg=>(r_fieldBox (n:=1) (o':=0) rfl Tryd.runUnderlying34 rfl Tryd.sizeOf3 (by decide) rfl))<|rgs ((a0.vKind !=2)&&(a0.vKind !=3)) true (vI a0.vKind) rfl rfl rfl rfl (fun hg=>(r_loadBox (gvt (vP b1 0) hg rfl) Tryd.isAgg3 (HS2.look 0 rfl) rfl))<|rgs ((a0.vKind !=2)&&(a0.vKind !=3)) true (vB (a0.vKind !=6)) rfl rfl rfl rfl (fun hg=>(r_bin (gvt (vI a0.vKind) hg rfl) rfl rfl))<|run_frame (by simp only [sc0,sc1];rfl) ?_
   refine rs (vB (((a0.vKind !=2)&&(a0.vKind !=3))&&(a0.vKind !=6))) (r_pick_and rfl (fun hp=>(gvt (vB (a0.vKind !=6)) (and_i rfl hp) rfl)) rfl)<|rs (vB (((a0.vKind !=2)&&(a0.vKind !=3))&&(a0.vKind !=6))) (r_move rfl)<|rgs (((a0.vKind !=2)&&(a0.vKind !=3))&&(a0.vKind !=6)) true (vP b1 4) rfl rfl rfl rfl (fun hg=>(r_fieldBox (n:=1) (o':=4) rfl Tryd.runUnderlying34 rfl Tryd.sizeOf3 (by decide) rfl))<|rgs (((a0.vKind !=2)&&(a0.vKind !=3))&&(a0.vKind !=6)) true (vI a0.vRef) rfl rfl rfl rfl (fun hg=>(r_loadBox (gvt (vP b1 4) hg rfl) Tryd.isAgg3 (HS2.look 0 rfl) rfl))<|run_frame (by simp only [sc0,sc1];rfl) ?_
   refine rgs (((a0.vKind !=2)&&(a0.vKind !=3))&&(a0.vKind !=6)) true (vB (a0.vRef !=0)) rfl rfl rfl rfl (fun hg=>(r_bin (gvt (vI a0.vRef) hg rfl) rfl rfl))<|rs (vB ((((a0.vKind !=2)&&(a0.vKind !=3))&&(a0.vKind !=6))&&(a0.vRef !=0))) (r_pick_and rfl (fun hp=>(gvt (vB (a0.vRef !=0)) (and_i rfl hp) rfl)) rfl) ?_
   try simp only [sc0,sc1]
   refine run_nil<|norm_then<|wp_cond_split (t:=((((a0.vKind !=2)&&(a0.vKind !=3))&&(a0.vKind !=6))&&(a0.vRef !=0))) rfl (fun c3=>?_) (fun c3=>?_)
   ·replace H:=of_pos H c3
    refine wp_seq<|region<|rs (vB false) (r_assign rfl) ?_
    try simp only [sc0,sc1]
    refine run_nil<|norm_then<|wp_ret<|ret_then ?_
    obtain rfl:=Option.some.inj H
    exact bodyPost_ret (results_1 rfl (one_tmp rfl)) rfl<|⟨rfl,HS2.toE⟩
   ·replace H:=of_neg H (nt c3)
    refine wp_skip<|norm_then<|wp_seq<|wp_seq<|region<|rs (vP b1 0) (r_fieldBox (n:=1) (o':=0) rfl Tryd.runUnderlying34 rfl Tryd.sizeOf3 (by decide) rfl)<|rs (vI a0.vKind) (r_loadBox rfl Tryd.isAgg3 (HS2.look 0 rfl) rfl)<|rs (vB (a0.vKind !=3)) (r_bin rfl rfl rfl)<|rs (vB (a0.vKind !=3)) (r_move rfl)<|run_frame (by simp only [sc0,sc1];rfl) ?_
    refine rgs (a0.vKind !=3) true (vP b1 0) rfl rfl rfl rfl (fun hg=>(r_fieldBox (n:=1) (o':=0) rfl Tryd.runUnderlying34 rfl Tryd.sizeOf3 (by decide) rfl))<|rgs (a0.vKind !=3) true (vI a0.vKind) rfl rfl rfl rfl (fun hg=>(r_loadBox (gvt (vP b1 0) hg rfl) Tryd.isAgg3 (HS2.look 0 rfl) rfl))<|rgs (a0.vKind !=3) true (vB (a0.vKind !=4)) rfl rfl rfl rfl (fun hg=>(r_bin (gvt (vI a0.vKind) hg rfl) rfl rfl))<|rs (vB ((a0.vKind !=3)&&(a0.vKind !=4))) (r_pick_and rfl (fun hp=>(gvt (vB (a0.vKind !=4)) (and_i rfl hp) rfl)) rfl)<|run_frame (by simp only [sc0,sc1];rfl) ?_
    refine rs (vB ((a0.vKind !=3)&&(a0.vKind !=4))) (r_move rfl)<|rgs ((a0.vKind !=3)&&(a0.vKind !=4)) true (vP b1 5) rfl rfl rfl rfl (fun hg=>(r_fieldBox (n:=1) (o':=5) rfl Tryd.runUnderlying34 rfl Tryd.sizeOf3 (by decide) rfl))<|rgs ((a0.vKind !=3)&&(a0.vKind !=4)) true (vI a0.vN) rfl rfl rfl rfl (fun hg=>(r_loadBox (gvt (vP b1 5) hg rfl) Tryd.isAgg3 (HS2.look 0 rfl) rfl))<|rgs ((a0.vKind !=3)&&(a0.vKind !=4)) true (vB (a0.vN !=0)) rfl rfl rfl rfl (fun hg=>(r_bin (gvt (vI a0.vN) hg rfl) rfl rfl))<|run_frame (by simp only [sc0,sc1];rfl) ?_
    refine rs (vB (((a0.vKind !=3)&&(a0.vKind !=4))&&(a0.vN !=0))) (r_pick_and rfl (fun hp=>(gvt (vB (a0.vN !=0)) (and_i rfl hp) rfl)) rfl) ?_
    try simp only [sc0,sc1]
    refine run_nil<|norm_then<|wp_cond_split (t:=(((a0.vKind !=3)&&(a0.vKind !=4))&&(a0.vN !=0))) rfl (fun c4=>?_) (fun c4=>?_)
    ·replace H:=of_pos H c4
     refine wp_seq<|region<|rs (vB false) (r_assign rfl) ?_
     try simp only [sc0,sc1]
     refine run_nil<|norm_then<|wp_ret<|ret_then ?_
     obtain rfl:=Option.some.inj H
     exact bodyPost_ret (results_1 rfl (one_tmp rfl)) rfl<|⟨rfl,HS2.toE⟩
    ·replace H:=of_neg H (nt c4)
     refine wp_skip<|norm_then<|wp_seq<|region<|rs (vP b1 0) (r_fieldBox (n:=1) (o':=0) rfl Tryd.runUnderlying34 rfl Tryd.sizeOf3 (by decide) rfl)<|rs (vI a0.vKind) (r_loadBox rfl Tryd.isAgg3 (HS2.look 0 rfl) rfl)<|rs (vB (a0.vKind==4)) (r_bin rfl rfl rfl)<|rs (vB (a0.vKind==4)) (r_move rfl)<|run_frame (by simp only [sc0,sc1];rfl) ?_
     refine rgs (a0.vKind==4) true (vP b1 0) rfl rfl rfl rfl (fun hg=>(r_fieldBox (n:=1) (o':=0) rfl Tryd.runUnderlying34 rfl Tryd.sizeOf3 (by decide) rfl))<|rgs (a0.vKind==4) true (vI a0.vKind) rfl rfl rfl rfl (fun hg=>(r_loadBox (gvt (vP b1 0) hg rfl) Tryd.isAgg3 (HS2.look 0 rfl) rfl))<|rgs (a0.vKind==4) true (vB (a0.vKind==5)) rfl rfl rfl rfl (fun hg=>(r_bin (gvt (vI a0.vKind) hg rfl) rfl rfl))<|rs (vB ((a0.vKind==4)||(a0.vKind==5))) (r_pick_or rfl rfl (fun hp=>(gvt (vB (a0.vKind==5)) (and_i rfl hp) rfl)))<|run_frame (by simp only [sc0,sc1];rfl) ?_
     refine rs (vB ((a0.vKind==4)||(a0.vKind==5))) (r_move rfl)<|rgs ((a0.vKind==4)||(a0.vKind==5)) true (vP b1 6) rfl rfl rfl rfl (fun hg=>(r_fieldBox (n:=1) (o':=6) rfl Tryd.runUnderlying34 rfl Tryd.sizeOf32 (by decide) rfl))<|rgs ((a0.vKind==4)||(a0.vKind==5)) true (vL A0_6 a0.vFields.length c0_6) rfl rfl rfl rfl (fun hg=>(r_loadBox (gvt (vP b1 6) hg rfl) Tryd.isAgg32 (HS2.look 0 rfl) rfl))<|rgs ((a0.vKind==4)||(a0.vKind==5)) true (vI (a0.vFields.length:Int)) rfl rfl rfl rfl (fun hg=>(r_len (gvt (vL A0_6 a0.vFields.length c0_6) hg rfl) Tryd.runUnderlying32))<|run_frame (by simp only [sc0,sc1];rfl) ?_
     refine rgs ((a0.vKind==4)||(a0.vKind==5)) true (vB ((a0.vFields.length:Int)==0)) rfl rfl rfl rfl (fun hg=>(r_bin (gvt (vI (a0.vFields.length:Int)) hg rfl) rfl rfl))<|rs (vB (((a0.vKind==4)||(a0.vKind==5))||((a0.vFields.length:Int)==0))) (r_pick_or rfl rfl (fun hp=>(gvt (vB ((a0.vFields.length:Int)==0)) (and_i rfl hp) rfl)))<|rs (vB (((a0.vKind==4)||(a0.vKind==5))||((a0.vFields.length:Int)==0))) (r_assign rfl) ?_
     try simp only [sc0,sc1]
     refine run_nil<|norm_then<|wp_ret ?_
     obtain rfl:=Option.some.inj H
     exact bodyPost_ret (results_1 rfl (one_tmp rfl)) rfl<|⟨rfl,HS2.toE⟩
def taplineref08_Name.l0 (a0:ByteArray):Nat→Int→Option ((Bool)⊕(Unit))
 |0,_=>none
 |m+1,y1_0=>if (decide (y1_0<(a0.size:Int)))=true then (if 0≤y1_0∧y1_0<(a0.size:Int) then (if ((!((((decide ((byteAt a0 y1_0)≥97))&&(decide ((byteAt a0 y1_0)≤122)))||((decide ((byteAt a0 y1_0)≥65))&&(decide ((byteAt a0 y1_0)≤90))))||((byteAt a0 y1_0)==95)))&&(((y1_0==0)||(decide ((byteAt a0 y1_0)<48)))||(decide ((byteAt a0 y1_0)>57))))=true then (some (.inl false)) else (taplineref08_Name.l0 a0 m (IntKind.wrap .i64 (y1_0+1)))) else none) else (some (.inr ()))
def taplineref08_Name.f (k:Nat) (a0:ByteArray):Option (Bool):=if (((a0.size:Int)==0)||(decide ((a0.size:Int)>31)))=true then (some false) else ((taplineref08_Name.l0 a0 k 0).bind fun xx1=>(match xx1 with| .inl r=>some r| .inr s1=>some true))
theorem taplineref08_Name.calls (k:Nat) (a0:ByteArray) {h0:View} {w0:World} (hv:Sees h0 w0) {r:Bool} (H:taplineref08_Name.f k a0=some r):Calls Tryd.prog 95 #[vS a0] w0 (fun e w1=>e= .returned (vB r)∧Ext w0 w1):=by
 unfold taplineref08_Name.f at H
 have HS:St [] h0 w0 h0 [] w0:=St.init hv
 go_enter Tryd.func95,Tryd.ntmps95
 refine wp_seq<|region<|rs (vB false) (r_assign rfl) ?_
 try simp only [sc0,sc1]
 refine run_nil<|norm_then<|wp_seq<|wp_seq<|region<|rs (vS a0) (r_move rfl)<|rs (vI (a0.size:Int)) (r_lenStr rfl Tryd.runUnderlying9)<|rs (vB ((a0.size:Int)==0)) (r_bin rfl rfl rfl)<|rs (vB ((a0.size:Int)==0)) (r_move rfl)<|run_frame (by simp only [sc0,sc1];rfl) ?_
 refine rgs ((a0.size:Int)==0) true (vS a0) rfl rfl rfl rfl (fun hg=>(r_move rfl))<|rgs ((a0.size:Int)==0) true (vI (a0.size:Int)) rfl rfl rfl rfl (fun hg=>(r_lenStr (gvt (vS a0) hg rfl) Tryd.runUnderlying9))<|rgs ((a0.size:Int)==0) true (vB (decide ((a0.size:Int)>31))) rfl rfl rfl rfl (fun hg=>(r_bin (gvt (vI (a0.size:Int)) hg rfl) rfl rfl))<|rs (vB (((a0.size:Int)==0)||(decide ((a0.size:Int)>31)))) (r_pick_or rfl rfl (fun hp=>(gvt (vB (decide ((a0.size:Int)>31))) (and_i rfl hp) rfl))) ?_
 try simp only [sc0,sc1]
 refine run_nil<|norm_then<|wp_cond_split (t:=(((a0.size:Int)==0)||(decide ((a0.size:Int)>31)))) rfl (fun c1=>?_) (fun c1=>?_)
 ·replace H:=of_pos H c1
  refine wp_seq<|region<|rs (vB false) (r_assign rfl) ?_
  try simp only [sc0,sc1]
  refine run_nil<|norm_then<|wp_ret<|ret_then ?_
  obtain rfl:=Option.some.inj H
  exact bodyPost_ret (results_1 rfl (one_tmp rfl)) rfl<|⟨rfl,HS.toE⟩
 ·replace H:=of_neg H (nt c1)
  refine wp_skip<|norm_then<|wp_seq<|wp_seq<|region<|rs (vI 0) (r_assign rfl) ?_
  try simp only [sc0,sc1]
  refine run_nil<|norm_then ?_
  obtain ⟨xx1,H,G1⟩:=of_bind H
  refine loop_j [2,3,4,5,14,15,16,17,18,19,20,21,22,23,24,25,26,27,28,29,30,31,32,33,34,35,36,37,38,39,40,41,42,43,44,45,46,47,48,49,50,51,52,53,54] (fun m us w'=>∃(y1_0:Int),Fit us (fun uy1=>[(uy1 0),vI y1_0,(uy1 2),(uy1 3),(uy1 4),(uy1 5),(uy1 6),(uy1 7),(uy1 8),(uy1 9),(uy1 10),(uy1 11),(uy1 12),(uy1 13),(uy1 14),(uy1 15),(uy1 16),(uy1 17),(uy1 18),(uy1 19),(uy1 20),(uy1 21),(uy1 22),(uy1 23),(uy1 24),(uy1 25),(uy1 26),(uy1 27),(uy1 28),(uy1 29),(uy1 30),(uy1 31),(uy1 32),(uy1 33),(uy1 34),(uy1 35),(uy1 36),(uy1 37),(uy1 38),(uy1 39),(uy1 40),(uy1 41),(uy1 42),(uy1 43),(uy1 44)])∧taplineref08_Name.l0 a0 m y1_0=some xx1∧St [] h0 w0 h0 [] w') (fun us w'=>∃(s1:Unit),xx1= .inr s1∧Fit us (fun uo1=>[(uo1 0),(uo1 1),(uo1 2),(uo1 3),(uo1 4),(uo1 5),(uo1 6),(uo1 7),(uo1 8),(uo1 9),(uo1 10),(uo1 11),(uo1 12),(uo1 13),(uo1 14),(uo1 15),(uo1 16),(uo1 17),(uo1 18),(uo1 19),(uo1 20),(uo1 21),(uo1 22),(uo1 23),(uo1 24),(uo1 25),(uo1 26),(uo1 27),(uo1 28),(uo1 29),(uo1 30),(uo1 31),(uo1 32),(uo1 33),(uo1 34),(uo1 35),(uo1 36),(uo1 37),(uo1 38),(uo1 39),(uo1 40),(uo1 41),(uo1 42),(uo1 43),(uo1 44)])∧St [] h0 w0 h0 [] w') k ⟨0,(fit rfl),H,HS⟩ ?_ ?_
  ·rintro m us w1 ⟨y1_0,huy1,H,HS1⟩
   obtain ⟨uy1,rfl⟩:=unj huy1
   cases m with
   |zero=>exact absurd H (by simp [taplineref08_Name.l0])
   |succ m=>
    rw [taplineref08_Name.l0] at H
    try simp only [patch,sc0,sc1]
    refine wp_seq<|wp_seq<|region<|rs (vI y1_0) (r_move rfl)<|rs (vS a0) (r_move rfl)<|rs (vI (a0.size:Int)) (r_lenStr rfl Tryd.runUnderlying9)<|rs (vB (decide (y1_0<(a0.size:Int)))) (r_bin rfl rfl rfl) ?_
    try simp only [sc0,sc1]
    refine run_nil<|norm_then<|wp_cond_split (t:=(decide (y1_0<(a0.size:Int)))) rfl (fun c2=>?_) (fun c2=>?_)
    ·replace H:=of_pos H c2
     refine wp_skip<|norm_then<|wp_seq<|wp_block<|wp_seq<|region<|rs (vS a0) (r_move rfl)<|rs (vI y1_0) (r_move rfl) ?_
     obtain ⟨hi1,H⟩:=of_ite H
     refine rs (Value.int .u8 (byteAt a0 y1_0)) (r_indexStr rfl rfl hi1 Tryd.runUnderlying9)<|rs (Value.int .u8 (byteAt a0 y1_0)) (r_assign rfl) ?_
     try simp only [sc0,sc1]
     refine run_nil<|norm_then<|wp_seq<|region<|rs (Value.int .u8 (byteAt a0 y1_0)) (r_move rfl)<|rs (vB (decide ((byteAt a0 y1_0)≥97))) (r_bin rfl rfl rfl)<|rs (vB (decide ((byteAt a0 y1_0)≥97))) (r_move rfl)<|rgs (decide ((byteAt a0 y1_0)≥97)) true (Value.int .u8 (byteAt a0 y1_0)) rfl rfl rfl rfl (fun hg=>(r_move rfl))<|run_frame (by simp only [sc0,sc1];rfl) ?_
     refine rgs (decide ((byteAt a0 y1_0)≥97)) true (vB (decide ((byteAt a0 y1_0)≤122))) rfl rfl rfl rfl (fun hg=>(r_bin (gvt (Value.int .u8 (byteAt a0 y1_0)) hg rfl) rfl rfl))<|rs (vB ((decide ((byteAt a0 y1_0)≥97))&&(decide ((byteAt a0 y1_0)≤122)))) (r_pick_and rfl (fun hp=>(gvt (vB (decide ((byteAt a0 y1_0)≤122))) (and_i rfl hp) rfl)) rfl)<|rs (vB ((decide ((byteAt a0 y1_0)≥97))&&(decide ((byteAt a0 y1_0)≤122)))) (r_move rfl)<|rgs ((decide ((byteAt a0 y1_0)≥97))&&(decide ((byteAt a0 y1_0)≤122))) true (Value.int .u8 (byteAt a0 y1_0)) rfl rfl rfl rfl (fun hg=>(r_move rfl))<|run_frame (by simp only [sc0,sc1];rfl) ?_
     refine rgs ((decide ((byteAt a0 y1_0)≥97))&&(decide ((byteAt a0 y1_0)≤122))) true (vB (decide ((byteAt a0 y1_0)≥65))) rfl rfl rfl rfl (fun hg=>(r_bin (gvt (Value.int .u8 (byteAt a0 y1_0)) hg rfl) rfl rfl))<|rgs ((decide ((byteAt a0 y1_0)≥97))&&(decide ((byteAt a0 y1_0)≤122))) true (vB (decide ((byteAt a0 y1_0)≥65))) rfl rfl rfl rfl (fun hg=>(r_move (gvt (vB (decide ((byteAt a0 y1_0)≥65))) hg rfl)))<|rgs (decide ((byteAt a0 y1_0)≥65)) (true&&(((decide ((byteAt a0 y1_0)≥97))&&(decide ((byteAt a0 y1_0)≤122)))==false)) (Value.int .u8 (byteAt a0 y1_0)) rfl rfl rfl rfl (fun hg=>(r_move rfl))<|rgs (decide ((byteAt a0 y1_0)≥65)) (true&&(((decide ((byteAt a0 y1_0)≥97))&&(decide ((byteAt a0 y1_0)≤122)))==false)) (vB (decide ((byteAt a0 y1_0)≤90))) rfl rfl rfl rfl (fun hg=>(r_bin (gvt (Value.int .u8 (byteAt a0 y1_0)) hg rfl) rfl rfl))<|run_frame (by simp only [sc0,sc1];rfl) ?_
     refine rgs ((decide ((byteAt a0 y1_0)≥97))&&(decide ((byteAt a0 y1_0)≤122))) true (vB ((decide ((byteAt a0 y1_0)≥65))&&(decide ((byteAt a0 y1_0)≤90)))) rfl rfl rfl rfl (fun hg=>(r_pick_and (gvt (vB (decide ((byteAt a0 y1_0)≥65))) hg rfl) (fun hp=>(gvt (vB (decide ((byteAt a0 y1_0)≤90))) (and_i hg hp) rfl)) rfl))<|rs (vB (((decide ((byteAt a0 y1_0)≥97))&&(decide ((byteAt a0 y1_0)≤122)))||((decide ((byteAt a0 y1_0)≥65))&&(decide ((byteAt a0 y1_0)≤90))))) (r_pick_or rfl rfl (fun hp=>(gvt (vB ((decide ((byteAt a0 y1_0)≥65))&&(decide ((byteAt a0 y1_0)≤90)))) (and_i rfl hp) rfl)))<|rs (vB (((decide ((byteAt a0 y1_0)≥97))&&(decide ((byteAt a0 y1_0)≤122)))||((decide ((byteAt a0 y1_0)≥65))&&(decide ((byteAt a0 y1_0)≤90))))) (r_move rfl)<|rgs (((decide ((byteAt a0 y1_0)≥97))&&(decide ((byteAt a0 y1_0)≤122)))||((decide ((byteAt a0 y1_0)≥65))&&(decide ((byteAt a0 y1_0)≤90)))) true (Value.int .u8 (byteAt a0 y1_0)) rfl rfl rfl rfl (fun hg=>(r_move rfl))<|run_frame (by simp only [sc0,sc1];rfl) ?_
     refine rgs (((decide ((byteAt a0 y1_0)≥97))&&(decide ((byteAt a0 y1_0)≤122)))||((decide ((byteAt a0 y1_0)≥65))&&(decide ((byteAt a0 y1_0)≤90)))) true (vB ((byteAt a0 y1_0)==95)) rfl rfl rfl rfl (fun hg=>(r_bin (gvt (Value.int .u8 (byteAt a0 y1_0)) hg rfl) rfl rfl))<|rs (vB ((((decide ((byteAt a0 y1_0)≥97))&&(decide ((byteAt a0 y1_0)≤122)))||((decide ((byteAt a0 y1_0)≥65))&&(decide ((byteAt a0 y1_0)≤90))))||((byteAt a0 y1_0)==95))) (r_pick_or rfl rfl (fun hp=>(gvt (vB ((byteAt a0 y1_0)==95)) (and_i rfl hp) rfl)))<|rs (vB ((((decide ((byteAt a0 y1_0)≥97))&&(decide ((byteAt a0 y1_0)≤122)))||((decide ((byteAt a0 y1_0)≥65))&&(decide ((byteAt a0 y1_0)≤90))))||((byteAt a0 y1_0)==95))) (r_assign rfl) ?_
     try simp only [sc0,sc1]
     refine run_nil<|norm_then<|wp_seq<|region<|rs (vB ((((decide ((byteAt a0 y1_0)≥97))&&(decide ((byteAt a0 y1_0)≤122)))||((decide ((byteAt a0 y1_0)≥65))&&(decide ((byteAt a0 y1_0)≤90))))||((byteAt a0 y1_0)==95))) (r_move rfl)<|rs (vB (!((((decide ((byteAt a0 y1_0)≥97))&&(decide ((byteAt a0 y1_0)≤122)))||((decide ((byteAt a0 y1_0)≥65))&&(decide ((byteAt a0 y1_0)≤90))))||((byteAt a0 y1_0)==95)))) (r_not rfl)<|rs (vB (!((((decide ((byteAt a0 y1_0)≥97))&&(decide ((byteAt a0 y1_0)≤122)))||((decide ((byteAt a0 y1_0)≥65))&&(decide ((byteAt a0 y1_0)≤90))))||((byteAt a0 y1_0)==95)))) (r_move rfl)<|rgs (!((((decide ((byteAt a0 y1_0)≥97))&&(decide ((byteAt a0 y1_0)≤122)))||((decide ((byteAt a0 y1_0)≥65))&&(decide ((byteAt a0 y1_0)≤90))))||((byteAt a0 y1_0)==95))) true (vI y1_0) rfl rfl rfl rfl (fun hg=>(r_move rfl))<|run_frame (by simp only [sc0,sc1];rfl) ?_
     refine rgs (!((((decide ((byteAt a0 y1_0)≥97))&&(decide ((byteAt a0 y1_0)≤122)))||((decide ((byteAt a0 y1_0)≥65))&&(decide ((byteAt a0 y1_0)≤90))))||((byteAt a0 y1_0)==95))) true (vB (y1_0==0)) rfl rfl rfl rfl (fun hg=>(r_bin (gvt (vI y1_0) hg rfl) rfl rfl))<|rgs (!((((decide ((byteAt a0 y1_0)≥97))&&(decide ((byteAt a0 y1_0)≤122)))||((decide ((byteAt a0 y1_0)≥65))&&(decide ((byteAt a0 y1_0)≤90))))||((byteAt a0 y1_0)==95))) true (vB (y1_0==0)) rfl rfl rfl rfl (fun hg=>(r_move (gvt (vB (y1_0==0)) hg rfl)))<|rgs (y1_0==0) (true&&((!((((decide ((byteAt a0 y1_0)≥97))&&(decide ((byteAt a0 y1_0)≤122)))||((decide ((byteAt a0 y1_0)≥65))&&(decide ((byteAt a0 y1_0)≤90))))||((byteAt a0 y1_0)==95)))==true)) (Value.int .u8 (byteAt a0 y1_0)) rfl rfl rfl rfl (fun hg=>(r_move rfl))<|rgs (y1_0==0) (true&&((!((((decide ((byteAt a0 y1_0)≥97))&&(decide ((byteAt a0 y1_0)≤122)))||((decide ((byteAt a0 y1_0)≥65))&&(decide ((byteAt a0 y1_0)≤90))))||((byteAt a0 y1_0)==95)))==true)) (vB (decide ((byteAt a0 y1_0)<48))) rfl rfl rfl rfl (fun hg=>(r_bin (gvt (Value.int .u8 (byteAt a0 y1_0)) hg rfl) rfl rfl))<|run_frame (by simp only [sc0,sc1];rfl) ?_
     refine rgs (!((((decide ((byteAt a0 y1_0)≥97))&&(decide ((byteAt a0 y1_0)≤122)))||((decide ((byteAt a0 y1_0)≥65))&&(decide ((byteAt a0 y1_0)≤90))))||((byteAt a0 y1_0)==95))) true (vB ((y1_0==0)||(decide ((byteAt a0 y1_0)<48)))) rfl rfl rfl rfl (fun hg=>(r_pick_or (gvt (vB (y1_0==0)) hg rfl) rfl (fun hp=>(gvt (vB (decide ((byteAt a0 y1_0)<48))) (and_i hg hp) rfl))))<|rgs (!((((decide ((byteAt a0 y1_0)≥97))&&(decide ((byteAt a0 y1_0)≤122)))||((decide ((byteAt a0 y1_0)≥65))&&(decide ((byteAt a0 y1_0)≤90))))||((byteAt a0 y1_0)==95))) true (vB ((y1_0==0)||(decide ((byteAt a0 y1_0)<48)))) rfl rfl rfl rfl (fun hg=>(r_move (gvt (vB ((y1_0==0)||(decide ((byteAt a0 y1_0)<48)))) hg rfl)))<|rgs ((y1_0==0)||(decide ((byteAt a0 y1_0)<48))) (true&&((!((((decide ((byteAt a0 y1_0)≥97))&&(decide ((byteAt a0 y1_0)≤122)))||((decide ((byteAt a0 y1_0)≥65))&&(decide ((byteAt a0 y1_0)≤90))))||((byteAt a0 y1_0)==95)))==true)) (Value.int .u8 (byteAt a0 y1_0)) rfl rfl rfl rfl (fun hg=>(r_move rfl))<|rgs ((y1_0==0)||(decide ((byteAt a0 y1_0)<48))) (true&&((!((((decide ((byteAt a0 y1_0)≥97))&&(decide ((byteAt a0 y1_0)≤122)))||((decide ((byteAt a0 y1_0)≥65))&&(decide ((byteAt a0 y1_0)≤90))))||((byteAt a0 y1_0)==95)))==true)) (vB (decide ((byteAt a0 y1_0)>57))) rfl rfl rfl rfl (fun hg=>(r_bin (gvt (Value.int .u8 (byteAt a0 y1_0)) hg rfl) rfl rfl))<|run_frame (by simp only [sc0,sc1];rfl) ?_
     refine rgs (!((((decide ((byteAt a0 y1_0)≥97))&&(decide ((byteAt a0 y1_0)≤122)))||((decide ((byteAt a0 y1_0)≥65))&&(decide ((byteAt a0 y1_0)≤90))))||((byteAt a0 y1_0)==95))) true (vB (((y1_0==0)||(decide ((byteAt a0 y1_0)<48)))||(decide ((byteAt a0 y1_0)>57)))) rfl rfl rfl rfl (fun hg=>(r_pick_or (gvt (vB ((y1_0==0)||(decide ((byteAt a0 y1_0)<48)))) hg rfl) rfl (fun hp=>(gvt (vB (decide ((byteAt a0 y1_0)>57))) (and_i hg hp) rfl))))<|rs (vB ((!((((decide ((byteAt a0 y1_0)≥97))&&(decide ((byteAt a0 y1_0)≤122)))||((decide ((byteAt a0 y1_0)≥65))&&(decide ((byteAt a0 y1_0)≤90))))||((byteAt a0 y1_0)==95)))&&(((y1_0==0)||(decide ((byteAt a0 y1_0)<48)))||(decide ((byteAt a0 y1_0)>57))))) (r_pick_and rfl (fun hp=>(gvt (vB (((y1_0==0)||(decide ((byteAt a0 y1_0)<48)))||(decide ((byteAt a0 y1_0)>57)))) (and_i rfl hp) rfl)) rfl) ?_
     try simp only [sc0,sc1]
     refine run_nil<|norm_then<|wp_cond_split (t:=((!((((decide ((byteAt a0 y1_0)≥97))&&(decide ((byteAt a0 y1_0)≤122)))||((decide ((byteAt a0 y1_0)≥65))&&(decide ((byteAt a0 y1_0)≤90))))||((byteAt a0 y1_0)==95)))&&(((y1_0==0)||(decide ((byteAt a0 y1_0)<48)))||(decide ((byteAt a0 y1_0)>57))))) rfl (fun c3=>?_) (fun c3=>?_)
     ·replace H:=of_pos H c3
      refine wp_seq<|region<|rs (vB false) (r_assign rfl) ?_
      try simp only [sc0,sc1]
      refine run_nil<|norm_then<|wp_ret<|ret_block<|ret_then<|ret_loop<|ret_then ?_
      obtain rfl:=Option.some.inj H
      obtain rfl:=Option.some.inj G1
      exact bodyPost_ret (results_1 rfl (one_tmp rfl)) rfl<|⟨rfl,HS1.toE⟩
     ·replace H:=of_neg H (nt c3)
      refine wp_skip<|norm_block<|norm_then<|region<|rs (vI y1_0) (r_move rfl)<|rs (vI (w64 (y1_0+1))) (r_bin rfl rfl rfl)<|rs (vI (w64 (y1_0+1))) (r_assign rfl) ?_
      try simp only [sc0,sc1]
      refine run_nil<|again_j m (Nat.lt_succ_self m) rfl ⟨(w64 (y1_0+1)),(fit rfl),H,HS1⟩
    ·replace H:=of_neg H (nt c2)
     refine wp_exit<|exit_then ?_
     obtain rfl:=Option.some.inj H
     refine leave_j rfl ⟨_,rfl,(fit rfl),HS1⟩
  ·rintro us w2 ⟨s1,rfl,huo1,HS2⟩
   obtain ⟨uo1,rfl⟩:=unj huo1
   replace H:=G1
   clear G1
   try simp only [patch,sc0,sc1]
   refine norm_then<|wp_seq<|region<|rs (vB true) (r_assign rfl) ?_
   try simp only [sc0,sc1]
   refine run_nil<|norm_then<|wp_ret ?_
   obtain rfl:=Option.some.inj H
   exact bodyPost_ret (results_1 rfl (one_tmp rfl)) rfl<|⟨rfl,HS2.toE⟩
def taplineref08_Index.f (a0:api_Types) (a1:Int):Option (Bool):=some ((decide (a1≥0))&&(decide (a1<(a0.vDefs.length:Int))))
theorem taplineref08_Index.calls (a0:api_Types) (a1:Int) (A0_0:Option Addr) (c0_0:Nat) {h0:View} {w0:World} (hv:Sees h0 w0) (hr0_0:Rd k_api_Def h0 A0_0 a0.vDefs) (hc0_0:a0.vDefs.length≤c0_0) {r:Bool} (H:taplineref08_Index.f a0 a1=some r):Calls Tryd.prog 96 #[Value.agg #[vL A0_0 a0.vDefs.length c0_0],vI a1] w0 (fun e w1=>e= .returned (vB r)∧Ext w0 w1):=by
 unfold taplineref08_Index.f at H
 have HS:St [] h0 w0 h0 [] w0:=St.init hv
 go_enter Tryd.func96,Tryd.ntmps96
 refine wp_seq<|region<|run_ex rfl rfl (does_box (cs:=#[vL A0_0 a0.vDefs.length c0_0]) rfl rfl) ?_
 rintro w1 _ hE1 ⟨b1,rfl,ge1,hb1⟩
 have HS1:=HS.new hE1 ge1 hb1
 refine rs (vB false) (r_assign rfl) ?_
 try simp only [sc0,sc1]
 refine run_nil<|norm_then<|wp_seq<|region<|rs (vI a1) (r_move rfl)<|rs (vB (decide (a1≥0))) (r_bin rfl rfl rfl)<|rs (vB (decide (a1≥0))) (r_move rfl)<|rgs (decide (a1≥0)) true (vI a1) rfl rfl rfl rfl (fun hg=>(r_move rfl))<|run_frame (by simp only [sc0,sc1];rfl) ?_
 refine rgs (decide (a1≥0)) true (vP b1 0) rfl rfl rfl rfl (fun hg=>(r_fieldBox (n:=1) (o':=0) rfl Tryd.runUnderlying24 rfl Tryd.sizeOf22 (by decide) rfl))<|rgs (decide (a1≥0)) true (vL A0_0 a0.vDefs.length c0_0) rfl rfl rfl rfl (fun hg=>(r_loadBox (gvt (vP b1 0) hg rfl) Tryd.isAgg22 (HS1.look 0 rfl) rfl))<|rgs (decide (a1≥0)) true (vI (a0.vDefs.length:Int)) rfl rfl rfl rfl (fun hg=>(r_len (gvt (vL A0_0 a0.vDefs.length c0_0) hg rfl) Tryd.runUnderlying22))<|rgs (decide (a1≥0)) true (vB (decide (a1<(a0.vDefs.length:Int)))) rfl rfl rfl rfl (fun hg=>(r_bin (gvt (vI a1) hg rfl) (gvt (vI (a0.vDefs.length:Int)) hg rfl) rfl))<|run_frame (by simp only [sc0,sc1];rfl) ?_
 refine rs (vB ((decide (a1≥0))&&(decide (a1<(a0.vDefs.length:Int))))) (r_pick_and rfl (fun hp=>(gvt (vB (decide (a1<(a0.vDefs.length:Int)))) (and_i rfl hp) rfl)) rfl)<|rs (vB ((decide (a1≥0))&&(decide (a1<(a0.vDefs.length:Int))))) (r_assign rfl) ?_
 try simp only [sc0,sc1]
 refine run_nil<|norm_then<|wp_ret ?_
 obtain rfl:=Option.some.inj H
 exact bodyPost_ret (results_1 rfl (one_tmp rfl)) rfl<|⟨rfl,HS1.toE⟩
def taplineref08_fields.l1 (a0:List api_Field) (y1_0:Int):Nat→Int→Option ((Bool)⊕(Unit))
 |0,_=>none
 |m+1,y2_0=>if (decide (y2_0<y1_0))=true then (if 0≤y2_0∧y2_0<a0.length then (if 0≤y1_0∧y1_0<a0.length then (if (strEq ((rd z_api_Field a0 y2_0).vName) ((rd z_api_Field a0 y1_0).vName))=true then (some (.inl false)) else (taplineref08_fields.l1 a0 y1_0 m (IntKind.wrap .i64 (y2_0+1)))) else none) else none) else (some (.inr ()))
def taplineref08_fields.l0 (k:Nat) (a0:List api_Field):Nat→Int→Option ((Bool)⊕(Unit))
 |0,_=>none
 |m+1,y1_0=>if (decide (y1_0<(a0.length:Int)))=true then (if 0≤y1_0∧y1_0<a0.length then ((taplineref08_Name.f k ((rd z_api_Field a0 y1_0).vName)).bind fun v1=>(if (!v1)=true then (some (.inl false)) else ((taplineref08_fields.l1 a0 y1_0 k 0).bind fun xx2=>(match xx2 with| .inl r=>some (.inl r)| .inr s1=>taplineref08_fields.l0 k a0 m (IntKind.wrap .i64 (y1_0+1)))))) else none) else (some (.inr ()))
def taplineref08_fields.f (k:Nat) (a0:List api_Field):Option (Bool):=if (((a0.length:Int)==0)||(decide ((a0.length:Int)>32)))=true then (some false) else ((taplineref08_fields.l0 k a0 k 0).bind fun xx1=>(match xx1 with| .inl r=>some r| .inr s2=>some true))
theorem taplineref08_fields.calls (k:Nat) (a0:List api_Field) (A0_0:Option Addr) (c0_0:Nat) {h0:View} {w0:World} (hv:Sees h0 w0) (hr0_0:Rd k_api_Field h0 A0_0 a0) (hc0_0:a0.length≤c0_0) {r:Bool} (H:taplineref08_fields.f k a0=some r):Calls Tryd.prog 97 #[vL A0_0 a0.length c0_0] w0 (fun e w1=>e= .returned (vB r)∧Ext w0 w1):=by
 unfold taplineref08_fields.f at H
 have HS:St [] h0 w0 h0 [] w0:=St.init hv
 go_enter Tryd.func97,Tryd.ntmps97
 refine wp_seq<|region<|rs (vB false) (r_assign rfl) ?_
 try simp only [sc0,sc1]
 refine run_nil<|norm_then<|wp_seq<|wp_seq<|region<|rs (vL A0_0 a0.length c0_0) (r_move rfl)<|rs (vI (a0.length:Int)) (r_len rfl Tryd.runUnderlying32)<|rs (vB ((a0.length:Int)==0)) (r_bin rfl rfl rfl)<|rs (vB ((a0.length:Int)==0)) (r_move rfl)<|run_frame (by simp only [sc0,sc1];rfl) ?_
 refine rgs ((a0.length:Int)==0) true (vL A0_0 a0.length c0_0) rfl rfl rfl rfl (fun hg=>(r_move rfl))<|rgs ((a0.length:Int)==0) true (vI (a0.length:Int)) rfl rfl rfl rfl (fun hg=>(r_len (gvt (vL A0_0 a0.length c0_0) hg rfl) Tryd.runUnderlying32))<|rgs ((a0.length:Int)==0) true (vB (decide ((a0.length:Int)>32))) rfl rfl rfl rfl (fun hg=>(r_bin (gvt (vI (a0.length:Int)) hg rfl) rfl rfl))<|rs (vB (((a0.length:Int)==0)||(decide ((a0.length:Int)>32)))) (r_pick_or rfl rfl (fun hp=>(gvt (vB (decide ((a0.length:Int)>32))) (and_i rfl hp) rfl))) ?_
 try simp only [sc0,sc1]
 refine run_nil<|norm_then<|wp_cond_split (t:=(((a0.length:Int)==0)||(decide ((a0.length:Int)>32)))) rfl (fun c1=>?_) (fun c1=>?_)
 ·replace H:=of_pos H c1
  refine wp_seq<|region<|rs (vB false) (r_assign rfl) ?_
  try simp only [sc0,sc1]
  refine run_nil<|norm_then<|wp_ret<|ret_then ?_
  obtain rfl:=Option.some.inj H
  exact bodyPost_ret (results_1 rfl (one_tmp rfl)) rfl<|⟨rfl,HS.toE⟩
 ·replace H:=of_neg H (nt c1)
  refine wp_skip<|norm_then<|wp_seq<|wp_seq<|region<|rs (vI 0) (r_assign rfl) ?_
  try simp only [sc0,sc1]
  refine run_nil<|norm_then ?_
  obtain ⟨xx1,H,G1⟩:=of_bind H
  refine loop_j [2,3,4,13,14,15,16,17,18,19,20,21,22,23,24,25,26,27,28,29,30,31,32,33,34,35,36,37,38,39,40,41] (fun m us w'=>∃(y1_0:Int),Fit us (fun uy1=>[(uy1 0),vI y1_0,(uy1 2),(uy1 3),(uy1 4),(uy1 5),(uy1 6),(uy1 7),(uy1 8),(uy1 9),(uy1 10),(uy1 11),(uy1 12),(uy1 13),(uy1 14),(uy1 15),(uy1 16),(uy1 17),(uy1 18),(uy1 19),(uy1 20),(uy1 21),(uy1 22),(uy1 23),(uy1 24),(uy1 25),(uy1 26),(uy1 27),(uy1 28),(uy1 29),(uy1 30),(uy1 31)])∧taplineref08_fields.l0 k a0 m y1_0=some xx1∧St [] h0 w0 h0 [] w') (fun us w'=>∃(s2:Unit),xx1= .inr s2∧Fit us (fun uo2=>[(uo2 0),(uo2 1),(uo2 2),(uo2 3),(uo2 4),(uo2 5),(uo2 6),(uo2 7),(uo2 8),(uo2 9),(uo2 10),(uo2 11),(uo2 12),(uo2 13),(uo2 14),(uo2 15),(uo2 16),(uo2 17),(uo2 18),(uo2 19),(uo2 20),(uo2 21),(uo2 22),(uo2 23),(uo2 24),(uo2 25),(uo2 26),(uo2 27),(uo2 28),(uo2 29),(uo2 30),(uo2 31)])∧St [] h0 w0 h0 [] w') k ⟨0,(fit rfl),H,HS⟩ ?_ ?_
  ·rintro m us w1 ⟨y1_0,huy1,H,HS1⟩
   obtain ⟨uy1,rfl⟩:=unj huy1
   cases m with
   |zero=>exact absurd H (by simp [taplineref08_fields.l0])
   |succ m=>
    rw [taplineref08_fields.l0] at H
    try simp only [patch,sc0,sc1]
    refine wp_seq<|wp_seq<|region<|rs (vI y1_0) (r_move rfl)<|rs (vL A0_0 a0.length c0_0) (r_move rfl)<|rs (vI (a0.length:Int)) (r_len rfl Tryd.runUnderlying32)<|rs (vB (decide (y1_0<(a0.length:Int)))) (r_bin rfl rfl rfl) ?_
    try simp only [sc0,sc1]
    refine run_nil<|norm_then<|wp_cond_split (t:=(decide (y1_0<(a0.length:Int)))) rfl (fun c2=>?_) (fun c2=>?_)
    ·replace H:=of_pos H c2
     refine wp_skip<|norm_then<|wp_seq<|wp_block<|wp_seq<|wp_seq<|region<|rs (vL A0_0 a0.length c0_0) (r_move rfl)<|rs (vI y1_0) (r_move rfl) ?_
     obtain ⟨hi1,H⟩:=of_ite H
     obtain ⟨ad1,e1,hel1⟩:=ld_api_Field hr0_0 hi1.1 hi1.2
     refine rs (Value.pointer (some (Addr.add ad1 (y1_0.toNat*3)))) (r_indexA (sz:=3) rfl e1 rfl hi1.1 hi1.2 Tryd.runUnderlying32 Tryd.sizeOf36)<|rs (Value.pointer (some (Addr.add (Addr.add ad1 (y1_0.toNat*3)) 0))) (r_fieldEl (n:=1) (o':=0) rfl Tryd.runUnderlying36 rfl Tryd.sizeOf9 (by decide) rfl)<|run_frame (by simp only [sc0,sc1];rfl) ?_
     refine rs (vS ((rd z_api_Field a0 y1_0).vName)) (r_load rfl Tryd.isAgg9 (hel1.cell HS1.sees 0 rfl)) ?_
     obtain ⟨v1,H1,H⟩:=of_bind H
     refine run_eq (v:=vB v1) rfl rfl (does_call_eq Tryd.call95 rfl rfl (taplineref08_Name.calls k ((rd z_api_Field a0 y1_0).vName) HS1.sees H1)) ?_
     intro w2 hE1
     have HS2:=HS1.step hE1
     refine rs (vB (!v1)) (r_not rfl) ?_
     try simp only [sc0,sc1]
     refine run_nil<|norm_then<|wp_cond_split (t:=(!v1)) rfl (fun c3=>?_) (fun c3=>?_)
     ·replace H:=of_pos H c3
      refine wp_seq<|region<|rs (vB false) (r_assign rfl) ?_
      try simp only [sc0,sc1]
      refine run_nil<|norm_then<|wp_ret<|ret_then<|ret_block<|ret_then<|ret_loop<|ret_then ?_
      obtain rfl:=Option.some.inj H
      obtain rfl:=Option.some.inj G1
      exact bodyPost_ret (results_1 rfl (one_tmp rfl)) rfl<|⟨rfl,HS2.toE⟩
     ·replace H:=of_neg H (nt c3)
      refine wp_skip<|norm_then<|wp_seq<|region<|rs (vI 0) (r_assign rfl) ?_
      try simp only [sc0,sc1]
      refine run_nil<|norm_then ?_
      obtain ⟨xx2,H,G2⟩:=of_bind H
      refine loop_j [2,4,26,27,28,29,30,31,32,33,34,35,36,37,38,39,40,41] (fun m us w'=>∃(y2_0:Int),Fit us (fun uy2=>[(uy2 0),vI y2_0,(uy2 2),(uy2 3),(uy2 4),(uy2 5),(uy2 6),(uy2 7),(uy2 8),(uy2 9),(uy2 10),(uy2 11),(uy2 12),(uy2 13),(uy2 14),(uy2 15),(uy2 16),(uy2 17)])∧taplineref08_fields.l1 a0 y1_0 m y2_0=some xx2∧St [] h0 w0 h0 [] w') (fun us w'=>∃(s1:Unit),xx2= .inr s1∧Fit us (fun uo1=>[(uo1 0),(uo1 1),(uo1 2),(uo1 3),(uo1 4),(uo1 5),(uo1 6),(uo1 7),(uo1 8),(uo1 9),(uo1 10),(uo1 11),(uo1 12),(uo1 13),(uo1 14),(uo1 15),(uo1 16),(uo1 17)])∧St [] h0 w0 h0 [] w') k ⟨0,(fit rfl),H,HS2⟩ ?_ ?_
      ·rintro m us w3 ⟨y2_0,huy2,H,HS3⟩
       obtain ⟨uy2,rfl⟩:=unj huy2
       cases m with
       |zero=>exact absurd H (by simp [taplineref08_fields.l1])
       |succ m=>
        rw [taplineref08_fields.l1] at H
        try simp only [patch,sc0,sc1]
        refine wp_seq<|wp_seq<|region<|rs (vI y2_0) (r_move rfl)<|rs (vI y1_0) (r_move rfl)<|rs (vB (decide (y2_0<y1_0))) (r_bin rfl rfl rfl) ?_
        try simp only [sc0,sc1]
        refine run_nil<|norm_then<|wp_cond_split (t:=(decide (y2_0<y1_0))) rfl (fun c4=>?_) (fun c4=>?_)
        ·replace H:=of_pos H c4
         refine wp_skip<|norm_then<|wp_seq<|wp_block<|wp_seq ?_
         obtain ⟨hi2,H⟩:=of_ite H
         obtain ⟨ad2,e2,hel2⟩:=ld_api_Field hr0_0 hi2.1 hi2.2
         obtain ⟨hi3,H⟩:=of_ite H
         obtain ⟨ad3,e3,hel3⟩:=ld_api_Field hr0_0 hi3.1 hi3.2
         refine drawn [.eq (vL A0_0 a0.length c0_0), .eq (vI y2_0), .eq (Value.pointer (some (Addr.add ad2 (y2_0.toNat*3)))), .eq (Value.pointer (some (Addr.add (Addr.add ad2 (y2_0.toNat*3)) 0))), .eq (vS ((rd z_api_Field a0 y2_0).vName)), .eq (vL A0_0 a0.length c0_0), .eq (vI y1_0), .eq (Value.pointer (some (Addr.add ad3 (y1_0.toNat*3)))), .eq (Value.pointer (some (Addr.add (Addr.add ad3 (y1_0.toNat*3)) 0))), .eq (vS ((rd z_api_Field a0 y1_0).vName)), .eq (vB (strEq ((rd z_api_Field a0 y2_0).vName) ((rd z_api_Field a0 y1_0).vName)))] [31,32,33,34,35,36,37,38,39,40,41] hmix (by kernel_rfl) rfl (stable_eq (stable_eq (stable_eq (stable_eq (stable_eq (stable_eq (stable_eq (stable_eq (stable_eq (stable_eq (stable_eq stable_nil))))))))))) ⟨ob_plain rfl (fun a' w' hE hk=>by have HSd:=HS3.step hE;exact does_eq (r_move (show _=vL A0_0 a0.length c0_0 from hk 0 rfl))),ob_plain rfl (fun a' w' hE hk=>by have HSd:=HS3.step hE;exact does_eq (r_move (show _=vI y2_0 from hk 4 rfl))),ob_plain rfl (fun a' w' hE hk=>by have HSd:=HS3.step hE;exact does_eq (r_indexA (sz:=3) (show _=vL A0_0 a0.length c0_0 from hk 31 rfl) e2 (show _=vI y2_0 from hk 32 rfl) hi2.1 hi2.2 Tryd.runUnderlying32 Tryd.sizeOf36)),ob_plain rfl (fun a' w' hE hk=>by have HSd:=HS3.step hE;exact does_eq (r_fieldEl (n:=1) (o':=0) (show _=Value.pointer (some (Addr.add ad2 (y2_0.toNat*3))) from hk 33 rfl) Tryd.runUnderlying36 rfl Tryd.sizeOf9 (by decide) rfl)),ob_plain rfl (fun a' w' hE hk=>by have HSd:=HS3.step hE;exact does_eq (r_load (show _=Value.pointer (some (Addr.add (Addr.add ad2 (y2_0.toNat*3)) 0)) from hk 34 rfl) Tryd.isAgg9 (hel2.cell HSd.sees 0 rfl))),ob_plain rfl (fun a' w' hE hk=>by have HSd:=HS3.step hE;exact does_eq (r_move (show _=vL A0_0 a0.length c0_0 from hk 0 rfl))),ob_plain rfl (fun a' w' hE hk=>by have HSd:=HS3.step hE;exact does_eq (r_move (show _=vI y1_0 from hk 3 rfl))),ob_plain rfl (fun a' w' hE hk=>by have HSd:=HS3.step hE;exact does_eq (r_indexA (sz:=3) (show _=vL A0_0 a0.length c0_0 from hk 36 rfl) e3 (show _=vI y1_0 from hk 37 rfl) hi3.1 hi3.2 Tryd.runUnderlying32 Tryd.sizeOf36)),ob_plain rfl (fun a' w' hE hk=>by have HSd:=HS3.step hE;exact does_eq (r_fieldEl (n:=1) (o':=0) (show _=Value.pointer (some (Addr.add ad3 (y1_0.toNat*3))) from hk 38 rfl) Tryd.runUnderlying36 rfl Tryd.sizeOf9 (by decide) rfl)),ob_plain rfl (fun a' w' hE hk=>by have HSd:=HS3.step hE;exact does_eq (r_load (show _=Value.pointer (some (Addr.add (Addr.add ad3 (y1_0.toNat*3)) 0)) from hk 39 rfl) Tryd.isAgg9 (hel3.cell HSd.sees 0 rfl))),ob_plain rfl (fun a' w' hE hk=>by have HSd:=HS3.step hE;exact does_eq (r_streql (show _=vS ((rd z_api_Field a0 y2_0).vName) from hk 35 rfl) (show _=vS ((rd z_api_Field a0 y1_0).vName) from hk 40 rfl))),trivial⟩ ?_
         intro w4 hE2
         simp only [List.zip_cons_cons,List.zip_nil_left,List.zip_nil_right,finL,sc0,sc1,List.length_cons,List.length_nil,List.drop_succ_cons,List.drop_zero,Nat.zero_add,Nat.reduceAdd]
         have HS4:=HS3.step hE2
         refine run_nil<|norm_then<|wp_cond_split (t:=(strEq ((rd z_api_Field a0 y2_0).vName) ((rd z_api_Field a0 y1_0).vName))) rfl (fun c5=>?_) (fun c5=>?_)
         ·replace H:=of_pos H c5
          refine wp_seq<|region<|rs (vB false) (r_assign rfl) ?_
          try simp only [sc0,sc1]
          refine run_nil<|norm_then<|wp_ret<|ret_block<|ret_then<|ret_loop<|ret_block<|ret_then<|ret_loop<|ret_then ?_
          obtain rfl:=Option.some.inj H
          obtain rfl:=Option.some.inj G2
          obtain rfl:=Option.some.inj G1
          exact bodyPost_ret (results_1 rfl (one_tmp rfl)) rfl<|⟨rfl,HS4.toE⟩
         ·replace H:=of_neg H (nt c5)
          refine wp_skip<|norm_block<|norm_then<|region<|rs (vI y2_0) (r_move rfl)<|rs (vI (w64 (y2_0+1))) (r_bin rfl rfl rfl)<|rs (vI (w64 (y2_0+1))) (r_assign rfl) ?_
          try simp only [sc0,sc1]
          refine run_nil<|again_j m (Nat.lt_succ_self m) rfl ⟨(w64 (y2_0+1)),(fit rfl),H,HS4⟩
        ·replace H:=of_neg H (nt c4)
         refine wp_exit<|exit_then ?_
         obtain rfl:=Option.some.inj H
         refine leave_j rfl ⟨_,rfl,(fit rfl),HS3⟩
      ·rintro us w5 ⟨s1,rfl,huo1,HS5⟩
       obtain ⟨uo1,rfl⟩:=unj huo1
       replace H:=G2
       clear G2
       try simp only [patch,sc0,sc1]
       refine norm_block<|norm_then<|region<|rs (vI y1_0) (r_move rfl)<|rs (vI (w64 (y1_0+1))) (r_bin rfl rfl rfl)<|rs (vI (w64 (y1_0+1))) (r_assign rfl) ?_
       try simp only [sc0,sc1]
       refine run_nil<|again_j m (Nat.lt_succ_self m) rfl ⟨(w64 (y1_0+1)),(fit rfl),H,HS5⟩
    ·replace H:=of_neg H (nt c2)
     refine wp_exit<|exit_then ?_
     obtain rfl:=Option.some.inj H
     refine leave_j rfl ⟨_,rfl,(fit rfl),HS1⟩
  ·rintro us w6 ⟨s2,rfl,huo2,HS6⟩
   obtain ⟨uo2,rfl⟩:=unj huo2
   replace H:=G1
   clear G1
   try simp only [patch,sc0,sc1]
   refine norm_then<|wp_seq<|region<|rs (vB true) (r_assign rfl) ?_
   try simp only [sc0,sc1]
   refine run_nil<|norm_then<|wp_ret ?_
   obtain rfl:=Option.some.inj H
   exact bodyPost_ret (results_1 rfl (one_tmp rfl)) rfl<|⟨rfl,HS6.toE⟩
def taplineref08_shaped.l0 (a0:api_Types) (a1:api_Def):Nat→Int→Option ((Bool)⊕(Unit))
 |0,_=>none
 |m+1,y1_0=>if (decide (y1_0<(a1.vFields.length:Int)))=true then (if 0≤y1_0∧y1_0<a1.vFields.length then ((if (true&&((a1.vKind==4)==true))=true then taplineref08_Index.f a0 ((rd z_api_Field a1.vFields y1_0).vType) else some false).bind fun v7=>(if ((a1.vKind==4)&&(!v7))=true then (some (.inl false)) else (if ((a1.vKind==5)&&((((rd z_api_Field a1.vFields y1_0).vType !=0)||(decide ((rd z_api_Field a1.vFields y1_0).vAt<(-2147483648))))||(decide ((rd z_api_Field a1.vFields y1_0).vAt>2147483647))))=true then (some (.inl false)) else (taplineref08_shaped.l0 a0 a1 m (IntKind.wrap .i64 (y1_0+1)))))) else none) else (some (.inr ()))
def taplineref08_shaped.f (k:Nat) (a0:api_Types) (a1:api_Def):Option (Bool):=(if (true&&(((decide (a1.vKind<1))||(decide (a1.vKind>6)))==false))=true then taplineref08_unused.f a1 else some false).bind fun v1=>((if (true&&((((decide (a1.vKind<1))||(decide (a1.vKind>6)))||(!v1))==false))=true then taplineref08_Named.f a1 else some false).bind fun v2=>((if ((true&&((((decide (a1.vKind<1))||(decide (a1.vKind>6)))||(!v1))==false))&&(v2==true))=true then taplineref08_Name.f k a1.vName else some false).bind fun v3=>(if ((((decide (a1.vKind<1))||(decide (a1.vKind>6)))||(!v1))||(v2&&(!v3)))=true then (some false) else (if (a1.vKind==1)=true then (some ((((a1.vInt.vSize==1)||(a1.vInt.vSize==2))||(a1.vInt.vSize==4))||(a1.vInt.vSize==8))) else (((if (a1.vKind==2)=true then (some (a1.vKind==2)) else (some (a1.vKind==6))):Option (Bool)).bind fun xx1=>(if xx1=true then ((taplineref08_Index.f a0 a1.vRef).bind fun v4=>(some v4)) else (if (a1.vKind==3)=true then ((taplineref08_Index.f a0 a1.vRef).bind fun v5=>(some ((v5&&(decide (a1.vN≥1)))&&(decide (a1.vN≤512))))) else ((taplineref08_fields.f k a1.vFields).bind fun v6=>(if (!v6)=true then (some false) else ((taplineref08_shaped.l0 a0 a1 k 0).bind fun xx2=>(match xx2 with| .inl r=>some r| .inr s1=>some ((a1.vKind==5)||((decide (a1.vN≥1))&&(decide (a1.vN≤512)))))))))))))))
theorem taplineref08_shaped.calls (k:Nat) (a0:api_Types) (a1:api_Def) (A0_0:Option Addr) (c0_0:Nat) (A1_6:Option Addr) (c1_6:Nat) {h0:View} {w0:World} (hv:Sees h0 w0) (hr0_0:Rd k_api_Def h0 A0_0 a0.vDefs) (hc0_0:a0.vDefs.length≤c0_0) (hr1_6:Rd k_api_Field h0 A1_6 a1.vFields) (hc1_6:a1.vFields.length≤c1_6) {r:Bool} (H:taplineref08_shaped.f k a0 a1=some r):Calls Tryd.prog 48 #[Value.agg #[vL A0_0 a0.vDefs.length c0_0],Value.agg #[vI a1.vKind,vS a1.vName,vI a1.vInt.vSize,vB a1.vInt.vSigned,vI a1.vRef,vI a1.vN,vL A1_6 a1.vFields.length c1_6]] w0 (fun e w1=>e= .returned (vB r)∧Ext w0 w1):=by
 unfold taplineref08_shaped.f at H
 have HS:St [] h0 w0 h0 [] w0:=St.init hv
 go_enter Tryd.func48,Tryd.ntmps48
 refine wp_seq<|region<|run_ex rfl rfl (does_box (cs:=#[vL A0_0 a0.vDefs.length c0_0]) rfl rfl) ?_
 rintro w1 _ hE1 ⟨b1,rfl,ge1,hb1⟩
 have HS1:=HS.new hE1 ge1 hb1
 refine run_ex rfl rfl (does_box (cs:=#[vI a1.vKind,vS a1.vName,vI a1.vInt.vSize,vB a1.vInt.vSigned,vI a1.vRef,vI a1.vN,vL A1_6 a1.vFields.length c1_6]) rfl rfl) ?_
 rintro w2 _ hE2 ⟨b2,rfl,ge2,hb2⟩
 have HS2:=HS1.new hE2 ge2 hb2
 refine rs (vB false) (r_assign rfl) ?_
 try simp only [sc0,sc1]
 refine run_nil<|norm_then<|wp_seq<|wp_seq<|region<|rs (vP b2 0) (r_fieldBox (n:=1) (o':=0) rfl Tryd.runUnderlying34 rfl Tryd.sizeOf3 (by decide) rfl)<|rs (vI a1.vKind) (r_loadBox rfl Tryd.isAgg3 (HS2.look 0 rfl) rfl)<|rs (vB (decide (a1.vKind<1))) (r_bin rfl rfl rfl)<|rs (vB (decide (a1.vKind<1))) (r_move rfl)<|run_frame (by simp only [sc0,sc1];rfl) ?_
 refine rgs (decide (a1.vKind<1)) true (vP b2 0) rfl rfl rfl rfl (fun hg=>(r_fieldBox (n:=1) (o':=0) rfl Tryd.runUnderlying34 rfl Tryd.sizeOf3 (by decide) rfl))<|rgs (decide (a1.vKind<1)) true (vI a1.vKind) rfl rfl rfl rfl (fun hg=>(r_loadBox (gvt (vP b2 0) hg rfl) Tryd.isAgg3 (HS2.look 0 rfl) rfl))<|rgs (decide (a1.vKind<1)) true (vB (decide (a1.vKind>6))) rfl rfl rfl rfl (fun hg=>(r_bin (gvt (vI a1.vKind) hg rfl) rfl rfl))<|rs (vB ((decide (a1.vKind<1))||(decide (a1.vKind>6)))) (r_pick_or rfl rfl (fun hp=>(gvt (vB (decide (a1.vKind>6))) (and_i rfl hp) rfl)))<|run_frame (by simp only [sc0,sc1];rfl) ?_
 refine rs (vB ((decide (a1.vKind<1))||(decide (a1.vKind>6)))) (r_move rfl)<|rgs ((decide (a1.vKind<1))||(decide (a1.vKind>6))) true (Value.agg #[vI a1.vKind,vS a1.vName,vI a1.vInt.vSize,vB a1.vInt.vSigned,vI a1.vRef,vI a1.vN,vL A1_6 a1.vFields.length c1_6]) rfl rfl rfl rfl (fun hg=>(r_loadBoxAgg (n:=7) (vs:=[vI a1.vKind,vS a1.vName,vI a1.vInt.vSize,vB a1.vInt.vSigned,vI a1.vRef,vI a1.vN,vL A1_6 a1.vFields.length c1_6]) rfl Tryd.isAgg34 (HS2.look 0 rfl) Tryd.sizeOf34 rfl rfl)) ?_
 obtain ⟨v1,H1,H⟩:=of_bind H
 refine run_g (b:=((decide (a1.vKind<1))||(decide (a1.vKind>6)))) (c:=true) (v:=vB v1) rfl rfl rfl rfl (fun hg=>(does_call_eq Tryd.call94 rfl (map1 (gvt (Value.agg #[vI a1.vKind,vS a1.vName,vI a1.vInt.vSize,vB a1.vInt.vSigned,vI a1.vRef,vI a1.vN,vL A1_6 a1.vFields.length c1_6]) hg rfl)) (taplineref08_unused.calls a1 A1_6 c1_6 HS2.sees hr1_6 hc1_6 (of_pos H1 hg)))) ?_
 intro w3 hE3
 have HS3:=HS2.step hE3
 refine rgs ((decide (a1.vKind<1))||(decide (a1.vKind>6))) true (vB (!v1)) rfl rfl rfl rfl (fun hg=>(r_not (gvt (vB v1) hg rfl)))<|run_frame (by simp only [sc0,sc1];rfl) ?_
 refine rs (vB (((decide (a1.vKind<1))||(decide (a1.vKind>6)))||(!v1))) (r_pick_or rfl rfl (fun hp=>(gvt (vB (!v1)) (and_i rfl hp) rfl)))<|rs (vB (((decide (a1.vKind<1))||(decide (a1.vKind>6)))||(!v1))) (r_move rfl)<|rgs (((decide (a1.vKind<1))||(decide (a1.vKind>6)))||(!v1)) true (Value.agg #[vI a1.vKind,vS a1.vName,vI a1.vInt.vSize,vB a1.vInt.vSigned,vI a1.vRef,vI a1.vN,vL A1_6 a1.vFields.length c1_6]) rfl rfl rfl rfl (fun hg=>(r_loadBoxAgg (n:=7) (vs:=[vI a1.vKind,vS a1.vName,vI a1.vInt.vSize,vB a1.vInt.vSigned,vI a1.vRef,vI a1.vN,vL A1_6 a1.vFields.length c1_6]) rfl Tryd.isAgg34 (HS3.look 0 rfl) Tryd.sizeOf34 rfl rfl)) ?_
 obtain ⟨v2,H2,H⟩:=of_bind H
 refine run_g (b:=(((decide (a1.vKind<1))||(decide (a1.vKind>6)))||(!v1))) (c:=true) (v:=vB v2) rfl rfl rfl rfl (fun hg=>(does_call_eq Tryd.call49 rfl (map1 (gvt (Value.agg #[vI a1.vKind,vS a1.vName,vI a1.vInt.vSize,vB a1.vInt.vSigned,vI a1.vRef,vI a1.vN,vL A1_6 a1.vFields.length c1_6]) hg rfl)) (taplineref08_Named.calls a1 A1_6 c1_6 HS3.sees hr1_6 hc1_6 (of_pos H2 hg)))) ?_
 intro w4 hE4
 have HS4:=HS3.step hE4
 refine run_frame (by simp only [sc0,sc1];rfl) ?_
 refine rgs (((decide (a1.vKind<1))||(decide (a1.vKind>6)))||(!v1)) true (vB v2) rfl rfl rfl rfl (fun hg=>(r_move (gvt (vB v2) hg rfl)))<|rgs v2 (true&&((((decide (a1.vKind<1))||(decide (a1.vKind>6)))||(!v1))==false)) (vP b2 1) rfl rfl rfl rfl (fun hg=>(r_fieldBox (n:=1) (o':=1) rfl Tryd.runUnderlying34 rfl Tryd.sizeOf9 (by decide) rfl))<|rgs v2 (true&&((((decide (a1.vKind<1))||(decide (a1.vKind>6)))||(!v1))==false)) (vS a1.vName) rfl rfl rfl rfl (fun hg=>(r_loadBox (gvt (vP b2 1) hg rfl) Tryd.isAgg9 (HS4.look 0 rfl) rfl)) ?_
 obtain ⟨v3,H3,H⟩:=of_bind H
 refine run_g (b:=v2) (c:=(true&&((((decide (a1.vKind<1))||(decide (a1.vKind>6)))||(!v1))==false))) (v:=vB v3) rfl rfl rfl rfl (fun hg=>(does_call_eq Tryd.call95 rfl (map1 (gvt (vS a1.vName) hg rfl)) (taplineref08_Name.calls k a1.vName HS4.sees (of_pos H3 hg)))) ?_
 intro w5 hE5
 have HS5:=HS4.step hE5
 refine run_frame (by simp only [sc0,sc1];rfl) ?_
 refine rgs v2 (true&&((((decide (a1.vKind<1))||(decide (a1.vKind>6)))||(!v1))==false)) (vB (!v3)) rfl rfl rfl rfl (fun hg=>(r_not (gvt (vB v3) hg rfl)))<|rgs (((decide (a1.vKind<1))||(decide (a1.vKind>6)))||(!v1)) true (vB (v2&&(!v3))) rfl rfl rfl rfl (fun hg=>(r_pick_and (gvt (vB v2) hg rfl) (fun hp=>(gvt (vB (!v3)) (and_i hg hp) rfl)) rfl))<|rs (vB ((((decide (a1.vKind<1))||(decide (a1.vKind>6)))||(!v1))||(v2&&(!v3)))) (r_pick_or rfl rfl (fun hp=>(gvt (vB (v2&&(!v3))) (and_i rfl hp) rfl))) ?_
 try simp only [sc0,sc1]
 refine run_nil<|norm_then<|wp_cond_split (t:=((((decide (a1.vKind<1))||(decide (a1.vKind>6)))||(!v1))||(v2&&(!v3)))) rfl (fun c1=>?_) (fun c1=>?_)
 ·replace H:=of_pos H c1
  refine wp_seq<|region<|rs (vB false) (r_assign rfl) ?_
  try simp only [sc0,sc1]
  refine run_nil<|norm_then<|wp_ret<|ret_then ?_
  obtain rfl:=Option.some.inj H
  exact bodyPost_ret (results_1 rfl (one_tmp rfl)) rfl<|⟨rfl,HS5.toE⟩
 ·replace H:=of_neg H (nt c1)
  refine wp_skip<|norm_then<|wp_seq<|wp_seq<|region<|rs (vP b2 0) (r_fieldBox (n:=1) (o':=0) rfl Tryd.runUnderlying34 rfl Tryd.sizeOf3 (by decide) rfl)<|rs (vI a1.vKind) (r_loadBox rfl Tryd.isAgg3 (HS5.look 0 rfl) rfl) ?_
  try simp only [sc0,sc1]
  refine run_nil<|norm_then<|wp_block<|wp_seq<|region<|rs (vB (a1.vKind==1)) (r_bin rfl rfl rfl)<|rs (vB (a1.vKind==1)) (r_assign rfl) ?_
  try simp only [sc0,sc1]
  refine run_nil<|norm_then<|wp_cond_split (t:=(a1.vKind==1)) rfl (fun c2=>?_) (fun c2=>?_)
  ·replace H:=of_pos H c2
   refine wp_seq<|region<|rs (vP b2 2) (r_fieldBox (n:=2) (o':=2) rfl Tryd.runUnderlying34 rfl Tryd.sizeOf31 (by decide) rfl)<|rs (vP b2 2) (r_fieldBox (n:=1) (o':=2) rfl Tryd.runUnderlying31 rfl Tryd.sizeOf3 (by decide) rfl)<|rs (vI a1.vInt.vSize) (r_loadBox rfl Tryd.isAgg3 (HS5.look 0 rfl) rfl)<|rs (vB (a1.vInt.vSize==1)) (r_bin rfl rfl rfl)<|run_frame (by simp only [sc0,sc1];rfl) ?_
   refine rs (vB (a1.vInt.vSize==1)) (r_move rfl)<|rgs (a1.vInt.vSize==1) true (vP b2 2) rfl rfl rfl rfl (fun hg=>(r_fieldBox (n:=2) (o':=2) rfl Tryd.runUnderlying34 rfl Tryd.sizeOf31 (by decide) rfl))<|rgs (a1.vInt.vSize==1) true (vP b2 2) rfl rfl rfl rfl (fun hg=>(r_fieldBox (n:=1) (o':=2) (gvt (vP b2 2) hg rfl) Tryd.runUnderlying31 rfl Tryd.sizeOf3 (by decide) rfl))<|rgs (a1.vInt.vSize==1) true (vI a1.vInt.vSize) rfl rfl rfl rfl (fun hg=>(r_loadBox (gvt (vP b2 2) hg rfl) Tryd.isAgg3 (HS5.look 0 rfl) rfl))<|run_frame (by simp only [sc0,sc1];rfl) ?_
   refine rgs (a1.vInt.vSize==1) true (vB (a1.vInt.vSize==2)) rfl rfl rfl rfl (fun hg=>(r_bin (gvt (vI a1.vInt.vSize) hg rfl) rfl rfl))<|rs (vB ((a1.vInt.vSize==1)||(a1.vInt.vSize==2))) (r_pick_or rfl rfl (fun hp=>(gvt (vB (a1.vInt.vSize==2)) (and_i rfl hp) rfl)))<|rs (vB ((a1.vInt.vSize==1)||(a1.vInt.vSize==2))) (r_move rfl)<|rgs ((a1.vInt.vSize==1)||(a1.vInt.vSize==2)) true (vP b2 2) rfl rfl rfl rfl (fun hg=>(r_fieldBox (n:=2) (o':=2) rfl Tryd.runUnderlying34 rfl Tryd.sizeOf31 (by decide) rfl))<|run_frame (by simp only [sc0,sc1];rfl) ?_
   refine rgs ((a1.vInt.vSize==1)||(a1.vInt.vSize==2)) true (vP b2 2) rfl rfl rfl rfl (fun hg=>(r_fieldBox (n:=1) (o':=2) (gvt (vP b2 2) hg rfl) Tryd.runUnderlying31 rfl Tryd.sizeOf3 (by decide) rfl))<|rgs ((a1.vInt.vSize==1)||(a1.vInt.vSize==2)) true (vI a1.vInt.vSize) rfl rfl rfl rfl (fun hg=>(r_loadBox (gvt (vP b2 2) hg rfl) Tryd.isAgg3 (HS5.look 0 rfl) rfl))<|rgs ((a1.vInt.vSize==1)||(a1.vInt.vSize==2)) true (vB (a1.vInt.vSize==4)) rfl rfl rfl rfl (fun hg=>(r_bin (gvt (vI a1.vInt.vSize) hg rfl) rfl rfl))<|rs (vB (((a1.vInt.vSize==1)||(a1.vInt.vSize==2))||(a1.vInt.vSize==4))) (r_pick_or rfl rfl (fun hp=>(gvt (vB (a1.vInt.vSize==4)) (and_i rfl hp) rfl)))<|run_frame (by simp only [sc0,sc1];rfl) ?_
   refine rs (vB (((a1.vInt.vSize==1)||(a1.vInt.vSize==2))||(a1.vInt.vSize==4))) (r_move rfl)<|rgs (((a1.vInt.vSize==1)||(a1.vInt.vSize==2))||(a1.vInt.vSize==4)) true (vP b2 2) rfl rfl rfl rfl (fun hg=>(r_fieldBox (n:=2) (o':=2) rfl Tryd.runUnderlying34 rfl Tryd.sizeOf31 (by decide) rfl))<|rgs (((a1.vInt.vSize==1)||(a1.vInt.vSize==2))||(a1.vInt.vSize==4)) true (vP b2 2) rfl rfl rfl rfl (fun hg=>(r_fieldBox (n:=1) (o':=2) (gvt (vP b2 2) hg rfl) Tryd.runUnderlying31 rfl Tryd.sizeOf3 (by decide) rfl))<|rgs (((a1.vInt.vSize==1)||(a1.vInt.vSize==2))||(a1.vInt.vSize==4)) true (vI a1.vInt.vSize) rfl rfl rfl rfl (fun hg=>(r_loadBox (gvt (vP b2 2) hg rfl) Tryd.isAgg3 (HS5.look 0 rfl) rfl))<|run_frame (by simp only [sc0,sc1];rfl) ?_
   refine rgs (((a1.vInt.vSize==1)||(a1.vInt.vSize==2))||(a1.vInt.vSize==4)) true (vB (a1.vInt.vSize==8)) rfl rfl rfl rfl (fun hg=>(r_bin (gvt (vI a1.vInt.vSize) hg rfl) rfl rfl))<|rs (vB ((((a1.vInt.vSize==1)||(a1.vInt.vSize==2))||(a1.vInt.vSize==4))||(a1.vInt.vSize==8))) (r_pick_or rfl rfl (fun hp=>(gvt (vB (a1.vInt.vSize==8)) (and_i rfl hp) rfl)))<|rs (vB ((((a1.vInt.vSize==1)||(a1.vInt.vSize==2))||(a1.vInt.vSize==4))||(a1.vInt.vSize==8))) (r_assign rfl) ?_
   try simp only [sc0,sc1]
   refine run_nil<|norm_then<|wp_ret<|ret_block<|ret_then ?_
   obtain rfl:=Option.some.inj H
   exact bodyPost_ret (results_1 rfl (one_tmp rfl)) rfl<|⟨rfl,HS5.toE⟩
  ·replace H:=of_neg H (nt c2)
   refine wp_seq<|wp_seq<|region<|rs (vB (a1.vKind==2)) (r_bin rfl rfl rfl)<|rs (vB (a1.vKind==2)) (r_assign rfl) ?_
   try simp only [sc0,sc1]
   refine run_nil<|norm_then ?_
   obtain ⟨xx1,H,G1⟩:=of_bind H
   refine cut_patch [56,58] (fun us w'=>Fit us (fun uj1=>[vB xx1,(uj1 1)])∧St [] h0 w0 h0 [(some b2, .cells #[vI a1.vKind,vS a1.vName,vI a1.vInt.vSize,vB a1.vInt.vSigned,vI a1.vRef,vI a1.vN,vL A1_6 a1.vFields.length c1_6] 34 (0,0)),(some b1, .cells #[vL A0_0 a0.vDefs.length c0_0] 24 (0,0))] w') ?_ ?_
   ·refine wp_cond_split (t:=(a1.vKind==2)) rfl (fun c3=>?_) (fun c3=>?_)
    ·replace H:=of_pos H c3
     refine wp_skip ?_
     obtain rfl:=Option.some.inj H
     refine met_j rfl ⟨(fit rfl),HS5⟩
    ·replace H:=of_neg H (nt c3)
     refine region<|rs (vB (a1.vKind==6)) (r_bin rfl rfl rfl)<|rs (vB (a1.vKind==6)) (r_assign rfl) ?_
     try simp only [sc0,sc1]
     refine run_nil ?_
     obtain rfl:=Option.some.inj H
     refine met_j rfl ⟨(fit rfl),HS5⟩
   ·rintro us w6 ⟨huj1,HS6⟩
    obtain ⟨uj1,rfl⟩:=unj huj1
    replace H:=G1
    clear G1
    try simp only [patch,sc0,sc1]
    refine wp_cond_split (t:=xx1) rfl (fun c4=>?_) (fun c4=>?_)
    ·replace H:=of_pos H c4
     refine wp_seq<|region<|rs (Value.agg #[vL A0_0 a0.vDefs.length c0_0]) (r_loadBoxAgg (n:=1) (vs:=[vL A0_0 a0.vDefs.length c0_0]) rfl Tryd.isAgg24 (HS6.look 1 rfl) Tryd.sizeOf24 rfl rfl)<|rs (vP b2 4) (r_fieldBox (n:=1) (o':=4) rfl Tryd.runUnderlying34 rfl Tryd.sizeOf3 (by decide) rfl)<|rs (vI a1.vRef) (r_loadBox rfl Tryd.isAgg3 (HS6.look 0 rfl) rfl) ?_
     obtain ⟨v4,H4,H⟩:=of_bind H
     refine run_eq (v:=vB v4) rfl rfl (does_call_eq Tryd.call96 rfl rfl (taplineref08_Index.calls a0 a1.vRef A0_0 c0_0 HS6.sees hr0_0 hc0_0 H4)) ?_
     intro w7 hE6
     have HS7:=HS6.step hE6
     refine run_frame (by simp only [sc0,sc1];rfl) ?_
     refine rs (vB v4) (r_assign rfl) ?_
     try simp only [sc0,sc1]
     refine run_nil<|norm_then<|wp_ret<|ret_block<|ret_then ?_
     obtain rfl:=Option.some.inj H
     exact bodyPost_ret (results_1 rfl (one_tmp rfl)) rfl<|⟨rfl,HS7.toE⟩
    ·replace H:=of_neg H (nt c4)
     refine wp_seq<|region<|rs (vB (a1.vKind==3)) (r_bin rfl rfl rfl)<|rs (vB (a1.vKind==3)) (r_assign rfl) ?_
     try simp only [sc0,sc1]
     refine run_nil<|norm_then<|wp_cond_split (t:=(a1.vKind==3)) rfl (fun c5=>?_) (fun c5=>?_)
     ·replace H:=of_pos H c5
      refine wp_seq<|region<|rs (Value.agg #[vL A0_0 a0.vDefs.length c0_0]) (r_loadBoxAgg (n:=1) (vs:=[vL A0_0 a0.vDefs.length c0_0]) rfl Tryd.isAgg24 (HS6.look 1 rfl) Tryd.sizeOf24 rfl rfl)<|rs (vP b2 4) (r_fieldBox (n:=1) (o':=4) rfl Tryd.runUnderlying34 rfl Tryd.sizeOf3 (by decide) rfl)<|rs (vI a1.vRef) (r_loadBox rfl Tryd.isAgg3 (HS6.look 0 rfl) rfl) ?_
      obtain ⟨v5,H5,H⟩:=of_bind H
      refine run_eq (v:=vB v5) rfl rfl (does_call_eq Tryd.call96 rfl rfl (taplineref08_Index.calls a0 a1.vRef A0_0 c0_0 HS6.sees hr0_0 hc0_0 H5)) ?_
      intro w8 hE7
      have HS8:=HS6.step hE7
      refine run_frame (by simp only [sc0,sc1];rfl) ?_
      refine rs (vB v5) (r_move rfl)<|rgs v5 true (vP b2 5) rfl rfl rfl rfl (fun hg=>(r_fieldBox (n:=1) (o':=5) rfl Tryd.runUnderlying34 rfl Tryd.sizeOf3 (by decide) rfl))<|rgs v5 true (vI a1.vN) rfl rfl rfl rfl (fun hg=>(r_loadBox (gvt (vP b2 5) hg rfl) Tryd.isAgg3 (HS8.look 0 rfl) rfl))<|rgs v5 true (vB (decide (a1.vN≥1))) rfl rfl rfl rfl (fun hg=>(r_bin (gvt (vI a1.vN) hg rfl) rfl rfl))<|run_frame (by simp only [sc0,sc1];rfl) ?_
      refine rs (vB (v5&&(decide (a1.vN≥1)))) (r_pick_and rfl (fun hp=>(gvt (vB (decide (a1.vN≥1))) (and_i rfl hp) rfl)) rfl)<|rs (vB (v5&&(decide (a1.vN≥1)))) (r_move rfl)<|rgs (v5&&(decide (a1.vN≥1))) true (vP b2 5) rfl rfl rfl rfl (fun hg=>(r_fieldBox (n:=1) (o':=5) rfl Tryd.runUnderlying34 rfl Tryd.sizeOf3 (by decide) rfl))<|rgs (v5&&(decide (a1.vN≥1))) true (vI a1.vN) rfl rfl rfl rfl (fun hg=>(r_loadBox (gvt (vP b2 5) hg rfl) Tryd.isAgg3 (HS8.look 0 rfl) rfl))<|run_frame (by simp only [sc0,sc1];rfl) ?_
      refine rgs (v5&&(decide (a1.vN≥1))) true (vB (decide (a1.vN≤512))) rfl rfl rfl rfl (fun hg=>(r_bin (gvt (vI a1.vN) hg rfl) rfl rfl))<|rs (vB ((v5&&(decide (a1.vN≥1)))&&(decide (a1.vN≤512)))) (r_pick_and rfl (fun hp=>(gvt (vB (decide (a1.vN≤512))) (and_i rfl hp) rfl)) rfl)<|rs (vB ((v5&&(decide (a1.vN≥1)))&&(decide (a1.vN≤512)))) (r_assign rfl) ?_
      try simp only [sc0,sc1]
      refine run_nil<|norm_then<|wp_ret<|ret_block<|ret_then ?_
      obtain rfl:=Option.some.inj H
      exact bodyPost_ret (results_1 rfl (one_tmp rfl)) rfl<|⟨rfl,HS8.toE⟩
     ·replace H:=of_neg H (nt c5)
      refine wp_skip<|norm_block<|norm_then<|wp_seq<|wp_seq<|region<|rs (vP b2 6) (r_fieldBox (n:=1) (o':=6) rfl Tryd.runUnderlying34 rfl Tryd.sizeOf32 (by decide) rfl)<|rs (vL A1_6 a1.vFields.length c1_6) (r_loadBox rfl Tryd.isAgg32 (HS6.look 0 rfl) rfl) ?_
      obtain ⟨v6,H6,H⟩:=of_bind H
      refine run_eq (v:=vB v6) rfl rfl (does_call_eq Tryd.call97 rfl rfl (taplineref08_fields.calls k a1.vFields A1_6 c1_6 HS6.sees hr1_6 hc1_6 H6)) ?_
      intro w9 hE8
      have HS9:=HS6.step hE8
      refine rs (vB (!v6)) (r_not rfl) ?_
      try simp only [sc0,sc1]
      refine run_nil<|norm_then<|wp_cond_split (t:=(!v6)) rfl (fun c6=>?_) (fun c6=>?_)
      ·replace H:=of_pos H c6
       refine wp_seq<|region<|rs (vB false) (r_assign rfl) ?_
       try simp only [sc0,sc1]
       refine run_nil<|norm_then<|wp_ret<|ret_then ?_
       obtain rfl:=Option.some.inj H
       exact bodyPost_ret (results_1 rfl (one_tmp rfl)) rfl<|⟨rfl,HS9.toE⟩
      ·replace H:=of_neg H (nt c6)
       refine wp_skip<|norm_then<|wp_seq<|wp_seq<|region<|rs (vI 0) (r_assign rfl) ?_
       try simp only [sc0,sc1]
       refine run_nil<|norm_then ?_
       obtain ⟨xx2,H,G2⟩:=of_bind H
       refine loop_j [4,5,6,83,84,85,86,87,88,89,90,91,92,93,94,95,96,97,98,99,100,101,102,103,104,105,106,107,108,109,110,111,112,113,114,115,116,117,118,119,120,121,122] (fun m us w'=>∃(y1_0:Int),Fit us (fun uy1=>[(uy1 0),vI y1_0,(uy1 2),(uy1 3),(uy1 4),(uy1 5),(uy1 6),(uy1 7),(uy1 8),(uy1 9),(uy1 10),(uy1 11),(uy1 12),(uy1 13),(uy1 14),(uy1 15),(uy1 16),(uy1 17),(uy1 18),(uy1 19),(uy1 20),(uy1 21),(uy1 22),(uy1 23),(uy1 24),(uy1 25),(uy1 26),(uy1 27),(uy1 28),(uy1 29),(uy1 30),(uy1 31),(uy1 32),(uy1 33),(uy1 34),(uy1 35),(uy1 36),(uy1 37),(uy1 38),(uy1 39),(uy1 40),(uy1 41),(uy1 42)])∧taplineref08_shaped.l0 a0 a1 m y1_0=some xx2∧St [] h0 w0 h0 [(some b2, .cells #[vI a1.vKind,vS a1.vName,vI a1.vInt.vSize,vB a1.vInt.vSigned,vI a1.vRef,vI a1.vN,vL A1_6 a1.vFields.length c1_6] 34 (0,0)),(some b1, .cells #[vL A0_0 a0.vDefs.length c0_0] 24 (0,0))] w') (fun us w'=>∃(s1:Unit),xx2= .inr s1∧Fit us (fun uo1=>[(uo1 0),(uo1 1),(uo1 2),(uo1 3),(uo1 4),(uo1 5),(uo1 6),(uo1 7),(uo1 8),(uo1 9),(uo1 10),(uo1 11),(uo1 12),(uo1 13),(uo1 14),(uo1 15),(uo1 16),(uo1 17),(uo1 18),(uo1 19),(uo1 20),(uo1 21),(uo1 22),(uo1 23),(uo1 24),(uo1 25),(uo1 26),(uo1 27),(uo1 28),(uo1 29),(uo1 30),(uo1 31),(uo1 32),(uo1 33),(uo1 34),(uo1 35),(uo1 36),(uo1 37),(uo1 38),(uo1 39),(uo1 40),(uo1 41),(uo1 42)])∧St [] h0 w0 h0 [(some b2, .cells #[vI a1.vKind,vS a1.vName,vI a1.vInt.vSize,vB a1.vInt.vSigned,vI a1.vRef,vI a1.vN,vL A1_6 a1.vFields.length c1_6] 34 (0,0)),(some b1, .cells #[vL A0_0 a0.vDefs.length c0_0] 24 (0,0))] w') k ⟨0,(fit rfl),H,HS9⟩ ?_ ?_
       ·rintro m us w10 ⟨y1_0,huy1,H,HS10⟩
        obtain ⟨uy1,rfl⟩:=unj huy1
        cases m with
        |zero=>exact absurd H (by simp [taplineref08_shaped.l0])
        |succ m=>
         rw [taplineref08_shaped.l0] at H
         try simp only [patch,sc0,sc1]
         refine wp_seq<|wp_seq<|region<|rs (vI y1_0) (r_move rfl)<|rs (vP b2 6) (r_fieldBox (n:=1) (o':=6) rfl Tryd.runUnderlying34 rfl Tryd.sizeOf32 (by decide) rfl)<|rs (vL A1_6 a1.vFields.length c1_6) (r_loadBox rfl Tryd.isAgg32 (HS10.look 0 rfl) rfl)<|rs (vI (a1.vFields.length:Int)) (r_len rfl Tryd.runUnderlying32)<|run_frame (by simp only [sc0,sc1];rfl) ?_
         refine rs (vB (decide (y1_0<(a1.vFields.length:Int)))) (r_bin rfl rfl rfl) ?_
         try simp only [sc0,sc1]
         refine run_nil<|norm_then<|wp_cond_split (t:=(decide (y1_0<(a1.vFields.length:Int)))) rfl (fun c7=>?_) (fun c7=>?_)
         ·replace H:=of_pos H c7
          refine wp_skip<|norm_then<|wp_seq<|wp_block<|wp_seq<|region<|rs (vP b2 6) (r_fieldBox (n:=1) (o':=6) rfl Tryd.runUnderlying34 rfl Tryd.sizeOf32 (by decide) rfl)<|rs (vL A1_6 a1.vFields.length c1_6) (r_loadBox rfl Tryd.isAgg32 (HS10.look 0 rfl) rfl)<|rs (vI y1_0) (r_move rfl) ?_
          obtain ⟨hi1,H⟩:=of_ite H
          obtain ⟨ad1,e1,hel1⟩:=ld_api_Field hr1_6 hi1.1 hi1.2
          refine rs (Value.pointer (some (Addr.add ad1 (y1_0.toNat*3)))) (r_indexA (sz:=3) rfl e1 rfl hi1.1 hi1.2 Tryd.runUnderlying32 Tryd.sizeOf36)<|run_frame (by simp only [sc0,sc1];rfl) ?_
          refine rs (Value.agg #[vS ((rd z_api_Field a1.vFields y1_0).vName),vI ((rd z_api_Field a1.vFields y1_0).vType),vI ((rd z_api_Field a1.vFields y1_0).vAt)]) (r_loadAgg rfl Tryd.isAgg36 (hel1.sees HS10.sees) Tryd.sizeOf36)<|run_ex rfl rfl (does_alloc (cs:=#[vS ByteArray.empty,vI 0,vI 0]) Tryd.zeroValue36 rfl) ?_
          rintro w11 _ hE9 ⟨b3,rfl,ge3,hb3⟩
          have HS11:=HS10.new hE9 ge3 hb3
          refine run_st (i:=0) (cs:=[vS ByteArray.empty,vI 0,vI 0]) (cs':=[vS ((rd z_api_Field a1.vFields y1_0).vName),vI ((rd z_api_Field a1.vFields y1_0).vType),vI ((rd z_api_Field a1.vFields y1_0).vAt)]) (vs:=[vS ((rd z_api_Field a1.vFields y1_0).vName),vI ((rd z_api_Field a1.vFields y1_0).vType),vI ((rd z_api_Field a1.vFields y1_0).vAt)]) (bs':=[(some b3, .cells #[vS ((rd z_api_Field a1.vFields y1_0).vName),vI ((rd z_api_Field a1.vFields y1_0).vType),vI ((rd z_api_Field a1.vFields y1_0).vAt)] 36 (0,0)),(some b2, .cells #[vI a1.vKind,vS a1.vName,vI a1.vInt.vSize,vB a1.vInt.vSigned,vI a1.vRef,vI a1.vN,vL A1_6 a1.vFields.length c1_6] 34 (0,0)),(some b1, .cells #[vL A0_0 a0.vDefs.length c0_0] 24 (0,0))]) rfl rfl Tryd.sizeOf36 rfl rfl (by decide) rfl HS11 rfl (Nat.le_of_ble_eq_true rfl) rfl rfl ?_
          intro w12 HS12
          try simp only [sc0,sc1]
          refine run_nil<|norm_then<|wp_seq<|wp_seq<|region<|rs (vP b2 0) (r_fieldBox (n:=1) (o':=0) rfl Tryd.runUnderlying34 rfl Tryd.sizeOf3 (by decide) rfl)<|rs (vI a1.vKind) (r_loadBox rfl Tryd.isAgg3 (HS12.look 1 rfl) rfl)<|rs (vB (a1.vKind==4)) (r_bin rfl rfl rfl)<|rs (vB (a1.vKind==4)) (r_move rfl)<|run_frame (by simp only [sc0,sc1];rfl) ?_
          refine rgs (a1.vKind==4) true (Value.agg #[vL A0_0 a0.vDefs.length c0_0]) rfl rfl rfl rfl (fun hg=>(r_loadBoxAgg (n:=1) (vs:=[vL A0_0 a0.vDefs.length c0_0]) rfl Tryd.isAgg24 (HS12.look 2 rfl) Tryd.sizeOf24 rfl rfl))<|rgs (a1.vKind==4) true (vP b3 1) rfl rfl rfl rfl (fun hg=>(r_fieldBox (n:=1) (o':=1) rfl Tryd.runUnderlying36 rfl Tryd.sizeOf3 (by decide) rfl))<|rgs (a1.vKind==4) true (vI ((rd z_api_Field a1.vFields y1_0).vType)) rfl rfl rfl rfl (fun hg=>(r_loadBox (gvt (vP b3 1) hg rfl) Tryd.isAgg3 (HS12.look 0 rfl) rfl)) ?_
          obtain ⟨v7,H7,H⟩:=of_bind H
          refine run_g (b:=(a1.vKind==4)) (c:=true) (v:=vB v7) rfl rfl rfl rfl (fun hg=>(does_call_eq Tryd.call96 rfl (map2 (gvt (Value.agg #[vL A0_0 a0.vDefs.length c0_0]) hg rfl) (gvt (vI ((rd z_api_Field a1.vFields y1_0).vType)) hg rfl)) (taplineref08_Index.calls a0 ((rd z_api_Field a1.vFields y1_0).vType) A0_0 c0_0 HS12.sees hr0_0 hc0_0 (of_pos H7 hg)))) ?_
          intro w13 hE10
          have HS13:=HS12.step hE10
          refine run_frame (by simp only [sc0,sc1];rfl) ?_
          refine rgs (a1.vKind==4) true (vB (!v7)) rfl rfl rfl rfl (fun hg=>(r_not (gvt (vB v7) hg rfl)))<|rs (vB ((a1.vKind==4)&&(!v7))) (r_pick_and rfl (fun hp=>(gvt (vB (!v7)) (and_i rfl hp) rfl)) rfl) ?_
          try simp only [sc0,sc1]
          refine run_nil<|norm_then<|wp_cond_split (t:=((a1.vKind==4)&&(!v7))) rfl (fun c8=>?_) (fun c8=>?_)
          ·replace H:=of_pos H c8
           refine wp_seq<|region<|rs (vB false) (r_assign rfl) ?_
           try simp only [sc0,sc1]
           refine run_nil<|norm_then<|wp_ret<|ret_then<|ret_block<|ret_then<|ret_loop<|ret_then ?_
           obtain rfl:=Option.some.inj H
           obtain rfl:=Option.some.inj G2
           exact bodyPost_ret (results_1 rfl (one_tmp rfl)) rfl<|⟨rfl,HS13.toE⟩
          ·replace H:=of_neg H (nt c8)
           refine wp_skip<|norm_then<|wp_seq<|region<|rs (vP b2 0) (r_fieldBox (n:=1) (o':=0) rfl Tryd.runUnderlying34 rfl Tryd.sizeOf3 (by decide) rfl)<|rs (vI a1.vKind) (r_loadBox rfl Tryd.isAgg3 (HS13.look 1 rfl) rfl)<|rs (vB (a1.vKind==5)) (r_bin rfl rfl rfl)<|rs (vB (a1.vKind==5)) (r_move rfl)<|run_frame (by simp only [sc0,sc1];rfl) ?_
           refine rgs (a1.vKind==5) true (vP b3 1) rfl rfl rfl rfl (fun hg=>(r_fieldBox (n:=1) (o':=1) rfl Tryd.runUnderlying36 rfl Tryd.sizeOf3 (by decide) rfl))<|rgs (a1.vKind==5) true (vI ((rd z_api_Field a1.vFields y1_0).vType)) rfl rfl rfl rfl (fun hg=>(r_loadBox (gvt (vP b3 1) hg rfl) Tryd.isAgg3 (HS13.look 0 rfl) rfl))<|rgs (a1.vKind==5) true (vB ((rd z_api_Field a1.vFields y1_0).vType !=0)) rfl rfl rfl rfl (fun hg=>(r_bin (gvt (vI ((rd z_api_Field a1.vFields y1_0).vType)) hg rfl) rfl rfl))<|rgs (a1.vKind==5) true (vB ((rd z_api_Field a1.vFields y1_0).vType !=0)) rfl rfl rfl rfl (fun hg=>(r_move (gvt (vB ((rd z_api_Field a1.vFields y1_0).vType !=0)) hg rfl)))<|run_frame (by simp only [sc0,sc1];rfl) ?_
           refine rgs ((rd z_api_Field a1.vFields y1_0).vType !=0) (true&&((a1.vKind==5)==true)) (vP b3 2) rfl rfl rfl rfl (fun hg=>(r_fieldBox (n:=1) (o':=2) rfl Tryd.runUnderlying36 rfl Tryd.sizeOf3 (by decide) rfl))<|rgs ((rd z_api_Field a1.vFields y1_0).vType !=0) (true&&((a1.vKind==5)==true)) (vI ((rd z_api_Field a1.vFields y1_0).vAt)) rfl rfl rfl rfl (fun hg=>(r_loadBox (gvt (vP b3 2) hg rfl) Tryd.isAgg3 (HS13.look 0 rfl) rfl))<|rgs ((rd z_api_Field a1.vFields y1_0).vType !=0) (true&&((a1.vKind==5)==true)) (vB (decide ((rd z_api_Field a1.vFields y1_0).vAt<(-2147483648)))) rfl rfl rfl rfl (fun hg=>(r_bin (gvt (vI ((rd z_api_Field a1.vFields y1_0).vAt)) hg rfl) rfl rfl))<|rgs (a1.vKind==5) true (vB (((rd z_api_Field a1.vFields y1_0).vType !=0)||(decide ((rd z_api_Field a1.vFields y1_0).vAt<(-2147483648))))) rfl rfl rfl rfl (fun hg=>(r_pick_or (gvt (vB ((rd z_api_Field a1.vFields y1_0).vType !=0)) hg rfl) rfl (fun hp=>(gvt (vB (decide ((rd z_api_Field a1.vFields y1_0).vAt<(-2147483648)))) (and_i hg hp) rfl))))<|run_frame (by simp only [sc0,sc1];rfl) ?_
           refine rgs (a1.vKind==5) true (vB (((rd z_api_Field a1.vFields y1_0).vType !=0)||(decide ((rd z_api_Field a1.vFields y1_0).vAt<(-2147483648))))) rfl rfl rfl rfl (fun hg=>(r_move (gvt (vB (((rd z_api_Field a1.vFields y1_0).vType !=0)||(decide ((rd z_api_Field a1.vFields y1_0).vAt<(-2147483648))))) hg rfl)))<|rgs (((rd z_api_Field a1.vFields y1_0).vType !=0)||(decide ((rd z_api_Field a1.vFields y1_0).vAt<(-2147483648)))) (true&&((a1.vKind==5)==true)) (vP b3 2) rfl rfl rfl rfl (fun hg=>(r_fieldBox (n:=1) (o':=2) rfl Tryd.runUnderlying36 rfl Tryd.sizeOf3 (by decide) rfl))<|rgs (((rd z_api_Field a1.vFields y1_0).vType !=0)||(decide ((rd z_api_Field a1.vFields y1_0).vAt<(-2147483648)))) (true&&((a1.vKind==5)==true)) (vI ((rd z_api_Field a1.vFields y1_0).vAt)) rfl rfl rfl rfl (fun hg=>(r_loadBox (gvt (vP b3 2) hg rfl) Tryd.isAgg3 (HS13.look 0 rfl) rfl))<|rgs (((rd z_api_Field a1.vFields y1_0).vType !=0)||(decide ((rd z_api_Field a1.vFields y1_0).vAt<(-2147483648)))) (true&&((a1.vKind==5)==true)) (vB (decide ((rd z_api_Field a1.vFields y1_0).vAt>2147483647))) rfl rfl rfl rfl (fun hg=>(r_bin (gvt (vI ((rd z_api_Field a1.vFields y1_0).vAt)) hg rfl) rfl rfl))<|run_frame (by simp only [sc0,sc1];rfl) ?_
           refine rgs (a1.vKind==5) true (vB ((((rd z_api_Field a1.vFields y1_0).vType !=0)||(decide ((rd z_api_Field a1.vFields y1_0).vAt<(-2147483648))))||(decide ((rd z_api_Field a1.vFields y1_0).vAt>2147483647)))) rfl rfl rfl rfl (fun hg=>(r_pick_or (gvt (vB (((rd z_api_Field a1.vFields y1_0).vType !=0)||(decide ((rd z_api_Field a1.vFields y1_0).vAt<(-2147483648))))) hg rfl) rfl (fun hp=>(gvt (vB (decide ((rd z_api_Field a1.vFields y1_0).vAt>2147483647))) (and_i hg hp) rfl))))<|rs (vB ((a1.vKind==5)&&((((rd z_api_Field a1.vFields y1_0).vType !=0)||(decide ((rd z_api_Field a1.vFields y1_0).vAt<(-2147483648))))||(decide ((rd z_api_Field a1.vFields y1_0).vAt>2147483647))))) (r_pick_and rfl (fun hp=>(gvt (vB ((((rd z_api_Field a1.vFields y1_0).vType !=0)||(decide ((rd z_api_Field a1.vFields y1_0).vAt<(-2147483648))))||(decide ((rd z_api_Field a1.vFields y1_0).vAt>2147483647)))) (and_i rfl hp) rfl)) rfl) ?_
           try simp only [sc0,sc1]
           refine run_nil<|norm_then<|wp_cond_split (t:=((a1.vKind==5)&&((((rd z_api_Field a1.vFields y1_0).vType !=0)||(decide ((rd z_api_Field a1.vFields y1_0).vAt<(-2147483648))))||(decide ((rd z_api_Field a1.vFields y1_0).vAt>2147483647))))) rfl (fun c9=>?_) (fun c9=>?_)
           ·replace H:=of_pos H c9
            refine wp_seq<|region<|rs (vB false) (r_assign rfl) ?_
            try simp only [sc0,sc1]
            refine run_nil<|norm_then<|wp_ret<|ret_block<|ret_then<|ret_loop<|ret_then ?_
            obtain rfl:=Option.some.inj H
            obtain rfl:=Option.some.inj G2
            exact bodyPost_ret (results_1 rfl (one_tmp rfl)) rfl<|⟨rfl,HS13.toE⟩
           ·replace H:=of_neg H (nt c9)
            refine wp_skip<|norm_block<|norm_then<|region<|rs (vI y1_0) (r_move rfl)<|rs (vI (w64 (y1_0+1))) (r_bin rfl rfl rfl)<|rs (vI (w64 (y1_0+1))) (r_assign rfl) ?_
            try simp only [sc0,sc1]
            refine run_nil<|again_j m (Nat.lt_succ_self m) rfl ⟨(w64 (y1_0+1)),(fit rfl),H,HS13.tail⟩
         ·replace H:=of_neg H (nt c7)
          refine wp_exit<|exit_then ?_
          obtain rfl:=Option.some.inj H
          refine leave_j rfl ⟨_,rfl,(fit rfl),HS10⟩
       ·rintro us w14 ⟨s1,rfl,huo1,HS14⟩
        obtain ⟨uo1,rfl⟩:=unj huo1
        replace H:=G2
        clear G2
        try simp only [patch,sc0,sc1]
        refine norm_then<|wp_seq<|region<|rs (vP b2 0) (r_fieldBox (n:=1) (o':=0) rfl Tryd.runUnderlying34 rfl Tryd.sizeOf3 (by decide) rfl)<|rs (vI a1.vKind) (r_loadBox rfl Tryd.isAgg3 (HS14.look 0 rfl) rfl)<|rs (vB (a1.vKind==5)) (r_bin rfl rfl rfl)<|rs (vB (a1.vKind==5)) (r_move rfl)<|run_frame (by simp only [sc0,sc1];rfl) ?_
        refine rgs (a1.vKind==5) true (vP b2 5) rfl rfl rfl rfl (fun hg=>(r_fieldBox (n:=1) (o':=5) rfl Tryd.runUnderlying34 rfl Tryd.sizeOf3 (by decide) rfl))<|rgs (a1.vKind==5) true (vI a1.vN) rfl rfl rfl rfl (fun hg=>(r_loadBox (gvt (vP b2 5) hg rfl) Tryd.isAgg3 (HS14.look 0 rfl) rfl))<|rgs (a1.vKind==5) true (vB (decide (a1.vN≥1))) rfl rfl rfl rfl (fun hg=>(r_bin (gvt (vI a1.vN) hg rfl) rfl rfl))<|rgs (a1.vKind==5) true (vB (decide (a1.vN≥1))) rfl rfl rfl rfl (fun hg=>(r_move (gvt (vB (decide (a1.vN≥1))) hg rfl)))<|run_frame (by simp only [sc0,sc1];rfl) ?_
        refine rgs (decide (a1.vN≥1)) (true&&((a1.vKind==5)==false)) (vP b2 5) rfl rfl rfl rfl (fun hg=>(r_fieldBox (n:=1) (o':=5) rfl Tryd.runUnderlying34 rfl Tryd.sizeOf3 (by decide) rfl))<|rgs (decide (a1.vN≥1)) (true&&((a1.vKind==5)==false)) (vI a1.vN) rfl rfl rfl rfl (fun hg=>(r_loadBox (gvt (vP b2 5) hg rfl) Tryd.isAgg3 (HS14.look 0 rfl) rfl))<|rgs (decide (a1.vN≥1)) (true&&((a1.vKind==5)==false)) (vB (decide (a1.vN≤512))) rfl rfl rfl rfl (fun hg=>(r_bin (gvt (vI a1.vN) hg rfl) rfl rfl))<|rgs (a1.vKind==5) true (vB ((decide (a1.vN≥1))&&(decide (a1.vN≤512)))) rfl rfl rfl rfl (fun hg=>(r_pick_and (gvt (vB (decide (a1.vN≥1))) hg rfl) (fun hp=>(gvt (vB (decide (a1.vN≤512))) (and_i hg hp) rfl)) rfl))<|run_frame (by simp only [sc0,sc1];rfl) ?_
        refine rs (vB ((a1.vKind==5)||((decide (a1.vN≥1))&&(decide (a1.vN≤512))))) (r_pick_or rfl rfl (fun hp=>(gvt (vB ((decide (a1.vN≥1))&&(decide (a1.vN≤512)))) (and_i rfl hp) rfl)))<|rs (vB ((a1.vKind==5)||((decide (a1.vN≥1))&&(decide (a1.vN≤512))))) (r_assign rfl) ?_
        try simp only [sc0,sc1]
        refine run_nil<|norm_then<|wp_ret ?_
        obtain rfl:=Option.some.inj H
        exact bodyPost_ret (results_1 rfl (one_tmp rfl)) rfl<|⟨rfl,HS14.toE⟩
end Go.Proofs.YtfjppgobidjndaaDoor
