/- Parts of a proof, merged by program: F13 F71 F72 F110 F111 F112 F114 F113 F74 F73 F38 F49 F94 F95 F96 F97 F48 F98 F50 F51 F52 F19. The walks (each function once) and the plain laws; no condition of their own. -/
import Derived.Test.YtfjppgobidjndaaDoorByt3
set_option linter.unusedVariables false
set_option linter.unusedSimpArgs false
set_option maxRecDepth 20000
set_option maxHeartbeats 4000000
namespace Go.Proofs.YtfjppgobidjndaaDoor
open Go.RowKit Go.M
def taplinelaw08_sane.f (k:Nat):Option (Bool):=(taplinelaw08_sample.f).bind fun v1=>((ctf_Size.f k v1 1).bind fun v2=>((ctf_Text.f k v1 3).bind fun v3=>((ctf_Member.f k v1 1 (⟨#[116,95,110,101,120,116]⟩:ByteArray)).bind fun v4=>((ctf_Path.f k v1 1 ([(⟨#[116,95,110,97,109,101]⟩:ByteArray)]:List ByteArray)).bind fun v5=>((ctf_Check.f k v1).bind fun v6=>(if (((((((((((v6 !=0)||(v2.2 !=0))||(v2.1 !=24))||(v3.2 !=0))||(!(strEq v3.1 (⟨#[99,104,97,114,32,91,56,93]⟩:ByteArray))))||(v4.2 !=0))||(v4.1.vType !=2))||(v4.1.vAt !=8))||(v5.2.2 !=0))||(v5.1 !=3))||(v5.2.1 !=16))=true then (some false) else ((ctf_Member.f k v1 2 (⟨#[116,95,116,105,100]⟩:ByteArray)).bind fun v7=>(if 0+v1.vDefs.length≤4294967296 then (if (0+v1.vDefs.length)+1≤4294967296 then ((ctf_Unique.f k (⟨((([]:List api_Def)++v1.vDefs)++([(⟨2,ByteArray.empty,(⟨0,false⟩:api_Int),1,0,[]⟩:api_Def)]:List api_Def))⟩:api_Types)).bind fun v8=>((ctf_Encode.f k (⟨[]⟩:api_Types)).bind fun v9=>((if (true&&(((v7.2==5)&&(v8.2.2==0))==true))=true then taplineref08_Same.f k v8.1 v1 else some false).bind fun v10=>((if (true&&((((v7.2==5)&&(v8.2.2==0))&&v10)==true))=true then taplineref08_SameInts.f k v8.2.1 ([0,1,2,3,4,2]:List Int) else some false).bind fun v11=>(some ((((((v7.2==5)&&(v8.2.2==0))&&v10)&&v11)&&(v9.2==0))&&(strEq (strOf v9.1) (⟨#[67,84,70,1,0]⟩:ByteArray)))))))) else none) else none))))))))
theorem taplinelaw08_sane.calls (k:Nat) {h0:View} {w0:World} (hv:Sees h0 w0) (ht:Tab w0) {r:Bool} (H:taplinelaw08_sane.f k=some r):Calls Tryd.prog 13 #[] w0 (fun e w1=>e= .returned (vB r)∧Ext w0 w1):=by
 unfold taplinelaw08_sane.f at H
 have HS:St [] h0 w0 h0 [] w0:=St.init hv
 go_enter Tryd.func13,Tryd.ntmps13
 refine wp_seq<|region<|rs (vB false) (r_assign rfl) ?_
 try simp only [sc0,sc1]
 refine run_nil<|norm_then<|wp_seq<|region ?_
 obtain ⟨v1,H1,H⟩:=of_bind H
 refine run_ex rfl rfl (does_call Tryd.call42 rfl (gives_in (h:=h0) (R:=(fun hx u=>∃(Av1_0_0:Option Addr) (cv1_0_0:Nat),u=Value.agg #[vL Av1_0_0 v1.vDefs.length cv1_0_0]∧v1.vDefs.length≤cv1_0_0∧Rd k_api_Def hx Av1_0_0 v1.vDefs)) (Ext.rfl' w0) ((taplinelaw08_sample.calls HS.sees H1).mono ?_)) rfl) ?_
 ·rintro _ _ ⟨h1,Av1_0_0,cv1_0_0,rfl,hcv1_0_0,hrv1_0_0,g,ss,x⟩
  exact ⟨h1,_,rfl,⟨Av1_0_0,cv1_0_0,rfl,hcv1_0_0,hrv1_0_0⟩,g,ss,x⟩
 rintro w1 _ hE1 ⟨h1,⟨Av1_0_0,cv1_0_0,rfl,hcv1_0_0,hrv1_0_0⟩,gr1,se1⟩
 have HS1:=HS.view hE1 gr1 se1
 refine run_ex rfl rfl (does_alloc (cs:=#[vL none 0 0]) Tryd.zeroValue24 rfl) ?_
 rintro w2 _ hE2 ⟨b1,rfl,ge1,hb1⟩
 have HS2:=HS1.new hE2 ge1 hb1
 refine run_st (i:=0) (cs:=[vL none 0 0]) (cs':=[vL Av1_0_0 v1.vDefs.length cv1_0_0]) (vs:=[vL Av1_0_0 v1.vDefs.length cv1_0_0]) (bs':=[(some b1, .cells #[vL Av1_0_0 v1.vDefs.length cv1_0_0] 24 (0,0))]) rfl rfl Tryd.sizeOf24 rfl rfl (by decide) rfl HS2 rfl (Nat.le_of_ble_eq_true rfl) rfl rfl ?_
 intro w3 HS3
 try simp only [sc0,sc1]
 refine run_nil<|norm_then<|wp_seq<|region<|rs (Value.agg #[vL Av1_0_0 v1.vDefs.length cv1_0_0]) (r_loadBoxAgg (n:=1) (vs:=[vL Av1_0_0 v1.vDefs.length cv1_0_0]) rfl Tryd.isAgg24 (HS3.look 0 rfl) Tryd.sizeOf24 rfl rfl) ?_
 obtain ⟨v2,H2,H⟩:=of_bind H
 refine run_eq (v:=Value.tuple #[vI v2.1,vI v2.2]) rfl rfl (does_call_eq Tryd.call14 rfl rfl (ctf_Size.calls k v1 1 Av1_0_0 cv1_0_0 HS3.sees hrv1_0_0 hcv1_0_0 H2)) ?_
 intro w4 hE3
 have HS4:=HS3.step hE3
 refine rs (Value.tuple #[vI v2.1,vI v2.2]) (r_move rfl)<|rs (vI v2.1) (r_extract rfl rfl)<|run_frame (by simp only [sc0,sc1];rfl) ?_
 refine rs (vI v2.2) (r_extract rfl rfl)<|rs (vI v2.1) (r_assign rfl)<|rs (vI v2.2) (r_assign rfl) ?_
 try simp only [sc0,sc1]
 refine run_nil<|norm_then<|wp_seq<|region<|rs (Value.agg #[vL Av1_0_0 v1.vDefs.length cv1_0_0]) (r_loadBoxAgg (n:=1) (vs:=[vL Av1_0_0 v1.vDefs.length cv1_0_0]) rfl Tryd.isAgg24 (HS4.look 0 rfl) Tryd.sizeOf24 rfl rfl) ?_
 obtain ⟨v3,H3,H⟩:=of_bind H
 refine run_eq (v:=Value.tuple #[vS v3.1,vI v3.2]) rfl rfl (does_call_eq Tryd.call20 rfl rfl (ctf_Text.calls k v1 3 Av1_0_0 cv1_0_0 HS4.sees (ht.s HS4) hrv1_0_0 hcv1_0_0 H3)) ?_
 intro w5 hE4
 have HS5:=HS4.step hE4
 refine rs (Value.tuple #[vS v3.1,vI v3.2]) (r_move rfl)<|rs (vS v3.1) (r_extract rfl rfl)<|run_frame (by simp only [sc0,sc1];rfl) ?_
 refine rs (vI v3.2) (r_extract rfl rfl)<|rs (vS v3.1) (r_assign rfl)<|rs (vI v3.2) (r_assign rfl) ?_
 try simp only [sc0,sc1]
 refine run_nil<|norm_then<|wp_seq<|region<|rs (Value.agg #[vL Av1_0_0 v1.vDefs.length cv1_0_0]) (r_loadBoxAgg (n:=1) (vs:=[vL Av1_0_0 v1.vDefs.length cv1_0_0]) rfl Tryd.isAgg24 (HS5.look 0 rfl) Tryd.sizeOf24 rfl rfl) ?_
 obtain ⟨v4,H4,H⟩:=of_bind H
 refine run_eq (v:=Value.tuple #[Value.agg #[vS v4.1.vName,vI v4.1.vType,vI v4.1.vAt],vI v4.2]) rfl rfl (does_call_eq Tryd.call16 rfl rfl (ctf_Member.calls k v1 1 (⟨#[116,95,110,101,120,116]⟩:ByteArray) Av1_0_0 cv1_0_0 HS5.sees hrv1_0_0 hcv1_0_0 H4)) ?_
 intro w6 hE5
 have HS6:=HS5.step hE5
 refine rs (Value.tuple #[Value.agg #[vS v4.1.vName,vI v4.1.vType,vI v4.1.vAt],vI v4.2]) (r_move rfl)<|rs (Value.agg #[vS v4.1.vName,vI v4.1.vType,vI v4.1.vAt]) (r_extract rfl rfl)<|run_frame (by simp only [sc0,sc1];rfl) ?_
 refine rs (vI v4.2) (r_extract rfl rfl)<|run_ex rfl rfl (does_alloc (cs:=#[vS ByteArray.empty,vI 0,vI 0]) Tryd.zeroValue36 rfl) ?_
 rintro w7 _ hE6 ⟨b2,rfl,ge2,hb2⟩
 have HS7:=HS6.new hE6 ge2 hb2
 refine run_st (i:=0) (cs:=[vS ByteArray.empty,vI 0,vI 0]) (cs':=[vS v4.1.vName,vI v4.1.vType,vI v4.1.vAt]) (vs:=[vS v4.1.vName,vI v4.1.vType,vI v4.1.vAt]) (bs':=[(some b2, .cells #[vS v4.1.vName,vI v4.1.vType,vI v4.1.vAt] 36 (0,0)),(some b1, .cells #[vL Av1_0_0 v1.vDefs.length cv1_0_0] 24 (0,0))]) rfl rfl Tryd.sizeOf36 rfl rfl (by decide) rfl HS7 rfl (Nat.le_of_ble_eq_true rfl) rfl rfl ?_
 intro w8 HS8
 refine rs (vI v4.2) (r_assign rfl) ?_
 try simp only [sc0,sc1]
 refine run_nil<|norm_then<|wp_seq<|region<|rs (Value.agg #[vL Av1_0_0 v1.vDefs.length cv1_0_0]) (r_loadBoxAgg (n:=1) (vs:=[vL Av1_0_0 v1.vDefs.length cv1_0_0]) rfl Tryd.isAgg24 (HS8.look 1 rfl) Tryd.sizeOf24 rfl rfl)<|run_bs Kd.str (xs:=([(⟨#[116,95,110,97,109,101]⟩:ByteArray)]:List ByteArray)) (n:=1) (cs:=[vS (⟨#[116,95,110,97,109,101]⟩:ByteArray)]) Tryd.runUnderlying25 Tryd.typeInfo9 Tryd.zeroValue9 rfl rfl (by decide) (by decide) (by decide) [vS (⟨#[116,95,110,97,109,101]⟩:ByteArray)] (parts_any.trans rfl) rfl rfl rfl rfl (elems_cons (qs:=[vS (⟨#[116,95,110,97,109,101]⟩:ByteArray)]) rfl (elems_nil (cs:=[]))) HS8 ?_
 intro w9 b3 HS9 ho1
 obtain ⟨v5,H5,H⟩:=of_bind H
 obtain ⟨hl1,hs1,se2,rdl1⟩:=row_lend HS9 (i:=0) rfl ho1
 refine run_eq (v:=Value.tuple #[vI v5.1,vI v5.2.1,vI v5.2.2]) rfl rfl (does_call_eq Tryd.call17 rfl (map3 rfl rfl (show _=vL (rowA (some b3)) ([(⟨#[116,95,110,97,109,101]⟩:ByteArray)]:List ByteArray).length 1 from by rw [ho1.len];exact rfl)) (ctf_Path.calls k v1 1 ([(⟨#[116,95,110,97,109,101]⟩:ByteArray)]:List ByteArray) Av1_0_0 cv1_0_0 (rowA (some b3)) 1 se2 (hrv1_0_0.ext hs1) hcv1_0_0 rdl1 ho1.cap H5)) ?_
 intro w10 hE7
 have HS10:=HS9.step hE7
 refine rs (Value.tuple #[vI v5.1,vI v5.2.1,vI v5.2.2]) (r_move rfl)<|run_frame (by simp only [sc0,sc1];rfl) ?_
 refine rs (vI v5.1) (r_extract rfl rfl)<|rs (vI v5.2.1) (r_extract rfl rfl)<|rs (vI v5.2.2) (r_extract rfl rfl)<|rs (vI v5.1) (r_assign rfl)<|run_frame (by simp only [sc0,sc1];rfl) ?_
 refine rs (vI v5.2.1) (r_assign rfl)<|rs (vI v5.2.2) (r_assign rfl) ?_
 try simp only [sc0,sc1]
 refine run_nil<|norm_then<|wp_seq<|wp_seq<|region<|rs (Value.agg #[vL Av1_0_0 v1.vDefs.length cv1_0_0]) (r_loadBoxAgg (n:=1) (vs:=[vL Av1_0_0 v1.vDefs.length cv1_0_0]) rfl Tryd.isAgg24 (HS10.look 2 rfl) Tryd.sizeOf24 rfl rfl) ?_
 obtain ⟨v6,H6,H⟩:=of_bind H
 refine run_eq (v:=vI v6) rfl rfl (does_call_eq Tryd.call18 rfl rfl (ctf_Check.calls k v1 Av1_0_0 cv1_0_0 HS10.sees hrv1_0_0 hcv1_0_0 H6)) ?_
 intro w11 hE8
 have HS11:=HS10.step hE8
 refine rs (vB (v6 !=0)) (r_bin rfl rfl rfl)<|rs (vB (v6 !=0)) (r_move rfl)<|run_frame (by simp only [sc0,sc1];rfl) ?_
 refine rgs (v6 !=0) true (vI v2.2) rfl rfl rfl rfl (fun hg=>(r_move rfl))<|rgs (v6 !=0) true (vB (v2.2 !=0)) rfl rfl rfl rfl (fun hg=>(r_bin (gvt (vI v2.2) hg rfl) rfl rfl))<|rs (vB ((v6 !=0)||(v2.2 !=0))) (r_pick_or rfl rfl (fun hp=>(gvt (vB (v2.2 !=0)) (and_i rfl hp) rfl)))<|rs (vB ((v6 !=0)||(v2.2 !=0))) (r_move rfl)<|run_frame (by simp only [sc0,sc1];rfl) ?_
 refine rgs ((v6 !=0)||(v2.2 !=0)) true (vI v2.1) rfl rfl rfl rfl (fun hg=>(r_move rfl))<|rgs ((v6 !=0)||(v2.2 !=0)) true (vB (v2.1 !=24)) rfl rfl rfl rfl (fun hg=>(r_bin (gvt (vI v2.1) hg rfl) rfl rfl))<|rs (vB (((v6 !=0)||(v2.2 !=0))||(v2.1 !=24))) (r_pick_or rfl rfl (fun hp=>(gvt (vB (v2.1 !=24)) (and_i rfl hp) rfl)))<|rs (vB (((v6 !=0)||(v2.2 !=0))||(v2.1 !=24))) (r_move rfl)<|run_frame (by simp only [sc0,sc1];rfl) ?_
 refine rgs (((v6 !=0)||(v2.2 !=0))||(v2.1 !=24)) true (vI v3.2) rfl rfl rfl rfl (fun hg=>(r_move rfl))<|rgs (((v6 !=0)||(v2.2 !=0))||(v2.1 !=24)) true (vB (v3.2 !=0)) rfl rfl rfl rfl (fun hg=>(r_bin (gvt (vI v3.2) hg rfl) rfl rfl))<|rs (vB ((((v6 !=0)||(v2.2 !=0))||(v2.1 !=24))||(v3.2 !=0))) (r_pick_or rfl rfl (fun hp=>(gvt (vB (v3.2 !=0)) (and_i rfl hp) rfl)))<|rs (vB ((((v6 !=0)||(v2.2 !=0))||(v2.1 !=24))||(v3.2 !=0))) (r_move rfl)<|run_frame (by simp only [sc0,sc1];rfl) ?_
 refine rgs ((((v6 !=0)||(v2.2 !=0))||(v2.1 !=24))||(v3.2 !=0)) true (vS v3.1) rfl rfl rfl rfl (fun hg=>(r_move rfl))<|rgs ((((v6 !=0)||(v2.2 !=0))||(v2.1 !=24))||(v3.2 !=0)) true (vB (!(strEq v3.1 (⟨#[99,104,97,114,32,91,56,93]⟩:ByteArray)))) rfl rfl rfl rfl (fun hg=>(r_strneq (gvt (vS v3.1) hg rfl) rfl))<|rs (vB (((((v6 !=0)||(v2.2 !=0))||(v2.1 !=24))||(v3.2 !=0))||(!(strEq v3.1 (⟨#[99,104,97,114,32,91,56,93]⟩:ByteArray))))) (r_pick_or rfl rfl (fun hp=>(gvt (vB (!(strEq v3.1 (⟨#[99,104,97,114,32,91,56,93]⟩:ByteArray)))) (and_i rfl hp) rfl)))<|rs (vB (((((v6 !=0)||(v2.2 !=0))||(v2.1 !=24))||(v3.2 !=0))||(!(strEq v3.1 (⟨#[99,104,97,114,32,91,56,93]⟩:ByteArray))))) (r_move rfl)<|run_frame (by simp only [sc0,sc1];rfl) ?_
 refine rgs (((((v6 !=0)||(v2.2 !=0))||(v2.1 !=24))||(v3.2 !=0))||(!(strEq v3.1 (⟨#[99,104,97,114,32,91,56,93]⟩:ByteArray)))) true (vI v4.2) rfl rfl rfl rfl (fun hg=>(r_move rfl))<|rgs (((((v6 !=0)||(v2.2 !=0))||(v2.1 !=24))||(v3.2 !=0))||(!(strEq v3.1 (⟨#[99,104,97,114,32,91,56,93]⟩:ByteArray)))) true (vB (v4.2 !=0)) rfl rfl rfl rfl (fun hg=>(r_bin (gvt (vI v4.2) hg rfl) rfl rfl))<|rs (vB ((((((v6 !=0)||(v2.2 !=0))||(v2.1 !=24))||(v3.2 !=0))||(!(strEq v3.1 (⟨#[99,104,97,114,32,91,56,93]⟩:ByteArray))))||(v4.2 !=0))) (r_pick_or rfl rfl (fun hp=>(gvt (vB (v4.2 !=0)) (and_i rfl hp) rfl)))<|rs (vB ((((((v6 !=0)||(v2.2 !=0))||(v2.1 !=24))||(v3.2 !=0))||(!(strEq v3.1 (⟨#[99,104,97,114,32,91,56,93]⟩:ByteArray))))||(v4.2 !=0))) (r_move rfl)<|run_frame (by simp only [sc0,sc1];rfl) ?_
 refine rgs ((((((v6 !=0)||(v2.2 !=0))||(v2.1 !=24))||(v3.2 !=0))||(!(strEq v3.1 (⟨#[99,104,97,114,32,91,56,93]⟩:ByteArray))))||(v4.2 !=0)) true (vP b2 1) rfl rfl rfl rfl (fun hg=>(r_fieldBox (n:=1) (o':=1) rfl Tryd.runUnderlying36 rfl Tryd.sizeOf3 (by decide) rfl))<|rgs ((((((v6 !=0)||(v2.2 !=0))||(v2.1 !=24))||(v3.2 !=0))||(!(strEq v3.1 (⟨#[99,104,97,114,32,91,56,93]⟩:ByteArray))))||(v4.2 !=0)) true (vI v4.1.vType) rfl rfl rfl rfl (fun hg=>(r_loadBox (gvt (vP b2 1) hg rfl) Tryd.isAgg3 (HS11.look 1 rfl) rfl))<|rgs ((((((v6 !=0)||(v2.2 !=0))||(v2.1 !=24))||(v3.2 !=0))||(!(strEq v3.1 (⟨#[99,104,97,114,32,91,56,93]⟩:ByteArray))))||(v4.2 !=0)) true (vB (v4.1.vType !=2)) rfl rfl rfl rfl (fun hg=>(r_bin (gvt (vI v4.1.vType) hg rfl) rfl rfl))<|rs (vB (((((((v6 !=0)||(v2.2 !=0))||(v2.1 !=24))||(v3.2 !=0))||(!(strEq v3.1 (⟨#[99,104,97,114,32,91,56,93]⟩:ByteArray))))||(v4.2 !=0))||(v4.1.vType !=2))) (r_pick_or rfl rfl (fun hp=>(gvt (vB (v4.1.vType !=2)) (and_i rfl hp) rfl)))<|run_frame (by simp only [sc0,sc1];rfl) ?_
 refine rs (vB (((((((v6 !=0)||(v2.2 !=0))||(v2.1 !=24))||(v3.2 !=0))||(!(strEq v3.1 (⟨#[99,104,97,114,32,91,56,93]⟩:ByteArray))))||(v4.2 !=0))||(v4.1.vType !=2))) (r_move rfl)<|rgs (((((((v6 !=0)||(v2.2 !=0))||(v2.1 !=24))||(v3.2 !=0))||(!(strEq v3.1 (⟨#[99,104,97,114,32,91,56,93]⟩:ByteArray))))||(v4.2 !=0))||(v4.1.vType !=2)) true (vP b2 2) rfl rfl rfl rfl (fun hg=>(r_fieldBox (n:=1) (o':=2) rfl Tryd.runUnderlying36 rfl Tryd.sizeOf3 (by decide) rfl))<|rgs (((((((v6 !=0)||(v2.2 !=0))||(v2.1 !=24))||(v3.2 !=0))||(!(strEq v3.1 (⟨#[99,104,97,114,32,91,56,93]⟩:ByteArray))))||(v4.2 !=0))||(v4.1.vType !=2)) true (vI v4.1.vAt) rfl rfl rfl rfl (fun hg=>(r_loadBox (gvt (vP b2 2) hg rfl) Tryd.isAgg3 (HS11.look 1 rfl) rfl))<|rgs (((((((v6 !=0)||(v2.2 !=0))||(v2.1 !=24))||(v3.2 !=0))||(!(strEq v3.1 (⟨#[99,104,97,114,32,91,56,93]⟩:ByteArray))))||(v4.2 !=0))||(v4.1.vType !=2)) true (vB (v4.1.vAt !=8)) rfl rfl rfl rfl (fun hg=>(r_bin (gvt (vI v4.1.vAt) hg rfl) rfl rfl))<|run_frame (by simp only [sc0,sc1];rfl) ?_
 refine rs (vB ((((((((v6 !=0)||(v2.2 !=0))||(v2.1 !=24))||(v3.2 !=0))||(!(strEq v3.1 (⟨#[99,104,97,114,32,91,56,93]⟩:ByteArray))))||(v4.2 !=0))||(v4.1.vType !=2))||(v4.1.vAt !=8))) (r_pick_or rfl rfl (fun hp=>(gvt (vB (v4.1.vAt !=8)) (and_i rfl hp) rfl)))<|rs (vB ((((((((v6 !=0)||(v2.2 !=0))||(v2.1 !=24))||(v3.2 !=0))||(!(strEq v3.1 (⟨#[99,104,97,114,32,91,56,93]⟩:ByteArray))))||(v4.2 !=0))||(v4.1.vType !=2))||(v4.1.vAt !=8))) (r_move rfl)<|rgs ((((((((v6 !=0)||(v2.2 !=0))||(v2.1 !=24))||(v3.2 !=0))||(!(strEq v3.1 (⟨#[99,104,97,114,32,91,56,93]⟩:ByteArray))))||(v4.2 !=0))||(v4.1.vType !=2))||(v4.1.vAt !=8)) true (vI v5.2.2) rfl rfl rfl rfl (fun hg=>(r_move rfl))<|rgs ((((((((v6 !=0)||(v2.2 !=0))||(v2.1 !=24))||(v3.2 !=0))||(!(strEq v3.1 (⟨#[99,104,97,114,32,91,56,93]⟩:ByteArray))))||(v4.2 !=0))||(v4.1.vType !=2))||(v4.1.vAt !=8)) true (vB (v5.2.2 !=0)) rfl rfl rfl rfl (fun hg=>(r_bin (gvt (vI v5.2.2) hg rfl) rfl rfl))<|run_frame (by simp only [sc0,sc1];rfl) ?_
 refine rs (vB (((((((((v6 !=0)||(v2.2 !=0))||(v2.1 !=24))||(v3.2 !=0))||(!(strEq v3.1 (⟨#[99,104,97,114,32,91,56,93]⟩:ByteArray))))||(v4.2 !=0))||(v4.1.vType !=2))||(v4.1.vAt !=8))||(v5.2.2 !=0))) (r_pick_or rfl rfl (fun hp=>(gvt (vB (v5.2.2 !=0)) (and_i rfl hp) rfl)))<|rs (vB (((((((((v6 !=0)||(v2.2 !=0))||(v2.1 !=24))||(v3.2 !=0))||(!(strEq v3.1 (⟨#[99,104,97,114,32,91,56,93]⟩:ByteArray))))||(v4.2 !=0))||(v4.1.vType !=2))||(v4.1.vAt !=8))||(v5.2.2 !=0))) (r_move rfl)<|rgs (((((((((v6 !=0)||(v2.2 !=0))||(v2.1 !=24))||(v3.2 !=0))||(!(strEq v3.1 (⟨#[99,104,97,114,32,91,56,93]⟩:ByteArray))))||(v4.2 !=0))||(v4.1.vType !=2))||(v4.1.vAt !=8))||(v5.2.2 !=0)) true (vI v5.1) rfl rfl rfl rfl (fun hg=>(r_move rfl))<|rgs (((((((((v6 !=0)||(v2.2 !=0))||(v2.1 !=24))||(v3.2 !=0))||(!(strEq v3.1 (⟨#[99,104,97,114,32,91,56,93]⟩:ByteArray))))||(v4.2 !=0))||(v4.1.vType !=2))||(v4.1.vAt !=8))||(v5.2.2 !=0)) true (vB (v5.1 !=3)) rfl rfl rfl rfl (fun hg=>(r_bin (gvt (vI v5.1) hg rfl) rfl rfl))<|run_frame (by simp only [sc0,sc1];rfl) ?_
 refine rs (vB ((((((((((v6 !=0)||(v2.2 !=0))||(v2.1 !=24))||(v3.2 !=0))||(!(strEq v3.1 (⟨#[99,104,97,114,32,91,56,93]⟩:ByteArray))))||(v4.2 !=0))||(v4.1.vType !=2))||(v4.1.vAt !=8))||(v5.2.2 !=0))||(v5.1 !=3))) (r_pick_or rfl rfl (fun hp=>(gvt (vB (v5.1 !=3)) (and_i rfl hp) rfl)))<|rs (vB ((((((((((v6 !=0)||(v2.2 !=0))||(v2.1 !=24))||(v3.2 !=0))||(!(strEq v3.1 (⟨#[99,104,97,114,32,91,56,93]⟩:ByteArray))))||(v4.2 !=0))||(v4.1.vType !=2))||(v4.1.vAt !=8))||(v5.2.2 !=0))||(v5.1 !=3))) (r_move rfl)<|rgs ((((((((((v6 !=0)||(v2.2 !=0))||(v2.1 !=24))||(v3.2 !=0))||(!(strEq v3.1 (⟨#[99,104,97,114,32,91,56,93]⟩:ByteArray))))||(v4.2 !=0))||(v4.1.vType !=2))||(v4.1.vAt !=8))||(v5.2.2 !=0))||(v5.1 !=3)) true (vI v5.2.1) rfl rfl rfl rfl (fun hg=>(r_move rfl))<|rgs ((((((((((v6 !=0)||(v2.2 !=0))||(v2.1 !=24))||(v3.2 !=0))||(!(strEq v3.1 (⟨#[99,104,97,114,32,91,56,93]⟩:ByteArray))))||(v4.2 !=0))||(v4.1.vType !=2))||(v4.1.vAt !=8))||(v5.2.2 !=0))||(v5.1 !=3)) true (vB (v5.2.1 !=16)) rfl rfl rfl rfl (fun hg=>(r_bin (gvt (vI v5.2.1) hg rfl) rfl rfl))<|run_frame (by simp only [sc0,sc1];rfl) ?_
 refine rs (vB (((((((((((v6 !=0)||(v2.2 !=0))||(v2.1 !=24))||(v3.2 !=0))||(!(strEq v3.1 (⟨#[99,104,97,114,32,91,56,93]⟩:ByteArray))))||(v4.2 !=0))||(v4.1.vType !=2))||(v4.1.vAt !=8))||(v5.2.2 !=0))||(v5.1 !=3))||(v5.2.1 !=16))) (r_pick_or rfl rfl (fun hp=>(gvt (vB (v5.2.1 !=16)) (and_i rfl hp) rfl))) ?_
 try simp only [sc0,sc1]
 refine run_nil<|norm_then<|wp_cond_split (t:=(((((((((((v6 !=0)||(v2.2 !=0))||(v2.1 !=24))||(v3.2 !=0))||(!(strEq v3.1 (⟨#[99,104,97,114,32,91,56,93]⟩:ByteArray))))||(v4.2 !=0))||(v4.1.vType !=2))||(v4.1.vAt !=8))||(v5.2.2 !=0))||(v5.1 !=3))||(v5.2.1 !=16))) rfl (fun c1=>?_) (fun c1=>?_)
 ·replace H:=of_pos H c1
  refine wp_seq<|region<|rs (vB false) (r_assign rfl) ?_
  try simp only [sc0,sc1]
  refine run_nil<|norm_then<|wp_ret<|ret_then ?_
  obtain rfl:=Option.some.inj H
  exact bodyPost_ret (results_1 rfl (one_tmp rfl)) rfl<|⟨rfl,HS11.toE⟩
 ·replace H:=of_neg H (nt c1)
  refine wp_skip<|norm_then<|wp_seq<|region<|rs (Value.agg #[vL Av1_0_0 v1.vDefs.length cv1_0_0]) (r_loadBoxAgg (n:=1) (vs:=[vL Av1_0_0 v1.vDefs.length cv1_0_0]) rfl Tryd.isAgg24 (HS11.look 2 rfl) Tryd.sizeOf24 rfl rfl) ?_
  obtain ⟨v7,H7,H⟩:=of_bind H
  refine run_eq (v:=Value.tuple #[Value.agg #[vS v7.1.vName,vI v7.1.vType,vI v7.1.vAt],vI v7.2]) rfl rfl (does_call_eq Tryd.call16 rfl rfl (ctf_Member.calls k v1 2 (⟨#[116,95,116,105,100]⟩:ByteArray) Av1_0_0 cv1_0_0 HS11.sees hrv1_0_0 hcv1_0_0 H7)) ?_
  intro w12 hE9
  have HS12:=HS11.step hE9
  refine rs (Value.tuple #[Value.agg #[vS v7.1.vName,vI v7.1.vType,vI v7.1.vAt],vI v7.2]) (r_move rfl)<|rs (Value.agg #[vS v7.1.vName,vI v7.1.vType,vI v7.1.vAt]) (r_extract rfl rfl)<|run_frame (by simp only [sc0,sc1];rfl) ?_
  refine rs (vI v7.2) (r_extract rfl rfl)<|run_ex rfl rfl (does_alloc (cs:=#[vS ByteArray.empty,vI 0,vI 0]) Tryd.zeroValue36 rfl) ?_
  rintro w13 _ hE10 ⟨b4,rfl,ge3,hb3⟩
  have HS13:=HS12.new hE10 ge3 hb3
  refine run_st (i:=0) (cs:=[vS ByteArray.empty,vI 0,vI 0]) (cs':=[vS v7.1.vName,vI v7.1.vType,vI v7.1.vAt]) (vs:=[vS v7.1.vName,vI v7.1.vType,vI v7.1.vAt]) (bs':=[(some b4, .cells #[vS v7.1.vName,vI v7.1.vType,vI v7.1.vAt] 36 (0,0)),((some b3), .cells ([vS (⟨#[116,95,110,97,109,101]⟩:ByteArray)]).toArray 9 (0,0)),(some b2, .cells #[vS v4.1.vName,vI v4.1.vType,vI v4.1.vAt] 36 (0,0)),(some b1, .cells #[vL Av1_0_0 v1.vDefs.length cv1_0_0] 24 (0,0))]) rfl rfl Tryd.sizeOf36 rfl rfl (by decide) rfl HS13 rfl (Nat.le_of_ble_eq_true rfl) rfl rfl ?_
  intro w14 HS14
  refine rs (vI v7.2) (r_assign rfl) ?_
  try simp only [sc0,sc1]
  refine run_nil<|norm_then<|wp_seq<|region<|run_bs0 k_api_Def Tryd.runUnderlying22 Tryd.typeInfo34 HS14 ?_
  intro w15 b5 HS15 ho2
  refine rs (vP b1 0) (r_fieldBox (n:=1) (o':=0) rfl Tryd.runUnderlying24 rfl Tryd.sizeOf22 (by decide) rfl)<|rs (vL Av1_0_0 v1.vDefs.length cv1_0_0) (r_loadBox rfl Tryd.isAgg22 (HS15.look 4 rfl) rfl) ?_
  obtain ⟨nw1,sr1,hn1⟩:=src_rd (c:=cv1_0_0) one_api_Def Tryd.runUnderlying22 HS15.sees hrv1_0_0
  obtain ⟨hl2,H⟩:=of_ite H
  refine run_app k_api_Def (q:=0) (cs:=([]:List Value)) rfl rfl Tryd.runUnderlying22 Tryd.typeInfo34 Tryd.zeroValue34 rfl (by decide) rfl sr1 rfl hn1 hl2 HS15 rfl ho2 ?_
  intro w16 ob1 c2 cs1 HS16 ho3
  refine run_frame (by simp only [sc0,sc1];rfl) ?_
  refine rs (Value.agg #[vI 2,vS ByteArray.empty,vI 0,vB false,vI 1,vI 0,vL none 0 0]) (r_build (cs:=[vI 2,vS ByteArray.empty,vI 0,vB false,vI 1,vI 0,vL none 0 0]) (ps:=[(0,vI 2),(3,vI 1)]) Tryd.zeroValue34 Tryd.runUnderlying34 (pl:=#[(0,1),(1,1),(2,2),(4,1),(5,1),(6,1)]) (fun w=>by simp [Tryd.sizeOf3,Tryd.sizeOf31,Tryd.sizeOf32,Tryd.sizeOf9]) (parts_2 (show _=vI 2 from rfl) (show _=vI 1 from rfl)) rfl) ?_
  refine run_bs k_api_Def (xs:=([(⟨2,ByteArray.empty,(⟨0,false⟩:api_Int),1,0,[]⟩:api_Def)]:List api_Def)) (n:=1) (cs:=[vI 2,vS ByteArray.empty,vI 0,vB false,vI 1,vI 0,vL none 0 0]) Tryd.runUnderlying22 Tryd.typeInfo34 Tryd.zeroValue34 rfl rfl (by decide) (by decide) (by decide) [Value.agg #[vI 2,vS ByteArray.empty,vI 0,vB false,vI 1,vI 0,vL none 0 0]] (parts_any.trans rfl) rfl rfl rfl rfl (elems_cons (qs:=[vI 2,vS ByteArray.empty,vI 0,vB false,vI 1,vI 0,vL none 0 0]) ⟨[vI 2],[vS ByteArray.empty,vI 0,vB false,vI 1,vI 0,vL none 0 0],rfl,rfl,⟨[vS ByteArray.empty],[vI 0,vB false,vI 1,vI 0,vL none 0 0],rfl,rfl,⟨[vI 0,vB false],[vI 1,vI 0,vL none 0 0],rfl,⟨[vI 0],[vB false],rfl,rfl,rfl⟩,⟨[vI 1],[vI 0,vL none 0 0],rfl,rfl,⟨[vI 0],[vL none 0 0],rfl,rfl,⟨none,0,rfl,(Nat.le_refl 0),(Rd.nil _ _ _)⟩⟩⟩⟩⟩⟩ (elems_nil (cs:=[]))) HS16 ?_
  intro w17 b6 HS17 ho4
  obtain ⟨hl3,H⟩:=of_ite H
  refine run_app k_api_Def (q:=1) (cs:=cs1) rfl rfl Tryd.runUnderlying22 Tryd.typeInfo34 Tryd.zeroValue34 rfl (by decide) rfl (src_row Tryd.runUnderlying22 HS17 (i:=0) rfl ho4 rfl) ho4.len (src_row_elems ho4) hl3 HS17 rfl ho3 ?_
  intro w18 ob2 c3 cs2 HS18 ho5
  refine rs (Value.agg #[vL (rowA ob2) ((0+v1.vDefs.length)+1) c3]) (r_build (cs:=[vL (rowA ob2) ((0+v1.vDefs.length)+1) c3]) (ps:=[(0,vL (rowA ob2) ((0+v1.vDefs.length)+1) c3)]) Tryd.zeroValue24 Tryd.runUnderlying24 (pl:=#[(0,1)]) (fun w=>by simp [Tryd.sizeOf22]) (parts_1 (show _=vL (rowA ob2) ((0+v1.vDefs.length)+1) c3 from rfl)) rfl) ?_
  refine run_frame (by simp only [sc0,sc1];rfl) ?_
  refine run_ex rfl rfl (does_alloc (cs:=#[vL none 0 0]) Tryd.zeroValue24 rfl) ?_
  rintro w19 _ hE11 ⟨b7,rfl,ge4,hb4⟩
  have HS19:=HS18.new hE11 ge4 hb4
  refine run_st (i:=0) (cs:=[vL none 0 0]) (cs':=[vL (rowA ob2) ((0+v1.vDefs.length)+1) c3]) (vs:=[vL (rowA ob2) ((0+v1.vDefs.length)+1) c3]) (bs':=[(some b7, .cells #[vL (rowA ob2) ((0+v1.vDefs.length)+1) c3] 24 (0,0)),((some b6), .cells ([vI 2,vS ByteArray.empty,vI 0,vB false,vI 1,vI 0,vL none 0 0]).toArray 34 (0,0)),(ob2, .cells (cs2).toArray 34 (0,0)),(some b4, .cells #[vS v7.1.vName,vI v7.1.vType,vI v7.1.vAt] 36 (0,0)),((some b3), .cells ([vS (⟨#[116,95,110,97,109,101]⟩:ByteArray)]).toArray 9 (0,0)),(some b2, .cells #[vS v4.1.vName,vI v4.1.vType,vI v4.1.vAt] 36 (0,0)),(some b1, .cells #[vL Av1_0_0 v1.vDefs.length cv1_0_0] 24 (0,0))]) rfl rfl Tryd.sizeOf24 rfl rfl (by decide) rfl HS19 rfl (Nat.le_of_ble_eq_true rfl) rfl rfl ?_
  intro w20 HS20
  try simp only [sc0,sc1]
  refine run_nil<|norm_then<|wp_seq<|region<|rs (Value.agg #[vL (rowA ob2) ((0+v1.vDefs.length)+1) c3]) (r_loadBoxAgg (n:=1) (vs:=[vL (rowA ob2) ((0+v1.vDefs.length)+1) c3]) rfl Tryd.isAgg24 (HS20.look 0 rfl) Tryd.sizeOf24 rfl rfl) ?_
  have HS21:St [] h0 w0 h1 [(some b7, .cells #[vL (rowA ob2) (((([]:List api_Def)++v1.vDefs)++([(⟨2,ByteArray.empty,(⟨0,false⟩:api_Int),1,0,[]⟩:api_Def)]:List api_Def)).length) c3] 24 (0,0)),((some b6), .cells ([vI 2,vS ByteArray.empty,vI 0,vB false,vI 1,vI 0,vL none 0 0]).toArray 34 (0,0)),(ob2, .cells (cs2).toArray 34 (0,0)),(some b4, .cells #[vS v7.1.vName,vI v7.1.vType,vI v7.1.vAt] 36 (0,0)),((some b3), .cells ([vS (⟨#[116,95,110,97,109,101]⟩:ByteArray)]).toArray 9 (0,0)),(some b2, .cells #[vS v4.1.vName,vI v4.1.vType,vI v4.1.vAt] 36 (0,0)),(some b1, .cells #[vL Av1_0_0 v1.vDefs.length cv1_0_0] 24 (0,0))] w20:=HS20.cast (by first|rfl|(rw [ho5.len];done)|(rw [ho5.len];rfl))
  have ho6:=ho5.norm
  try rw [←ho5.len]
  obtain ⟨h2,HS22,hs2,rdp1⟩:=row_pub HS21 (i:=2) rfl ho6
  have HS23:St [] h0 w0 h2 [(some b7, .cells #[vL (rowA ob2) ((([]:List api_Def)++v1.vDefs)++([(⟨2,ByteArray.empty,(⟨0,false⟩:api_Int),1,0,[]⟩:api_Def)]:List api_Def)).length c3] 24 (0,0)),((some b6), .cells ([vI 2,vS ByteArray.empty,vI 0,vB false,vI 1,vI 0,vL none 0 0]).toArray 34 (0,0)),(some b4, .cells #[vS v7.1.vName,vI v7.1.vType,vI v7.1.vAt] 36 (0,0)),((some b3), .cells ([vS (⟨#[116,95,110,97,109,101]⟩:ByteArray)]).toArray 9 (0,0)),(some b2, .cells #[vS v4.1.vName,vI v4.1.vType,vI v4.1.vAt] 36 (0,0)),(some b1, .cells #[vL Av1_0_0 v1.vDefs.length cv1_0_0] 24 (0,0))] w20:=HS22
  replace hrv1_0_0:Rd k_api_Def h2 Av1_0_0 v1.vDefs:=hrv1_0_0.ext hs2
  replace ho4:=ho4.view hs2
  replace ho1:=ho1.view hs2
  obtain ⟨v8,H8,H⟩:=of_bind H
  refine run_ex rfl rfl (does_call Tryd.call28 rfl (gives_in (h:=h2) (R:=(fun hx u=>∃(Av8_0_0:Option Addr) (cv8_0_0:Nat),∃(Av8_1_0:Option Addr) (cv8_1_0:Nat),u=Value.tuple #[Value.agg #[vL Av8_0_0 v8.1.vDefs.length cv8_0_0],vL Av8_1_0 v8.2.1.length cv8_1_0,vI v8.2.2]∧v8.1.vDefs.length≤cv8_0_0∧Rd k_api_Def hx Av8_0_0 v8.1.vDefs∧v8.2.1.length≤cv8_1_0∧Rd (Kd.int .i64) hx Av8_1_0 v8.2.1)) (Ext.rfl' w20) ((ctf_Unique.calls k (⟨((([]:List api_Def)++v1.vDefs)++([(⟨2,ByteArray.empty,(⟨0,false⟩:api_Int),1,0,[]⟩:api_Def)]:List api_Def))⟩:api_Types) (rowA ob2) c3 HS23.sees (ht.s HS23) rdp1 ho6.cap H8).mono ?_)) rfl) ?_
  ·rintro _ _ ⟨h1,Av8_0_0,cv8_0_0,Av8_1_0,cv8_1_0,rfl,hcv8_0_0,hrv8_0_0,hcv8_1_0,hrv8_1_0,g,ss,x⟩
   exact ⟨h1,_,rfl,⟨Av8_0_0,cv8_0_0,Av8_1_0,cv8_1_0,rfl,hcv8_0_0,hrv8_0_0,hcv8_1_0,hrv8_1_0⟩,g,ss,x⟩
  rintro w21 _ hE12 ⟨h3,⟨Av8_0_0,cv8_0_0,Av8_1_0,cv8_1_0,rfl,hcv8_0_0,hrv8_0_0,hcv8_1_0,hrv8_1_0⟩,gr2,se3⟩
  have HS24:=HS23.view hE12 gr2 se3
  replace hrv1_0_0:Rd k_api_Def h3 Av1_0_0 v1.vDefs:=hrv1_0_0.ext gr2.1
  replace rdp1:Rd k_api_Def h3 (rowA ob2) ((([]:List api_Def)++v1.vDefs)++([(⟨2,ByteArray.empty,(⟨0,false⟩:api_Int),1,0,[]⟩:api_Def)]:List api_Def)):=rdp1.ext gr2.1
  replace ho4:=ho4.view gr2.1
  replace ho1:=ho1.view gr2.1
  refine rs (Value.tuple #[Value.agg #[vL Av8_0_0 v8.1.vDefs.length cv8_0_0],vL Av8_1_0 v8.2.1.length cv8_1_0,vI v8.2.2]) (r_move rfl)<|rs (Value.agg #[vL Av8_0_0 v8.1.vDefs.length cv8_0_0]) (r_extract rfl rfl)<|run_frame (by simp only [sc0,sc1];rfl) ?_
  refine rs (vL Av8_1_0 v8.2.1.length cv8_1_0) (r_extract rfl rfl)<|rs (vI v8.2.2) (r_extract rfl rfl)<|run_ex rfl rfl (does_alloc (cs:=#[vL none 0 0]) Tryd.zeroValue24 rfl) ?_
  rintro w22 _ hE13 ⟨b8,rfl,ge5,hb5⟩
  have HS25:=HS24.new hE13 ge5 hb5
  refine run_st (i:=0) (cs:=[vL none 0 0]) (cs':=[vL Av8_0_0 v8.1.vDefs.length cv8_0_0]) (vs:=[vL Av8_0_0 v8.1.vDefs.length cv8_0_0]) (bs':=[(some b8, .cells #[vL Av8_0_0 v8.1.vDefs.length cv8_0_0] 24 (0,0)),(some b7, .cells #[vL (rowA ob2) ((([]:List api_Def)++v1.vDefs)++([(⟨2,ByteArray.empty,(⟨0,false⟩:api_Int),1,0,[]⟩:api_Def)]:List api_Def)).length c3] 24 (0,0)),((some b6), .cells ([vI 2,vS ByteArray.empty,vI 0,vB false,vI 1,vI 0,vL none 0 0]).toArray 34 (0,0)),(some b4, .cells #[vS v7.1.vName,vI v7.1.vType,vI v7.1.vAt] 36 (0,0)),((some b3), .cells ([vS (⟨#[116,95,110,97,109,101]⟩:ByteArray)]).toArray 9 (0,0)),(some b2, .cells #[vS v4.1.vName,vI v4.1.vType,vI v4.1.vAt] 36 (0,0)),(some b1, .cells #[vL Av1_0_0 v1.vDefs.length cv1_0_0] 24 (0,0))]) rfl rfl Tryd.sizeOf24 rfl rfl (by decide) rfl HS25 rfl (Nat.le_of_ble_eq_true rfl) rfl rfl ?_
  intro w23 HS26
  refine run_frame (by simp only [sc0,sc1];rfl) ?_
  refine rs (vL Av8_1_0 v8.2.1.length cv8_1_0) (r_assign rfl)<|rs (vI v8.2.2) (r_assign rfl) ?_
  try simp only [sc0,sc1]
  refine run_nil<|norm_then<|wp_seq<|region<|rs (Value.agg #[vL none 0 0]) (r_build0 (cs:=[vL none 0 0]) Tryd.zeroValue24 Tryd.runUnderlying24 (pl:=#[(0,1)]) (fun w=>by simp [Tryd.sizeOf22]) rfl) ?_
  obtain ⟨v9,H9,H⟩:=of_bind H
  refine run_ex rfl rfl (does_call Tryd.call37 rfl (gives_in (h:=h3) (R:=(fun hx u=>∃(Av9_0_0:Option Addr) (cv9_0_0:Nat),u=Value.tuple #[vL Av9_0_0 v9.1.length cv9_0_0,vI v9.2]∧v9.1.length≤cv9_0_0∧Rd (Kd.int .u8) hx Av9_0_0 v9.1)) (Ext.rfl' w23) ((ctf_Encode.calls k (⟨[]⟩:api_Types) none 0 HS26.sees (Rd.nil _ _ _) (Nat.le_refl 0) H9).mono ?_)) rfl) ?_
  ·rintro _ _ ⟨h1,Av9_0_0,cv9_0_0,rfl,hcv9_0_0,hrv9_0_0,g,ss,x⟩
   exact ⟨h1,_,rfl,⟨Av9_0_0,cv9_0_0,rfl,hcv9_0_0,hrv9_0_0⟩,g,ss,x⟩
  rintro w24 _ hE14 ⟨h4,⟨Av9_0_0,cv9_0_0,rfl,hcv9_0_0,hrv9_0_0⟩,gr3,se4⟩
  have HS27:=HS26.view hE14 gr3 se4
  replace hrv1_0_0:Rd k_api_Def h4 Av1_0_0 v1.vDefs:=hrv1_0_0.ext gr3.1
  replace rdp1:Rd k_api_Def h4 (rowA ob2) ((([]:List api_Def)++v1.vDefs)++([(⟨2,ByteArray.empty,(⟨0,false⟩:api_Int),1,0,[]⟩:api_Def)]:List api_Def)):=rdp1.ext gr3.1
  replace hrv8_0_0:Rd k_api_Def h4 Av8_0_0 v8.1.vDefs:=hrv8_0_0.ext gr3.1
  replace hrv8_1_0:Rd (Kd.int .i64) h4 Av8_1_0 v8.2.1:=hrv8_1_0.ext gr3.1
  replace ho4:=ho4.view gr3.1
  replace ho1:=ho1.view gr3.1
  refine rs (Value.tuple #[vL Av9_0_0 v9.1.length cv9_0_0,vI v9.2]) (r_move rfl)<|rs (vL Av9_0_0 v9.1.length cv9_0_0) (r_extract rfl rfl)<|run_frame (by simp only [sc0,sc1];rfl) ?_
  refine rs (vI v9.2) (r_extract rfl rfl)<|rs (vL Av9_0_0 v9.1.length cv9_0_0) (r_assign rfl)<|rs (vI v9.2) (r_assign rfl) ?_
  try simp only [sc0,sc1]
  refine run_nil<|norm_then<|wp_seq<|region<|rs (vI v7.2) (r_move rfl)<|rs (vB (v7.2==5)) (r_bin rfl rfl rfl)<|rs (vB (v7.2==5)) (r_move rfl)<|rgs (v7.2==5) true (vI v8.2.2) rfl rfl rfl rfl (fun hg=>(r_move rfl))<|run_frame (by simp only [sc0,sc1];rfl) ?_
  refine rgs (v7.2==5) true (vB (v8.2.2==0)) rfl rfl rfl rfl (fun hg=>(r_bin (gvt (vI v8.2.2) hg rfl) rfl rfl))<|rs (vB ((v7.2==5)&&(v8.2.2==0))) (r_pick_and rfl (fun hp=>(gvt (vB (v8.2.2==0)) (and_i rfl hp) rfl)) rfl)<|rs (vB ((v7.2==5)&&(v8.2.2==0))) (r_move rfl)<|rgs ((v7.2==5)&&(v8.2.2==0)) true (Value.agg #[vL Av8_0_0 v8.1.vDefs.length cv8_0_0]) rfl rfl rfl rfl (fun hg=>(r_loadBoxAgg (n:=1) (vs:=[vL Av8_0_0 v8.1.vDefs.length cv8_0_0]) rfl Tryd.isAgg24 (HS27.look 0 rfl) Tryd.sizeOf24 rfl rfl))<|run_frame (by simp only [sc0,sc1];rfl) ?_
  refine rgs ((v7.2==5)&&(v8.2.2==0)) true (Value.agg #[vL Av1_0_0 v1.vDefs.length cv1_0_0]) rfl rfl rfl rfl (fun hg=>(r_loadBoxAgg (n:=1) (vs:=[vL Av1_0_0 v1.vDefs.length cv1_0_0]) rfl Tryd.isAgg24 (HS27.look 6 rfl) Tryd.sizeOf24 rfl rfl)) ?_
  obtain ⟨v10,H10,H⟩:=of_bind H
  refine run_g (b:=((v7.2==5)&&(v8.2.2==0))) (c:=true) (v:=vB v10) rfl rfl rfl rfl (fun hg=>(does_call_eq Tryd.call30 rfl (map2 (gvt (Value.agg #[vL Av8_0_0 v8.1.vDefs.length cv8_0_0]) hg rfl) (gvt (Value.agg #[vL Av1_0_0 v1.vDefs.length cv1_0_0]) hg rfl)) (taplineref08_Same.calls k v8.1 v1 Av8_0_0 cv8_0_0 Av1_0_0 cv1_0_0 HS27.sees hrv8_0_0 hcv8_0_0 hrv1_0_0 hcv1_0_0 (of_pos H10 hg)))) ?_
  intro w25 hE15
  have HS28:=HS27.step hE15
  refine rs (vB (((v7.2==5)&&(v8.2.2==0))&&v10)) (r_pick_and rfl (fun hp=>(gvt (vB v10) (and_i rfl hp) rfl)) rfl)<|rs (vB (((v7.2==5)&&(v8.2.2==0))&&v10)) (r_move rfl)<|run_frame (by simp only [sc0,sc1];rfl) ?_
  refine rgs (((v7.2==5)&&(v8.2.2==0))&&v10) true (vL Av8_1_0 v8.2.1.length cv8_1_0) rfl rfl rfl rfl (fun hg=>(r_move rfl))<|run_gbs (b:=(((v7.2==5)&&(v8.2.2==0))&&v10)) (c:=true) (Kd.int .i64) (xs:=([0,1,2,3,4,2]:List Int)) (n:=6) (cs:=[vI 0,vI 1,vI 2,vI 3,vI 4,vI 2]) rfl rfl Tryd.runUnderlying62 Tryd.typeInfo3 Tryd.zeroValue3 rfl rfl (by decide) (by decide) (by decide) [vI 0,vI 1,vI 2,vI 3,vI 4,vI 2] (fun _=>parts_any.trans rfl) rfl rfl rfl rfl (elems_cons (qs:=[vI 0]) rfl (elems_cons (qs:=[vI 1]) rfl (elems_cons (qs:=[vI 2]) rfl (elems_cons (qs:=[vI 3]) rfl (elems_cons (qs:=[vI 4]) rfl (elems_cons (qs:=[vI 2]) rfl (elems_nil (cs:=[])))))))) HS28 ?_
  intro w26 h5 Ag1 HS29 hs3 hq1
  replace hrv1_0_0:Rd k_api_Def h5 Av1_0_0 v1.vDefs:=hrv1_0_0.ext (And.intro hs3 trivial).1
  replace rdp1:Rd k_api_Def h5 (rowA ob2) ((([]:List api_Def)++v1.vDefs)++([(⟨2,ByteArray.empty,(⟨0,false⟩:api_Int),1,0,[]⟩:api_Def)]:List api_Def)):=rdp1.ext (And.intro hs3 trivial).1
  replace hrv8_0_0:Rd k_api_Def h5 Av8_0_0 v8.1.vDefs:=hrv8_0_0.ext (And.intro hs3 trivial).1
  replace hrv8_1_0:Rd (Kd.int .i64) h5 Av8_1_0 v8.2.1:=hrv8_1_0.ext (And.intro hs3 trivial).1
  replace hrv9_0_0:Rd (Kd.int .u8) h5 Av9_0_0 v9.1:=hrv9_0_0.ext (And.intro hs3 trivial).1
  replace ho4:=ho4.view (And.intro hs3 trivial).1
  replace ho1:=ho1.view (And.intro hs3 trivial).1
  obtain ⟨v11,H11,H⟩:=of_bind H
  refine run_g (b:=(((v7.2==5)&&(v8.2.2==0))&&v10)) (c:=true) (v:=vB v11) rfl rfl rfl rfl (fun hg=>(does_call_eq Tryd.call35 rfl (map2 (gvt (vL Av8_1_0 v8.2.1.length cv8_1_0) hg rfl) (gvt (vL Ag1 ([0,1,2,3,4,2]:List Int).length 6) hg rfl)) (taplineref08_SameInts.calls k v8.2.1 ([0,1,2,3,4,2]:List Int) Av8_1_0 cv8_1_0 Ag1 6 HS29.sees hrv8_1_0 hcv8_1_0 ((hq1 hg)) ((Nat.le_refl _)) (of_pos H11 hg)))) ?_
  intro w27 hE16
  have HS30:=HS29.step hE16
  refine rs (vB ((((v7.2==5)&&(v8.2.2==0))&&v10)&&v11)) (r_pick_and rfl (fun hp=>(gvt (vB v11) (and_i rfl hp) rfl)) rfl)<|run_frame (by simp only [sc0,sc1];rfl) ?_
  refine rs (vB ((((v7.2==5)&&(v8.2.2==0))&&v10)&&v11)) (r_move rfl)<|rgs ((((v7.2==5)&&(v8.2.2==0))&&v10)&&v11) true (vI v9.2) rfl rfl rfl rfl (fun hg=>(r_move rfl))<|rgs ((((v7.2==5)&&(v8.2.2==0))&&v10)&&v11) true (vB (v9.2==0)) rfl rfl rfl rfl (fun hg=>(r_bin (gvt (vI v9.2) hg rfl) rfl rfl))<|rs (vB (((((v7.2==5)&&(v8.2.2==0))&&v10)&&v11)&&(v9.2==0))) (r_pick_and rfl (fun hp=>(gvt (vB (v9.2==0)) (and_i rfl hp) rfl)) rfl)<|run_frame (by simp only [sc0,sc1];rfl) ?_
  refine rs (vB (((((v7.2==5)&&(v8.2.2==0))&&v10)&&v11)&&(v9.2==0))) (r_move rfl)<|rgs (((((v7.2==5)&&(v8.2.2==0))&&v10)&&v11)&&(v9.2==0)) true (vL Av9_0_0 v9.1.length cv9_0_0) rfl rfl rfl rfl (fun hg=>(r_move rfl))<|rgs (((((v7.2==5)&&(v8.2.2==0))&&v10)&&v11)&&(v9.2==0)) true (vS (strOf v9.1)) rfl rfl rfl rfl (fun hg=>(r_b2s (gvt (vL Av9_0_0 v9.1.length cv9_0_0) hg rfl) Tryd.runUnderlying80 Tryd.runUnderlying9 Tryd.runUnderlying5 HS30.sees hrv9_0_0))<|rgs (((((v7.2==5)&&(v8.2.2==0))&&v10)&&v11)&&(v9.2==0)) true (vB (strEq (strOf v9.1) (⟨#[67,84,70,1,0]⟩:ByteArray))) rfl rfl rfl rfl (fun hg=>(r_streql (gvt (vS (strOf v9.1)) hg rfl) rfl))<|run_frame (by simp only [sc0,sc1];rfl) ?_
  refine rs (vB ((((((v7.2==5)&&(v8.2.2==0))&&v10)&&v11)&&(v9.2==0))&&(strEq (strOf v9.1) (⟨#[67,84,70,1,0]⟩:ByteArray)))) (r_pick_and rfl (fun hp=>(gvt (vB (strEq (strOf v9.1) (⟨#[67,84,70,1,0]⟩:ByteArray))) (and_i rfl hp) rfl)) rfl)<|rs (vB ((((((v7.2==5)&&(v8.2.2==0))&&v10)&&v11)&&(v9.2==0))&&(strEq (strOf v9.1) (⟨#[67,84,70,1,0]⟩:ByteArray)))) (r_assign rfl) ?_
  try simp only [sc0,sc1]
  refine run_nil<|norm_then<|wp_ret ?_
  obtain rfl:=Option.some.inj H
  exact bodyPost_ret (results_1 rfl (one_tmp rfl)) rfl<|⟨rfl,HS30.toE⟩
end Go.Proofs.YtfjppgobidjndaaDoor
/-ctf.Decode's deferred function:it leaves what is returned as it is;it recovers from what is malformed. -/
namespace Go.Proofs.YtfjppgobidjndaaDoor
open Go.RowKit Go.M
/-- what the readers panic with -/
def bad:Value:= .iface 120 (.agg #[])
def badB:Value→Bool
 | .iface 120 (.agg ⟨[]⟩)=>true
 |_=>false
theorem bad_of {v:Value} (h:badB v=true):v=bad:=by
 unfold badB at h
 split at h
 ·rfl
 ·cases h
section
variable {M:List Nat} {h0 h:View} {w0 w:World} {bs rest:List Res}
set_option maxRecDepth 20000
set_option maxHeartbeats 4000000
theorem decode1_quiet (x y:Value) (HS:St M h0 w0 h bs w):CallsD Tryd.prog 71 [x,y].toArray .returning w (fun e u' w'=>(∃v,e= .returned v)∧u'= .returning∧St M h0 w0 h bs w'):=by
 refine callsD_of_wpS Tryd.func71 rfl ?_
 simp only [Tryd.ntmps71,List.size_toArray,List.length_cons,List.length_nil,Nat.reduceAdd,Nat.reduceSub,Array.replicate_succ,Array.replicate_zero,List.push_toArray,List.append_toArray,List.nil_append,List.cons_append]
 intro c₀ cs hm
 refine wpS_seq<|recover_none (Nat.le_of_ble_eq_true rfl) (by simp [recoverD,hm]) ?_
 simp only [sc0,sc1]
 refine wpS_of_wp<|wp_seq<|region<|rs Value.nilIface (r_move rfl)<|rs (vB false) rfl ?_
 try simp only [sc0,sc1]
 refine run_nil<|norm_then<|wp_cond_false rfl<|wp_skip<|⟨rfl, .returning,?_,_,results_none rfl _ _ _,⟨_,rfl⟩,rfl,HS⟩
 rw [←hm]
theorem decode1_caught {b2 b3:Nat} {cs2 cs3:List Value} (HS:St M h0 w0 h ((some b2, .cells cs2.toArray 24 (0,0))::(some b3, .cells cs3.toArray 27 (0,0))::rest) w) (e2:cs2.length=1) (e3:cs3.length=1):
  CallsD Tryd.prog 71 [vP b2 0,vP b3 0].toArray (.panicking [{v:=bad,recovered:=false}]) w (fun e u' w'=>(∃v,e= .returned v)∧u'= .panicking [{v:=bad,recovered:=true}]∧St M h0 w0 h ((some b2, .cells #[vL none 0 0] 24 (0,0))::(some b3, .cells #[vI 81] 27 (0,0))::rest) w'):=by
 refine callsD_of_wpS Tryd.func71 rfl ?_
 simp only [Tryd.ntmps71,List.size_toArray,List.length_cons,List.length_nil,Nat.reduceAdd,Nat.reduceSub,Array.replicate_succ,Array.replicate_zero,List.push_toArray,List.append_toArray,List.nil_append,List.cons_append]
 intro c₀ cs hm
 refine wpS_seq<|recover_some (v:=bad) (cs':={c₀ with mode:= .panicking [{v:=bad,recovered:=true}]}::cs) (Nat.le_of_ble_eq_true rfl) (by simp [recoverD,hm]) ?_
 simp only [sc0,sc1]
 refine wpS_of_wp<|wp_seq<|region<|rs bad (r_move rfl)<|rs (vB true) rfl ?_
 try simp only [sc0,sc1]
 refine run_nil<|norm_then<|wp_cond_true rfl<|wp_seq<|wp_seq<|region<|rs bad (r_move rfl)<|rs (Value.tuple #[.agg #[], .bool true]) (by kernel_rfl) ?_
 refine rs (Value.tuple #[.agg #[], .bool true]) (r_move rfl)<|rs (Value.agg #[]) (by kernel_rfl) ?_
 refine run_frame (by simp only [sc0,sc1];rfl) ?_
 refine rs (vB true) (by kernel_rfl) ?_
 refine run_ex rfl rfl (does_alloc (cs:=#[]) Tryd.zeroValue120 rfl) ?_
 rintro w1 _ hE1 ⟨b4,rfl,ge1,hb1⟩
 have HS1:=HS.step hE1
 refine run_st0 rfl rfl Tryd.sizeOf120<|rs (vB true) (r_assign rfl) ?_
 try simp only [sc0,sc1]
 refine run_nil<|norm_then<|wp_seq<|region<|rs (vB true) (r_move rfl)<|rs (vB false) (by kernel_rfl) ?_
 try simp only [sc0,sc1]
 refine run_nil<|norm_then<|wp_cond_false rfl<|wp_skip<|norm_then<|region<|rs (Value.agg #[vL none 0 0]) (by kernel_rfl) ?_
 refine run_st (i:=0) (cs:=cs2) (cs':=[vL none 0 0]) (vs:=[vL none 0 0]) (bs':=(some b2, .cells #[vL none 0 0] 24 (0,0))::(some b3, .cells cs3.toArray 27 (0,0))::rest) rfl rfl Tryd.sizeOf24 rfl rfl (by decide) rfl HS1 rfl (by rw [e2];decide) ?_ rfl ?_
 ·obtain ⟨c,rfl⟩:∃c,cs2=[c]:=by
   match cs2,e2 with
   |[c],_=>exact ⟨c,rfl⟩
  rfl
 intro w2 HS2
 refine run_st (i:=1) (cs:=cs3) (cs':=[vI 81]) (vs:=[vI 81]) (bs':=(some b2, .cells #[vL none 0 0] 24 (0,0))::(some b3, .cells #[vI 81] 27 (0,0))::rest) rfl rfl Tryd.sizeOf27 rfl rfl (by decide) rfl HS2 rfl (by rw [e3];decide) ?_ rfl ?_
 ·obtain ⟨c,rfl⟩:∃c,cs3=[c]:=by
   match cs3,e3 with
   |[c],_=>exact ⟨c,rfl⟩
  rfl
 intro w3 HS3
 try simp only [sc0,sc1]
 refine run_nil<|⟨rfl, .panicking [{v:=bad,recovered:=true}],rfl,_,results_none rfl _ _ _,⟨_,rfl⟩,rfl,HS3⟩
end
end Go.Proofs.YtfjppgobidjndaaDoor
namespace Go.Proofs.YtfjppgobidjndaaDoor
open Go.RowKit Go.M
def ctf_bytesLeft_take.f (p0:List Int) (a1:Int):Option (Except Value ((List Int)×(List Int))):=if ((decide (a1<0))||(decide (a1>(p0.length:Int))))=true then (some (.error (Value.iface 120 (Value.agg #[])))) else (if 0≤a1∧a1≤(p0.length:Int) then (if 0≤a1∧a1≤(p0.length:Int) then (some (.ok ((List.take a1.toNat p0),(List.drop a1.toNat p0)))) else none) else none)
theorem ctf_bytesLeft_take.calls (p0:List Int) (a1:Int) (bp0:Nat) (Ap0:Option Addr) (cp0:Nat) {h0:View} {w0:World} {h:View} {w:World} {rest:List Res} (HS:St [] h0 w0 h ((some bp0, .cells #[vL Ap0 p0.length cp0] 126 (0,0))::rest) w) (hrp0:Rd (Kd.int .u8) h Ap0 p0) (hcp0:p0.length≤cp0) {r:Except Value ((List Int)×(List Int))} (H:ctf_bytesLeft_take.f p0 a1=some r):Calls Tryd.prog 72 #[vP bp0 0,vI a1] w (fun e w1=>match r with| .ok rok=>(∃(Az_r0_0:Option Addr) (cz_r0_0:Nat),∃(Az_p0:Option Addr) (cz_p0:Nat),e= .returned (vL Az_r0_0 rok.1.length cz_r0_0)∧rok.1.length≤cz_r0_0∧Rd (Kd.int .u8) h Az_r0_0 rok.1∧rok.2.length≤cz_p0∧Rd (Kd.int .u8) h Az_p0 rok.2∧St [] h0 w0 h ((some bp0, .cells #[vL Az_p0 rok.2.length cz_p0] 126 (0,0))::rest) w1)| .error pv=>(∃(csp0:List Value),e= .panicked [{v:=pv,recovered:=false}]∧St [] h0 w0 h ((some bp0, .cells csp0.toArray 126 (0,0))::rest) w1)):=by
 unfold ctf_bytesLeft_take.f at H
 have hsub:Sub h h:=Sub.rfl' h
 go_enter Tryd.func72,Tryd.ntmps72
 refine wp_seq<|region<|rs (vL none 0 0) (r_assign rfl) ?_
 try simp only [sc0,sc1]
 refine run_nil<|norm_then<|wp_seq<|wp_seq<|region<|rs (vI a1) (r_move rfl)<|rs (vB (decide (a1<0))) (r_bin rfl rfl rfl)<|rs (vB (decide (a1<0))) (r_move rfl)<|rgs (decide (a1<0)) true (vI a1) rfl rfl rfl rfl (fun hg=>(r_move rfl))<|run_frame (by simp only [sc0,sc1];rfl) ?_
 refine rgs (decide (a1<0)) true (vP bp0 0) rfl rfl rfl rfl (fun hg=>(r_move rfl))<|rgs (decide (a1<0)) true (vP bp0 0) rfl rfl rfl rfl (fun hg=>(r_nilCheck (gvt (vP bp0 0) hg rfl)))<|rgs (decide (a1<0)) true (vP bp0 0) rfl rfl rfl rfl (fun hg=>(r_fieldBox (n:=1) (o':=0) (gvt (vP bp0 0) hg rfl) Tryd.runUnderlying124 rfl Tryd.sizeOf80 (by decide) rfl))<|rgs (decide (a1<0)) true (vL Ap0 p0.length cp0) rfl rfl rfl rfl (fun hg=>(r_loadBox (gvt (vP bp0 0) hg rfl) Tryd.isAgg80 (HS.look 0 rfl) rfl))<|run_frame (by simp only [sc0,sc1];rfl) ?_
 refine rgs (decide (a1<0)) true (vI (p0.length:Int)) rfl rfl rfl rfl (fun hg=>(r_len (gvt (vL Ap0 p0.length cp0) hg rfl) Tryd.runUnderlying80))<|rgs (decide (a1<0)) true (vB (decide (a1>(p0.length:Int)))) rfl rfl rfl rfl (fun hg=>(r_bin (gvt (vI a1) hg rfl) (gvt (vI (p0.length:Int)) hg rfl) rfl))<|rs (vB ((decide (a1<0))||(decide (a1>(p0.length:Int))))) (r_pick_or rfl rfl (fun hp=>(gvt (vB (decide (a1>(p0.length:Int)))) (and_i rfl hp) rfl))) ?_
 try simp only [sc0,sc1]
 refine run_nil<|norm_then<|wp_cond_split (t:=((decide (a1<0))||(decide (a1>(p0.length:Int))))) rfl (fun c1=>?_) (fun c1=>?_)
 ·replace H:=of_pos H c1
  refine region<|rs (Value.agg #[]) (r_build0 (cs:=[]) Tryd.zeroValue120 Tryd.runUnderlying120 (pl:=#[]) (fun w=>by simp []) rfl) ?_
  refine rs (Value.iface 120 (Value.agg #[])) (r_iface rfl Tryd.runUnderlying120 (by intro m hm;cases hm)) ?_
  refine run_panic rfl<|panic_then ?_
  obtain rfl:=Option.some.inj H
  exact bodyPost_panic rfl<|⟨[vL Ap0 p0.length cp0],rfl,HS⟩
 ·replace H:=of_neg H (nt c1)
  refine wp_skip<|norm_then<|wp_seq<|region<|rs (vP bp0 0) (r_move rfl)<|rs (vP bp0 0) (r_nilCheck rfl)<|rs (vP bp0 0) (r_fieldBox (n:=1) (o':=0) rfl Tryd.runUnderlying124 rfl Tryd.sizeOf80 (by decide) rfl)<|rs (vL Ap0 p0.length cp0) (r_loadBox rfl Tryd.isAgg80 (HS.look 0 rfl) rfl)<|run_frame (by simp only [sc0,sc1];rfl) ?_
  refine rs (vI a1) (r_move rfl) ?_
  obtain ⟨hk1,H⟩:=of_ite H
  obtain ⟨hp1_r,hp1_c⟩:=Rd.partHi hrp0 hcp0 hk1
  refine rs (vL (partA Ap0 cp0 0 1) (List.take a1.toNat p0).length cp0) (r_partHi rfl hcp0 Tryd.runUnderlying80 Tryd.sizeOf5 rfl hk1)<|rs (vL (partA Ap0 cp0 0 1) (List.take a1.toNat p0).length cp0) (r_assign rfl) ?_
  try simp only [sc0,sc1]
  refine run_nil<|norm_then<|wp_seq<|region<|rs (vP bp0 0) (r_move rfl)<|rs (vP bp0 0) (r_move rfl)<|rs (vP bp0 0) (r_nilCheck rfl)<|rs (vP bp0 0) (r_fieldBox (n:=1) (o':=0) rfl Tryd.runUnderlying124 rfl Tryd.sizeOf80 (by decide) rfl)<|run_frame (by simp only [sc0,sc1];rfl) ?_
  refine rs (vL Ap0 p0.length cp0) (r_loadBox rfl Tryd.isAgg80 (HS.look 0 rfl) rfl)<|rs (vI a1) (r_move rfl) ?_
  obtain ⟨hk2,H⟩:=of_ite H
  obtain ⟨hp2_r,hp2_c⟩:=Rd.partLo hrp0 hcp0 hk2
  refine rs (vL (partA Ap0 cp0 a1.toNat 1) (List.drop a1.toNat p0).length (cp0-a1.toNat)) (r_partLo rfl hcp0 Tryd.runUnderlying80 Tryd.sizeOf5 rfl hk2)<|rs (vP bp0 0) (r_nilCheck rfl)<|run_frame (by simp only [sc0,sc1];rfl) ?_
  refine rs (vP bp0 0) (r_fieldBox (n:=1) (o':=0) rfl Tryd.runUnderlying124 rfl Tryd.sizeOf80 (by decide) rfl)<|run_st (i:=0) (cs:=[vL Ap0 p0.length cp0]) (cs':=[vL (partA Ap0 cp0 a1.toNat 1) (List.drop a1.toNat p0).length (cp0-a1.toNat)]) (vs:=[vL (partA Ap0 cp0 a1.toNat 1) (List.drop a1.toNat p0).length (cp0-a1.toNat)]) (bs':=((some bp0, .cells #[vL (partA Ap0 cp0 a1.toNat 1) (List.drop a1.toNat p0).length (cp0-a1.toNat)] 126 (0,0))::rest)) rfl rfl Tryd.sizeOf80 rfl rfl (by decide) rfl HS rfl (Nat.le_of_ble_eq_true rfl) rfl rfl ?_
  intro w1 HS1
  try simp only [sc0,sc1]
  refine run_nil<|norm_then<|wp_seq<|region<|rs (vL (partA Ap0 cp0 0 1) (List.take a1.toNat p0).length cp0) (r_move rfl)<|rs (vL (partA Ap0 cp0 0 1) (List.take a1.toNat p0).length cp0) (r_assign rfl) ?_
  try simp only [sc0,sc1]
  refine run_nil<|norm_then<|wp_ret ?_
  obtain rfl:=Option.some.inj H
  exact bodyPost_ret (results_1 rfl (one_tmp rfl)) rfl<|⟨(partA Ap0 cp0 0 1),cp0,(partA Ap0 cp0 a1.toNat 1),(cp0-a1.toNat),rfl,hp1_c,hp1_r,hp2_c,hp2_r,HS1⟩
def ctf_reader_int.l0:Nat→Int→Int→(List Int)→Option ((Except Value (Int×(List Int)))⊕(Int×(List Int)))
 |0,_,_,_=>none
 |m+1,y1_0,y1_1,y1_2=>(ctf_bytesLeft_take.f y1_2 1).bind fun v1=>(match v1 with| .error pv1=>some (.inl (.error pv1))| .ok v1o=>(if 0≤(0:Int)∧(0:Int)<v1o.1.length then (if ((y1_1==9)&&(decide ((rd 0 v1o.1 (0:Int))>1)))=true then (some (.inl (.error (Value.iface 120 (Value.agg #[]))))) else (if 0≤(IntKind.wrap .i64 (7*y1_1)) then (if (decide ((rd 0 v1o.1 (0:Int))<128))=true then (if (((rd 0 v1o.1 (0:Int))==0)&&(decide ((IntKind.wrap .i64 (y1_1+1))>1)))=true then (some (.inl (.error (Value.iface 120 (Value.agg #[]))))) else (some (.inr ((iOr .u64 y1_0 (iShl .u64 (IntKind.wrap .u64 (iAnd .u8 (rd 0 v1o.1 (0:Int)) 127)) (IntKind.wrap .i64 (7*y1_1)))),v1o.2)))) else (ctf_reader_int.l0 m (iOr .u64 y1_0 (iShl .u64 (IntKind.wrap .u64 (iAnd .u8 (rd 0 v1o.1 (0:Int)) 127)) (IntKind.wrap .i64 (7*y1_1)))) (IntKind.wrap .i64 (y1_1+1)) v1o.2)) else none)) else none))
def ctf_reader_int.f (k:Nat) (p0:List Int):Option (Except Value (Int×(List Int))):=(ctf_reader_int.l0 k 0 0 p0).bind fun xx1=>(match xx1 with| .inl r=>some r| .inr s1=>if ((iAnd .u64 s1.1 1)==1)=true then (some (.ok ((iNot .i64 (IntKind.wrap .i64 (iShr .u64 s1.1 1))),s1.2))) else (some (.ok ((IntKind.wrap .i64 (iShr .u64 s1.1 1)),s1.2))))
theorem ctf_reader_int.calls (k:Nat) (p0:List Int) (bp0:Nat) (Ap0:Option Addr) (cp0:Nat) {h0:View} {w0:World} {h:View} {w:World} {rest:List Res} (HS:St [] h0 w0 h ((some bp0, .cells #[vL Ap0 p0.length cp0] 126 (0,0))::rest) w) (hrp0:Rd (Kd.int .u8) h Ap0 p0) (hcp0:p0.length≤cp0) {r:Except Value (Int×(List Int))} (H:ctf_reader_int.f k p0=some r):Calls Tryd.prog 110 #[vP bp0 0] w (fun e w1=>match r with| .ok rok=>(∃(Az_p0:Option Addr) (cz_p0:Nat),e= .returned (vI rok.1)∧rok.2.length≤cz_p0∧Rd (Kd.int .u8) h Az_p0 rok.2∧St [] h0 w0 h ((some bp0, .cells #[vL Az_p0 rok.2.length cz_p0] 126 (0,0))::rest) w1)| .error pv=>(∃(csp0:List Value),e= .panicked [{v:=pv,recovered:=false}]∧St [] h0 w0 h ((some bp0, .cells csp0.toArray 126 (0,0))::rest) w1)):=by
 unfold ctf_reader_int.f at H
 have hsub:Sub h h:=Sub.rfl' h
 go_enter Tryd.func110,Tryd.ntmps110
 refine wp_seq<|region<|rs (vI 0) (r_assign rfl) ?_
 try simp only [sc0,sc1]
 refine run_nil<|norm_then<|wp_seq<|region<|rs (Value.int .u64 0) (r_assign rfl)<|rs (vI 0) (r_assign rfl) ?_
 try simp only [sc0,sc1]
 refine run_nil<|norm_then<|wp_seq ?_
 obtain ⟨xx1,H,G1⟩:=of_bind H
 refine loop_j [3,4,5,7,8,9,10,11,12,13,14,15,16,17,18,19,20,21,22,23,24,25,26,27,28,29,30,31,32,33,34,35,36,37,38,39,40] (fun m us w'=>∃y1_0 y1_1:Int,∃y1_2:List Int,∃(Ay1_2:Option Addr) (cy1_2:Nat),Fit us (fun uy1=>[Value.int .u64 y1_0,vI y1_1,(uy1 2),(uy1 3),(uy1 4),(uy1 5),(uy1 6),(uy1 7),(uy1 8),(uy1 9),(uy1 10),(uy1 11),(uy1 12),(uy1 13),(uy1 14),(uy1 15),(uy1 16),(uy1 17),(uy1 18),(uy1 19),(uy1 20),(uy1 21),(uy1 22),(uy1 23),(uy1 24),(uy1 25),(uy1 26),(uy1 27),(uy1 28),(uy1 29),(uy1 30),(uy1 31),(uy1 32),(uy1 33),(uy1 34),(uy1 35),(uy1 36)])∧ctf_reader_int.l0 m y1_0 y1_1 y1_2=some xx1∧y1_2.length≤cy1_2∧Rd (Kd.int .u8) h Ay1_2 y1_2∧St [] h0 w0 h ((some bp0, .cells #[vL Ay1_2 y1_2.length cy1_2] 126 (0,0))::rest) w') (fun us w'=>∃(s1:Int×(List Int)),xx1= .inr s1∧∃(Ao1_1:Option Addr) (co1_1:Nat),Fit us (fun uo1=>[Value.int .u64 s1.1,(uo1 1),(uo1 2),(uo1 3),(uo1 4),(uo1 5),(uo1 6),(uo1 7),(uo1 8),(uo1 9),(uo1 10),(uo1 11),(uo1 12),(uo1 13),(uo1 14),(uo1 15),(uo1 16),(uo1 17),(uo1 18),(uo1 19),(uo1 20),(uo1 21),(uo1 22),(uo1 23),(uo1 24),(uo1 25),(uo1 26),(uo1 27),(uo1 28),(uo1 29),(uo1 30),(uo1 31),(uo1 32),(uo1 33),(uo1 34),(uo1 35),(uo1 36)])∧s1.2.length≤co1_1∧Rd (Kd.int .u8) h Ao1_1 s1.2∧St [] h0 w0 h ((some bp0, .cells #[vL Ao1_1 s1.2.length co1_1] 126 (0,0))::rest) w') k ⟨0,0,p0,Ap0,cp0,(fit rfl),H,hcp0,hrp0,HS⟩ ?_ ?_
 ·rintro m us w1 ⟨y1_0,y1_1,y1_2,Ay1_2,cy1_2,huy1,H,hcy1_2,hry1_2,HS1⟩
  obtain ⟨uy1,rfl⟩:=unj huy1
  cases m with
  |zero=>exact absurd H (by simp [ctf_reader_int.l0])
  |succ m=>
   rw [ctf_reader_int.l0] at H
   try simp only [patch,sc0,sc1]
   refine wp_block<|wp_seq<|region<|rs (vP bp0 0) (r_move rfl)<|rs (vP bp0 0) (r_nilCheck rfl)<|rs (vP bp0 0) (r_fieldBox (n:=1) (o':=0) rfl Tryd.runUnderlying126 rfl Tryd.sizeOf124 (by decide) rfl) ?_
   obtain ⟨v1,H1,H⟩:=of_bind H
   rcases v1 with pv1|v1o
   ·refine run_callp (first:=[]) (vs:=[vP bp0 0,vI 1]) (caps:=[]) Tryd.call72 rfl rfl (ctf_bytesLeft_take.calls y1_2 1 bp0 Ay1_2 cy1_2 HS1 hry1_2 hcy1_2 H1) ?_
    rintro _ w2 ⟨csq1,rfl,HS2⟩
    refine .inr ⟨_,rfl,?_⟩
    refine panic_then<|panic_block<|panic_loop<|panic_then ?_
    obtain rfl:=Option.some.inj H
    obtain rfl:=Option.some.inj G1
    exact bodyPost_panic rfl<|⟨csq1,rfl,HS2⟩
   refine run_callp (first:=[]) (vs:=[vP bp0 0,vI 1]) (caps:=[]) Tryd.call72 rfl rfl (ctf_bytesLeft_take.calls y1_2 1 bp0 Ay1_2 cy1_2 HS1 hry1_2 hcy1_2 H1) ?_
   rintro _ w3 ⟨Av1o_r0_0,cv1o_r0_0,Av1o_p0,cv1o_p0,rfl,hcv1o_r0_0,hrv1o_r0_0,hcv1o_p0,hrv1o_p0,HS3⟩
   refine .inl ⟨_,rfl,?_⟩
   refine run_frame (by simp only [sc0,sc1];rfl) ?_
   obtain ⟨hi1,H⟩:=of_ite H
   obtain ⟨ad1,e1,hel1⟩:=ld_int hrv1o_r0_0 hi1.1 hi1.2
   refine rs (Value.pointer (some (Addr.add ad1 ((0:Int).toNat*1)))) (r_indexA (sz:=1) rfl e1 rfl hi1.1 hi1.2 Tryd.runUnderlying80 Tryd.sizeOf5)<|rs (Value.int .u8 (rd 0 v1o.1 (0:Int))) (r_load rfl Tryd.isAgg5 (hel1.cell0 HS3.sees rfl))<|rs (Value.int .u8 (rd 0 v1o.1 (0:Int))) (r_assign rfl) ?_
   try simp only [sc0,sc1]
   refine run_nil<|norm_then<|wp_seq<|wp_seq<|region<|rs (vI y1_1) (r_move rfl)<|rs (vB (y1_1==9)) (r_bin rfl rfl rfl)<|rs (vB (y1_1==9)) (r_move rfl)<|rgs (y1_1==9) true (Value.int .u8 (rd 0 v1o.1 (0:Int))) rfl rfl rfl rfl (fun hg=>(r_move rfl))<|run_frame (by simp only [sc0,sc1];rfl) ?_
   refine rgs (y1_1==9) true (vB (decide ((rd 0 v1o.1 (0:Int))>1))) rfl rfl rfl rfl (fun hg=>(r_bin (gvt (Value.int .u8 (rd 0 v1o.1 (0:Int))) hg rfl) rfl rfl))<|rs (vB ((y1_1==9)&&(decide ((rd 0 v1o.1 (0:Int))>1)))) (r_pick_and rfl (fun hp=>(gvt (vB (decide ((rd 0 v1o.1 (0:Int))>1))) (and_i rfl hp) rfl)) rfl) ?_
   try simp only [sc0,sc1]
   refine run_nil<|norm_then<|wp_cond_split (t:=((y1_1==9)&&(decide ((rd 0 v1o.1 (0:Int))>1)))) rfl (fun c1=>?_) (fun c1=>?_)
   ·replace H:=of_pos H c1
    refine region<|rs (Value.agg #[]) (r_build0 (cs:=[]) Tryd.zeroValue120 Tryd.runUnderlying120 (pl:=#[]) (fun w=>by simp []) rfl) ?_
    refine rs (Value.iface 120 (Value.agg #[])) (r_iface rfl Tryd.runUnderlying120 (by intro m hm;cases hm)) ?_
    refine run_panic rfl<|panic_then<|panic_block<|panic_loop<|panic_then ?_
    obtain rfl:=Option.some.inj H
    obtain rfl:=Option.some.inj G1
    exact bodyPost_panic rfl<|⟨[vL Av1o_p0 v1o.2.length cv1o_p0],rfl,HS3⟩
   ·replace H:=of_neg H (nt c1)
    refine wp_skip<|norm_then<|wp_seq<|region<|rs (Value.int .u64 y1_0) (r_move rfl)<|rs (Value.int .u8 (rd 0 v1o.1 (0:Int))) (r_move rfl)<|rs (Value.int .u8 (iAnd .u8 (rd 0 v1o.1 (0:Int)) 127)) (r_and rfl rfl)<|rs (Value.int .u64 (IntKind.wrap .u64 (iAnd .u8 (rd 0 v1o.1 (0:Int)) 127))) (r_conv rfl Tryd.runUnderlying5 Tryd.runUnderlying168)<|run_frame (by simp only [sc0,sc1];rfl) ?_
    refine rs (vI y1_1) (r_move rfl)<|rs (vI (w64 (7*y1_1))) (r_bin rfl rfl rfl) ?_
    obtain ⟨hb1,H⟩:=of_ite H
    refine rs (Value.int .u64 (iShl .u64 (IntKind.wrap .u64 (iAnd .u8 (rd 0 v1o.1 (0:Int)) 127)) (w64 (7*y1_1)))) (r_shl rfl rfl hb1)<|rs (Value.int .u64 (iOr .u64 y1_0 (iShl .u64 (IntKind.wrap .u64 (iAnd .u8 (rd 0 v1o.1 (0:Int)) 127)) (w64 (7*y1_1))))) (r_or rfl rfl)<|run_frame (by simp only [sc0,sc1];rfl) ?_
    refine rs (Value.int .u64 (iOr .u64 y1_0 (iShl .u64 (IntKind.wrap .u64 (iAnd .u8 (rd 0 v1o.1 (0:Int)) 127)) (w64 (7*y1_1))))) (r_assign rfl) ?_
    try simp only [sc0,sc1]
    refine run_nil<|norm_then<|wp_seq<|region<|rs (vI y1_1) (r_move rfl)<|rs (vI (w64 (y1_1+1))) (r_bin rfl rfl rfl)<|rs (vI (w64 (y1_1+1))) (r_assign rfl) ?_
    try simp only [sc0,sc1]
    refine run_nil<|norm_then<|wp_seq<|region<|rs (Value.int .u8 (rd 0 v1o.1 (0:Int))) (r_move rfl)<|rs (vB (decide ((rd 0 v1o.1 (0:Int))<128))) (r_bin rfl rfl rfl) ?_
    try simp only [sc0,sc1]
    refine run_nil<|norm_then<|wp_cond_split (t:=(decide ((rd 0 v1o.1 (0:Int))<128))) rfl (fun c2=>?_) (fun c2=>?_)
    ·replace H:=of_pos H c2
     refine wp_seq<|wp_seq<|region<|rs (Value.int .u8 (rd 0 v1o.1 (0:Int))) (r_move rfl)<|rs (vB ((rd 0 v1o.1 (0:Int))==0)) (r_bin rfl rfl rfl)<|rs (vB ((rd 0 v1o.1 (0:Int))==0)) (r_move rfl)<|rgs ((rd 0 v1o.1 (0:Int))==0) true (vI (w64 (y1_1+1))) rfl rfl rfl rfl (fun hg=>(r_move rfl))<|run_frame (by simp only [sc0,sc1];rfl) ?_
     refine rgs ((rd 0 v1o.1 (0:Int))==0) true (vB (decide ((w64 (y1_1+1))>1))) rfl rfl rfl rfl (fun hg=>(r_bin (gvt (vI (w64 (y1_1+1))) hg rfl) rfl rfl))<|rs (vB (((rd 0 v1o.1 (0:Int))==0)&&(decide ((w64 (y1_1+1))>1)))) (r_pick_and rfl (fun hp=>(gvt (vB (decide ((w64 (y1_1+1))>1))) (and_i rfl hp) rfl)) rfl) ?_
     try simp only [sc0,sc1]
     refine run_nil<|norm_then<|wp_cond_split (t:=(((rd 0 v1o.1 (0:Int))==0)&&(decide ((w64 (y1_1+1))>1)))) rfl (fun c3=>?_) (fun c3=>?_)
     ·replace H:=of_pos H c3
      refine region<|rs (Value.agg #[]) (r_build0 (cs:=[]) Tryd.zeroValue120 Tryd.runUnderlying120 (pl:=#[]) (fun w=>by simp []) rfl) ?_
      refine rs (Value.iface 120 (Value.agg #[])) (r_iface rfl Tryd.runUnderlying120 (by intro m hm;cases hm)) ?_
      refine run_panic rfl<|panic_then<|panic_block<|panic_loop<|panic_then ?_
      obtain rfl:=Option.some.inj H
      obtain rfl:=Option.some.inj G1
      exact bodyPost_panic rfl<|⟨[vL Av1o_p0 v1o.2.length cv1o_p0],rfl,HS3⟩
     ·replace H:=of_neg H (nt c3)
      refine wp_skip<|norm_then<|wp_exit<|exit_block_out (by decide) ?_
      obtain rfl:=Option.some.inj H
      refine leave_j rfl ⟨_,rfl,Av1o_p0,cv1o_p0,(fit rfl),hcv1o_p0,hrv1o_p0,HS3⟩
    ·replace H:=of_neg H (nt c2)
     refine wp_skip<|norm_block<|again_j m (Nat.lt_succ_self m) rfl ⟨(iOr .u64 y1_0 (iShl .u64 (IntKind.wrap .u64 (iAnd .u8 (rd 0 v1o.1 (0:Int)) 127)) (w64 (7*y1_1)))),(w64 (y1_1+1)),v1o.2,Av1o_p0,cv1o_p0,(fit rfl),H,hcv1o_p0,hrv1o_p0,HS3⟩
 ·rintro us w4 ⟨s1,rfl,Ao1_1,co1_1,huo1,hco1_1,hro1_1,HS4⟩
  obtain ⟨uo1,rfl⟩:=unj huo1
  replace H:=G1
  clear G1
  try simp only [patch,sc0,sc1]
  refine norm_then<|wp_seq<|region<|rs (Value.int .u64 s1.1) (r_move rfl)<|rs (Value.int .u64 (iShr .u64 s1.1 1)) (r_shr rfl rfl (by decide))<|rs (vI (w64 (iShr .u64 s1.1 1))) (r_conv rfl Tryd.runUnderlying168 Tryd.runUnderlying3)<|rs (vI (w64 (iShr .u64 s1.1 1))) (r_assign rfl) ?_
  try simp only [sc0,sc1]
  refine run_nil<|norm_then<|wp_seq<|wp_seq<|region<|rs (Value.int .u64 s1.1) (r_move rfl)<|rs (Value.int .u64 (iAnd .u64 s1.1 1)) (r_and rfl rfl)<|rs (vB ((iAnd .u64 s1.1 1)==1)) (r_bin rfl rfl rfl) ?_
  try simp only [sc0,sc1]
  refine run_nil<|norm_then<|wp_cond_split (t:=((iAnd .u64 s1.1 1)==1)) rfl (fun c4=>?_) (fun c4=>?_)
  ·replace H:=of_pos H c4
   refine wp_seq<|region<|rs (vI (w64 (iShr .u64 s1.1 1))) (r_move rfl)<|rs (vI (iNot .i64 (w64 (iShr .u64 s1.1 1)))) (r_inot rfl)<|rs (vI (iNot .i64 (w64 (iShr .u64 s1.1 1)))) (r_assign rfl) ?_
   try simp only [sc0,sc1]
   refine run_nil<|norm_then<|wp_ret<|ret_then ?_
   obtain rfl:=Option.some.inj H
   exact bodyPost_ret (results_1 rfl (one_tmp rfl)) rfl<|⟨Ao1_1,co1_1,rfl,hco1_1,hro1_1,HS4⟩
  ·replace H:=of_neg H (nt c4)
   refine wp_skip<|norm_then<|wp_seq<|region<|rs (vI (w64 (iShr .u64 s1.1 1))) (r_move rfl)<|rs (vI (w64 (iShr .u64 s1.1 1))) (r_assign rfl) ?_
   try simp only [sc0,sc1]
   refine run_nil<|norm_then<|wp_ret ?_
   obtain rfl:=Option.some.inj H
   exact bodyPost_ret (results_1 rfl (one_tmp rfl)) rfl<|⟨Ao1_1,co1_1,rfl,hco1_1,hro1_1,HS4⟩
def ctf_reader_string.f (k:Nat) (p0:List Int):Option (Except Value (ByteArray×(List Int))):=(ctf_reader_int.f k p0).bind fun v1=>(match v1 with| .error pv1=>some (.error pv1)| .ok v1o=>((ctf_bytesLeft_take.f v1o.2 v1o.1).bind fun v2=>(match v2 with| .error pv2=>some (.error pv2)| .ok v2o=>(some (.ok ((strOf v2o.1),v2o.2))))))
theorem ctf_reader_string.calls (k:Nat) (p0:List Int) (bp0:Nat) (Ap0:Option Addr) (cp0:Nat) {h0:View} {w0:World} {h:View} {w:World} {rest:List Res} (HS:St [] h0 w0 h ((some bp0, .cells #[vL Ap0 p0.length cp0] 126 (0,0))::rest) w) (hrp0:Rd (Kd.int .u8) h Ap0 p0) (hcp0:p0.length≤cp0) {r:Except Value (ByteArray×(List Int))} (H:ctf_reader_string.f k p0=some r):Calls Tryd.prog 111 #[vP bp0 0] w (fun e w1=>match r with| .ok rok=>(∃(Az_p0:Option Addr) (cz_p0:Nat),e= .returned (vS rok.1)∧rok.2.length≤cz_p0∧Rd (Kd.int .u8) h Az_p0 rok.2∧St [] h0 w0 h ((some bp0, .cells #[vL Az_p0 rok.2.length cz_p0] 126 (0,0))::rest) w1)| .error pv=>(∃(csp0:List Value),e= .panicked [{v:=pv,recovered:=false}]∧St [] h0 w0 h ((some bp0, .cells csp0.toArray 126 (0,0))::rest) w1)):=by
 unfold ctf_reader_string.f at H
 have hsub:Sub h h:=Sub.rfl' h
 go_enter Tryd.func111,Tryd.ntmps111
 refine wp_seq<|region<|rs (vS ByteArray.empty) (r_assign rfl) ?_
 try simp only [sc0,sc1]
 refine run_nil<|norm_then<|wp_seq<|drawn_chainp [([3,4,5,6],[0,1,2,3]),([],[0,1,2]),([9,2],[6,7])] [4,5] [[],[0],[0,1],[],[3],[0,1,2,3,4],[0,1,2,3,4,5],[0,1,2,3,4,5,6]] hmix (by kernel_rfl) ?_
 intro w1 hE1
 have HS1:=HS.step hE1
 refine chainp_eff [vP bp0 0,vP bp0 0,vP bp0 0,vP bp0 0] ?_ rfl rfl ?_
 ·try simp only [patch,sc0,sc1]
  exact allg_cons (good_same (v:=vP bp0 0) rfl rfl rfl rfl (r_move rfl)) (allg_cons (good_same (v:=vP bp0 0) rfl rfl rfl rfl (r_nilCheck rfl)) (allg_cons (good_same (v:=vP bp0 0) rfl rfl rfl rfl (r_fieldBox (n:=1) (o':=0) rfl Tryd.runUnderlying126 rfl Tryd.sizeOf124 (by decide) rfl)) (allg_cons (good_same (v:=vP bp0 0) rfl rfl rfl rfl (r_move rfl)) (allg_nil))))
 try simp only [patch,sc0,sc1]
 obtain ⟨v1,H1,H⟩:=of_bind H
 rcases v1 with pv1|v1o
 ·refine run_callp (first:=[]) (vs:=[vP bp0 0]) (caps:=[]) Tryd.call110 rfl rfl (ctf_reader_int.calls k p0 bp0 Ap0 cp0 HS1 hrp0 hcp0 H1) ?_
  rintro _ w2 ⟨csq1,rfl,HS2⟩
  refine .inr ⟨_,rfl,?_⟩
  refine panic_qn (fun bq hbq=>?_)
  refine panic_then ?_
  obtain rfl:=Option.some.inj H
  exact bodyPost_panicd hbq rfl<|⟨csq1,rfl,HS2⟩
 refine run_callp (first:=[]) (vs:=[vP bp0 0]) (caps:=[]) Tryd.call110 rfl rfl (ctf_reader_int.calls k p0 bp0 Ap0 cp0 HS1 hrp0 hcp0 H1) ?_
 rintro _ w3 ⟨Av1o_p0,cv1o_p0,rfl,hcv1o_p0,hrv1o_p0,HS3⟩
 refine .inl ⟨_,rfl,?_⟩
 refine qnp_nil ?_
 try simp only [sc0,sc1]
 refine chainp_eff [] ?_ rfl rfl ?_
 ·try simp only [patch,sc0,sc1]
  exact allg_cons (good_same (v:=vP bp0 0) rfl rfl rfl rfl (r_move rfl)) (allg_cons (good_same (v:=vP bp0 0) rfl rfl rfl rfl (r_nilCheck rfl)) (allg_cons (good_same (v:=vP bp0 0) rfl rfl rfl rfl (r_fieldBox (n:=1) (o':=0) rfl Tryd.runUnderlying126 rfl Tryd.sizeOf124 (by decide) rfl)) (allg_nil)))
 try simp only [patch,sc0,sc1]
 obtain ⟨v2,H2,H⟩:=of_bind H
 rcases v2 with pv2|v2o
 ·refine run_callp (first:=[]) (vs:=[vP bp0 0,vI v1o.1]) (caps:=[]) Tryd.call72 rfl rfl (ctf_bytesLeft_take.calls v1o.2 v1o.1 bp0 Av1o_p0 cv1o_p0 HS3 hrv1o_p0 hcv1o_p0 H2) ?_
  rintro _ w4 ⟨csq2,rfl,HS4⟩
  refine .inr ⟨_,rfl,?_⟩
  refine panic_qn (fun bq hbq=>?_)
  refine panic_then ?_
  obtain rfl:=Option.some.inj H
  exact bodyPost_panicd hbq rfl<|⟨csq2,rfl,HS4⟩
 refine run_callp (first:=[]) (vs:=[vP bp0 0,vI v1o.1]) (caps:=[]) Tryd.call72 rfl rfl (ctf_bytesLeft_take.calls v1o.2 v1o.1 bp0 Av1o_p0 cv1o_p0 HS3 hrv1o_p0 hcv1o_p0 H2) ?_
 rintro _ w5 ⟨Av2o_r0_0,cv2o_r0_0,Av2o_p0,cv2o_p0,rfl,hcv2o_r0_0,hrv2o_r0_0,hcv2o_p0,hrv2o_p0,HS5⟩
 refine .inl ⟨_,rfl,?_⟩
 refine qnp_nil ?_
 try simp only [sc0,sc1]
 refine chainp_last [vS (strOf v2o.1),vS (strOf v2o.1)] ?_ ?_
 ·try simp only [patch,sc0,sc1]
  exact allg_cons (good_same (v:=vS (strOf v2o.1)) rfl rfl rfl rfl (r_b2s rfl Tryd.runUnderlying80 Tryd.runUnderlying9 Tryd.runUnderlying5 HS5.sees hrv2o_r0_0)) (allg_cons (good_same (v:=vS (strOf v2o.1)) rfl rfl rfl rfl (r_assign rfl)) (allg_nil))
 try simp only [patch,sc0,sc1]
 refine norm_then<|wp_ret ?_
 obtain rfl:=Option.some.inj H
 exact bodyPost_ret (results_1 rfl (one_tmp rfl)) rfl<|⟨Av2o_p0,cv2o_p0,rfl,hcv2o_p0,hrv2o_p0,HS5⟩
def ctf_reader_bool.f (p0:List Int):Option (Except Value (Bool×(List Int))):=(ctf_bytesLeft_take.f p0 1).bind fun v1=>(match v1 with| .error pv1=>some (.error pv1)| .ok v1o=>(if 0≤(0:Int)∧(0:Int)<v1o.1.length then (if (decide ((rd 0 v1o.1 (0:Int))>1))=true then (some (.error (Value.iface 120 (Value.agg #[])))) else (some (.ok (((rd 0 v1o.1 (0:Int))==1),v1o.2)))) else none))
theorem ctf_reader_bool.calls (p0:List Int) (bp0:Nat) (Ap0:Option Addr) (cp0:Nat) {h0:View} {w0:World} {h:View} {w:World} {rest:List Res} (HS:St [] h0 w0 h ((some bp0, .cells #[vL Ap0 p0.length cp0] 126 (0,0))::rest) w) (hrp0:Rd (Kd.int .u8) h Ap0 p0) (hcp0:p0.length≤cp0) {r:Except Value (Bool×(List Int))} (H:ctf_reader_bool.f p0=some r):Calls Tryd.prog 112 #[vP bp0 0] w (fun e w1=>match r with| .ok rok=>(∃(Az_p0:Option Addr) (cz_p0:Nat),e= .returned (vB rok.1)∧rok.2.length≤cz_p0∧Rd (Kd.int .u8) h Az_p0 rok.2∧St [] h0 w0 h ((some bp0, .cells #[vL Az_p0 rok.2.length cz_p0] 126 (0,0))::rest) w1)| .error pv=>(∃(csp0:List Value),e= .panicked [{v:=pv,recovered:=false}]∧St [] h0 w0 h ((some bp0, .cells csp0.toArray 126 (0,0))::rest) w1)):=by
 unfold ctf_reader_bool.f at H
 have hsub:Sub h h:=Sub.rfl' h
 go_enter Tryd.func112,Tryd.ntmps112
 refine wp_seq<|region<|rs (vB false) (r_assign rfl) ?_
 try simp only [sc0,sc1]
 refine run_nil<|norm_then<|wp_seq<|region<|rs (vP bp0 0) (r_move rfl)<|rs (vP bp0 0) (r_nilCheck rfl)<|rs (vP bp0 0) (r_fieldBox (n:=1) (o':=0) rfl Tryd.runUnderlying126 rfl Tryd.sizeOf124 (by decide) rfl) ?_
 obtain ⟨v1,H1,H⟩:=of_bind H
 rcases v1 with pv1|v1o
 ·refine run_callp (first:=[]) (vs:=[vP bp0 0,vI 1]) (caps:=[]) Tryd.call72 rfl rfl (ctf_bytesLeft_take.calls p0 1 bp0 Ap0 cp0 HS hrp0 hcp0 H1) ?_
  rintro _ w1 ⟨csq1,rfl,HS1⟩
  refine .inr ⟨_,rfl,?_⟩
  refine panic_then ?_
  obtain rfl:=Option.some.inj H
  exact bodyPost_panic rfl<|⟨csq1,rfl,HS1⟩
 refine run_callp (first:=[]) (vs:=[vP bp0 0,vI 1]) (caps:=[]) Tryd.call72 rfl rfl (ctf_bytesLeft_take.calls p0 1 bp0 Ap0 cp0 HS hrp0 hcp0 H1) ?_
 rintro _ w2 ⟨Av1o_r0_0,cv1o_r0_0,Av1o_p0,cv1o_p0,rfl,hcv1o_r0_0,hrv1o_r0_0,hcv1o_p0,hrv1o_p0,HS2⟩
 refine .inl ⟨_,rfl,?_⟩
 refine run_frame (by simp only [sc0,sc1];rfl) ?_
 obtain ⟨hi1,H⟩:=of_ite H
 obtain ⟨ad1,e1,hel1⟩:=ld_int hrv1o_r0_0 hi1.1 hi1.2
 refine rs (Value.pointer (some (Addr.add ad1 ((0:Int).toNat*1)))) (r_indexA (sz:=1) rfl e1 rfl hi1.1 hi1.2 Tryd.runUnderlying80 Tryd.sizeOf5)<|rs (Value.int .u8 (rd 0 v1o.1 (0:Int))) (r_load rfl Tryd.isAgg5 (hel1.cell0 HS2.sees rfl))<|rs (Value.int .u8 (rd 0 v1o.1 (0:Int))) (r_assign rfl) ?_
 try simp only [sc0,sc1]
 refine run_nil<|norm_then<|wp_seq<|wp_seq<|region<|rs (Value.int .u8 (rd 0 v1o.1 (0:Int))) (r_move rfl)<|rs (vB (decide ((rd 0 v1o.1 (0:Int))>1))) (r_bin rfl rfl rfl) ?_
 try simp only [sc0,sc1]
 refine run_nil<|norm_then<|wp_cond_split (t:=(decide ((rd 0 v1o.1 (0:Int))>1))) rfl (fun c1=>?_) (fun c1=>?_)
 ·replace H:=of_pos H c1
  refine region<|rs (Value.agg #[]) (r_build0 (cs:=[]) Tryd.zeroValue120 Tryd.runUnderlying120 (pl:=#[]) (fun w=>by simp []) rfl) ?_
  refine rs (Value.iface 120 (Value.agg #[])) (r_iface rfl Tryd.runUnderlying120 (by intro m hm;cases hm)) ?_
  refine run_panic rfl<|panic_then ?_
  obtain rfl:=Option.some.inj H
  exact bodyPost_panic rfl<|⟨[vL Av1o_p0 v1o.2.length cv1o_p0],rfl,HS2⟩
 ·replace H:=of_neg H (nt c1)
  refine wp_skip<|norm_then<|wp_seq<|region<|rs (Value.int .u8 (rd 0 v1o.1 (0:Int))) (r_move rfl)<|rs (vB ((rd 0 v1o.1 (0:Int))==1)) (r_bin rfl rfl rfl)<|rs (vB ((rd 0 v1o.1 (0:Int))==1)) (r_assign rfl) ?_
  try simp only [sc0,sc1]
  refine run_nil<|norm_then<|wp_ret ?_
  obtain rfl:=Option.some.inj H
  exact bodyPost_ret (results_1 rfl (one_tmp rfl)) rfl<|⟨Av1o_p0,cv1o_p0,rfl,hcv1o_p0,hrv1o_p0,HS2⟩
def ctf_reader_field.f (k:Nat) (p0:List Int):Option (Except Value (api_Field×(List Int))):=(ctf_reader_string.f k p0).bind fun v1=>(match v1 with| .error pv1=>some (.error pv1)| .ok v1o=>((ctf_reader_int.f k v1o.2).bind fun v2=>(match v2 with| .error pv2=>some (.error pv2)| .ok v2o=>((ctf_reader_int.f k v2o.2).bind fun v3=>(match v3 with| .error pv3=>some (.error pv3)| .ok v3o=>(some (.ok ((⟨v1o.1,v2o.1,v3o.1⟩:api_Field),v3o.2))))))))
theorem ctf_reader_field.calls (k:Nat) (p0:List Int) (bp0:Nat) (Ap0:Option Addr) (cp0:Nat) {h0:View} {w0:World} {h:View} {w:World} {rest:List Res} (HS:St [] h0 w0 h ((some bp0, .cells #[vL Ap0 p0.length cp0] 126 (0,0))::rest) w) (hrp0:Rd (Kd.int .u8) h Ap0 p0) (hcp0:p0.length≤cp0) {r:Except Value (api_Field×(List Int))} (H:ctf_reader_field.f k p0=some r):Calls Tryd.prog 114 #[vP bp0 0] w (fun e w1=>match r with| .ok rok=>(∃(Az_p0:Option Addr) (cz_p0:Nat),e= .returned (Value.agg #[vS rok.1.vName,vI rok.1.vType,vI rok.1.vAt])∧rok.2.length≤cz_p0∧Rd (Kd.int .u8) h Az_p0 rok.2∧St [] h0 w0 h ((some bp0, .cells #[vL Az_p0 rok.2.length cz_p0] 126 (0,0))::rest) w1)| .error pv=>(∃(csp0:List Value),e= .panicked [{v:=pv,recovered:=false}]∧St [] h0 w0 h ((some bp0, .cells csp0.toArray 126 (0,0))::rest) w1)):=by
 unfold ctf_reader_field.f at H
 have hsub:Sub h h:=Sub.rfl' h
 go_enter Tryd.func114,Tryd.ntmps114
 refine wp_seq<|region<|run_ex rfl rfl (does_alloc (cs:=#[vS ByteArray.empty,vI 0,vI 0]) Tryd.zeroValue36 rfl) ?_
 rintro w1 _ hE1 ⟨b1,rfl,ge1,hb1⟩
 have HS1:=HS.new hE1 ge1 hb1
 try simp only [sc0,sc1]
 refine run_nil<|norm_then<|wp_seq<|region<|rs (vP bp0 0) (r_move rfl) ?_
 obtain ⟨v1,H1,H⟩:=of_bind H
 have HS2:=HS1.f1
 rcases v1 with pv1|v1o
 ·refine run_callp (first:=[]) (vs:=[vP bp0 0]) (caps:=[]) Tryd.call111 rfl rfl (ctf_reader_string.calls k p0 bp0 Ap0 cp0 HS2 hrp0 hcp0 H1) ?_
  rintro _ w2 ⟨csq1,rfl,HS3⟩
  refine .inr ⟨_,rfl,?_⟩
  refine panic_then ?_
  obtain rfl:=Option.some.inj H
  refine bodyPost_panic rfl ?_
  have HS4:=HS3.d1
  exact ⟨csq1,rfl,HS4⟩
 refine run_callp (first:=[]) (vs:=[vP bp0 0]) (caps:=[]) Tryd.call111 rfl rfl (ctf_reader_string.calls k p0 bp0 Ap0 cp0 HS2 hrp0 hcp0 H1) ?_
 rintro _ w3 ⟨Av1o_p0,cv1o_p0,rfl,hcv1o_p0,hrv1o_p0,HS5⟩
 refine .inl ⟨_,rfl,?_⟩
 have HS6:=HS5.f1
 refine rs (vS v1o.1) (r_assign rfl) ?_
 try simp only [sc0,sc1]
 refine run_nil<|norm_then<|wp_seq<|region<|rs (vP bp0 0) (r_move rfl) ?_
 obtain ⟨v2,H2,H⟩:=of_bind H
 have HS7:=HS6.f1
 rcases v2 with pv2|v2o
 ·refine run_callp (first:=[]) (vs:=[vP bp0 0]) (caps:=[]) Tryd.call110 rfl rfl (ctf_reader_int.calls k v1o.2 bp0 Av1o_p0 cv1o_p0 HS7 hrv1o_p0 hcv1o_p0 H2) ?_
  rintro _ w4 ⟨csq2,rfl,HS8⟩
  refine .inr ⟨_,rfl,?_⟩
  refine panic_then ?_
  obtain rfl:=Option.some.inj H
  refine bodyPost_panic rfl ?_
  have HS9:=HS8.d1
  exact ⟨csq2,rfl,HS9⟩
 refine run_callp (first:=[]) (vs:=[vP bp0 0]) (caps:=[]) Tryd.call110 rfl rfl (ctf_reader_int.calls k v1o.2 bp0 Av1o_p0 cv1o_p0 HS7 hrv1o_p0 hcv1o_p0 H2) ?_
 rintro _ w5 ⟨Av2o_p0,cv2o_p0,rfl,hcv2o_p0,hrv2o_p0,HS10⟩
 refine .inl ⟨_,rfl,?_⟩
 have HS11:=HS10.f1
 refine rs (vI v2o.1) (r_assign rfl) ?_
 try simp only [sc0,sc1]
 refine run_nil<|norm_then<|wp_seq<|region<|rs (vP bp0 0) (r_move rfl) ?_
 obtain ⟨v3,H3,H⟩:=of_bind H
 have HS12:=HS11.f1
 rcases v3 with pv3|v3o
 ·refine run_callp (first:=[]) (vs:=[vP bp0 0]) (caps:=[]) Tryd.call110 rfl rfl (ctf_reader_int.calls k v2o.2 bp0 Av2o_p0 cv2o_p0 HS12 hrv2o_p0 hcv2o_p0 H3) ?_
  rintro _ w6 ⟨csq3,rfl,HS13⟩
  refine .inr ⟨_,rfl,?_⟩
  refine panic_then ?_
  obtain rfl:=Option.some.inj H
  refine bodyPost_panic rfl ?_
  have HS14:=HS13.d1
  exact ⟨csq3,rfl,HS14⟩
 refine run_callp (first:=[]) (vs:=[vP bp0 0]) (caps:=[]) Tryd.call110 rfl rfl (ctf_reader_int.calls k v2o.2 bp0 Av2o_p0 cv2o_p0 HS12 hrv2o_p0 hcv2o_p0 H3) ?_
 rintro _ w7 ⟨Av3o_p0,cv3o_p0,rfl,hcv3o_p0,hrv3o_p0,HS15⟩
 refine .inl ⟨_,rfl,?_⟩
 have HS16:=HS15.f1
 refine rs (vI v3o.1) (r_assign rfl) ?_
 try simp only [sc0,sc1]
 refine run_nil<|norm_then<|wp_seq<|region<|rs (vS v1o.1) (r_move rfl)<|rs (vI v2o.1) (r_move rfl)<|rs (vI v3o.1) (r_move rfl)<|rs (Value.agg #[vS v1o.1,vI v2o.1,vI v3o.1]) (r_build (cs:=[vS v1o.1,vI v2o.1,vI v3o.1]) (ps:=[(0,vS v1o.1),(1,vI v2o.1),(2,vI v3o.1)]) Tryd.zeroValue36 Tryd.runUnderlying36 (pl:=#[(0,1),(1,1),(2,1)]) (fun w=>by simp [Tryd.sizeOf3,Tryd.sizeOf9]) (parts_3 (show _=vS v1o.1 from rfl) (show _=vI v2o.1 from rfl) (show _=vI v3o.1 from rfl)) rfl) ?_
 refine run_frame (by simp only [sc0,sc1];rfl) ?_
 refine run_st (i:=0) (cs:=[vS ByteArray.empty,vI 0,vI 0]) (cs':=[vS v1o.1,vI v2o.1,vI v3o.1]) (vs:=[vS v1o.1,vI v2o.1,vI v3o.1]) (bs':=((some b1, .cells #[vS v1o.1,vI v2o.1,vI v3o.1] 36 (0,0))::(some bp0, .cells #[vL Av3o_p0 v3o.2.length cv3o_p0] 126 (0,0))::rest)) rfl rfl Tryd.sizeOf36 rfl rfl (by decide) rfl HS16 rfl (Nat.le_of_ble_eq_true rfl) rfl rfl ?_
 intro w8 HS17
 try simp only [sc0,sc1]
 refine run_nil<|norm_then<|wp_ret ?_
 obtain rfl:=Option.some.inj H
 refine bodyPost_ret (results_1 rfl (one_agg rfl Tryd.isAgg36 (HS17.look 0 rfl) Tryd.sizeOf36 rfl)) rfl ?_
 have HS18:=HS17.d0
 exact ⟨Av3o_p0,cv3o_p0,rfl,hcv3o_p0,hrv3o_p0,HS18⟩
def ctf_list_api_Field.l0 (k:Nat) (v1o:Int×(List Int)):Nat→Int→(List Int)→(List api_Field)→Option ((Except Value ((List api_Field)×(List Int)))⊕((List Int)×(List api_Field)))
 |0,_,_,_=>none
 |m+1,y1_0,y1_1,y1_2=>if (decide (y1_0<v1o.1))=true then ((ctf_reader_field.f k y1_1).bind fun v2=>(match v2 with| .error pv2=>some (.inl (.error pv2))| .ok v2o=>(if y1_2.length+1≤4294967296 then (ctf_list_api_Field.l0 k v1o m (IntKind.wrap .i64 (y1_0+1)) v2o.2 (y1_2++([v2o.1]:List api_Field))) else none))) else (some (.inr (y1_1,y1_2)))
def ctf_list_api_Field.f (k:Nat) (p0:List Int):Option (Except Value ((List api_Field)×(List Int))):=(ctf_reader_int.f k p0).bind fun v1=>(match v1 with| .error pv1=>some (.error pv1)| .ok v1o=>(if ((decide (v1o.1<0))||(decide (v1o.1>(v1o.2.length:Int))))=true then (some (.error (Value.iface 120 (Value.agg #[])))) else ((ctf_list_api_Field.l0 k v1o k 0 v1o.2 ([]:List api_Field)).bind fun xx1=>(match xx1 with| .inl r=>some r| .inr s1=>some (.ok (s1.2,s1.1))))))
theorem ctf_list_api_Field.calls (k:Nat) (p0:List Int) (bp0:Nat) (Ap0:Option Addr) (cp0:Nat) {h0:View} {w0:World} {h:View} {w:World} {rest:List Res} (HS:St [] h0 w0 h ((some bp0, .cells #[vL Ap0 p0.length cp0] 126 (0,0))::rest) w) (hrp0:Rd (Kd.int .u8) h Ap0 p0) (hcp0:p0.length≤cp0) {r:Except Value ((List api_Field)×(List Int))} (H:ctf_list_api_Field.f k p0=some r):Calls Tryd.prog 113 #[vP bp0 0,Value.func (.func 114) #[vP bp0 0] #[]] w (fun e w1=>match r with| .ok rok=>(∃(h1:View),∃(Az_r0_0:Option Addr) (cz_r0_0:Nat),∃(Az_p0:Option Addr) (cz_p0:Nat),e= .returned (vL Az_r0_0 rok.1.length cz_r0_0)∧rok.1.length≤cz_r0_0∧Rd k_api_Field h1 Az_r0_0 rok.1∧rok.2.length≤cz_p0∧Rd (Kd.int .u8) h1 Az_p0 rok.2∧Sub h h1∧St [] h0 w0 h1 ((some bp0, .cells #[vL Az_p0 rok.2.length cz_p0] 126 (0,0))::rest) w1)| .error pv=>(∃h1:View,∃csp0:List Value,e= .panicked [{v:=pv,recovered:=false}]∧Sub h h1∧St [] h0 w0 h1 ((some bp0, .cells csp0.toArray 126 (0,0))::rest) w1)):=by
 unfold ctf_list_api_Field.f at H
 have hsub:Sub h h:=Sub.rfl' h
 go_enter Tryd.func113,Tryd.ntmps113
 refine wp_seq<|region<|rs (vL none 0 0) (r_assign rfl) ?_
 try simp only [sc0,sc1]
 refine run_nil<|norm_then<|wp_seq<|region<|rs (vP bp0 0) (r_move rfl) ?_
 obtain ⟨v1,H1,H⟩:=of_bind H
 rcases v1 with pv1|v1o
 ·refine run_callp (first:=[]) (vs:=[vP bp0 0]) (caps:=[]) Tryd.call110 rfl rfl (ctf_reader_int.calls k p0 bp0 Ap0 cp0 HS hrp0 hcp0 H1) ?_
  rintro _ w1 ⟨csq1,rfl,HS1⟩
  refine .inr ⟨_,rfl,?_⟩
  refine panic_then ?_
  obtain rfl:=Option.some.inj H
  exact bodyPost_panic rfl<|⟨h,csq1,rfl,hsub,HS1⟩
 refine run_callp (first:=[]) (vs:=[vP bp0 0]) (caps:=[]) Tryd.call110 rfl rfl (ctf_reader_int.calls k p0 bp0 Ap0 cp0 HS hrp0 hcp0 H1) ?_
 rintro _ w2 ⟨Av1o_p0,cv1o_p0,rfl,hcv1o_p0,hrv1o_p0,HS2⟩
 refine .inl ⟨_,rfl,?_⟩
 refine rs (vI v1o.1) (r_assign rfl) ?_
 try simp only [sc0,sc1]
 refine run_nil<|norm_then<|wp_seq<|wp_seq<|region<|rs (vI v1o.1) (r_move rfl)<|rs (vB (decide (v1o.1<0))) (r_bin rfl rfl rfl)<|rs (vB (decide (v1o.1<0))) (r_move rfl)<|rgs (decide (v1o.1<0)) true (vI v1o.1) rfl rfl rfl rfl (fun hg=>(r_move rfl))<|run_frame (by simp only [sc0,sc1];rfl) ?_
 refine rgs (decide (v1o.1<0)) true (vP bp0 0) rfl rfl rfl rfl (fun hg=>(r_move rfl))<|rgs (decide (v1o.1<0)) true (vP bp0 0) rfl rfl rfl rfl (fun hg=>(r_nilCheck (gvt (vP bp0 0) hg rfl)))<|rgs (decide (v1o.1<0)) true (vP bp0 0) rfl rfl rfl rfl (fun hg=>(r_fieldBox (n:=1) (o':=0) (gvt (vP bp0 0) hg rfl) Tryd.runUnderlying126 rfl Tryd.sizeOf124 (by decide) rfl))<|rgs (decide (v1o.1<0)) true (vP bp0 0) rfl rfl rfl rfl (fun hg=>(r_fieldBox (n:=1) (o':=0) (gvt (vP bp0 0) hg rfl) Tryd.runUnderlying124 rfl Tryd.sizeOf80 (by decide) rfl))<|run_frame (by simp only [sc0,sc1];rfl) ?_
 refine rgs (decide (v1o.1<0)) true (vL Av1o_p0 v1o.2.length cv1o_p0) rfl rfl rfl rfl (fun hg=>(r_loadBox (gvt (vP bp0 0) hg rfl) Tryd.isAgg80 (HS2.look 0 rfl) rfl))<|rgs (decide (v1o.1<0)) true (vI (v1o.2.length:Int)) rfl rfl rfl rfl (fun hg=>(r_len (gvt (vL Av1o_p0 v1o.2.length cv1o_p0) hg rfl) Tryd.runUnderlying80))<|rgs (decide (v1o.1<0)) true (vB (decide (v1o.1>(v1o.2.length:Int)))) rfl rfl rfl rfl (fun hg=>(r_bin (gvt (vI v1o.1) hg rfl) (gvt (vI (v1o.2.length:Int)) hg rfl) rfl))<|rs (vB ((decide (v1o.1<0))||(decide (v1o.1>(v1o.2.length:Int))))) (r_pick_or rfl rfl (fun hp=>(gvt (vB (decide (v1o.1>(v1o.2.length:Int)))) (and_i rfl hp) rfl))) ?_
 try simp only [sc0,sc1]
 refine run_nil<|norm_then<|wp_cond_split (t:=((decide (v1o.1<0))||(decide (v1o.1>(v1o.2.length:Int))))) rfl (fun c1=>?_) (fun c1=>?_)
 ·replace H:=of_pos H c1
  refine region<|rs (Value.agg #[]) (r_build0 (cs:=[]) Tryd.zeroValue120 Tryd.runUnderlying120 (pl:=#[]) (fun w=>by simp []) rfl) ?_
  refine rs (Value.iface 120 (Value.agg #[])) (r_iface rfl Tryd.runUnderlying120 (by intro m hm;cases hm)) ?_
  refine run_panic rfl<|panic_then ?_
  obtain rfl:=Option.some.inj H
  exact bodyPost_panic rfl<|⟨h,[vL Av1o_p0 v1o.2.length cv1o_p0],rfl,hsub,HS2⟩
 ·replace H:=of_neg H (nt c1)
  refine wp_skip<|norm_then<|wp_seq<|region<|rs (vL none 0 0) (r_assign rfl) ?_
  try simp only [sc0,sc1]
  refine run_nil<|norm_then<|wp_seq<|wp_seq<|region<|rs (vI v1o.1) (r_move rfl)<|rs (vI 0) (r_move rfl) ?_
  try simp only [sc0,sc1]
  refine run_nil<|norm_then ?_
  have HS3:=HS2.nothing (.cells ([]:List Value).toArray 36 (0,0))
  obtain ⟨xx1,H,G1⟩:=of_bind H
  refine loop_j [6,24,25,26,27,28,29,30,31] (fun m us w'=>∃y1_0:Int,∃y1_1:List Int,∃y1_2:List api_Field,∃(Ay1_1:Option Addr) (cy1_1:Nat),∃(oby1_2:Option Nat) (cy1_2:Nat),∃(csy1_2:List Value),Fit us (fun uy1=>[vL (rowA oby1_2) y1_2.length cy1_2,vI y1_0,(uy1 2),(uy1 3),(uy1 4),(uy1 5),(uy1 6),(uy1 7),(uy1 8)])∧ctf_list_api_Field.l0 k v1o m y1_0 y1_1 y1_2=some xx1∧y1_1.length≤cy1_1∧Rd (Kd.int .u8) h Ay1_1 y1_1∧RowOk k_api_Field h y1_2 oby1_2 y1_2.length cy1_2 csy1_2∧St [] h0 w0 h ((oby1_2, .cells (csy1_2).toArray 36 (0,0))::(some bp0, .cells #[vL Ay1_1 y1_1.length cy1_1] 126 (0,0))::rest) w') (fun us w'=>∃(s1:(List Int)×(List api_Field)),xx1= .inr s1∧∃(Ao1_0:Option Addr) (co1_0:Nat),∃(obo1_1:Option Nat) (co1_1:Nat),∃(cso1_1:List Value),Fit us (fun uo1=>[vL (rowA obo1_1) s1.2.length co1_1,(uo1 1),(uo1 2),(uo1 3),(uo1 4),(uo1 5),(uo1 6),(uo1 7),(uo1 8)])∧s1.1.length≤co1_0∧Rd (Kd.int .u8) h Ao1_0 s1.1∧RowOk k_api_Field h s1.2 obo1_1 s1.2.length co1_1 cso1_1∧St [] h0 w0 h ((obo1_1, .cells (cso1_1).toArray 36 (0,0))::(some bp0, .cells #[vL Ao1_0 s1.1.length co1_0] 126 (0,0))::rest) w') k ⟨0,v1o.2,([]:List api_Field),Av1o_p0,cv1o_p0,none,0,([]:List Value),(fit rfl),H,hcv1o_p0,hrv1o_p0,(RowOk.none' k_api_Field _).norm,HS3⟩ ?_ ?_
  ·rintro m us w3 ⟨y1_0,y1_1,y1_2,Ay1_1,cy1_1,oby1_2,cy1_2,csy1_2,huy1,H,hcy1_1,hry1_1,hoy1_2,HS4⟩
   obtain ⟨uy1,rfl⟩:=unj huy1
   cases m with
   |zero=>exact absurd H (by simp [ctf_list_api_Field.l0])
   |succ m=>
    rw [ctf_list_api_Field.l0] at H
    try simp only [patch,sc0,sc1]
    refine wp_seq<|region<|rs (vB (decide (y1_0<v1o.1))) (r_bin rfl rfl rfl) ?_
    try simp only [sc0,sc1]
    refine run_nil<|norm_then<|wp_seq<|wp_cond_split (t:=(decide (y1_0<v1o.1))) rfl (fun c2=>?_) (fun c2=>?_)
    ·replace H:=of_pos H c2
     refine wp_skip<|norm_then<|wp_seq<|wp_block<|region<|rs (vL (rowA oby1_2) y1_2.length cy1_2) (r_move rfl)<|rs (Value.func (.func 114) #[vP bp0 0] #[]) (r_move rfl) ?_
     obtain ⟨v2,H2,H⟩:=of_bind H
     have HS5:=HS4.f1
     rcases v2 with pv2|v2o
     ·refine run_callp (first:=[vP bp0 0]) (vs:=[]) (caps:=[]) Tryd.call114 rfl rfl (ctf_reader_field.calls k y1_1 bp0 Ay1_1 cy1_1 HS5 hry1_1 hcy1_1 H2) ?_
      rintro _ w4 ⟨csq2,rfl,HS6⟩
      refine .inr ⟨_,rfl,?_⟩
      refine panic_block<|panic_then<|panic_loop<|panic_then ?_
      obtain rfl:=Option.some.inj H
      obtain rfl:=Option.some.inj G1
      refine bodyPost_panic rfl ?_
      have HS7:=HS6.d1
      exact ⟨h,csq2,rfl,hsub,HS7⟩
     refine run_callp (first:=[vP bp0 0]) (vs:=[]) (caps:=[]) Tryd.call114 rfl rfl (ctf_reader_field.calls k y1_1 bp0 Ay1_1 cy1_1 HS5 hry1_1 hcy1_1 H2) ?_
     rintro _ w5 ⟨Av2o_p0,cv2o_p0,rfl,hcv2o_p0,hrv2o_p0,HS8⟩
     refine .inl ⟨_,rfl,?_⟩
     have HS9:=HS8.f1
     refine run_bs k_api_Field (xs:=([v2o.1]:List api_Field)) (n:=1) (cs:=[vS v2o.1.vName,vI v2o.1.vType,vI v2o.1.vAt]) Tryd.runUnderlying32 Tryd.typeInfo36 Tryd.zeroValue36 rfl rfl (by decide) (by decide) (by decide) [Value.agg #[vS v2o.1.vName,vI v2o.1.vType,vI v2o.1.vAt]] (parts_any.trans rfl) rfl rfl rfl rfl (elems_cons (qs:=[vS v2o.1.vName,vI v2o.1.vType,vI v2o.1.vAt]) ⟨[vS v2o.1.vName],[vI v2o.1.vType,vI v2o.1.vAt],rfl,rfl,⟨[vI v2o.1.vType],[vI v2o.1.vAt],rfl,rfl,rfl⟩⟩ (elems_nil (cs:=[]))) HS9 ?_
     intro w6 b1 HS10 ho1
     refine run_frame (by simp only [sc0,sc1];rfl) ?_
     obtain ⟨hl1,H⟩:=of_ite H
     refine run_app k_api_Field (q:=1) (cs:=csy1_2) rfl rfl Tryd.runUnderlying32 Tryd.typeInfo36 Tryd.zeroValue36 rfl (by decide) rfl (src_row Tryd.runUnderlying32 HS10 (i:=0) rfl ho1 rfl) ho1.len (src_row_elems ho1) hl1 HS10 rfl hoy1_2 ?_
     intro w7 ob1 c3 cs1 HS11 ho2
     refine rs (vL (rowA ob1) (y1_2.length+1) c3) (r_assign rfl) ?_
     try simp only [sc0,sc1]
     refine run_nil<|norm_block<|norm_then<|region<|rs (vI (w64 (y1_0+1))) (r_bin rfl rfl rfl)<|rs (vI (w64 (y1_0+1))) (r_move rfl) ?_
     try simp only [sc0,sc1]
     refine run_nil<|again_j m (Nat.lt_succ_self m) rfl ⟨(w64 (y1_0+1)),v2o.2,(y1_2++([v2o.1]:List api_Field)),Av2o_p0,cv2o_p0,ob1,c3,cs1,(fit (by first|rfl|(rw [ho2.len];done)|(rw [ho2.len];rfl))),H,hcv2o_p0,hrv2o_p0,ho2.norm,HS11.tail⟩
    ·replace H:=of_neg H (nt c2)
     refine wp_exit<|exit_then ?_
     obtain rfl:=Option.some.inj H
     refine leave_j rfl ⟨_,rfl,Ay1_1,cy1_1,oby1_2,cy1_2,csy1_2,(fit rfl),hcy1_1,hry1_1,hoy1_2.norm,HS4⟩
  ·rintro us w8 ⟨s1,rfl,Ao1_0,co1_0,obo1_1,co1_1,cso1_1,huo1,hco1_0,hro1_0,hoo1_1,HS12⟩
   obtain ⟨uo1,rfl⟩:=unj huo1
   replace H:=G1
   clear G1
   try simp only [patch,sc0,sc1]
   refine norm_then<|wp_seq<|region<|rs (vL (rowA obo1_1) s1.2.length co1_1) (r_move rfl)<|rs (vL (rowA obo1_1) s1.2.length co1_1) (r_assign rfl) ?_
   try simp only [sc0,sc1]
   refine run_nil<|norm_then<|wp_ret ?_
   obtain rfl:=Option.some.inj H
   refine bodyPost_ret (results_1 rfl (one_tmp rfl)) rfl ?_
   obtain ⟨h1,HS13,hs5,rdp1⟩:=row_pub HS12 (i:=0) rfl hoo1_1
   have HS14:St [] h0 w0 h1 ((some bp0, .cells #[vL Ao1_0 s1.1.length co1_0] 126 (0,0))::rest) w8:=HS13
   replace hrp0:Rd (Kd.int .u8) h1 Ap0 p0:=hrp0.ext hs5
   replace hsub:Sub h h1:=hsub.then hs5
   replace hrv1o_p0:Rd (Kd.int .u8) h1 Av1o_p0 v1o.2:=hrv1o_p0.ext hs5
   replace hro1_0:Rd (Kd.int .u8) h1 Ao1_0 s1.1:=hro1_0.ext hs5
   exact ⟨h1,(rowA obo1_1),co1_1,Ao1_0,co1_0,rfl,hoo1_1.cap,rdp1,hco1_0,hro1_0,hsub,HS14⟩
def ctf_reader_def.f (k:Nat) (p0:List Int):Option (Except Value (api_Def×(List Int))):=(ctf_reader_int.f k p0).bind fun v1=>(match v1 with| .error pv1=>some (.error pv1)| .ok v1o=>((ctf_reader_string.f k v1o.2).bind fun v2=>(match v2 with| .error pv2=>some (.error pv2)| .ok v2o=>((ctf_reader_int.f k v2o.2).bind fun v3=>(match v3 with| .error pv3=>some (.error pv3)| .ok v3o=>((ctf_reader_bool.f v3o.2).bind fun v4=>(match v4 with| .error pv4=>some (.error pv4)| .ok v4o=>((ctf_reader_int.f k v4o.2).bind fun v5=>(match v5 with| .error pv5=>some (.error pv5)| .ok v5o=>((ctf_reader_int.f k v5o.2).bind fun v6=>(match v6 with| .error pv6=>some (.error pv6)| .ok v6o=>((ctf_list_api_Field.f k v6o.2).bind fun v7=>(match v7 with| .error pv7=>some (.error pv7)| .ok v7o=>(some (.ok ((⟨v1o.1,v2o.1,(⟨v3o.1,v4o.1⟩:api_Int),v5o.1,v6o.1,v7o.1⟩:api_Def),v7o.2))))))))))))))))
theorem ctf_reader_def.calls (k:Nat) (p0:List Int) (bp0:Nat) (Ap0:Option Addr) (cp0:Nat) {h0:View} {w0:World} {h:View} {w:World} {rest:List Res} (HS:St [] h0 w0 h ((some bp0, .cells #[vL Ap0 p0.length cp0] 126 (0,0))::rest) w) (hrp0:Rd (Kd.int .u8) h Ap0 p0) (hcp0:p0.length≤cp0) {r:Except Value (api_Def×(List Int))} (H:ctf_reader_def.f k p0=some r):Calls Tryd.prog 74 #[vP bp0 0] w (fun e w1=>match r with| .ok rok=>(∃(h1:View),∃(Az_r0_6:Option Addr) (cz_r0_6:Nat),∃(Az_p0:Option Addr) (cz_p0:Nat),e= .returned (Value.agg #[vI rok.1.vKind,vS rok.1.vName,vI rok.1.vInt.vSize,vB rok.1.vInt.vSigned,vI rok.1.vRef,vI rok.1.vN,vL Az_r0_6 rok.1.vFields.length cz_r0_6])∧rok.1.vFields.length≤cz_r0_6∧Rd k_api_Field h1 Az_r0_6 rok.1.vFields∧rok.2.length≤cz_p0∧Rd (Kd.int .u8) h1 Az_p0 rok.2∧Sub h h1∧St [] h0 w0 h1 ((some bp0, .cells #[vL Az_p0 rok.2.length cz_p0] 126 (0,0))::rest) w1)| .error pv=>(∃h1:View,∃csp0:List Value,e= .panicked [{v:=pv,recovered:=false}]∧Sub h h1∧St [] h0 w0 h1 ((some bp0, .cells csp0.toArray 126 (0,0))::rest) w1)):=by
 unfold ctf_reader_def.f at H
 have hsub:Sub h h:=Sub.rfl' h
 go_enter Tryd.func74,Tryd.ntmps74
 refine wp_seq<|region<|run_ex rfl rfl (does_alloc (cs:=#[vI 0,vS ByteArray.empty,vI 0,vB false,vI 0,vI 0,vL none 0 0]) Tryd.zeroValue34 rfl) ?_
 rintro w1 _ hE1 ⟨b1,rfl,ge1,hb1⟩
 have HS1:=HS.new hE1 ge1 hb1
 try simp only [sc0,sc1]
 refine run_nil<|norm_then<|wp_seq<|region<|run_ex rfl rfl (does_alloc (cs:=#[vI 0,vS ByteArray.empty,vI 0,vB false,vI 0,vI 0,vL none 0 0]) Tryd.zeroValue34 rfl) ?_
 rintro w2 _ hE2 ⟨b2,rfl,ge2,hb2⟩
 have HS2:=HS1.new hE2 ge2 hb2
 try simp only [sc0,sc1]
 refine run_nil<|norm_then<|wp_seq<|region<|rs (vP bp0 0) (r_move rfl) ?_
 obtain ⟨v1,H1,H⟩:=of_bind H
 have HS3:=HS2.f2
 rcases v1 with pv1|v1o
 ·refine run_callp (first:=[]) (vs:=[vP bp0 0]) (caps:=[]) Tryd.call110 rfl rfl (ctf_reader_int.calls k p0 bp0 Ap0 cp0 HS3 hrp0 hcp0 H1) ?_
  rintro _ w3 ⟨csq1,rfl,HS4⟩
  refine .inr ⟨_,rfl,?_⟩
  refine panic_then ?_
  obtain rfl:=Option.some.inj H
  refine bodyPost_panic rfl ?_
  have HS5:=HS4.d2
  have HS6:=HS5.d1
  exact ⟨h,csq1,rfl,hsub,HS6⟩
 refine run_callp (first:=[]) (vs:=[vP bp0 0]) (caps:=[]) Tryd.call110 rfl rfl (ctf_reader_int.calls k p0 bp0 Ap0 cp0 HS3 hrp0 hcp0 H1) ?_
 rintro _ w4 ⟨Av1o_p0,cv1o_p0,rfl,hcv1o_p0,hrv1o_p0,HS7⟩
 refine .inl ⟨_,rfl,?_⟩
 have HS8:=HS7.f2
 have HS9:=HS8.f2
 refine rs (vP b2 0) (r_fieldBox (n:=1) (o':=0) rfl Tryd.runUnderlying34 rfl Tryd.sizeOf3 (by decide) rfl)<|run_st (i:=0) (cs:=[vI 0,vS ByteArray.empty,vI 0,vB false,vI 0,vI 0,vL none 0 0]) (cs':=[vI v1o.1,vS ByteArray.empty,vI 0,vB false,vI 0,vI 0,vL none 0 0]) (vs:=[vI v1o.1]) (bs':=((some b2, .cells #[vI v1o.1,vS ByteArray.empty,vI 0,vB false,vI 0,vI 0,vL none 0 0] 34 (0,0))::(some b1, .cells #[vI 0,vS ByteArray.empty,vI 0,vB false,vI 0,vI 0,vL none 0 0] 34 (0,0))::(some bp0, .cells #[vL Av1o_p0 v1o.2.length cv1o_p0] 126 (0,0))::rest)) rfl rfl Tryd.sizeOf3 rfl rfl (by decide) rfl HS9 rfl (Nat.le_of_ble_eq_true rfl) rfl rfl ?_
 intro w5 HS10
 try simp only [sc0,sc1]
 refine run_nil<|norm_then<|wp_seq<|region<|rs (vP bp0 0) (r_move rfl) ?_
 obtain ⟨v2,H2,H⟩:=of_bind H
 have HS11:=HS10.f2
 rcases v2 with pv2|v2o
 ·refine run_callp (first:=[]) (vs:=[vP bp0 0]) (caps:=[]) Tryd.call111 rfl rfl (ctf_reader_string.calls k v1o.2 bp0 Av1o_p0 cv1o_p0 HS11 hrv1o_p0 hcv1o_p0 H2) ?_
  rintro _ w6 ⟨csq2,rfl,HS12⟩
  refine .inr ⟨_,rfl,?_⟩
  refine panic_then ?_
  obtain rfl:=Option.some.inj H
  refine bodyPost_panic rfl ?_
  have HS13:=HS12.d2
  have HS14:=HS13.d1
  exact ⟨h,csq2,rfl,hsub,HS14⟩
 refine run_callp (first:=[]) (vs:=[vP bp0 0]) (caps:=[]) Tryd.call111 rfl rfl (ctf_reader_string.calls k v1o.2 bp0 Av1o_p0 cv1o_p0 HS11 hrv1o_p0 hcv1o_p0 H2) ?_
 rintro _ w7 ⟨Av2o_p0,cv2o_p0,rfl,hcv2o_p0,hrv2o_p0,HS15⟩
 refine .inl ⟨_,rfl,?_⟩
 have HS16:=HS15.f2
 have HS17:=HS16.f2
 refine rs (vP b2 1) (r_fieldBox (n:=1) (o':=1) rfl Tryd.runUnderlying34 rfl Tryd.sizeOf9 (by decide) rfl)<|run_st (i:=0) (cs:=[vI v1o.1,vS ByteArray.empty,vI 0,vB false,vI 0,vI 0,vL none 0 0]) (cs':=[vI v1o.1,vS v2o.1,vI 0,vB false,vI 0,vI 0,vL none 0 0]) (vs:=[vS v2o.1]) (bs':=((some b2, .cells #[vI v1o.1,vS v2o.1,vI 0,vB false,vI 0,vI 0,vL none 0 0] 34 (0,0))::(some b1, .cells #[vI 0,vS ByteArray.empty,vI 0,vB false,vI 0,vI 0,vL none 0 0] 34 (0,0))::(some bp0, .cells #[vL Av2o_p0 v2o.2.length cv2o_p0] 126 (0,0))::rest)) rfl rfl Tryd.sizeOf9 rfl rfl (by decide) rfl HS17 rfl (Nat.le_of_ble_eq_true rfl) rfl rfl ?_
 intro w8 HS18
 try simp only [sc0,sc1]
 refine run_nil<|norm_then<|wp_seq<|region<|rs (vP bp0 0) (r_move rfl) ?_
 obtain ⟨v3,H3,H⟩:=of_bind H
 have HS19:=HS18.f2
 rcases v3 with pv3|v3o
 ·refine run_callp (first:=[]) (vs:=[vP bp0 0]) (caps:=[]) Tryd.call110 rfl rfl (ctf_reader_int.calls k v2o.2 bp0 Av2o_p0 cv2o_p0 HS19 hrv2o_p0 hcv2o_p0 H3) ?_
  rintro _ w9 ⟨csq3,rfl,HS20⟩
  refine .inr ⟨_,rfl,?_⟩
  refine panic_then ?_
  obtain rfl:=Option.some.inj H
  refine bodyPost_panic rfl ?_
  have HS21:=HS20.d2
  have HS22:=HS21.d1
  exact ⟨h,csq3,rfl,hsub,HS22⟩
 refine run_callp (first:=[]) (vs:=[vP bp0 0]) (caps:=[]) Tryd.call110 rfl rfl (ctf_reader_int.calls k v2o.2 bp0 Av2o_p0 cv2o_p0 HS19 hrv2o_p0 hcv2o_p0 H3) ?_
 rintro _ w10 ⟨Av3o_p0,cv3o_p0,rfl,hcv3o_p0,hrv3o_p0,HS23⟩
 refine .inl ⟨_,rfl,?_⟩
 have HS24:=HS23.f2
 have HS25:=HS24.f2
 refine rs (vP b2 2) (r_fieldBox (n:=2) (o':=2) rfl Tryd.runUnderlying34 rfl Tryd.sizeOf31 (by decide) rfl)<|rs (vP b2 2) (r_fieldBox (n:=1) (o':=2) rfl Tryd.runUnderlying31 rfl Tryd.sizeOf3 (by decide) rfl)<|run_frame (by simp only [sc0,sc1];rfl) ?_
 refine run_st (i:=0) (cs:=[vI v1o.1,vS v2o.1,vI 0,vB false,vI 0,vI 0,vL none 0 0]) (cs':=[vI v1o.1,vS v2o.1,vI v3o.1,vB false,vI 0,vI 0,vL none 0 0]) (vs:=[vI v3o.1]) (bs':=((some b2, .cells #[vI v1o.1,vS v2o.1,vI v3o.1,vB false,vI 0,vI 0,vL none 0 0] 34 (0,0))::(some b1, .cells #[vI 0,vS ByteArray.empty,vI 0,vB false,vI 0,vI 0,vL none 0 0] 34 (0,0))::(some bp0, .cells #[vL Av3o_p0 v3o.2.length cv3o_p0] 126 (0,0))::rest)) rfl rfl Tryd.sizeOf3 rfl rfl (by decide) rfl HS25 rfl (Nat.le_of_ble_eq_true rfl) rfl rfl ?_
 intro w11 HS26
 try simp only [sc0,sc1]
 refine run_nil<|norm_then<|wp_seq<|region<|rs (vP bp0 0) (r_move rfl) ?_
 obtain ⟨v4,H4,H⟩:=of_bind H
 have HS27:=HS26.f2
 rcases v4 with pv4|v4o
 ·refine run_callp (first:=[]) (vs:=[vP bp0 0]) (caps:=[]) Tryd.call112 rfl rfl (ctf_reader_bool.calls v3o.2 bp0 Av3o_p0 cv3o_p0 HS27 hrv3o_p0 hcv3o_p0 H4) ?_
  rintro _ w12 ⟨csq4,rfl,HS28⟩
  refine .inr ⟨_,rfl,?_⟩
  refine panic_then ?_
  obtain rfl:=Option.some.inj H
  refine bodyPost_panic rfl ?_
  have HS29:=HS28.d2
  have HS30:=HS29.d1
  exact ⟨h,csq4,rfl,hsub,HS30⟩
 refine run_callp (first:=[]) (vs:=[vP bp0 0]) (caps:=[]) Tryd.call112 rfl rfl (ctf_reader_bool.calls v3o.2 bp0 Av3o_p0 cv3o_p0 HS27 hrv3o_p0 hcv3o_p0 H4) ?_
 rintro _ w13 ⟨Av4o_p0,cv4o_p0,rfl,hcv4o_p0,hrv4o_p0,HS31⟩
 refine .inl ⟨_,rfl,?_⟩
 have HS32:=HS31.f2
 have HS33:=HS32.f2
 refine rs (vP b2 2) (r_fieldBox (n:=2) (o':=2) rfl Tryd.runUnderlying34 rfl Tryd.sizeOf31 (by decide) rfl)<|rs (vP b2 3) (r_fieldBox (n:=1) (o':=3) rfl Tryd.runUnderlying31 rfl Tryd.sizeOf4 (by decide) rfl)<|run_frame (by simp only [sc0,sc1];rfl) ?_
 refine run_st (i:=0) (cs:=[vI v1o.1,vS v2o.1,vI v3o.1,vB false,vI 0,vI 0,vL none 0 0]) (cs':=[vI v1o.1,vS v2o.1,vI v3o.1,vB v4o.1,vI 0,vI 0,vL none 0 0]) (vs:=[vB v4o.1]) (bs':=((some b2, .cells #[vI v1o.1,vS v2o.1,vI v3o.1,vB v4o.1,vI 0,vI 0,vL none 0 0] 34 (0,0))::(some b1, .cells #[vI 0,vS ByteArray.empty,vI 0,vB false,vI 0,vI 0,vL none 0 0] 34 (0,0))::(some bp0, .cells #[vL Av4o_p0 v4o.2.length cv4o_p0] 126 (0,0))::rest)) rfl rfl Tryd.sizeOf4 rfl rfl (by decide) rfl HS33 rfl (Nat.le_of_ble_eq_true rfl) rfl rfl ?_
 intro w14 HS34
 try simp only [sc0,sc1]
 refine run_nil<|norm_then<|wp_seq<|region<|rs (vP bp0 0) (r_move rfl) ?_
 obtain ⟨v5,H5,H⟩:=of_bind H
 have HS35:=HS34.f2
 rcases v5 with pv5|v5o
 ·refine run_callp (first:=[]) (vs:=[vP bp0 0]) (caps:=[]) Tryd.call110 rfl rfl (ctf_reader_int.calls k v4o.2 bp0 Av4o_p0 cv4o_p0 HS35 hrv4o_p0 hcv4o_p0 H5) ?_
  rintro _ w15 ⟨csq5,rfl,HS36⟩
  refine .inr ⟨_,rfl,?_⟩
  refine panic_then ?_
  obtain rfl:=Option.some.inj H
  refine bodyPost_panic rfl ?_
  have HS37:=HS36.d2
  have HS38:=HS37.d1
  exact ⟨h,csq5,rfl,hsub,HS38⟩
 refine run_callp (first:=[]) (vs:=[vP bp0 0]) (caps:=[]) Tryd.call110 rfl rfl (ctf_reader_int.calls k v4o.2 bp0 Av4o_p0 cv4o_p0 HS35 hrv4o_p0 hcv4o_p0 H5) ?_
 rintro _ w16 ⟨Av5o_p0,cv5o_p0,rfl,hcv5o_p0,hrv5o_p0,HS39⟩
 refine .inl ⟨_,rfl,?_⟩
 have HS40:=HS39.f2
 have HS41:=HS40.f2
 refine rs (vP b2 4) (r_fieldBox (n:=1) (o':=4) rfl Tryd.runUnderlying34 rfl Tryd.sizeOf3 (by decide) rfl)<|run_st (i:=0) (cs:=[vI v1o.1,vS v2o.1,vI v3o.1,vB v4o.1,vI 0,vI 0,vL none 0 0]) (cs':=[vI v1o.1,vS v2o.1,vI v3o.1,vB v4o.1,vI v5o.1,vI 0,vL none 0 0]) (vs:=[vI v5o.1]) (bs':=((some b2, .cells #[vI v1o.1,vS v2o.1,vI v3o.1,vB v4o.1,vI v5o.1,vI 0,vL none 0 0] 34 (0,0))::(some b1, .cells #[vI 0,vS ByteArray.empty,vI 0,vB false,vI 0,vI 0,vL none 0 0] 34 (0,0))::(some bp0, .cells #[vL Av5o_p0 v5o.2.length cv5o_p0] 126 (0,0))::rest)) rfl rfl Tryd.sizeOf3 rfl rfl (by decide) rfl HS41 rfl (Nat.le_of_ble_eq_true rfl) rfl rfl ?_
 intro w17 HS42
 try simp only [sc0,sc1]
 refine run_nil<|norm_then<|wp_seq<|region<|rs (vP bp0 0) (r_move rfl) ?_
 obtain ⟨v6,H6,H⟩:=of_bind H
 have HS43:=HS42.f2
 rcases v6 with pv6|v6o
 ·refine run_callp (first:=[]) (vs:=[vP bp0 0]) (caps:=[]) Tryd.call110 rfl rfl (ctf_reader_int.calls k v5o.2 bp0 Av5o_p0 cv5o_p0 HS43 hrv5o_p0 hcv5o_p0 H6) ?_
  rintro _ w18 ⟨csq6,rfl,HS44⟩
  refine .inr ⟨_,rfl,?_⟩
  refine panic_then ?_
  obtain rfl:=Option.some.inj H
  refine bodyPost_panic rfl ?_
  have HS45:=HS44.d2
  have HS46:=HS45.d1
  exact ⟨h,csq6,rfl,hsub,HS46⟩
 refine run_callp (first:=[]) (vs:=[vP bp0 0]) (caps:=[]) Tryd.call110 rfl rfl (ctf_reader_int.calls k v5o.2 bp0 Av5o_p0 cv5o_p0 HS43 hrv5o_p0 hcv5o_p0 H6) ?_
 rintro _ w19 ⟨Av6o_p0,cv6o_p0,rfl,hcv6o_p0,hrv6o_p0,HS47⟩
 refine .inl ⟨_,rfl,?_⟩
 have HS48:=HS47.f2
 have HS49:=HS48.f2
 refine rs (vP b2 5) (r_fieldBox (n:=1) (o':=5) rfl Tryd.runUnderlying34 rfl Tryd.sizeOf3 (by decide) rfl)<|run_st (i:=0) (cs:=[vI v1o.1,vS v2o.1,vI v3o.1,vB v4o.1,vI v5o.1,vI 0,vL none 0 0]) (cs':=[vI v1o.1,vS v2o.1,vI v3o.1,vB v4o.1,vI v5o.1,vI v6o.1,vL none 0 0]) (vs:=[vI v6o.1]) (bs':=((some b2, .cells #[vI v1o.1,vS v2o.1,vI v3o.1,vB v4o.1,vI v5o.1,vI v6o.1,vL none 0 0] 34 (0,0))::(some b1, .cells #[vI 0,vS ByteArray.empty,vI 0,vB false,vI 0,vI 0,vL none 0 0] 34 (0,0))::(some bp0, .cells #[vL Av6o_p0 v6o.2.length cv6o_p0] 126 (0,0))::rest)) rfl rfl Tryd.sizeOf3 rfl rfl (by decide) rfl HS49 rfl (Nat.le_of_ble_eq_true rfl) rfl rfl ?_
 intro w20 HS50
 try simp only [sc0,sc1]
 refine run_nil<|norm_then<|wp_seq<|region<|rs (vP bp0 0) (r_move rfl)<|rs (vP bp0 0) (r_move rfl)<|rs (Value.func (.func 114) #[vP bp0 0] #[]) (r_first (fv:=[vP bp0 0]) (cv:=[]) rfl rfl) ?_
 obtain ⟨v7,H7,H⟩:=of_bind H
 have HS51:=HS50.f2
 rcases v7 with pv7|v7o
 ·refine run_callp (first:=[]) (vs:=[vP bp0 0,Value.func (.func 114) #[vP bp0 0] #[]]) (caps:=[]) Tryd.call113 rfl rfl (ctf_list_api_Field.calls k v6o.2 bp0 Av6o_p0 cv6o_p0 HS51 hrv6o_p0 hcv6o_p0 H7) ?_
  rintro _ w21 ⟨h1,csq7,rfl,hs13,HS52⟩
  refine .inr ⟨_,rfl,?_⟩
  replace hrp0:Rd (Kd.int .u8) h1 Ap0 p0:=hrp0.ext hs13
  replace hsub:Sub h h1:=hsub.then hs13
  replace hrv1o_p0:Rd (Kd.int .u8) h1 Av1o_p0 v1o.2:=hrv1o_p0.ext hs13
  replace hrv2o_p0:Rd (Kd.int .u8) h1 Av2o_p0 v2o.2:=hrv2o_p0.ext hs13
  replace hrv3o_p0:Rd (Kd.int .u8) h1 Av3o_p0 v3o.2:=hrv3o_p0.ext hs13
  replace hrv4o_p0:Rd (Kd.int .u8) h1 Av4o_p0 v4o.2:=hrv4o_p0.ext hs13
  replace hrv5o_p0:Rd (Kd.int .u8) h1 Av5o_p0 v5o.2:=hrv5o_p0.ext hs13
  replace hrv6o_p0:Rd (Kd.int .u8) h1 Av6o_p0 v6o.2:=hrv6o_p0.ext hs13
  refine panic_then ?_
  obtain rfl:=Option.some.inj H
  refine bodyPost_panic rfl ?_
  have HS53:=HS52.d2
  have HS54:=HS53.d1
  exact ⟨h1,csq7,rfl,hsub,HS54⟩
 refine run_callp (first:=[]) (vs:=[vP bp0 0,Value.func (.func 114) #[vP bp0 0] #[]]) (caps:=[]) Tryd.call113 rfl rfl (ctf_list_api_Field.calls k v6o.2 bp0 Av6o_p0 cv6o_p0 HS51 hrv6o_p0 hcv6o_p0 H7) ?_
 rintro _ w22 ⟨h2,Av7o_r0_0,cv7o_r0_0,Av7o_p0,cv7o_p0,rfl,hcv7o_r0_0,hrv7o_r0_0,hcv7o_p0,hrv7o_p0,hs14,HS55⟩
 refine .inl ⟨_,rfl,?_⟩
 replace hrp0:Rd (Kd.int .u8) h2 Ap0 p0:=hrp0.ext hs14
 replace hsub:Sub h h2:=hsub.then hs14
 replace hrv1o_p0:Rd (Kd.int .u8) h2 Av1o_p0 v1o.2:=hrv1o_p0.ext hs14
 replace hrv2o_p0:Rd (Kd.int .u8) h2 Av2o_p0 v2o.2:=hrv2o_p0.ext hs14
 replace hrv3o_p0:Rd (Kd.int .u8) h2 Av3o_p0 v3o.2:=hrv3o_p0.ext hs14
 replace hrv4o_p0:Rd (Kd.int .u8) h2 Av4o_p0 v4o.2:=hrv4o_p0.ext hs14
 replace hrv5o_p0:Rd (Kd.int .u8) h2 Av5o_p0 v5o.2:=hrv5o_p0.ext hs14
 replace hrv6o_p0:Rd (Kd.int .u8) h2 Av6o_p0 v6o.2:=hrv6o_p0.ext hs14
 have HS56:=HS55.f2
 have HS57:=HS56.f2
 refine run_frame (by simp only [sc0,sc1];rfl) ?_
 refine rs (vP b2 6) (r_fieldBox (n:=1) (o':=6) rfl Tryd.runUnderlying34 rfl Tryd.sizeOf32 (by decide) rfl)<|run_st (i:=0) (cs:=[vI v1o.1,vS v2o.1,vI v3o.1,vB v4o.1,vI v5o.1,vI v6o.1,vL none 0 0]) (cs':=[vI v1o.1,vS v2o.1,vI v3o.1,vB v4o.1,vI v5o.1,vI v6o.1,vL Av7o_r0_0 v7o.1.length cv7o_r0_0]) (vs:=[vL Av7o_r0_0 v7o.1.length cv7o_r0_0]) (bs':=((some b2, .cells #[vI v1o.1,vS v2o.1,vI v3o.1,vB v4o.1,vI v5o.1,vI v6o.1,vL Av7o_r0_0 v7o.1.length cv7o_r0_0] 34 (0,0))::(some b1, .cells #[vI 0,vS ByteArray.empty,vI 0,vB false,vI 0,vI 0,vL none 0 0] 34 (0,0))::(some bp0, .cells #[vL Av7o_p0 v7o.2.length cv7o_p0] 126 (0,0))::rest)) rfl rfl Tryd.sizeOf32 rfl rfl (by decide) rfl HS57 rfl (Nat.le_of_ble_eq_true rfl) rfl rfl ?_
 intro w23 HS58
 try simp only [sc0,sc1]
 refine run_nil<|norm_then<|wp_seq<|region<|rs (Value.agg #[vI v1o.1,vS v2o.1,vI v3o.1,vB v4o.1,vI v5o.1,vI v6o.1,vL Av7o_r0_0 v7o.1.length cv7o_r0_0]) (r_loadBoxAgg (n:=7) (vs:=[vI v1o.1,vS v2o.1,vI v3o.1,vB v4o.1,vI v5o.1,vI v6o.1,vL Av7o_r0_0 v7o.1.length cv7o_r0_0]) rfl Tryd.isAgg34 (HS58.look 0 rfl) Tryd.sizeOf34 rfl rfl)<|run_st (i:=1) (cs:=[vI 0,vS ByteArray.empty,vI 0,vB false,vI 0,vI 0,vL none 0 0]) (cs':=[vI v1o.1,vS v2o.1,vI v3o.1,vB v4o.1,vI v5o.1,vI v6o.1,vL Av7o_r0_0 v7o.1.length cv7o_r0_0]) (vs:=[vI v1o.1,vS v2o.1,vI v3o.1,vB v4o.1,vI v5o.1,vI v6o.1,vL Av7o_r0_0 v7o.1.length cv7o_r0_0]) (bs':=((some b2, .cells #[vI v1o.1,vS v2o.1,vI v3o.1,vB v4o.1,vI v5o.1,vI v6o.1,vL Av7o_r0_0 v7o.1.length cv7o_r0_0] 34 (0,0))::(some b1, .cells #[vI v1o.1,vS v2o.1,vI v3o.1,vB v4o.1,vI v5o.1,vI v6o.1,vL Av7o_r0_0 v7o.1.length cv7o_r0_0] 34 (0,0))::(some bp0, .cells #[vL Av7o_p0 v7o.2.length cv7o_p0] 126 (0,0))::rest)) rfl rfl Tryd.sizeOf34 rfl rfl (by decide) rfl HS58 rfl (Nat.le_of_ble_eq_true rfl) rfl rfl ?_
 intro w24 HS59
 try simp only [sc0,sc1]
 refine run_nil<|norm_then<|wp_ret ?_
 obtain rfl:=Option.some.inj H
 refine bodyPost_ret (results_1 rfl (one_agg rfl Tryd.isAgg34 (HS59.look 1 rfl) Tryd.sizeOf34 rfl)) rfl ?_
 have HS60:=HS59.d1
 have HS61:=HS60.d0
 exact ⟨h2,Av7o_r0_0,cv7o_r0_0,Av7o_p0,cv7o_p0,rfl,hcv7o_r0_0,hrv7o_r0_0,hcv7o_p0,hrv7o_p0,hsub,HS61⟩
def ctf_list_api_Def.l0 (k:Nat) (v1o:Int×(List Int)):Nat→Int→(List Int)→(List api_Def)→Option ((Except Value ((List api_Def)×(List Int)))⊕((List Int)×(List api_Def)))
 |0,_,_,_=>none
 |m+1,y1_0,y1_1,y1_2=>if (decide (y1_0<v1o.1))=true then ((ctf_reader_def.f k y1_1).bind fun v2=>(match v2 with| .error pv2=>some (.inl (.error pv2))| .ok v2o=>(if y1_2.length+1≤4294967296 then (ctf_list_api_Def.l0 k v1o m (IntKind.wrap .i64 (y1_0+1)) v2o.2 (y1_2++([v2o.1]:List api_Def))) else none))) else (some (.inr (y1_1,y1_2)))
def ctf_list_api_Def.f (k:Nat) (p0:List Int):Option (Except Value ((List api_Def)×(List Int))):=(ctf_reader_int.f k p0).bind fun v1=>(match v1 with| .error pv1=>some (.error pv1)| .ok v1o=>(if ((decide (v1o.1<0))||(decide (v1o.1>(v1o.2.length:Int))))=true then (some (.error (Value.iface 120 (Value.agg #[])))) else ((ctf_list_api_Def.l0 k v1o k 0 v1o.2 ([]:List api_Def)).bind fun xx1=>(match xx1 with| .inl r=>some r| .inr s1=>some (.ok (s1.2,s1.1))))))
theorem ctf_list_api_Def.calls (k:Nat) (p0:List Int) (bp0:Nat) (Ap0:Option Addr) (cp0:Nat) {h0:View} {w0:World} {h:View} {w:World} {rest:List Res} (HS:St [] h0 w0 h ((some bp0, .cells #[vL Ap0 p0.length cp0] 126 (0,0))::rest) w) (hrp0:Rd (Kd.int .u8) h Ap0 p0) (hcp0:p0.length≤cp0) {r:Except Value ((List api_Def)×(List Int))} (H:ctf_list_api_Def.f k p0=some r):Calls Tryd.prog 73 #[vP bp0 0,Value.func (.func 74) #[vP bp0 0] #[]] w (fun e w1=>match r with| .ok rok=>(∃(h1:View),∃(Az_r0_0:Option Addr) (cz_r0_0:Nat),∃(Az_p0:Option Addr) (cz_p0:Nat),e= .returned (vL Az_r0_0 rok.1.length cz_r0_0)∧rok.1.length≤cz_r0_0∧Rd k_api_Def h1 Az_r0_0 rok.1∧rok.2.length≤cz_p0∧Rd (Kd.int .u8) h1 Az_p0 rok.2∧Sub h h1∧St [] h0 w0 h1 ((some bp0, .cells #[vL Az_p0 rok.2.length cz_p0] 126 (0,0))::rest) w1)| .error pv=>(∃h1:View,∃csp0:List Value,e= .panicked [{v:=pv,recovered:=false}]∧Sub h h1∧St [] h0 w0 h1 ((some bp0, .cells csp0.toArray 126 (0,0))::rest) w1)):=by
 unfold ctf_list_api_Def.f at H
 have hsub:Sub h h:=Sub.rfl' h
 go_enter Tryd.func73,Tryd.ntmps73
 refine wp_seq<|region<|rs (vL none 0 0) (r_assign rfl) ?_
 try simp only [sc0,sc1]
 refine run_nil<|norm_then<|wp_seq<|region<|rs (vP bp0 0) (r_move rfl) ?_
 obtain ⟨v1,H1,H⟩:=of_bind H
 rcases v1 with pv1|v1o
 ·refine run_callp (first:=[]) (vs:=[vP bp0 0]) (caps:=[]) Tryd.call110 rfl rfl (ctf_reader_int.calls k p0 bp0 Ap0 cp0 HS hrp0 hcp0 H1) ?_
  rintro _ w1 ⟨csq1,rfl,HS1⟩
  refine .inr ⟨_,rfl,?_⟩
  refine panic_then ?_
  obtain rfl:=Option.some.inj H
  exact bodyPost_panic rfl<|⟨h,csq1,rfl,hsub,HS1⟩
 refine run_callp (first:=[]) (vs:=[vP bp0 0]) (caps:=[]) Tryd.call110 rfl rfl (ctf_reader_int.calls k p0 bp0 Ap0 cp0 HS hrp0 hcp0 H1) ?_
 rintro _ w2 ⟨Av1o_p0,cv1o_p0,rfl,hcv1o_p0,hrv1o_p0,HS2⟩
 refine .inl ⟨_,rfl,?_⟩
 refine rs (vI v1o.1) (r_assign rfl) ?_
 try simp only [sc0,sc1]
 refine run_nil<|norm_then<|wp_seq<|wp_seq<|region<|rs (vI v1o.1) (r_move rfl)<|rs (vB (decide (v1o.1<0))) (r_bin rfl rfl rfl)<|rs (vB (decide (v1o.1<0))) (r_move rfl)<|rgs (decide (v1o.1<0)) true (vI v1o.1) rfl rfl rfl rfl (fun hg=>(r_move rfl))<|run_frame (by simp only [sc0,sc1];rfl) ?_
 refine rgs (decide (v1o.1<0)) true (vP bp0 0) rfl rfl rfl rfl (fun hg=>(r_move rfl))<|rgs (decide (v1o.1<0)) true (vP bp0 0) rfl rfl rfl rfl (fun hg=>(r_nilCheck (gvt (vP bp0 0) hg rfl)))<|rgs (decide (v1o.1<0)) true (vP bp0 0) rfl rfl rfl rfl (fun hg=>(r_fieldBox (n:=1) (o':=0) (gvt (vP bp0 0) hg rfl) Tryd.runUnderlying126 rfl Tryd.sizeOf124 (by decide) rfl))<|rgs (decide (v1o.1<0)) true (vP bp0 0) rfl rfl rfl rfl (fun hg=>(r_fieldBox (n:=1) (o':=0) (gvt (vP bp0 0) hg rfl) Tryd.runUnderlying124 rfl Tryd.sizeOf80 (by decide) rfl))<|run_frame (by simp only [sc0,sc1];rfl) ?_
 refine rgs (decide (v1o.1<0)) true (vL Av1o_p0 v1o.2.length cv1o_p0) rfl rfl rfl rfl (fun hg=>(r_loadBox (gvt (vP bp0 0) hg rfl) Tryd.isAgg80 (HS2.look 0 rfl) rfl))<|rgs (decide (v1o.1<0)) true (vI (v1o.2.length:Int)) rfl rfl rfl rfl (fun hg=>(r_len (gvt (vL Av1o_p0 v1o.2.length cv1o_p0) hg rfl) Tryd.runUnderlying80))<|rgs (decide (v1o.1<0)) true (vB (decide (v1o.1>(v1o.2.length:Int)))) rfl rfl rfl rfl (fun hg=>(r_bin (gvt (vI v1o.1) hg rfl) (gvt (vI (v1o.2.length:Int)) hg rfl) rfl))<|rs (vB ((decide (v1o.1<0))||(decide (v1o.1>(v1o.2.length:Int))))) (r_pick_or rfl rfl (fun hp=>(gvt (vB (decide (v1o.1>(v1o.2.length:Int)))) (and_i rfl hp) rfl))) ?_
 try simp only [sc0,sc1]
 refine run_nil<|norm_then<|wp_cond_split (t:=((decide (v1o.1<0))||(decide (v1o.1>(v1o.2.length:Int))))) rfl (fun c1=>?_) (fun c1=>?_)
 ·replace H:=of_pos H c1
  refine region<|rs (Value.agg #[]) (r_build0 (cs:=[]) Tryd.zeroValue120 Tryd.runUnderlying120 (pl:=#[]) (fun w=>by simp []) rfl) ?_
  refine rs (Value.iface 120 (Value.agg #[])) (r_iface rfl Tryd.runUnderlying120 (by intro m hm;cases hm)) ?_
  refine run_panic rfl<|panic_then ?_
  obtain rfl:=Option.some.inj H
  exact bodyPost_panic rfl<|⟨h,[vL Av1o_p0 v1o.2.length cv1o_p0],rfl,hsub,HS2⟩
 ·replace H:=of_neg H (nt c1)
  refine wp_skip<|norm_then<|wp_seq<|region<|rs (vL none 0 0) (r_assign rfl) ?_
  try simp only [sc0,sc1]
  refine run_nil<|norm_then<|wp_seq<|wp_seq<|region<|rs (vI v1o.1) (r_move rfl)<|rs (vI 0) (r_move rfl) ?_
  try simp only [sc0,sc1]
  refine run_nil<|norm_then ?_
  have HS3:=HS2.nothing (.cells ([]:List Value).toArray 34 (0,0))
  obtain ⟨xx1,H,G1⟩:=of_bind H
  refine loop_j [6,24,25,26,27,28,29,30,31] (fun m us w'=>∃y1_0:Int,∃y1_1:List Int,∃y1_2:List api_Def,∃h1:View,∃(Ay1_1:Option Addr) (cy1_1:Nat),∃(oby1_2:Option Nat) (cy1_2:Nat),∃(csy1_2:List Value),Fit us (fun uy1=>[vL (rowA oby1_2) y1_2.length cy1_2,vI y1_0,(uy1 2),(uy1 3),(uy1 4),(uy1 5),(uy1 6),(uy1 7),(uy1 8)])∧ctf_list_api_Def.l0 k v1o m y1_0 y1_1 y1_2=some xx1∧y1_1.length≤cy1_1∧Rd (Kd.int .u8) h1 Ay1_1 y1_1∧RowOk k_api_Def h1 y1_2 oby1_2 y1_2.length cy1_2 csy1_2∧Rd (Kd.int .u8) h1 Ap0 p0∧Sub h h1∧Rd (Kd.int .u8) h1 Av1o_p0 v1o.2∧St [] h0 w0 h1 ((oby1_2, .cells (csy1_2).toArray 34 (0,0))::(some bp0, .cells #[vL Ay1_1 y1_1.length cy1_1] 126 (0,0))::rest) w') (fun us w'=>∃(s1:(List Int)×(List api_Def)),xx1= .inr s1∧∃(h4:View),∃(Ao1_0:Option Addr) (co1_0:Nat),∃(obo1_1:Option Nat) (co1_1:Nat),∃(cso1_1:List Value),Fit us (fun uo1=>[vL (rowA obo1_1) s1.2.length co1_1,(uo1 1),(uo1 2),(uo1 3),(uo1 4),(uo1 5),(uo1 6),(uo1 7),(uo1 8)])∧s1.1.length≤co1_0∧Rd (Kd.int .u8) h4 Ao1_0 s1.1∧RowOk k_api_Def h4 s1.2 obo1_1 s1.2.length co1_1 cso1_1∧Rd (Kd.int .u8) h4 Ap0 p0∧Sub h h4∧Rd (Kd.int .u8) h4 Av1o_p0 v1o.2∧St [] h0 w0 h4 ((obo1_1, .cells (cso1_1).toArray 34 (0,0))::(some bp0, .cells #[vL Ao1_0 s1.1.length co1_0] 126 (0,0))::rest) w') k ⟨0,v1o.2,([]:List api_Def),h,Av1o_p0,cv1o_p0,none,0,([]:List Value),(fit rfl),H,hcv1o_p0,hrv1o_p0,(RowOk.none' k_api_Def _).norm,hrp0,hsub,hrv1o_p0,HS3⟩ ?_ ?_
  ·rintro m us w3 ⟨y1_0,y1_1,y1_2,h1,Ay1_1,cy1_1,oby1_2,cy1_2,csy1_2,huy1,H,hcy1_1,hry1_1,hoy1_2,hrp0,hsub,hrv1o_p0,HS4⟩
   obtain ⟨uy1,rfl⟩:=unj huy1
   cases m with
   |zero=>exact absurd H (by simp [ctf_list_api_Def.l0])
   |succ m=>
    rw [ctf_list_api_Def.l0] at H
    try simp only [patch,sc0,sc1]
    refine wp_seq<|region<|rs (vB (decide (y1_0<v1o.1))) (r_bin rfl rfl rfl) ?_
    try simp only [sc0,sc1]
    refine run_nil<|norm_then<|wp_seq<|wp_cond_split (t:=(decide (y1_0<v1o.1))) rfl (fun c2=>?_) (fun c2=>?_)
    ·replace H:=of_pos H c2
     refine wp_skip<|norm_then<|wp_seq<|wp_block<|region<|rs (vL (rowA oby1_2) y1_2.length cy1_2) (r_move rfl)<|rs (Value.func (.func 74) #[vP bp0 0] #[]) (r_move rfl) ?_
     obtain ⟨v2,H2,H⟩:=of_bind H
     have HS5:=HS4.f1
     rcases v2 with pv2|v2o
     ·refine run_callp (first:=[vP bp0 0]) (vs:=[]) (caps:=[]) Tryd.call74 rfl rfl (ctf_reader_def.calls k y1_1 bp0 Ay1_1 cy1_1 HS5 hry1_1 hcy1_1 H2) ?_
      rintro _ w4 ⟨h2,csq2,rfl,hs3,HS6⟩
      refine .inr ⟨_,rfl,?_⟩
      replace hrp0:Rd (Kd.int .u8) h2 Ap0 p0:=hrp0.ext hs3
      replace hsub:Sub h h2:=hsub.then hs3
      replace hrv1o_p0:Rd (Kd.int .u8) h2 Av1o_p0 v1o.2:=hrv1o_p0.ext hs3
      replace hry1_1:Rd (Kd.int .u8) h2 Ay1_1 y1_1:=hry1_1.ext hs3
      replace hoy1_2:=hoy1_2.view hs3
      refine panic_block<|panic_then<|panic_loop<|panic_then ?_
      obtain rfl:=Option.some.inj H
      obtain rfl:=Option.some.inj G1
      refine bodyPost_panic rfl ?_
      have HS7:=HS6.d1
      exact ⟨h2,csq2,rfl,hsub,HS7⟩
     refine run_callp (first:=[vP bp0 0]) (vs:=[]) (caps:=[]) Tryd.call74 rfl rfl (ctf_reader_def.calls k y1_1 bp0 Ay1_1 cy1_1 HS5 hry1_1 hcy1_1 H2) ?_
     rintro _ w5 ⟨h3,Av2o_r0_6,cv2o_r0_6,Av2o_p0,cv2o_p0,rfl,hcv2o_r0_6,hrv2o_r0_6,hcv2o_p0,hrv2o_p0,hs4,HS8⟩
     refine .inl ⟨_,rfl,?_⟩
     replace hrp0:Rd (Kd.int .u8) h3 Ap0 p0:=hrp0.ext hs4
     replace hsub:Sub h h3:=hsub.then hs4
     replace hrv1o_p0:Rd (Kd.int .u8) h3 Av1o_p0 v1o.2:=hrv1o_p0.ext hs4
     replace hry1_1:Rd (Kd.int .u8) h3 Ay1_1 y1_1:=hry1_1.ext hs4
     replace hoy1_2:=hoy1_2.view hs4
     have HS9:=HS8.f1
     refine run_bs k_api_Def (xs:=([v2o.1]:List api_Def)) (n:=1) (cs:=[vI v2o.1.vKind,vS v2o.1.vName,vI v2o.1.vInt.vSize,vB v2o.1.vInt.vSigned,vI v2o.1.vRef,vI v2o.1.vN,vL Av2o_r0_6 v2o.1.vFields.length cv2o_r0_6]) Tryd.runUnderlying22 Tryd.typeInfo34 Tryd.zeroValue34 rfl rfl (by decide) (by decide) (by decide) [Value.agg #[vI v2o.1.vKind,vS v2o.1.vName,vI v2o.1.vInt.vSize,vB v2o.1.vInt.vSigned,vI v2o.1.vRef,vI v2o.1.vN,vL Av2o_r0_6 v2o.1.vFields.length cv2o_r0_6]] (parts_any.trans rfl) rfl rfl rfl rfl (elems_cons (qs:=[vI v2o.1.vKind,vS v2o.1.vName,vI v2o.1.vInt.vSize,vB v2o.1.vInt.vSigned,vI v2o.1.vRef,vI v2o.1.vN,vL Av2o_r0_6 v2o.1.vFields.length cv2o_r0_6]) ⟨[vI v2o.1.vKind],[vS v2o.1.vName,vI v2o.1.vInt.vSize,vB v2o.1.vInt.vSigned,vI v2o.1.vRef,vI v2o.1.vN,vL Av2o_r0_6 v2o.1.vFields.length cv2o_r0_6],rfl,rfl,⟨[vS v2o.1.vName],[vI v2o.1.vInt.vSize,vB v2o.1.vInt.vSigned,vI v2o.1.vRef,vI v2o.1.vN,vL Av2o_r0_6 v2o.1.vFields.length cv2o_r0_6],rfl,rfl,⟨[vI v2o.1.vInt.vSize,vB v2o.1.vInt.vSigned],[vI v2o.1.vRef,vI v2o.1.vN,vL Av2o_r0_6 v2o.1.vFields.length cv2o_r0_6],rfl,⟨[vI v2o.1.vInt.vSize],[vB v2o.1.vInt.vSigned],rfl,rfl,rfl⟩,⟨[vI v2o.1.vRef],[vI v2o.1.vN,vL Av2o_r0_6 v2o.1.vFields.length cv2o_r0_6],rfl,rfl,⟨[vI v2o.1.vN],[vL Av2o_r0_6 v2o.1.vFields.length cv2o_r0_6],rfl,rfl,⟨Av2o_r0_6,cv2o_r0_6,rfl,hcv2o_r0_6,hrv2o_r0_6⟩⟩⟩⟩⟩⟩ (elems_nil (cs:=[]))) HS9 ?_
     intro w6 b1 HS10 ho1
     refine run_frame (by simp only [sc0,sc1];rfl) ?_
     obtain ⟨hl1,H⟩:=of_ite H
     refine run_app k_api_Def (q:=1) (cs:=csy1_2) rfl rfl Tryd.runUnderlying22 Tryd.typeInfo34 Tryd.zeroValue34 rfl (by decide) rfl (src_row Tryd.runUnderlying22 HS10 (i:=0) rfl ho1 rfl) ho1.len (src_row_elems ho1) hl1 HS10 rfl hoy1_2 ?_
     intro w7 ob1 c3 cs1 HS11 ho2
     refine rs (vL (rowA ob1) (y1_2.length+1) c3) (r_assign rfl) ?_
     try simp only [sc0,sc1]
     refine run_nil<|norm_block<|norm_then<|region<|rs (vI (w64 (y1_0+1))) (r_bin rfl rfl rfl)<|rs (vI (w64 (y1_0+1))) (r_move rfl) ?_
     try simp only [sc0,sc1]
     refine run_nil<|again_j m (Nat.lt_succ_self m) rfl ⟨(w64 (y1_0+1)),v2o.2,(y1_2++([v2o.1]:List api_Def)),h3,Av2o_p0,cv2o_p0,ob1,c3,cs1,(fit (by first|rfl|(rw [ho2.len];done)|(rw [ho2.len];rfl))),H,hcv2o_p0,hrv2o_p0,ho2.norm,hrp0,hsub,hrv1o_p0,HS11.tail⟩
    ·replace H:=of_neg H (nt c2)
     refine wp_exit<|exit_then ?_
     obtain rfl:=Option.some.inj H
     refine leave_j rfl ⟨_,rfl,h1,Ay1_1,cy1_1,oby1_2,cy1_2,csy1_2,(fit rfl),hcy1_1,hry1_1,hoy1_2.norm,hrp0,hsub,hrv1o_p0,HS4⟩
  ·rintro us w8 ⟨s1,rfl,h4,Ao1_0,co1_0,obo1_1,co1_1,cso1_1,huo1,hco1_0,hro1_0,hoo1_1,hrp0,hsub,hrv1o_p0,HS12⟩
   obtain ⟨uo1,rfl⟩:=unj huo1
   replace H:=G1
   clear G1
   try simp only [patch,sc0,sc1]
   refine norm_then<|wp_seq<|region<|rs (vL (rowA obo1_1) s1.2.length co1_1) (r_move rfl)<|rs (vL (rowA obo1_1) s1.2.length co1_1) (r_assign rfl) ?_
   try simp only [sc0,sc1]
   refine run_nil<|norm_then<|wp_ret ?_
   obtain rfl:=Option.some.inj H
   refine bodyPost_ret (results_1 rfl (one_tmp rfl)) rfl ?_
   obtain ⟨h5,HS13,hs5,rdp1⟩:=row_pub HS12 (i:=0) rfl hoo1_1
   have HS14:St [] h0 w0 h5 ((some bp0, .cells #[vL Ao1_0 s1.1.length co1_0] 126 (0,0))::rest) w8:=HS13
   replace hrp0:Rd (Kd.int .u8) h5 Ap0 p0:=hrp0.ext hs5
   replace hsub:Sub h h5:=hsub.then hs5
   replace hrv1o_p0:Rd (Kd.int .u8) h5 Av1o_p0 v1o.2:=hrv1o_p0.ext hs5
   replace hro1_0:Rd (Kd.int .u8) h5 Ao1_0 s1.1:=hro1_0.ext hs5
   exact ⟨h5,(rowA obo1_1),co1_1,Ao1_0,co1_0,rfl,hoo1_1.cap,rdp1,hco1_0,hro1_0,hsub,HS14⟩
def ctf_Decode.f (k:Nat) (a0:List Int):Option (api_Types×Int):=(ctf_bytesLeft_take.f a0 4).bind fun v1=>(match v1 with| .error pv1=>(if badB pv1=true then some ((⟨[]⟩:api_Types),81) else none)| .ok v1o=>(if (!(strEq (strOf v1o.1) (⟨#[67,84,70,1]⟩:ByteArray)))=true then ((if badB (Value.iface 120 (Value.agg #[]))=true then some ((⟨[]⟩:api_Types),81) else none)) else ((ctf_list_api_Def.f k v1o.2).bind fun v2=>(match v2 with| .error pv2=>(if badB pv2=true then some ((⟨[]⟩:api_Types),81) else none)| .ok v2o=>(if (decide ((v2o.2.length:Int)>0))=true then ((if badB (Value.iface 120 (Value.agg #[]))=true then some ((⟨[]⟩:api_Types),81) else none)) else ((ctf_valid.f k (⟨v2o.1⟩:api_Types)).bind fun v3=>(if (!v3)=true then (some ((⟨[]⟩:api_Types),80)) else (some ((⟨v2o.1⟩:api_Types),0)))))))))
theorem ctf_Decode.calls (k:Nat) (a0:List Int) (A0_0:Option Addr) (c0_0:Nat) {h0:View} {w0:World} (hv:Sees h0 w0) (hr0_0:Rd (Kd.int .u8) h0 A0_0 a0) (hc0_0:a0.length≤c0_0) {r:api_Types×Int} (H:ctf_Decode.f k a0=some r):Calls Tryd.prog 38 #[vL A0_0 a0.length c0_0] w0 (fun e w1=>∃(h1:View) (A0_0:Option Addr) (c0_0:Nat),e= .returned (Value.tuple #[Value.agg #[vL A0_0 r.1.vDefs.length c0_0],vI r.2])∧r.1.vDefs.length≤c0_0∧Rd k_api_Def h1 A0_0 r.1.vDefs∧Gr w0.heap.size h0 h1∧Sees h1 w1∧Ext w0 w1):=by
 unfold ctf_Decode.f at H
 have HS:St [] h0 w0 h0 [] w0:=St.init hv
 go_enter_defers Tryd.func38,Tryd.ntmps38
 refine wp_seq<|region<|run_ex rfl rfl (does_alloc (cs:=#[vL none 0 0]) Tryd.zeroValue24 rfl) ?_
 rintro w1 _ hE1 ⟨b1,rfl,ge1,hb1⟩
 have HS1:=HS.new hE1 ge1 hb1
 refine run_ex rfl rfl (does_alloc (cs:=#[vI 0]) Tryd.zeroValue27 rfl) ?_
 rintro w2 _ hE2 ⟨b2,rfl,ge2,hb2⟩
 have HS2:=HS1.new hE2 ge2 hb2
 try simp only [sc0,sc1]
 refine run_nil<|norm_then<|wp_seq<|region<|rs (Value.func (.func 71) #[] #[vP b1 0,vP b2 0]) (r_makeFunc (vs:=[vP b1 0,vP b2 0]) rfl)<|run_defer rfl ?_
 try simp only [sc0,sc1]
 refine run_nil<|norm_then<|wp_seq<|region<|rs (vL A0_0 a0.length c0_0) (r_move rfl)<|rs (Value.agg #[vL A0_0 a0.length c0_0]) (r_build (cs:=[vL A0_0 a0.length c0_0]) (ps:=[(0,vL A0_0 a0.length c0_0)]) Tryd.zeroValue124 Tryd.runUnderlying124 (pl:=#[(0,1)]) (fun w=>by simp [Tryd.sizeOf80]) (parts_1 (show _=vL A0_0 a0.length c0_0 from rfl)) rfl) ?_
 refine rs (Value.agg #[vL A0_0 a0.length c0_0]) (r_build (cs:=[vL A0_0 a0.length c0_0]) (ps:=[(0,Value.agg #[vL A0_0 a0.length c0_0])]) Tryd.zeroValue126 Tryd.runUnderlying126 (pl:=#[(0,1)]) (fun w=>by simp [Tryd.sizeOf124]) (parts_1 (show _=Value.agg #[vL A0_0 a0.length c0_0] from rfl)) rfl) ?_
 refine run_ex rfl rfl (does_box (cs:=#[vL A0_0 a0.length c0_0]) rfl rfl) ?_
 rintro w3 _ hE3 ⟨b3,rfl,ge3,hb3⟩
 have HS3:=HS2.new hE3 ge3 hb3
 refine run_frame (by simp only [sc0,sc1];rfl) ?_
 refine rs (vP b3 0) (r_assign rfl) ?_
 try simp only [sc0,sc1]
 refine run_nil<|norm_then<|wp_seq<|wp_seq<|region<|rs (vP b3 0) (r_move rfl)<|rs (vP b3 0) (r_nilCheck rfl)<|rs (vP b3 0) (r_fieldBox (n:=1) (o':=0) rfl Tryd.runUnderlying126 rfl Tryd.sizeOf124 (by decide) rfl) ?_
 obtain ⟨v1,H1,H⟩:=of_bind H
 rcases v1 with pv1|v1o
 ·refine run_callp (first:=[]) (vs:=[vP b3 0,vI 4]) (caps:=[]) Tryd.call72 rfl rfl (ctf_bytesLeft_take.calls a0 4 b3 A0_0 c0_0 HS3 hr0_0 hc0_0 H1) ?_
  rintro _ w4 ⟨csq1,rfl,HS4⟩
  refine .inr ⟨_,rfl,?_⟩
  refine panic_then<|panic_then ?_
  obtain ⟨hbad,H⟩:=of_ite H
  first|(obtain rfl:=bad_of hbad)|skip
  obtain rfl:=Option.some.inj H
  have HS5:=HS4.f1
  have HS6:=HS5.f2
  refine catch_panic (caps:=[vP b1 0,vP b2 0]) Tryd.call71 (decode1_caught HS6 rfl rfl) ?_
  intro w5 HS7
  refine ⟨_,results_2 rfl (one_agg rfl Tryd.isAgg24 (HS7.look 0 rfl) Tryd.sizeOf24 rfl) (one_cell rfl Tryd.isAgg27 (HS7.look 1 rfl)),?_⟩
  exact ⟨h0,none,0,rfl,(Nat.le_refl 0),(Rd.nil _ _ _),HS7.gr,HS7.sees,HS7.toE⟩
 refine run_callp (first:=[]) (vs:=[vP b3 0,vI 4]) (caps:=[]) Tryd.call72 rfl rfl (ctf_bytesLeft_take.calls a0 4 b3 A0_0 c0_0 HS3 hr0_0 hc0_0 H1) ?_
 rintro _ w6 ⟨Av1o_r0_0,cv1o_r0_0,Av1o_p0,cv1o_p0,rfl,hcv1o_r0_0,hrv1o_r0_0,hcv1o_p0,hrv1o_p0,HS8⟩
 refine .inl ⟨_,rfl,?_⟩
 refine run_frame (by simp only [sc0,sc1];rfl) ?_
 refine rs (vS (strOf v1o.1)) (r_b2s rfl Tryd.runUnderlying80 Tryd.runUnderlying9 Tryd.runUnderlying5 HS8.sees hrv1o_r0_0)<|rs (vB (!(strEq (strOf v1o.1) (⟨#[67,84,70,1]⟩:ByteArray)))) (r_strneq rfl rfl) ?_
 try simp only [sc0,sc1]
 refine run_nil<|norm_then<|wp_cond_split (t:=(!(strEq (strOf v1o.1) (⟨#[67,84,70,1]⟩:ByteArray)))) rfl (fun c1=>?_) (fun c1=>?_)
 ·replace H:=of_pos H c1
  refine region<|rs (Value.agg #[]) (r_build0 (cs:=[]) Tryd.zeroValue120 Tryd.runUnderlying120 (pl:=#[]) (fun w=>by simp []) rfl) ?_
  refine rs (Value.iface 120 (Value.agg #[])) (r_iface rfl Tryd.runUnderlying120 (by intro m hm;cases hm)) ?_
  refine run_panic rfl<|panic_then ?_
  obtain ⟨hbad,H⟩:=of_ite H
  first|(obtain rfl:=bad_of hbad)|skip
  obtain rfl:=Option.some.inj H
  have HS9:=HS8.f1
  have HS10:=HS9.f2
  refine catch_panic (caps:=[vP b1 0,vP b2 0]) Tryd.call71 (decode1_caught HS10 rfl rfl) ?_
  intro w7 HS11
  refine ⟨_,results_2 rfl (one_agg rfl Tryd.isAgg24 (HS11.look 0 rfl) Tryd.sizeOf24 rfl) (one_cell rfl Tryd.isAgg27 (HS11.look 1 rfl)),?_⟩
  exact ⟨h0,none,0,rfl,(Nat.le_refl 0),(Rd.nil _ _ _),HS11.gr,HS11.sees,HS11.toE⟩
 ·replace H:=of_neg H (nt c1)
  refine wp_skip<|norm_then<|wp_seq<|region<|rs (vP b3 0) (r_move rfl)<|rs (vP b3 0) (r_move rfl)<|rs (Value.func (.func 74) #[vP b3 0] #[]) (r_first (fv:=[vP b3 0]) (cv:=[]) rfl rfl) ?_
  obtain ⟨v2,H2,H⟩:=of_bind H
  rcases v2 with pv2|v2o
  ·refine run_callp (first:=[]) (vs:=[vP b3 0,Value.func (.func 74) #[vP b3 0] #[]]) (caps:=[]) Tryd.call73 rfl rfl (ctf_list_api_Def.calls k v1o.2 b3 Av1o_p0 cv1o_p0 HS8 hrv1o_p0 hcv1o_p0 H2) ?_
   rintro _ w8 ⟨h1,csq2,rfl,hs3,HS12⟩
   refine .inr ⟨_,rfl,?_⟩
   replace hrv1o_r0_0:Rd (Kd.int .u8) h1 Av1o_r0_0 v1o.1:=hrv1o_r0_0.ext hs3
   replace hrv1o_p0:Rd (Kd.int .u8) h1 Av1o_p0 v1o.2:=hrv1o_p0.ext hs3
   refine panic_then ?_
   obtain ⟨hbad,H⟩:=of_ite H
   first|(obtain rfl:=bad_of hbad)|skip
   obtain rfl:=Option.some.inj H
   have HS13:=HS12.f1
   have HS14:=HS13.f2
   refine catch_panic (caps:=[vP b1 0,vP b2 0]) Tryd.call71 (decode1_caught HS14 rfl rfl) ?_
   intro w9 HS15
   refine ⟨_,results_2 rfl (one_agg rfl Tryd.isAgg24 (HS15.look 0 rfl) Tryd.sizeOf24 rfl) (one_cell rfl Tryd.isAgg27 (HS15.look 1 rfl)),?_⟩
   exact ⟨h1,none,0,rfl,(Nat.le_refl 0),(Rd.nil _ _ _),HS15.gr,HS15.sees,HS15.toE⟩
  refine run_callp (first:=[]) (vs:=[vP b3 0,Value.func (.func 74) #[vP b3 0] #[]]) (caps:=[]) Tryd.call73 rfl rfl (ctf_list_api_Def.calls k v1o.2 b3 Av1o_p0 cv1o_p0 HS8 hrv1o_p0 hcv1o_p0 H2) ?_
  rintro _ w10 ⟨h2,Av2o_r0_0,cv2o_r0_0,Av2o_p0,cv2o_p0,rfl,hcv2o_r0_0,hrv2o_r0_0,hcv2o_p0,hrv2o_p0,hs4,HS16⟩
  refine .inl ⟨_,rfl,?_⟩
  replace hrv1o_r0_0:Rd (Kd.int .u8) h2 Av1o_r0_0 v1o.1:=hrv1o_r0_0.ext hs4
  replace hrv1o_p0:Rd (Kd.int .u8) h2 Av1o_p0 v1o.2:=hrv1o_p0.ext hs4
  refine run_frame (by simp only [sc0,sc1];rfl) ?_
  refine rs (vP b1 0) (r_fieldBox (n:=1) (o':=0) rfl Tryd.runUnderlying24 rfl Tryd.sizeOf22 (by decide) rfl)<|run_st (i:=2) (cs:=[vL none 0 0]) (cs':=[vL Av2o_r0_0 v2o.1.length cv2o_r0_0]) (vs:=[vL Av2o_r0_0 v2o.1.length cv2o_r0_0]) (bs':=[(some b3, .cells #[vL Av2o_p0 v2o.2.length cv2o_p0] 126 (0,0)),(some b2, .cells #[vI 0] 27 (0,0)),(some b1, .cells #[vL Av2o_r0_0 v2o.1.length cv2o_r0_0] 24 (0,0))]) rfl rfl Tryd.sizeOf22 rfl rfl (by decide) rfl HS16 rfl (Nat.le_of_ble_eq_true rfl) rfl rfl ?_
  intro w11 HS17
  try simp only [sc0,sc1]
  refine run_nil<|norm_then<|wp_seq<|wp_seq<|region<|rs (vP b3 0) (r_move rfl)<|rs (vP b3 0) (r_nilCheck rfl)<|rs (vP b3 0) (r_fieldBox (n:=1) (o':=0) rfl Tryd.runUnderlying126 rfl Tryd.sizeOf124 (by decide) rfl)<|rs (vP b3 0) (r_fieldBox (n:=1) (o':=0) rfl Tryd.runUnderlying124 rfl Tryd.sizeOf80 (by decide) rfl)<|run_frame (by simp only [sc0,sc1];rfl) ?_
  refine rs (vL Av2o_p0 v2o.2.length cv2o_p0) (r_loadBox rfl Tryd.isAgg80 (HS17.look 0 rfl) rfl)<|rs (vI (v2o.2.length:Int)) (r_len rfl Tryd.runUnderlying80)<|rs (vB (decide ((v2o.2.length:Int)>0))) (r_bin rfl rfl rfl) ?_
  try simp only [sc0,sc1]
  refine run_nil<|norm_then<|wp_cond_split (t:=(decide ((v2o.2.length:Int)>0))) rfl (fun c2=>?_) (fun c2=>?_)
  ·replace H:=of_pos H c2
   refine region<|rs (Value.agg #[]) (r_build0 (cs:=[]) Tryd.zeroValue120 Tryd.runUnderlying120 (pl:=#[]) (fun w=>by simp []) rfl) ?_
   refine rs (Value.iface 120 (Value.agg #[])) (r_iface rfl Tryd.runUnderlying120 (by intro m hm;cases hm)) ?_
   refine run_panic rfl<|panic_then ?_
   obtain ⟨hbad,H⟩:=of_ite H
   first|(obtain rfl:=bad_of hbad)|skip
   obtain rfl:=Option.some.inj H
   have HS18:=HS17.f1
   have HS19:=HS18.f2
   refine catch_panic (caps:=[vP b1 0,vP b2 0]) Tryd.call71 (decode1_caught HS19 rfl rfl) ?_
   intro w12 HS20
   refine ⟨_,results_2 rfl (one_agg rfl Tryd.isAgg24 (HS20.look 0 rfl) Tryd.sizeOf24 rfl) (one_cell rfl Tryd.isAgg27 (HS20.look 1 rfl)),?_⟩
   exact ⟨h2,none,0,rfl,(Nat.le_refl 0),(Rd.nil _ _ _),HS20.gr,HS20.sees,HS20.toE⟩
  ·replace H:=of_neg H (nt c2)
   refine wp_skip<|norm_then<|wp_seq<|wp_seq<|region<|rs (Value.agg #[vL Av2o_r0_0 v2o.1.length cv2o_r0_0]) (r_loadBoxAgg (n:=1) (vs:=[vL Av2o_r0_0 v2o.1.length cv2o_r0_0]) rfl Tryd.isAgg24 (HS17.look 2 rfl) Tryd.sizeOf24 rfl rfl) ?_
   obtain ⟨v3,H3,H⟩:=of_bind H
   refine run_eq (v:=vB v3) rfl rfl (does_call_eq Tryd.call47 rfl rfl (ctf_valid.calls k (⟨v2o.1⟩:api_Types) Av2o_r0_0 cv2o_r0_0 HS17.sees hrv2o_r0_0 hcv2o_r0_0 H3)) ?_
   intro w13 hE4
   have HS21:=HS17.step hE4
   refine rs (vB (!v3)) (r_not rfl) ?_
   try simp only [sc0,sc1]
   refine run_nil<|norm_then<|wp_cond_split (t:=(!v3)) rfl (fun c3=>?_) (fun c3=>?_)
   ·replace H:=of_pos H c3
    refine wp_seq<|region<|rs (Value.agg #[vL none 0 0]) (r_build0 (cs:=[vL none 0 0]) Tryd.zeroValue24 Tryd.runUnderlying24 (pl:=#[(0,1)]) (fun w=>by simp [Tryd.sizeOf22]) rfl) ?_
    refine run_st (i:=2) (cs:=[vL Av2o_r0_0 v2o.1.length cv2o_r0_0]) (cs':=[vL none 0 0]) (vs:=[vL none 0 0]) (bs':=[(some b3, .cells #[vL Av2o_p0 v2o.2.length cv2o_p0] 126 (0,0)),(some b2, .cells #[vI 0] 27 (0,0)),(some b1, .cells #[vL none 0 0] 24 (0,0))]) rfl rfl Tryd.sizeOf24 rfl rfl (by decide) rfl HS21 rfl (Nat.le_of_ble_eq_true rfl) rfl rfl ?_
    intro w14 HS22
    refine run_st (i:=1) (cs:=[vI 0]) (cs':=[vI 80]) (vs:=[vI 80]) (bs':=[(some b3, .cells #[vL Av2o_p0 v2o.2.length cv2o_p0] 126 (0,0)),(some b2, .cells #[vI 80] 27 (0,0)),(some b1, .cells #[vL none 0 0] 24 (0,0))]) rfl rfl Tryd.sizeOf27 rfl rfl (by decide) rfl HS22 rfl (Nat.le_of_ble_eq_true rfl) rfl rfl ?_
    intro w15 HS23
    try simp only [sc0,sc1]
    refine run_nil<|norm_then<|wp_ret<|ret_then ?_
    obtain rfl:=Option.some.inj H
    refine catch_ret (caps:=[vP b1 0,vP b2 0]) Tryd.call71 (decode1_quiet _ _ HS23) ?_
    intro w16 HS24
    refine ⟨_,results_2 rfl (one_agg rfl Tryd.isAgg24 (HS24.look 2 rfl) Tryd.sizeOf24 rfl) (one_cell rfl Tryd.isAgg27 (HS24.look 1 rfl)),?_⟩
    exact ⟨h2,none,0,rfl,(Nat.le_refl 0),(Rd.nil _ _ _),HS24.gr,HS24.sees,HS24.toE⟩
   ·replace H:=of_neg H (nt c3)
    refine wp_skip<|norm_then<|wp_seq<|region<|rs (Value.agg #[vL Av2o_r0_0 v2o.1.length cv2o_r0_0]) (r_loadBoxAgg (n:=1) (vs:=[vL Av2o_r0_0 v2o.1.length cv2o_r0_0]) rfl Tryd.isAgg24 (HS21.look 2 rfl) Tryd.sizeOf24 rfl rfl)<|run_st (i:=2) (cs:=[vL Av2o_r0_0 v2o.1.length cv2o_r0_0]) (cs':=[vL Av2o_r0_0 v2o.1.length cv2o_r0_0]) (vs:=[vL Av2o_r0_0 v2o.1.length cv2o_r0_0]) (bs':=[(some b3, .cells #[vL Av2o_p0 v2o.2.length cv2o_p0] 126 (0,0)),(some b2, .cells #[vI 0] 27 (0,0)),(some b1, .cells #[vL Av2o_r0_0 v2o.1.length cv2o_r0_0] 24 (0,0))]) rfl rfl Tryd.sizeOf24 rfl rfl (by decide) rfl HS21 rfl (Nat.le_of_ble_eq_true rfl) rfl rfl ?_
    intro w17 HS25
    refine run_st (i:=1) (cs:=[vI 0]) (cs':=[vI 0]) (vs:=[vI 0]) (bs':=[(some b3, .cells #[vL Av2o_p0 v2o.2.length cv2o_p0] 126 (0,0)),(some b2, .cells #[vI 0] 27 (0,0)),(some b1, .cells #[vL Av2o_r0_0 v2o.1.length cv2o_r0_0] 24 (0,0))]) rfl rfl Tryd.sizeOf27 rfl rfl (by decide) rfl HS25 rfl (Nat.le_of_ble_eq_true rfl) rfl rfl ?_
    intro w18 HS26
    try simp only [sc0,sc1]
    refine run_nil<|norm_then<|wp_ret ?_
    obtain rfl:=Option.some.inj H
    refine catch_ret (caps:=[vP b1 0,vP b2 0]) Tryd.call71 (decode1_quiet _ _ HS26) ?_
    intro w19 HS27
    refine ⟨_,results_2 rfl (one_agg rfl Tryd.isAgg24 (HS27.look 2 rfl) Tryd.sizeOf24 rfl) (one_cell rfl Tryd.isAgg27 (HS27.look 1 rfl)),?_⟩
    exact ⟨h2,Av2o_r0_0,cv2o_r0_0,rfl,hcv2o_r0_0,hrv2o_r0_0,HS27.gr,HS27.sees,HS27.toE⟩
def taplineref08_Named.f (a0:api_Def):Option (Bool):=some ((a0.vKind !=2)&&(a0.vKind !=3))
theorem taplineref08_Named.calls (a0:api_Def) (A0_6:Option Addr) (c0_6:Nat) {h0:View} {w0:World} (hv:Sees h0 w0) (hr0_6:Rd k_api_Field h0 A0_6 a0.vFields) (hc0_6:a0.vFields.length≤c0_6) {r:Bool} (H:taplineref08_Named.f a0=some r):Calls Tryd.prog 49 #[Value.agg #[vI a0.vKind,vS a0.vName,vI a0.vInt.vSize,vB a0.vInt.vSigned,vI a0.vRef,vI a0.vN,vL A0_6 a0.vFields.length c0_6]] w0 (fun e w1=>e= .returned (vB r)∧Ext w0 w1):=by
 unfold taplineref08_Named.f at H
 have HS:St [] h0 w0 h0 [] w0:=St.init hv
 go_enter Tryd.func49,Tryd.ntmps49
 refine wp_seq<|region<|run_ex rfl rfl (does_box (cs:=#[vI a0.vKind,vS a0.vName,vI a0.vInt.vSize,vB a0.vInt.vSigned,vI a0.vRef,vI a0.vN,vL A0_6 a0.vFields.length c0_6]) rfl rfl) ?_
 rintro w1 _ hE1 ⟨b1,rfl,ge1,hb1⟩
 have HS1:=HS.new hE1 ge1 hb1
 refine rs (vB false) (r_assign rfl) ?_
 try simp only [sc0,sc1]
 refine run_nil<|norm_then<|wp_seq<|region<|rs (vP b1 0) (r_fieldBox (n:=1) (o':=0) rfl Tryd.runUnderlying34 rfl Tryd.sizeOf3 (by decide) rfl)<|rs (vI a0.vKind) (r_loadBox rfl Tryd.isAgg3 (HS1.look 0 rfl) rfl)<|rs (vB (a0.vKind !=2)) (r_bin rfl rfl rfl)<|rs (vB (a0.vKind !=2)) (r_move rfl)<|run_frame (by simp only [sc0,sc1];rfl) ?_
 refine rgs (a0.vKind !=2) true (vP b1 0) rfl rfl rfl rfl (fun hg=>(r_fieldBox (n:=1) (o':=0) rfl Tryd.runUnderlying34 rfl Tryd.sizeOf3 (by decide) rfl))<|rgs (a0.vKind !=2) true (vI a0.vKind) rfl rfl rfl rfl (fun hg=>(r_loadBox (gvt (vP b1 0) hg rfl) Tryd.isAgg3 (HS1.look 0 rfl) rfl))<|rgs (a0.vKind !=2) true (vB (a0.vKind !=3)) rfl rfl rfl rfl (fun hg=>(r_bin (gvt (vI a0.vKind) hg rfl) rfl rfl))<|rs (vB ((a0.vKind !=2)&&(a0.vKind !=3))) (r_pick_and rfl (fun hp=>(gvt (vB (a0.vKind !=3)) (and_i rfl hp) rfl)) rfl)<|run_frame (by simp only [sc0,sc1];rfl) ?_
 refine rs (vB ((a0.vKind !=2)&&(a0.vKind !=3))) (r_assign rfl) ?_
 try simp only [sc0,sc1]
 refine run_nil<|norm_then<|wp_ret ?_
 obtain rfl:=Option.some.inj H
 exact bodyPost_ret (results_1 rfl (one_tmp rfl)) rfl<|⟨rfl,HS1.toE⟩
def taplineref08_unused.f (a0:api_Def):Option (Bool):=(taplineref08_Named.f a0).bind fun v1=>(if (v1 !=(!(strEq a0.vName ByteArray.empty)))=true then (some false) else (if ((a0.vKind !=1)&&((a0.vInt.vSize !=0)||a0.vInt.vSigned))=true then (some false) else (if ((((a0.vKind !=2)&&(a0.vKind !=3))&&(a0.vKind !=6))&&(a0.vRef !=0))=true then (some false) else (if (((a0.vKind !=3)&&(a0.vKind !=4))&&(a0.vN !=0))=true then (some false) else (some (((a0.vKind==4)||(a0.vKind==5))||((a0.vFields.length:Int)==0)))))))
theorem taplineref08_unused.calls (a0:api_Def) (A0_6:Option Addr) (c0_6:Nat) {h0:View} {w0:World} (hv:Sees h0 w0) (hr0_6:Rd k_api_Field h0 A0_6 a0.vFields) (hc0_6:a0.vFields.length≤c0_6) {r:Bool} (H:taplineref08_unused.f a0=some r):Calls Tryd.prog 94 #[Value.agg #[vI a0.vKind,vS a0.vName,vI a0.vInt.vSize,vB a0.vInt.vSigned,vI a0.vRef,vI a0.vN,vL A0_6 a0.vFields.length c0_6]] w0 (fun e w1=>e= .returned (vB r)∧Ext w0 w1):=by
 unfold taplineref08_unused.f at H
 have HS:St [] h0 w0 h0 [] w0:=St.init hv
 go_enter Tryd.func94,Tryd.ntmps94
 refine wp_seq<|region<|run_ex rfl rfl (does_box (cs:=#[vI a0.vKind,vS a0.vName,vI a0.vInt.vSize,vB a0.vInt.vSigned,vI a0.vRef,vI a0.vN,vL A0_6 a0.vFields.length c0_6]) rfl rfl) ?_
 rintro w1 _ hE1 ⟨b1,rfl,ge1,hb1⟩
 have HS1:=HS.new hE1 ge1 hb1
 refine rs (vB false) (r_assign rfl) ?_
 try simp only [sc0,sc1]
 refine run_nil<|norm_then<|wp_seq<|wp_seq ?_
 obtain ⟨v1,H1,H⟩:=of_bind H
 refine drawn [.eq (Value.agg #[vI a0.vKind,vS a0.vName,vI a0.vInt.vSize,vB a0.vInt.vSigned,vI a0.vRef,vI a0.vN,vL A0_6 a0.vFields.length c0_6]), .eq (vB v1), .eq (vP b1 1), .eq (vS a0.vName), .eq (vB (!(strEq a0.vName ByteArray.empty))), .eq (vB (v1 !=(!(strEq a0.vName ByteArray.empty))))] [3,4,5,6,7,8] hmix (by kernel_rfl) rfl (stable_eq (stable_eq (stable_eq (stable_eq (stable_eq (stable_eq stable_nil)))))) ⟨ob_plain rfl (fun a' w' hE hk=>by have HSd:=HS1.step hE;exact does_eq (r_loadBoxAgg (n:=7) (vs:=[vI a0.vKind,vS a0.vName,vI a0.vInt.vSize,vB a0.vInt.vSigned,vI a0.vRef,vI a0.vN,vL A0_6 a0.vFields.length c0_6]) (show _=vP b1 0 from hk 1 rfl) Tryd.isAgg34 (HSd.look 0 rfl) Tryd.sizeOf34 rfl rfl)),ob_plain rfl (fun a' w' hE hk=>by have HSd:=HS1.step hE;exact (does_call_eq Tryd.call49 rfl (map1 (show _=Value.agg #[vI a0.vKind,vS a0.vName,vI a0.vInt.vSize,vB a0.vInt.vSigned,vI a0.vRef,vI a0.vN,vL A0_6 a0.vFields.length c0_6] from hk 3 rfl)) (taplineref08_Named.calls a0 A0_6 c0_6 HSd.sees hr0_6 hc0_6 H1))),ob_plain rfl (fun a' w' hE hk=>by have HSd:=HS1.step hE;exact does_eq (r_fieldBox (n:=1) (o':=1) (show _=vP b1 0 from hk 1 rfl) Tryd.runUnderlying34 rfl Tryd.sizeOf9 (by decide) rfl)),ob_plain rfl (fun a' w' hE hk=>by have HSd:=HS1.step hE;exact does_eq (r_loadBox (show _=vP b1 1 from hk 5 rfl) Tryd.isAgg9 (HSd.look 0 rfl) rfl)),ob_plain rfl (fun a' w' hE hk=>by have HSd:=HS1.step hE;exact does_eq (r_strneq (show _=vS a0.vName from hk 6 rfl) rfl)),ob_plain rfl (fun a' w' hE hk=>by have HSd:=HS1.step hE;exact does_eq (r_boolneq (show _=vB v1 from hk 4 rfl) (show _=vB (!(strEq a0.vName ByteArray.empty)) from hk 7 rfl) Tryd.runUnderlying4)),trivial⟩ ?_
 intro w2 hE2
 simp only [List.zip_cons_cons,List.zip_nil_left,List.zip_nil_right,finL,sc0,sc1,List.length_cons,List.length_nil,List.drop_succ_cons,List.drop_zero,Nat.zero_add,Nat.reduceAdd]
 have HS2:=HS1.step hE2
 refine run_nil<|norm_then<|wp_cond_split (t:=(v1 !=(!(strEq a0.vName ByteArray.empty)))) rfl (fun c1=>?_) (fun c1=>?_)
 ·replace H:=of_pos H c1
  refine wp_seq<|region<|rs (vB false) (r_assign rfl) ?_
  try simp only [sc0,sc1]
  refine run_nil<|norm_then<|wp_ret<|ret_then ?_
  obtain rfl:=Option.some.inj H
  exact bodyPost_ret (results_1 rfl (one_tmp rfl)) rfl<|⟨rfl,HS2.toE⟩
 ·replace H:=of_neg H (nt c1)
  refine wp_skip<|norm_then<|wp_seq<|wp_seq<|region<|rs (vP b1 0) (r_fieldBox (n:=1) (o':=0) rfl Tryd.runUnderlying34 rfl Tryd.sizeOf3 (by decide) rfl)<|rs (vI a0.vKind) (r_loadBox rfl Tryd.isAgg3 (HS2.look 0 rfl) rfl)<|rs (vB (a0.vKind !=1)) (r_bin rfl rfl rfl)<|rs (vB (a0.vKind !=1)) (r_move rfl)<|run_frame (by simp only [sc0,sc1];rfl) ?_
  refine rgs (a0.vKind !=1) true (vP b1 2) rfl rfl rfl rfl (fun hg=>(r_fieldBox (n:=2) (o':=2) rfl Tryd.runUnderlying34 rfl Tryd.sizeOf31 (by decide) rfl))<|rgs (a0.vKind !=1) true (vP b1 2) rfl rfl rfl rfl (fun hg=>(r_fieldBox (n:=1) (o':=2) (gvt (vP b1 2) hg rfl) Tryd.runUnderlying31 rfl Tryd.sizeOf3 (by decide) rfl))<|rgs (a0.vKind !=1) true (vI a0.vInt.vSize) rfl rfl rfl rfl (fun hg=>(r_loadBox (gvt (vP b1 2) hg rfl) Tryd.isAgg3 (HS2.look 0 rfl) rfl))<|rgs (a0.vKind !=1) true (vB (a0.vInt.vSize !=0)) rfl rfl rfl rfl (fun hg=>(r_bin (gvt (vI a0.vInt.vSize) hg rfl) rfl rfl))<|run_frame (by simp only [sc0,sc1];rfl) ?_
  refine rgs (a0.vKind !=1) true (vB (a0.vInt.vSize !=0)) rfl rfl rfl rfl (fun hg=>(r_move (gvt (vB (a0.vInt.vSize !=0)) hg rfl)))<|rgs (a0.vInt.vSize !=0) (true&&((a0.vKind !=1)==true)) (vP b1 2) rfl rfl rfl rfl (fun hg=>(r_fieldBox (n:=2) (o':=2) rfl Tryd.runUnderlying34 rfl Tryd.sizeOf31 (by decide) rfl))<|rgs (a0.vInt.vSize !=0) (true&&((a0.vKind !=1)==true)) (vP b1 3) rfl rfl rfl rfl (fun hg=>(r_fieldBox (n:=1) (o':=3) (gvt (vP b1 2) hg rfl) Tryd.runUnderlying31 rfl Tryd.sizeOf4 (by decide) rfl))<|rgs (a0.vInt.vSize !=0) (true&&((a0.vKind !=1)==true)) (vB a0.vInt.vSigned) rfl rfl rfl rfl (fun hg=>(r_loadBox (gvt (vP b1 3) hg rfl) Tryd.isAgg4 (HS2.look 0 rfl) rfl))<|run_frame (by simp only [sc0,sc1];rfl) ?_
  refine rgs (a0.vKind !=1) true (vB ((a0.vInt.vSize !=0)||a0.vInt.vSigned)) rfl rfl rfl rfl (fun hg=>(r_pick_or (gvt (vB (a0.vInt.vSize !=0)) hg rfl) rfl (fun hp=>(gvt (vB a0.vInt.vSigned) (and_i hg hp) rfl))))<|rs (vB ((a0.vKind !=1)&&((a0.vInt.vSize !=0)||a0.vInt.vSigned))) (r_pick_and rfl (fun hp=>(gvt (vB ((a0.vInt.vSize !=0)||a0.vInt.vSigned)) (and_i rfl hp) rfl)) rfl) ?_
  try simp only [sc0,sc1]
  refine run_nil<|norm_then<|wp_cond_split (t:=((a0.vKind !=1)&&((a0.vInt.vSize !=0)||a0.vInt.vSigned))) rfl (fun c2=>?_) (fun c2=>?_)
  ·replace H:=of_pos H c2
   refine wp_seq<|region<|rs (vB false) (r_assign rfl) ?_
   try simp only [sc0,sc1]
   refine run_nil<|norm_then<|wp_ret<|ret_then ?_
   obtain rfl:=Option.some.inj H
   exact bodyPost_ret (results_1 rfl (one_tmp rfl)) rfl<|⟨rfl,HS2.toE⟩
  ·replace H:=of_neg H (nt c2)
   refine wp_skip<|norm_then<|wp_seq<|wp_seq<|region<|rs (vP b1 0) (r_fieldBox (n:=1) (o':=0) rfl Tryd.runUnderlying34 rfl Tryd.sizeOf3 (by decide) rfl)<|rs (vI a0.vKind) (r_loadBox rfl Tryd.isAgg3 (HS2.look 0 rfl) rfl)<|rs (vB (a0.vKind !=2)) (r_bin rfl rfl rfl)<|rs (vB (a0.vKind !=2)) (r_move rfl)<|run_frame (by simp only [sc0,sc1];rfl) ?_
   refine rgs (a0.vKind !=2) true (vP b1 0) rfl rfl rfl rfl (fun hg=>(r_fieldBox (n:=1) (o':=0) rfl Tryd.runUnderlying34 rfl Tryd.sizeOf3 (by decide) rfl))<|rgs (a0.vKind !=2) true (vI a0.vKind) rfl rfl rfl rfl (fun hg=>(r_loadBox (gvt (vP b1 0) hg rfl) Tryd.isAgg3 (HS2.look 0 rfl) rfl))<|rgs (a0.vKind !=2) true (vB (a0.vKind !=3)) rfl rfl rfl rfl (fun hg=>(r_bin (gvt (vI a0.vKind) hg rfl) rfl rfl))<|rs (vB ((a0.vKind !=2)&&(a0.vKind !=3))) (r_pick_and rfl (fun hp=>(gvt (vB (a0.vKind !=3)) (and_i rfl hp) rfl)) rfl)<|run_frame (by simp only [sc0,sc1];rfl) ?_
   refine rs (vB ((a0.vKind !=2)&&(a0.vKind !=3))) (r_move rfl)<|rgs ((a0.vKind !=2)&&(a0.vKind !=3)) true (vP b1 0) rfl rfl rfl rfl (fun hg=>(r_fieldBox (n:=1) (o':=0) rfl Tryd.runUnderlying34 rfl Tryd.sizeOf3 (by decide) rfl))<|rgs ((a0.vKind !=2)&&(a0.vKind !=3)) true (vI a0.vKind) rfl rfl rfl rfl (fun hg=>(r_loadBox (gvt (vP b1 0) hg rfl) Tryd.isAgg3 (HS2.look 0 rfl) rfl))<|rgs ((a0.vKind !=2)&&(a0.vKind !=3)) true (vB (a0.vKind !=6)) rfl rfl rfl rfl (fun hg=>(r_bin (gvt (vI a0.vKind) hg rfl) rfl rfl))<|run_frame (by simp only [sc0,sc1];rfl) ?_
   refine rs (vB (((a0.vKind !=2)&&(a0.vKind !=3))&&(a0.vKind !=6))) (r_pick_and rfl (fun hp=>(gvt (vB (a0.vKind !=6)) (and_i rfl hp) rfl)) rfl)<|rs (vB (((a0.vKind !=2)&&(a0.vKind !=3))&&(a0.vKind !=6))) (r_move rfl)<|rgs (((a0.vKind !=2)&&(a0.vKind !=3))&&(a0.vKind !=6)) true (vP b1 4) rfl rfl rfl rfl (fun hg=>(r_fieldBox (n:=1) (o':=4) rfl Tryd.runUnderlying34 rfl Tryd.sizeOf3 (by decide) rfl))<|rgs (((a0.vKind !=2)&&(a0.vKind !=3))&&(a0.vKind !=6)) true (vI a0.vRef) rfl rfl rfl rfl (fun hg=>(r_loadBox (gvt (vP b1 4) hg rfl) Tryd.isAgg3 (HS2.look 0 rfl) rfl))<|run_frame (by simp only [sc0,sc1];rfl) ?_
   refine rgs (((a0.vKind !=2)&&(a0.vKind !=3))&&(a0.vKind !=6)) true (vB (a0.vRef !=0)) rfl rfl rfl rfl (fun hg=>(r_bin (gvt (vI a0.vRef) hg rfl) rfl rfl))<|rs (vB ((((a0.vKind !=2)&&(a0.vKind !=3))&&(a0.vKind !=6))&&(a0.vRef !=0))) (r_pick_and rfl (fun hp=>(gvt (vB (a0.vRef !=0)) (and_i rfl hp) rfl)) rfl) ?_
   try simp only [sc0,sc1]
   refine run_nil<|norm_then<|wp_cond_split (t:=((((a0.vKind !=2)&&(a0.vKind !=3))&&(a0.vKind !=6))&&(a0.vRef !=0))) rfl (fun c3=>?_) (fun c3=>?_)
   ·replace H:=of_pos H c3
    refine wp_seq<|region<|rs (vB false) (r_assign rfl) ?_
    try simp only [sc0,sc1]
    refine run_nil<|norm_then<|wp_ret<|ret_then ?_
    obtain rfl:=Option.some.inj H
    exact bodyPost_ret (results_1 rfl (one_tmp rfl)) rfl<|⟨rfl,HS2.toE⟩
   ·replace H:=of_neg H (nt c3)
    refine wp_skip<|norm_then<|wp_seq<|wp_seq<|region<|rs (vP b1 0) (r_fieldBox (n:=1) (o':=0) rfl Tryd.runUnderlying34 rfl Tryd.sizeOf3 (by decide) rfl)<|rs (vI a0.vKind) (r_loadBox rfl Tryd.isAgg3 (HS2.look 0 rfl) rfl)<|rs (vB (a0.vKind !=3)) (r_bin rfl rfl rfl)<|rs (vB (a0.vKind !=3)) (r_move rfl)<|run_frame (by simp only [sc0,sc1];rfl) ?_
    refine rgs (a0.vKind !=3) true (vP b1 0) rfl rfl rfl rfl (fun hg=>(r_fieldBox (n:=1) (o':=0) rfl Tryd.runUnderlying34 rfl Tryd.sizeOf3 (by decide) rfl))<|rgs (a0.vKind !=3) true (vI a0.vKind) rfl rfl rfl rfl (fun hg=>(r_loadBox (gvt (vP b1 0) hg rfl) Tryd.isAgg3 (HS2.look 0 rfl) rfl))<|rgs (a0.vKind !=3) true (vB (a0.vKind !=4)) rfl rfl rfl rfl (fun hg=>(r_bin (gvt (vI a0.vKind) hg rfl) rfl rfl))<|rs (vB ((a0.vKind !=3)&&(a0.vKind !=4))) (r_pick_and rfl (fun hp=>(gvt (vB (a0.vKind !=4)) (and_i rfl hp) rfl)) rfl)<|run_frame (by simp only [sc0,sc1];rfl) ?_
    refine rs (vB ((a0.vKind !=3)&&(a0.vKind !=4))) (r_move rfl)<|rgs ((a0.vKind !=3)&&(a0.vKind !=4)) true (vP b1 5) rfl rfl rfl rfl (fun hg=>(r_fieldBox (n:=1) (o':=5) rfl Tryd.runUnderlying34 rfl Tryd.sizeOf3 (by decide) rfl))<|rgs ((a0.vKind !=3)&&(a0.vKind !=4)) true (vI a0.vN) rfl rfl rfl rfl (fun hg=>(r_loadBox (gvt (vP b1 5) hg rfl) Tryd.isAgg3 (HS2.look 0 rfl) rfl))<|rgs ((a0.vKind !=3)&&(a0.vKind !=4)) true (vB (a0.vN !=0)) rfl rfl rfl rfl (fun hg=>(r_bin (gvt (vI a0.vN) hg rfl) rfl rfl))<|run_frame (by simp only [sc0,sc1];rfl) ?_
    refine rs (vB (((a0.vKind !=3)&&(a0.vKind !=4))&&(a0.vN !=0))) (r_pick_and rfl (fun hp=>(gvt (vB (a0.vN !=0)) (and_i rfl hp) rfl)) rfl) ?_
    try simp only [sc0,sc1]
    refine run_nil<|norm_then<|wp_cond_split (t:=(((a0.vKind !=3)&&(a0.vKind !=4))&&(a0.vN !=0))) rfl (fun c4=>?_) (fun c4=>?_)
    ·replace H:=of_pos H c4
     refine wp_seq<|region<|rs (vB false) (r_assign rfl) ?_
     try simp only [sc0,sc1]
     refine run_nil<|norm_then<|wp_ret<|ret_then ?_
     obtain rfl:=Option.some.inj H
     exact bodyPost_ret (results_1 rfl (one_tmp rfl)) rfl<|⟨rfl,HS2.toE⟩
    ·replace H:=of_neg H (nt c4)
     refine wp_skip<|norm_then<|wp_seq<|region<|rs (vP b1 0) (r_fieldBox (n:=1) (o':=0) rfl Tryd.runUnderlying34 rfl Tryd.sizeOf3 (by decide) rfl)<|rs (vI a0.vKind) (r_loadBox rfl Tryd.isAgg3 (HS2.look 0 rfl) rfl)<|rs (vB (a0.vKind==4)) (r_bin rfl rfl rfl)<|rs (vB (a0.vKind==4)) (r_move rfl)<|run_frame (by simp only [sc0,sc1];rfl) ?_
     refine rgs (a0.vKind==4) true (vP b1 0) rfl rfl rfl rfl (fun hg=>(r_fieldBox (n:=1) (o':=0) rfl Tryd.runUnderlying34 rfl Tryd.sizeOf3 (by decide) rfl))<|rgs (a0.vKind==4) true (vI a0.vKind) rfl rfl rfl rfl (fun hg=>(r_loadBox (gvt (vP b1 0) hg rfl) Tryd.isAgg3 (HS2.look 0 rfl) rfl))<|rgs (a0.vKind==4) true (vB (a0.vKind==5)) rfl rfl rfl rfl (fun hg=>(r_bin (gvt (vI a0.vKind) hg rfl) rfl rfl))<|rs (vB ((a0.vKind==4)||(a0.vKind==5))) (r_pick_or rfl rfl (fun hp=>(gvt (vB (a0.vKind==5)) (and_i rfl hp) rfl)))<|run_frame (by simp only [sc0,sc1];rfl) ?_
     refine rs (vB ((a0.vKind==4)||(a0.vKind==5))) (r_move rfl)<|rgs ((a0.vKind==4)||(a0.vKind==5)) true (vP b1 6) rfl rfl rfl rfl (fun hg=>(r_fieldBox (n:=1) (o':=6) rfl Tryd.runUnderlying34 rfl Tryd.sizeOf32 (by decide) rfl))<|rgs ((a0.vKind==4)||(a0.vKind==5)) true (vL A0_6 a0.vFields.length c0_6) rfl rfl rfl rfl (fun hg=>(r_loadBox (gvt (vP b1 6) hg rfl) Tryd.isAgg32 (HS2.look 0 rfl) rfl))<|rgs ((a0.vKind==4)||(a0.vKind==5)) true (vI (a0.vFields.length:Int)) rfl rfl rfl rfl (fun hg=>(r_len (gvt (vL A0_6 a0.vFields.length c0_6) hg rfl) Tryd.runUnderlying32))<|run_frame (by simp only [sc0,sc1];rfl) ?_
     refine rgs ((a0.vKind==4)||(a0.vKind==5)) true (vB ((a0.vFields.length:Int)==0)) rfl rfl rfl rfl (fun hg=>(r_bin (gvt (vI (a0.vFields.length:Int)) hg rfl) rfl rfl))<|rs (vB (((a0.vKind==4)||(a0.vKind==5))||((a0.vFields.length:Int)==0))) (r_pick_or rfl rfl (fun hp=>(gvt (vB ((a0.vFields.length:Int)==0)) (and_i rfl hp) rfl)))<|rs (vB (((a0.vKind==4)||(a0.vKind==5))||((a0.vFields.length:Int)==0))) (r_assign rfl) ?_
     try simp only [sc0,sc1]
     refine run_nil<|norm_then<|wp_ret ?_
     obtain rfl:=Option.some.inj H
     exact bodyPost_ret (results_1 rfl (one_tmp rfl)) rfl<|⟨rfl,HS2.toE⟩
def taplineref08_Name.l0 (a0:ByteArray):Nat→Int→Option ((Bool)⊕(Unit))
 |0,_=>none
 |m+1,y1_0=>if (decide (y1_0<(a0.size:Int)))=true then (if 0≤y1_0∧y1_0<(a0.size:Int) then (if ((!((((decide ((byteAt a0 y1_0)≥97))&&(decide ((byteAt a0 y1_0)≤122)))||((decide ((byteAt a0 y1_0)≥65))&&(decide ((byteAt a0 y1_0)≤90))))||((byteAt a0 y1_0)==95)))&&(((y1_0==0)||(decide ((byteAt a0 y1_0)<48)))||(decide ((byteAt a0 y1_0)>57))))=true then (some (.inl false)) else (taplineref08_Name.l0 a0 m (IntKind.wrap .i64 (y1_0+1)))) else none) else (some (.inr ()))
def taplineref08_Name.f (k:Nat) (a0:ByteArray):Option (Bool):=if (((a0.size:Int)==0)||(decide ((a0.size:Int)>31)))=true then (some false) else ((taplineref08_Name.l0 a0 k 0).bind fun xx1=>(match xx1 with| .inl r=>some r| .inr s1=>some true))
theorem taplineref08_Name.calls (k:Nat) (a0:ByteArray) {h0:View} {w0:World} (hv:Sees h0 w0) {r:Bool} (H:taplineref08_Name.f k a0=some r):Calls Tryd.prog 95 #[vS a0] w0 (fun e w1=>e= .returned (vB r)∧Ext w0 w1):=by
 unfold taplineref08_Name.f at H
 have HS:St [] h0 w0 h0 [] w0:=St.init hv
 go_enter Tryd.func95,Tryd.ntmps95
 refine wp_seq<|region<|rs (vB false) (r_assign rfl) ?_
 try simp only [sc0,sc1]
 refine run_nil<|norm_then<|wp_seq<|wp_seq<|region<|rs (vS a0) (r_move rfl)<|rs (vI (a0.size:Int)) (r_lenStr rfl Tryd.runUnderlying9)<|rs (vB ((a0.size:Int)==0)) (r_bin rfl rfl rfl)<|rs (vB ((a0.size:Int)==0)) (r_move rfl)<|run_frame (by simp only [sc0,sc1];rfl) ?_
 refine rgs ((a0.size:Int)==0) true (vS a0) rfl rfl rfl rfl (fun hg=>(r_move rfl))<|rgs ((a0.size:Int)==0) true (vI (a0.size:Int)) rfl rfl rfl rfl (fun hg=>(r_lenStr (gvt (vS a0) hg rfl) Tryd.runUnderlying9))<|rgs ((a0.size:Int)==0) true (vB (decide ((a0.size:Int)>31))) rfl rfl rfl rfl (fun hg=>(r_bin (gvt (vI (a0.size:Int)) hg rfl) rfl rfl))<|rs (vB (((a0.size:Int)==0)||(decide ((a0.size:Int)>31)))) (r_pick_or rfl rfl (fun hp=>(gvt (vB (decide ((a0.size:Int)>31))) (and_i rfl hp) rfl))) ?_
 try simp only [sc0,sc1]
 refine run_nil<|norm_then<|wp_cond_split (t:=(((a0.size:Int)==0)||(decide ((a0.size:Int)>31)))) rfl (fun c1=>?_) (fun c1=>?_)
 ·replace H:=of_pos H c1
  refine wp_seq<|region<|rs (vB false) (r_assign rfl) ?_
  try simp only [sc0,sc1]
  refine run_nil<|norm_then<|wp_ret<|ret_then ?_
  obtain rfl:=Option.some.inj H
  exact bodyPost_ret (results_1 rfl (one_tmp rfl)) rfl<|⟨rfl,HS.toE⟩
 ·replace H:=of_neg H (nt c1)
  refine wp_skip<|norm_then<|wp_seq<|wp_seq<|region<|rs (vI 0) (r_assign rfl) ?_
  try simp only [sc0,sc1]
  refine run_nil<|norm_then ?_
  obtain ⟨xx1,H,G1⟩:=of_bind H
  refine loop_j [2,3,4,5,14,15,16,17,18,19,20,21,22,23,24,25,26,27,28,29,30,31,32,33,34,35,36,37,38,39,40,41,42,43,44,45,46,47,48,49,50,51,52,53,54] (fun m us w'=>∃(y1_0:Int),Fit us (fun uy1=>[(uy1 0),vI y1_0,(uy1 2),(uy1 3),(uy1 4),(uy1 5),(uy1 6),(uy1 7),(uy1 8),(uy1 9),(uy1 10),(uy1 11),(uy1 12),(uy1 13),(uy1 14),(uy1 15),(uy1 16),(uy1 17),(uy1 18),(uy1 19),(uy1 20),(uy1 21),(uy1 22),(uy1 23),(uy1 24),(uy1 25),(uy1 26),(uy1 27),(uy1 28),(uy1 29),(uy1 30),(uy1 31),(uy1 32),(uy1 33),(uy1 34),(uy1 35),(uy1 36),(uy1 37),(uy1 38),(uy1 39),(uy1 40),(uy1 41),(uy1 42),(uy1 43),(uy1 44)])∧taplineref08_Name.l0 a0 m y1_0=some xx1∧St [] h0 w0 h0 [] w') (fun us w'=>∃(s1:Unit),xx1= .inr s1∧Fit us (fun uo1=>[(uo1 0),(uo1 1),(uo1 2),(uo1 3),(uo1 4),(uo1 5),(uo1 6),(uo1 7),(uo1 8),(uo1 9),(uo1 10),(uo1 11),(uo1 12),(uo1 13),(uo1 14),(uo1 15),(uo1 16),(uo1 17),(uo1 18),(uo1 19),(uo1 20),(uo1 21),(uo1 22),(uo1 23),(uo1 24),(uo1 25),(uo1 26),(uo1 27),(uo1 28),(uo1 29),(uo1 30),(uo1 31),(uo1 32),(uo1 33),(uo1 34),(uo1 35),(uo1 36),(uo1 37),(uo1 38),(uo1 39),(uo1 40),(uo1 41),(uo1 42),(uo1 43),(uo1 44)])∧St [] h0 w0 h0 [] w') k ⟨0,(fit rfl),H,HS⟩ ?_ ?_
  ·rintro m us w1 ⟨y1_0,huy1,H,HS1⟩
   obtain ⟨uy1,rfl⟩:=unj huy1
   cases m with
   |zero=>exact absurd H (by simp [taplineref08_Name.l0])
   |succ m=>
    rw [taplineref08_Name.l0] at H
    try simp only [patch,sc0,sc1]
    refine wp_seq<|wp_seq<|region<|rs (vI y1_0) (r_move rfl)<|rs (vS a0) (r_move rfl)<|rs (vI (a0.size:Int)) (r_lenStr rfl Tryd.runUnderlying9)<|rs (vB (decide (y1_0<(a0.size:Int)))) (r_bin rfl rfl rfl) ?_
    try simp only [sc0,sc1]
    refine run_nil<|norm_then<|wp_cond_split (t:=(decide (y1_0<(a0.size:Int)))) rfl (fun c2=>?_) (fun c2=>?_)
    ·replace H:=of_pos H c2
     refine wp_skip<|norm_then<|wp_seq<|wp_block<|wp_seq<|region<|rs (vS a0) (r_move rfl)<|rs (vI y1_0) (r_move rfl) ?_
     obtain ⟨hi1,H⟩:=of_ite H
     refine rs (Value.int .u8 (byteAt a0 y1_0)) (r_indexStr rfl rfl hi1 Tryd.runUnderlying9)<|rs (Value.int .u8 (byteAt a0 y1_0)) (r_assign rfl) ?_
     try simp only [sc0,sc1]
     refine run_nil<|norm_then<|wp_seq<|region<|rs (Value.int .u8 (byteAt a0 y1_0)) (r_move rfl)<|rs (vB (decide ((byteAt a0 y1_0)≥97))) (r_bin rfl rfl rfl)<|rs (vB (decide ((byteAt a0 y1_0)≥97))) (r_move rfl)<|rgs (decide ((byteAt a0 y1_0)≥97)) true (Value.int .u8 (byteAt a0 y1_0)) rfl rfl rfl rfl (fun hg=>(r_move rfl))<|run_frame (by simp only [sc0,sc1];rfl) ?_
     refine rgs (decide ((byteAt a0 y1_0)≥97)) true (vB (decide ((byteAt a0 y1_0)≤122))) rfl rfl rfl rfl (fun hg=>(r_bin (gvt (Value.int .u8 (byteAt a0 y1_0)) hg rfl) rfl rfl))<|rs (vB ((decide ((byteAt a0 y1_0)≥97))&&(decide ((byteAt a0 y1_0)≤122)))) (r_pick_and rfl (fun hp=>(gvt (vB (decide ((byteAt a0 y1_0)≤122))) (and_i rfl hp) rfl)) rfl)<|rs (vB ((decide ((byteAt a0 y1_0)≥97))&&(decide ((byteAt a0 y1_0)≤122)))) (r_move rfl)<|rgs ((decide ((byteAt a0 y1_0)≥97))&&(decide ((byteAt a0 y1_0)≤122))) true (Value.int .u8 (byteAt a0 y1_0)) rfl rfl rfl rfl (fun hg=>(r_move rfl))<|run_frame (by simp only [sc0,sc1];rfl) ?_
     refine rgs ((decide ((byteAt a0 y1_0)≥97))&&(decide ((byteAt a0 y1_0)≤122))) true (vB (decide ((byteAt a0 y1_0)≥65))) rfl rfl rfl rfl (fun hg=>(r_bin (gvt (Value.int .u8 (byteAt a0 y1_0)) hg rfl) rfl rfl))<|rgs ((decide ((byteAt a0 y1_0)≥97))&&(decide ((byteAt a0 y1_0)≤122))) true (vB (decide ((byteAt a0 y1_0)≥65))) rfl rfl rfl rfl (fun hg=>(r_move (gvt (vB (decide ((byteAt a0 y1_0)≥65))) hg rfl)))<|rgs (decide ((byteAt a0 y1_0)≥65)) (true&&(((decide ((byteAt a0 y1_0)≥97))&&(decide ((byteAt a0 y1_0)≤122)))==false)) (Value.int .u8 (byteAt a0 y1_0)) rfl rfl rfl rfl (fun hg=>(r_move rfl))<|rgs (decide ((byteAt a0 y1_0)≥65)) (true&&(((decide ((byteAt a0 y1_0)≥97))&&(decide ((byteAt a0 y1_0)≤122)))==false)) (vB (decide ((byteAt a0 y1_0)≤90))) rfl rfl rfl rfl (fun hg=>(r_bin (gvt (Value.int .u8 (byteAt a0 y1_0)) hg rfl) rfl rfl))<|run_frame (by simp only [sc0,sc1];rfl) ?_
     refine rgs ((decide ((byteAt a0 y1_0)≥97))&&(decide ((byteAt a0 y1_0)≤122))) true (vB ((decide ((byteAt a0 y1_0)≥65))&&(decide ((byteAt a0 y1_0)≤90)))) rfl rfl rfl rfl (fun hg=>(r_pick_and (gvt (vB (decide ((byteAt a0 y1_0)≥65))) hg rfl) (fun hp=>(gvt (vB (decide ((byteAt a0 y1_0)≤90))) (and_i hg hp) rfl)) rfl))<|rs (vB (((decide ((byteAt a0 y1_0)≥97))&&(decide ((byteAt a0 y1_0)≤122)))||((decide ((byteAt a0 y1_0)≥65))&&(decide ((byteAt a0 y1_0)≤90))))) (r_pick_or rfl rfl (fun hp=>(gvt (vB ((decide ((byteAt a0 y1_0)≥65))&&(decide ((byteAt a0 y1_0)≤90)))) (and_i rfl hp) rfl)))<|rs (vB (((decide ((byteAt a0 y1_0)≥97))&&(decide ((byteAt a0 y1_0)≤122)))||((decide ((byteAt a0 y1_0)≥65))&&(decide ((byteAt a0 y1_0)≤90))))) (r_move rfl)<|rgs (((decide ((byteAt a0 y1_0)≥97))&&(decide ((byteAt a0 y1_0)≤122)))||((decide ((byteAt a0 y1_0)≥65))&&(decide ((byteAt a0 y1_0)≤90)))) true (Value.int .u8 (byteAt a0 y1_0)) rfl rfl rfl rfl (fun hg=>(r_move rfl))<|run_frame (by simp only [sc0,sc1];rfl) ?_
     refine rgs (((decide ((byteAt a0 y1_0)≥97))&&(decide ((byteAt a0 y1_0)≤122)))||((decide ((byteAt a0 y1_0)≥65))&&(decide ((byteAt a0 y1_0)≤90)))) true (vB ((byteAt a0 y1_0)==95)) rfl rfl rfl rfl (fun hg=>(r_bin (gvt (Value.int .u8 (byteAt a0 y1_0)) hg rfl) rfl rfl))<|rs (vB ((((decide ((byteAt a0 y1_0)≥97))&&(decide ((byteAt a0 y1_0)≤122)))||((decide ((byteAt a0 y1_0)≥65))&&(decide ((byteAt a0 y1_0)≤90))))||((byteAt a0 y1_0)==95))) (r_pick_or rfl rfl (fun hp=>(gvt (vB ((byteAt a0 y1_0)==95)) (and_i rfl hp) rfl)))<|rs (vB ((((decide ((byteAt a0 y1_0)≥97))&&(decide ((byteAt a0 y1_0)≤122)))||((decide ((byteAt a0 y1_0)≥65))&&(decide ((byteAt a0 y1_0)≤90))))||((byteAt a0 y1_0)==95))) (r_assign rfl) ?_
     try simp only [sc0,sc1]
     refine run_nil<|norm_then<|wp_seq<|region<|rs (vB ((((decide ((byteAt a0 y1_0)≥97))&&(decide ((byteAt a0 y1_0)≤122)))||((decide ((byteAt a0 y1_0)≥65))&&(decide ((byteAt a0 y1_0)≤90))))||((byteAt a0 y1_0)==95))) (r_move rfl)<|rs (vB (!((((decide ((byteAt a0 y1_0)≥97))&&(decide ((byteAt a0 y1_0)≤122)))||((decide ((byteAt a0 y1_0)≥65))&&(decide ((byteAt a0 y1_0)≤90))))||((byteAt a0 y1_0)==95)))) (r_not rfl)<|rs (vB (!((((decide ((byteAt a0 y1_0)≥97))&&(decide ((byteAt a0 y1_0)≤122)))||((decide ((byteAt a0 y1_0)≥65))&&(decide ((byteAt a0 y1_0)≤90))))||((byteAt a0 y1_0)==95)))) (r_move rfl)<|rgs (!((((decide ((byteAt a0 y1_0)≥97))&&(decide ((byteAt a0 y1_0)≤122)))||((decide ((byteAt a0 y1_0)≥65))&&(decide ((byteAt a0 y1_0)≤90))))||((byteAt a0 y1_0)==95))) true (vI y1_0) rfl rfl rfl rfl (fun hg=>(r_move rfl))<|run_frame (by simp only [sc0,sc1];rfl) ?_
     refine rgs (!((((decide ((byteAt a0 y1_0)≥97))&&(decide ((byteAt a0 y1_0)≤122)))||((decide ((byteAt a0 y1_0)≥65))&&(decide ((byteAt a0 y1_0)≤90))))||((byteAt a0 y1_0)==95))) true (vB (y1_0==0)) rfl rfl rfl rfl (fun hg=>(r_bin (gvt (vI y1_0) hg rfl) rfl rfl))<|rgs (!((((decide ((byteAt a0 y1_0)≥97))&&(decide ((byteAt a0 y1_0)≤122)))||((decide ((byteAt a0 y1_0)≥65))&&(decide ((byteAt a0 y1_0)≤90))))||((byteAt a0 y1_0)==95))) true (vB (y1_0==0)) rfl rfl rfl rfl (fun hg=>(r_move (gvt (vB (y1_0==0)) hg rfl)))<|rgs (y1_0==0) (true&&((!((((decide ((byteAt a0 y1_0)≥97))&&(decide ((byteAt a0 y1_0)≤122)))||((decide ((byteAt a0 y1_0)≥65))&&(decide ((byteAt a0 y1_0)≤90))))||((byteAt a0 y1_0)==95)))==true)) (Value.int .u8 (byteAt a0 y1_0)) rfl rfl rfl rfl (fun hg=>(r_move rfl))<|rgs (y1_0==0) (true&&((!((((decide ((byteAt a0 y1_0)≥97))&&(decide ((byteAt a0 y1_0)≤122)))||((decide ((byteAt a0 y1_0)≥65))&&(decide ((byteAt a0 y1_0)≤90))))||((byteAt a0 y1_0)==95)))==true)) (vB (decide ((byteAt a0 y1_0)<48))) rfl rfl rfl rfl (fun hg=>(r_bin (gvt (Value.int .u8 (byteAt a0 y1_0)) hg rfl) rfl rfl))<|run_frame (by simp only [sc0,sc1];rfl) ?_
     refine rgs (!((((decide ((byteAt a0 y1_0)≥97))&&(decide ((byteAt a0 y1_0)≤122)))||((decide ((byteAt a0 y1_0)≥65))&&(decide ((byteAt a0 y1_0)≤90))))||((byteAt a0 y1_0)==95))) true (vB ((y1_0==0)||(decide ((byteAt a0 y1_0)<48)))) rfl rfl rfl rfl (fun hg=>(r_pick_or (gvt (vB (y1_0==0)) hg rfl) rfl (fun hp=>(gvt (vB (decide ((byteAt a0 y1_0)<48))) (and_i hg hp) rfl))))<|rgs (!((((decide ((byteAt a0 y1_0)≥97))&&(decide ((byteAt a0 y1_0)≤122)))||((decide ((byteAt a0 y1_0)≥65))&&(decide ((byteAt a0 y1_0)≤90))))||((byteAt a0 y1_0)==95))) true (vB ((y1_0==0)||(decide ((byteAt a0 y1_0)<48)))) rfl rfl rfl rfl (fun hg=>(r_move (gvt (vB ((y1_0==0)||(decide ((byteAt a0 y1_0)<48)))) hg rfl)))<|rgs ((y1_0==0)||(decide ((byteAt a0 y1_0)<48))) (true&&((!((((decide ((byteAt a0 y1_0)≥97))&&(decide ((byteAt a0 y1_0)≤122)))||((decide ((byteAt a0 y1_0)≥65))&&(decide ((byteAt a0 y1_0)≤90))))||((byteAt a0 y1_0)==95)))==true)) (Value.int .u8 (byteAt a0 y1_0)) rfl rfl rfl rfl (fun hg=>(r_move rfl))<|rgs ((y1_0==0)||(decide ((byteAt a0 y1_0)<48))) (true&&((!((((decide ((byteAt a0 y1_0)≥97))&&(decide ((byteAt a0 y1_0)≤122)))||((decide ((byteAt a0 y1_0)≥65))&&(decide ((byteAt a0 y1_0)≤90))))||((byteAt a0 y1_0)==95)))==true)) (vB (decide ((byteAt a0 y1_0)>57))) rfl rfl rfl rfl (fun hg=>(r_bin (gvt (Value.int .u8 (byteAt a0 y1_0)) hg rfl) rfl rfl))<|run_frame (by simp only [sc0,sc1];rfl) ?_
     refine rgs (!((((decide ((byteAt a0 y1_0)≥97))&&(decide ((byteAt a0 y1_0)≤122)))||((decide ((byteAt a0 y1_0)≥65))&&(decide ((byteAt a0 y1_0)≤90))))||((byteAt a0 y1_0)==95))) true (vB (((y1_0==0)||(decide ((byteAt a0 y1_0)<48)))||(decide ((byteAt a0 y1_0)>57)))) rfl rfl rfl rfl (fun hg=>(r_pick_or (gvt (vB ((y1_0==0)||(decide ((byteAt a0 y1_0)<48)))) hg rfl) rfl (fun hp=>(gvt (vB (decide ((byteAt a0 y1_0)>57))) (and_i hg hp) rfl))))<|rs (vB ((!((((decide ((byteAt a0 y1_0)≥97))&&(decide ((byteAt a0 y1_0)≤122)))||((decide ((byteAt a0 y1_0)≥65))&&(decide ((byteAt a0 y1_0)≤90))))||((byteAt a0 y1_0)==95)))&&(((y1_0==0)||(decide ((byteAt a0 y1_0)<48)))||(decide ((byteAt a0 y1_0)>57))))) (r_pick_and rfl (fun hp=>(gvt (vB (((y1_0==0)||(decide ((byteAt a0 y1_0)<48)))||(decide ((byteAt a0 y1_0)>57)))) (and_i rfl hp) rfl)) rfl) ?_
     try simp only [sc0,sc1]
     refine run_nil<|norm_then<|wp_cond_split (t:=((!((((decide ((byteAt a0 y1_0)≥97))&&(decide ((byteAt a0 y1_0)≤122)))||((decide ((byteAt a0 y1_0)≥65))&&(decide ((byteAt a0 y1_0)≤90))))||((byteAt a0 y1_0)==95)))&&(((y1_0==0)||(decide ((byteAt a0 y1_0)<48)))||(decide ((byteAt a0 y1_0)>57))))) rfl (fun c3=>?_) (fun c3=>?_)
     ·replace H:=of_pos H c3
      refine wp_seq<|region<|rs (vB false) (r_assign rfl) ?_
      try simp only [sc0,sc1]
      refine run_nil<|norm_then<|wp_ret<|ret_block<|ret_then<|ret_loop<|ret_then ?_
      obtain rfl:=Option.some.inj H
      obtain rfl:=Option.some.inj G1
      exact bodyPost_ret (results_1 rfl (one_tmp rfl)) rfl<|⟨rfl,HS1.toE⟩
     ·replace H:=of_neg H (nt c3)
      refine wp_skip<|norm_block<|norm_then<|region<|rs (vI y1_0) (r_move rfl)<|rs (vI (w64 (y1_0+1))) (r_bin rfl rfl rfl)<|rs (vI (w64 (y1_0+1))) (r_assign rfl) ?_
      try simp only [sc0,sc1]
      refine run_nil<|again_j m (Nat.lt_succ_self m) rfl ⟨(w64 (y1_0+1)),(fit rfl),H,HS1⟩
    ·replace H:=of_neg H (nt c2)
     refine wp_exit<|exit_then ?_
     obtain rfl:=Option.some.inj H
     refine leave_j rfl ⟨_,rfl,(fit rfl),HS1⟩
  ·rintro us w2 ⟨s1,rfl,huo1,HS2⟩
   obtain ⟨uo1,rfl⟩:=unj huo1
   replace H:=G1
   clear G1
   try simp only [patch,sc0,sc1]
   refine norm_then<|wp_seq<|region<|rs (vB true) (r_assign rfl) ?_
   try simp only [sc0,sc1]
   refine run_nil<|norm_then<|wp_ret ?_
   obtain rfl:=Option.some.inj H
   exact bodyPost_ret (results_1 rfl (one_tmp rfl)) rfl<|⟨rfl,HS2.toE⟩
def taplineref08_Index.f (a0:api_Types) (a1:Int):Option (Bool):=some ((decide (a1≥0))&&(decide (a1<(a0.vDefs.length:Int))))
theorem taplineref08_Index.calls (a0:api_Types) (a1:Int) (A0_0:Option Addr) (c0_0:Nat) {h0:View} {w0:World} (hv:Sees h0 w0) (hr0_0:Rd k_api_Def h0 A0_0 a0.vDefs) (hc0_0:a0.vDefs.length≤c0_0) {r:Bool} (H:taplineref08_Index.f a0 a1=some r):Calls Tryd.prog 96 #[Value.agg #[vL A0_0 a0.vDefs.length c0_0],vI a1] w0 (fun e w1=>e= .returned (vB r)∧Ext w0 w1):=by
 unfold taplineref08_Index.f at H
 have HS:St [] h0 w0 h0 [] w0:=St.init hv
 go_enter Tryd.func96,Tryd.ntmps96
 refine wp_seq<|region<|run_ex rfl rfl (does_box (cs:=#[vL A0_0 a0.vDefs.length c0_0]) rfl rfl) ?_
 rintro w1 _ hE1 ⟨b1,rfl,ge1,hb1⟩
 have HS1:=HS.new hE1 ge1 hb1
 refine rs (vB false) (r_assign rfl) ?_
 try simp only [sc0,sc1]
 refine run_nil<|norm_then<|wp_seq<|region<|rs (vI a1) (r_move rfl)<|rs (vB (decide (a1≥0))) (r_bin rfl rfl rfl)<|rs (vB (decide (a1≥0))) (r_move rfl)<|rgs (decide (a1≥0)) true (vI a1) rfl rfl rfl rfl (fun hg=>(r_move rfl))<|run_frame (by simp only [sc0,sc1];rfl) ?_
 refine rgs (decide (a1≥0)) true (vP b1 0) rfl rfl rfl rfl (fun hg=>(r_fieldBox (n:=1) (o':=0) rfl Tryd.runUnderlying24 rfl Tryd.sizeOf22 (by decide) rfl))<|rgs (decide (a1≥0)) true (vL A0_0 a0.vDefs.length c0_0) rfl rfl rfl rfl (fun hg=>(r_loadBox (gvt (vP b1 0) hg rfl) Tryd.isAgg22 (HS1.look 0 rfl) rfl))<|rgs (decide (a1≥0)) true (vI (a0.vDefs.length:Int)) rfl rfl rfl rfl (fun hg=>(r_len (gvt (vL A0_0 a0.vDefs.length c0_0) hg rfl) Tryd.runUnderlying22))<|rgs (decide (a1≥0)) true (vB (decide (a1<(a0.vDefs.length:Int)))) rfl rfl rfl rfl (fun hg=>(r_bin (gvt (vI a1) hg rfl) (gvt (vI (a0.vDefs.length:Int)) hg rfl) rfl))<|run_frame (by simp only [sc0,sc1];rfl) ?_
 refine rs (vB ((decide (a1≥0))&&(decide (a1<(a0.vDefs.length:Int))))) (r_pick_and rfl (fun hp=>(gvt (vB (decide (a1<(a0.vDefs.length:Int)))) (and_i rfl hp) rfl)) rfl)<|rs (vB ((decide (a1≥0))&&(decide (a1<(a0.vDefs.length:Int))))) (r_assign rfl) ?_
 try simp only [sc0,sc1]
 refine run_nil<|norm_then<|wp_ret ?_
 obtain rfl:=Option.some.inj H
 exact bodyPost_ret (results_1 rfl (one_tmp rfl)) rfl<|⟨rfl,HS1.toE⟩
def taplineref08_fields.l1 (a0:List api_Field) (y1_0:Int):Nat→Int→Option ((Bool)⊕(Unit))
 |0,_=>none
 |m+1,y2_0=>if (decide (y2_0<y1_0))=true then (if 0≤y2_0∧y2_0<a0.length then (if 0≤y1_0∧y1_0<a0.length then (if (strEq ((rd z_api_Field a0 y2_0).vName) ((rd z_api_Field a0 y1_0).vName))=true then (some (.inl false)) else (taplineref08_fields.l1 a0 y1_0 m (IntKind.wrap .i64 (y2_0+1)))) else none) else none) else (some (.inr ()))
def taplineref08_fields.l0 (k:Nat) (a0:List api_Field):Nat→Int→Option ((Bool)⊕(Unit))
 |0,_=>none
 |m+1,y1_0=>if (decide (y1_0<(a0.length:Int)))=true then (if 0≤y1_0∧y1_0<a0.length then ((taplineref08_Name.f k ((rd z_api_Field a0 y1_0).vName)).bind fun v1=>(if (!v1)=true then (some (.inl false)) else ((taplineref08_fields.l1 a0 y1_0 k 0).bind fun xx2=>(match xx2 with| .inl r=>some (.inl r)| .inr s1=>taplineref08_fields.l0 k a0 m (IntKind.wrap .i64 (y1_0+1)))))) else none) else (some (.inr ()))
def taplineref08_fields.f (k:Nat) (a0:List api_Field):Option (Bool):=if (((a0.length:Int)==0)||(decide ((a0.length:Int)>32)))=true then (some false) else ((taplineref08_fields.l0 k a0 k 0).bind fun xx1=>(match xx1 with| .inl r=>some r| .inr s2=>some true))
theorem taplineref08_fields.calls (k:Nat) (a0:List api_Field) (A0_0:Option Addr) (c0_0:Nat) {h0:View} {w0:World} (hv:Sees h0 w0) (hr0_0:Rd k_api_Field h0 A0_0 a0) (hc0_0:a0.length≤c0_0) {r:Bool} (H:taplineref08_fields.f k a0=some r):Calls Tryd.prog 97 #[vL A0_0 a0.length c0_0] w0 (fun e w1=>e= .returned (vB r)∧Ext w0 w1):=by
 unfold taplineref08_fields.f at H
 have HS:St [] h0 w0 h0 [] w0:=St.init hv
 go_enter Tryd.func97,Tryd.ntmps97
 refine wp_seq<|region<|rs (vB false) (r_assign rfl) ?_
 try simp only [sc0,sc1]
 refine run_nil<|norm_then<|wp_seq<|wp_seq<|region<|rs (vL A0_0 a0.length c0_0) (r_move rfl)<|rs (vI (a0.length:Int)) (r_len rfl Tryd.runUnderlying32)<|rs (vB ((a0.length:Int)==0)) (r_bin rfl rfl rfl)<|rs (vB ((a0.length:Int)==0)) (r_move rfl)<|run_frame (by simp only [sc0,sc1];rfl) ?_
 refine rgs ((a0.length:Int)==0) true (vL A0_0 a0.length c0_0) rfl rfl rfl rfl (fun hg=>(r_move rfl))<|rgs ((a0.length:Int)==0) true (vI (a0.length:Int)) rfl rfl rfl rfl (fun hg=>(r_len (gvt (vL A0_0 a0.length c0_0) hg rfl) Tryd.runUnderlying32))<|rgs ((a0.length:Int)==0) true (vB (decide ((a0.length:Int)>32))) rfl rfl rfl rfl (fun hg=>(r_bin (gvt (vI (a0.length:Int)) hg rfl) rfl rfl))<|rs (vB (((a0.length:Int)==0)||(decide ((a0.length:Int)>32)))) (r_pick_or rfl rfl (fun hp=>(gvt (vB (decide ((a0.length:Int)>32))) (and_i rfl hp) rfl))) ?_
 try simp only [sc0,sc1]
 refine run_nil<|norm_then<|wp_cond_split (t:=(((a0.length:Int)==0)||(decide ((a0.length:Int)>32)))) rfl (fun c1=>?_) (fun c1=>?_)
 ·replace H:=of_pos H c1
  refine wp_seq<|region<|rs (vB false) (r_assign rfl) ?_
  try simp only [sc0,sc1]
  refine run_nil<|norm_then<|wp_ret<|ret_then ?_
  obtain rfl:=Option.some.inj H
  exact bodyPost_ret (results_1 rfl (one_tmp rfl)) rfl<|⟨rfl,HS.toE⟩
 ·replace H:=of_neg H (nt c1)
  refine wp_skip<|norm_then<|wp_seq<|wp_seq<|region<|rs (vI 0) (r_assign rfl) ?_
  try simp only [sc0,sc1]
  refine run_nil<|norm_then ?_
  obtain ⟨xx1,H,G1⟩:=of_bind H
  refine loop_j [2,3,4,13,14,15,16,17,18,19,20,21,22,23,24,25,26,27,28,29,30,31,32,33,34,35,36,37,38,39,40,41] (fun m us w'=>∃(y1_0:Int),Fit us (fun uy1=>[(uy1 0),vI y1_0,(uy1 2),(uy1 3),(uy1 4),(uy1 5),(uy1 6),(uy1 7),(uy1 8),(uy1 9),(uy1 10),(uy1 11),(uy1 12),(uy1 13),(uy1 14),(uy1 15),(uy1 16),(uy1 17),(uy1 18),(uy1 19),(uy1 20),(uy1 21),(uy1 22),(uy1 23),(uy1 24),(uy1 25),(uy1 26),(uy1 27),(uy1 28),(uy1 29),(uy1 30),(uy1 31)])∧taplineref08_fields.l0 k a0 m y1_0=some xx1∧St [] h0 w0 h0 [] w') (fun us w'=>∃(s2:Unit),xx1= .inr s2∧Fit us (fun uo2=>[(uo2 0),(uo2 1),(uo2 2),(uo2 3),(uo2 4),(uo2 5),(uo2 6),(uo2 7),(uo2 8),(uo2 9),(uo2 10),(uo2 11),(uo2 12),(uo2 13),(uo2 14),(uo2 15),(uo2 16),(uo2 17),(uo2 18),(uo2 19),(uo2 20),(uo2 21),(uo2 22),(uo2 23),(uo2 24),(uo2 25),(uo2 26),(uo2 27),(uo2 28),(uo2 29),(uo2 30),(uo2 31)])∧St [] h0 w0 h0 [] w') k ⟨0,(fit rfl),H,HS⟩ ?_ ?_
  ·rintro m us w1 ⟨y1_0,huy1,H,HS1⟩
   obtain ⟨uy1,rfl⟩:=unj huy1
   cases m with
   |zero=>exact absurd H (by simp [taplineref08_fields.l0])
   |succ m=>
    rw [taplineref08_fields.l0] at H
    try simp only [patch,sc0,sc1]
    refine wp_seq<|wp_seq<|region<|rs (vI y1_0) (r_move rfl)<|rs (vL A0_0 a0.length c0_0) (r_move rfl)<|rs (vI (a0.length:Int)) (r_len rfl Tryd.runUnderlying32)<|rs (vB (decide (y1_0<(a0.length:Int)))) (r_bin rfl rfl rfl) ?_
    try simp only [sc0,sc1]
    refine run_nil<|norm_then<|wp_cond_split (t:=(decide (y1_0<(a0.length:Int)))) rfl (fun c2=>?_) (fun c2=>?_)
    ·replace H:=of_pos H c2
     refine wp_skip<|norm_then<|wp_seq<|wp_block<|wp_seq<|wp_seq<|region<|rs (vL A0_0 a0.length c0_0) (r_move rfl)<|rs (vI y1_0) (r_move rfl) ?_
     obtain ⟨hi1,H⟩:=of_ite H
     obtain ⟨ad1,e1,hel1⟩:=ld_api_Field hr0_0 hi1.1 hi1.2
     refine rs (Value.pointer (some (Addr.add ad1 (y1_0.toNat*3)))) (r_indexA (sz:=3) rfl e1 rfl hi1.1 hi1.2 Tryd.runUnderlying32 Tryd.sizeOf36)<|rs (Value.pointer (some (Addr.add (Addr.add ad1 (y1_0.toNat*3)) 0))) (r_fieldEl (n:=1) (o':=0) rfl Tryd.runUnderlying36 rfl Tryd.sizeOf9 (by decide) rfl)<|run_frame (by simp only [sc0,sc1];rfl) ?_
     refine rs (vS ((rd z_api_Field a0 y1_0).vName)) (r_load rfl Tryd.isAgg9 (hel1.cell HS1.sees 0 rfl)) ?_
     obtain ⟨v1,H1,H⟩:=of_bind H
     refine run_eq (v:=vB v1) rfl rfl (does_call_eq Tryd.call95 rfl rfl (taplineref08_Name.calls k ((rd z_api_Field a0 y1_0).vName) HS1.sees H1)) ?_
     intro w2 hE1
     have HS2:=HS1.step hE1
     refine rs (vB (!v1)) (r_not rfl) ?_
     try simp only [sc0,sc1]
     refine run_nil<|norm_then<|wp_cond_split (t:=(!v1)) rfl (fun c3=>?_) (fun c3=>?_)
     ·replace H:=of_pos H c3
      refine wp_seq<|region<|rs (vB false) (r_assign rfl) ?_
      try simp only [sc0,sc1]
      refine run_nil<|norm_then<|wp_ret<|ret_then<|ret_block<|ret_then<|ret_loop<|ret_then ?_
      obtain rfl:=Option.some.inj H
      obtain rfl:=Option.some.inj G1
      exact bodyPost_ret (results_1 rfl (one_tmp rfl)) rfl<|⟨rfl,HS2.toE⟩
     ·replace H:=of_neg H (nt c3)
      refine wp_skip<|norm_then<|wp_seq<|region<|rs (vI 0) (r_assign rfl) ?_
      try simp only [sc0,sc1]
      refine run_nil<|norm_then ?_
      obtain ⟨xx2,H,G2⟩:=of_bind H
      refine loop_j [2,4,26,27,28,29,30,31,32,33,34,35,36,37,38,39,40,41] (fun m us w'=>∃(y2_0:Int),Fit us (fun uy2=>[(uy2 0),vI y2_0,(uy2 2),(uy2 3),(uy2 4),(uy2 5),(uy2 6),(uy2 7),(uy2 8),(uy2 9),(uy2 10),(uy2 11),(uy2 12),(uy2 13),(uy2 14),(uy2 15),(uy2 16),(uy2 17)])∧taplineref08_fields.l1 a0 y1_0 m y2_0=some xx2∧St [] h0 w0 h0 [] w') (fun us w'=>∃(s1:Unit),xx2= .inr s1∧Fit us (fun uo1=>[(uo1 0),(uo1 1),(uo1 2),(uo1 3),(uo1 4),(uo1 5),(uo1 6),(uo1 7),(uo1 8),(uo1 9),(uo1 10),(uo1 11),(uo1 12),(uo1 13),(uo1 14),(uo1 15),(uo1 16),(uo1 17)])∧St [] h0 w0 h0 [] w') k ⟨0,(fit rfl),H,HS2⟩ ?_ ?_
      ·rintro m us w3 ⟨y2_0,huy2,H,HS3⟩
       obtain ⟨uy2,rfl⟩:=unj huy2
       cases m with
       |zero=>exact absurd H (by simp [taplineref08_fields.l1])
       |succ m=>
        rw [taplineref08_fields.l1] at H
        try simp only [patch,sc0,sc1]
        refine wp_seq<|wp_seq<|region<|rs (vI y2_0) (r_move rfl)<|rs (vI y1_0) (r_move rfl)<|rs (vB (decide (y2_0<y1_0))) (r_bin rfl rfl rfl) ?_
        try simp only [sc0,sc1]
        refine run_nil<|norm_then<|wp_cond_split (t:=(decide (y2_0<y1_0))) rfl (fun c4=>?_) (fun c4=>?_)
        ·replace H:=of_pos H c4
         refine wp_skip<|norm_then<|wp_seq<|wp_block<|wp_seq ?_
         obtain ⟨hi2,H⟩:=of_ite H
         obtain ⟨ad2,e2,hel2⟩:=ld_api_Field hr0_0 hi2.1 hi2.2
         obtain ⟨hi3,H⟩:=of_ite H
         obtain ⟨ad3,e3,hel3⟩:=ld_api_Field hr0_0 hi3.1 hi3.2
         refine drawn [.eq (vL A0_0 a0.length c0_0), .eq (vI y2_0), .eq (Value.pointer (some (Addr.add ad2 (y2_0.toNat*3)))), .eq (Value.pointer (some (Addr.add (Addr.add ad2 (y2_0.toNat*3)) 0))), .eq (vS ((rd z_api_Field a0 y2_0).vName)), .eq (vL A0_0 a0.length c0_0), .eq (vI y1_0), .eq (Value.pointer (some (Addr.add ad3 (y1_0.toNat*3)))), .eq (Value.pointer (some (Addr.add (Addr.add ad3 (y1_0.toNat*3)) 0))), .eq (vS ((rd z_api_Field a0 y1_0).vName)), .eq (vB (strEq ((rd z_api_Field a0 y2_0).vName) ((rd z_api_Field a0 y1_0).vName)))] [31,32,33,34,35,36,37,38,39,40,41] hmix (by kernel_rfl) rfl (stable_eq (stable_eq (stable_eq (stable_eq (stable_eq (stable_eq (stable_eq (stable_eq (stable_eq (stable_eq (stable_eq stable_nil))))))))))) ⟨ob_plain rfl (fun a' w' hE hk=>by have HSd:=HS3.step hE;exact does_eq (r_move (show _=vL A0_0 a0.length c0_0 from hk 0 rfl))),ob_plain rfl (fun a' w' hE hk=>by have HSd:=HS3.step hE;exact does_eq (r_move (show _=vI y2_0 from hk 4 rfl))),ob_plain rfl (fun a' w' hE hk=>by have HSd:=HS3.step hE;exact does_eq (r_indexA (sz:=3) (show _=vL A0_0 a0.length c0_0 from hk 31 rfl) e2 (show _=vI y2_0 from hk 32 rfl) hi2.1 hi2.2 Tryd.runUnderlying32 Tryd.sizeOf36)),ob_plain rfl (fun a' w' hE hk=>by have HSd:=HS3.step hE;exact does_eq (r_fieldEl (n:=1) (o':=0) (show _=Value.pointer (some (Addr.add ad2 (y2_0.toNat*3))) from hk 33 rfl) Tryd.runUnderlying36 rfl Tryd.sizeOf9 (by decide) rfl)),ob_plain rfl (fun a' w' hE hk=>by have HSd:=HS3.step hE;exact does_eq (r_load (show _=Value.pointer (some (Addr.add (Addr.add ad2 (y2_0.toNat*3)) 0)) from hk 34 rfl) Tryd.isAgg9 (hel2.cell HSd.sees 0 rfl))),ob_plain rfl (fun a' w' hE hk=>by have HSd:=HS3.step hE;exact does_eq (r_move (show _=vL A0_0 a0.length c0_0 from hk 0 rfl))),ob_plain rfl (fun a' w' hE hk=>by have HSd:=HS3.step hE;exact does_eq (r_move (show _=vI y1_0 from hk 3 rfl))),ob_plain rfl (fun a' w' hE hk=>by have HSd:=HS3.step hE;exact does_eq (r_indexA (sz:=3) (show _=vL A0_0 a0.length c0_0 from hk 36 rfl) e3 (show _=vI y1_0 from hk 37 rfl) hi3.1 hi3.2 Tryd.runUnderlying32 Tryd.sizeOf36)),ob_plain rfl (fun a' w' hE hk=>by have HSd:=HS3.step hE;exact does_eq (r_fieldEl (n:=1) (o':=0) (show _=Value.pointer (some (Addr.add ad3 (y1_0.toNat*3))) from hk 38 rfl) Tryd.runUnderlying36 rfl Tryd.sizeOf9 (by decide) rfl)),ob_plain rfl (fun a' w' hE hk=>by have HSd:=HS3.step hE;exact does_eq (r_load (show _=Value.pointer (some (Addr.add (Addr.add ad3 (y1_0.toNat*3)) 0)) from hk 39 rfl) Tryd.isAgg9 (hel3.cell HSd.sees 0 rfl))),ob_plain rfl (fun a' w' hE hk=>by have HSd:=HS3.step hE;exact does_eq (r_streql (show _=vS ((rd z_api_Field a0 y2_0).vName) from hk 35 rfl) (show _=vS ((rd z_api_Field a0 y1_0).vName) from hk 40 rfl))),trivial⟩ ?_
         intro w4 hE2
         simp only [List.zip_cons_cons,List.zip_nil_left,List.zip_nil_right,finL,sc0,sc1,List.length_cons,List.length_nil,List.drop_succ_cons,List.drop_zero,Nat.zero_add,Nat.reduceAdd]
         have HS4:=HS3.step hE2
         refine run_nil<|norm_then<|wp_cond_split (t:=(strEq ((rd z_api_Field a0 y2_0).vName) ((rd z_api_Field a0 y1_0).vName))) rfl (fun c5=>?_) (fun c5=>?_)
         ·replace H:=of_pos H c5
          refine wp_seq<|region<|rs (vB false) (r_assign rfl) ?_
          try simp only [sc0,sc1]
          refine run_nil<|norm_then<|wp_ret<|ret_block<|ret_then<|ret_loop<|ret_block<|ret_then<|ret_loop<|ret_then ?_
          obtain rfl:=Option.some.inj H
          obtain rfl:=Option.some.inj G2
          obtain rfl:=Option.some.inj G1
          exact bodyPost_ret (results_1 rfl (one_tmp rfl)) rfl<|⟨rfl,HS4.toE⟩
         ·replace H:=of_neg H (nt c5)
          refine wp_skip<|norm_block<|norm_then<|region<|rs (vI y2_0) (r_move rfl)<|rs (vI (w64 (y2_0+1))) (r_bin rfl rfl rfl)<|rs (vI (w64 (y2_0+1))) (r_assign rfl) ?_
          try simp only [sc0,sc1]
          refine run_nil<|again_j m (Nat.lt_succ_self m) rfl ⟨(w64 (y2_0+1)),(fit rfl),H,HS4⟩
        ·replace H:=of_neg H (nt c4)
         refine wp_exit<|exit_then ?_
         obtain rfl:=Option.some.inj H
         refine leave_j rfl ⟨_,rfl,(fit rfl),HS3⟩
      ·rintro us w5 ⟨s1,rfl,huo1,HS5⟩
       obtain ⟨uo1,rfl⟩:=unj huo1
       replace H:=G2
       clear G2
       try simp only [patch,sc0,sc1]
       refine norm_block<|norm_then<|region<|rs (vI y1_0) (r_move rfl)<|rs (vI (w64 (y1_0+1))) (r_bin rfl rfl rfl)<|rs (vI (w64 (y1_0+1))) (r_assign rfl) ?_
       try simp only [sc0,sc1]
       refine run_nil<|again_j m (Nat.lt_succ_self m) rfl ⟨(w64 (y1_0+1)),(fit rfl),H,HS5⟩
    ·replace H:=of_neg H (nt c2)
     refine wp_exit<|exit_then ?_
     obtain rfl:=Option.some.inj H
     refine leave_j rfl ⟨_,rfl,(fit rfl),HS1⟩
  ·rintro us w6 ⟨s2,rfl,huo2,HS6⟩
   obtain ⟨uo2,rfl⟩:=unj huo2
   replace H:=G1
   clear G1
   try simp only [patch,sc0,sc1]
   refine norm_then<|wp_seq<|region<|rs (vB true) (r_assign rfl) ?_
   try simp only [sc0,sc1]
   refine run_nil<|norm_then<|wp_ret ?_
   obtain rfl:=Option.some.inj H
   exact bodyPost_ret (results_1 rfl (one_tmp rfl)) rfl<|⟨rfl,HS6.toE⟩
def taplineref08_shaped.l0 (a0:api_Types) (a1:api_Def):Nat→Int→Option ((Bool)⊕(Unit))
 |0,_=>none
 |m+1,y1_0=>if (decide (y1_0<(a1.vFields.length:Int)))=true then (if 0≤y1_0∧y1_0<a1.vFields.length then ((if (true&&((a1.vKind==4)==true))=true then taplineref08_Index.f a0 ((rd z_api_Field a1.vFields y1_0).vType) else some false).bind fun v7=>(if ((a1.vKind==4)&&(!v7))=true then (some (.inl false)) else (if ((a1.vKind==5)&&((((rd z_api_Field a1.vFields y1_0).vType !=0)||(decide ((rd z_api_Field a1.vFields y1_0).vAt<(-2147483648))))||(decide ((rd z_api_Field a1.vFields y1_0).vAt>2147483647))))=true then (some (.inl false)) else (taplineref08_shaped.l0 a0 a1 m (IntKind.wrap .i64 (y1_0+1)))))) else none) else (some (.inr ()))
def taplineref08_shaped.f (k:Nat) (a0:api_Types) (a1:api_Def):Option (Bool):=(if (true&&(((decide (a1.vKind<1))||(decide (a1.vKind>6)))==false))=true then taplineref08_unused.f a1 else some false).bind fun v1=>((if (true&&((((decide (a1.vKind<1))||(decide (a1.vKind>6)))||(!v1))==false))=true then taplineref08_Named.f a1 else some false).bind fun v2=>((if ((true&&((((decide (a1.vKind<1))||(decide (a1.vKind>6)))||(!v1))==false))&&(v2==true))=true then taplineref08_Name.f k a1.vName else some false).bind fun v3=>(if ((((decide (a1.vKind<1))||(decide (a1.vKind>6)))||(!v1))||(v2&&(!v3)))=true then (some false) else (if (a1.vKind==1)=true then (some ((((a1.vInt.vSize==1)||(a1.vInt.vSize==2))||(a1.vInt.vSize==4))||(a1.vInt.vSize==8))) else (((if (a1.vKind==2)=true then (some (a1.vKind==2)) else (some (a1.vKind==6))):Option (Bool)).bind fun xx1=>(if xx1=true then ((taplineref08_Index.f a0 a1.vRef).bind fun v4=>(some v4)) else (if (a1.vKind==3)=true then ((taplineref08_Index.f a0 a1.vRef).bind fun v5=>(some ((v5&&(decide (a1.vN≥1)))&&(decide (a1.vN≤512))))) else ((taplineref08_fields.f k a1.vFields).bind fun v6=>(if (!v6)=true then (some false) else ((taplineref08_shaped.l0 a0 a1 k 0).bind fun xx2=>(match xx2 with| .inl r=>some r| .inr s1=>some ((a1.vKind==5)||((decide (a1.vN≥1))&&(decide (a1.vN≤512)))))))))))))))
theorem taplineref08_shaped.calls (k:Nat) (a0:api_Types) (a1:api_Def) (A0_0:Option Addr) (c0_0:Nat) (A1_6:Option Addr) (c1_6:Nat) {h0:View} {w0:World} (hv:Sees h0 w0) (hr0_0:Rd k_api_Def h0 A0_0 a0.vDefs) (hc0_0:a0.vDefs.length≤c0_0) (hr1_6:Rd k_api_Field h0 A1_6 a1.vFields) (hc1_6:a1.vFields.length≤c1_6) {r:Bool} (H:taplineref08_shaped.f k a0 a1=some r):Calls Tryd.prog 48 #[Value.agg #[vL A0_0 a0.vDefs.length c0_0],Value.agg #[vI a1.vKind,vS a1.vName,vI a1.vInt.vSize,vB a1.vInt.vSigned,vI a1.vRef,vI a1.vN,vL A1_6 a1.vFields.length c1_6]] w0 (fun e w1=>e= .returned (vB r)∧Ext w0 w1):=by
 unfold taplineref08_shaped.f at H
 have HS:St [] h0 w0 h0 [] w0:=St.init hv
 go_enter Tryd.func48,Tryd.ntmps48
 refine wp_seq<|region<|run_ex rfl rfl (does_box (cs:=#[vL A0_0 a0.vDefs.length c0_0]) rfl rfl) ?_
 rintro w1 _ hE1 ⟨b1,rfl,ge1,hb1⟩
 have HS1:=HS.new hE1 ge1 hb1
 refine run_ex rfl rfl (does_box (cs:=#[vI a1.vKind,vS a1.vName,vI a1.vInt.vSize,vB a1.vInt.vSigned,vI a1.vRef,vI a1.vN,vL A1_6 a1.vFields.length c1_6]) rfl rfl) ?_
 rintro w2 _ hE2 ⟨b2,rfl,ge2,hb2⟩
 have HS2:=HS1.new hE2 ge2 hb2
 refine rs (vB false) (r_assign rfl) ?_
 try simp only [sc0,sc1]
 refine run_nil<|norm_then<|wp_seq<|wp_seq<|region<|rs (vP b2 0) (r_fieldBox (n:=1) (o':=0) rfl Tryd.runUnderlying34 rfl Tryd.sizeOf3 (by decide) rfl)<|rs (vI a1.vKind) (r_loadBox rfl Tryd.isAgg3 (HS2.look 0 rfl) rfl)<|rs (vB (decide (a1.vKind<1))) (r_bin rfl rfl rfl)<|rs (vB (decide (a1.vKind<1))) (r_move rfl)<|run_frame (by simp only [sc0,sc1];rfl) ?_
 refine rgs (decide (a1.vKind<1)) true (vP b2 0) rfl rfl rfl rfl (fun hg=>(r_fieldBox (n:=1) (o':=0) rfl Tryd.runUnderlying34 rfl Tryd.sizeOf3 (by decide) rfl))<|rgs (decide (a1.vKind<1)) true (vI a1.vKind) rfl rfl rfl rfl (fun hg=>(r_loadBox (gvt (vP b2 0) hg rfl) Tryd.isAgg3 (HS2.look 0 rfl) rfl))<|rgs (decide (a1.vKind<1)) true (vB (decide (a1.vKind>6))) rfl rfl rfl rfl (fun hg=>(r_bin (gvt (vI a1.vKind) hg rfl) rfl rfl))<|rs (vB ((decide (a1.vKind<1))||(decide (a1.vKind>6)))) (r_pick_or rfl rfl (fun hp=>(gvt (vB (decide (a1.vKind>6))) (and_i rfl hp) rfl)))<|run_frame (by simp only [sc0,sc1];rfl) ?_
 refine rs (vB ((decide (a1.vKind<1))||(decide (a1.vKind>6)))) (r_move rfl)<|rgs ((decide (a1.vKind<1))||(decide (a1.vKind>6))) true (Value.agg #[vI a1.vKind,vS a1.vName,vI a1.vInt.vSize,vB a1.vInt.vSigned,vI a1.vRef,vI a1.vN,vL A1_6 a1.vFields.length c1_6]) rfl rfl rfl rfl (fun hg=>(r_loadBoxAgg (n:=7) (vs:=[vI a1.vKind,vS a1.vName,vI a1.vInt.vSize,vB a1.vInt.vSigned,vI a1.vRef,vI a1.vN,vL A1_6 a1.vFields.length c1_6]) rfl Tryd.isAgg34 (HS2.look 0 rfl) Tryd.sizeOf34 rfl rfl)) ?_
 obtain ⟨v1,H1,H⟩:=of_bind H
 refine run_g (b:=((decide (a1.vKind<1))||(decide (a1.vKind>6)))) (c:=true) (v:=vB v1) rfl rfl rfl rfl (fun hg=>(does_call_eq Tryd.call94 rfl (map1 (gvt (Value.agg #[vI a1.vKind,vS a1.vName,vI a1.vInt.vSize,vB a1.vInt.vSigned,vI a1.vRef,vI a1.vN,vL A1_6 a1.vFields.length c1_6]) hg rfl)) (taplineref08_unused.calls a1 A1_6 c1_6 HS2.sees hr1_6 hc1_6 (of_pos H1 hg)))) ?_
 intro w3 hE3
 have HS3:=HS2.step hE3
 refine rgs ((decide (a1.vKind<1))||(decide (a1.vKind>6))) true (vB (!v1)) rfl rfl rfl rfl (fun hg=>(r_not (gvt (vB v1) hg rfl)))<|run_frame (by simp only [sc0,sc1];rfl) ?_
 refine rs (vB (((decide (a1.vKind<1))||(decide (a1.vKind>6)))||(!v1))) (r_pick_or rfl rfl (fun hp=>(gvt (vB (!v1)) (and_i rfl hp) rfl)))<|rs (vB (((decide (a1.vKind<1))||(decide (a1.vKind>6)))||(!v1))) (r_move rfl)<|rgs (((decide (a1.vKind<1))||(decide (a1.vKind>6)))||(!v1)) true (Value.agg #[vI a1.vKind,vS a1.vName,vI a1.vInt.vSize,vB a1.vInt.vSigned,vI a1.vRef,vI a1.vN,vL A1_6 a1.vFields.length c1_6]) rfl rfl rfl rfl (fun hg=>(r_loadBoxAgg (n:=7) (vs:=[vI a1.vKind,vS a1.vName,vI a1.vInt.vSize,vB a1.vInt.vSigned,vI a1.vRef,vI a1.vN,vL A1_6 a1.vFields.length c1_6]) rfl Tryd.isAgg34 (HS3.look 0 rfl) Tryd.sizeOf34 rfl rfl)) ?_
 obtain ⟨v2,H2,H⟩:=of_bind H
 refine run_g (b:=(((decide (a1.vKind<1))||(decide (a1.vKind>6)))||(!v1))) (c:=true) (v:=vB v2) rfl rfl rfl rfl (fun hg=>(does_call_eq Tryd.call49 rfl (map1 (gvt (Value.agg #[vI a1.vKind,vS a1.vName,vI a1.vInt.vSize,vB a1.vInt.vSigned,vI a1.vRef,vI a1.vN,vL A1_6 a1.vFields.length c1_6]) hg rfl)) (taplineref08_Named.calls a1 A1_6 c1_6 HS3.sees hr1_6 hc1_6 (of_pos H2 hg)))) ?_
 intro w4 hE4
 have HS4:=HS3.step hE4
 refine run_frame (by simp only [sc0,sc1];rfl) ?_
 refine rgs (((decide (a1.vKind<1))||(decide (a1.vKind>6)))||(!v1)) true (vB v2) rfl rfl rfl rfl (fun hg=>(r_move (gvt (vB v2) hg rfl)))<|rgs v2 (true&&((((decide (a1.vKind<1))||(decide (a1.vKind>6)))||(!v1))==false)) (vP b2 1) rfl rfl rfl rfl (fun hg=>(r_fieldBox (n:=1) (o':=1) rfl Tryd.runUnderlying34 rfl Tryd.sizeOf9 (by decide) rfl))<|rgs v2 (true&&((((decide (a1.vKind<1))||(decide (a1.vKind>6)))||(!v1))==false)) (vS a1.vName) rfl rfl rfl rfl (fun hg=>(r_loadBox (gvt (vP b2 1) hg rfl) Tryd.isAgg9 (HS4.look 0 rfl) rfl)) ?_
 obtain ⟨v3,H3,H⟩:=of_bind H
 refine run_g (b:=v2) (c:=(true&&((((decide (a1.vKind<1))||(decide (a1.vKind>6)))||(!v1))==false))) (v:=vB v3) rfl rfl rfl rfl (fun hg=>(does_call_eq Tryd.call95 rfl (map1 (gvt (vS a1.vName) hg rfl)) (taplineref08_Name.calls k a1.vName HS4.sees (of_pos H3 hg)))) ?_
 intro w5 hE5
 have HS5:=HS4.step hE5
 refine run_frame (by simp only [sc0,sc1];rfl) ?_
 refine rgs v2 (true&&((((decide (a1.vKind<1))||(decide (a1.vKind>6)))||(!v1))==false)) (vB (!v3)) rfl rfl rfl rfl (fun hg=>(r_not (gvt (vB v3) hg rfl)))<|rgs (((decide (a1.vKind<1))||(decide (a1.vKind>6)))||(!v1)) true (vB (v2&&(!v3))) rfl rfl rfl rfl (fun hg=>(r_pick_and (gvt (vB v2) hg rfl) (fun hp=>(gvt (vB (!v3)) (and_i hg hp) rfl)) rfl))<|rs (vB ((((decide (a1.vKind<1))||(decide (a1.vKind>6)))||(!v1))||(v2&&(!v3)))) (r_pick_or rfl rfl (fun hp=>(gvt (vB (v2&&(!v3))) (and_i rfl hp) rfl))) ?_
 try simp only [sc0,sc1]
 refine run_nil<|norm_then<|wp_cond_split (t:=((((decide (a1.vKind<1))||(decide (a1.vKind>6)))||(!v1))||(v2&&(!v3)))) rfl (fun c1=>?_) (fun c1=>?_)
 ·replace H:=of_pos H c1
  refine wp_seq<|region<|rs (vB false) (r_assign rfl) ?_
  try simp only [sc0,sc1]
  refine run_nil<|norm_then<|wp_ret<|ret_then ?_
  obtain rfl:=Option.some.inj H
  exact bodyPost_ret (results_1 rfl (one_tmp rfl)) rfl<|⟨rfl,HS5.toE⟩
 ·replace H:=of_neg H (nt c1)
  refine wp_skip<|norm_then<|wp_seq<|wp_seq<|region<|rs (vP b2 0) (r_fieldBox (n:=1) (o':=0) rfl Tryd.runUnderlying34 rfl Tryd.sizeOf3 (by decide) rfl)<|rs (vI a1.vKind) (r_loadBox rfl Tryd.isAgg3 (HS5.look 0 rfl) rfl) ?_
  try simp only [sc0,sc1]
  refine run_nil<|norm_then<|wp_block<|wp_seq<|region<|rs (vB (a1.vKind==1)) (r_bin rfl rfl rfl)<|rs (vB (a1.vKind==1)) (r_assign rfl) ?_
  try simp only [sc0,sc1]
  refine run_nil<|norm_then<|wp_cond_split (t:=(a1.vKind==1)) rfl (fun c2=>?_) (fun c2=>?_)
  ·replace H:=of_pos H c2
   refine wp_seq<|region<|rs (vP b2 2) (r_fieldBox (n:=2) (o':=2) rfl Tryd.runUnderlying34 rfl Tryd.sizeOf31 (by decide) rfl)<|rs (vP b2 2) (r_fieldBox (n:=1) (o':=2) rfl Tryd.runUnderlying31 rfl Tryd.sizeOf3 (by decide) rfl)<|rs (vI a1.vInt.vSize) (r_loadBox rfl Tryd.isAgg3 (HS5.look 0 rfl) rfl)<|rs (vB (a1.vInt.vSize==1)) (r_bin rfl rfl rfl)<|run_frame (by simp only [sc0,sc1];rfl) ?_
   refine rs (vB (a1.vInt.vSize==1)) (r_move rfl)<|rgs (a1.vInt.vSize==1) true (vP b2 2) rfl rfl rfl rfl (fun hg=>(r_fieldBox (n:=2) (o':=2) rfl Tryd.runUnderlying34 rfl Tryd.sizeOf31 (by decide) rfl))<|rgs (a1.vInt.vSize==1) true (vP b2 2) rfl rfl rfl rfl (fun hg=>(r_fieldBox (n:=1) (o':=2) (gvt (vP b2 2) hg rfl) Tryd.runUnderlying31 rfl Tryd.sizeOf3 (by decide) rfl))<|rgs (a1.vInt.vSize==1) true (vI a1.vInt.vSize) rfl rfl rfl rfl (fun hg=>(r_loadBox (gvt (vP b2 2) hg rfl) Tryd.isAgg3 (HS5.look 0 rfl) rfl))<|run_frame (by simp only [sc0,sc1];rfl) ?_
   refine rgs (a1.vInt.vSize==1) true (vB (a1.vInt.vSize==2)) rfl rfl rfl rfl (fun hg=>(r_bin (gvt (vI a1.vInt.vSize) hg rfl) rfl rfl))<|rs (vB ((a1.vInt.vSize==1)||(a1.vInt.vSize==2))) (r_pick_or rfl rfl (fun hp=>(gvt (vB (a1.vInt.vSize==2)) (and_i rfl hp) rfl)))<|rs (vB ((a1.vInt.vSize==1)||(a1.vInt.vSize==2))) (r_move rfl)<|rgs ((a1.vInt.vSize==1)||(a1.vInt.vSize==2)) true (vP b2 2) rfl rfl rfl rfl (fun hg=>(r_fieldBox (n:=2) (o':=2) rfl Tryd.runUnderlying34 rfl Tryd.sizeOf31 (by decide) rfl))<|run_frame (by simp only [sc0,sc1];rfl) ?_
   refine rgs ((a1.vInt.vSize==1)||(a1.vInt.vSize==2)) true (vP b2 2) rfl rfl rfl rfl (fun hg=>(r_fieldBox (n:=1) (o':=2) (gvt (vP b2 2) hg rfl) Tryd.runUnderlying31 rfl Tryd.sizeOf3 (by decide) rfl))<|rgs ((a1.vInt.vSize==1)||(a1.vInt.vSize==2)) true (vI a1.vInt.vSize) rfl rfl rfl rfl (fun hg=>(r_loadBox (gvt (vP b2 2) hg rfl) Tryd.isAgg3 (HS5.look 0 rfl) rfl))<|rgs ((a1.vInt.vSize==1)||(a1.vInt.vSize==2)) true (vB (a1.vInt.vSize==4)) rfl rfl rfl rfl (fun hg=>(r_bin (gvt (vI a1.vInt.vSize) hg rfl) rfl rfl))<|rs (vB (((a1.vInt.vSize==1)||(a1.vInt.vSize==2))||(a1.vInt.vSize==4))) (r_pick_or rfl rfl (fun hp=>(gvt (vB (a1.vInt.vSize==4)) (and_i rfl hp) rfl)))<|run_frame (by simp only [sc0,sc1];rfl) ?_
   refine rs (vB (((a1.vInt.vSize==1)||(a1.vInt.vSize==2))||(a1.vInt.vSize==4))) (r_move rfl)<|rgs (((a1.vInt.vSize==1)||(a1.vInt.vSize==2))||(a1.vInt.vSize==4)) true (vP b2 2) rfl rfl rfl rfl (fun hg=>(r_fieldBox (n:=2) (o':=2) rfl Tryd.runUnderlying34 rfl Tryd.sizeOf31 (by decide) rfl))<|rgs (((a1.vInt.vSize==1)||(a1.vInt.vSize==2))||(a1.vInt.vSize==4)) true (vP b2 2) rfl rfl rfl rfl (fun hg=>(r_fieldBox (n:=1) (o':=2) (gvt (vP b2 2) hg rfl) Tryd.runUnderlying31 rfl Tryd.sizeOf3 (by decide) rfl))<|rgs (((a1.vInt.vSize==1)||(a1.vInt.vSize==2))||(a1.vInt.vSize==4)) true (vI a1.vInt.vSize) rfl rfl rfl rfl (fun hg=>(r_loadBox (gvt (vP b2 2) hg rfl) Tryd.isAgg3 (HS5.look 0 rfl) rfl))<|run_frame (by simp only [sc0,sc1];rfl) ?_
   refine rgs (((a1.vInt.vSize==1)||(a1.vInt.vSize==2))||(a1.vInt.vSize==4)) true (vB (a1.vInt.vSize==8)) rfl rfl rfl rfl (fun hg=>(r_bin (gvt (vI a1.vInt.vSize) hg rfl) rfl rfl))<|rs (vB ((((a1.vInt.vSize==1)||(a1.vInt.vSize==2))||(a1.vInt.vSize==4))||(a1.vInt.vSize==8))) (r_pick_or rfl rfl (fun hp=>(gvt (vB (a1.vInt.vSize==8)) (and_i rfl hp) rfl)))<|rs (vB ((((a1.vInt.vSize==1)||(a1.vInt.vSize==2))||(a1.vInt.vSize==4))||(a1.vInt.vSize==8))) (r_assign rfl) ?_
   try simp only [sc0,sc1]
   refine run_nil<|norm_then<|wp_ret<|ret_block<|ret_then ?_
   obtain rfl:=Option.some.inj H
   exact bodyPost_ret (results_1 rfl (one_tmp rfl)) rfl<|⟨rfl,HS5.toE⟩
  ·replace H:=of_neg H (nt c2)
   refine wp_seq<|wp_seq<|region<|rs (vB (a1.vKind==2)) (r_bin rfl rfl rfl)<|rs (vB (a1.vKind==2)) (r_assign rfl) ?_
   try simp only [sc0,sc1]
   refine run_nil<|norm_then ?_
   obtain ⟨xx1,H,G1⟩:=of_bind H
   refine cut_patch [56,58] (fun us w'=>Fit us (fun uj1=>[vB xx1,(uj1 1)])∧St [] h0 w0 h0 [(some b2, .cells #[vI a1.vKind,vS a1.vName,vI a1.vInt.vSize,vB a1.vInt.vSigned,vI a1.vRef,vI a1.vN,vL A1_6 a1.vFields.length c1_6] 34 (0,0)),(some b1, .cells #[vL A0_0 a0.vDefs.length c0_0] 24 (0,0))] w') ?_ ?_
   ·refine wp_cond_split (t:=(a1.vKind==2)) rfl (fun c3=>?_) (fun c3=>?_)
    ·replace H:=of_pos H c3
     refine wp_skip ?_
     obtain rfl:=Option.some.inj H
     refine met_j rfl ⟨(fit rfl),HS5⟩
    ·replace H:=of_neg H (nt c3)
     refine region<|rs (vB (a1.vKind==6)) (r_bin rfl rfl rfl)<|rs (vB (a1.vKind==6)) (r_assign rfl) ?_
     try simp only [sc0,sc1]
     refine run_nil ?_
     obtain rfl:=Option.some.inj H
     refine met_j rfl ⟨(fit rfl),HS5⟩
   ·rintro us w6 ⟨huj1,HS6⟩
    obtain ⟨uj1,rfl⟩:=unj huj1
    replace H:=G1
    clear G1
    try simp only [patch,sc0,sc1]
    refine wp_cond_split (t:=xx1) rfl (fun c4=>?_) (fun c4=>?_)
    ·replace H:=of_pos H c4
     refine wp_seq<|region<|rs (Value.agg #[vL A0_0 a0.vDefs.length c0_0]) (r_loadBoxAgg (n:=1) (vs:=[vL A0_0 a0.vDefs.length c0_0]) rfl Tryd.isAgg24 (HS6.look 1 rfl) Tryd.sizeOf24 rfl rfl)<|rs (vP b2 4) (r_fieldBox (n:=1) (o':=4) rfl Tryd.runUnderlying34 rfl Tryd.sizeOf3 (by decide) rfl)<|rs (vI a1.vRef) (r_loadBox rfl Tryd.isAgg3 (HS6.look 0 rfl) rfl) ?_
     obtain ⟨v4,H4,H⟩:=of_bind H
     refine run_eq (v:=vB v4) rfl rfl (does_call_eq Tryd.call96 rfl rfl (taplineref08_Index.calls a0 a1.vRef A0_0 c0_0 HS6.sees hr0_0 hc0_0 H4)) ?_
     intro w7 hE6
     have HS7:=HS6.step hE6
     refine run_frame (by simp only [sc0,sc1];rfl) ?_
     refine rs (vB v4) (r_assign rfl) ?_
     try simp only [sc0,sc1]
     refine run_nil<|norm_then<|wp_ret<|ret_block<|ret_then ?_
     obtain rfl:=Option.some.inj H
     exact bodyPost_ret (results_1 rfl (one_tmp rfl)) rfl<|⟨rfl,HS7.toE⟩
    ·replace H:=of_neg H (nt c4)
     refine wp_seq<|region<|rs (vB (a1.vKind==3)) (r_bin rfl rfl rfl)<|rs (vB (a1.vKind==3)) (r_assign rfl) ?_
     try simp only [sc0,sc1]
     refine run_nil<|norm_then<|wp_cond_split (t:=(a1.vKind==3)) rfl (fun c5=>?_) (fun c5=>?_)
     ·replace H:=of_pos H c5
      refine wp_seq<|region<|rs (Value.agg #[vL A0_0 a0.vDefs.length c0_0]) (r_loadBoxAgg (n:=1) (vs:=[vL A0_0 a0.vDefs.length c0_0]) rfl Tryd.isAgg24 (HS6.look 1 rfl) Tryd.sizeOf24 rfl rfl)<|rs (vP b2 4) (r_fieldBox (n:=1) (o':=4) rfl Tryd.runUnderlying34 rfl Tryd.sizeOf3 (by decide) rfl)<|rs (vI a1.vRef) (r_loadBox rfl Tryd.isAgg3 (HS6.look 0 rfl) rfl) ?_
      obtain ⟨v5,H5,H⟩:=of_bind H
      refine run_eq (v:=vB v5) rfl rfl (does_call_eq Tryd.call96 rfl rfl (taplineref08_Index.calls a0 a1.vRef A0_0 c0_0 HS6.sees hr0_0 hc0_0 H5)) ?_
      intro w8 hE7
      have HS8:=HS6.step hE7
      refine run_frame (by simp only [sc0,sc1];rfl) ?_
      refine rs (vB v5) (r_move rfl)<|rgs v5 true (vP b2 5) rfl rfl rfl rfl (fun hg=>(r_fieldBox (n:=1) (o':=5) rfl Tryd.runUnderlying34 rfl Tryd.sizeOf3 (by decide) rfl))<|rgs v5 true (vI a1.vN) rfl rfl rfl rfl (fun hg=>(r_loadBox (gvt (vP b2 5) hg rfl) Tryd.isAgg3 (HS8.look 0 rfl) rfl))<|rgs v5 true (vB (decide (a1.vN≥1))) rfl rfl rfl rfl (fun hg=>(r_bin (gvt (vI a1.vN) hg rfl) rfl rfl))<|run_frame (by simp only [sc0,sc1];rfl) ?_
      refine rs (vB (v5&&(decide (a1.vN≥1)))) (r_pick_and rfl (fun hp=>(gvt (vB (decide (a1.vN≥1))) (and_i rfl hp) rfl)) rfl)<|rs (vB (v5&&(decide (a1.vN≥1)))) (r_move rfl)<|rgs (v5&&(decide (a1.vN≥1))) true (vP b2 5) rfl rfl rfl rfl (fun hg=>(r_fieldBox (n:=1) (o':=5) rfl Tryd.runUnderlying34 rfl Tryd.sizeOf3 (by decide) rfl))<|rgs (v5&&(decide (a1.vN≥1))) true (vI a1.vN) rfl rfl rfl rfl (fun hg=>(r_loadBox (gvt (vP b2 5) hg rfl) Tryd.isAgg3 (HS8.look 0 rfl) rfl))<|run_frame (by simp only [sc0,sc1];rfl) ?_
      refine rgs (v5&&(decide (a1.vN≥1))) true (vB (decide (a1.vN≤512))) rfl rfl rfl rfl (fun hg=>(r_bin (gvt (vI a1.vN) hg rfl) rfl rfl))<|rs (vB ((v5&&(decide (a1.vN≥1)))&&(decide (a1.vN≤512)))) (r_pick_and rfl (fun hp=>(gvt (vB (decide (a1.vN≤512))) (and_i rfl hp) rfl)) rfl)<|rs (vB ((v5&&(decide (a1.vN≥1)))&&(decide (a1.vN≤512)))) (r_assign rfl) ?_
      try simp only [sc0,sc1]
      refine run_nil<|norm_then<|wp_ret<|ret_block<|ret_then ?_
      obtain rfl:=Option.some.inj H
      exact bodyPost_ret (results_1 rfl (one_tmp rfl)) rfl<|⟨rfl,HS8.toE⟩
     ·replace H:=of_neg H (nt c5)
      refine wp_skip<|norm_block<|norm_then<|wp_seq<|wp_seq<|region<|rs (vP b2 6) (r_fieldBox (n:=1) (o':=6) rfl Tryd.runUnderlying34 rfl Tryd.sizeOf32 (by decide) rfl)<|rs (vL A1_6 a1.vFields.length c1_6) (r_loadBox rfl Tryd.isAgg32 (HS6.look 0 rfl) rfl) ?_
      obtain ⟨v6,H6,H⟩:=of_bind H
      refine run_eq (v:=vB v6) rfl rfl (does_call_eq Tryd.call97 rfl rfl (taplineref08_fields.calls k a1.vFields A1_6 c1_6 HS6.sees hr1_6 hc1_6 H6)) ?_
      intro w9 hE8
      have HS9:=HS6.step hE8
      refine rs (vB (!v6)) (r_not rfl) ?_
      try simp only [sc0,sc1]
      refine run_nil<|norm_then<|wp_cond_split (t:=(!v6)) rfl (fun c6=>?_) (fun c6=>?_)
      ·replace H:=of_pos H c6
       refine wp_seq<|region<|rs (vB false) (r_assign rfl) ?_
       try simp only [sc0,sc1]
       refine run_nil<|norm_then<|wp_ret<|ret_then ?_
       obtain rfl:=Option.some.inj H
       exact bodyPost_ret (results_1 rfl (one_tmp rfl)) rfl<|⟨rfl,HS9.toE⟩
      ·replace H:=of_neg H (nt c6)
       refine wp_skip<|norm_then<|wp_seq<|wp_seq<|region<|rs (vI 0) (r_assign rfl) ?_
       try simp only [sc0,sc1]
       refine run_nil<|norm_then ?_
       obtain ⟨xx2,H,G2⟩:=of_bind H
       refine loop_j [4,5,6,83,84,85,86,87,88,89,90,91,92,93,94,95,96,97,98,99,100,101,102,103,104,105,106,107,108,109,110,111,112,113,114,115,116,117,118,119,120,121,122] (fun m us w'=>∃(y1_0:Int),Fit us (fun uy1=>[(uy1 0),vI y1_0,(uy1 2),(uy1 3),(uy1 4),(uy1 5),(uy1 6),(uy1 7),(uy1 8),(uy1 9),(uy1 10),(uy1 11),(uy1 12),(uy1 13),(uy1 14),(uy1 15),(uy1 16),(uy1 17),(uy1 18),(uy1 19),(uy1 20),(uy1 21),(uy1 22),(uy1 23),(uy1 24),(uy1 25),(uy1 26),(uy1 27),(uy1 28),(uy1 29),(uy1 30),(uy1 31),(uy1 32),(uy1 33),(uy1 34),(uy1 35),(uy1 36),(uy1 37),(uy1 38),(uy1 39),(uy1 40),(uy1 41),(uy1 42)])∧taplineref08_shaped.l0 a0 a1 m y1_0=some xx2∧St [] h0 w0 h0 [(some b2, .cells #[vI a1.vKind,vS a1.vName,vI a1.vInt.vSize,vB a1.vInt.vSigned,vI a1.vRef,vI a1.vN,vL A1_6 a1.vFields.length c1_6] 34 (0,0)),(some b1, .cells #[vL A0_0 a0.vDefs.length c0_0] 24 (0,0))] w') (fun us w'=>∃(s1:Unit),xx2= .inr s1∧Fit us (fun uo1=>[(uo1 0),(uo1 1),(uo1 2),(uo1 3),(uo1 4),(uo1 5),(uo1 6),(uo1 7),(uo1 8),(uo1 9),(uo1 10),(uo1 11),(uo1 12),(uo1 13),(uo1 14),(uo1 15),(uo1 16),(uo1 17),(uo1 18),(uo1 19),(uo1 20),(uo1 21),(uo1 22),(uo1 23),(uo1 24),(uo1 25),(uo1 26),(uo1 27),(uo1 28),(uo1 29),(uo1 30),(uo1 31),(uo1 32),(uo1 33),(uo1 34),(uo1 35),(uo1 36),(uo1 37),(uo1 38),(uo1 39),(uo1 40),(uo1 41),(uo1 42)])∧St [] h0 w0 h0 [(some b2, .cells #[vI a1.vKind,vS a1.vName,vI a1.vInt.vSize,vB a1.vInt.vSigned,vI a1.vRef,vI a1.vN,vL A1_6 a1.vFields.length c1_6] 34 (0,0)),(some b1, .cells #[vL A0_0 a0.vDefs.length c0_0] 24 (0,0))] w') k ⟨0,(fit rfl),H,HS9⟩ ?_ ?_
       ·rintro m us w10 ⟨y1_0,huy1,H,HS10⟩
        obtain ⟨uy1,rfl⟩:=unj huy1
        cases m with
        |zero=>exact absurd H (by simp [taplineref08_shaped.l0])
        |succ m=>
         rw [taplineref08_shaped.l0] at H
         try simp only [patch,sc0,sc1]
         refine wp_seq<|wp_seq<|region<|rs (vI y1_0) (r_move rfl)<|rs (vP b2 6) (r_fieldBox (n:=1) (o':=6) rfl Tryd.runUnderlying34 rfl Tryd.sizeOf32 (by decide) rfl)<|rs (vL A1_6 a1.vFields.length c1_6) (r_loadBox rfl Tryd.isAgg32 (HS10.look 0 rfl) rfl)<|rs (vI (a1.vFields.length:Int)) (r_len rfl Tryd.runUnderlying32)<|run_frame (by simp only [sc0,sc1];rfl) ?_
         refine rs (vB (decide (y1_0<(a1.vFields.length:Int)))) (r_bin rfl rfl rfl) ?_
         try simp only [sc0,sc1]
         refine run_nil<|norm_then<|wp_cond_split (t:=(decide (y1_0<(a1.vFields.length:Int)))) rfl (fun c7=>?_) (fun c7=>?_)
         ·replace H:=of_pos H c7
          refine wp_skip<|norm_then<|wp_seq<|wp_block<|wp_seq<|region<|rs (vP b2 6) (r_fieldBox (n:=1) (o':=6) rfl Tryd.runUnderlying34 rfl Tryd.sizeOf32 (by decide) rfl)<|rs (vL A1_6 a1.vFields.length c1_6) (r_loadBox rfl Tryd.isAgg32 (HS10.look 0 rfl) rfl)<|rs (vI y1_0) (r_move rfl) ?_
          obtain ⟨hi1,H⟩:=of_ite H
          obtain ⟨ad1,e1,hel1⟩:=ld_api_Field hr1_6 hi1.1 hi1.2
          refine rs (Value.pointer (some (Addr.add ad1 (y1_0.toNat*3)))) (r_indexA (sz:=3) rfl e1 rfl hi1.1 hi1.2 Tryd.runUnderlying32 Tryd.sizeOf36)<|run_frame (by simp only [sc0,sc1];rfl) ?_
          refine rs (Value.agg #[vS ((rd z_api_Field a1.vFields y1_0).vName),vI ((rd z_api_Field a1.vFields y1_0).vType),vI ((rd z_api_Field a1.vFields y1_0).vAt)]) (r_loadAgg rfl Tryd.isAgg36 (hel1.sees HS10.sees) Tryd.sizeOf36)<|run_ex rfl rfl (does_alloc (cs:=#[vS ByteArray.empty,vI 0,vI 0]) Tryd.zeroValue36 rfl) ?_
          rintro w11 _ hE9 ⟨b3,rfl,ge3,hb3⟩
          have HS11:=HS10.new hE9 ge3 hb3
          refine run_st (i:=0) (cs:=[vS ByteArray.empty,vI 0,vI 0]) (cs':=[vS ((rd z_api_Field a1.vFields y1_0).vName),vI ((rd z_api_Field a1.vFields y1_0).vType),vI ((rd z_api_Field a1.vFields y1_0).vAt)]) (vs:=[vS ((rd z_api_Field a1.vFields y1_0).vName),vI ((rd z_api_Field a1.vFields y1_0).vType),vI ((rd z_api_Field a1.vFields y1_0).vAt)]) (bs':=[(some b3, .cells #[vS ((rd z_api_Field a1.vFields y1_0).vName),vI ((rd z_api_Field a1.vFields y1_0).vType),vI ((rd z_api_Field a1.vFields y1_0).vAt)] 36 (0,0)),(some b2, .cells #[vI a1.vKind,vS a1.vName,vI a1.vInt.vSize,vB a1.vInt.vSigned,vI a1.vRef,vI a1.vN,vL A1_6 a1.vFields.length c1_6] 34 (0,0)),(some b1, .cells #[vL A0_0 a0.vDefs.length c0_0] 24 (0,0))]) rfl rfl Tryd.sizeOf36 rfl rfl (by decide) rfl HS11 rfl (Nat.le_of_ble_eq_true rfl) rfl rfl ?_
          intro w12 HS12
          try simp only [sc0,sc1]
          refine run_nil<|norm_then<|wp_seq<|wp_seq<|region<|rs (vP b2 0) (r_fieldBox (n:=1) (o':=0) rfl Tryd.runUnderlying34 rfl Tryd.sizeOf3 (by decide) rfl)<|rs (vI a1.vKind) (r_loadBox rfl Tryd.isAgg3 (HS12.look 1 rfl) rfl)<|rs (vB (a1.vKind==4)) (r_bin rfl rfl rfl)<|rs (vB (a1.vKind==4)) (r_move rfl)<|run_frame (by simp only [sc0,sc1];rfl) ?_
          refine rgs (a1.vKind==4) true (Value.agg #[vL A0_0 a0.vDefs.length c0_0]) rfl rfl rfl rfl (fun hg=>(r_loadBoxAgg (n:=1) (vs:=[vL A0_0 a0.vDefs.length c0_0]) rfl Tryd.isAgg24 (HS12.look 2 rfl) Tryd.sizeOf24 rfl rfl))<|rgs (a1.vKind==4) true (vP b3 1) rfl rfl rfl rfl (fun hg=>(r_fieldBox (n:=1) (o':=1) rfl Tryd.runUnderlying36 rfl Tryd.sizeOf3 (by decide) rfl))<|rgs (a1.vKind==4) true (vI ((rd z_api_Field a1.vFields y1_0).vType)) rfl rfl rfl rfl (fun hg=>(r_loadBox (gvt (vP b3 1) hg rfl) Tryd.isAgg3 (HS12.look 0 rfl) rfl)) ?_
          obtain ⟨v7,H7,H⟩:=of_bind H
          refine run_g (b:=(a1.vKind==4)) (c:=true) (v:=vB v7) rfl rfl rfl rfl (fun hg=>(does_call_eq Tryd.call96 rfl (map2 (gvt (Value.agg #[vL A0_0 a0.vDefs.length c0_0]) hg rfl) (gvt (vI ((rd z_api_Field a1.vFields y1_0).vType)) hg rfl)) (taplineref08_Index.calls a0 ((rd z_api_Field a1.vFields y1_0).vType) A0_0 c0_0 HS12.sees hr0_0 hc0_0 (of_pos H7 hg)))) ?_
          intro w13 hE10
          have HS13:=HS12.step hE10
          refine run_frame (by simp only [sc0,sc1];rfl) ?_
          refine rgs (a1.vKind==4) true (vB (!v7)) rfl rfl rfl rfl (fun hg=>(r_not (gvt (vB v7) hg rfl)))<|rs (vB ((a1.vKind==4)&&(!v7))) (r_pick_and rfl (fun hp=>(gvt (vB (!v7)) (and_i rfl hp) rfl)) rfl) ?_
          try simp only [sc0,sc1]
          refine run_nil<|norm_then<|wp_cond_split (t:=((a1.vKind==4)&&(!v7))) rfl (fun c8=>?_) (fun c8=>?_)
          ·replace H:=of_pos H c8
           refine wp_seq<|region<|rs (vB false) (r_assign rfl) ?_
           try simp only [sc0,sc1]
           refine run_nil<|norm_then<|wp_ret<|ret_then<|ret_block<|ret_then<|ret_loop<|ret_then ?_
           obtain rfl:=Option.some.inj H
           obtain rfl:=Option.some.inj G2
           exact bodyPost_ret (results_1 rfl (one_tmp rfl)) rfl<|⟨rfl,HS13.toE⟩
          ·replace H:=of_neg H (nt c8)
           refine wp_skip<|norm_then<|wp_seq<|region<|rs (vP b2 0) (r_fieldBox (n:=1) (o':=0) rfl Tryd.runUnderlying34 rfl Tryd.sizeOf3 (by decide) rfl)<|rs (vI a1.vKind) (r_loadBox rfl Tryd.isAgg3 (HS13.look 1 rfl) rfl)<|rs (vB (a1.vKind==5)) (r_bin rfl rfl rfl)<|rs (vB (a1.vKind==5)) (r_move rfl)<|run_frame (by simp only [sc0,sc1];rfl) ?_
           refine rgs (a1.vKind==5) true (vP b3 1) rfl rfl rfl rfl (fun hg=>(r_fieldBox (n:=1) (o':=1) rfl Tryd.runUnderlying36 rfl Tryd.sizeOf3 (by decide) rfl))<|rgs (a1.vKind==5) true (vI ((rd z_api_Field a1.vFields y1_0).vType)) rfl rfl rfl rfl (fun hg=>(r_loadBox (gvt (vP b3 1) hg rfl) Tryd.isAgg3 (HS13.look 0 rfl) rfl))<|rgs (a1.vKind==5) true (vB ((rd z_api_Field a1.vFields y1_0).vType !=0)) rfl rfl rfl rfl (fun hg=>(r_bin (gvt (vI ((rd z_api_Field a1.vFields y1_0).vType)) hg rfl) rfl rfl))<|rgs (a1.vKind==5) true (vB ((rd z_api_Field a1.vFields y1_0).vType !=0)) rfl rfl rfl rfl (fun hg=>(r_move (gvt (vB ((rd z_api_Field a1.vFields y1_0).vType !=0)) hg rfl)))<|run_frame (by simp only [sc0,sc1];rfl) ?_
           refine rgs ((rd z_api_Field a1.vFields y1_0).vType !=0) (true&&((a1.vKind==5)==true)) (vP b3 2) rfl rfl rfl rfl (fun hg=>(r_fieldBox (n:=1) (o':=2) rfl Tryd.runUnderlying36 rfl Tryd.sizeOf3 (by decide) rfl))<|rgs ((rd z_api_Field a1.vFields y1_0).vType !=0) (true&&((a1.vKind==5)==true)) (vI ((rd z_api_Field a1.vFields y1_0).vAt)) rfl rfl rfl rfl (fun hg=>(r_loadBox (gvt (vP b3 2) hg rfl) Tryd.isAgg3 (HS13.look 0 rfl) rfl))<|rgs ((rd z_api_Field a1.vFields y1_0).vType !=0) (true&&((a1.vKind==5)==true)) (vB (decide ((rd z_api_Field a1.vFields y1_0).vAt<(-2147483648)))) rfl rfl rfl rfl (fun hg=>(r_bin (gvt (vI ((rd z_api_Field a1.vFields y1_0).vAt)) hg rfl) rfl rfl))<|rgs (a1.vKind==5) true (vB (((rd z_api_Field a1.vFields y1_0).vType !=0)||(decide ((rd z_api_Field a1.vFields y1_0).vAt<(-2147483648))))) rfl rfl rfl rfl (fun hg=>(r_pick_or (gvt (vB ((rd z_api_Field a1.vFields y1_0).vType !=0)) hg rfl) rfl (fun hp=>(gvt (vB (decide ((rd z_api_Field a1.vFields y1_0).vAt<(-2147483648)))) (and_i hg hp) rfl))))<|run_frame (by simp only [sc0,sc1];rfl) ?_
           refine rgs (a1.vKind==5) true (vB (((rd z_api_Field a1.vFields y1_0).vType !=0)||(decide ((rd z_api_Field a1.vFields y1_0).vAt<(-2147483648))))) rfl rfl rfl rfl (fun hg=>(r_move (gvt (vB (((rd z_api_Field a1.vFields y1_0).vType !=0)||(decide ((rd z_api_Field a1.vFields y1_0).vAt<(-2147483648))))) hg rfl)))<|rgs (((rd z_api_Field a1.vFields y1_0).vType !=0)||(decide ((rd z_api_Field a1.vFields y1_0).vAt<(-2147483648)))) (true&&((a1.vKind==5)==true)) (vP b3 2) rfl rfl rfl rfl (fun hg=>(r_fieldBox (n:=1) (o':=2) rfl Tryd.runUnderlying36 rfl Tryd.sizeOf3 (by decide) rfl))<|rgs (((rd z_api_Field a1.vFields y1_0).vType !=0)||(decide ((rd z_api_Field a1.vFields y1_0).vAt<(-2147483648)))) (true&&((a1.vKind==5)==true)) (vI ((rd z_api_Field a1.vFields y1_0).vAt)) rfl rfl rfl rfl (fun hg=>(r_loadBox (gvt (vP b3 2) hg rfl) Tryd.isAgg3 (HS13.look 0 rfl) rfl))<|rgs (((rd z_api_Field a1.vFields y1_0).vType !=0)||(decide ((rd z_api_Field a1.vFields y1_0).vAt<(-2147483648)))) (true&&((a1.vKind==5)==true)) (vB (decide ((rd z_api_Field a1.vFields y1_0).vAt>2147483647))) rfl rfl rfl rfl (fun hg=>(r_bin (gvt (vI ((rd z_api_Field a1.vFields y1_0).vAt)) hg rfl) rfl rfl))<|run_frame (by simp only [sc0,sc1];rfl) ?_
           refine rgs (a1.vKind==5) true (vB ((((rd z_api_Field a1.vFields y1_0).vType !=0)||(decide ((rd z_api_Field a1.vFields y1_0).vAt<(-2147483648))))||(decide ((rd z_api_Field a1.vFields y1_0).vAt>2147483647)))) rfl rfl rfl rfl (fun hg=>(r_pick_or (gvt (vB (((rd z_api_Field a1.vFields y1_0).vType !=0)||(decide ((rd z_api_Field a1.vFields y1_0).vAt<(-2147483648))))) hg rfl) rfl (fun hp=>(gvt (vB (decide ((rd z_api_Field a1.vFields y1_0).vAt>2147483647))) (and_i hg hp) rfl))))<|rs (vB ((a1.vKind==5)&&((((rd z_api_Field a1.vFields y1_0).vType !=0)||(decide ((rd z_api_Field a1.vFields y1_0).vAt<(-2147483648))))||(decide ((rd z_api_Field a1.vFields y1_0).vAt>2147483647))))) (r_pick_and rfl (fun hp=>(gvt (vB ((((rd z_api_Field a1.vFields y1_0).vType !=0)||(decide ((rd z_api_Field a1.vFields y1_0).vAt<(-2147483648))))||(decide ((rd z_api_Field a1.vFields y1_0).vAt>2147483647)))) (and_i rfl hp) rfl)) rfl) ?_
           try simp only [sc0,sc1]
           refine run_nil<|norm_then<|wp_cond_split (t:=((a1.vKind==5)&&((((rd z_api_Field a1.vFields y1_0).vType !=0)||(decide ((rd z_api_Field a1.vFields y1_0).vAt<(-2147483648))))||(decide ((rd z_api_Field a1.vFields y1_0).vAt>2147483647))))) rfl (fun c9=>?_) (fun c9=>?_)
           ·replace H:=of_pos H c9
            refine wp_seq<|region<|rs (vB false) (r_assign rfl) ?_
            try simp only [sc0,sc1]
            refine run_nil<|norm_then<|wp_ret<|ret_block<|ret_then<|ret_loop<|ret_then ?_
            obtain rfl:=Option.some.inj H
            obtain rfl:=Option.some.inj G2
            exact bodyPost_ret (results_1 rfl (one_tmp rfl)) rfl<|⟨rfl,HS13.toE⟩
           ·replace H:=of_neg H (nt c9)
            refine wp_skip<|norm_block<|norm_then<|region<|rs (vI y1_0) (r_move rfl)<|rs (vI (w64 (y1_0+1))) (r_bin rfl rfl rfl)<|rs (vI (w64 (y1_0+1))) (r_assign rfl) ?_
            try simp only [sc0,sc1]
            refine run_nil<|again_j m (Nat.lt_succ_self m) rfl ⟨(w64 (y1_0+1)),(fit rfl),H,HS13.tail⟩
         ·replace H:=of_neg H (nt c7)
          refine wp_exit<|exit_then ?_
          obtain rfl:=Option.some.inj H
          refine leave_j rfl ⟨_,rfl,(fit rfl),HS10⟩
       ·rintro us w14 ⟨s1,rfl,huo1,HS14⟩
        obtain ⟨uo1,rfl⟩:=unj huo1
        replace H:=G2
        clear G2
        try simp only [patch,sc0,sc1]
        refine norm_then<|wp_seq<|region<|rs (vP b2 0) (r_fieldBox (n:=1) (o':=0) rfl Tryd.runUnderlying34 rfl Tryd.sizeOf3 (by decide) rfl)<|rs (vI a1.vKind) (r_loadBox rfl Tryd.isAgg3 (HS14.look 0 rfl) rfl)<|rs (vB (a1.vKind==5)) (r_bin rfl rfl rfl)<|rs (vB (a1.vKind==5)) (r_move rfl)<|run_frame (by simp only [sc0,sc1];rfl) ?_
        refine rgs (a1.vKind==5) true (vP b2 5) rfl rfl rfl rfl (fun hg=>(r_fieldBox (n:=1) (o':=5) rfl Tryd.runUnderlying34 rfl Tryd.sizeOf3 (by decide) rfl))<|rgs (a1.vKind==5) true (vI a1.vN) rfl rfl rfl rfl (fun hg=>(r_loadBox (gvt (vP b2 5) hg rfl) Tryd.isAgg3 (HS14.look 0 rfl) rfl))<|rgs (a1.vKind==5) true (vB (decide (a1.vN≥1))) rfl rfl rfl rfl (fun hg=>(r_bin (gvt (vI a1.vN) hg rfl) rfl rfl))<|rgs (a1.vKind==5) true (vB (decide (a1.vN≥1))) rfl rfl rfl rfl (fun hg=>(r_move (gvt (vB (decide (a1.vN≥1))) hg rfl)))<|run_frame (by simp only [sc0,sc1];rfl) ?_
        refine rgs (decide (a1.vN≥1)) (true&&((a1.vKind==5)==false)) (vP b2 5) rfl rfl rfl rfl (fun hg=>(r_fieldBox (n:=1) (o':=5) rfl Tryd.runUnderlying34 rfl Tryd.sizeOf3 (by decide) rfl))<|rgs (decide (a1.vN≥1)) (true&&((a1.vKind==5)==false)) (vI a1.vN) rfl rfl rfl rfl (fun hg=>(r_loadBox (gvt (vP b2 5) hg rfl) Tryd.isAgg3 (HS14.look 0 rfl) rfl))<|rgs (decide (a1.vN≥1)) (true&&((a1.vKind==5)==false)) (vB (decide (a1.vN≤512))) rfl rfl rfl rfl (fun hg=>(r_bin (gvt (vI a1.vN) hg rfl) rfl rfl))<|rgs (a1.vKind==5) true (vB ((decide (a1.vN≥1))&&(decide (a1.vN≤512)))) rfl rfl rfl rfl (fun hg=>(r_pick_and (gvt (vB (decide (a1.vN≥1))) hg rfl) (fun hp=>(gvt (vB (decide (a1.vN≤512))) (and_i hg hp) rfl)) rfl))<|run_frame (by simp only [sc0,sc1];rfl) ?_
        refine rs (vB ((a1.vKind==5)||((decide (a1.vN≥1))&&(decide (a1.vN≤512))))) (r_pick_or rfl rfl (fun hp=>(gvt (vB ((decide (a1.vN≥1))&&(decide (a1.vN≤512)))) (and_i rfl hp) rfl)))<|rs (vB ((a1.vKind==5)||((decide (a1.vN≥1))&&(decide (a1.vN≤512))))) (r_assign rfl) ?_
        try simp only [sc0,sc1]
        refine run_nil<|norm_then<|wp_ret ?_
        obtain rfl:=Option.some.inj H
        exact bodyPost_ret (results_1 rfl (one_tmp rfl)) rfl<|⟨rfl,HS14.toE⟩
def taplineref08_size.l0 (a0:api_Def) (a1:List Int):Nat→Int→Option ((Int)⊕(Unit))
 |0,_=>none
 |m+1,y1_0=>if (decide (y1_0<(a0.vFields.length:Int)))=true then (if 0≤y1_0∧y1_0<a0.vFields.length then (if 0≤(rd z_api_Field a0.vFields y1_0).vType∧(rd z_api_Field a0.vFields y1_0).vType<a1.length then (if ((rd 0 a1 ((rd z_api_Field a0.vFields y1_0).vType))==0)=true then (some (.inl 0)) else (taplineref08_size.l0 a0 a1 m (IntKind.wrap .i64 (y1_0+1)))) else none) else none) else (some (.inr ()))
def taplineref08_size.f (k:Nat) (a0:api_Def) (a1:List Int):Option (Int):=if (a0.vKind==1)=true then (some a0.vInt.vSize) else (if (a0.vKind==2)=true then (some 8) else (if (a0.vKind==3)=true then (if 0≤a0.vRef∧a0.vRef<a1.length then (some (IntKind.wrap .i64 (a0.vN*(rd 0 a1 a0.vRef)))) else none) else (if (a0.vKind==5)=true then (some 4) else (if (a0.vKind==6)=true then (if 0≤a0.vRef∧a0.vRef<a1.length then (some (rd 0 a1 a0.vRef)) else none) else ((taplineref08_size.l0 a0 a1 k 0).bind fun xx1=>(match xx1 with| .inl r=>some r| .inr s1=>some a0.vN))))))
theorem taplineref08_size.calls (k:Nat) (a0:api_Def) (a1:List Int) (A0_6:Option Addr) (c0_6:Nat) (A1_0:Option Addr) (c1_0:Nat) {h0:View} {w0:World} (hv:Sees h0 w0) (hr0_6:Rd k_api_Field h0 A0_6 a0.vFields) (hc0_6:a0.vFields.length≤c0_6) (hr1_0:Rd (Kd.int .i64) h0 A1_0 a1) (hc1_0:a1.length≤c1_0) {r:Int} (H:taplineref08_size.f k a0 a1=some r):Calls Tryd.prog 98 #[Value.agg #[vI a0.vKind,vS a0.vName,vI a0.vInt.vSize,vB a0.vInt.vSigned,vI a0.vRef,vI a0.vN,vL A0_6 a0.vFields.length c0_6],vL A1_0 a1.length c1_0] w0 (fun e w1=>e= .returned (vI r)∧Ext w0 w1):=by
 unfold taplineref08_size.f at H
 have HS:St [] h0 w0 h0 [] w0:=St.init hv
 go_enter Tryd.func98,Tryd.ntmps98
 refine wp_seq<|region<|run_ex rfl rfl (does_box (cs:=#[vI a0.vKind,vS a0.vName,vI a0.vInt.vSize,vB a0.vInt.vSigned,vI a0.vRef,vI a0.vN,vL A0_6 a0.vFields.length c0_6]) rfl rfl) ?_
 rintro w1 _ hE1 ⟨b1,rfl,ge1,hb1⟩
 have HS1:=HS.new hE1 ge1 hb1
 refine rs (vI 0) (r_assign rfl) ?_
 try simp only [sc0,sc1]
 refine run_nil<|norm_then<|wp_seq<|wp_seq<|region<|rs (vP b1 0) (r_fieldBox (n:=1) (o':=0) rfl Tryd.runUnderlying34 rfl Tryd.sizeOf3 (by decide) rfl)<|rs (vI a0.vKind) (r_loadBox rfl Tryd.isAgg3 (HS1.look 0 rfl) rfl) ?_
 try simp only [sc0,sc1]
 refine run_nil<|norm_then<|wp_block<|wp_seq<|region<|rs (vB (a0.vKind==1)) (r_bin rfl rfl rfl)<|rs (vB (a0.vKind==1)) (r_assign rfl) ?_
 try simp only [sc0,sc1]
 refine run_nil<|norm_then<|wp_cond_split (t:=(a0.vKind==1)) rfl (fun c1=>?_) (fun c1=>?_)
 ·replace H:=of_pos H c1
  refine wp_seq<|region<|rs (vP b1 2) (r_fieldBox (n:=2) (o':=2) rfl Tryd.runUnderlying34 rfl Tryd.sizeOf31 (by decide) rfl)<|rs (vP b1 2) (r_fieldBox (n:=1) (o':=2) rfl Tryd.runUnderlying31 rfl Tryd.sizeOf3 (by decide) rfl)<|rs (vI a0.vInt.vSize) (r_loadBox rfl Tryd.isAgg3 (HS1.look 0 rfl) rfl)<|rs (vI a0.vInt.vSize) (r_assign rfl) ?_
  try simp only [sc0,sc1]
  refine run_nil<|norm_then<|wp_ret<|ret_block<|ret_then ?_
  obtain rfl:=Option.some.inj H
  exact bodyPost_ret (results_1 rfl (one_tmp rfl)) rfl<|⟨rfl,HS1.toE⟩
 ·replace H:=of_neg H (nt c1)
  refine wp_seq<|region<|rs (vB (a0.vKind==2)) (r_bin rfl rfl rfl)<|rs (vB (a0.vKind==2)) (r_assign rfl) ?_
  try simp only [sc0,sc1]
  refine run_nil<|norm_then<|wp_cond_split (t:=(a0.vKind==2)) rfl (fun c2=>?_) (fun c2=>?_)
  ·replace H:=of_pos H c2
   refine wp_seq<|region<|rs (vI 8) (r_assign rfl) ?_
   try simp only [sc0,sc1]
   refine run_nil<|norm_then<|wp_ret<|ret_block<|ret_then ?_
   obtain rfl:=Option.some.inj H
   exact bodyPost_ret (results_1 rfl (one_tmp rfl)) rfl<|⟨rfl,HS1.toE⟩
  ·replace H:=of_neg H (nt c2)
   refine wp_seq<|region<|rs (vB (a0.vKind==3)) (r_bin rfl rfl rfl)<|rs (vB (a0.vKind==3)) (r_assign rfl) ?_
   try simp only [sc0,sc1]
   refine run_nil<|norm_then<|wp_cond_split (t:=(a0.vKind==3)) rfl (fun c3=>?_) (fun c3=>?_)
   ·replace H:=of_pos H c3
    refine wp_seq ?_
    obtain ⟨hi1,H⟩:=of_ite H
    obtain ⟨ad1,e1,hel1⟩:=ld_int hr1_0 hi1.1 hi1.2
    refine drawn [.eq (vP b1 5), .eq (vI a0.vN), .eq (vL A1_0 a1.length c1_0), .eq (vP b1 4), .eq (vI a0.vRef), .eq (Value.pointer (some (Addr.add ad1 (a0.vRef.toNat*1)))), .eq (vI (rd 0 a1 a0.vRef)), .eq (vI (w64 (a0.vN*(rd 0 a1 a0.vRef))))] [17,18,19,20,21,22,23,24] hmix (by kernel_rfl) rfl (stable_eq (stable_eq (stable_eq (stable_eq (stable_eq (stable_eq (stable_eq (stable_eq stable_nil)))))))) ⟨ob_plain rfl (fun a' w' hE hk=>by have HSd:=HS1.step hE;exact does_eq (r_fieldBox (n:=1) (o':=5) (show _=vP b1 0 from hk 2 rfl) Tryd.runUnderlying34 rfl Tryd.sizeOf3 (by decide) rfl)),ob_plain rfl (fun a' w' hE hk=>by have HSd:=HS1.step hE;exact does_eq (r_loadBox (show _=vP b1 5 from hk 17 rfl) Tryd.isAgg3 (HSd.look 0 rfl) rfl)),ob_plain rfl (fun a' w' hE hk=>by have HSd:=HS1.step hE;exact does_eq (r_move (show _=vL A1_0 a1.length c1_0 from hk 1 rfl))),ob_plain rfl (fun a' w' hE hk=>by have HSd:=HS1.step hE;exact does_eq (r_fieldBox (n:=1) (o':=4) (show _=vP b1 0 from hk 2 rfl) Tryd.runUnderlying34 rfl Tryd.sizeOf3 (by decide) rfl)),ob_plain rfl (fun a' w' hE hk=>by have HSd:=HS1.step hE;exact does_eq (r_loadBox (show _=vP b1 4 from hk 20 rfl) Tryd.isAgg3 (HSd.look 0 rfl) rfl)),ob_plain rfl (fun a' w' hE hk=>by have HSd:=HS1.step hE;exact does_eq (r_indexA (sz:=1) (show _=vL A1_0 a1.length c1_0 from hk 19 rfl) e1 (show _=vI a0.vRef from hk 21 rfl) hi1.1 hi1.2 Tryd.runUnderlying62 Tryd.sizeOf3)),ob_plain rfl (fun a' w' hE hk=>by have HSd:=HS1.step hE;exact does_eq (r_load (show _=Value.pointer (some (Addr.add ad1 (a0.vRef.toNat*1))) from hk 22 rfl) Tryd.isAgg3 (hel1.cell0 HSd.sees rfl))),ob_plain rfl (fun a' w' hE hk=>by have HSd:=HS1.step hE;exact does_eq (r_bin (show _=vI a0.vN from hk 18 rfl) (show _=vI (rd 0 a1 a0.vRef) from hk 23 rfl) rfl)),trivial⟩ ?_
    intro w2 hE2
    simp only [List.zip_cons_cons,List.zip_nil_left,List.zip_nil_right,finL,sc0,sc1,List.length_cons,List.length_nil,List.drop_succ_cons,List.drop_zero,Nat.zero_add,Nat.reduceAdd]
    have HS2:=HS1.step hE2
    refine rs (vI (w64 (a0.vN*(rd 0 a1 a0.vRef)))) (r_assign rfl) ?_
    try simp only [sc0,sc1]
    refine run_nil<|norm_then<|wp_ret<|ret_block<|ret_then ?_
    obtain rfl:=Option.some.inj H
    exact bodyPost_ret (results_1 rfl (one_tmp rfl)) rfl<|⟨rfl,HS2.toE⟩
   ·replace H:=of_neg H (nt c3)
    refine wp_seq<|region<|rs (vB (a0.vKind==5)) (r_bin rfl rfl rfl)<|rs (vB (a0.vKind==5)) (r_assign rfl) ?_
    try simp only [sc0,sc1]
    refine run_nil<|norm_then<|wp_cond_split (t:=(a0.vKind==5)) rfl (fun c4=>?_) (fun c4=>?_)
    ·replace H:=of_pos H c4
     refine wp_seq<|region<|rs (vI 4) (r_assign rfl) ?_
     try simp only [sc0,sc1]
     refine run_nil<|norm_then<|wp_ret<|ret_block<|ret_then ?_
     obtain rfl:=Option.some.inj H
     exact bodyPost_ret (results_1 rfl (one_tmp rfl)) rfl<|⟨rfl,HS1.toE⟩
    ·replace H:=of_neg H (nt c4)
     refine wp_seq<|region<|rs (vB (a0.vKind==6)) (r_bin rfl rfl rfl)<|rs (vB (a0.vKind==6)) (r_assign rfl) ?_
     try simp only [sc0,sc1]
     refine run_nil<|norm_then<|wp_cond_split (t:=(a0.vKind==6)) rfl (fun c5=>?_) (fun c5=>?_)
     ·replace H:=of_pos H c5
      refine wp_seq<|region<|rs (vL A1_0 a1.length c1_0) (r_move rfl)<|rs (vP b1 4) (r_fieldBox (n:=1) (o':=4) rfl Tryd.runUnderlying34 rfl Tryd.sizeOf3 (by decide) rfl)<|rs (vI a0.vRef) (r_loadBox rfl Tryd.isAgg3 (HS1.look 0 rfl) rfl) ?_
      obtain ⟨hi2,H⟩:=of_ite H
      obtain ⟨ad2,e2,hel2⟩:=ld_int hr1_0 hi2.1 hi2.2
      refine rs (Value.pointer (some (Addr.add ad2 (a0.vRef.toNat*1)))) (r_indexA (sz:=1) rfl e2 rfl hi2.1 hi2.2 Tryd.runUnderlying62 Tryd.sizeOf3)<|run_frame (by simp only [sc0,sc1];rfl) ?_
      refine rs (vI (rd 0 a1 a0.vRef)) (r_load rfl Tryd.isAgg3 (hel2.cell0 HS1.sees rfl))<|rs (vI (rd 0 a1 a0.vRef)) (r_assign rfl) ?_
      try simp only [sc0,sc1]
      refine run_nil<|norm_then<|wp_ret<|ret_block<|ret_then ?_
      obtain rfl:=Option.some.inj H
      exact bodyPost_ret (results_1 rfl (one_tmp rfl)) rfl<|⟨rfl,HS1.toE⟩
     ·replace H:=of_neg H (nt c5)
      refine wp_skip<|norm_block<|norm_then<|wp_seq<|wp_seq<|region<|rs (vI 0) (r_assign rfl) ?_
      try simp only [sc0,sc1]
      refine run_nil<|norm_then ?_
      obtain ⟨xx1,H,G1⟩:=of_bind H
      refine loop_j [4,5,34,35,36,37,38,39,40,41,42,43,44,45,46,47,48,49,50] (fun m us w'=>∃(y1_0:Int),Fit us (fun uy1=>[(uy1 0),vI y1_0,(uy1 2),(uy1 3),(uy1 4),(uy1 5),(uy1 6),(uy1 7),(uy1 8),(uy1 9),(uy1 10),(uy1 11),(uy1 12),(uy1 13),(uy1 14),(uy1 15),(uy1 16),(uy1 17),(uy1 18)])∧taplineref08_size.l0 a0 a1 m y1_0=some xx1∧St [] h0 w0 h0 [(some b1, .cells #[vI a0.vKind,vS a0.vName,vI a0.vInt.vSize,vB a0.vInt.vSigned,vI a0.vRef,vI a0.vN,vL A0_6 a0.vFields.length c0_6] 34 (0,0))] w') (fun us w'=>∃(s1:Unit),xx1= .inr s1∧Fit us (fun uo1=>[(uo1 0),(uo1 1),(uo1 2),(uo1 3),(uo1 4),(uo1 5),(uo1 6),(uo1 7),(uo1 8),(uo1 9),(uo1 10),(uo1 11),(uo1 12),(uo1 13),(uo1 14),(uo1 15),(uo1 16),(uo1 17),(uo1 18)])∧St [] h0 w0 h0 [(some b1, .cells #[vI a0.vKind,vS a0.vName,vI a0.vInt.vSize,vB a0.vInt.vSigned,vI a0.vRef,vI a0.vN,vL A0_6 a0.vFields.length c0_6] 34 (0,0))] w') k ⟨0,(fit rfl),H,HS1⟩ ?_ ?_
      ·rintro m us w3 ⟨y1_0,huy1,H,HS3⟩
       obtain ⟨uy1,rfl⟩:=unj huy1
       cases m with
       |zero=>exact absurd H (by simp [taplineref08_size.l0])
       |succ m=>
        rw [taplineref08_size.l0] at H
        try simp only [patch,sc0,sc1]
        refine wp_seq<|wp_seq<|region<|rs (vI y1_0) (r_move rfl)<|rs (vP b1 6) (r_fieldBox (n:=1) (o':=6) rfl Tryd.runUnderlying34 rfl Tryd.sizeOf32 (by decide) rfl)<|rs (vL A0_6 a0.vFields.length c0_6) (r_loadBox rfl Tryd.isAgg32 (HS3.look 0 rfl) rfl)<|rs (vI (a0.vFields.length:Int)) (r_len rfl Tryd.runUnderlying32)<|run_frame (by simp only [sc0,sc1];rfl) ?_
        refine rs (vB (decide (y1_0<(a0.vFields.length:Int)))) (r_bin rfl rfl rfl) ?_
        try simp only [sc0,sc1]
        refine run_nil<|norm_then<|wp_cond_split (t:=(decide (y1_0<(a0.vFields.length:Int)))) rfl (fun c6=>?_) (fun c6=>?_)
        ·replace H:=of_pos H c6
         refine wp_skip<|norm_then<|wp_seq<|wp_block<|wp_seq<|region<|rs (vL A1_0 a1.length c1_0) (r_move rfl)<|rs (vP b1 6) (r_fieldBox (n:=1) (o':=6) rfl Tryd.runUnderlying34 rfl Tryd.sizeOf32 (by decide) rfl)<|rs (vL A0_6 a0.vFields.length c0_6) (r_loadBox rfl Tryd.isAgg32 (HS3.look 0 rfl) rfl)<|rs (vI y1_0) (r_move rfl)<|run_frame (by simp only [sc0,sc1];rfl) ?_
         obtain ⟨hi3,H⟩:=of_ite H
         obtain ⟨ad3,e3,hel3⟩:=ld_api_Field hr0_6 hi3.1 hi3.2
         refine rs (Value.pointer (some (Addr.add ad3 (y1_0.toNat*3)))) (r_indexA (sz:=3) rfl e3 rfl hi3.1 hi3.2 Tryd.runUnderlying32 Tryd.sizeOf36)<|rs (Value.pointer (some (Addr.add (Addr.add ad3 (y1_0.toNat*3)) 1))) (r_fieldEl (n:=1) (o':=1) rfl Tryd.runUnderlying36 rfl Tryd.sizeOf3 (by decide) rfl)<|rs (vI ((rd z_api_Field a0.vFields y1_0).vType)) (r_load rfl Tryd.isAgg3 (hel3.cell HS3.sees 1 rfl)) ?_
         obtain ⟨hi4,H⟩:=of_ite H
         obtain ⟨ad4,e4,hel4⟩:=ld_int hr1_0 hi4.1 hi4.2
         refine rs (Value.pointer (some (Addr.add ad4 (((rd z_api_Field a0.vFields y1_0).vType).toNat*1)))) (r_indexA (sz:=1) rfl e4 rfl hi4.1 hi4.2 Tryd.runUnderlying62 Tryd.sizeOf3)<|run_frame (by simp only [sc0,sc1];rfl) ?_
         refine rs (vI (rd 0 a1 ((rd z_api_Field a0.vFields y1_0).vType))) (r_load rfl Tryd.isAgg3 (hel4.cell0 HS3.sees rfl))<|rs (vB ((rd 0 a1 ((rd z_api_Field a0.vFields y1_0).vType))==0)) (r_bin rfl rfl rfl) ?_
         try simp only [sc0,sc1]
         refine run_nil<|norm_then<|wp_cond_split (t:=((rd 0 a1 ((rd z_api_Field a0.vFields y1_0).vType))==0)) rfl (fun c7=>?_) (fun c7=>?_)
         ·replace H:=of_pos H c7
          refine wp_seq<|region<|rs (vI 0) (r_assign rfl) ?_
          try simp only [sc0,sc1]
          refine run_nil<|norm_then<|wp_ret<|ret_block<|ret_then<|ret_loop<|ret_then ?_
          obtain rfl:=Option.some.inj H
          obtain rfl:=Option.some.inj G1
          exact bodyPost_ret (results_1 rfl (one_tmp rfl)) rfl<|⟨rfl,HS3.toE⟩
         ·replace H:=of_neg H (nt c7)
          refine wp_skip<|norm_block<|norm_then<|region<|rs (vI y1_0) (r_move rfl)<|rs (vI (w64 (y1_0+1))) (r_bin rfl rfl rfl)<|rs (vI (w64 (y1_0+1))) (r_assign rfl) ?_
          try simp only [sc0,sc1]
          refine run_nil<|again_j m (Nat.lt_succ_self m) rfl ⟨(w64 (y1_0+1)),(fit rfl),H,HS3⟩
        ·replace H:=of_neg H (nt c6)
         refine wp_exit<|exit_then ?_
         obtain rfl:=Option.some.inj H
         refine leave_j rfl ⟨_,rfl,(fit rfl),HS3⟩
      ·rintro us w4 ⟨s1,rfl,huo1,HS4⟩
       obtain ⟨uo1,rfl⟩:=unj huo1
       replace H:=G1
       clear G1
       try simp only [patch,sc0,sc1]
       refine norm_then<|wp_seq<|region<|rs (vP b1 5) (r_fieldBox (n:=1) (o':=5) rfl Tryd.runUnderlying34 rfl Tryd.sizeOf3 (by decide) rfl)<|rs (vI a0.vN) (r_loadBox rfl Tryd.isAgg3 (HS4.look 0 rfl) rfl)<|rs (vI a0.vN) (r_assign rfl) ?_
       try simp only [sc0,sc1]
       refine run_nil<|norm_then<|wp_ret ?_
       obtain rfl:=Option.some.inj H
       exact bodyPost_ret (results_1 rfl (one_tmp rfl)) rfl<|⟨rfl,HS4.toE⟩
def taplineref08_sizes.l1 (k:Nat) (a0:api_Types):Nat→Bool→Int→(List Int)→Option (Bool×(List Int))
 |0,_,_,_=>none
 |m+1,y2_0,y2_1,y2_2=>if (decide (y2_1<(a0.vDefs.length:Int)))=true then (if 0≤y2_1∧y2_1<(((a0.vDefs.length:Int).toNat:Nat):Int) then (if ((rd 0 y2_2 y2_1) !=0)=true then (taplineref08_sizes.l1 k a0 m y2_0 (IntKind.wrap .i64 (y2_1+1)) y2_2) else (if 0≤y2_1∧y2_1<a0.vDefs.length then ((taplineref08_size.f k (rd z_api_Def a0.vDefs y2_1) y2_2).bind fun v1=>(if (decide (v1>0))=true then (if 0≤y2_1∧y2_1<(((a0.vDefs.length:Int).toNat:Nat):Int) then (taplineref08_sizes.l1 k a0 m true (IntKind.wrap .i64 (y2_1+1)) (List.set y2_2 y2_1.toNat (iMin v1 513))) else none) else (taplineref08_sizes.l1 k a0 m y2_0 (IntKind.wrap .i64 (y2_1+1)) y2_2))) else none)) else none) else (some (y2_0,y2_2))
def taplineref08_sizes.l0 (k:Nat) (a0:api_Types):Nat→Bool→(List Int)→Option ((List Int))
 |0,_,_=>none
 |m+1,y1_0,y1_1=>if y1_0=true then ((taplineref08_sizes.l1 k a0 k false 0 y1_1).bind fun xx2=>(taplineref08_sizes.l0 k a0 m xx2.1 xx2.2)) else (some y1_1)
def taplineref08_sizes.f (k:Nat) (a0:api_Types):Option ((List Int)):=if 0≤(a0.vDefs.length:Int)∧(a0.vDefs.length:Int)≤4294967296 then ((taplineref08_sizes.l0 k a0 k true (List.replicate (a0.vDefs.length:Int).toNat (0:Int))).bind fun xx1=>(some xx1)) else none
theorem taplineref08_sizes.calls (k:Nat) (a0:api_Types) (A0_0:Option Addr) (c0_0:Nat) {h0:View} {w0:World} (hv:Sees h0 w0) (hr0_0:Rd k_api_Def h0 A0_0 a0.vDefs) (hc0_0:a0.vDefs.length≤c0_0) {r:(List Int)} (H:taplineref08_sizes.f k a0=some r):Calls Tryd.prog 50 #[Value.agg #[vL A0_0 a0.vDefs.length c0_0]] w0 (fun e w1=>∃(h1:View) (A0_0:Option Addr) (c0_0:Nat),e= .returned (vL A0_0 r.length c0_0)∧r.length≤c0_0∧Rd (Kd.int .i64) h1 A0_0 r∧Gr w0.heap.size h0 h1∧Sees h1 w1∧Ext w0 w1):=by
 unfold taplineref08_sizes.f at H
 have HS:St [] h0 w0 h0 [] w0:=St.init hv
 go_enter Tryd.func50,Tryd.ntmps50
 refine wp_seq<|region<|run_ex rfl rfl (does_box (cs:=#[vL A0_0 a0.vDefs.length c0_0]) rfl rfl) ?_
 rintro w1 _ hE1 ⟨b1,rfl,ge1,hb1⟩
 have HS1:=HS.new hE1 ge1 hb1
 refine rs (vL none 0 0) (r_assign rfl) ?_
 try simp only [sc0,sc1]
 refine run_nil<|norm_then<|wp_seq<|region<|rs (vP b1 0) (r_fieldBox (n:=1) (o':=0) rfl Tryd.runUnderlying24 rfl Tryd.sizeOf22 (by decide) rfl)<|rs (vL A0_0 a0.vDefs.length c0_0) (r_loadBox rfl Tryd.isAgg22 (HS1.look 0 rfl) rfl)<|rs (vI (a0.vDefs.length:Int)) (r_len rfl Tryd.runUnderlying22) ?_
 obtain ⟨hk1,H⟩:=of_ite H
 refine run_mk (Kd.int .i64) 0 (zs:=[vI 0]) rfl rfl hk1 Tryd.runUnderlying62 Tryd.typeInfo3 (by decide) rfl Tryd.zeroValue3 rfl rfl HS1 ?_
 intro w2 b2 cs1 HS2 ho1
 refine run_frame (by simp only [sc0,sc1];rfl) ?_
 refine rs (vL (rowA (some b2)) ((a0.vDefs.length:Int).toNat) ((a0.vDefs.length:Int).toNat)) (r_assign rfl) ?_
 try simp only [sc0,sc1]
 refine run_nil<|norm_then<|wp_seq<|wp_seq<|region<|rs (vB true) (r_assign rfl) ?_
 try simp only [sc0,sc1]
 refine run_nil<|norm_then ?_
 obtain ⟨xx1,H,G1⟩:=of_bind H
 refine loop_j [4,5,6,11,12,13,14,15,16,17,18,19,20,21,22,23,24,25,26,27,28,29,30,31,32,33,34,35,36,37] (fun m us w'=>∃y1_0:Bool,∃y1_1:List Int,∃csy1_1:List Value,Fit us (fun uy1=>[vB y1_0,(uy1 1),(uy1 2),(uy1 3),(uy1 4),(uy1 5),(uy1 6),(uy1 7),(uy1 8),(uy1 9),(uy1 10),(uy1 11),(uy1 12),(uy1 13),(uy1 14),(uy1 15),(uy1 16),(uy1 17),(uy1 18),(uy1 19),(uy1 20),(uy1 21),(uy1 22),(uy1 23),(uy1 24),(uy1 25),(uy1 26),(uy1 27),(uy1 28),(uy1 29)])∧taplineref08_sizes.l0 k a0 m y1_0 y1_1=some xx1∧RowOk (Kd.int .i64) h0 y1_1 (some b2) ((a0.vDefs.length:Int).toNat) ((a0.vDefs.length:Int).toNat) csy1_1∧St [] h0 w0 h0 [((some b2), .cells (csy1_1).toArray 3 (0,0)),(some b1, .cells #[vL A0_0 a0.vDefs.length c0_0] 24 (0,0))] w') (fun us w'=>∃(cso2_0:List Value),Fit us (fun uo2=>[(uo2 0),(uo2 1),(uo2 2),(uo2 3),(uo2 4),(uo2 5),(uo2 6),(uo2 7),(uo2 8),(uo2 9),(uo2 10),(uo2 11),(uo2 12),(uo2 13),(uo2 14),(uo2 15),(uo2 16),(uo2 17),(uo2 18),(uo2 19),(uo2 20),(uo2 21),(uo2 22),(uo2 23),(uo2 24),(uo2 25),(uo2 26),(uo2 27),(uo2 28),(uo2 29)])∧RowOk (Kd.int .i64) h0 xx1 (some b2) ((a0.vDefs.length:Int).toNat) ((a0.vDefs.length:Int).toNat) cso2_0∧St [] h0 w0 h0 [((some b2), .cells (cso2_0).toArray 3 (0,0)),(some b1, .cells #[vL A0_0 a0.vDefs.length c0_0] 24 (0,0))] w') k ⟨true,(List.replicate (a0.vDefs.length:Int).toNat (0:Int)),cs1,(fit rfl),H,ho1,HS2⟩ ?_ ?_
 ·rintro m us w3 ⟨y1_0,y1_1,csy1_1,huy1,H,hoy1_1,HS3⟩
  obtain ⟨uy1,rfl⟩:=unj huy1
  cases m with
  |zero=>exact absurd H (by simp [taplineref08_sizes.l0])
  |succ m=>
   rw [taplineref08_sizes.l0] at H
   try simp only [patch,sc0,sc1]
   refine wp_seq<|wp_seq<|region<|rs (vB y1_0) (r_move rfl) ?_
   try simp only [sc0,sc1]
   refine run_nil<|norm_then<|wp_cond_split (t:=y1_0) rfl (fun c1=>?_) (fun c1=>?_)
   ·replace H:=of_pos H c1
    refine wp_skip<|norm_then<|wp_block<|wp_seq<|region<|rs (vB false) (r_assign rfl) ?_
    try simp only [sc0,sc1]
    refine run_nil<|norm_then<|wp_seq<|region<|rs (vI 0) (r_assign rfl) ?_
    try simp only [sc0,sc1]
    refine run_nil<|norm_then ?_
    obtain ⟨xx2,H,G2⟩:=of_bind H
    refine loop_j [4,5,6,12,13,14,15,16,17,18,19,20,21,22,23,24,25,26,27,28,29,30,31,32,33,34,35,36,37] (fun m us w'=>∃y2_0:Bool,∃y2_1:Int,∃y2_2:List Int,∃csy2_2:List Value,Fit us (fun uy2=>[vB y2_0,vI y2_1,(uy2 2),(uy2 3),(uy2 4),(uy2 5),(uy2 6),(uy2 7),(uy2 8),(uy2 9),(uy2 10),(uy2 11),(uy2 12),(uy2 13),(uy2 14),(uy2 15),(uy2 16),(uy2 17),(uy2 18),(uy2 19),(uy2 20),(uy2 21),(uy2 22),(uy2 23),(uy2 24),(uy2 25),(uy2 26),(uy2 27),(uy2 28)])∧taplineref08_sizes.l1 k a0 m y2_0 y2_1 y2_2=some xx2∧RowOk (Kd.int .i64) h0 y2_2 (some b2) ((a0.vDefs.length:Int).toNat) ((a0.vDefs.length:Int).toNat) csy2_2∧St [] h0 w0 h0 [((some b2), .cells (csy2_2).toArray 3 (0,0)),(some b1, .cells #[vL A0_0 a0.vDefs.length c0_0] 24 (0,0))] w') (fun us w'=>∃(cso1_1:List Value),Fit us (fun uo1=>[vB xx2.1,(uo1 1),(uo1 2),(uo1 3),(uo1 4),(uo1 5),(uo1 6),(uo1 7),(uo1 8),(uo1 9),(uo1 10),(uo1 11),(uo1 12),(uo1 13),(uo1 14),(uo1 15),(uo1 16),(uo1 17),(uo1 18),(uo1 19),(uo1 20),(uo1 21),(uo1 22),(uo1 23),(uo1 24),(uo1 25),(uo1 26),(uo1 27),(uo1 28)])∧RowOk (Kd.int .i64) h0 xx2.2 (some b2) ((a0.vDefs.length:Int).toNat) ((a0.vDefs.length:Int).toNat) cso1_1∧St [] h0 w0 h0 [((some b2), .cells (cso1_1).toArray 3 (0,0)),(some b1, .cells #[vL A0_0 a0.vDefs.length c0_0] 24 (0,0))] w') k ⟨false,0,y1_1,csy1_1,(fit rfl),H,hoy1_1,HS3⟩ ?_ ?_
    ·rintro m us w4 ⟨y2_0,y2_1,y2_2,csy2_2,huy2,H,hoy2_2,HS4⟩
     obtain ⟨uy2,rfl⟩:=unj huy2
     cases m with
     |zero=>exact absurd H (by simp [taplineref08_sizes.l1])
     |succ m=>
      rw [taplineref08_sizes.l1] at H
      try simp only [patch,sc0,sc1]
      refine wp_seq<|wp_seq<|region<|rs (vI y2_1) (r_move rfl)<|rs (vP b1 0) (r_fieldBox (n:=1) (o':=0) rfl Tryd.runUnderlying24 rfl Tryd.sizeOf22 (by decide) rfl)<|rs (vL A0_0 a0.vDefs.length c0_0) (r_loadBox rfl Tryd.isAgg22 (HS4.look 1 rfl) rfl)<|rs (vI (a0.vDefs.length:Int)) (r_len rfl Tryd.runUnderlying22)<|run_frame (by simp only [sc0,sc1];rfl) ?_
      refine rs (vB (decide (y2_1<(a0.vDefs.length:Int)))) (r_bin rfl rfl rfl) ?_
      try simp only [sc0,sc1]
      refine run_nil<|norm_then<|wp_cond_split (t:=(decide (y2_1<(a0.vDefs.length:Int)))) rfl (fun c2=>?_) (fun c2=>?_)
      ·replace H:=of_pos H c2
       refine wp_skip<|norm_then<|wp_seq<|wp_block<|wp_seq<|wp_seq<|region<|rs (vL (rowA (some b2)) ((a0.vDefs.length:Int).toNat) ((a0.vDefs.length:Int).toNat)) (r_move rfl)<|rs (vI y2_1) (r_move rfl) ?_
       obtain ⟨hi1,H⟩:=of_ite H
       obtain ⟨rb1,_,hrb1,rfl,hp1⟩:=hoy2_2.at 0 hi1.1 hi1.2
       refine rs (Value.pointer (some ⟨rb1,y2_1.toNat*1+0,none⟩)) (r_indexRow (sz:=1) rfl hrb1 rfl hi1.1 hi1.2 Tryd.runUnderlying62 Tryd.sizeOf3)<|rs (vI (rd 0 y2_2 y2_1)) (r_loadBox (cs:=csy2_2) rfl Tryd.isAgg3 (HS4.lookr 0 rfl hrb1) (hp1 0 _ rfl))<|run_frame (by simp only [sc0,sc1];rfl) ?_
       refine rs (vB ((rd 0 y2_2 y2_1) !=0)) (r_bin rfl rfl rfl) ?_
       try simp only [sc0,sc1]
       refine run_nil<|norm_then<|wp_cond_split (t:=((rd 0 y2_2 y2_1) !=0)) rfl (fun c3=>?_) (fun c3=>?_)
       ·replace H:=of_pos H c3
        refine wp_exit<|exit_then<|exit_block<|norm_then<|region<|rs (vI y2_1) (r_move rfl)<|rs (vI (w64 (y2_1+1))) (r_bin rfl rfl rfl)<|rs (vI (w64 (y2_1+1))) (r_assign rfl) ?_
        try simp only [sc0,sc1]
        refine run_nil<|again_j m (Nat.lt_succ_self m) rfl ⟨y2_0,(w64 (y2_1+1)),y2_2,csy2_2,(fit rfl),H,hoy2_2,HS4⟩
       ·replace H:=of_neg H (nt c3)
        refine wp_skip<|norm_then<|wp_seq<|region<|rs (vP b1 0) (r_fieldBox (n:=1) (o':=0) rfl Tryd.runUnderlying24 rfl Tryd.sizeOf22 (by decide) rfl)<|rs (vL A0_0 a0.vDefs.length c0_0) (r_loadBox rfl Tryd.isAgg22 (HS4.look 1 rfl) rfl)<|rs (vI y2_1) (r_move rfl) ?_
        obtain ⟨hi2,H⟩:=of_ite H
        obtain ⟨ad1,Aad1_6,cad1_6,e1,hel1,hcad1_6,hrad1_6⟩:=ld_api_Def hr0_0 hi2.1 hi2.2
        refine rs (Value.pointer (some (Addr.add ad1 (y2_1.toNat*7)))) (r_indexA (sz:=7) rfl e1 rfl hi2.1 hi2.2 Tryd.runUnderlying22 Tryd.sizeOf34)<|run_frame (by simp only [sc0,sc1];rfl) ?_
        refine rs (Value.agg #[vI ((rd z_api_Def a0.vDefs y2_1).vKind),vS ((rd z_api_Def a0.vDefs y2_1).vName),vI ((rd z_api_Def a0.vDefs y2_1).vInt.vSize),vB ((rd z_api_Def a0.vDefs y2_1).vInt.vSigned),vI ((rd z_api_Def a0.vDefs y2_1).vRef),vI ((rd z_api_Def a0.vDefs y2_1).vN),vL Aad1_6 ((rd z_api_Def a0.vDefs y2_1).vFields).length cad1_6]) (r_loadAgg rfl Tryd.isAgg34 (hel1.sees HS4.sees) Tryd.sizeOf34)<|rs (vL (rowA (some b2)) ((a0.vDefs.length:Int).toNat) ((a0.vDefs.length:Int).toNat)) (r_move rfl) ?_
        obtain ⟨v1,H1,H⟩:=of_bind H
        obtain ⟨hl1,hs1,se1,rdl1⟩:=row_lend HS4 (i:=0) rfl hoy2_2
        refine run_eq (v:=vI v1) rfl rfl (does_call_eq Tryd.call98 rfl (map2 rfl (show _=vL (rowA (some b2)) y2_2.length ((a0.vDefs.length:Int).toNat) from by rw [hoy2_2.len];exact rfl)) (taplineref08_size.calls k (rd z_api_Def a0.vDefs y2_1) y2_2 Aad1_6 cad1_6 (rowA (some b2)) ((a0.vDefs.length:Int).toNat) se1 (hrad1_6.ext hs1) hcad1_6 rdl1 hoy2_2.cap H1)) ?_
        intro w5 hE2
        have HS5:=HS4.step hE2
        refine rs (vI v1) (r_assign rfl) ?_
        try simp only [sc0,sc1]
        refine run_nil<|norm_then<|wp_seq<|region<|rs (vI v1) (r_move rfl)<|rs (vB (decide (v1>0))) (r_bin rfl rfl rfl) ?_
        try simp only [sc0,sc1]
        refine run_nil<|norm_then<|wp_cond_split (t:=(decide (v1>0))) rfl (fun c4=>?_) (fun c4=>?_)
        ·replace H:=of_pos H c4
         refine wp_seq<|region<|rs (vL (rowA (some b2)) ((a0.vDefs.length:Int).toNat) ((a0.vDefs.length:Int).toNat)) (r_move rfl)<|rs (vI y2_1) (r_move rfl)<|rs (vI v1) (r_move rfl)<|rs (vI (iMin v1 513)) (r_min rfl rfl)<|run_frame (by simp only [sc0,sc1];rfl) ?_
         obtain ⟨hi3,H⟩:=of_ite H
         obtain ⟨rb2,_,hrb2,rfl,hp2⟩:=hoy2_2.at 0 hi3.1 hi3.2
         refine rs (Value.pointer (some ⟨rb2,y2_1.toNat*1+0,none⟩)) (r_indexRow (sz:=1) rfl hrb2 rfl hi3.1 hi3.2 Tryd.runUnderlying62 Tryd.sizeOf3)<|run_str (i:=0) (cs:=csy2_2) (v:=vI (iMin v1 513)) hrb2 rfl rfl Tryd.sizeOf3 rfl rfl HS5 rfl (hoy2_2.inb hi3.1 hi3.2 (m:=1) (by decide)) ?_
         intro w6 HS6
         have ho2:=hoy2_2.set (o:=0) (v:=vI (iMin v1 513)) (x':=(iMin v1 513)) hi3.1 hi3.2 hp2 rfl (Nat.le_of_ble_eq_true rfl)
         try simp only [sc0,sc1]
         refine run_nil<|norm_then<|region<|rs (vB true) (r_assign rfl) ?_
         try simp only [sc0,sc1]
         refine run_nil<|norm_block<|norm_then<|region<|rs (vI y2_1) (r_move rfl)<|rs (vI (w64 (y2_1+1))) (r_bin rfl rfl rfl)<|rs (vI (w64 (y2_1+1))) (r_assign rfl) ?_
         try simp only [sc0,sc1]
         refine run_nil<|again_j m (Nat.lt_succ_self m) rfl ⟨true,(w64 (y2_1+1)),(List.set y2_2 y2_1.toNat (iMin v1 513)),(List.set csy2_2 (y2_1.toNat*1+0) (vI (iMin v1 513))),(fit rfl),H,ho2,HS6⟩
        ·replace H:=of_neg H (nt c4)
         refine wp_skip<|norm_block<|norm_then<|region<|rs (vI y2_1) (r_move rfl)<|rs (vI (w64 (y2_1+1))) (r_bin rfl rfl rfl)<|rs (vI (w64 (y2_1+1))) (r_assign rfl) ?_
         try simp only [sc0,sc1]
         refine run_nil<|again_j m (Nat.lt_succ_self m) rfl ⟨y2_0,(w64 (y2_1+1)),y2_2,csy2_2,(fit rfl),H,hoy2_2,HS5⟩
      ·replace H:=of_neg H (nt c2)
       refine wp_exit<|exit_then ?_
       obtain rfl:=Option.some.inj H
       refine leave_j rfl ⟨csy2_2,(fit rfl),hoy2_2,HS4⟩
    ·rintro us w7 ⟨cso1_1,huo1,hoo1_1,HS7⟩
     obtain ⟨uo1,rfl⟩:=unj huo1
     replace H:=G2
     clear G2
     try simp only [patch,sc0,sc1]
     refine norm_block<|again_j m (Nat.lt_succ_self m) rfl ⟨xx2.1,xx2.2,cso1_1,(fit rfl),H,hoo1_1,HS7⟩
   ·replace H:=of_neg H (nt c1)
    refine wp_exit<|exit_then ?_
    obtain rfl:=Option.some.inj H
    refine leave_j rfl ⟨csy1_1,(fit rfl),hoy1_1,HS3⟩
 ·rintro us w8 ⟨cso2_0,huo2,hoo2_0,HS8⟩
  obtain ⟨uo2,rfl⟩:=unj huo2
  replace H:=G1
  clear G1
  try simp only [patch,sc0,sc1]
  refine norm_then<|wp_seq<|region<|rs (vL (rowA (some b2)) ((a0.vDefs.length:Int).toNat) ((a0.vDefs.length:Int).toNat)) (r_move rfl)<|rs (vL (rowA (some b2)) ((a0.vDefs.length:Int).toNat) ((a0.vDefs.length:Int).toNat)) (r_assign rfl) ?_
  try simp only [sc0,sc1]
  refine run_nil<|norm_then<|wp_ret ?_
  obtain rfl:=Option.some.inj H
  refine bodyPost_ret (results_1 rfl (one_tmp rfl)) rfl ?_
  obtain ⟨h1,HS9,hs2,rdp1⟩:=row_pub HS8 (i:=0) rfl hoo2_0
  exact ⟨h1,(rowA (some b2)),(a0.vDefs.length:Int).toNat,(by first|rfl|(rw [hoo2_0.len];done)|(rw [hoo2_0.len];rfl)),hoo2_0.cap,rdp1,HS9.gr,HS9.sees,HS9.toE⟩
def taplineref08_ends.l0 (a0:api_Types):Nat→Int→Int→Option ((Bool)⊕(Unit))
 |0,_,_=>none
 |m+1,y1_0,y1_1=>if (decide (y1_1≤(a0.vDefs.length:Int)))=true then (if 0≤y1_0∧y1_0<a0.vDefs.length then ((taplineref08_Named.f (rd z_api_Def a0.vDefs y1_0)).bind fun v1=>(if v1=true then (some (.inl true)) else (if 0≤y1_0∧y1_0<a0.vDefs.length then (taplineref08_ends.l0 a0 m ((rd z_api_Def a0.vDefs y1_0).vRef) (IntKind.wrap .i64 (y1_1+1))) else none))) else none) else (some (.inr ()))
def taplineref08_ends.f (k:Nat) (a0:api_Types) (a1:Int):Option (Bool):=(taplineref08_ends.l0 a0 k a1 0).bind fun xx1=>(match xx1 with| .inl r=>some r| .inr s1=>some false)
theorem taplineref08_ends.calls (k:Nat) (a0:api_Types) (a1:Int) (A0_0:Option Addr) (c0_0:Nat) {h0:View} {w0:World} (hv:Sees h0 w0) (hr0_0:Rd k_api_Def h0 A0_0 a0.vDefs) (hc0_0:a0.vDefs.length≤c0_0) {r:Bool} (H:taplineref08_ends.f k a0 a1=some r):Calls Tryd.prog 51 #[Value.agg #[vL A0_0 a0.vDefs.length c0_0],vI a1] w0 (fun e w1=>e= .returned (vB r)∧Ext w0 w1):=by
 unfold taplineref08_ends.f at H
 have HS:St [] h0 w0 h0 [] w0:=St.init hv
 go_enter Tryd.func51,Tryd.ntmps51
 refine wp_seq<|region<|run_ex rfl rfl (does_box (cs:=#[vL A0_0 a0.vDefs.length c0_0]) rfl rfl) ?_
 rintro w1 _ hE1 ⟨b1,rfl,ge1,hb1⟩
 have HS1:=HS.new hE1 ge1 hb1
 refine rs (vB false) (r_assign rfl) ?_
 try simp only [sc0,sc1]
 refine run_nil<|norm_then<|wp_seq<|wp_seq<|region<|rs (vI 0) (r_assign rfl) ?_
 try simp only [sc0,sc1]
 refine run_nil<|norm_then ?_
 obtain ⟨xx1,H,G1⟩:=of_bind H
 refine loop_j [1,4,5,6,7,8,9,10,11,12,13,14,15,16,17,18,19,20,21,22,23,24] (fun m us w'=>∃y1_0 y1_1:Int,Fit us (fun uy1=>[vI y1_0,(uy1 1),vI y1_1,(uy1 3),(uy1 4),(uy1 5),(uy1 6),(uy1 7),(uy1 8),(uy1 9),(uy1 10),(uy1 11),(uy1 12),(uy1 13),(uy1 14),(uy1 15),(uy1 16),(uy1 17),(uy1 18),(uy1 19),(uy1 20),(uy1 21)])∧taplineref08_ends.l0 a0 m y1_0 y1_1=some xx1∧St [] h0 w0 h0 [(some b1, .cells #[vL A0_0 a0.vDefs.length c0_0] 24 (0,0))] w') (fun us w'=>∃(s1:Unit),xx1= .inr s1∧Fit us (fun uo1=>[(uo1 0),(uo1 1),(uo1 2),(uo1 3),(uo1 4),(uo1 5),(uo1 6),(uo1 7),(uo1 8),(uo1 9),(uo1 10),(uo1 11),(uo1 12),(uo1 13),(uo1 14),(uo1 15),(uo1 16),(uo1 17),(uo1 18),(uo1 19),(uo1 20),(uo1 21)])∧St [] h0 w0 h0 [(some b1, .cells #[vL A0_0 a0.vDefs.length c0_0] 24 (0,0))] w') k ⟨a1,0,(fit rfl),H,HS1⟩ ?_ ?_
 ·rintro m us w2 ⟨y1_0,y1_1,huy1,H,HS2⟩
  obtain ⟨uy1,rfl⟩:=unj huy1
  cases m with
  |zero=>exact absurd H (by simp [taplineref08_ends.l0])
  |succ m=>
   rw [taplineref08_ends.l0] at H
   try simp only [patch,sc0,sc1]
   refine wp_seq<|wp_seq<|region<|rs (vI y1_1) (r_move rfl)<|rs (vP b1 0) (r_fieldBox (n:=1) (o':=0) rfl Tryd.runUnderlying24 rfl Tryd.sizeOf22 (by decide) rfl)<|rs (vL A0_0 a0.vDefs.length c0_0) (r_loadBox rfl Tryd.isAgg22 (HS2.look 0 rfl) rfl)<|rs (vI (a0.vDefs.length:Int)) (r_len rfl Tryd.runUnderlying22)<|run_frame (by simp only [sc0,sc1];rfl) ?_
   refine rs (vB (decide (y1_1≤(a0.vDefs.length:Int)))) (r_bin rfl rfl rfl) ?_
   try simp only [sc0,sc1]
   refine run_nil<|norm_then<|wp_cond_split (t:=(decide (y1_1≤(a0.vDefs.length:Int)))) rfl (fun c1=>?_) (fun c1=>?_)
   ·replace H:=of_pos H c1
    refine wp_skip<|norm_then<|wp_seq<|wp_block<|wp_seq<|wp_seq<|region<|rs (vP b1 0) (r_fieldBox (n:=1) (o':=0) rfl Tryd.runUnderlying24 rfl Tryd.sizeOf22 (by decide) rfl)<|rs (vL A0_0 a0.vDefs.length c0_0) (r_loadBox rfl Tryd.isAgg22 (HS2.look 0 rfl) rfl)<|rs (vI y1_0) (r_move rfl) ?_
    obtain ⟨hi1,H⟩:=of_ite H
    obtain ⟨ad1,Aad1_6,cad1_6,e1,hel1,hcad1_6,hrad1_6⟩:=ld_api_Def hr0_0 hi1.1 hi1.2
    refine rs (Value.pointer (some (Addr.add ad1 (y1_0.toNat*7)))) (r_indexA (sz:=7) rfl e1 rfl hi1.1 hi1.2 Tryd.runUnderlying22 Tryd.sizeOf34)<|run_frame (by simp only [sc0,sc1];rfl) ?_
    refine rs (Value.agg #[vI ((rd z_api_Def a0.vDefs y1_0).vKind),vS ((rd z_api_Def a0.vDefs y1_0).vName),vI ((rd z_api_Def a0.vDefs y1_0).vInt.vSize),vB ((rd z_api_Def a0.vDefs y1_0).vInt.vSigned),vI ((rd z_api_Def a0.vDefs y1_0).vRef),vI ((rd z_api_Def a0.vDefs y1_0).vN),vL Aad1_6 ((rd z_api_Def a0.vDefs y1_0).vFields).length cad1_6]) (r_loadAgg rfl Tryd.isAgg34 (hel1.sees HS2.sees) Tryd.sizeOf34) ?_
    obtain ⟨v1,H1,H⟩:=of_bind H
    refine run_eq (v:=vB v1) rfl rfl (does_call_eq Tryd.call49 rfl rfl (taplineref08_Named.calls (rd z_api_Def a0.vDefs y1_0) Aad1_6 cad1_6 HS2.sees hrad1_6 hcad1_6 H1)) ?_
    intro w3 hE2
    have HS3:=HS2.step hE2
    try simp only [sc0,sc1]
    refine run_nil<|norm_then<|wp_cond_split (t:=v1) rfl (fun c2=>?_) (fun c2=>?_)
    ·replace H:=of_pos H c2
     refine wp_seq<|region<|rs (vB true) (r_assign rfl) ?_
     try simp only [sc0,sc1]
     refine run_nil<|norm_then<|wp_ret<|ret_then<|ret_block<|ret_then<|ret_loop<|ret_then ?_
     obtain rfl:=Option.some.inj H
     obtain rfl:=Option.some.inj G1
     exact bodyPost_ret (results_1 rfl (one_tmp rfl)) rfl<|⟨rfl,HS3.toE⟩
    ·replace H:=of_neg H (nt c2)
     refine wp_skip<|norm_then<|region<|rs (vP b1 0) (r_fieldBox (n:=1) (o':=0) rfl Tryd.runUnderlying24 rfl Tryd.sizeOf22 (by decide) rfl)<|rs (vL A0_0 a0.vDefs.length c0_0) (r_loadBox rfl Tryd.isAgg22 (HS3.look 0 rfl) rfl)<|rs (vI y1_0) (r_move rfl) ?_
     obtain ⟨hi2,H⟩:=of_ite H
     obtain ⟨ad2,Aad2_6,cad2_6,e2,hel2,hcad2_6,hrad2_6⟩:=ld_api_Def hr0_0 hi2.1 hi2.2
     refine rs (Value.pointer (some (Addr.add ad2 (y1_0.toNat*7)))) (r_indexA (sz:=7) rfl e2 rfl hi2.1 hi2.2 Tryd.runUnderlying22 Tryd.sizeOf34)<|run_frame (by simp only [sc0,sc1];rfl) ?_
     refine rs (Value.pointer (some (Addr.add (Addr.add ad2 (y1_0.toNat*7)) 4))) (r_fieldEl (n:=1) (o':=4) rfl Tryd.runUnderlying34 rfl Tryd.sizeOf3 (by decide) rfl)<|rs (vI ((rd z_api_Def a0.vDefs y1_0).vRef)) (r_load rfl Tryd.isAgg3 (hel2.cell HS3.sees 4 rfl))<|rs (vI ((rd z_api_Def a0.vDefs y1_0).vRef)) (r_assign rfl) ?_
     try simp only [sc0,sc1]
     refine run_nil<|norm_block<|norm_then<|region<|rs (vI y1_1) (r_move rfl)<|rs (vI (w64 (y1_1+1))) (r_bin rfl rfl rfl)<|rs (vI (w64 (y1_1+1))) (r_assign rfl) ?_
     try simp only [sc0,sc1]
     refine run_nil<|again_j m (Nat.lt_succ_self m) rfl ⟨(rd z_api_Def a0.vDefs y1_0).vRef,(w64 (y1_1+1)),(fit rfl),H,HS3⟩
   ·replace H:=of_neg H (nt c1)
    refine wp_exit<|exit_then ?_
    obtain rfl:=Option.some.inj H
    refine leave_j rfl ⟨_,rfl,(fit rfl),HS2⟩
 ·rintro us w4 ⟨s1,rfl,huo1,HS4⟩
  obtain ⟨uo1,rfl⟩:=unj huo1
  replace H:=G1
  clear G1
  try simp only [patch,sc0,sc1]
  refine norm_then<|wp_seq<|region<|rs (vB false) (r_assign rfl) ?_
  try simp only [sc0,sc1]
  refine run_nil<|norm_then<|wp_ret ?_
  obtain rfl:=Option.some.inj H
  exact bodyPost_ret (results_1 rfl (one_tmp rfl)) rfl<|⟨rfl,HS4.toE⟩
def taplineref08_placed.l0 (a0:api_Def) (a1:List Int):Nat→Int→Int→Option ((Bool)⊕(Int))
 |0,_,_=>none
 |m+1,y1_0,y1_1=>if (decide (y1_1<(a0.vFields.length:Int)))=true then (if 0≤y1_1∧y1_1<a0.vFields.length then (if ((decide ((rd z_api_Field a0.vFields y1_1).vAt<y1_0))||(decide ((rd z_api_Field a0.vFields y1_1).vAt>a0.vN)))=true then (some (.inl false)) else (if 0≤(rd z_api_Field a0.vFields y1_1).vType∧(rd z_api_Field a0.vFields y1_1).vType<a1.length then (taplineref08_placed.l0 a0 a1 m (IntKind.wrap .i64 ((rd z_api_Field a0.vFields y1_1).vAt+(rd 0 a1 ((rd z_api_Field a0.vFields y1_1).vType)))) (IntKind.wrap .i64 (y1_1+1))) else none)) else none) else (some (.inr y1_0))
def taplineref08_placed.f (k:Nat) (a0:api_Def) (a1:List Int):Option (Bool):=(taplineref08_placed.l0 a0 a1 k 0 0).bind fun xx1=>(match xx1 with| .inl r=>some r| .inr s1=>some (decide (s1≤a0.vN)))
theorem taplineref08_placed.calls (k:Nat) (a0:api_Def) (a1:List Int) (A0_6:Option Addr) (c0_6:Nat) (A1_0:Option Addr) (c1_0:Nat) {h0:View} {w0:World} (hv:Sees h0 w0) (hr0_6:Rd k_api_Field h0 A0_6 a0.vFields) (hc0_6:a0.vFields.length≤c0_6) (hr1_0:Rd (Kd.int .i64) h0 A1_0 a1) (hc1_0:a1.length≤c1_0) {r:Bool} (H:taplineref08_placed.f k a0 a1=some r):Calls Tryd.prog 52 #[Value.agg #[vI a0.vKind,vS a0.vName,vI a0.vInt.vSize,vB a0.vInt.vSigned,vI a0.vRef,vI a0.vN,vL A0_6 a0.vFields.length c0_6],vL A1_0 a1.length c1_0] w0 (fun e w1=>e= .returned (vB r)∧Ext w0 w1):=by
 unfold taplineref08_placed.f at H
 have HS:St [] h0 w0 h0 [] w0:=St.init hv
 go_enter Tryd.func52,Tryd.ntmps52
 refine wp_seq<|region<|run_ex rfl rfl (does_box (cs:=#[vI a0.vKind,vS a0.vName,vI a0.vInt.vSize,vB a0.vInt.vSigned,vI a0.vRef,vI a0.vN,vL A0_6 a0.vFields.length c0_6]) rfl rfl) ?_
 rintro w1 _ hE1 ⟨b1,rfl,ge1,hb1⟩
 have HS1:=HS.new hE1 ge1 hb1
 refine rs (vB false) (r_assign rfl) ?_
 try simp only [sc0,sc1]
 refine run_nil<|norm_then<|wp_seq<|region<|rs (vI 0) (r_assign rfl) ?_
 try simp only [sc0,sc1]
 refine run_nil<|norm_then<|wp_seq<|wp_seq<|region<|rs (vI 0) (r_assign rfl) ?_
 try simp only [sc0,sc1]
 refine run_nil<|norm_then ?_
 obtain ⟨xx1,H,G1⟩:=of_bind H
 refine loop_j [4,5,6,7,8,9,10,11,12,13,14,15,16,17,18,19,20,21,22,23,24,25,26,27,28,29,30,31,32,33,34,35,36,37,38] (fun m us w'=>∃y1_0 y1_1:Int,Fit us (fun uy1=>[(uy1 0),vI y1_0,vI y1_1,(uy1 3),(uy1 4),(uy1 5),(uy1 6),(uy1 7),(uy1 8),(uy1 9),(uy1 10),(uy1 11),(uy1 12),(uy1 13),(uy1 14),(uy1 15),(uy1 16),(uy1 17),(uy1 18),(uy1 19),(uy1 20),(uy1 21),(uy1 22),(uy1 23),(uy1 24),(uy1 25),(uy1 26),(uy1 27),(uy1 28),(uy1 29),(uy1 30),(uy1 31),(uy1 32),(uy1 33),(uy1 34)])∧taplineref08_placed.l0 a0 a1 m y1_0 y1_1=some xx1∧St [] h0 w0 h0 [(some b1, .cells #[vI a0.vKind,vS a0.vName,vI a0.vInt.vSize,vB a0.vInt.vSigned,vI a0.vRef,vI a0.vN,vL A0_6 a0.vFields.length c0_6] 34 (0,0))] w') (fun us w'=>∃(s1:Int),xx1= .inr s1∧Fit us (fun uo1=>[(uo1 0),vI s1,(uo1 2),(uo1 3),(uo1 4),(uo1 5),(uo1 6),(uo1 7),(uo1 8),(uo1 9),(uo1 10),(uo1 11),(uo1 12),(uo1 13),(uo1 14),(uo1 15),(uo1 16),(uo1 17),(uo1 18),(uo1 19),(uo1 20),(uo1 21),(uo1 22),(uo1 23),(uo1 24),(uo1 25),(uo1 26),(uo1 27),(uo1 28),(uo1 29),(uo1 30),(uo1 31),(uo1 32),(uo1 33),(uo1 34)])∧St [] h0 w0 h0 [(some b1, .cells #[vI a0.vKind,vS a0.vName,vI a0.vInt.vSize,vB a0.vInt.vSigned,vI a0.vRef,vI a0.vN,vL A0_6 a0.vFields.length c0_6] 34 (0,0))] w') k ⟨0,0,(fit rfl),H,HS1⟩ ?_ ?_
 ·rintro m us w2 ⟨y1_0,y1_1,huy1,H,HS2⟩
  obtain ⟨uy1,rfl⟩:=unj huy1
  cases m with
  |zero=>exact absurd H (by simp [taplineref08_placed.l0])
  |succ m=>
   rw [taplineref08_placed.l0] at H
   try simp only [patch,sc0,sc1]
   refine wp_seq<|wp_seq<|region<|rs (vI y1_1) (r_move rfl)<|rs (vP b1 6) (r_fieldBox (n:=1) (o':=6) rfl Tryd.runUnderlying34 rfl Tryd.sizeOf32 (by decide) rfl)<|rs (vL A0_6 a0.vFields.length c0_6) (r_loadBox rfl Tryd.isAgg32 (HS2.look 0 rfl) rfl)<|rs (vI (a0.vFields.length:Int)) (r_len rfl Tryd.runUnderlying32)<|run_frame (by simp only [sc0,sc1];rfl) ?_
   refine rs (vB (decide (y1_1<(a0.vFields.length:Int)))) (r_bin rfl rfl rfl) ?_
   try simp only [sc0,sc1]
   refine run_nil<|norm_then<|wp_cond_split (t:=(decide (y1_1<(a0.vFields.length:Int)))) rfl (fun c1=>?_) (fun c1=>?_)
   ·replace H:=of_pos H c1
    refine wp_skip<|norm_then<|wp_seq<|wp_block<|wp_seq<|region<|rs (vP b1 6) (r_fieldBox (n:=1) (o':=6) rfl Tryd.runUnderlying34 rfl Tryd.sizeOf32 (by decide) rfl)<|rs (vL A0_6 a0.vFields.length c0_6) (r_loadBox rfl Tryd.isAgg32 (HS2.look 0 rfl) rfl)<|rs (vI y1_1) (r_move rfl) ?_
    obtain ⟨hi1,H⟩:=of_ite H
    obtain ⟨ad1,e1,hel1⟩:=ld_api_Field hr0_6 hi1.1 hi1.2
    refine rs (Value.pointer (some (Addr.add ad1 (y1_1.toNat*3)))) (r_indexA (sz:=3) rfl e1 rfl hi1.1 hi1.2 Tryd.runUnderlying32 Tryd.sizeOf36)<|run_frame (by simp only [sc0,sc1];rfl) ?_
    refine rs (Value.agg #[vS ((rd z_api_Field a0.vFields y1_1).vName),vI ((rd z_api_Field a0.vFields y1_1).vType),vI ((rd z_api_Field a0.vFields y1_1).vAt)]) (r_loadAgg rfl Tryd.isAgg36 (hel1.sees HS2.sees) Tryd.sizeOf36)<|run_ex rfl rfl (does_alloc (cs:=#[vS ByteArray.empty,vI 0,vI 0]) Tryd.zeroValue36 rfl) ?_
    rintro w3 _ hE2 ⟨b2,rfl,ge2,hb2⟩
    have HS3:=HS2.new hE2 ge2 hb2
    refine run_st (i:=0) (cs:=[vS ByteArray.empty,vI 0,vI 0]) (cs':=[vS ((rd z_api_Field a0.vFields y1_1).vName),vI ((rd z_api_Field a0.vFields y1_1).vType),vI ((rd z_api_Field a0.vFields y1_1).vAt)]) (vs:=[vS ((rd z_api_Field a0.vFields y1_1).vName),vI ((rd z_api_Field a0.vFields y1_1).vType),vI ((rd z_api_Field a0.vFields y1_1).vAt)]) (bs':=[(some b2, .cells #[vS ((rd z_api_Field a0.vFields y1_1).vName),vI ((rd z_api_Field a0.vFields y1_1).vType),vI ((rd z_api_Field a0.vFields y1_1).vAt)] 36 (0,0)),(some b1, .cells #[vI a0.vKind,vS a0.vName,vI a0.vInt.vSize,vB a0.vInt.vSigned,vI a0.vRef,vI a0.vN,vL A0_6 a0.vFields.length c0_6] 34 (0,0))]) rfl rfl Tryd.sizeOf36 rfl rfl (by decide) rfl HS3 rfl (Nat.le_of_ble_eq_true rfl) rfl rfl ?_
    intro w4 HS4
    try simp only [sc0,sc1]
    refine run_nil<|norm_then<|wp_seq<|wp_seq<|region<|rs (vP b2 2) (r_fieldBox (n:=1) (o':=2) rfl Tryd.runUnderlying36 rfl Tryd.sizeOf3 (by decide) rfl)<|rs (vI ((rd z_api_Field a0.vFields y1_1).vAt)) (r_loadBox rfl Tryd.isAgg3 (HS4.look 0 rfl) rfl)<|rs (vI y1_0) (r_move rfl)<|rs (vB (decide ((rd z_api_Field a0.vFields y1_1).vAt<y1_0))) (r_bin rfl rfl rfl)<|run_frame (by simp only [sc0,sc1];rfl) ?_
    refine rs (vB (decide ((rd z_api_Field a0.vFields y1_1).vAt<y1_0))) (r_move rfl)<|rgs (decide ((rd z_api_Field a0.vFields y1_1).vAt<y1_0)) true (vP b2 2) rfl rfl rfl rfl (fun hg=>(r_fieldBox (n:=1) (o':=2) rfl Tryd.runUnderlying36 rfl Tryd.sizeOf3 (by decide) rfl))<|rgs (decide ((rd z_api_Field a0.vFields y1_1).vAt<y1_0)) true (vI ((rd z_api_Field a0.vFields y1_1).vAt)) rfl rfl rfl rfl (fun hg=>(r_loadBox (gvt (vP b2 2) hg rfl) Tryd.isAgg3 (HS4.look 0 rfl) rfl))<|rgs (decide ((rd z_api_Field a0.vFields y1_1).vAt<y1_0)) true (vP b1 5) rfl rfl rfl rfl (fun hg=>(r_fieldBox (n:=1) (o':=5) rfl Tryd.runUnderlying34 rfl Tryd.sizeOf3 (by decide) rfl))<|run_frame (by simp only [sc0,sc1];rfl) ?_
    refine rgs (decide ((rd z_api_Field a0.vFields y1_1).vAt<y1_0)) true (vI a0.vN) rfl rfl rfl rfl (fun hg=>(r_loadBox (gvt (vP b1 5) hg rfl) Tryd.isAgg3 (HS4.look 1 rfl) rfl))<|rgs (decide ((rd z_api_Field a0.vFields y1_1).vAt<y1_0)) true (vB (decide ((rd z_api_Field a0.vFields y1_1).vAt>a0.vN))) rfl rfl rfl rfl (fun hg=>(r_bin (gvt (vI ((rd z_api_Field a0.vFields y1_1).vAt)) hg rfl) (gvt (vI a0.vN) hg rfl) rfl))<|rs (vB ((decide ((rd z_api_Field a0.vFields y1_1).vAt<y1_0))||(decide ((rd z_api_Field a0.vFields y1_1).vAt>a0.vN)))) (r_pick_or rfl rfl (fun hp=>(gvt (vB (decide ((rd z_api_Field a0.vFields y1_1).vAt>a0.vN))) (and_i rfl hp) rfl))) ?_
    try simp only [sc0,sc1]
    refine run_nil<|norm_then<|wp_cond_split (t:=((decide ((rd z_api_Field a0.vFields y1_1).vAt<y1_0))||(decide ((rd z_api_Field a0.vFields y1_1).vAt>a0.vN)))) rfl (fun c2=>?_) (fun c2=>?_)
    ·replace H:=of_pos H c2
     refine wp_seq<|region<|rs (vB false) (r_assign rfl) ?_
     try simp only [sc0,sc1]
     refine run_nil<|norm_then<|wp_ret<|ret_then<|ret_block<|ret_then<|ret_loop<|ret_then ?_
     obtain rfl:=Option.some.inj H
     obtain rfl:=Option.some.inj G1
     exact bodyPost_ret (results_1 rfl (one_tmp rfl)) rfl<|⟨rfl,HS4.toE⟩
    ·replace H:=of_neg H (nt c2)
     refine wp_skip<|norm_then ?_
     obtain ⟨hi2,H⟩:=of_ite H
     obtain ⟨ad2,e2,hel2⟩:=ld_int hr1_0 hi2.1 hi2.2
     refine drawn [.eq (vP b2 2), .eq (vI ((rd z_api_Field a0.vFields y1_1).vAt)), .eq (vL A1_0 a1.length c1_0), .eq (vP b2 1), .eq (vI ((rd z_api_Field a0.vFields y1_1).vType)), .eq (Value.pointer (some (Addr.add ad2 (((rd z_api_Field a0.vFields y1_1).vType).toNat*1)))), .eq (vI (rd 0 a1 ((rd z_api_Field a0.vFields y1_1).vType))), .eq (vI (w64 ((rd z_api_Field a0.vFields y1_1).vAt+(rd 0 a1 ((rd z_api_Field a0.vFields y1_1).vType)))))] [31,32,33,34,35,36,37,38] hmix (by kernel_rfl) rfl (stable_eq (stable_eq (stable_eq (stable_eq (stable_eq (stable_eq (stable_eq (stable_eq stable_nil)))))))) ⟨ob_plain rfl (fun a' w' hE hk=>by have HSd:=HS4.step hE;exact does_eq (r_fieldBox (n:=1) (o':=2) (show _=vP b2 0 from hk 7 rfl) Tryd.runUnderlying36 rfl Tryd.sizeOf3 (by decide) rfl)),ob_plain rfl (fun a' w' hE hk=>by have HSd:=HS4.step hE;exact does_eq (r_loadBox (show _=vP b2 2 from hk 31 rfl) Tryd.isAgg3 (HSd.look 0 rfl) rfl)),ob_plain rfl (fun a' w' hE hk=>by have HSd:=HS4.step hE;exact does_eq (r_move (show _=vL A1_0 a1.length c1_0 from hk 1 rfl))),ob_plain rfl (fun a' w' hE hk=>by have HSd:=HS4.step hE;exact does_eq (r_fieldBox (n:=1) (o':=1) (show _=vP b2 0 from hk 7 rfl) Tryd.runUnderlying36 rfl Tryd.sizeOf3 (by decide) rfl)),ob_plain rfl (fun a' w' hE hk=>by have HSd:=HS4.step hE;exact does_eq (r_loadBox (show _=vP b2 1 from hk 34 rfl) Tryd.isAgg3 (HSd.look 0 rfl) rfl)),ob_plain rfl (fun a' w' hE hk=>by have HSd:=HS4.step hE;exact does_eq (r_indexA (sz:=1) (show _=vL A1_0 a1.length c1_0 from hk 33 rfl) e2 (show _=vI ((rd z_api_Field a0.vFields y1_1).vType) from hk 35 rfl) hi2.1 hi2.2 Tryd.runUnderlying62 Tryd.sizeOf3)),ob_plain rfl (fun a' w' hE hk=>by have HSd:=HS4.step hE;exact does_eq (r_load (show _=Value.pointer (some (Addr.add ad2 (((rd z_api_Field a0.vFields y1_1).vType).toNat*1))) from hk 36 rfl) Tryd.isAgg3 (hel2.cell0 HSd.sees rfl))),ob_plain rfl (fun a' w' hE hk=>by have HSd:=HS4.step hE;exact does_eq (r_bin (show _=vI ((rd z_api_Field a0.vFields y1_1).vAt) from hk 32 rfl) (show _=vI (rd 0 a1 ((rd z_api_Field a0.vFields y1_1).vType)) from hk 37 rfl) rfl)),trivial⟩ ?_
     intro w5 hE3
     simp only [List.zip_cons_cons,List.zip_nil_left,List.zip_nil_right,finL,sc0,sc1,List.length_cons,List.length_nil,List.drop_succ_cons,List.drop_zero,Nat.zero_add,Nat.reduceAdd]
     have HS5:=HS4.step hE3
     refine rs (vI (w64 ((rd z_api_Field a0.vFields y1_1).vAt+(rd 0 a1 ((rd z_api_Field a0.vFields y1_1).vType))))) (r_assign rfl) ?_
     try simp only [sc0,sc1]
     refine run_nil<|norm_block<|norm_then<|region<|rs (vI y1_1) (r_move rfl)<|rs (vI (w64 (y1_1+1))) (r_bin rfl rfl rfl)<|rs (vI (w64 (y1_1+1))) (r_assign rfl) ?_
     try simp only [sc0,sc1]
     refine run_nil<|again_j m (Nat.lt_succ_self m) rfl ⟨(w64 ((rd z_api_Field a0.vFields y1_1).vAt+(rd 0 a1 ((rd z_api_Field a0.vFields y1_1).vType)))),(w64 (y1_1+1)),(fit rfl),H,HS5.tail⟩
   ·replace H:=of_neg H (nt c1)
    refine wp_exit<|exit_then ?_
    obtain rfl:=Option.some.inj H
    refine leave_j rfl ⟨_,rfl,(fit rfl),HS2⟩
 ·rintro us w6 ⟨s1,rfl,huo1,HS6⟩
  obtain ⟨uo1,rfl⟩:=unj huo1
  replace H:=G1
  clear G1
  try simp only [patch,sc0,sc1]
  refine norm_then<|wp_seq<|region<|rs (vI s1) (r_move rfl)<|rs (vP b1 5) (r_fieldBox (n:=1) (o':=5) rfl Tryd.runUnderlying34 rfl Tryd.sizeOf3 (by decide) rfl)<|rs (vI a0.vN) (r_loadBox rfl Tryd.isAgg3 (HS6.look 0 rfl) rfl)<|rs (vB (decide (s1≤a0.vN))) (r_bin rfl rfl rfl)<|run_frame (by simp only [sc0,sc1];rfl) ?_
  refine rs (vB (decide (s1≤a0.vN))) (r_assign rfl) ?_
  try simp only [sc0,sc1]
  refine run_nil<|norm_then<|wp_ret ?_
  obtain rfl:=Option.some.inj H
  exact bodyPost_ret (results_1 rfl (one_tmp rfl)) rfl<|⟨rfl,HS6.toE⟩
def taplineref08_Check.l1 (a0:api_Types) (y1_0:Int):Nat→Int→Option ((Int)⊕(Unit))
 |0,_=>none
 |m+1,y2_0=>if (decide (y2_0<y1_0))=true then (if 0≤y1_0∧y1_0<a0.vDefs.length then ((taplineref08_Named.f (rd z_api_Def a0.vDefs y1_0)).bind fun v2=>(if (true&&(v2==true))=true→(0≤y2_0∧y2_0<a0.vDefs.length) then (if (true&&(v2==true))=true→(0≤y1_0∧y1_0<a0.vDefs.length) then (if (v2&&(strEq ((rd z_api_Def a0.vDefs y2_0).vName) ((rd z_api_Def a0.vDefs y1_0).vName)))=true then (some (.inl 80)) else (taplineref08_Check.l1 a0 y1_0 m (IntKind.wrap .i64 (y2_0+1)))) else none) else none)) else none) else (some (.inr ()))
def taplineref08_Check.l0 (k:Nat) (a0:api_Types):Nat→Int→Option ((Int)⊕(Unit))
 |0,_=>none
 |m+1,y1_0=>if (decide (y1_0<(a0.vDefs.length:Int)))=true then (if 0≤y1_0∧y1_0<a0.vDefs.length then ((taplineref08_shaped.f k a0 (rd z_api_Def a0.vDefs y1_0)).bind fun v1=>(if (!v1)=true then (some (.inl 80)) else ((taplineref08_Check.l1 a0 y1_0 k 0).bind fun xx2=>(match xx2 with| .inl r=>some (.inl r)| .inr s1=>taplineref08_Check.l0 k a0 m (IntKind.wrap .i64 (y1_0+1)))))) else none) else (some (.inr ()))
def taplineref08_Check.l2 (k:Nat) (a0:api_Types) (v3:(List Int)):Nat→Int→Option ((Int)⊕(Unit))
 |0,_=>none
 |m+1,y3_0=>if (decide (y3_0<(a0.vDefs.length:Int)))=true then (if 0≤y3_0∧y3_0<v3.length then (if (true&&(((rd 0 v3 y3_0)==0)==false))=true→(0≤y3_0∧y3_0<v3.length) then ((if (true&&((((rd 0 v3 y3_0)==0)||(decide ((rd 0 v3 y3_0)>512)))==false))=true then taplineref08_ends.f k a0 y3_0 else some false).bind fun v4=>(if ((((rd 0 v3 y3_0)==0)||(decide ((rd 0 v3 y3_0)>512)))||(!v4))=true then (some (.inl 80)) else (if 0≤y3_0∧y3_0<a0.vDefs.length then (if (true&&(((rd z_api_Def a0.vDefs y3_0).vKind==4)==true))=true→(0≤y3_0∧y3_0<a0.vDefs.length) then ((if (true&&(((rd z_api_Def a0.vDefs y3_0).vKind==4)==true))=true then taplineref08_placed.f k (rd z_api_Def a0.vDefs y3_0) v3 else some false).bind fun v5=>(if (((rd z_api_Def a0.vDefs y3_0).vKind==4)&&(!v5))=true then (some (.inl 80)) else (taplineref08_Check.l2 k a0 v3 m (IntKind.wrap .i64 (y3_0+1))))) else none) else none))) else none) else none) else (some (.inr ()))
def taplineref08_Check.f (k:Nat) (a0:api_Types):Option (Int):=if (decide ((a0.vDefs.length:Int)>200))=true then (some 80) else ((taplineref08_Check.l0 k a0 k 0).bind fun xx1=>(match xx1 with| .inl r=>some r| .inr s2=>(taplineref08_sizes.f k a0).bind fun v3=>((taplineref08_Check.l2 k a0 v3 k 0).bind fun xx3=>(match xx3 with| .inl r=>some r| .inr s3=>some 0))))
theorem taplineref08_Check.calls (k:Nat) (a0:api_Types) (A0_0:Option Addr) (c0_0:Nat) {h0:View} {w0:World} (hv:Sees h0 w0) (hr0_0:Rd k_api_Def h0 A0_0 a0.vDefs) (hc0_0:a0.vDefs.length≤c0_0) {r:Int} (H:taplineref08_Check.f k a0=some r):Calls Tryd.prog 19 #[Value.agg #[vL A0_0 a0.vDefs.length c0_0]] w0 (fun e w1=>e= .returned (vI r)∧Ext w0 w1):=by
 unfold taplineref08_Check.f at H
 have HS:St [] h0 w0 h0 [] w0:=St.init hv
 go_enter Tryd.func19,Tryd.ntmps19
 refine wp_seq<|region<|run_ex rfl rfl (does_box (cs:=#[vL A0_0 a0.vDefs.length c0_0]) rfl rfl) ?_
 rintro w1 _ hE1 ⟨b1,rfl,ge1,hb1⟩
 have HS1:=HS.new hE1 ge1 hb1
 refine rs (vI 0) (r_assign rfl) ?_
 try simp only [sc0,sc1]
 refine run_nil<|norm_then<|wp_seq<|wp_seq<|region<|rs (vP b1 0) (r_fieldBox (n:=1) (o':=0) rfl Tryd.runUnderlying24 rfl Tryd.sizeOf22 (by decide) rfl)<|rs (vL A0_0 a0.vDefs.length c0_0) (r_loadBox rfl Tryd.isAgg22 (HS1.look 0 rfl) rfl)<|rs (vI (a0.vDefs.length:Int)) (r_len rfl Tryd.runUnderlying22)<|rs (vB (decide ((a0.vDefs.length:Int)>200))) (r_bin rfl rfl rfl) ?_
 try simp only [sc0,sc1]
 refine run_nil<|norm_then<|wp_cond_split (t:=(decide ((a0.vDefs.length:Int)>200))) rfl (fun c1=>?_) (fun c1=>?_)
 ·replace H:=of_pos H c1
  refine wp_seq<|region<|rs (vI 80) (r_assign rfl) ?_
  try simp only [sc0,sc1]
  refine run_nil<|norm_then<|wp_ret<|ret_then ?_
  obtain rfl:=Option.some.inj H
  exact bodyPost_ret (results_1 rfl (one_tmp rfl)) rfl<|⟨rfl,HS1.toE⟩
 ·replace H:=of_neg H (nt c1)
  refine wp_skip<|norm_then<|wp_seq<|wp_seq<|region<|rs (vI 0) (r_assign rfl) ?_
  try simp only [sc0,sc1]
  refine run_nil<|norm_then ?_
  obtain ⟨xx1,H,G1⟩:=of_bind H
  refine loop_j [2,3,4,11,12,13,14,15,16,17,18,19,20,21,22,23,24,25,26,27,28,29,30,31,32,33,34,35,36,37,38,39,40,41,42,43,44,45,46,47,48,49,50,51] (fun m us w'=>∃(y1_0:Int),Fit us (fun uy1=>[(uy1 0),vI y1_0,(uy1 2),(uy1 3),(uy1 4),(uy1 5),(uy1 6),(uy1 7),(uy1 8),(uy1 9),(uy1 10),(uy1 11),(uy1 12),(uy1 13),(uy1 14),(uy1 15),(uy1 16),(uy1 17),(uy1 18),(uy1 19),(uy1 20),(uy1 21),(uy1 22),(uy1 23),(uy1 24),(uy1 25),(uy1 26),(uy1 27),(uy1 28),(uy1 29),(uy1 30),(uy1 31),(uy1 32),(uy1 33),(uy1 34),(uy1 35),(uy1 36),(uy1 37),(uy1 38),(uy1 39),(uy1 40),(uy1 41),(uy1 42),(uy1 43)])∧taplineref08_Check.l0 k a0 m y1_0=some xx1∧St [] h0 w0 h0 [(some b1, .cells #[vL A0_0 a0.vDefs.length c0_0] 24 (0,0))] w') (fun us w'=>∃(s2:Unit),xx1= .inr s2∧Fit us (fun uo2=>[(uo2 0),(uo2 1),(uo2 2),(uo2 3),(uo2 4),(uo2 5),(uo2 6),(uo2 7),(uo2 8),(uo2 9),(uo2 10),(uo2 11),(uo2 12),(uo2 13),(uo2 14),(uo2 15),(uo2 16),(uo2 17),(uo2 18),(uo2 19),(uo2 20),(uo2 21),(uo2 22),(uo2 23),(uo2 24),(uo2 25),(uo2 26),(uo2 27),(uo2 28),(uo2 29),(uo2 30),(uo2 31),(uo2 32),(uo2 33),(uo2 34),(uo2 35),(uo2 36),(uo2 37),(uo2 38),(uo2 39),(uo2 40),(uo2 41),(uo2 42),(uo2 43)])∧St [] h0 w0 h0 [(some b1, .cells #[vL A0_0 a0.vDefs.length c0_0] 24 (0,0))] w') k ⟨0,(fit rfl),H,HS1⟩ ?_ ?_
  ·rintro m us w2 ⟨y1_0,huy1,H,HS2⟩
   obtain ⟨uy1,rfl⟩:=unj huy1
   cases m with
   |zero=>exact absurd H (by simp [taplineref08_Check.l0])
   |succ m=>
    rw [taplineref08_Check.l0] at H
    try simp only [patch,sc0,sc1]
    refine wp_seq<|wp_seq<|region<|rs (vI y1_0) (r_move rfl)<|rs (vP b1 0) (r_fieldBox (n:=1) (o':=0) rfl Tryd.runUnderlying24 rfl Tryd.sizeOf22 (by decide) rfl)<|rs (vL A0_0 a0.vDefs.length c0_0) (r_loadBox rfl Tryd.isAgg22 (HS2.look 0 rfl) rfl)<|rs (vI (a0.vDefs.length:Int)) (r_len rfl Tryd.runUnderlying22)<|run_frame (by simp only [sc0,sc1];rfl) ?_
    refine rs (vB (decide (y1_0<(a0.vDefs.length:Int)))) (r_bin rfl rfl rfl) ?_
    try simp only [sc0,sc1]
    refine run_nil<|norm_then<|wp_cond_split (t:=(decide (y1_0<(a0.vDefs.length:Int)))) rfl (fun c2=>?_) (fun c2=>?_)
    ·replace H:=of_pos H c2
     refine wp_skip<|norm_then<|wp_seq<|wp_block<|wp_seq<|wp_seq ?_
     obtain ⟨hi1,H⟩:=of_ite H
     obtain ⟨ad1,Aad1_6,cad1_6,e1,hel1,hcad1_6,hrad1_6⟩:=ld_api_Def hr0_0 hi1.1 hi1.2
     obtain ⟨v1,H1,H⟩:=of_bind H
     refine drawn [.eq (Value.agg #[vL A0_0 a0.vDefs.length c0_0]), .eq (vP b1 0), .eq (vL A0_0 a0.vDefs.length c0_0), .eq (vI y1_0), .eq (Value.pointer (some (Addr.add ad1 (y1_0.toNat*7)))), .eq (Value.agg #[vI ((rd z_api_Def a0.vDefs y1_0).vKind),vS ((rd z_api_Def a0.vDefs y1_0).vName),vI ((rd z_api_Def a0.vDefs y1_0).vInt.vSize),vB ((rd z_api_Def a0.vDefs y1_0).vInt.vSigned),vI ((rd z_api_Def a0.vDefs y1_0).vRef),vI ((rd z_api_Def a0.vDefs y1_0).vN),vL Aad1_6 ((rd z_api_Def a0.vDefs y1_0).vFields).length cad1_6]), .eq (vB v1), .eq (vB (!v1))] [18,19,20,21,22,23,24,25] hmix (by kernel_rfl) rfl (stable_eq (stable_eq (stable_eq (stable_eq (stable_eq (stable_eq (stable_eq (stable_eq stable_nil)))))))) ⟨ob_plain rfl (fun a' w' hE hk=>by have HSd:=HS2.step hE;exact does_eq (r_loadBoxAgg (n:=1) (vs:=[vL A0_0 a0.vDefs.length c0_0]) (show _=vP b1 0 from hk 1 rfl) Tryd.isAgg24 (HSd.look 0 rfl) Tryd.sizeOf24 rfl rfl)),ob_plain rfl (fun a' w' hE hk=>by have HSd:=HS2.step hE;exact does_eq (r_fieldBox (n:=1) (o':=0) (show _=vP b1 0 from hk 1 rfl) Tryd.runUnderlying24 rfl Tryd.sizeOf22 (by decide) rfl)),ob_plain rfl (fun a' w' hE hk=>by have HSd:=HS2.step hE;exact does_eq (r_loadBox (show _=vP b1 0 from hk 19 rfl) Tryd.isAgg22 (HSd.look 0 rfl) rfl)),ob_plain rfl (fun a' w' hE hk=>by have HSd:=HS2.step hE;exact does_eq (r_move (show _=vI y1_0 from hk 3 rfl))),ob_plain rfl (fun a' w' hE hk=>by have HSd:=HS2.step hE;exact does_eq (r_indexA (sz:=7) (show _=vL A0_0 a0.vDefs.length c0_0 from hk 20 rfl) e1 (show _=vI y1_0 from hk 21 rfl) hi1.1 hi1.2 Tryd.runUnderlying22 Tryd.sizeOf34)),ob_plain rfl (fun a' w' hE hk=>by have HSd:=HS2.step hE;exact does_eq (r_loadAgg (show _=Value.pointer (some (Addr.add ad1 (y1_0.toNat*7))) from hk 22 rfl) Tryd.isAgg34 (hel1.sees HSd.sees) Tryd.sizeOf34)),ob_plain rfl (fun a' w' hE hk=>by have HSd:=HS2.step hE;exact (does_call_eq Tryd.call48 rfl (map2 (show _=Value.agg #[vL A0_0 a0.vDefs.length c0_0] from hk 18 rfl) (show _=Value.agg #[vI ((rd z_api_Def a0.vDefs y1_0).vKind),vS ((rd z_api_Def a0.vDefs y1_0).vName),vI ((rd z_api_Def a0.vDefs y1_0).vInt.vSize),vB ((rd z_api_Def a0.vDefs y1_0).vInt.vSigned),vI ((rd z_api_Def a0.vDefs y1_0).vRef),vI ((rd z_api_Def a0.vDefs y1_0).vN),vL Aad1_6 ((rd z_api_Def a0.vDefs y1_0).vFields).length cad1_6] from hk 23 rfl)) (taplineref08_shaped.calls k a0 (rd z_api_Def a0.vDefs y1_0) A0_0 c0_0 Aad1_6 cad1_6 HSd.sees hr0_0 hc0_0 hrad1_6 hcad1_6 H1))),ob_plain rfl (fun a' w' hE hk=>by have HSd:=HS2.step hE;exact does_eq (r_not (show _=vB v1 from hk 24 rfl))),trivial⟩ ?_
     intro w3 hE2
     simp only [List.zip_cons_cons,List.zip_nil_left,List.zip_nil_right,finL,sc0,sc1,List.length_cons,List.length_nil,List.drop_succ_cons,List.drop_zero,Nat.zero_add,Nat.reduceAdd]
     have HS3:=HS2.step hE2
     refine run_nil<|norm_then<|wp_cond_split (t:=(!v1)) rfl (fun c3=>?_) (fun c3=>?_)
     ·replace H:=of_pos H c3
      refine wp_seq<|region<|rs (vI 80) (r_assign rfl) ?_
      try simp only [sc0,sc1]
      refine run_nil<|norm_then<|wp_ret<|ret_then<|ret_block<|ret_then<|ret_loop<|ret_then ?_
      obtain rfl:=Option.some.inj H
      obtain rfl:=Option.some.inj G1
      exact bodyPost_ret (results_1 rfl (one_tmp rfl)) rfl<|⟨rfl,HS3.toE⟩
     ·replace H:=of_neg H (nt c3)
      refine wp_skip<|norm_then<|wp_seq<|region<|rs (vI 0) (r_assign rfl) ?_
      try simp only [sc0,sc1]
      refine run_nil<|norm_then ?_
      obtain ⟨xx2,H,G2⟩:=of_bind H
      refine loop_j [2,4,26,27,28,29,30,31,32,33,34,35,36,37,38,39,40,41,42,43,44,45,46,47,48,49,50,51] (fun m us w'=>∃(y2_0:Int),Fit us (fun uy2=>[(uy2 0),vI y2_0,(uy2 2),(uy2 3),(uy2 4),(uy2 5),(uy2 6),(uy2 7),(uy2 8),(uy2 9),(uy2 10),(uy2 11),(uy2 12),(uy2 13),(uy2 14),(uy2 15),(uy2 16),(uy2 17),(uy2 18),(uy2 19),(uy2 20),(uy2 21),(uy2 22),(uy2 23),(uy2 24),(uy2 25),(uy2 26),(uy2 27)])∧taplineref08_Check.l1 a0 y1_0 m y2_0=some xx2∧St [] h0 w0 h0 [(some b1, .cells #[vL A0_0 a0.vDefs.length c0_0] 24 (0,0))] w') (fun us w'=>∃(s1:Unit),xx2= .inr s1∧Fit us (fun uo1=>[(uo1 0),(uo1 1),(uo1 2),(uo1 3),(uo1 4),(uo1 5),(uo1 6),(uo1 7),(uo1 8),(uo1 9),(uo1 10),(uo1 11),(uo1 12),(uo1 13),(uo1 14),(uo1 15),(uo1 16),(uo1 17),(uo1 18),(uo1 19),(uo1 20),(uo1 21),(uo1 22),(uo1 23),(uo1 24),(uo1 25),(uo1 26),(uo1 27)])∧St [] h0 w0 h0 [(some b1, .cells #[vL A0_0 a0.vDefs.length c0_0] 24 (0,0))] w') k ⟨0,(fit rfl),H,HS3⟩ ?_ ?_
      ·rintro m us w4 ⟨y2_0,huy2,H,HS4⟩
       obtain ⟨uy2,rfl⟩:=unj huy2
       cases m with
       |zero=>exact absurd H (by simp [taplineref08_Check.l1])
       |succ m=>
        rw [taplineref08_Check.l1] at H
        try simp only [patch,sc0,sc1]
        refine wp_seq<|wp_seq<|region<|rs (vI y2_0) (r_move rfl)<|rs (vI y1_0) (r_move rfl)<|rs (vB (decide (y2_0<y1_0))) (r_bin rfl rfl rfl) ?_
        try simp only [sc0,sc1]
        refine run_nil<|norm_then<|wp_cond_split (t:=(decide (y2_0<y1_0))) rfl (fun c4=>?_) (fun c4=>?_)
        ·replace H:=of_pos H c4
         refine wp_skip<|norm_then<|wp_seq<|wp_block<|wp_seq ?_
         obtain ⟨hi2,H⟩:=of_ite H
         obtain ⟨ad2,Aad2_6,cad2_6,e2,hel2,hcad2_6,hrad2_6⟩:=ld_api_Def hr0_0 hi2.1 hi2.2
         obtain ⟨v2,H2,H⟩:=of_bind H
         obtain ⟨hi3,H⟩:=of_ite H
         obtain ⟨ad3,Aad3_6,cad3_6,hq1⟩:=gx3 (fun hC:(true&&(v2==true))=true=>ld_api_Def hr0_0 (hi3 hC).1 (hi3 hC).2)
         obtain ⟨hi4,H⟩:=of_ite H
         obtain ⟨ad4,Aad4_6,cad4_6,hq2⟩:=gx3 (fun hC:(true&&(v2==true))=true=>ld_api_Def hr0_0 (hi4 hC).1 (hi4 hC).2)
         refine drawn [.eq (vP b1 0), .eq (vL A0_0 a0.vDefs.length c0_0), .eq (vI y1_0), .eq (Value.pointer (some (Addr.add ad2 (y1_0.toNat*7)))), .eq (Value.agg #[vI ((rd z_api_Def a0.vDefs y1_0).vKind),vS ((rd z_api_Def a0.vDefs y1_0).vName),vI ((rd z_api_Def a0.vDefs y1_0).vInt.vSize),vB ((rd z_api_Def a0.vDefs y1_0).vInt.vSigned),vI ((rd z_api_Def a0.vDefs y1_0).vRef),vI ((rd z_api_Def a0.vDefs y1_0).vN),vL Aad2_6 ((rd z_api_Def a0.vDefs y1_0).vFields).length cad2_6]), .eq (vB v2), .eq (vB v2), .eq (gv (true&&(v2==true)) (vP b1 0)), .eq (gv (true&&(v2==true)) (vL A0_0 a0.vDefs.length c0_0)), .eq (gv (true&&(v2==true)) (vI y2_0)), .eq (gv (true&&(v2==true)) (Value.pointer (some (Addr.add ad3 (y2_0.toNat*7))))), .eq (gv (true&&(v2==true)) (Value.pointer (some (Addr.add (Addr.add ad3 (y2_0.toNat*7)) 1)))), .eq (gv (true&&(v2==true)) (vS ((rd z_api_Def a0.vDefs y2_0).vName))), .eq (gv (true&&(v2==true)) (vP b1 0)), .eq (gv (true&&(v2==true)) (vL A0_0 a0.vDefs.length c0_0)), .eq (gv (true&&(v2==true)) (vI y1_0)), .eq (gv (true&&(v2==true)) (Value.pointer (some (Addr.add ad4 (y1_0.toNat*7))))), .eq (gv (true&&(v2==true)) (Value.pointer (some (Addr.add (Addr.add ad4 (y1_0.toNat*7)) 1)))), .eq (gv (true&&(v2==true)) (vS ((rd z_api_Def a0.vDefs y1_0).vName))), .eq (gv (true&&(v2==true)) (vB (strEq ((rd z_api_Def a0.vDefs y2_0).vName) ((rd z_api_Def a0.vDefs y1_0).vName)))), .eq (vB (v2&&(strEq ((rd z_api_Def a0.vDefs y2_0).vName) ((rd z_api_Def a0.vDefs y1_0).vName))))] [31,32,33,34,35,36,37,38,39,40,41,42,43,44,45,46,47,48,49,50,51] hmix (by kernel_rfl) rfl (stable_eq (stable_eq (stable_eq (stable_eq (stable_eq (stable_eq (stable_eq (stable_eq (stable_eq (stable_eq (stable_eq (stable_eq (stable_eq (stable_eq (stable_eq (stable_eq (stable_eq (stable_eq (stable_eq (stable_eq (stable_eq stable_nil))))))))))))))))))))) ⟨ob_plain rfl (fun a' w' hE hk=>by have HSd:=HS4.step hE;exact does_eq (r_fieldBox (n:=1) (o':=0) (show _=vP b1 0 from hk 1 rfl) Tryd.runUnderlying24 rfl Tryd.sizeOf22 (by decide) rfl)),ob_plain rfl (fun a' w' hE hk=>by have HSd:=HS4.step hE;exact does_eq (r_loadBox (show _=vP b1 0 from hk 31 rfl) Tryd.isAgg22 (HSd.look 0 rfl) rfl)),ob_plain rfl (fun a' w' hE hk=>by have HSd:=HS4.step hE;exact does_eq (r_move (show _=vI y1_0 from hk 3 rfl))),ob_plain rfl (fun a' w' hE hk=>by have HSd:=HS4.step hE;exact does_eq (r_indexA (sz:=7) (show _=vL A0_0 a0.vDefs.length c0_0 from hk 32 rfl) e2 (show _=vI y1_0 from hk 33 rfl) hi2.1 hi2.2 Tryd.runUnderlying22 Tryd.sizeOf34)),ob_plain rfl (fun a' w' hE hk=>by have HSd:=HS4.step hE;exact does_eq (r_loadAgg (show _=Value.pointer (some (Addr.add ad2 (y1_0.toNat*7))) from hk 34 rfl) Tryd.isAgg34 (hel2.sees HSd.sees) Tryd.sizeOf34)),ob_plain rfl (fun a' w' hE hk=>by have HSd:=HS4.step hE;exact (does_call_eq Tryd.call49 rfl (map1 (show _=Value.agg #[vI ((rd z_api_Def a0.vDefs y1_0).vKind),vS ((rd z_api_Def a0.vDefs y1_0).vName),vI ((rd z_api_Def a0.vDefs y1_0).vInt.vSize),vB ((rd z_api_Def a0.vDefs y1_0).vInt.vSigned),vI ((rd z_api_Def a0.vDefs y1_0).vRef),vI ((rd z_api_Def a0.vDefs y1_0).vN),vL Aad2_6 ((rd z_api_Def a0.vDefs y1_0).vFields).length cad2_6] from hk 35 rfl)) (taplineref08_Named.calls (rd z_api_Def a0.vDefs y1_0) Aad2_6 cad2_6 HSd.sees hrad2_6 hcad2_6 H2))),ob_plain rfl (fun a' w' hE hk=>by have HSd:=HS4.step hE;exact does_eq (r_move (show _=vB v2 from hk 36 rfl))),ob_guard (b:=v2) (c:=true) rfl rfl (by decide) (fun w' u hu=>hu) (fun a' w' hE hk hg=>by have HSd:=HS4.step hE;exact does_eq (r_fieldBox (n:=1) (o':=0) (show _=vP b1 0 from hk 1 rfl) Tryd.runUnderlying24 rfl Tryd.sizeOf22 (by decide) rfl)),ob_guard (b:=v2) (c:=true) rfl rfl (by decide) (fun w' u hu=>hu) (fun a' w' hE hk hg=>by have HSd:=HS4.step hE;exact does_eq (r_loadBox ((show _=gv (true&&(v2==true)) (vP b1 0) from (show _=gv (true&&(v2==true)) (vP b1 0) from hk 38 rfl)).trans (gv_t hg)) Tryd.isAgg22 (HSd.look 0 rfl) rfl)),ob_guard (b:=v2) (c:=true) rfl rfl (by decide) (fun w' u hu=>hu) (fun a' w' hE hk hg=>by have HSd:=HS4.step hE;exact does_eq (r_move (show _=vI y2_0 from hk 4 rfl))),ob_guard (b:=v2) (c:=true) rfl rfl (by decide) (fun w' u hu=>hu) (fun a' w' hE hk hg=>by have HSd:=HS4.step hE;exact does_eq (r_indexA (sz:=7) ((show _=gv (true&&(v2==true)) (vL A0_0 a0.vDefs.length c0_0) from (show _=gv (true&&(v2==true)) (vL A0_0 a0.vDefs.length c0_0) from hk 39 rfl)).trans (gv_t hg)) (hq1 hg).1 ((show _=gv (true&&(v2==true)) (vI y2_0) from (show _=gv (true&&(v2==true)) (vI y2_0) from hk 40 rfl)).trans (gv_t hg)) (hi3 hg).1 (hi3 hg).2 Tryd.runUnderlying22 Tryd.sizeOf34)),ob_guard (b:=v2) (c:=true) rfl rfl (by decide) (fun w' u hu=>hu) (fun a' w' hE hk hg=>by have HSd:=HS4.step hE;exact does_eq (r_fieldEl (n:=1) (o':=1) ((show _=gv (true&&(v2==true)) (Value.pointer (some (Addr.add ad3 (y2_0.toNat*7)))) from (show _=gv (true&&(v2==true)) (Value.pointer (some (Addr.add ad3 (y2_0.toNat*7)))) from hk 41 rfl)).trans (gv_t hg)) Tryd.runUnderlying34 rfl Tryd.sizeOf9 (by decide) rfl)),ob_guard (b:=v2) (c:=true) rfl rfl (by decide) (fun w' u hu=>hu) (fun a' w' hE hk hg=>by have HSd:=HS4.step hE;exact does_eq (r_load ((show _=gv (true&&(v2==true)) (Value.pointer (some (Addr.add (Addr.add ad3 (y2_0.toNat*7)) 1))) from (show _=gv (true&&(v2==true)) (Value.pointer (some (Addr.add (Addr.add ad3 (y2_0.toNat*7)) 1))) from hk 42 rfl)).trans (gv_t hg)) Tryd.isAgg9 (((hq1 hg).2.1).cell HSd.sees 1 rfl))),ob_guard (b:=v2) (c:=true) rfl rfl (by decide) (fun w' u hu=>hu) (fun a' w' hE hk hg=>by have HSd:=HS4.step hE;exact does_eq (r_fieldBox (n:=1) (o':=0) (show _=vP b1 0 from hk 1 rfl) Tryd.runUnderlying24 rfl Tryd.sizeOf22 (by decide) rfl)),ob_guard (b:=v2) (c:=true) rfl rfl (by decide) (fun w' u hu=>hu) (fun a' w' hE hk hg=>by have HSd:=HS4.step hE;exact does_eq (r_loadBox ((show _=gv (true&&(v2==true)) (vP b1 0) from (show _=gv (true&&(v2==true)) (vP b1 0) from hk 44 rfl)).trans (gv_t hg)) Tryd.isAgg22 (HSd.look 0 rfl) rfl)),ob_guard (b:=v2) (c:=true) rfl rfl (by decide) (fun w' u hu=>hu) (fun a' w' hE hk hg=>by have HSd:=HS4.step hE;exact does_eq (r_move (show _=vI y1_0 from hk 3 rfl))),ob_guard (b:=v2) (c:=true) rfl rfl (by decide) (fun w' u hu=>hu) (fun a' w' hE hk hg=>by have HSd:=HS4.step hE;exact does_eq (r_indexA (sz:=7) ((show _=gv (true&&(v2==true)) (vL A0_0 a0.vDefs.length c0_0) from (show _=gv (true&&(v2==true)) (vL A0_0 a0.vDefs.length c0_0) from hk 45 rfl)).trans (gv_t hg)) (hq2 hg).1 ((show _=gv (true&&(v2==true)) (vI y1_0) from (show _=gv (true&&(v2==true)) (vI y1_0) from hk 46 rfl)).trans (gv_t hg)) (hi4 hg).1 (hi4 hg).2 Tryd.runUnderlying22 Tryd.sizeOf34)),ob_guard (b:=v2) (c:=true) rfl rfl (by decide) (fun w' u hu=>hu) (fun a' w' hE hk hg=>by have HSd:=HS4.step hE;exact does_eq (r_fieldEl (n:=1) (o':=1) ((show _=gv (true&&(v2==true)) (Value.pointer (some (Addr.add ad4 (y1_0.toNat*7)))) from (show _=gv (true&&(v2==true)) (Value.pointer (some (Addr.add ad4 (y1_0.toNat*7)))) from hk 47 rfl)).trans (gv_t hg)) Tryd.runUnderlying34 rfl Tryd.sizeOf9 (by decide) rfl)),ob_guard (b:=v2) (c:=true) rfl rfl (by decide) (fun w' u hu=>hu) (fun a' w' hE hk hg=>by have HSd:=HS4.step hE;exact does_eq (r_load ((show _=gv (true&&(v2==true)) (Value.pointer (some (Addr.add (Addr.add ad4 (y1_0.toNat*7)) 1))) from (show _=gv (true&&(v2==true)) (Value.pointer (some (Addr.add (Addr.add ad4 (y1_0.toNat*7)) 1))) from hk 48 rfl)).trans (gv_t hg)) Tryd.isAgg9 (((hq2 hg).2.1).cell HSd.sees 1 rfl))),ob_guard (b:=v2) (c:=true) rfl rfl (by decide) (fun w' u hu=>hu) (fun a' w' hE hk hg=>by have HSd:=HS4.step hE;exact does_eq (r_streql ((show _=gv (true&&(v2==true)) (vS ((rd z_api_Def a0.vDefs y2_0).vName)) from (show _=gv (true&&(v2==true)) (vS ((rd z_api_Def a0.vDefs y2_0).vName)) from hk 43 rfl)).trans (gv_t hg)) ((show _=gv (true&&(v2==true)) (vS ((rd z_api_Def a0.vDefs y1_0).vName)) from (show _=gv (true&&(v2==true)) (vS ((rd z_api_Def a0.vDefs y1_0).vName)) from hk 49 rfl)).trans (gv_t hg)))),ob_plain rfl (fun a' w' hE hk=>by have HSd:=HS4.step hE;exact does_eq (r_pick_and (show _=vB v2 from hk 37 rfl) (fun hp=>((show _=gv (true&&(v2==true)) (vB (strEq ((rd z_api_Def a0.vDefs y2_0).vName) ((rd z_api_Def a0.vDefs y1_0).vName))) from (show _=gv (true&&(v2==true)) (vB (strEq ((rd z_api_Def a0.vDefs y2_0).vName) ((rd z_api_Def a0.vDefs y1_0).vName))) from hk 50 rfl)).trans (gv_t (and_i rfl hp)))) rfl)),trivial⟩ ?_
         intro w5 hE3
         simp only [List.zip_cons_cons,List.zip_nil_left,List.zip_nil_right,finL,sc0,sc1,List.length_cons,List.length_nil,List.drop_succ_cons,List.drop_zero,Nat.zero_add,Nat.reduceAdd]
         have HS5:=HS4.step hE3
         refine run_nil<|norm_then<|wp_cond_split (t:=(v2&&(strEq ((rd z_api_Def a0.vDefs y2_0).vName) ((rd z_api_Def a0.vDefs y1_0).vName)))) rfl (fun c5=>?_) (fun c5=>?_)
         ·replace H:=of_pos H c5
          refine wp_seq<|region<|rs (vI 80) (r_assign rfl) ?_
          try simp only [sc0,sc1]
          refine run_nil<|norm_then<|wp_ret<|ret_block<|ret_then<|ret_loop<|ret_block<|ret_then<|ret_loop<|ret_then ?_
          obtain rfl:=Option.some.inj H
          obtain rfl:=Option.some.inj G2
          obtain rfl:=Option.some.inj G1
          exact bodyPost_ret (results_1 rfl (one_tmp rfl)) rfl<|⟨rfl,HS5.toE⟩
         ·replace H:=of_neg H (nt c5)
          refine wp_skip<|norm_block<|norm_then<|region<|rs (vI y2_0) (r_move rfl)<|rs (vI (w64 (y2_0+1))) (r_bin rfl rfl rfl)<|rs (vI (w64 (y2_0+1))) (r_assign rfl) ?_
          try simp only [sc0,sc1]
          refine run_nil<|again_j m (Nat.lt_succ_self m) rfl ⟨(w64 (y2_0+1)),(fit rfl),H,HS5⟩
        ·replace H:=of_neg H (nt c4)
         refine wp_exit<|exit_then ?_
         obtain rfl:=Option.some.inj H
         refine leave_j rfl ⟨_,rfl,(fit rfl),HS4⟩
      ·rintro us w6 ⟨s1,rfl,huo1,HS6⟩
       obtain ⟨uo1,rfl⟩:=unj huo1
       replace H:=G2
       clear G2
       try simp only [patch,sc0,sc1]
       refine norm_block<|norm_then<|region<|rs (vI y1_0) (r_move rfl)<|rs (vI (w64 (y1_0+1))) (r_bin rfl rfl rfl)<|rs (vI (w64 (y1_0+1))) (r_assign rfl) ?_
       try simp only [sc0,sc1]
       refine run_nil<|again_j m (Nat.lt_succ_self m) rfl ⟨(w64 (y1_0+1)),(fit rfl),H,HS6⟩
    ·replace H:=of_neg H (nt c2)
     refine wp_exit<|exit_then ?_
     obtain rfl:=Option.some.inj H
     refine leave_j rfl ⟨_,rfl,(fit rfl),HS2⟩
  ·rintro us w7 ⟨s2,rfl,huo2,HS7⟩
   obtain ⟨uo2,rfl⟩:=unj huo2
   replace H:=G1
   clear G1
   try simp only [patch,sc0,sc1]
   refine norm_then<|wp_seq<|region<|rs (Value.agg #[vL A0_0 a0.vDefs.length c0_0]) (r_loadBoxAgg (n:=1) (vs:=[vL A0_0 a0.vDefs.length c0_0]) rfl Tryd.isAgg24 (HS7.look 0 rfl) Tryd.sizeOf24 rfl rfl) ?_
   obtain ⟨v3,H3,H⟩:=of_bind H
   refine run_ex rfl rfl (does_call Tryd.call50 rfl (gives_in (h:=h0) (R:=(fun hx u=>∃(Av3_0_0:Option Addr) (cv3_0_0:Nat),u=vL Av3_0_0 v3.length cv3_0_0∧v3.length≤cv3_0_0∧Rd (Kd.int .i64) hx Av3_0_0 v3)) (Ext.rfl' w7) ((taplineref08_sizes.calls k a0 A0_0 c0_0 HS7.sees hr0_0 hc0_0 H3).mono ?_)) rfl) ?_
   ·rintro _ _ ⟨h1,Av3_0_0,cv3_0_0,rfl,hcv3_0_0,hrv3_0_0,g,ss,x⟩
    exact ⟨h1,_,rfl,⟨Av3_0_0,cv3_0_0,rfl,hcv3_0_0,hrv3_0_0⟩,g,ss,x⟩
   rintro w8 _ hE4 ⟨h1,⟨Av3_0_0,cv3_0_0,rfl,hcv3_0_0,hrv3_0_0⟩,gr1,se1⟩
   have HS8:=HS7.view hE4 gr1 se1
   refine rs (vL Av3_0_0 v3.length cv3_0_0) (r_assign rfl) ?_
   try simp only [sc0,sc1]
   refine run_nil<|norm_then<|wp_seq<|wp_seq<|region<|rs (vI 0) (r_assign rfl) ?_
   try simp only [sc0,sc1]
   refine run_nil<|norm_then ?_
   obtain ⟨xx3,H,G3⟩:=of_bind H
   refine loop_j [2,6,54,55,56,57,58,59,60,61,62,63,64,65,66,67,68,69,70,71,72,73,74,75,76,77,78,79,80,81,82,83,84,85,86,87,88,89,90,91,92,93,94,95] (fun m us w'=>∃(y3_0:Int),Fit us (fun uy3=>[(uy3 0),vI y3_0,(uy3 2),(uy3 3),(uy3 4),(uy3 5),(uy3 6),(uy3 7),(uy3 8),(uy3 9),(uy3 10),(uy3 11),(uy3 12),(uy3 13),(uy3 14),(uy3 15),(uy3 16),(uy3 17),(uy3 18),(uy3 19),(uy3 20),(uy3 21),(uy3 22),(uy3 23),(uy3 24),(uy3 25),(uy3 26),(uy3 27),(uy3 28),(uy3 29),(uy3 30),(uy3 31),(uy3 32),(uy3 33),(uy3 34),(uy3 35),(uy3 36),(uy3 37),(uy3 38),(uy3 39),(uy3 40),(uy3 41),(uy3 42),(uy3 43)])∧taplineref08_Check.l2 k a0 v3 m y3_0=some xx3∧St [] h0 w0 h1 [(some b1, .cells #[vL A0_0 a0.vDefs.length c0_0] 24 (0,0))] w') (fun us w'=>∃(s3:Unit),xx3= .inr s3∧Fit us (fun uo3=>[(uo3 0),(uo3 1),(uo3 2),(uo3 3),(uo3 4),(uo3 5),(uo3 6),(uo3 7),(uo3 8),(uo3 9),(uo3 10),(uo3 11),(uo3 12),(uo3 13),(uo3 14),(uo3 15),(uo3 16),(uo3 17),(uo3 18),(uo3 19),(uo3 20),(uo3 21),(uo3 22),(uo3 23),(uo3 24),(uo3 25),(uo3 26),(uo3 27),(uo3 28),(uo3 29),(uo3 30),(uo3 31),(uo3 32),(uo3 33),(uo3 34),(uo3 35),(uo3 36),(uo3 37),(uo3 38),(uo3 39),(uo3 40),(uo3 41),(uo3 42),(uo3 43)])∧St [] h0 w0 h1 [(some b1, .cells #[vL A0_0 a0.vDefs.length c0_0] 24 (0,0))] w') k ⟨0,(fit rfl),H,HS8⟩ ?_ ?_
   ·rintro m us w9 ⟨y3_0,huy3,H,HS9⟩
    obtain ⟨uy3,rfl⟩:=unj huy3
    cases m with
    |zero=>exact absurd H (by simp [taplineref08_Check.l2])
    |succ m=>
     rw [taplineref08_Check.l2] at H
     try simp only [patch,sc0,sc1]
     refine wp_seq<|wp_seq<|region<|rs (vI y3_0) (r_move rfl)<|rs (vP b1 0) (r_fieldBox (n:=1) (o':=0) rfl Tryd.runUnderlying24 rfl Tryd.sizeOf22 (by decide) rfl)<|rs (vL A0_0 a0.vDefs.length c0_0) (r_loadBox rfl Tryd.isAgg22 (HS9.look 0 rfl) rfl)<|rs (vI (a0.vDefs.length:Int)) (r_len rfl Tryd.runUnderlying22)<|run_frame (by simp only [sc0,sc1];rfl) ?_
     refine rs (vB (decide (y3_0<(a0.vDefs.length:Int)))) (r_bin rfl rfl rfl) ?_
     try simp only [sc0,sc1]
     refine run_nil<|norm_then<|wp_cond_split (t:=(decide (y3_0<(a0.vDefs.length:Int)))) rfl (fun c6=>?_) (fun c6=>?_)
     ·replace H:=of_pos H c6
      refine wp_skip<|norm_then<|wp_seq<|wp_block<|wp_seq<|wp_seq<|region<|rs (vL Av3_0_0 v3.length cv3_0_0) (r_move rfl)<|rs (vI y3_0) (r_move rfl) ?_
      obtain ⟨hi5,H⟩:=of_ite H
      obtain ⟨ad5,e5,hel5⟩:=ld_int hrv3_0_0 hi5.1 hi5.2
      refine rs (Value.pointer (some (Addr.add ad5 (y3_0.toNat*1)))) (r_indexA (sz:=1) rfl e5 rfl hi5.1 hi5.2 Tryd.runUnderlying62 Tryd.sizeOf3)<|rs (vI (rd 0 v3 y3_0)) (r_load rfl Tryd.isAgg3 (hel5.cell0 HS9.sees rfl))<|run_frame (by simp only [sc0,sc1];rfl) ?_
      refine rs (vB ((rd 0 v3 y3_0)==0)) (r_bin rfl rfl rfl)<|rs (vB ((rd 0 v3 y3_0)==0)) (r_move rfl)<|rgs ((rd 0 v3 y3_0)==0) true (vL Av3_0_0 v3.length cv3_0_0) rfl rfl rfl rfl (fun hg=>(r_move rfl))<|rgs ((rd 0 v3 y3_0)==0) true (vI y3_0) rfl rfl rfl rfl (fun hg=>(r_move rfl))<|run_frame (by simp only [sc0,sc1];rfl) ?_
      obtain ⟨hi6,H⟩:=of_ite H
      obtain ⟨ad6,hq3⟩:=gx1 (fun hC:(true&&(((rd 0 v3 y3_0)==0)==false))=true=>ld_int hrv3_0_0 (hi6 hC).1 (hi6 hC).2)
      refine rgs ((rd 0 v3 y3_0)==0) true (Value.pointer (some (Addr.add ad6 (y3_0.toNat*1)))) rfl rfl rfl rfl (fun hg=>(r_indexA (sz:=1) (gvt (vL Av3_0_0 v3.length cv3_0_0) hg rfl) (hq3 hg).1 (gvt (vI y3_0) hg rfl) (hi6 hg).1 (hi6 hg).2 Tryd.runUnderlying62 Tryd.sizeOf3))<|rgs ((rd 0 v3 y3_0)==0) true (vI (rd 0 v3 y3_0)) rfl rfl rfl rfl (fun hg=>(r_load (gvt (Value.pointer (some (Addr.add ad6 (y3_0.toNat*1)))) hg rfl) Tryd.isAgg3 (((hq3 hg).2).cell0 HS9.sees rfl)))<|rgs ((rd 0 v3 y3_0)==0) true (vB (decide ((rd 0 v3 y3_0)>512))) rfl rfl rfl rfl (fun hg=>(r_bin (gvt (vI (rd 0 v3 y3_0)) hg rfl) rfl rfl))<|rs (vB (((rd 0 v3 y3_0)==0)||(decide ((rd 0 v3 y3_0)>512)))) (r_pick_or rfl rfl (fun hp=>(gvt (vB (decide ((rd 0 v3 y3_0)>512))) (and_i rfl hp) rfl)))<|run_frame (by simp only [sc0,sc1];rfl) ?_
      refine rs (vB (((rd 0 v3 y3_0)==0)||(decide ((rd 0 v3 y3_0)>512)))) (r_move rfl)<|rgs (((rd 0 v3 y3_0)==0)||(decide ((rd 0 v3 y3_0)>512))) true (Value.agg #[vL A0_0 a0.vDefs.length c0_0]) rfl rfl rfl rfl (fun hg=>(r_loadBoxAgg (n:=1) (vs:=[vL A0_0 a0.vDefs.length c0_0]) rfl Tryd.isAgg24 (HS9.look 0 rfl) Tryd.sizeOf24 rfl rfl))<|rgs (((rd 0 v3 y3_0)==0)||(decide ((rd 0 v3 y3_0)>512))) true (vI y3_0) rfl rfl rfl rfl (fun hg=>(r_move rfl)) ?_
      obtain ⟨v4,H4,H⟩:=of_bind H
      refine run_g (b:=(((rd 0 v3 y3_0)==0)||(decide ((rd 0 v3 y3_0)>512)))) (c:=true) (v:=vB v4) rfl rfl rfl rfl (fun hg=>(does_call_eq Tryd.call51 rfl (map2 (gvt (Value.agg #[vL A0_0 a0.vDefs.length c0_0]) hg rfl) (gvt (vI y3_0) hg rfl)) (taplineref08_ends.calls k a0 y3_0 A0_0 c0_0 HS9.sees (hr0_0.ext HS9.sub) hc0_0 (of_pos H4 hg)))) ?_
      intro w10 hE5
      have HS10:=HS9.step hE5
      refine run_frame (by simp only [sc0,sc1];rfl) ?_
      refine rgs (((rd 0 v3 y3_0)==0)||(decide ((rd 0 v3 y3_0)>512))) true (vB (!v4)) rfl rfl rfl rfl (fun hg=>(r_not (gvt (vB v4) hg rfl)))<|rs (vB ((((rd 0 v3 y3_0)==0)||(decide ((rd 0 v3 y3_0)>512)))||(!v4))) (r_pick_or rfl rfl (fun hp=>(gvt (vB (!v4)) (and_i rfl hp) rfl))) ?_
      try simp only [sc0,sc1]
      refine run_nil<|norm_then<|wp_cond_split (t:=((((rd 0 v3 y3_0)==0)||(decide ((rd 0 v3 y3_0)>512)))||(!v4))) rfl (fun c7=>?_) (fun c7=>?_)
      ·replace H:=of_pos H c7
       refine wp_seq<|region<|rs (vI 80) (r_assign rfl) ?_
       try simp only [sc0,sc1]
       refine run_nil<|norm_then<|wp_ret<|ret_then<|ret_block<|ret_then<|ret_loop<|ret_then ?_
       obtain rfl:=Option.some.inj H
       obtain rfl:=Option.some.inj G3
       exact bodyPost_ret (results_1 rfl (one_tmp rfl)) rfl<|⟨rfl,HS10.toE⟩
      ·replace H:=of_neg H (nt c7)
       refine wp_skip<|norm_then<|wp_seq<|region<|rs (vP b1 0) (r_fieldBox (n:=1) (o':=0) rfl Tryd.runUnderlying24 rfl Tryd.sizeOf22 (by decide) rfl)<|rs (vL A0_0 a0.vDefs.length c0_0) (r_loadBox rfl Tryd.isAgg22 (HS10.look 0 rfl) rfl)<|rs (vI y3_0) (r_move rfl) ?_
       obtain ⟨hi7,H⟩:=of_ite H
       obtain ⟨ad7,Aad7_6,cad7_6,e7,hel7,hcad7_6,hrad7_6⟩:=ld_api_Def (hr0_0.ext HS10.sub) hi7.1 hi7.2
       refine rs (Value.pointer (some (Addr.add ad7 (y3_0.toNat*7)))) (r_indexA (sz:=7) rfl e7 rfl hi7.1 hi7.2 Tryd.runUnderlying22 Tryd.sizeOf34)<|run_frame (by simp only [sc0,sc1];rfl) ?_
       refine rs (Value.pointer (some (Addr.add (Addr.add ad7 (y3_0.toNat*7)) 0))) (r_fieldEl (n:=1) (o':=0) rfl Tryd.runUnderlying34 rfl Tryd.sizeOf3 (by decide) rfl)<|rs (vI ((rd z_api_Def a0.vDefs y3_0).vKind)) (r_load rfl Tryd.isAgg3 (hel7.cell HS10.sees 0 rfl))<|rs (vB ((rd z_api_Def a0.vDefs y3_0).vKind==4)) (r_bin rfl rfl rfl)<|rs (vB ((rd z_api_Def a0.vDefs y3_0).vKind==4)) (r_move rfl)<|run_frame (by simp only [sc0,sc1];rfl) ?_
       refine rgs ((rd z_api_Def a0.vDefs y3_0).vKind==4) true (vP b1 0) rfl rfl rfl rfl (fun hg=>(r_fieldBox (n:=1) (o':=0) rfl Tryd.runUnderlying24 rfl Tryd.sizeOf22 (by decide) rfl))<|rgs ((rd z_api_Def a0.vDefs y3_0).vKind==4) true (vL A0_0 a0.vDefs.length c0_0) rfl rfl rfl rfl (fun hg=>(r_loadBox (gvt (vP b1 0) hg rfl) Tryd.isAgg22 (HS10.look 0 rfl) rfl))<|rgs ((rd z_api_Def a0.vDefs y3_0).vKind==4) true (vI y3_0) rfl rfl rfl rfl (fun hg=>(r_move rfl)) ?_
       obtain ⟨hi8,H⟩:=of_ite H
       obtain ⟨ad8,Aad8_6,cad8_6,hq4⟩:=gx3 (fun hC:(true&&(((rd z_api_Def a0.vDefs y3_0).vKind==4)==true))=true=>ld_api_Def (hr0_0.ext HS10.sub) (hi8 hC).1 (hi8 hC).2)
       refine rgs ((rd z_api_Def a0.vDefs y3_0).vKind==4) true (Value.pointer (some (Addr.add ad8 (y3_0.toNat*7)))) rfl rfl rfl rfl (fun hg=>(r_indexA (sz:=7) (gvt (vL A0_0 a0.vDefs.length c0_0) hg rfl) (hq4 hg).1 (gvt (vI y3_0) hg rfl) (hi8 hg).1 (hi8 hg).2 Tryd.runUnderlying22 Tryd.sizeOf34))<|run_frame (by simp only [sc0,sc1];rfl) ?_
       refine rgs ((rd z_api_Def a0.vDefs y3_0).vKind==4) true (Value.agg #[vI ((rd z_api_Def a0.vDefs y3_0).vKind),vS ((rd z_api_Def a0.vDefs y3_0).vName),vI ((rd z_api_Def a0.vDefs y3_0).vInt.vSize),vB ((rd z_api_Def a0.vDefs y3_0).vInt.vSigned),vI ((rd z_api_Def a0.vDefs y3_0).vRef),vI ((rd z_api_Def a0.vDefs y3_0).vN),vL Aad8_6 ((rd z_api_Def a0.vDefs y3_0).vFields).length cad8_6]) rfl rfl rfl rfl (fun hg=>(r_loadAgg (gvt (Value.pointer (some (Addr.add ad8 (y3_0.toNat*7)))) hg rfl) Tryd.isAgg34 (((hq4 hg).2.1).sees HS10.sees) Tryd.sizeOf34))<|rgs ((rd z_api_Def a0.vDefs y3_0).vKind==4) true (vL Av3_0_0 v3.length cv3_0_0) rfl rfl rfl rfl (fun hg=>(r_move rfl)) ?_
       obtain ⟨v5,H5,H⟩:=of_bind H
       refine run_g (b:=((rd z_api_Def a0.vDefs y3_0).vKind==4)) (c:=true) (v:=vB v5) rfl rfl rfl rfl (fun hg=>(does_call_eq Tryd.call52 rfl (map2 (gvt (Value.agg #[vI ((rd z_api_Def a0.vDefs y3_0).vKind),vS ((rd z_api_Def a0.vDefs y3_0).vName),vI ((rd z_api_Def a0.vDefs y3_0).vInt.vSize),vB ((rd z_api_Def a0.vDefs y3_0).vInt.vSigned),vI ((rd z_api_Def a0.vDefs y3_0).vRef),vI ((rd z_api_Def a0.vDefs y3_0).vN),vL Aad8_6 ((rd z_api_Def a0.vDefs y3_0).vFields).length cad8_6]) hg rfl) (gvt (vL Av3_0_0 v3.length cv3_0_0) hg rfl)) (taplineref08_placed.calls k (rd z_api_Def a0.vDefs y3_0) v3 Aad8_6 cad8_6 Av3_0_0 cv3_0_0 HS10.sees ((hq4 hg).2.2.2) ((hq4 hg).2.2.1) hrv3_0_0 hcv3_0_0 (of_pos H5 hg)))) ?_
       intro w11 hE6
       have HS11:=HS10.step hE6
       refine rgs ((rd z_api_Def a0.vDefs y3_0).vKind==4) true (vB (!v5)) rfl rfl rfl rfl (fun hg=>(r_not (gvt (vB v5) hg rfl)))<|run_frame (by simp only [sc0,sc1];rfl) ?_
       refine rs (vB (((rd z_api_Def a0.vDefs y3_0).vKind==4)&&(!v5))) (r_pick_and rfl (fun hp=>(gvt (vB (!v5)) (and_i rfl hp) rfl)) rfl) ?_
       try simp only [sc0,sc1]
       refine run_nil<|norm_then<|wp_cond_split (t:=(((rd z_api_Def a0.vDefs y3_0).vKind==4)&&(!v5))) rfl (fun c8=>?_) (fun c8=>?_)
       ·replace H:=of_pos H c8
        refine wp_seq<|region<|rs (vI 80) (r_assign rfl) ?_
        try simp only [sc0,sc1]
        refine run_nil<|norm_then<|wp_ret<|ret_block<|ret_then<|ret_loop<|ret_then ?_
        obtain rfl:=Option.some.inj H
        obtain rfl:=Option.some.inj G3
        exact bodyPost_ret (results_1 rfl (one_tmp rfl)) rfl<|⟨rfl,HS11.toE⟩
       ·replace H:=of_neg H (nt c8)
        refine wp_skip<|norm_block<|norm_then<|region<|rs (vI y3_0) (r_move rfl)<|rs (vI (w64 (y3_0+1))) (r_bin rfl rfl rfl)<|rs (vI (w64 (y3_0+1))) (r_assign rfl) ?_
        try simp only [sc0,sc1]
        refine run_nil<|again_j m (Nat.lt_succ_self m) rfl ⟨(w64 (y3_0+1)),(fit rfl),H,HS11⟩
     ·replace H:=of_neg H (nt c6)
      refine wp_exit<|exit_then ?_
      obtain rfl:=Option.some.inj H
      refine leave_j rfl ⟨_,rfl,(fit rfl),HS9⟩
   ·rintro us w12 ⟨s3,rfl,huo3,HS12⟩
    obtain ⟨uo3,rfl⟩:=unj huo3
    replace H:=G3
    clear G3
    try simp only [patch,sc0,sc1]
    refine norm_then<|wp_seq<|region<|rs (vI 0) (r_assign rfl) ?_
    try simp only [sc0,sc1]
    refine run_nil<|norm_then<|wp_ret ?_
    obtain rfl:=Option.some.inj H
    exact bodyPost_ret (results_1 rfl (one_tmp rfl)) rfl<|⟨rfl,HS12.toE⟩
end Go.Proofs.YtfjppgobidjndaaDoor
