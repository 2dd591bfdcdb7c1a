/- Parts of a proof, merged by program: F13 F71 F72 F110 F111 F112 F114 F113 F74 F73 F38 F49 F94 F95 F96 F97 F48 F98 F50 F51 F52 F19 F75 F76 F77 F39 F79 F78 F81 F80 F82 F83 F40 F10 F11 B1 Q5 Q6 F101 F54 F21 F55 F22 F102 F56 F23 F57 F24 F58 F25 F26 F27 F4 Q8 N1 Q10 Q11 N2 Q12 Q13 Q14 F115 F84 Q15 F122 F123 F104 F61 F29 Q16 N3 G1 F63 F64 F32 F65 F67 F66 F33 F7 N4 N5 B2. The walks (each function once) and the plain laws; no condition of their own. -/
import Derived.Test.YtfjppgobidjndaaDoorBck3
set_option linter.unusedVariables false
set_option linter.unusedSimpArgs false
set_option maxRecDepth 20000
set_option maxHeartbeats 4000000
namespace Go.Proofs.YtfjppgobidjndaaDoor
open Go.RowKit Go.M
def taplinelaw08_sane.f (k:Nat):Option (Bool):=(taplinelaw08_sample.f).bind fun v1=>((ctf_Size.f k v1 1).bind fun v2=>((ctf_Text.f k v1 3).bind fun v3=>((ctf_Member.f k v1 1 (⟨#[116,95,110,101,120,116]⟩:ByteArray)).bind fun v4=>((ctf_Path.f k v1 1 ([(⟨#[116,95,110,97,109,101]⟩:ByteArray)]:List ByteArray)).bind fun v5=>((ctf_Check.f k v1).bind fun v6=>(if (((((((((((v6 !=0)||(v2.2 !=0))||(v2.1 !=24))||(v3.2 !=0))||(!(strEq v3.1 (⟨#[99,104,97,114,32,91,56,93]⟩:ByteArray))))||(v4.2 !=0))||(v4.1.vType !=2))||(v4.1.vAt !=8))||(v5.2.2 !=0))||(v5.1 !=3))||(v5.2.1 !=16))=true then (some false) else ((ctf_Member.f k v1 2 (⟨#[116,95,116,105,100]⟩:ByteArray)).bind fun v7=>(if 0+v1.vDefs.length≤4294967296 then (if (0+v1.vDefs.length)+1≤4294967296 then ((ctf_Unique.f k (⟨((([]:List api_Def)++v1.vDefs)++([(⟨2,ByteArray.empty,(⟨0,false⟩:api_Int),1,0,[]⟩:api_Def)]:List api_Def))⟩:api_Types)).bind fun v8=>((ctf_Encode.f k (⟨[]⟩:api_Types)).bind fun v9=>((if (true&&(((v7.2==5)&&(v8.2.2==0))==true))=true then taplineref08_Same.f k v8.1 v1 else some false).bind fun v10=>((if (true&&((((v7.2==5)&&(v8.2.2==0))&&v10)==true))=true then taplineref08_SameInts.f k v8.2.1 ([0,1,2,3,4,2]:List Int) else some false).bind fun v11=>(some ((((((v7.2==5)&&(v8.2.2==0))&&v10)&&v11)&&(v9.2==0))&&(strEq (strOf v9.1) (⟨#[67,84,70,1,0]⟩:ByteArray)))))))) else none) else none))))))))
theorem taplinelaw08_sane.calls (k:Nat) {h0:View} {w0:World} (hv:Sees h0 w0) (ht:Tab w0) {r:Bool} (H:taplinelaw08_sane.f k=some r):Calls Tryd.prog 13 #[] w0 (fun e w1=>e= .returned (vB r)∧Ext w0 w1):=by
 unfold taplinelaw08_sane.f at H
 have HS:St [] h0 w0 h0 [] w0:=St.init hv
 go_enter Tryd.func13,Tryd.ntmps13
 refine wp_seq<|region<|rs (vB false) (r_assign rfl) ?_
 try simp only [sc0,sc1]
 refine run_nil<|norm_then<|wp_seq<|region ?_
 obtain ⟨v1,H1,H⟩:=of_bind H
 refine run_ex rfl rfl (does_call Tryd.call42 rfl (gives_in (h:=h0) (R:=(fun hx u=>∃(Av1_0_0:Option Addr) (cv1_0_0:Nat),u=Value.agg #[vL Av1_0_0 v1.vDefs.length cv1_0_0]∧v1.vDefs.length≤cv1_0_0∧Rd k_api_Def hx Av1_0_0 v1.vDefs)) (Ext.rfl' w0) ((taplinelaw08_sample.calls HS.sees H1).mono ?_)) rfl) ?_
 ·rintro _ _ ⟨h1,Av1_0_0,cv1_0_0,rfl,hcv1_0_0,hrv1_0_0,g,ss,x⟩
  exact ⟨h1,_,rfl,⟨Av1_0_0,cv1_0_0,rfl,hcv1_0_0,hrv1_0_0⟩,g,ss,x⟩
 rintro w1 _ hE1 ⟨h1,⟨Av1_0_0,cv1_0_0,rfl,hcv1_0_0,hrv1_0_0⟩,gr1,se1⟩
 have HS1:=HS.view hE1 gr1 se1
 refine run_ex rfl rfl (does_alloc (cs:=#[vL none 0 0]) Tryd.zeroValue24 rfl) ?_
 rintro w2 _ hE2 ⟨b1,rfl,ge1,hb1⟩
 have HS2:=HS1.new hE2 ge1 hb1
 refine run_st (i:=0) (cs:=[vL none 0 0]) (cs':=[vL Av1_0_0 v1.vDefs.length cv1_0_0]) (vs:=[vL Av1_0_0 v1.vDefs.length cv1_0_0]) (bs':=[(some b1, .cells #[vL Av1_0_0 v1.vDefs.length cv1_0_0] 24 (0,0))]) rfl rfl Tryd.sizeOf24 rfl rfl (by decide) rfl HS2 rfl (Nat.le_of_ble_eq_true rfl) rfl rfl ?_
 intro w3 HS3
 try simp only [sc0,sc1]
 refine run_nil<|norm_then<|wp_seq<|region<|rs (Value.agg #[vL Av1_0_0 v1.vDefs.length cv1_0_0]) (r_loadBoxAgg (n:=1) (vs:=[vL Av1_0_0 v1.vDefs.length cv1_0_0]) rfl Tryd.isAgg24 (HS3.look 0 rfl) Tryd.sizeOf24 rfl rfl) ?_
 obtain ⟨v2,H2,H⟩:=of_bind H
 refine run_eq (v:=Value.tuple #[vI v2.1,vI v2.2]) rfl rfl (does_call_eq Tryd.call14 rfl rfl (ctf_Size.calls k v1 1 Av1_0_0 cv1_0_0 HS3.sees hrv1_0_0 hcv1_0_0 H2)) ?_
 intro w4 hE3
 have HS4:=HS3.step hE3
 refine rs (Value.tuple #[vI v2.1,vI v2.2]) (r_move rfl)<|rs (vI v2.1) (r_extract rfl rfl)<|run_frame (by simp only [sc0,sc1];rfl) ?_
 refine rs (vI v2.2) (r_extract rfl rfl)<|rs (vI v2.1) (r_assign rfl)<|rs (vI v2.2) (r_assign rfl) ?_
 try simp only [sc0,sc1]
 refine run_nil<|norm_then<|wp_seq<|region<|rs (Value.agg #[vL Av1_0_0 v1.vDefs.length cv1_0_0]) (r_loadBoxAgg (n:=1) (vs:=[vL Av1_0_0 v1.vDefs.length cv1_0_0]) rfl Tryd.isAgg24 (HS4.look 0 rfl) Tryd.sizeOf24 rfl rfl) ?_
 obtain ⟨v3,H3,H⟩:=of_bind H
 refine run_eq (v:=Value.tuple #[vS v3.1,vI v3.2]) rfl rfl (does_call_eq Tryd.call20 rfl rfl (ctf_Text.calls k v1 3 Av1_0_0 cv1_0_0 HS4.sees (ht.s HS4) hrv1_0_0 hcv1_0_0 H3)) ?_
 intro w5 hE4
 have HS5:=HS4.step hE4
 refine rs (Value.tuple #[vS v3.1,vI v3.2]) (r_move rfl)<|rs (vS v3.1) (r_extract rfl rfl)<|run_frame (by simp only [sc0,sc1];rfl) ?_
 refine rs (vI v3.2) (r_extract rfl rfl)<|rs (vS v3.1) (r_assign rfl)<|rs (vI v3.2) (r_assign rfl) ?_
 try simp only [sc0,sc1]
 refine run_nil<|norm_then<|wp_seq<|region<|rs (Value.agg #[vL Av1_0_0 v1.vDefs.length cv1_0_0]) (r_loadBoxAgg (n:=1) (vs:=[vL Av1_0_0 v1.vDefs.length cv1_0_0]) rfl Tryd.isAgg24 (HS5.look 0 rfl) Tryd.sizeOf24 rfl rfl) ?_
 obtain ⟨v4,H4,H⟩:=of_bind H
 refine run_eq (v:=Value.tuple #[Value.agg #[vS v4.1.vName,vI v4.1.vType,vI v4.1.vAt],vI v4.2]) rfl rfl (does_call_eq Tryd.call16 rfl rfl (ctf_Member.calls k v1 1 (⟨#[116,95,110,101,120,116]⟩:ByteArray) Av1_0_0 cv1_0_0 HS5.sees hrv1_0_0 hcv1_0_0 H4)) ?_
 intro w6 hE5
 have HS6:=HS5.step hE5
 refine rs (Value.tuple #[Value.agg #[vS v4.1.vName,vI v4.1.vType,vI v4.1.vAt],vI v4.2]) (r_move rfl)<|rs (Value.agg #[vS v4.1.vName,vI v4.1.vType,vI v4.1.vAt]) (r_extract rfl rfl)<|run_frame (by simp only [sc0,sc1];rfl) ?_
 refine rs (vI v4.2) (r_extract rfl rfl)<|run_ex rfl rfl (does_alloc (cs:=#[vS ByteArray.empty,vI 0,vI 0]) Tryd.zeroValue36 rfl) ?_
 rintro w7 _ hE6 ⟨b2,rfl,ge2,hb2⟩
 have HS7:=HS6.new hE6 ge2 hb2
 refine run_st (i:=0) (cs:=[vS ByteArray.empty,vI 0,vI 0]) (cs':=[vS v4.1.vName,vI v4.1.vType,vI v4.1.vAt]) (vs:=[vS v4.1.vName,vI v4.1.vType,vI v4.1.vAt]) (bs':=[(some b2, .cells #[vS v4.1.vName,vI v4.1.vType,vI v4.1.vAt] 36 (0,0)),(some b1, .cells #[vL Av1_0_0 v1.vDefs.length cv1_0_0] 24 (0,0))]) rfl rfl Tryd.sizeOf36 rfl rfl (by decide) rfl HS7 rfl (Nat.le_of_ble_eq_true rfl) rfl rfl ?_
 intro w8 HS8
 refine rs (vI v4.2) (r_assign rfl) ?_
 try simp only [sc0,sc1]
 refine run_nil<|norm_then<|wp_seq<|region<|rs (Value.agg #[vL Av1_0_0 v1.vDefs.length cv1_0_0]) (r_loadBoxAgg (n:=1) (vs:=[vL Av1_0_0 v1.vDefs.length cv1_0_0]) rfl Tryd.isAgg24 (HS8.look 1 rfl) Tryd.sizeOf24 rfl rfl)<|run_bs Kd.str (xs:=([(⟨#[116,95,110,97,109,101]⟩:ByteArray)]:List ByteArray)) (n:=1) (cs:=[vS (⟨#[116,95,110,97,109,101]⟩:ByteArray)]) Tryd.runUnderlying25 Tryd.typeInfo9 Tryd.zeroValue9 rfl rfl (by decide) (by decide) (by decide) [vS (⟨#[116,95,110,97,109,101]⟩:ByteArray)] (parts_any.trans rfl) rfl rfl rfl rfl (elems_cons (qs:=[vS (⟨#[116,95,110,97,109,101]⟩:ByteArray)]) rfl (elems_nil (cs:=[]))) HS8 ?_
 intro w9 b3 HS9 ho1
 obtain ⟨v5,H5,H⟩:=of_bind H
 obtain ⟨hl1,hs1,se2,rdl1⟩:=row_lend HS9 (i:=0) rfl ho1
 refine run_eq (v:=Value.tuple #[vI v5.1,vI v5.2.1,vI v5.2.2]) rfl rfl (does_call_eq Tryd.call17 rfl (map3 rfl rfl (show _=vL (rowA (some b3)) ([(⟨#[116,95,110,97,109,101]⟩:ByteArray)]:List ByteArray).length 1 from by rw [ho1.len];exact rfl)) (ctf_Path.calls k v1 1 ([(⟨#[116,95,110,97,109,101]⟩:ByteArray)]:List ByteArray) Av1_0_0 cv1_0_0 (rowA (some b3)) 1 se2 (hrv1_0_0.ext hs1) hcv1_0_0 rdl1 ho1.cap H5)) ?_
 intro w10 hE7
 have HS10:=HS9.step hE7
 refine rs (Value.tuple #[vI v5.1,vI v5.2.1,vI v5.2.2]) (r_move rfl)<|run_frame (by simp only [sc0,sc1];rfl) ?_
 refine rs (vI v5.1) (r_extract rfl rfl)<|rs (vI v5.2.1) (r_extract rfl rfl)<|rs (vI v5.2.2) (r_extract rfl rfl)<|rs (vI v5.1) (r_assign rfl)<|run_frame (by simp only [sc0,sc1];rfl) ?_
 refine rs (vI v5.2.1) (r_assign rfl)<|rs (vI v5.2.2) (r_assign rfl) ?_
 try simp only [sc0,sc1]
 refine run_nil<|norm_then<|wp_seq<|wp_seq<|region<|rs (Value.agg #[vL Av1_0_0 v1.vDefs.length cv1_0_0]) (r_loadBoxAgg (n:=1) (vs:=[vL Av1_0_0 v1.vDefs.length cv1_0_0]) rfl Tryd.isAgg24 (HS10.look 2 rfl) Tryd.sizeOf24 rfl rfl) ?_
 obtain ⟨v6,H6,H⟩:=of_bind H
 refine run_eq (v:=vI v6) rfl rfl (does_call_eq Tryd.call18 rfl rfl (ctf_Check.calls k v1 Av1_0_0 cv1_0_0 HS10.sees hrv1_0_0 hcv1_0_0 H6)) ?_
 intro w11 hE8
 have HS11:=HS10.step hE8
 refine rs (vB (v6 !=0)) (r_bin rfl rfl rfl)<|rs (vB (v6 !=0)) (r_move rfl)<|run_frame (by simp only [sc0,sc1];rfl) ?_
 refine rgs (v6 !=0) true (vI v2.2) rfl rfl rfl rfl (fun hg=>(r_move rfl))<|rgs (v6 !=0) true (vB (v2.2 !=0)) rfl rfl rfl rfl (fun hg=>(r_bin (gvt (vI v2.2) hg rfl) rfl rfl))<|rs (vB ((v6 !=0)||(v2.2 !=0))) (r_pick_or rfl rfl (fun hp=>(gvt (vB (v2.2 !=0)) (and_i rfl hp) rfl)))<|rs (vB ((v6 !=0)||(v2.2 !=0))) (r_move rfl)<|run_frame (by simp only [sc0,sc1];rfl) ?_
 refine rgs ((v6 !=0)||(v2.2 !=0)) true (vI v2.1) rfl rfl rfl rfl (fun hg=>(r_move rfl))<|rgs ((v6 !=0)||(v2.2 !=0)) true (vB (v2.1 !=24)) rfl rfl rfl rfl (fun hg=>(r_bin (gvt (vI v2.1) hg rfl) rfl rfl))<|rs (vB (((v6 !=0)||(v2.2 !=0))||(v2.1 !=24))) (r_pick_or rfl rfl (fun hp=>(gvt (vB (v2.1 !=24)) (and_i rfl hp) rfl)))<|rs (vB (((v6 !=0)||(v2.2 !=0))||(v2.1 !=24))) (r_move rfl)<|run_frame (by simp only [sc0,sc1];rfl) ?_
 refine rgs (((v6 !=0)||(v2.2 !=0))||(v2.1 !=24)) true (vI v3.2) rfl rfl rfl rfl (fun hg=>(r_move rfl))<|rgs (((v6 !=0)||(v2.2 !=0))||(v2.1 !=24)) true (vB (v3.2 !=0)) rfl rfl rfl rfl (fun hg=>(r_bin (gvt (vI v3.2) hg rfl) rfl rfl))<|rs (vB ((((v6 !=0)||(v2.2 !=0))||(v2.1 !=24))||(v3.2 !=0))) (r_pick_or rfl rfl (fun hp=>(gvt (vB (v3.2 !=0)) (and_i rfl hp) rfl)))<|rs (vB ((((v6 !=0)||(v2.2 !=0))||(v2.1 !=24))||(v3.2 !=0))) (r_move rfl)<|run_frame (by simp only [sc0,sc1];rfl) ?_
 refine rgs ((((v6 !=0)||(v2.2 !=0))||(v2.1 !=24))||(v3.2 !=0)) true (vS v3.1) rfl rfl rfl rfl (fun hg=>(r_move rfl))<|rgs ((((v6 !=0)||(v2.2 !=0))||(v2.1 !=24))||(v3.2 !=0)) true (vB (!(strEq v3.1 (⟨#[99,104,97,114,32,91,56,93]⟩:ByteArray)))) rfl rfl rfl rfl (fun hg=>(r_strneq (gvt (vS v3.1) hg rfl) rfl))<|rs (vB (((((v6 !=0)||(v2.2 !=0))||(v2.1 !=24))||(v3.2 !=0))||(!(strEq v3.1 (⟨#[99,104,97,114,32,91,56,93]⟩:ByteArray))))) (r_pick_or rfl rfl (fun hp=>(gvt (vB (!(strEq v3.1 (⟨#[99,104,97,114,32,91,56,93]⟩:ByteArray)))) (and_i rfl hp) rfl)))<|rs (vB (((((v6 !=0)||(v2.2 !=0))||(v2.1 !=24))||(v3.2 !=0))||(!(strEq v3.1 (⟨#[99,104,97,114,32,91,56,93]⟩:ByteArray))))) (r_move rfl)<|run_frame (by simp only [sc0,sc1];rfl) ?_
 refine rgs (((((v6 !=0)||(v2.2 !=0))||(v2.1 !=24))||(v3.2 !=0))||(!(strEq v3.1 (⟨#[99,104,97,114,32,91,56,93]⟩:ByteArray)))) true (vI v4.2) rfl rfl rfl rfl (fun hg=>(r_move rfl))<|rgs (((((v6 !=0)||(v2.2 !=0))||(v2.1 !=24))||(v3.2 !=0))||(!(strEq v3.1 (⟨#[99,104,97,114,32,91,56,93]⟩:ByteArray)))) true (vB (v4.2 !=0)) rfl rfl rfl rfl (fun hg=>(r_bin (gvt (vI v4.2) hg rfl) rfl rfl))<|rs (vB ((((((v6 !=0)||(v2.2 !=0))||(v2.1 !=24))||(v3.2 !=0))||(!(strEq v3.1 (⟨#[99,104,97,114,32,91,56,93]⟩:ByteArray))))||(v4.2 !=0))) (r_pick_or rfl rfl (fun hp=>(gvt (vB (v4.2 !=0)) (and_i rfl hp) rfl)))<|rs (vB ((((((v6 !=0)||(v2.2 !=0))||(v2.1 !=24))||(v3.2 !=0))||(!(strEq v3.1 (⟨#[99,104,97,114,32,91,56,93]⟩:ByteArray))))||(v4.2 !=0))) (r_move rfl)<|run_frame (by simp only [sc0,sc1];rfl) ?_
 refine rgs ((((((v6 !=0)||(v2.2 !=0))||(v2.1 !=24))||(v3.2 !=0))||(!(strEq v3.1 (⟨#[99,104,97,114,32,91,56,93]⟩:ByteArray))))||(v4.2 !=0)) true (vP b2 1) rfl rfl rfl rfl (fun hg=>(r_fieldBox (n:=1) (o':=1) rfl Tryd.runUnderlying36 rfl Tryd.sizeOf3 (by decide) rfl))<|rgs ((((((v6 !=0)||(v2.2 !=0))||(v2.1 !=24))||(v3.2 !=0))||(!(strEq v3.1 (⟨#[99,104,97,114,32,91,56,93]⟩:ByteArray))))||(v4.2 !=0)) true (vI v4.1.vType) rfl rfl rfl rfl (fun hg=>(r_loadBox (gvt (vP b2 1) hg rfl) Tryd.isAgg3 (HS11.look 1 rfl) rfl))<|rgs ((((((v6 !=0)||(v2.2 !=0))||(v2.1 !=24))||(v3.2 !=0))||(!(strEq v3.1 (⟨#[99,104,97,114,32,91,56,93]⟩:ByteArray))))||(v4.2 !=0)) true (vB (v4.1.vType !=2)) rfl rfl rfl rfl (fun hg=>(r_bin (gvt (vI v4.1.vType) hg rfl) rfl rfl))<|rs (vB (((((((v6 !=0)||(v2.2 !=0))||(v2.1 !=24))||(v3.2 !=0))||(!(strEq v3.1 (⟨#[99,104,97,114,32,91,56,93]⟩:ByteArray))))||(v4.2 !=0))||(v4.1.vType !=2))) (r_pick_or rfl rfl (fun hp=>(gvt (vB (v4.1.vType !=2)) (and_i rfl hp) rfl)))<|run_frame (by simp only [sc0,sc1];rfl) ?_
 refine rs (vB (((((((v6 !=0)||(v2.2 !=0))||(v2.1 !=24))||(v3.2 !=0))||(!(strEq v3.1 (⟨#[99,104,97,114,32,91,56,93]⟩:ByteArray))))||(v4.2 !=0))||(v4.1.vType !=2))) (r_move rfl)<|rgs (((((((v6 !=0)||(v2.2 !=0))||(v2.1 !=24))||(v3.2 !=0))||(!(strEq v3.1 (⟨#[99,104,97,114,32,91,56,93]⟩:ByteArray))))||(v4.2 !=0))||(v4.1.vType !=2)) true (vP b2 2) rfl rfl rfl rfl (fun hg=>(r_fieldBox (n:=1) (o':=2) rfl Tryd.runUnderlying36 rfl Tryd.sizeOf3 (by decide) rfl))<|rgs (((((((v6 !=0)||(v2.2 !=0))||(v2.1 !=24))||(v3.2 !=0))||(!(strEq v3.1 (⟨#[99,104,97,114,32,91,56,93]⟩:ByteArray))))||(v4.2 !=0))||(v4.1.vType !=2)) true (vI v4.1.vAt) rfl rfl rfl rfl (fun hg=>(r_loadBox (gvt (vP b2 2) hg rfl) Tryd.isAgg3 (HS11.look 1 rfl) rfl))<|rgs (((((((v6 !=0)||(v2.2 !=0))||(v2.1 !=24))||(v3.2 !=0))||(!(strEq v3.1 (⟨#[99,104,97,114,32,91,56,93]⟩:ByteArray))))||(v4.2 !=0))||(v4.1.vType !=2)) true (vB (v4.1.vAt !=8)) rfl rfl rfl rfl (fun hg=>(r_bin (gvt (vI v4.1.vAt) hg rfl) rfl rfl))<|run_frame (by simp only [sc0,sc1];rfl) ?_
 refine rs (vB ((((((((v6 !=0)||(v2.2 !=0))||(v2.1 !=24))||(v3.2 !=0))||(!(strEq v3.1 (⟨#[99,104,97,114,32,91,56,93]⟩:ByteArray))))||(v4.2 !=0))||(v4.1.vType !=2))||(v4.1.vAt !=8))) (r_pick_or rfl rfl (fun hp=>(gvt (vB (v4.1.vAt !=8)) (and_i rfl hp) rfl)))<|rs (vB ((((((((v6 !=0)||(v2.2 !=0))||(v2.1 !=24))||(v3.2 !=0))||(!(strEq v3.1 (⟨#[99,104,97,114,32,91,56,93]⟩:ByteArray))))||(v4.2 !=0))||(v4.1.vType !=2))||(v4.1.vAt !=8))) (r_move rfl)<|rgs ((((((((v6 !=0)||(v2.2 !=0))||(v2.1 !=24))||(v3.2 !=0))||(!(strEq v3.1 (⟨#[99,104,97,114,32,91,56,93]⟩:ByteArray))))||(v4.2 !=0))||(v4.1.vType !=2))||(v4.1.vAt !=8)) true (vI v5.2.2) rfl rfl rfl rfl (fun hg=>(r_move rfl))<|rgs ((((((((v6 !=0)||(v2.2 !=0))||(v2.1 !=24))||(v3.2 !=0))||(!(strEq v3.1 (⟨#[99,104,97,114,32,91,56,93]⟩:ByteArray))))||(v4.2 !=0))||(v4.1.vType !=2))||(v4.1.vAt !=8)) true (vB (v5.2.2 !=0)) rfl rfl rfl rfl (fun hg=>(r_bin (gvt (vI v5.2.2) hg rfl) rfl rfl))<|run_frame (by simp only [sc0,sc1];rfl) ?_
 refine rs (vB (((((((((v6 !=0)||(v2.2 !=0))||(v2.1 !=24))||(v3.2 !=0))||(!(strEq v3.1 (⟨#[99,104,97,114,32,91,56,93]⟩:ByteArray))))||(v4.2 !=0))||(v4.1.vType !=2))||(v4.1.vAt !=8))||(v5.2.2 !=0))) (r_pick_or rfl rfl (fun hp=>(gvt (vB (v5.2.2 !=0)) (and_i rfl hp) rfl)))<|rs (vB (((((((((v6 !=0)||(v2.2 !=0))||(v2.1 !=24))||(v3.2 !=0))||(!(strEq v3.1 (⟨#[99,104,97,114,32,91,56,93]⟩:ByteArray))))||(v4.2 !=0))||(v4.1.vType !=2))||(v4.1.vAt !=8))||(v5.2.2 !=0))) (r_move rfl)<|rgs (((((((((v6 !=0)||(v2.2 !=0))||(v2.1 !=24))||(v3.2 !=0))||(!(strEq v3.1 (⟨#[99,104,97,114,32,91,56,93]⟩:ByteArray))))||(v4.2 !=0))||(v4.1.vType !=2))||(v4.1.vAt !=8))||(v5.2.2 !=0)) true (vI v5.1) rfl rfl rfl rfl (fun hg=>(r_move rfl))<|rgs (((((((((v6 !=0)||(v2.2 !=0))||(v2.1 !=24))||(v3.2 !=0))||(!(strEq v3.1 (⟨#[99,104,97,114,32,91,56,93]⟩:ByteArray))))||(v4.2 !=0))||(v4.1.vType !=2))||(v4.1.vAt !=8))||(v5.2.2 !=0)) true (vB (v5.1 !=3)) rfl rfl rfl rfl (fun hg=>(r_bin (gvt (vI v5.1) hg rfl) rfl rfl))<|run_frame (by simp only [sc0,sc1];rfl) ?_
 refine rs (vB ((((((((((v6 !=0)||(v2.2 !=0))||(v2.1 !=24))||(v3.2 !=0))||(!(strEq v3.1 (⟨#[99,104,97,114,32,91,56,93]⟩:ByteArray))))||(v4.2 !=0))||(v4.1.vType !=2))||(v4.1.vAt !=8))||(v5.2.2 !=0))||(v5.1 !=3))) (r_pick_or rfl rfl (fun hp=>(gvt (vB (v5.1 !=3)) (and_i rfl hp) rfl)))<|rs (vB ((((((((((v6 !=0)||(v2.2 !=0))||(v2.1 !=24))||(v3.2 !=0))||(!(strEq v3.1 (⟨#[99,104,97,114,32,91,56,93]⟩:ByteArray))))||(v4.2 !=0))||(v4.1.vType !=2))||(v4.1.vAt !=8))||(v5.2.2 !=0))||(v5.1 !=3))) (r_move rfl)<|rgs ((((((((((v6 !=0)||(v2.2 !=0))||(v2.1 !=24))||(v3.2 !=0))||(!(strEq v3.1 (⟨#[99,104,97,114,32,91,56,93]⟩:ByteArray))))||(v4.2 !=0))||(v4.1.vType !=2))||(v4.1.vAt !=8))||(v5.2.2 !=0))||(v5.1 !=3)) true (vI v5.2.1) rfl rfl rfl rfl (fun hg=>(r_move rfl))<|rgs ((((((((((v6 !=0)||(v2.2 !=0))||(v2.1 !=24))||(v3.2 !=0))||(!(strEq v3.1 (⟨#[99,104,97,114,32,91,56,93]⟩:ByteArray))))||(v4.2 !=0))||(v4.1.vType !=2))||(v4.1.vAt !=8))||(v5.2.2 !=0))||(v5.1 !=3)) true (vB (v5.2.1 !=16)) rfl rfl rfl rfl (fun hg=>(r_bin (gvt (vI v5.2.1) hg rfl) rfl rfl))<|run_frame (by simp only [sc0,sc1];rfl) ?_
 refine rs (vB (((((((((((v6 !=0)||(v2.2 !=0))||(v2.1 !=24))||(v3.2 !=0))||(!(strEq v3.1 (⟨#[99,104,97,114,32,91,56,93]⟩:ByteArray))))||(v4.2 !=0))||(v4.1.vType !=2))||(v4.1.vAt !=8))||(v5.2.2 !=0))||(v5.1 !=3))||(v5.2.1 !=16))) (r_pick_or rfl rfl (fun hp=>(gvt (vB (v5.2.1 !=16)) (and_i rfl hp) rfl))) ?_
 try simp only [sc0,sc1]
 refine run_nil<|norm_then<|wp_cond_split (t:=(((((((((((v6 !=0)||(v2.2 !=0))||(v2.1 !=24))||(v3.2 !=0))||(!(strEq v3.1 (⟨#[99,104,97,114,32,91,56,93]⟩:ByteArray))))||(v4.2 !=0))||(v4.1.vType !=2))||(v4.1.vAt !=8))||(v5.2.2 !=0))||(v5.1 !=3))||(v5.2.1 !=16))) rfl (fun c1=>?_) (fun c1=>?_)
 ·replace H:=of_pos H c1
  refine wp_seq<|region<|rs (vB false) (r_assign rfl) ?_
  try simp only [sc0,sc1]
  refine run_nil<|norm_then<|wp_ret<|ret_then ?_
  obtain rfl:=Option.some.inj H
  exact bodyPost_ret (results_1 rfl (one_tmp rfl)) rfl<|⟨rfl,HS11.toE⟩
 ·replace H:=of_neg H (nt c1)
  refine wp_skip<|norm_then<|wp_seq<|region<|rs (Value.agg #[vL Av1_0_0 v1.vDefs.length cv1_0_0]) (r_loadBoxAgg (n:=1) (vs:=[vL Av1_0_0 v1.vDefs.length cv1_0_0]) rfl Tryd.isAgg24 (HS11.look 2 rfl) Tryd.sizeOf24 rfl rfl) ?_
  obtain ⟨v7,H7,H⟩:=of_bind H
  refine run_eq (v:=Value.tuple #[Value.agg #[vS v7.1.vName,vI v7.1.vType,vI v7.1.vAt],vI v7.2]) rfl rfl (does_call_eq Tryd.call16 rfl rfl (ctf_Member.calls k v1 2 (⟨#[116,95,116,105,100]⟩:ByteArray) Av1_0_0 cv1_0_0 HS11.sees hrv1_0_0 hcv1_0_0 H7)) ?_
  intro w12 hE9
  have HS12:=HS11.step hE9
  refine rs (Value.tuple #[Value.agg #[vS v7.1.vName,vI v7.1.vType,vI v7.1.vAt],vI v7.2]) (r_move rfl)<|rs (Value.agg #[vS v7.1.vName,vI v7.1.vType,vI v7.1.vAt]) (r_extract rfl rfl)<|run_frame (by simp only [sc0,sc1];rfl) ?_
  refine rs (vI v7.2) (r_extract rfl rfl)<|run_ex rfl rfl (does_alloc (cs:=#[vS ByteArray.empty,vI 0,vI 0]) Tryd.zeroValue36 rfl) ?_
  rintro w13 _ hE10 ⟨b4,rfl,ge3,hb3⟩
  have HS13:=HS12.new hE10 ge3 hb3
  refine run_st (i:=0) (cs:=[vS ByteArray.empty,vI 0,vI 0]) (cs':=[vS v7.1.vName,vI v7.1.vType,vI v7.1.vAt]) (vs:=[vS v7.1.vName,vI v7.1.vType,vI v7.1.vAt]) (bs':=[(some b4, .cells #[vS v7.1.vName,vI v7.1.vType,vI v7.1.vAt] 36 (0,0)),((some b3), .cells ([vS (⟨#[116,95,110,97,109,101]⟩:ByteArray)]).toArray 9 (0,0)),(some b2, .cells #[vS v4.1.vName,vI v4.1.vType,vI v4.1.vAt] 36 (0,0)),(some b1, .cells #[vL Av1_0_0 v1.vDefs.length cv1_0_0] 24 (0,0))]) rfl rfl Tryd.sizeOf36 rfl rfl (by decide) rfl HS13 rfl (Nat.le_of_ble_eq_true rfl) rfl rfl ?_
  intro w14 HS14
  refine rs (vI v7.2) (r_assign rfl) ?_
  try simp only [sc0,sc1]
  refine run_nil<|norm_then<|wp_seq<|region<|run_bs0 k_api_Def Tryd.runUnderlying22 Tryd.typeInfo34 HS14 ?_
  intro w15 b5 HS15 ho2
  refine rs (vP b1 0) (r_fieldBox (n:=1) (o':=0) rfl Tryd.runUnderlying24 rfl Tryd.sizeOf22 (by decide) rfl)<|rs (vL Av1_0_0 v1.vDefs.length cv1_0_0) (r_loadBox rfl Tryd.isAgg22 (HS15.look 4 rfl) rfl) ?_
  obtain ⟨nw1,sr1,hn1⟩:=src_rd (c:=cv1_0_0) one_api_Def Tryd.runUnderlying22 HS15.sees hrv1_0_0
  obtain ⟨hl2,H⟩:=of_ite H
  refine run_app k_api_Def (q:=0) (cs:=([]:List Value)) rfl rfl Tryd.runUnderlying22 Tryd.typeInfo34 Tryd.zeroValue34 rfl (by decide) rfl sr1 rfl hn1 hl2 HS15 rfl ho2 ?_
  intro w16 ob1 c2 cs1 HS16 ho3
  refine run_frame (by simp only [sc0,sc1];rfl) ?_
  refine rs (Value.agg #[vI 2,vS ByteArray.empty,vI 0,vB false,vI 1,vI 0,vL none 0 0]) (r_build (cs:=[vI 2,vS ByteArray.empty,vI 0,vB false,vI 1,vI 0,vL none 0 0]) (ps:=[(0,vI 2),(3,vI 1)]) Tryd.zeroValue34 Tryd.runUnderlying34 (pl:=#[(0,1),(1,1),(2,2),(4,1),(5,1),(6,1)]) (fun w=>by simp [Tryd.sizeOf3,Tryd.sizeOf31,Tryd.sizeOf32,Tryd.sizeOf9]) (parts_2 (show _=vI 2 from rfl) (show _=vI 1 from rfl)) rfl) ?_
  refine run_bs k_api_Def (xs:=([(⟨2,ByteArray.empty,(⟨0,false⟩:api_Int),1,0,[]⟩:api_Def)]:List api_Def)) (n:=1) (cs:=[vI 2,vS ByteArray.empty,vI 0,vB false,vI 1,vI 0,vL none 0 0]) Tryd.runUnderlying22 Tryd.typeInfo34 Tryd.zeroValue34 rfl rfl (by decide) (by decide) (by decide) [Value.agg #[vI 2,vS ByteArray.empty,vI 0,vB false,vI 1,vI 0,vL none 0 0]] (parts_any.trans rfl) rfl rfl rfl rfl (elems_cons (qs:=[vI 2,vS ByteArray.empty,vI 0,vB false,vI 1,vI 0,vL none 0 0]) ⟨[vI 2],[vS ByteArray.empty,vI 0,vB false,vI 1,vI 0,vL none 0 0],rfl,rfl,⟨[vS ByteArray.empty],[vI 0,vB false,vI 1,vI 0,vL none 0 0],rfl,rfl,⟨[vI 0,vB false],[vI 1,vI 0,vL none 0 0],rfl,⟨[vI 0],[vB false],rfl,rfl,rfl⟩,⟨[vI 1],[vI 0,vL none 0 0],rfl,rfl,⟨[vI 0],[vL none 0 0],rfl,rfl,⟨none,0,rfl,(Nat.le_refl 0),(Rd.nil _ _ _)⟩⟩⟩⟩⟩⟩ (elems_nil (cs:=[]))) HS16 ?_
  intro w17 b6 HS17 ho4
  obtain ⟨hl3,H⟩:=of_ite H
  refine run_app k_api_Def (q:=1) (cs:=cs1) rfl rfl Tryd.runUnderlying22 Tryd.typeInfo34 Tryd.zeroValue34 rfl (by decide) rfl (src_row Tryd.runUnderlying22 HS17 (i:=0) rfl ho4 rfl) ho4.len (src_row_elems ho4) hl3 HS17 rfl ho3 ?_
  intro w18 ob2 c3 cs2 HS18 ho5
  refine rs (Value.agg #[vL (rowA ob2) ((0+v1.vDefs.length)+1) c3]) (r_build (cs:=[vL (rowA ob2) ((0+v1.vDefs.length)+1) c3]) (ps:=[(0,vL (rowA ob2) ((0+v1.vDefs.length)+1) c3)]) Tryd.zeroValue24 Tryd.runUnderlying24 (pl:=#[(0,1)]) (fun w=>by simp [Tryd.sizeOf22]) (parts_1 (show _=vL (rowA ob2) ((0+v1.vDefs.length)+1) c3 from rfl)) rfl) ?_
  refine run_frame (by simp only [sc0,sc1];rfl) ?_
  refine run_ex rfl rfl (does_alloc (cs:=#[vL none 0 0]) Tryd.zeroValue24 rfl) ?_
  rintro w19 _ hE11 ⟨b7,rfl,ge4,hb4⟩
  have HS19:=HS18.new hE11 ge4 hb4
  refine run_st (i:=0) (cs:=[vL none 0 0]) (cs':=[vL (rowA ob2) ((0+v1.vDefs.length)+1) c3]) (vs:=[vL (rowA ob2) ((0+v1.vDefs.length)+1) c3]) (bs':=[(some b7, .cells #[vL (rowA ob2) ((0+v1.vDefs.length)+1) c3] 24 (0,0)),((some b6), .cells ([vI 2,vS ByteArray.empty,vI 0,vB false,vI 1,vI 0,vL none 0 0]).toArray 34 (0,0)),(ob2, .cells (cs2).toArray 34 (0,0)),(some b4, .cells #[vS v7.1.vName,vI v7.1.vType,vI v7.1.vAt] 36 (0,0)),((some b3), .cells ([vS (⟨#[116,95,110,97,109,101]⟩:ByteArray)]).toArray 9 (0,0)),(some b2, .cells #[vS v4.1.vName,vI v4.1.vType,vI v4.1.vAt] 36 (0,0)),(some b1, .cells #[vL Av1_0_0 v1.vDefs.length cv1_0_0] 24 (0,0))]) rfl rfl Tryd.sizeOf24 rfl rfl (by decide) rfl HS19 rfl (Nat.le_of_ble_eq_true rfl) rfl rfl ?_
  intro w20 HS20
  try simp only [sc0,sc1]
  refine run_nil<|norm_then<|wp_seq<|region<|rs (Value.agg #[vL (rowA ob2) ((0+v1.vDefs.length)+1) c3]) (r_loadBoxAgg (n:=1) (vs:=[vL (rowA ob2) ((0+v1.vDefs.length)+1) c3]) rfl Tryd.isAgg24 (HS20.look 0 rfl) Tryd.sizeOf24 rfl rfl) ?_
  have HS21:St [] h0 w0 h1 [(some b7, .cells #[vL (rowA ob2) (((([]:List api_Def)++v1.vDefs)++([(⟨2,ByteArray.empty,(⟨0,false⟩:api_Int),1,0,[]⟩:api_Def)]:List api_Def)).length) c3] 24 (0,0)),((some b6), .cells ([vI 2,vS ByteArray.empty,vI 0,vB false,vI 1,vI 0,vL none 0 0]).toArray 34 (0,0)),(ob2, .cells (cs2).toArray 34 (0,0)),(some b4, .cells #[vS v7.1.vName,vI v7.1.vType,vI v7.1.vAt] 36 (0,0)),((some b3), .cells ([vS (⟨#[116,95,110,97,109,101]⟩:ByteArray)]).toArray 9 (0,0)),(some b2, .cells #[vS v4.1.vName,vI v4.1.vType,vI v4.1.vAt] 36 (0,0)),(some b1, .cells #[vL Av1_0_0 v1.vDefs.length cv1_0_0] 24 (0,0))] w20:=HS20.cast (by first|rfl|(rw [ho5.len];done)|(rw [ho5.len];rfl))
  have ho6:=ho5.norm
  try rw [←ho5.len]
  obtain ⟨h2,HS22,hs2,rdp1⟩:=row_pub HS21 (i:=2) rfl ho6
  have HS23:St [] h0 w0 h2 [(some b7, .cells #[vL (rowA ob2) ((([]:List api_Def)++v1.vDefs)++([(⟨2,ByteArray.empty,(⟨0,false⟩:api_Int),1,0,[]⟩:api_Def)]:List api_Def)).length c3] 24 (0,0)),((some b6), .cells ([vI 2,vS ByteArray.empty,vI 0,vB false,vI 1,vI 0,vL none 0 0]).toArray 34 (0,0)),(some b4, .cells #[vS v7.1.vName,vI v7.1.vType,vI v7.1.vAt] 36 (0,0)),((some b3), .cells ([vS (⟨#[116,95,110,97,109,101]⟩:ByteArray)]).toArray 9 (0,0)),(some b2, .cells #[vS v4.1.vName,vI v4.1.vType,vI v4.1.vAt] 36 (0,0)),(some b1, .cells #[vL Av1_0_0 v1.vDefs.length cv1_0_0] 24 (0,0))] w20:=HS22
  replace hrv1_0_0:Rd k_api_Def h2 Av1_0_0 v1.vDefs:=hrv1_0_0.ext hs2
  replace ho4:=ho4.view hs2
  replace ho1:=ho1.view hs2
  obtain ⟨v8,H8,H⟩:=of_bind H
  refine run_ex rfl rfl (does_call Tryd.call28 rfl (gives_in (h:=h2) (R:=(fun hx u=>∃(Av8_0_0:Option Addr) (cv8_0_0:Nat),∃(Av8_1_0:Option Addr) (cv8_1_0:Nat),u=Value.tuple #[Value.agg #[vL Av8_0_0 v8.1.vDefs.length cv8_0_0],vL Av8_1_0 v8.2.1.length cv8_1_0,vI v8.2.2]∧v8.1.vDefs.length≤cv8_0_0∧Rd k_api_Def hx Av8_0_0 v8.1.vDefs∧v8.2.1.length≤cv8_1_0∧Rd (Kd.int .i64) hx Av8_1_0 v8.2.1)) (Ext.rfl' w20) ((ctf_Unique.calls k (⟨((([]:List api_Def)++v1.vDefs)++([(⟨2,ByteArray.empty,(⟨0,false⟩:api_Int),1,0,[]⟩:api_Def)]:List api_Def))⟩:api_Types) (rowA ob2) c3 HS23.sees (ht.s HS23) rdp1 ho6.cap H8).mono ?_)) rfl) ?_
  ·rintro _ _ ⟨h1,Av8_0_0,cv8_0_0,Av8_1_0,cv8_1_0,rfl,hcv8_0_0,hrv8_0_0,hcv8_1_0,hrv8_1_0,g,ss,x⟩
   exact ⟨h1,_,rfl,⟨Av8_0_0,cv8_0_0,Av8_1_0,cv8_1_0,rfl,hcv8_0_0,hrv8_0_0,hcv8_1_0,hrv8_1_0⟩,g,ss,x⟩
  rintro w21 _ hE12 ⟨h3,⟨Av8_0_0,cv8_0_0,Av8_1_0,cv8_1_0,rfl,hcv8_0_0,hrv8_0_0,hcv8_1_0,hrv8_1_0⟩,gr2,se3⟩
  have HS24:=HS23.view hE12 gr2 se3
  replace hrv1_0_0:Rd k_api_Def h3 Av1_0_0 v1.vDefs:=hrv1_0_0.ext gr2.1
  replace rdp1:Rd k_api_Def h3 (rowA ob2) ((([]:List api_Def)++v1.vDefs)++([(⟨2,ByteArray.empty,(⟨0,false⟩:api_Int),1,0,[]⟩:api_Def)]:List api_Def)):=rdp1.ext gr2.1
  replace ho4:=ho4.view gr2.1
  replace ho1:=ho1.view gr2.1
  refine rs (Value.tuple #[Value.agg #[vL Av8_0_0 v8.1.vDefs.length cv8_0_0],vL Av8_1_0 v8.2.1.length cv8_1_0,vI v8.2.2]) (r_move rfl)<|rs (Value.agg #[vL Av8_0_0 v8.1.vDefs.length cv8_0_0]) (r_extract rfl rfl)<|run_frame (by simp only [sc0,sc1];rfl) ?_
  refine rs (vL Av8_1_0 v8.2.1.length cv8_1_0) (r_extract rfl rfl)<|rs (vI v8.2.2) (r_extract rfl rfl)<|run_ex rfl rfl (does_alloc (cs:=#[vL none 0 0]) Tryd.zeroValue24 rfl) ?_
  rintro w22 _ hE13 ⟨b8,rfl,ge5,hb5⟩
  have HS25:=HS24.new hE13 ge5 hb5
  refine run_st (i:=0) (cs:=[vL none 0 0]) (cs':=[vL Av8_0_0 v8.1.vDefs.length cv8_0_0]) (vs:=[vL Av8_0_0 v8.1.vDefs.length cv8_0_0]) (bs':=[(some b8, .cells #[vL Av8_0_0 v8.1.vDefs.length cv8_0_0] 24 (0,0)),(some b7, .cells #[vL (rowA ob2) ((([]:List api_Def)++v1.vDefs)++([(⟨2,ByteArray.empty,(⟨0,false⟩:api_Int),1,0,[]⟩:api_Def)]:List api_Def)).length c3] 24 (0,0)),((some b6), .cells ([vI 2,vS ByteArray.empty,vI 0,vB false,vI 1,vI 0,vL none 0 0]).toArray 34 (0,0)),(some b4, .cells #[vS v7.1.vName,vI v7.1.vType,vI v7.1.vAt] 36 (0,0)),((some b3), .cells ([vS (⟨#[116,95,110,97,109,101]⟩:ByteArray)]).toArray 9 (0,0)),(some b2, .cells #[vS v4.1.vName,vI v4.1.vType,vI v4.1.vAt] 36 (0,0)),(some b1, .cells #[vL Av1_0_0 v1.vDefs.length cv1_0_0] 24 (0,0))]) rfl rfl Tryd.sizeOf24 rfl rfl (by decide) rfl HS25 rfl (Nat.le_of_ble_eq_true rfl) rfl rfl ?_
  intro w23 HS26
  refine run_frame (by simp only [sc0,sc1];rfl) ?_
  refine rs (vL Av8_1_0 v8.2.1.length cv8_1_0) (r_assign rfl)<|rs (vI v8.2.2) (r_assign rfl) ?_
  try simp only [sc0,sc1]
  refine run_nil<|norm_then<|wp_seq<|region<|rs (Value.agg #[vL none 0 0]) (r_build0 (cs:=[vL none 0 0]) Tryd.zeroValue24 Tryd.runUnderlying24 (pl:=#[(0,1)]) (fun w=>by simp [Tryd.sizeOf22]) rfl) ?_
  obtain ⟨v9,H9,H⟩:=of_bind H
  refine run_ex rfl rfl (does_call Tryd.call37 rfl (gives_in (h:=h3) (R:=(fun hx u=>∃(Av9_0_0:Option Addr) (cv9_0_0:Nat),u=Value.tuple #[vL Av9_0_0 v9.1.length cv9_0_0,vI v9.2]∧v9.1.length≤cv9_0_0∧Rd (Kd.int .u8) hx Av9_0_0 v9.1)) (Ext.rfl' w23) ((ctf_Encode.calls k (⟨[]⟩:api_Types) none 0 HS26.sees (Rd.nil _ _ _) (Nat.le_refl 0) H9).mono ?_)) rfl) ?_
  ·rintro _ _ ⟨h1,Av9_0_0,cv9_0_0,rfl,hcv9_0_0,hrv9_0_0,g,ss,x⟩
   exact ⟨h1,_,rfl,⟨Av9_0_0,cv9_0_0,rfl,hcv9_0_0,hrv9_0_0⟩,g,ss,x⟩
  rintro w24 _ hE14 ⟨h4,⟨Av9_0_0,cv9_0_0,rfl,hcv9_0_0,hrv9_0_0⟩,gr3,se4⟩
  have HS27:=HS26.view hE14 gr3 se4
  replace hrv1_0_0:Rd k_api_Def h4 Av1_0_0 v1.vDefs:=hrv1_0_0.ext gr3.1
  replace rdp1:Rd k_api_Def h4 (rowA ob2) ((([]:List api_Def)++v1.vDefs)++([(⟨2,ByteArray.empty,(⟨0,false⟩:api_Int),1,0,[]⟩:api_Def)]:List api_Def)):=rdp1.ext gr3.1
  replace hrv8_0_0:Rd k_api_Def h4 Av8_0_0 v8.1.vDefs:=hrv8_0_0.ext gr3.1
  replace hrv8_1_0:Rd (Kd.int .i64) h4 Av8_1_0 v8.2.1:=hrv8_1_0.ext gr3.1
  replace ho4:=ho4.view gr3.1
  replace ho1:=ho1.view gr3.1
  refine rs (Value.tuple #[vL Av9_0_0 v9.1.length cv9_0_0,vI v9.2]) (r_move rfl)<|rs (vL Av9_0_0 v9.1.length cv9_0_0) (r_extract rfl rfl)<|run_frame (by simp only [sc0,sc1];rfl) ?_
  refine rs (vI v9.2) (r_extract rfl rfl)<|rs (vL Av9_0_0 v9.1.length cv9_0_0) (r_assign rfl)<|rs (vI v9.2) (r_assign rfl) ?_
  try simp only [sc0,sc1]
  refine run_nil<|norm_then<|wp_seq<|region<|rs (vI v7.2) (r_move rfl)<|rs (vB (v7.2==5)) (r_bin rfl rfl rfl)<|rs (vB (v7.2==5)) (r_move rfl)<|rgs (v7.2==5) true (vI v8.2.2) rfl rfl rfl rfl (fun hg=>(r_move rfl))<|run_frame (by simp only [sc0,sc1];rfl) ?_
  refine rgs (v7.2==5) true (vB (v8.2.2==0)) rfl rfl rfl rfl (fun hg=>(r_bin (gvt (vI v8.2.2) hg rfl) rfl rfl))<|rs (vB ((v7.2==5)&&(v8.2.2==0))) (r_pick_and rfl (fun hp=>(gvt (vB (v8.2.2==0)) (and_i rfl hp) rfl)) rfl)<|rs (vB ((v7.2==5)&&(v8.2.2==0))) (r_move rfl)<|rgs ((v7.2==5)&&(v8.2.2==0)) true (Value.agg #[vL Av8_0_0 v8.1.vDefs.length cv8_0_0]) rfl rfl rfl rfl (fun hg=>(r_loadBoxAgg (n:=1) (vs:=[vL Av8_0_0 v8.1.vDefs.length cv8_0_0]) rfl Tryd.isAgg24 (HS27.look 0 rfl) Tryd.sizeOf24 rfl rfl))<|run_frame (by simp only [sc0,sc1];rfl) ?_
  refine rgs ((v7.2==5)&&(v8.2.2==0)) true (Value.agg #[vL Av1_0_0 v1.vDefs.length cv1_0_0]) rfl rfl rfl rfl (fun hg=>(r_loadBoxAgg (n:=1) (vs:=[vL Av1_0_0 v1.vDefs.length cv1_0_0]) rfl Tryd.isAgg24 (HS27.look 6 rfl) Tryd.sizeOf24 rfl rfl)) ?_
  obtain ⟨v10,H10,H⟩:=of_bind H
  refine run_g (b:=((v7.2==5)&&(v8.2.2==0))) (c:=true) (v:=vB v10) rfl rfl rfl rfl (fun hg=>(does_call_eq Tryd.call30 rfl (map2 (gvt (Value.agg #[vL Av8_0_0 v8.1.vDefs.length cv8_0_0]) hg rfl) (gvt (Value.agg #[vL Av1_0_0 v1.vDefs.length cv1_0_0]) hg rfl)) (taplineref08_Same.calls k v8.1 v1 Av8_0_0 cv8_0_0 Av1_0_0 cv1_0_0 HS27.sees hrv8_0_0 hcv8_0_0 hrv1_0_0 hcv1_0_0 (of_pos H10 hg)))) ?_
  intro w25 hE15
  have HS28:=HS27.step hE15
  refine rs (vB (((v7.2==5)&&(v8.2.2==0))&&v10)) (r_pick_and rfl (fun hp=>(gvt (vB v10) (and_i rfl hp) rfl)) rfl)<|rs (vB (((v7.2==5)&&(v8.2.2==0))&&v10)) (r_move rfl)<|run_frame (by simp only [sc0,sc1];rfl) ?_
  refine rgs (((v7.2==5)&&(v8.2.2==0))&&v10) true (vL Av8_1_0 v8.2.1.length cv8_1_0) rfl rfl rfl rfl (fun hg=>(r_move rfl))<|run_gbs (b:=(((v7.2==5)&&(v8.2.2==0))&&v10)) (c:=true) (Kd.int .i64) (xs:=([0,1,2,3,4,2]:List Int)) (n:=6) (cs:=[vI 0,vI 1,vI 2,vI 3,vI 4,vI 2]) rfl rfl Tryd.runUnderlying62 Tryd.typeInfo3 Tryd.zeroValue3 rfl rfl (by decide) (by decide) (by decide) [vI 0,vI 1,vI 2,vI 3,vI 4,vI 2] (fun _=>parts_any.trans rfl) rfl rfl rfl rfl (elems_cons (qs:=[vI 0]) rfl (elems_cons (qs:=[vI 1]) rfl (elems_cons (qs:=[vI 2]) rfl (elems_cons (qs:=[vI 3]) rfl (elems_cons (qs:=[vI 4]) rfl (elems_cons (qs:=[vI 2]) rfl (elems_nil (cs:=[])))))))) HS28 ?_
  intro w26 h5 Ag1 HS29 hs3 hq1
  replace hrv1_0_0:Rd k_api_Def h5 Av1_0_0 v1.vDefs:=hrv1_0_0.ext (And.intro hs3 trivial).1
  replace rdp1:Rd k_api_Def h5 (rowA ob2) ((([]:List api_Def)++v1.vDefs)++([(⟨2,ByteArray.empty,(⟨0,false⟩:api_Int),1,0,[]⟩:api_Def)]:List api_Def)):=rdp1.ext (And.intro hs3 trivial).1
  replace hrv8_0_0:Rd k_api_Def h5 Av8_0_0 v8.1.vDefs:=hrv8_0_0.ext (And.intro hs3 trivial).1
  replace hrv8_1_0:Rd (Kd.int .i64) h5 Av8_1_0 v8.2.1:=hrv8_1_0.ext (And.intro hs3 trivial).1
  replace hrv9_0_0:Rd (Kd.int .u8) h5 Av9_0_0 v9.1:=hrv9_0_0.ext (And.intro hs3 trivial).1
  replace ho4:=ho4.view (And.intro hs3 trivial).1
  replace ho1:=ho1.view (And.intro hs3 trivial).1
  obtain ⟨v11,H11,H⟩:=of_bind H
  refine run_g (b:=(((v7.2==5)&&(v8.2.2==0))&&v10)) (c:=true) (v:=vB v11) rfl rfl rfl rfl (fun hg=>(does_call_eq Tryd.call35 rfl (map2 (gvt (vL Av8_1_0 v8.2.1.length cv8_1_0) hg rfl) (gvt (vL Ag1 ([0,1,2,3,4,2]:List Int).length 6) hg rfl)) (taplineref08_SameInts.calls k v8.2.1 ([0,1,2,3,4,2]:List Int) Av8_1_0 cv8_1_0 Ag1 6 HS29.sees hrv8_1_0 hcv8_1_0 ((hq1 hg)) ((Nat.le_refl _)) (of_pos H11 hg)))) ?_
  intro w27 hE16
  have HS30:=HS29.step hE16
  refine rs (vB ((((v7.2==5)&&(v8.2.2==0))&&v10)&&v11)) (r_pick_and rfl (fun hp=>(gvt (vB v11) (and_i rfl hp) rfl)) rfl)<|run_frame (by simp only [sc0,sc1];rfl) ?_
  refine rs (vB ((((v7.2==5)&&(v8.2.2==0))&&v10)&&v11)) (r_move rfl)<|rgs ((((v7.2==5)&&(v8.2.2==0))&&v10)&&v11) true (vI v9.2) rfl rfl rfl rfl (fun hg=>(r_move rfl))<|rgs ((((v7.2==5)&&(v8.2.2==0))&&v10)&&v11) true (vB (v9.2==0)) rfl rfl rfl rfl (fun hg=>(r_bin (gvt (vI v9.2) hg rfl) rfl rfl))<|rs (vB (((((v7.2==5)&&(v8.2.2==0))&&v10)&&v11)&&(v9.2==0))) (r_pick_and rfl (fun hp=>(gvt (vB (v9.2==0)) (and_i rfl hp) rfl)) rfl)<|run_frame (by simp only [sc0,sc1];rfl) ?_
  refine rs (vB (((((v7.2==5)&&(v8.2.2==0))&&v10)&&v11)&&(v9.2==0))) (r_move rfl)<|rgs (((((v7.2==5)&&(v8.2.2==0))&&v10)&&v11)&&(v9.2==0)) true (vL Av9_0_0 v9.1.length cv9_0_0) rfl rfl rfl rfl (fun hg=>(r_move rfl))<|rgs (((((v7.2==5)&&(v8.2.2==0))&&v10)&&v11)&&(v9.2==0)) true (vS (strOf v9.1)) rfl rfl rfl rfl (fun hg=>(r_b2s (gvt (vL Av9_0_0 v9.1.length cv9_0_0) hg rfl) Tryd.runUnderlying80 Tryd.runUnderlying9 Tryd.runUnderlying5 HS30.sees hrv9_0_0))<|rgs (((((v7.2==5)&&(v8.2.2==0))&&v10)&&v11)&&(v9.2==0)) true (vB (strEq (strOf v9.1) (⟨#[67,84,70,1,0]⟩:ByteArray))) rfl rfl rfl rfl (fun hg=>(r_streql (gvt (vS (strOf v9.1)) hg rfl) rfl))<|run_frame (by simp only [sc0,sc1];rfl) ?_
  refine rs (vB ((((((v7.2==5)&&(v8.2.2==0))&&v10)&&v11)&&(v9.2==0))&&(strEq (strOf v9.1) (⟨#[67,84,70,1,0]⟩:ByteArray)))) (r_pick_and rfl (fun hp=>(gvt (vB (strEq (strOf v9.1) (⟨#[67,84,70,1,0]⟩:ByteArray))) (and_i rfl hp) rfl)) rfl)<|rs (vB ((((((v7.2==5)&&(v8.2.2==0))&&v10)&&v11)&&(v9.2==0))&&(strEq (strOf v9.1) (⟨#[67,84,70,1,0]⟩:ByteArray)))) (r_assign rfl) ?_
  try simp only [sc0,sc1]
  refine run_nil<|norm_then<|wp_ret ?_
  obtain rfl:=Option.some.inj H
  exact bodyPost_ret (results_1 rfl (one_tmp rfl)) rfl<|⟨rfl,HS30.toE⟩
end Go.Proofs.YtfjppgobidjndaaDoor
/-ctf.Decode's deferred function:it leaves what is returned as it is;it recovers from what is malformed. -/
namespace Go.Proofs.YtfjppgobidjndaaDoor
open Go.RowKit Go.M
/-- what the readers panic with -/
def bad:Value:= .iface 120 (.agg #[])
def badB:Value→Bool
 | .iface 120 (.agg ⟨[]⟩)=>true
 |_=>false
theorem bad_of {v:Value} (h:badB v=true):v=bad:=by
 unfold badB at h
 split at h
 ·rfl
 ·cases h
section
variable {M:List Nat} {h0 h:View} {w0 w:World} {bs rest:List Res}
set_option maxRecDepth 20000
set_option maxHeartbeats 4000000
theorem decode1_quiet (x y:Value) (HS:St M h0 w0 h bs w):CallsD Tryd.prog 71 [x,y].toArray .returning w (fun e u' w'=>(∃v,e= .returned v)∧u'= .returning∧St M h0 w0 h bs w'):=by
 refine callsD_of_wpS Tryd.func71 rfl ?_
 simp only [Tryd.ntmps71,List.size_toArray,List.length_cons,List.length_nil,Nat.reduceAdd,Nat.reduceSub,Array.replicate_succ,Array.replicate_zero,List.push_toArray,List.append_toArray,List.nil_append,List.cons_append]
 intro c₀ cs hm
 refine wpS_seq<|recover_none (Nat.le_of_ble_eq_true rfl) (by simp [recoverD,hm]) ?_
 simp only [sc0,sc1]
 refine wpS_of_wp<|wp_seq<|region<|rs Value.nilIface (r_move rfl)<|rs (vB false) rfl ?_
 try simp only [sc0,sc1]
 refine run_nil<|norm_then<|wp_cond_false rfl<|wp_skip<|⟨rfl, .returning,?_,_,results_none rfl _ _ _,⟨_,rfl⟩,rfl,HS⟩
 rw [←hm]
theorem decode1_caught {b2 b3:Nat} {cs2 cs3:List Value} (HS:St M h0 w0 h ((some b2, .cells cs2.toArray 24 (0,0))::(some b3, .cells cs3.toArray 27 (0,0))::rest) w) (e2:cs2.length=1) (e3:cs3.length=1):
  CallsD Tryd.prog 71 [vP b2 0,vP b3 0].toArray (.panicking [{v:=bad,recovered:=false}]) w (fun e u' w'=>(∃v,e= .returned v)∧u'= .panicking [{v:=bad,recovered:=true}]∧St M h0 w0 h ((some b2, .cells #[vL none 0 0] 24 (0,0))::(some b3, .cells #[vI 81] 27 (0,0))::rest) w'):=by
 refine callsD_of_wpS Tryd.func71 rfl ?_
 simp only [Tryd.ntmps71,List.size_toArray,List.length_cons,List.length_nil,Nat.reduceAdd,Nat.reduceSub,Array.replicate_succ,Array.replicate_zero,List.push_toArray,List.append_toArray,List.nil_append,List.cons_append]
 intro c₀ cs hm
 refine wpS_seq<|recover_some (v:=bad) (cs':={c₀ with mode:= .panicking [{v:=bad,recovered:=true}]}::cs) (Nat.le_of_ble_eq_true rfl) (by simp [recoverD,hm]) ?_
 simp only [sc0,sc1]
 refine wpS_of_wp<|wp_seq<|region<|rs bad (r_move rfl)<|rs (vB true) rfl ?_
 try simp only [sc0,sc1]
 refine run_nil<|norm_then<|wp_cond_true rfl<|wp_seq<|wp_seq<|region<|rs bad (r_move rfl)<|rs (Value.tuple #[.agg #[], .bool true]) (by kernel_rfl) ?_
 refine rs (Value.tuple #[.agg #[], .bool true]) (r_move rfl)<|rs (Value.agg #[]) (by kernel_rfl) ?_
 refine run_frame (by simp only [sc0,sc1];rfl) ?_
 refine rs (vB true) (by kernel_rfl) ?_
 refine run_ex rfl rfl (does_alloc (cs:=#[]) Tryd.zeroValue120 rfl) ?_
 rintro w1 _ hE1 ⟨b4,rfl,ge1,hb1⟩
 have HS1:=HS.step hE1
 refine run_st0 rfl rfl Tryd.sizeOf120<|rs (vB true) (r_assign rfl) ?_
 try simp only [sc0,sc1]
 refine run_nil<|norm_then<|wp_seq<|region<|rs (vB true) (r_move rfl)<|rs (vB false) (by kernel_rfl) ?_
 try simp only [sc0,sc1]
 refine run_nil<|norm_then<|wp_cond_false rfl<|wp_skip<|norm_then<|region<|rs (Value.agg #[vL none 0 0]) (by kernel_rfl) ?_
 refine run_st (i:=0) (cs:=cs2) (cs':=[vL none 0 0]) (vs:=[vL none 0 0]) (bs':=(some b2, .cells #[vL none 0 0] 24 (0,0))::(some b3, .cells cs3.toArray 27 (0,0))::rest) rfl rfl Tryd.sizeOf24 rfl rfl (by decide) rfl HS1 rfl (by rw [e2];decide) ?_ rfl ?_
 ·obtain ⟨c,rfl⟩:∃c,cs2=[c]:=by
   match cs2,e2 with
   |[c],_=>exact ⟨c,rfl⟩
  rfl
 intro w2 HS2
 refine run_st (i:=1) (cs:=cs3) (cs':=[vI 81]) (vs:=[vI 81]) (bs':=(some b2, .cells #[vL none 0 0] 24 (0,0))::(some b3, .cells #[vI 81] 27 (0,0))::rest) rfl rfl Tryd.sizeOf27 rfl rfl (by decide) rfl HS2 rfl (by rw [e3];decide) ?_ rfl ?_
 ·obtain ⟨c,rfl⟩:∃c,cs3=[c]:=by
   match cs3,e3 with
   |[c],_=>exact ⟨c,rfl⟩
  rfl
 intro w3 HS3
 try simp only [sc0,sc1]
 refine run_nil<|⟨rfl, .panicking [{v:=bad,recovered:=true}],rfl,_,results_none rfl _ _ _,⟨_,rfl⟩,rfl,HS3⟩
end
end Go.Proofs.YtfjppgobidjndaaDoor
namespace Go.Proofs.YtfjppgobidjndaaDoor
open Go.RowKit Go.M
def ctf_bytesLeft_take.f (p0:List Int) (a1:Int):Option (Except Value ((List Int)×(List Int))):=if ((decide (a1<0))||(decide (a1>(p0.length:Int))))=true then (some (.error (Value.iface 120 (Value.agg #[])))) else (if 0≤a1∧a1≤(p0.length:Int) then (if 0≤a1∧a1≤(p0.length:Int) then (some (.ok ((List.take a1.toNat p0),(List.drop a1.toNat p0)))) else none) else none)
theorem ctf_bytesLeft_take.calls (p0:List Int) (a1:Int) (bp0:Nat) (Ap0:Option Addr) (cp0:Nat) {h0:View} {w0:World} {h:View} {w:World} {rest:List Res} (HS:St [] h0 w0 h ((some bp0, .cells #[vL Ap0 p0.length cp0] 126 (0,0))::rest) w) (hrp0:Rd (Kd.int .u8) h Ap0 p0) (hcp0:p0.length≤cp0) {r:Except Value ((List Int)×(List Int))} (H:ctf_bytesLeft_take.f p0 a1=some r):Calls Tryd.prog 72 #[vP bp0 0,vI a1] w (fun e w1=>match r with| .ok rok=>(∃(Az_r0_0:Option Addr) (cz_r0_0:Nat),∃(Az_p0:Option Addr) (cz_p0:Nat),e= .returned (vL Az_r0_0 rok.1.length cz_r0_0)∧rok.1.length≤cz_r0_0∧Rd (Kd.int .u8) h Az_r0_0 rok.1∧rok.2.length≤cz_p0∧Rd (Kd.int .u8) h Az_p0 rok.2∧St [] h0 w0 h ((some bp0, .cells #[vL Az_p0 rok.2.length cz_p0] 126 (0,0))::rest) w1)| .error pv=>(∃(csp0:List Value),e= .panicked [{v:=pv,recovered:=false}]∧St [] h0 w0 h ((some bp0, .cells csp0.toArray 126 (0,0))::rest) w1)):=by
 unfold ctf_bytesLeft_take.f at H
 have hsub:Sub h h:=Sub.rfl' h
 go_enter Tryd.func72,Tryd.ntmps72
 refine wp_seq<|region<|rs (vL none 0 0) (r_assign rfl) ?_
 try simp only [sc0,sc1]
 refine run_nil<|norm_then<|wp_seq<|wp_seq<|region<|rs (vI a1) (r_move rfl)<|rs (vB (decide (a1<0))) (r_bin rfl rfl rfl)<|rs (vB (decide (a1<0))) (r_move rfl)<|rgs (decide (a1<0)) true (vI a1) rfl rfl rfl rfl (fun hg=>(r_move rfl))<|run_frame (by simp only [sc0,sc1];rfl) ?_
 refine rgs (decide (a1<0)) true (vP bp0 0) rfl rfl rfl rfl (fun hg=>(r_move rfl))<|rgs (decide (a1<0)) true (vP bp0 0) rfl rfl rfl rfl (fun hg=>(r_nilCheck (gvt (vP bp0 0) hg rfl)))<|rgs (decide (a1<0)) true (vP bp0 0) rfl rfl rfl rfl (fun hg=>(r_fieldBox (n:=1) (o':=0) (gvt (vP bp0 0) hg rfl) Tryd.runUnderlying124 rfl Tryd.sizeOf80 (by decide) rfl))<|rgs (decide (a1<0)) true (vL Ap0 p0.length cp0) rfl rfl rfl rfl (fun hg=>(r_loadBox (gvt (vP bp0 0) hg rfl) Tryd.isAgg80 (HS.look 0 rfl) rfl))<|run_frame (by simp only [sc0,sc1];rfl) ?_
 refine rgs (decide (a1<0)) true (vI (p0.length:Int)) rfl rfl rfl rfl (fun hg=>(r_len (gvt (vL Ap0 p0.length cp0) hg rfl) Tryd.runUnderlying80))<|rgs (decide (a1<0)) true (vB (decide (a1>(p0.length:Int)))) rfl rfl rfl rfl (fun hg=>(r_bin (gvt (vI a1) hg rfl) (gvt (vI (p0.length:Int)) hg rfl) rfl))<|rs (vB ((decide (a1<0))||(decide (a1>(p0.length:Int))))) (r_pick_or rfl rfl (fun hp=>(gvt (vB (decide (a1>(p0.length:Int)))) (and_i rfl hp) rfl))) ?_
 try simp only [sc0,sc1]
 refine run_nil<|norm_then<|wp_cond_split (t:=((decide (a1<0))||(decide (a1>(p0.length:Int))))) rfl (fun c1=>?_) (fun c1=>?_)
 ·replace H:=of_pos H c1
  refine region<|rs (Value.agg #[]) (r_build0 (cs:=[]) Tryd.zeroValue120 Tryd.runUnderlying120 (pl:=#[]) (fun w=>by simp []) rfl) ?_
  refine rs (Value.iface 120 (Value.agg #[])) (r_iface rfl Tryd.runUnderlying120 (by intro m hm;cases hm)) ?_
  refine run_panic rfl<|panic_then ?_
  obtain rfl:=Option.some.inj H
  exact bodyPost_panic rfl<|⟨[vL Ap0 p0.length cp0],rfl,HS⟩
 ·replace H:=of_neg H (nt c1)
  refine wp_skip<|norm_then<|wp_seq<|region<|rs (vP bp0 0) (r_move rfl)<|rs (vP bp0 0) (r_nilCheck rfl)<|rs (vP bp0 0) (r_fieldBox (n:=1) (o':=0) rfl Tryd.runUnderlying124 rfl Tryd.sizeOf80 (by decide) rfl)<|rs (vL Ap0 p0.length cp0) (r_loadBox rfl Tryd.isAgg80 (HS.look 0 rfl) rfl)<|run_frame (by simp only [sc0,sc1];rfl) ?_
  refine rs (vI a1) (r_move rfl) ?_
  obtain ⟨hk1,H⟩:=of_ite H
  obtain ⟨hp1_r,hp1_c⟩:=Rd.partHi hrp0 hcp0 hk1
  refine rs (vL (partA Ap0 cp0 0 1) (List.take a1.toNat p0).length cp0) (r_partHi rfl hcp0 Tryd.runUnderlying80 Tryd.sizeOf5 rfl hk1)<|rs (vL (partA Ap0 cp0 0 1) (List.take a1.toNat p0).length cp0) (r_assign rfl) ?_
  try simp only [sc0,sc1]
  refine run_nil<|norm_then<|wp_seq<|region<|rs (vP bp0 0) (r_move rfl)<|rs (vP bp0 0) (r_move rfl)<|rs (vP bp0 0) (r_nilCheck rfl)<|rs (vP bp0 0) (r_fieldBox (n:=1) (o':=0) rfl Tryd.runUnderlying124 rfl Tryd.sizeOf80 (by decide) rfl)<|run_frame (by simp only [sc0,sc1];rfl) ?_
  refine rs (vL Ap0 p0.length cp0) (r_loadBox rfl Tryd.isAgg80 (HS.look 0 rfl) rfl)<|rs (vI a1) (r_move rfl) ?_
  obtain ⟨hk2,H⟩:=of_ite H
  obtain ⟨hp2_r,hp2_c⟩:=Rd.partLo hrp0 hcp0 hk2
  refine rs (vL (partA Ap0 cp0 a1.toNat 1) (List.drop a1.toNat p0).length (cp0-a1.toNat)) (r_partLo rfl hcp0 Tryd.runUnderlying80 Tryd.sizeOf5 rfl hk2)<|rs (vP bp0 0) (r_nilCheck rfl)<|run_frame (by simp only [sc0,sc1];rfl) ?_
  refine rs (vP bp0 0) (r_fieldBox (n:=1) (o':=0) rfl Tryd.runUnderlying124 rfl Tryd.sizeOf80 (by decide) rfl)<|run_st (i:=0) (cs:=[vL Ap0 p0.length cp0]) (cs':=[vL (partA Ap0 cp0 a1.toNat 1) (List.drop a1.toNat p0).length (cp0-a1.toNat)]) (vs:=[vL (partA Ap0 cp0 a1.toNat 1) (List.drop a1.toNat p0).length (cp0-a1.toNat)]) (bs':=((some bp0, .cells #[vL (partA Ap0 cp0 a1.toNat 1) (List.drop a1.toNat p0).length (cp0-a1.toNat)] 126 (0,0))::rest)) rfl rfl Tryd.sizeOf80 rfl rfl (by decide) rfl HS rfl (Nat.le_of_ble_eq_true rfl) rfl rfl ?_
  intro w1 HS1
  try simp only [sc0,sc1]
  refine run_nil<|norm_then<|wp_seq<|region<|rs (vL (partA Ap0 cp0 0 1) (List.take a1.toNat p0).length cp0) (r_move rfl)<|rs (vL (partA Ap0 cp0 0 1) (List.take a1.toNat p0).length cp0) (r_assign rfl) ?_
  try simp only [sc0,sc1]
  refine run_nil<|norm_then<|wp_ret ?_
  obtain rfl:=Option.some.inj H
  exact bodyPost_ret (results_1 rfl (one_tmp rfl)) rfl<|⟨(partA Ap0 cp0 0 1),cp0,(partA Ap0 cp0 a1.toNat 1),(cp0-a1.toNat),rfl,hp1_c,hp1_r,hp2_c,hp2_r,HS1⟩
def ctf_reader_int.l0:Nat→Int→Int→(List Int)→Option ((Except Value (Int×(List Int)))⊕(Int×(List Int)))
 |0,_,_,_=>none
 |m+1,y1_0,y1_1,y1_2=>(ctf_bytesLeft_take.f y1_2 1).bind fun v1=>(match v1 with| .error pv1=>some (.inl (.error pv1))| .ok v1o=>(if 0≤(0:Int)∧(0:Int)<v1o.1.length then (if ((y1_1==9)&&(decide ((rd 0 v1o.1 (0:Int))>1)))=true then (some (.inl (.error (Value.iface 120 (Value.agg #[]))))) else (if 0≤(IntKind.wrap .i64 (7*y1_1)) then (if (decide ((rd 0 v1o.1 (0:Int))<128))=true then (if (((rd 0 v1o.1 (0:Int))==0)&&(decide ((IntKind.wrap .i64 (y1_1+1))>1)))=true then (some (.inl (.error (Value.iface 120 (Value.agg #[]))))) else (some (.inr ((iOr .u64 y1_0 (iShl .u64 (IntKind.wrap .u64 (iAnd .u8 (rd 0 v1o.1 (0:Int)) 127)) (IntKind.wrap .i64 (7*y1_1)))),v1o.2)))) else (ctf_reader_int.l0 m (iOr .u64 y1_0 (iShl .u64 (IntKind.wrap .u64 (iAnd .u8 (rd 0 v1o.1 (0:Int)) 127)) (IntKind.wrap .i64 (7*y1_1)))) (IntKind.wrap .i64 (y1_1+1)) v1o.2)) else none)) else none))
def ctf_reader_int.f (k:Nat) (p0:List Int):Option (Except Value (Int×(List Int))):=(ctf_reader_int.l0 k 0 0 p0).bind fun xx1=>(match xx1 with| .inl r=>some r| .inr s1=>if ((iAnd .u64 s1.1 1)==1)=true then (some (.ok ((iNot .i64 (IntKind.wrap .i64 (iShr .u64 s1.1 1))),s1.2))) else (some (.ok ((IntKind.wrap .i64 (iShr .u64 s1.1 1)),s1.2))))
theorem ctf_reader_int.calls (k:Nat) (p0:List Int) (bp0:Nat) (Ap0:Option Addr) (cp0:Nat) {h0:View} {w0:World} {h:View} {w:World} {rest:List Res} (HS:St [] h0 w0 h ((some bp0, .cells #[vL Ap0 p0.length cp0] 126 (0,0))::rest) w) (hrp0:Rd (Kd.int .u8) h Ap0 p0) (hcp0:p0.length≤cp0) {r:Except Value (Int×(List Int))} (H:ctf_reader_int.f k p0=some r):Calls Tryd.prog 110 #[vP bp0 0] w (fun e w1=>match r with| .ok rok=>(∃(Az_p0:Option Addr) (cz_p0:Nat),e= .returned (vI rok.1)∧rok.2.length≤cz_p0∧Rd (Kd.int .u8) h Az_p0 rok.2∧St [] h0 w0 h ((some bp0, .cells #[vL Az_p0 rok.2.length cz_p0] 126 (0,0))::rest) w1)| .error pv=>(∃(csp0:List Value),e= .panicked [{v:=pv,recovered:=false}]∧St [] h0 w0 h ((some bp0, .cells csp0.toArray 126 (0,0))::rest) w1)):=by
 unfold ctf_reader_int.f at H
 have hsub:Sub h h:=Sub.rfl' h
 go_enter Tryd.func110,Tryd.ntmps110
 refine wp_seq<|region<|rs (vI 0) (r_assign rfl) ?_
 try simp only [sc0,sc1]
 refine run_nil<|norm_then<|wp_seq<|region<|rs (Value.int .u64 0) (r_assign rfl)<|rs (vI 0) (r_assign rfl) ?_
 try simp only [sc0,sc1]
 refine run_nil<|norm_then<|wp_seq ?_
 obtain ⟨xx1,H,G1⟩:=of_bind H
 refine loop_j [3,4,5,7,8,9,10,11,12,13,14,15,16,17,18,19,20,21,22,23,24,25,26,27,28,29,30,31,32,33,34,35,36,37,38,39,40] (fun m us w'=>∃y1_0 y1_1:Int,∃y1_2:List Int,∃(Ay1_2:Option Addr) (cy1_2:Nat),Fit us (fun uy1=>[Value.int .u64 y1_0,vI y1_1,(uy1 2),(uy1 3),(uy1 4),(uy1 5),(uy1 6),(uy1 7),(uy1 8),(uy1 9),(uy1 10),(uy1 11),(uy1 12),(uy1 13),(uy1 14),(uy1 15),(uy1 16),(uy1 17),(uy1 18),(uy1 19),(uy1 20),(uy1 21),(uy1 22),(uy1 23),(uy1 24),(uy1 25),(uy1 26),(uy1 27),(uy1 28),(uy1 29),(uy1 30),(uy1 31),(uy1 32),(uy1 33),(uy1 34),(uy1 35),(uy1 36)])∧ctf_reader_int.l0 m y1_0 y1_1 y1_2=some xx1∧y1_2.length≤cy1_2∧Rd (Kd.int .u8) h Ay1_2 y1_2∧St [] h0 w0 h ((some bp0, .cells #[vL Ay1_2 y1_2.length cy1_2] 126 (0,0))::rest) w') (fun us w'=>∃(s1:Int×(List Int)),xx1= .inr s1∧∃(Ao1_1:Option Addr) (co1_1:Nat),Fit us (fun uo1=>[Value.int .u64 s1.1,(uo1 1),(uo1 2),(uo1 3),(uo1 4),(uo1 5),(uo1 6),(uo1 7),(uo1 8),(uo1 9),(uo1 10),(uo1 11),(uo1 12),(uo1 13),(uo1 14),(uo1 15),(uo1 16),(uo1 17),(uo1 18),(uo1 19),(uo1 20),(uo1 21),(uo1 22),(uo1 23),(uo1 24),(uo1 25),(uo1 26),(uo1 27),(uo1 28),(uo1 29),(uo1 30),(uo1 31),(uo1 32),(uo1 33),(uo1 34),(uo1 35),(uo1 36)])∧s1.2.length≤co1_1∧Rd (Kd.int .u8) h Ao1_1 s1.2∧St [] h0 w0 h ((some bp0, .cells #[vL Ao1_1 s1.2.length co1_1] 126 (0,0))::rest) w') k ⟨0,0,p0,Ap0,cp0,(fit rfl),H,hcp0,hrp0,HS⟩ ?_ ?_
 ·rintro m us w1 ⟨y1_0,y1_1,y1_2,Ay1_2,cy1_2,huy1,H,hcy1_2,hry1_2,HS1⟩
  obtain ⟨uy1,rfl⟩:=unj huy1
  cases m with
  |zero=>exact absurd H (by simp [ctf_reader_int.l0])
  |succ m=>
   rw [ctf_reader_int.l0] at H
   try simp only [patch,sc0,sc1]
   refine wp_block<|wp_seq<|region<|rs (vP bp0 0) (r_move rfl)<|rs (vP bp0 0) (r_nilCheck rfl)<|rs (vP bp0 0) (r_fieldBox (n:=1) (o':=0) rfl Tryd.runUnderlying126 rfl Tryd.sizeOf124 (by decide) rfl) ?_
   obtain ⟨v1,H1,H⟩:=of_bind H
   rcases v1 with pv1|v1o
   ·refine run_callp (first:=[]) (vs:=[vP bp0 0,vI 1]) (caps:=[]) Tryd.call72 rfl rfl (ctf_bytesLeft_take.calls y1_2 1 bp0 Ay1_2 cy1_2 HS1 hry1_2 hcy1_2 H1) ?_
    rintro _ w2 ⟨csq1,rfl,HS2⟩
    refine .inr ⟨_,rfl,?_⟩
    refine panic_then<|panic_block<|panic_loop<|panic_then ?_
    obtain rfl:=Option.some.inj H
    obtain rfl:=Option.some.inj G1
    exact bodyPost_panic rfl<|⟨csq1,rfl,HS2⟩
   refine run_callp (first:=[]) (vs:=[vP bp0 0,vI 1]) (caps:=[]) Tryd.call72 rfl rfl (ctf_bytesLeft_take.calls y1_2 1 bp0 Ay1_2 cy1_2 HS1 hry1_2 hcy1_2 H1) ?_
   rintro _ w3 ⟨Av1o_r0_0,cv1o_r0_0,Av1o_p0,cv1o_p0,rfl,hcv1o_r0_0,hrv1o_r0_0,hcv1o_p0,hrv1o_p0,HS3⟩
   refine .inl ⟨_,rfl,?_⟩
   refine run_frame (by simp only [sc0,sc1];rfl) ?_
   obtain ⟨hi1,H⟩:=of_ite H
   obtain ⟨ad1,e1,hel1⟩:=ld_int hrv1o_r0_0 hi1.1 hi1.2
   refine rs (Value.pointer (some (Addr.add ad1 ((0:Int).toNat*1)))) (r_indexA (sz:=1) rfl e1 rfl hi1.1 hi1.2 Tryd.runUnderlying80 Tryd.sizeOf5)<|rs (Value.int .u8 (rd 0 v1o.1 (0:Int))) (r_load rfl Tryd.isAgg5 (hel1.cell0 HS3.sees rfl))<|rs (Value.int .u8 (rd 0 v1o.1 (0:Int))) (r_assign rfl) ?_
   try simp only [sc0,sc1]
   refine run_nil<|norm_then<|wp_seq<|wp_seq<|region<|rs (vI y1_1) (r_move rfl)<|rs (vB (y1_1==9)) (r_bin rfl rfl rfl)<|rs (vB (y1_1==9)) (r_move rfl)<|rgs (y1_1==9) true (Value.int .u8 (rd 0 v1o.1 (0:Int))) rfl rfl rfl rfl (fun hg=>(r_move rfl))<|run_frame (by simp only [sc0,sc1];rfl) ?_
   refine rgs (y1_1==9) true (vB (decide ((rd 0 v1o.1 (0:Int))>1))) rfl rfl rfl rfl (fun hg=>(r_bin (gvt (Value.int .u8 (rd 0 v1o.1 (0:Int))) hg rfl) rfl rfl))<|rs (vB ((y1_1==9)&&(decide ((rd 0 v1o.1 (0:Int))>1)))) (r_pick_and rfl (fun hp=>(gvt (vB (decide ((rd 0 v1o.1 (0:Int))>1))) (and_i rfl hp) rfl)) rfl) ?_
   try simp only [sc0,sc1]
   refine run_nil<|norm_then<|wp_cond_split (t:=((y1_1==9)&&(decide ((rd 0 v1o.1 (0:Int))>1)))) rfl (fun c1=>?_) (fun c1=>?_)
   ·replace H:=of_pos H c1
    refine region<|rs (Value.agg #[]) (r_build0 (cs:=[]) Tryd.zeroValue120 Tryd.runUnderlying120 (pl:=#[]) (fun w=>by simp []) rfl) ?_
    refine rs (Value.iface 120 (Value.agg #[])) (r_iface rfl Tryd.runUnderlying120 (by intro m hm;cases hm)) ?_
    refine run_panic rfl<|panic_then<|panic_block<|panic_loop<|panic_then ?_
    obtain rfl:=Option.some.inj H
    obtain rfl:=Option.some.inj G1
    exact bodyPost_panic rfl<|⟨[vL Av1o_p0 v1o.2.length cv1o_p0],rfl,HS3⟩
   ·replace H:=of_neg H (nt c1)
    refine wp_skip<|norm_then<|wp_seq<|region<|rs (Value.int .u64 y1_0) (r_move rfl)<|rs (Value.int .u8 (rd 0 v1o.1 (0:Int))) (r_move rfl)<|rs (Value.int .u8 (iAnd .u8 (rd 0 v1o.1 (0:Int)) 127)) (r_and rfl rfl)<|rs (Value.int .u64 (IntKind.wrap .u64 (iAnd .u8 (rd 0 v1o.1 (0:Int)) 127))) (r_conv rfl Tryd.runUnderlying5 Tryd.runUnderlying168)<|run_frame (by simp only [sc0,sc1];rfl) ?_
    refine rs (vI y1_1) (r_move rfl)<|rs (vI (w64 (7*y1_1))) (r_bin rfl rfl rfl) ?_
    obtain ⟨hb1,H⟩:=of_ite H
    refine rs (Value.int .u64 (iShl .u64 (IntKind.wrap .u64 (iAnd .u8 (rd 0 v1o.1 (0:Int)) 127)) (w64 (7*y1_1)))) (r_shl rfl rfl hb1)<|rs (Value.int .u64 (iOr .u64 y1_0 (iShl .u64 (IntKind.wrap .u64 (iAnd .u8 (rd 0 v1o.1 (0:Int)) 127)) (w64 (7*y1_1))))) (r_or rfl rfl)<|run_frame (by simp only [sc0,sc1];rfl) ?_
    refine rs (Value.int .u64 (iOr .u64 y1_0 (iShl .u64 (IntKind.wrap .u64 (iAnd .u8 (rd 0 v1o.1 (0:Int)) 127)) (w64 (7*y1_1))))) (r_assign rfl) ?_
    try simp only [sc0,sc1]
    refine run_nil<|norm_then<|wp_seq<|region<|rs (vI y1_1) (r_move rfl)<|rs (vI (w64 (y1_1+1))) (r_bin rfl rfl rfl)<|rs (vI (w64 (y1_1+1))) (r_assign rfl) ?_
    try simp only [sc0,sc1]
    refine run_nil<|norm_then<|wp_seq<|region<|rs (Value.int .u8 (rd 0 v1o.1 (0:Int))) (r_move rfl)<|rs (vB (decide ((rd 0 v1o.1 (0:Int))<128))) (r_bin rfl rfl rfl) ?_
    try simp only [sc0,sc1]
    refine run_nil<|norm_then<|wp_cond_split (t:=(decide ((rd 0 v1o.1 (0:Int))<128))) rfl (fun c2=>?_) (fun c2=>?_)
    ·replace H:=of_pos H c2
     refine wp_seq<|wp_seq<|region<|rs (Value.int .u8 (rd 0 v1o.1 (0:Int))) (r_move rfl)<|rs (vB ((rd 0 v1o.1 (0:Int))==0)) (r_bin rfl rfl rfl)<|rs (vB ((rd 0 v1o.1 (0:Int))==0)) (r_move rfl)<|rgs ((rd 0 v1o.1 (0:Int))==0) true (vI (w64 (y1_1+1))) rfl rfl rfl rfl (fun hg=>(r_move rfl))<|run_frame (by simp only [sc0,sc1];rfl) ?_
     refine rgs ((rd 0 v1o.1 (0:Int))==0) true (vB (decide ((w64 (y1_1+1))>1))) rfl rfl rfl rfl (fun hg=>(r_bin (gvt (vI (w64 (y1_1+1))) hg rfl) rfl rfl))<|rs (vB (((rd 0 v1o.1 (0:Int))==0)&&(decide ((w64 (y1_1+1))>1)))) (r_pick_and rfl (fun hp=>(gvt (vB (decide ((w64 (y1_1+1))>1))) (and_i rfl hp) rfl)) rfl) ?_
     try simp only [sc0,sc1]
     refine run_nil<|norm_then<|wp_cond_split (t:=(((rd 0 v1o.1 (0:Int))==0)&&(decide ((w64 (y1_1+1))>1)))) rfl (fun c3=>?_) (fun c3=>?_)
     ·replace H:=of_pos H c3
      refine region<|rs (Value.agg #[]) (r_build0 (cs:=[]) Tryd.zeroValue120 Tryd.runUnderlying120 (pl:=#[]) (fun w=>by simp []) rfl) ?_
      refine rs (Value.iface 120 (Value.agg #[])) (r_iface rfl Tryd.runUnderlying120 (by intro m hm;cases hm)) ?_
      refine run_panic rfl<|panic_then<|panic_block<|panic_loop<|panic_then ?_
      obtain rfl:=Option.some.inj H
      obtain rfl:=Option.some.inj G1
      exact bodyPost_panic rfl<|⟨[vL Av1o_p0 v1o.2.length cv1o_p0],rfl,HS3⟩
     ·replace H:=of_neg H (nt c3)
      refine wp_skip<|norm_then<|wp_exit<|exit_block_out (by decide) ?_
      obtain rfl:=Option.some.inj H
      refine leave_j rfl ⟨_,rfl,Av1o_p0,cv1o_p0,(fit rfl),hcv1o_p0,hrv1o_p0,HS3⟩
    ·replace H:=of_neg H (nt c2)
     refine wp_skip<|norm_block<|again_j m (Nat.lt_succ_self m) rfl ⟨(iOr .u64 y1_0 (iShl .u64 (IntKind.wrap .u64 (iAnd .u8 (rd 0 v1o.1 (0:Int)) 127)) (w64 (7*y1_1)))),(w64 (y1_1+1)),v1o.2,Av1o_p0,cv1o_p0,(fit rfl),H,hcv1o_p0,hrv1o_p0,HS3⟩
 ·rintro us w4 ⟨s1,rfl,Ao1_1,co1_1,huo1,hco1_1,hro1_1,HS4⟩
  obtain ⟨uo1,rfl⟩:=unj huo1
  replace H:=G1
  clear G1
  try simp only [patch,sc0,sc1]
  refine norm_then<|wp_seq<|region<|rs (Value.int .u64 s1.1) (r_move rfl)<|rs (Value.int .u64 (iShr .u64 s1.1 1)) (r_shr rfl rfl (by decide))<|rs (vI (w64 (iShr .u64 s1.1 1))) (r_conv rfl Tryd.runUnderlying168 Tryd.runUnderlying3)<|rs (vI (w64 (iShr .u64 s1.1 1))) (r_assign rfl) ?_
  try simp only [sc0,sc1]
  refine run_nil<|norm_then<|wp_seq<|wp_seq<|region<|rs (Value.int .u64 s1.1) (r_move rfl)<|rs (Value.int .u64 (iAnd .u64 s1.1 1)) (r_and rfl rfl)<|rs (vB ((iAnd .u64 s1.1 1)==1)) (r_bin rfl rfl rfl) ?_
  try simp only [sc0,sc1]
  refine run_nil<|norm_then<|wp_cond_split (t:=((iAnd .u64 s1.1 1)==1)) rfl (fun c4=>?_) (fun c4=>?_)
  ·replace H:=of_pos H c4
   refine wp_seq<|region<|rs (vI (w64 (iShr .u64 s1.1 1))) (r_move rfl)<|rs (vI (iNot .i64 (w64 (iShr .u64 s1.1 1)))) (r_inot rfl)<|rs (vI (iNot .i64 (w64 (iShr .u64 s1.1 1)))) (r_assign rfl) ?_
   try simp only [sc0,sc1]
   refine run_nil<|norm_then<|wp_ret<|ret_then ?_
   obtain rfl:=Option.some.inj H
   exact bodyPost_ret (results_1 rfl (one_tmp rfl)) rfl<|⟨Ao1_1,co1_1,rfl,hco1_1,hro1_1,HS4⟩
  ·replace H:=of_neg H (nt c4)
   refine wp_skip<|norm_then<|wp_seq<|region<|rs (vI (w64 (iShr .u64 s1.1 1))) (r_move rfl)<|rs (vI (w64 (iShr .u64 s1.1 1))) (r_assign rfl) ?_
   try simp only [sc0,sc1]
   refine run_nil<|norm_then<|wp_ret ?_
   obtain rfl:=Option.some.inj H
   exact bodyPost_ret (results_1 rfl (one_tmp rfl)) rfl<|⟨Ao1_1,co1_1,rfl,hco1_1,hro1_1,HS4⟩
def ctf_reader_string.f (k:Nat) (p0:List Int):Option (Except Value (ByteArray×(List Int))):=(ctf_reader_int.f k p0).bind fun v1=>(match v1 with| .error pv1=>some (.error pv1)| .ok v1o=>((ctf_bytesLeft_take.f v1o.2 v1o.1).bind fun v2=>(match v2 with| .error pv2=>some (.error pv2)| .ok v2o=>(some (.ok ((strOf v2o.1),v2o.2))))))
theorem ctf_reader_string.calls (k:Nat) (p0:List Int) (bp0:Nat) (Ap0:Option Addr) (cp0:Nat) {h0:View} {w0:World} {h:View} {w:World} {rest:List Res} (HS:St [] h0 w0 h ((some bp0, .cells #[vL Ap0 p0.length cp0] 126 (0,0))::rest) w) (hrp0:Rd (Kd.int .u8) h Ap0 p0) (hcp0:p0.length≤cp0) {r:Except Value (ByteArray×(List Int))} (H:ctf_reader_string.f k p0=some r):Calls Tryd.prog 111 #[vP bp0 0] w (fun e w1=>match r with| .ok rok=>(∃(Az_p0:Option Addr) (cz_p0:Nat),e= .returned (vS rok.1)∧rok.2.length≤cz_p0∧Rd (Kd.int .u8) h Az_p0 rok.2∧St [] h0 w0 h ((some bp0, .cells #[vL Az_p0 rok.2.length cz_p0] 126 (0,0))::rest) w1)| .error pv=>(∃(csp0:List Value),e= .panicked [{v:=pv,recovered:=false}]∧St [] h0 w0 h ((some bp0, .cells csp0.toArray 126 (0,0))::rest) w1)):=by
 unfold ctf_reader_string.f at H
 have hsub:Sub h h:=Sub.rfl' h
 go_enter Tryd.func111,Tryd.ntmps111
 refine wp_seq<|region<|rs (vS ByteArray.empty) (r_assign rfl) ?_
 try simp only [sc0,sc1]
 refine run_nil<|norm_then<|wp_seq<|drawn_chainp [([3,4,5,6],[0,1,2,3]),([],[0,1,2]),([9,2],[6,7])] [4,5] [[],[0],[0,1],[],[3],[0,1,2,3,4],[0,1,2,3,4,5],[0,1,2,3,4,5,6]] hmix (by kernel_rfl) ?_
 intro w1 hE1
 have HS1:=HS.step hE1
 refine chainp_eff [vP bp0 0,vP bp0 0,vP bp0 0,vP bp0 0] ?_ rfl rfl ?_
 ·try simp only [patch,sc0,sc1]
  exact allg_cons (good_same (v:=vP bp0 0) rfl rfl rfl rfl (r_move rfl)) (allg_cons (good_same (v:=vP bp0 0) rfl rfl rfl rfl (r_nilCheck rfl)) (allg_cons (good_same (v:=vP bp0 0) rfl rfl rfl rfl (r_fieldBox (n:=1) (o':=0) rfl Tryd.runUnderlying126 rfl Tryd.sizeOf124 (by decide) rfl)) (allg_cons (good_same (v:=vP bp0 0) rfl rfl rfl rfl (r_move rfl)) (allg_nil))))
 try simp only [patch,sc0,sc1]
 obtain ⟨v1,H1,H⟩:=of_bind H
 rcases v1 with pv1|v1o
 ·refine run_callp (first:=[]) (vs:=[vP bp0 0]) (caps:=[]) Tryd.call110 rfl rfl (ctf_reader_int.calls k p0 bp0 Ap0 cp0 HS1 hrp0 hcp0 H1) ?_
  rintro _ w2 ⟨csq1,rfl,HS2⟩
  refine .inr ⟨_,rfl,?_⟩
  refine panic_qn (fun bq hbq=>?_)
  refine panic_then ?_
  obtain rfl:=Option.some.inj H
  exact bodyPost_panicd hbq rfl<|⟨csq1,rfl,HS2⟩
 refine run_callp (first:=[]) (vs:=[vP bp0 0]) (caps:=[]) Tryd.call110 rfl rfl (ctf_reader_int.calls k p0 bp0 Ap0 cp0 HS1 hrp0 hcp0 H1) ?_
 rintro _ w3 ⟨Av1o_p0,cv1o_p0,rfl,hcv1o_p0,hrv1o_p0,HS3⟩
 refine .inl ⟨_,rfl,?_⟩
 refine qnp_nil ?_
 try simp only [sc0,sc1]
 refine chainp_eff [] ?_ rfl rfl ?_
 ·try simp only [patch,sc0,sc1]
  exact allg_cons (good_same (v:=vP bp0 0) rfl rfl rfl rfl (r_move rfl)) (allg_cons (good_same (v:=vP bp0 0) rfl rfl rfl rfl (r_nilCheck rfl)) (allg_cons (good_same (v:=vP bp0 0) rfl rfl rfl rfl (r_fieldBox (n:=1) (o':=0) rfl Tryd.runUnderlying126 rfl Tryd.sizeOf124 (by decide) rfl)) (allg_nil)))
 try simp only [patch,sc0,sc1]
 obtain ⟨v2,H2,H⟩:=of_bind H
 rcases v2 with pv2|v2o
 ·refine run_callp (first:=[]) (vs:=[vP bp0 0,vI v1o.1]) (caps:=[]) Tryd.call72 rfl rfl (ctf_bytesLeft_take.calls v1o.2 v1o.1 bp0 Av1o_p0 cv1o_p0 HS3 hrv1o_p0 hcv1o_p0 H2) ?_
  rintro _ w4 ⟨csq2,rfl,HS4⟩
  refine .inr ⟨_,rfl,?_⟩
  refine panic_qn (fun bq hbq=>?_)
  refine panic_then ?_
  obtain rfl:=Option.some.inj H
  exact bodyPost_panicd hbq rfl<|⟨csq2,rfl,HS4⟩
 refine run_callp (first:=[]) (vs:=[vP bp0 0,vI v1o.1]) (caps:=[]) Tryd.call72 rfl rfl (ctf_bytesLeft_take.calls v1o.2 v1o.1 bp0 Av1o_p0 cv1o_p0 HS3 hrv1o_p0 hcv1o_p0 H2) ?_
 rintro _ w5 ⟨Av2o_r0_0,cv2o_r0_0,Av2o_p0,cv2o_p0,rfl,hcv2o_r0_0,hrv2o_r0_0,hcv2o_p0,hrv2o_p0,HS5⟩
 refine .inl ⟨_,rfl,?_⟩
 refine qnp_nil ?_
 try simp only [sc0,sc1]
 refine chainp_last [vS (strOf v2o.1),vS (strOf v2o.1)] ?_ ?_
 ·try simp only [patch,sc0,sc1]
  exact allg_cons (good_same (v:=vS (strOf v2o.1)) rfl rfl rfl rfl (r_b2s rfl Tryd.runUnderlying80 Tryd.runUnderlying9 Tryd.runUnderlying5 HS5.sees hrv2o_r0_0)) (allg_cons (good_same (v:=vS (strOf v2o.1)) rfl rfl rfl rfl (r_assign rfl)) (allg_nil))
 try simp only [patch,sc0,sc1]
 refine norm_then<|wp_ret ?_
 obtain rfl:=Option.some.inj H
 exact bodyPost_ret (results_1 rfl (one_tmp rfl)) rfl<|⟨Av2o_p0,cv2o_p0,rfl,hcv2o_p0,hrv2o_p0,HS5⟩
def ctf_reader_bool.f (p0:List Int):Option (Except Value (Bool×(List Int))):=(ctf_bytesLeft_take.f p0 1).bind fun v1=>(match v1 with| .error pv1=>some (.error pv1)| .ok v1o=>(if 0≤(0:Int)∧(0:Int)<v1o.1.length then (if (decide ((rd 0 v1o.1 (0:Int))>1))=true then (some (.error (Value.iface 120 (Value.agg #[])))) else (some (.ok (((rd 0 v1o.1 (0:Int))==1),v1o.2)))) else none))
theorem ctf_reader_bool.calls (p0:List Int) (bp0:Nat) (Ap0:Option Addr) (cp0:Nat) {h0:View} {w0:World} {h:View} {w:World} {rest:List Res} (HS:St [] h0 w0 h ((some bp0, .cells #[vL Ap0 p0.length cp0] 126 (0,0))::rest) w) (hrp0:Rd (Kd.int .u8) h Ap0 p0) (hcp0:p0.length≤cp0) {r:Except Value (Bool×(List Int))} (H:ctf_reader_bool.f p0=some r):Calls Tryd.prog 112 #[vP bp0 0] w (fun e w1=>match r with| .ok rok=>(∃(Az_p0:Option Addr) (cz_p0:Nat),e= .returned (vB rok.1)∧rok.2.length≤cz_p0∧Rd (Kd.int .u8) h Az_p0 rok.2∧St [] h0 w0 h ((some bp0, .cells #[vL Az_p0 rok.2.length cz_p0] 126 (0,0))::rest) w1)| .error pv=>(∃(csp0:List Value),e= .panicked [{v:=pv,recovered:=false}]∧St [] h0 w0 h ((some bp0, .cells csp0.toArray 126 (0,0))::rest) w1)):=by
 unfold ctf_reader_bool.f at H
 have hsub:Sub h h:=Sub.rfl' h
 go_enter Tryd.func112,Tryd.ntmps112
 refine wp_seq<|region<|rs (vB false) (r_assign rfl) ?_
 try simp only [sc0,sc1]
 refine run_nil<|norm_then<|wp_seq<|region<|rs (vP bp0 0) (r_move rfl)<|rs (vP bp0 0) (r_nilCheck rfl)<|rs (vP bp0 0) (r_fieldBox (n:=1) (o':=0) rfl Tryd.runUnderlying126 rfl Tryd.sizeOf124 (by decide) rfl) ?_
 obtain ⟨v1,H1,H⟩:=of_bind H
 rcases v1 with pv1|v1o
 ·refine run_callp (first:=[]) (vs:=[vP bp0 0,vI 1]) (caps:=[]) Tryd.call72 rfl rfl (ctf_bytesLeft_take.calls p0 1 bp0 Ap0 cp0 HS hrp0 hcp0 H1) ?_
  rintro _ w1 ⟨csq1,rfl,HS1⟩
  refine .inr ⟨_,rfl,?_⟩
  refine panic_then ?_
  obtain rfl:=Option.some.inj H
  exact bodyPost_panic rfl<|⟨csq1,rfl,HS1⟩
 refine run_callp (first:=[]) (vs:=[vP bp0 0,vI 1]) (caps:=[]) Tryd.call72 rfl rfl (ctf_bytesLeft_take.calls p0 1 bp0 Ap0 cp0 HS hrp0 hcp0 H1) ?_
 rintro _ w2 ⟨Av1o_r0_0,cv1o_r0_0,Av1o_p0,cv1o_p0,rfl,hcv1o_r0_0,hrv1o_r0_0,hcv1o_p0,hrv1o_p0,HS2⟩
 refine .inl ⟨_,rfl,?_⟩
 refine run_frame (by simp only [sc0,sc1];rfl) ?_
 obtain ⟨hi1,H⟩:=of_ite H
 obtain ⟨ad1,e1,hel1⟩:=ld_int hrv1o_r0_0 hi1.1 hi1.2
 refine rs (Value.pointer (some (Addr.add ad1 ((0:Int).toNat*1)))) (r_indexA (sz:=1) rfl e1 rfl hi1.1 hi1.2 Tryd.runUnderlying80 Tryd.sizeOf5)<|rs (Value.int .u8 (rd 0 v1o.1 (0:Int))) (r_load rfl Tryd.isAgg5 (hel1.cell0 HS2.sees rfl))<|rs (Value.int .u8 (rd 0 v1o.1 (0:Int))) (r_assign rfl) ?_
 try simp only [sc0,sc1]
 refine run_nil<|norm_then<|wp_seq<|wp_seq<|region<|rs (Value.int .u8 (rd 0 v1o.1 (0:Int))) (r_move rfl)<|rs (vB (decide ((rd 0 v1o.1 (0:Int))>1))) (r_bin rfl rfl rfl) ?_
 try simp only [sc0,sc1]
 refine run_nil<|norm_then<|wp_cond_split (t:=(decide ((rd 0 v1o.1 (0:Int))>1))) rfl (fun c1=>?_) (fun c1=>?_)
 ·replace H:=of_pos H c1
  refine region<|rs (Value.agg #[]) (r_build0 (cs:=[]) Tryd.zeroValue120 Tryd.runUnderlying120 (pl:=#[]) (fun w=>by simp []) rfl) ?_
  refine rs (Value.iface 120 (Value.agg #[])) (r_iface rfl Tryd.runUnderlying120 (by intro m hm;cases hm)) ?_
  refine run_panic rfl<|panic_then ?_
  obtain rfl:=Option.some.inj H
  exact bodyPost_panic rfl<|⟨[vL Av1o_p0 v1o.2.length cv1o_p0],rfl,HS2⟩
 ·replace H:=of_neg H (nt c1)
  refine wp_skip<|norm_then<|wp_seq<|region<|rs (Value.int .u8 (rd 0 v1o.1 (0:Int))) (r_move rfl)<|rs (vB ((rd 0 v1o.1 (0:Int))==1)) (r_bin rfl rfl rfl)<|rs (vB ((rd 0 v1o.1 (0:Int))==1)) (r_assign rfl) ?_
  try simp only [sc0,sc1]
  refine run_nil<|norm_then<|wp_ret ?_
  obtain rfl:=Option.some.inj H
  exact bodyPost_ret (results_1 rfl (one_tmp rfl)) rfl<|⟨Av1o_p0,cv1o_p0,rfl,hcv1o_p0,hrv1o_p0,HS2⟩
def ctf_reader_field.f (k:Nat) (p0:List Int):Option (Except Value (api_Field×(List Int))):=(ctf_reader_string.f k p0).bind fun v1=>(match v1 with| .error pv1=>some (.error pv1)| .ok v1o=>((ctf_reader_int.f k v1o.2).bind fun v2=>(match v2 with| .error pv2=>some (.error pv2)| .ok v2o=>((ctf_reader_int.f k v2o.2).bind fun v3=>(match v3 with| .error pv3=>some (.error pv3)| .ok v3o=>(some (.ok ((⟨v1o.1,v2o.1,v3o.1⟩:api_Field),v3o.2))))))))
theorem ctf_reader_field.calls (k:Nat) (p0:List Int) (bp0:Nat) (Ap0:Option Addr) (cp0:Nat) {h0:View} {w0:World} {h:View} {w:World} {rest:List Res} (HS:St [] h0 w0 h ((some bp0, .cells #[vL Ap0 p0.length cp0] 126 (0,0))::rest) w) (hrp0:Rd (Kd.int .u8) h Ap0 p0) (hcp0:p0.length≤cp0) {r:Except Value (api_Field×(List Int))} (H:ctf_reader_field.f k p0=some r):Calls Tryd.prog 114 #[vP bp0 0] w (fun e w1=>match r with| .ok rok=>(∃(Az_p0:Option Addr) (cz_p0:Nat),e= .returned (Value.agg #[vS rok.1.vName,vI rok.1.vType,vI rok.1.vAt])∧rok.2.length≤cz_p0∧Rd (Kd.int .u8) h Az_p0 rok.2∧St [] h0 w0 h ((some bp0, .cells #[vL Az_p0 rok.2.length cz_p0] 126 (0,0))::rest) w1)| .error pv=>(∃(csp0:List Value),e= .panicked [{v:=pv,recovered:=false}]∧St [] h0 w0 h ((some bp0, .cells csp0.toArray 126 (0,0))::rest) w1)):=by
 unfold ctf_reader_field.f at H
 have hsub:Sub h h:=Sub.rfl' h
 go_enter Tryd.func114,Tryd.ntmps114
 refine wp_seq<|region<|run_ex rfl rfl (does_alloc (cs:=#[vS ByteArray.empty,vI 0,vI 0]) Tryd.zeroValue36 rfl) ?_
 rintro w1 _ hE1 ⟨b1,rfl,ge1,hb1⟩
 have HS1:=HS.new hE1 ge1 hb1
 try simp only [sc0,sc1]
 refine run_nil<|norm_then<|wp_seq<|region<|rs (vP bp0 0) (r_move rfl) ?_
 obtain ⟨v1,H1,H⟩:=of_bind H
 have HS2:=HS1.f1
 rcases v1 with pv1|v1o
 ·refine run_callp (first:=[]) (vs:=[vP bp0 0]) (caps:=[]) Tryd.call111 rfl rfl (ctf_reader_string.calls k p0 bp0 Ap0 cp0 HS2 hrp0 hcp0 H1) ?_
  rintro _ w2 ⟨csq1,rfl,HS3⟩
  refine .inr ⟨_,rfl,?_⟩
  refine panic_then ?_
  obtain rfl:=Option.some.inj H
  refine bodyPost_panic rfl ?_
  have HS4:=HS3.d1
  exact ⟨csq1,rfl,HS4⟩
 refine run_callp (first:=[]) (vs:=[vP bp0 0]) (caps:=[]) Tryd.call111 rfl rfl (ctf_reader_string.calls k p0 bp0 Ap0 cp0 HS2 hrp0 hcp0 H1) ?_
 rintro _ w3 ⟨Av1o_p0,cv1o_p0,rfl,hcv1o_p0,hrv1o_p0,HS5⟩
 refine .inl ⟨_,rfl,?_⟩
 have HS6:=HS5.f1
 refine rs (vS v1o.1) (r_assign rfl) ?_
 try simp only [sc0,sc1]
 refine run_nil<|norm_then<|wp_seq<|region<|rs (vP bp0 0) (r_move rfl) ?_
 obtain ⟨v2,H2,H⟩:=of_bind H
 have HS7:=HS6.f1
 rcases v2 with pv2|v2o
 ·refine run_callp (first:=[]) (vs:=[vP bp0 0]) (caps:=[]) Tryd.call110 rfl rfl (ctf_reader_int.calls k v1o.2 bp0 Av1o_p0 cv1o_p0 HS7 hrv1o_p0 hcv1o_p0 H2) ?_
  rintro _ w4 ⟨csq2,rfl,HS8⟩
  refine .inr ⟨_,rfl,?_⟩
  refine panic_then ?_
  obtain rfl:=Option.some.inj H
  refine bodyPost_panic rfl ?_
  have HS9:=HS8.d1
  exact ⟨csq2,rfl,HS9⟩
 refine run_callp (first:=[]) (vs:=[vP bp0 0]) (caps:=[]) Tryd.call110 rfl rfl (ctf_reader_int.calls k v1o.2 bp0 Av1o_p0 cv1o_p0 HS7 hrv1o_p0 hcv1o_p0 H2) ?_
 rintro _ w5 ⟨Av2o_p0,cv2o_p0,rfl,hcv2o_p0,hrv2o_p0,HS10⟩
 refine .inl ⟨_,rfl,?_⟩
 have HS11:=HS10.f1
 refine rs (vI v2o.1) (r_assign rfl) ?_
 try simp only [sc0,sc1]
 refine run_nil<|norm_then<|wp_seq<|region<|rs (vP bp0 0) (r_move rfl) ?_
 obtain ⟨v3,H3,H⟩:=of_bind H
 have HS12:=HS11.f1
 rcases v3 with pv3|v3o
 ·refine run_callp (first:=[]) (vs:=[vP bp0 0]) (caps:=[]) Tryd.call110 rfl rfl (ctf_reader_int.calls k v2o.2 bp0 Av2o_p0 cv2o_p0 HS12 hrv2o_p0 hcv2o_p0 H3) ?_
  rintro _ w6 ⟨csq3,rfl,HS13⟩
  refine .inr ⟨_,rfl,?_⟩
  refine panic_then ?_
  obtain rfl:=Option.some.inj H
  refine bodyPost_panic rfl ?_
  have HS14:=HS13.d1
  exact ⟨csq3,rfl,HS14⟩
 refine run_callp (first:=[]) (vs:=[vP bp0 0]) (caps:=[]) Tryd.call110 rfl rfl (ctf_reader_int.calls k v2o.2 bp0 Av2o_p0 cv2o_p0 HS12 hrv2o_p0 hcv2o_p0 H3) ?_
 rintro _ w7 ⟨Av3o_p0,cv3o_p0,rfl,hcv3o_p0,hrv3o_p0,HS15⟩
 refine .inl ⟨_,rfl,?_⟩
 have HS16:=HS15.f1
 refine rs (vI v3o.1) (r_assign rfl) ?_
 try simp only [sc0,sc1]
 refine run_nil<|norm_then<|wp_seq<|region<|rs (vS v1o.1) (r_move rfl)<|rs (vI v2o.1) (r_move rfl)<|rs (vI v3o.1) (r_move rfl)<|rs (Value.agg #[vS v1o.1,vI v2o.1,vI v3o.1]) (r_build (cs:=[vS v1o.1,vI v2o.1,vI v3o.1]) (ps:=[(0,vS v1o.1),(1,vI v2o.1),(2,vI v3o.1)]) Tryd.zeroValue36 Tryd.runUnderlying36 (pl:=#[(0,1),(1,1),(2,1)]) (fun w=>by simp [Tryd.sizeOf3,Tryd.sizeOf9]) (parts_3 (show _=vS v1o.1 from rfl) (show _=vI v2o.1 from rfl) (show _=vI v3o.1 from rfl)) rfl) ?_
 refine run_frame (by simp only [sc0,sc1];rfl) ?_
 refine run_st (i:=0) (cs:=[vS ByteArray.empty,vI 0,vI 0]) (cs':=[vS v1o.1,vI v2o.1,vI v3o.1]) (vs:=[vS v1o.1,vI v2o.1,vI v3o.1]) (bs':=((some b1, .cells #[vS v1o.1,vI v2o.1,vI v3o.1] 36 (0,0))::(some bp0, .cells #[vL Av3o_p0 v3o.2.length cv3o_p0] 126 (0,0))::rest)) rfl rfl Tryd.sizeOf36 rfl rfl (by decide) rfl HS16 rfl (Nat.le_of_ble_eq_true rfl) rfl rfl ?_
 intro w8 HS17
 try simp only [sc0,sc1]
 refine run_nil<|norm_then<|wp_ret ?_
 obtain rfl:=Option.some.inj H
 refine bodyPost_ret (results_1 rfl (one_agg rfl Tryd.isAgg36 (HS17.look 0 rfl) Tryd.sizeOf36 rfl)) rfl ?_
 have HS18:=HS17.d0
 exact ⟨Av3o_p0,cv3o_p0,rfl,hcv3o_p0,hrv3o_p0,HS18⟩
def ctf_list_api_Field.l0 (k:Nat) (v1o:Int×(List Int)):Nat→Int→(List Int)→(List api_Field)→Option ((Except Value ((List api_Field)×(List Int)))⊕((List Int)×(List api_Field)))
 |0,_,_,_=>none
 |m+1,y1_0,y1_1,y1_2=>if (decide (y1_0<v1o.1))=true then ((ctf_reader_field.f k y1_1).bind fun v2=>(match v2 with| .error pv2=>some (.inl (.error pv2))| .ok v2o=>(if y1_2.length+1≤4294967296 then (ctf_list_api_Field.l0 k v1o m (IntKind.wrap .i64 (y1_0+1)) v2o.2 (y1_2++([v2o.1]:List api_Field))) else none))) else (some (.inr (y1_1,y1_2)))
def ctf_list_api_Field.f (k:Nat) (p0:List Int):Option (Except Value ((List api_Field)×(List Int))):=(ctf_reader_int.f k p0).bind fun v1=>(match v1 with| .error pv1=>some (.error pv1)| .ok v1o=>(if ((decide (v1o.1<0))||(decide (v1o.1>(v1o.2.length:Int))))=true then (some (.error (Value.iface 120 (Value.agg #[])))) else ((ctf_list_api_Field.l0 k v1o k 0 v1o.2 ([]:List api_Field)).bind fun xx1=>(match xx1 with| .inl r=>some r| .inr s1=>some (.ok (s1.2,s1.1))))))
theorem ctf_list_api_Field.calls (k:Nat) (p0:List Int) (bp0:Nat) (Ap0:Option Addr) (cp0:Nat) {h0:View} {w0:World} {h:View} {w:World} {rest:List Res} (HS:St [] h0 w0 h ((some bp0, .cells #[vL Ap0 p0.length cp0] 126 (0,0))::rest) w) (hrp0:Rd (Kd.int .u8) h Ap0 p0) (hcp0:p0.length≤cp0) {r:Except Value ((List api_Field)×(List Int))} (H:ctf_list_api_Field.f k p0=some r):Calls Tryd.prog 113 #[vP bp0 0,Value.func (.func 114) #[vP bp0 0] #[]] w (fun e w1=>match r with| .ok rok=>(∃(h1:View),∃(Az_r0_0:Option Addr) (cz_r0_0:Nat),∃(Az_p0:Option Addr) (cz_p0:Nat),e= .returned (vL Az_r0_0 rok.1.length cz_r0_0)∧rok.1.length≤cz_r0_0∧Rd k_api_Field h1 Az_r0_0 rok.1∧rok.2.length≤cz_p0∧Rd (Kd.int .u8) h1 Az_p0 rok.2∧Sub h h1∧St [] h0 w0 h1 ((some bp0, .cells #[vL Az_p0 rok.2.length cz_p0] 126 (0,0))::rest) w1)| .error pv=>(∃h1:View,∃csp0:List Value,e= .panicked [{v:=pv,recovered:=false}]∧Sub h h1∧St [] h0 w0 h1 ((some bp0, .cells csp0.toArray 126 (0,0))::rest) w1)):=by
 unfold ctf_list_api_Field.f at H
 have hsub:Sub h h:=Sub.rfl' h
 go_enter Tryd.func113,Tryd.ntmps113
 refine wp_seq<|region<|rs (vL none 0 0) (r_assign rfl) ?_
 try simp only [sc0,sc1]
 refine run_nil<|norm_then<|wp_seq<|region<|rs (vP bp0 0) (r_move rfl) ?_
 obtain ⟨v1,H1,H⟩:=of_bind H
 rcases v1 with pv1|v1o
 ·refine run_callp (first:=[]) (vs:=[vP bp0 0]) (caps:=[]) Tryd.call110 rfl rfl (ctf_reader_int.calls k p0 bp0 Ap0 cp0 HS hrp0 hcp0 H1) ?_
  rintro _ w1 ⟨csq1,rfl,HS1⟩
  refine .inr ⟨_,rfl,?_⟩
  refine panic_then ?_
  obtain rfl:=Option.some.inj H
  exact bodyPost_panic rfl<|⟨h,csq1,rfl,hsub,HS1⟩
 refine run_callp (first:=[]) (vs:=[vP bp0 0]) (caps:=[]) Tryd.call110 rfl rfl (ctf_reader_int.calls k p0 bp0 Ap0 cp0 HS hrp0 hcp0 H1) ?_
 rintro _ w2 ⟨Av1o_p0,cv1o_p0,rfl,hcv1o_p0,hrv1o_p0,HS2⟩
 refine .inl ⟨_,rfl,?_⟩
 refine rs (vI v1o.1) (r_assign rfl) ?_
 try simp only [sc0,sc1]
 refine run_nil<|norm_then<|wp_seq<|wp_seq<|region<|rs (vI v1o.1) (r_move rfl)<|rs (vB (decide (v1o.1<0))) (r_bin rfl rfl rfl)<|rs (vB (decide (v1o.1<0))) (r_move rfl)<|rgs (decide (v1o.1<0)) true (vI v1o.1) rfl rfl rfl rfl (fun hg=>(r_move rfl))<|run_frame (by simp only [sc0,sc1];rfl) ?_
 refine rgs (decide (v1o.1<0)) true (vP bp0 0) rfl rfl rfl rfl (fun hg=>(r_move rfl))<|rgs (decide (v1o.1<0)) true (vP bp0 0) rfl rfl rfl rfl (fun hg=>(r_nilCheck (gvt (vP bp0 0) hg rfl)))<|rgs (decide (v1o.1<0)) true (vP bp0 0) rfl rfl rfl rfl (fun hg=>(r_fieldBox (n:=1) (o':=0) (gvt (vP bp0 0) hg rfl) Tryd.runUnderlying126 rfl Tryd.sizeOf124 (by decide) rfl))<|rgs (decide (v1o.1<0)) true (vP bp0 0) rfl rfl rfl rfl (fun hg=>(r_fieldBox (n:=1) (o':=0) (gvt (vP bp0 0) hg rfl) Tryd.runUnderlying124 rfl Tryd.sizeOf80 (by decide) rfl))<|run_frame (by simp only [sc0,sc1];rfl) ?_
 refine rgs (decide (v1o.1<0)) true (vL Av1o_p0 v1o.2.length cv1o_p0) rfl rfl rfl rfl (fun hg=>(r_loadBox (gvt (vP bp0 0) hg rfl) Tryd.isAgg80 (HS2.look 0 rfl) rfl))<|rgs (decide (v1o.1<0)) true (vI (v1o.2.length:Int)) rfl rfl rfl rfl (fun hg=>(r_len (gvt (vL Av1o_p0 v1o.2.length cv1o_p0) hg rfl) Tryd.runUnderlying80))<|rgs (decide (v1o.1<0)) true (vB (decide (v1o.1>(v1o.2.length:Int)))) rfl rfl rfl rfl (fun hg=>(r_bin (gvt (vI v1o.1) hg rfl) (gvt (vI (v1o.2.length:Int)) hg rfl) rfl))<|rs (vB ((decide (v1o.1<0))||(decide (v1o.1>(v1o.2.length:Int))))) (r_pick_or rfl rfl (fun hp=>(gvt (vB (decide (v1o.1>(v1o.2.length:Int)))) (and_i rfl hp) rfl))) ?_
 try simp only [sc0,sc1]
 refine run_nil<|norm_then<|wp_cond_split (t:=((decide (v1o.1<0))||(decide (v1o.1>(v1o.2.length:Int))))) rfl (fun c1=>?_) (fun c1=>?_)
 ·replace H:=of_pos H c1
  refine region<|rs (Value.agg #[]) (r_build0 (cs:=[]) Tryd.zeroValue120 Tryd.runUnderlying120 (pl:=#[]) (fun w=>by simp []) rfl) ?_
  refine rs (Value.iface 120 (Value.agg #[])) (r_iface rfl Tryd.runUnderlying120 (by intro m hm;cases hm)) ?_
  refine run_panic rfl<|panic_then ?_
  obtain rfl:=Option.some.inj H
  exact bodyPost_panic rfl<|⟨h,[vL Av1o_p0 v1o.2.length cv1o_p0],rfl,hsub,HS2⟩
 ·replace H:=of_neg H (nt c1)
  refine wp_skip<|norm_then<|wp_seq<|region<|rs (vL none 0 0) (r_assign rfl) ?_
  try simp only [sc0,sc1]
  refine run_nil<|norm_then<|wp_seq<|wp_seq<|region<|rs (vI v1o.1) (r_move rfl)<|rs (vI 0) (r_move rfl) ?_
  try simp only [sc0,sc1]
  refine run_nil<|norm_then ?_
  have HS3:=HS2.nothing (.cells ([]:List Value).toArray 36 (0,0))
  obtain ⟨xx1,H,G1⟩:=of_bind H
  refine loop_j [6,24,25,26,27,28,29,30,31] (fun m us w'=>∃y1_0:Int,∃y1_1:List Int,∃y1_2:List api_Field,∃(Ay1_1:Option Addr) (cy1_1:Nat),∃(oby1_2:Option Nat) (cy1_2:Nat),∃(csy1_2:List Value),Fit us (fun uy1=>[vL (rowA oby1_2) y1_2.length cy1_2,vI y1_0,(uy1 2),(uy1 3),(uy1 4),(uy1 5),(uy1 6),(uy1 7),(uy1 8)])∧ctf_list_api_Field.l0 k v1o m y1_0 y1_1 y1_2=some xx1∧y1_1.length≤cy1_1∧Rd (Kd.int .u8) h Ay1_1 y1_1∧RowOk k_api_Field h y1_2 oby1_2 y1_2.length cy1_2 csy1_2∧St [] h0 w0 h ((oby1_2, .cells (csy1_2).toArray 36 (0,0))::(some bp0, .cells #[vL Ay1_1 y1_1.length cy1_1] 126 (0,0))::rest) w') (fun us w'=>∃(s1:(List Int)×(List api_Field)),xx1= .inr s1∧∃(Ao1_0:Option Addr) (co1_0:Nat),∃(obo1_1:Option Nat) (co1_1:Nat),∃(cso1_1:List Value),Fit us (fun uo1=>[vL (rowA obo1_1) s1.2.length co1_1,(uo1 1),(uo1 2),(uo1 3),(uo1 4),(uo1 5),(uo1 6),(uo1 7),(uo1 8)])∧s1.1.length≤co1_0∧Rd (Kd.int .u8) h Ao1_0 s1.1∧RowOk k_api_Field h s1.2 obo1_1 s1.2.length co1_1 cso1_1∧St [] h0 w0 h ((obo1_1, .cells (cso1_1).toArray 36 (0,0))::(some bp0, .cells #[vL Ao1_0 s1.1.length co1_0] 126 (0,0))::rest) w') k ⟨0,v1o.2,([]:List api_Field),Av1o_p0,cv1o_p0,none,0,([]:List Value),(fit rfl),H,hcv1o_p0,hrv1o_p0,(RowOk.none' k_api_Field _).norm,HS3⟩ ?_ ?_
  ·rintro m us w3 ⟨y1_0,y1_1,y1_2,Ay1_1,cy1_1,oby1_2,cy1_2,csy1_2,huy1,H,hcy1_1,hry1_1,hoy1_2,HS4⟩
   obtain ⟨uy1,rfl⟩:=unj huy1
   cases m with
   |zero=>exact absurd H (by simp [ctf_list_api_Field.l0])
   |succ m=>
    rw [ctf_list_api_Field.l0] at H
    try simp only [patch,sc0,sc1]
    refine wp_seq<|region<|rs (vB (decide (y1_0<v1o.1))) (r_bin rfl rfl rfl) ?_
    try simp only [sc0,sc1]
    refine run_nil<|norm_then<|wp_seq<|wp_cond_split (t:=(decide (y1_0<v1o.1))) rfl (fun c2=>?_) (fun c2=>?_)
    ·replace H:=of_pos H c2
     refine wp_skip<|norm_then<|wp_seq<|wp_block<|region<|rs (vL (rowA oby1_2) y1_2.length cy1_2) (r_move rfl)<|rs (Value.func (.func 114) #[vP bp0 0] #[]) (r_move rfl) ?_
     obtain ⟨v2,H2,H⟩:=of_bind H
     have HS5:=HS4.f1
     rcases v2 with pv2|v2o
     ·refine run_callp (first:=[vP bp0 0]) (vs:=[]) (caps:=[]) Tryd.call114 rfl rfl (ctf_reader_field.calls k y1_1 bp0 Ay1_1 cy1_1 HS5 hry1_1 hcy1_1 H2) ?_
      rintro _ w4 ⟨csq2,rfl,HS6⟩
      refine .inr ⟨_,rfl,?_⟩
      refine panic_block<|panic_then<|panic_loop<|panic_then ?_
      obtain rfl:=Option.some.inj H
      obtain rfl:=Option.some.inj G1
      refine bodyPost_panic rfl ?_
      have HS7:=HS6.d1
      exact ⟨h,csq2,rfl,hsub,HS7⟩
     refine run_callp (first:=[vP bp0 0]) (vs:=[]) (caps:=[]) Tryd.call114 rfl rfl (ctf_reader_field.calls k y1_1 bp0 Ay1_1 cy1_1 HS5 hry1_1 hcy1_1 H2) ?_
     rintro _ w5 ⟨Av2o_p0,cv2o_p0,rfl,hcv2o_p0,hrv2o_p0,HS8⟩
     refine .inl ⟨_,rfl,?_⟩
     have HS9:=HS8.f1
     refine run_bs k_api_Field (xs:=([v2o.1]:List api_Field)) (n:=1) (cs:=[vS v2o.1.vName,vI v2o.1.vType,vI v2o.1.vAt]) Tryd.runUnderlying32 Tryd.typeInfo36 Tryd.zeroValue36 rfl rfl (by decide) (by decide) (by decide) [Value.agg #[vS v2o.1.vName,vI v2o.1.vType,vI v2o.1.vAt]] (parts_any.trans rfl) rfl rfl rfl rfl (elems_cons (qs:=[vS v2o.1.vName,vI v2o.1.vType,vI v2o.1.vAt]) ⟨[vS v2o.1.vName],[vI v2o.1.vType,vI v2o.1.vAt],rfl,rfl,⟨[vI v2o.1.vType],[vI v2o.1.vAt],rfl,rfl,rfl⟩⟩ (elems_nil (cs:=[]))) HS9 ?_
     intro w6 b1 HS10 ho1
     refine run_frame (by simp only [sc0,sc1];rfl) ?_
     obtain ⟨hl1,H⟩:=of_ite H
     refine run_app k_api_Field (q:=1) (cs:=csy1_2) rfl rfl Tryd.runUnderlying32 Tryd.typeInfo36 Tryd.zeroValue36 rfl (by decide) rfl (src_row Tryd.runUnderlying32 HS10 (i:=0) rfl ho1 rfl) ho1.len (src_row_elems ho1) hl1 HS10 rfl hoy1_2 ?_
     intro w7 ob1 c3 cs1 HS11 ho2
     refine rs (vL (rowA ob1) (y1_2.length+1) c3) (r_assign rfl) ?_
     try simp only [sc0,sc1]
     refine run_nil<|norm_block<|norm_then<|region<|rs (vI (w64 (y1_0+1))) (r_bin rfl rfl rfl)<|rs (vI (w64 (y1_0+1))) (r_move rfl) ?_
     try simp only [sc0,sc1]
     refine run_nil<|again_j m (Nat.lt_succ_self m) rfl ⟨(w64 (y1_0+1)),v2o.2,(y1_2++([v2o.1]:List api_Field)),Av2o_p0,cv2o_p0,ob1,c3,cs1,(fit (by first|rfl|(rw [ho2.len];done)|(rw [ho2.len];rfl))),H,hcv2o_p0,hrv2o_p0,ho2.norm,HS11.tail⟩
    ·replace H:=of_neg H (nt c2)
     refine wp_exit<|exit_then ?_
     obtain rfl:=Option.some.inj H
     refine leave_j rfl ⟨_,rfl,Ay1_1,cy1_1,oby1_2,cy1_2,csy1_2,(fit rfl),hcy1_1,hry1_1,hoy1_2.norm,HS4⟩
  ·rintro us w8 ⟨s1,rfl,Ao1_0,co1_0,obo1_1,co1_1,cso1_1,huo1,hco1_0,hro1_0,hoo1_1,HS12⟩
   obtain ⟨uo1,rfl⟩:=unj huo1
   replace H:=G1
   clear G1
   try simp only [patch,sc0,sc1]
   refine norm_then<|wp_seq<|region<|rs (vL (rowA obo1_1) s1.2.length co1_1) (r_move rfl)<|rs (vL (rowA obo1_1) s1.2.length co1_1) (r_assign rfl) ?_
   try simp only [sc0,sc1]
   refine run_nil<|norm_then<|wp_ret ?_
   obtain rfl:=Option.some.inj H
   refine bodyPost_ret (results_1 rfl (one_tmp rfl)) rfl ?_
   obtain ⟨h1,HS13,hs5,rdp1⟩:=row_pub HS12 (i:=0) rfl hoo1_1
   have HS14:St [] h0 w0 h1 ((some bp0, .cells #[vL Ao1_0 s1.1.length co1_0] 126 (0,0))::rest) w8:=HS13
   replace hrp0:Rd (Kd.int .u8) h1 Ap0 p0:=hrp0.ext hs5
   replace hsub:Sub h h1:=hsub.then hs5
   replace hrv1o_p0:Rd (Kd.int .u8) h1 Av1o_p0 v1o.2:=hrv1o_p0.ext hs5
   replace hro1_0:Rd (Kd.int .u8) h1 Ao1_0 s1.1:=hro1_0.ext hs5
   exact ⟨h1,(rowA obo1_1),co1_1,Ao1_0,co1_0,rfl,hoo1_1.cap,rdp1,hco1_0,hro1_0,hsub,HS14⟩
def ctf_reader_def.f (k:Nat) (p0:List Int):Option (Except Value (api_Def×(List Int))):=(ctf_reader_int.f k p0).bind fun v1=>(match v1 with| .error pv1=>some (.error pv1)| .ok v1o=>((ctf_reader_string.f k v1o.2).bind fun v2=>(match v2 with| .error pv2=>some (.error pv2)| .ok v2o=>((ctf_reader_int.f k v2o.2).bind fun v3=>(match v3 with| .error pv3=>some (.error pv3)| .ok v3o=>((ctf_reader_bool.f v3o.2).bind fun v4=>(match v4 with| .error pv4=>some (.error pv4)| .ok v4o=>((ctf_reader_int.f k v4o.2).bind fun v5=>(match v5 with| .error pv5=>some (.error pv5)| .ok v5o=>((ctf_reader_int.f k v5o.2).bind fun v6=>(match v6 with| .error pv6=>some (.error pv6)| .ok v6o=>((ctf_list_api_Field.f k v6o.2).bind fun v7=>(match v7 with| .error pv7=>some (.error pv7)| .ok v7o=>(some (.ok ((⟨v1o.1,v2o.1,(⟨v3o.1,v4o.1⟩:api_Int),v5o.1,v6o.1,v7o.1⟩:api_Def),v7o.2))))))))))))))))
theorem ctf_reader_def.calls (k:Nat) (p0:List Int) (bp0:Nat) (Ap0:Option Addr) (cp0:Nat) {h0:View} {w0:World} {h:View} {w:World} {rest:List Res} (HS:St [] h0 w0 h ((some bp0, .cells #[vL Ap0 p0.length cp0] 126 (0,0))::rest) w) (hrp0:Rd (Kd.int .u8) h Ap0 p0) (hcp0:p0.length≤cp0) {r:Except Value (api_Def×(List Int))} (H:ctf_reader_def.f k p0=some r):Calls Tryd.prog 74 #[vP bp0 0] w (fun e w1=>match r with| .ok rok=>(∃(h1:View),∃(Az_r0_6:Option Addr) (cz_r0_6:Nat),∃(Az_p0:Option Addr) (cz_p0:Nat),e= .returned (Value.agg #[vI rok.1.vKind,vS rok.1.vName,vI rok.1.vInt.vSize,vB rok.1.vInt.vSigned,vI rok.1.vRef,vI rok.1.vN,vL Az_r0_6 rok.1.vFields.length cz_r0_6])∧rok.1.vFields.length≤cz_r0_6∧Rd k_api_Field h1 Az_r0_6 rok.1.vFields∧rok.2.length≤cz_p0∧Rd (Kd.int .u8) h1 Az_p0 rok.2∧Sub h h1∧St [] h0 w0 h1 ((some bp0, .cells #[vL Az_p0 rok.2.length cz_p0] 126 (0,0))::rest) w1)| .error pv=>(∃h1:View,∃csp0:List Value,e= .panicked [{v:=pv,recovered:=false}]∧Sub h h1∧St [] h0 w0 h1 ((some bp0, .cells csp0.toArray 126 (0,0))::rest) w1)):=by
 unfold ctf_reader_def.f at H
 have hsub:Sub h h:=Sub.rfl' h
 go_enter Tryd.func74,Tryd.ntmps74
 refine wp_seq<|region<|run_ex rfl rfl (does_alloc (cs:=#[vI 0,vS ByteArray.empty,vI 0,vB false,vI 0,vI 0,vL none 0 0]) Tryd.zeroValue34 rfl) ?_
 rintro w1 _ hE1 ⟨b1,rfl,ge1,hb1⟩
 have HS1:=HS.new hE1 ge1 hb1
 try simp only [sc0,sc1]
 refine run_nil<|norm_then<|wp_seq<|region<|run_ex rfl rfl (does_alloc (cs:=#[vI 0,vS ByteArray.empty,vI 0,vB false,vI 0,vI 0,vL none 0 0]) Tryd.zeroValue34 rfl) ?_
 rintro w2 _ hE2 ⟨b2,rfl,ge2,hb2⟩
 have HS2:=HS1.new hE2 ge2 hb2
 try simp only [sc0,sc1]
 refine run_nil<|norm_then<|wp_seq<|region<|rs (vP bp0 0) (r_move rfl) ?_
 obtain ⟨v1,H1,H⟩:=of_bind H
 have HS3:=HS2.f2
 rcases v1 with pv1|v1o
 ·refine run_callp (first:=[]) (vs:=[vP bp0 0]) (caps:=[]) Tryd.call110 rfl rfl (ctf_reader_int.calls k p0 bp0 Ap0 cp0 HS3 hrp0 hcp0 H1) ?_
  rintro _ w3 ⟨csq1,rfl,HS4⟩
  refine .inr ⟨_,rfl,?_⟩
  refine panic_then ?_
  obtain rfl:=Option.some.inj H
  refine bodyPost_panic rfl ?_
  have HS5:=HS4.d2
  have HS6:=HS5.d1
  exact ⟨h,csq1,rfl,hsub,HS6⟩
 refine run_callp (first:=[]) (vs:=[vP bp0 0]) (caps:=[]) Tryd.call110 rfl rfl (ctf_reader_int.calls k p0 bp0 Ap0 cp0 HS3 hrp0 hcp0 H1) ?_
 rintro _ w4 ⟨Av1o_p0,cv1o_p0,rfl,hcv1o_p0,hrv1o_p0,HS7⟩
 refine .inl ⟨_,rfl,?_⟩
 have HS8:=HS7.f2
 have HS9:=HS8.f2
 refine rs (vP b2 0) (r_fieldBox (n:=1) (o':=0) rfl Tryd.runUnderlying34 rfl Tryd.sizeOf3 (by decide) rfl)<|run_st (i:=0) (cs:=[vI 0,vS ByteArray.empty,vI 0,vB false,vI 0,vI 0,vL none 0 0]) (cs':=[vI v1o.1,vS ByteArray.empty,vI 0,vB false,vI 0,vI 0,vL none 0 0]) (vs:=[vI v1o.1]) (bs':=((some b2, .cells #[vI v1o.1,vS ByteArray.empty,vI 0,vB false,vI 0,vI 0,vL none 0 0] 34 (0,0))::(some b1, .cells #[vI 0,vS ByteArray.empty,vI 0,vB false,vI 0,vI 0,vL none 0 0] 34 (0,0))::(some bp0, .cells #[vL Av1o_p0 v1o.2.length cv1o_p0] 126 (0,0))::rest)) rfl rfl Tryd.sizeOf3 rfl rfl (by decide) rfl HS9 rfl (Nat.le_of_ble_eq_true rfl) rfl rfl ?_
 intro w5 HS10
 try simp only [sc0,sc1]
 refine run_nil<|norm_then<|wp_seq<|region<|rs (vP bp0 0) (r_move rfl) ?_
 obtain ⟨v2,H2,H⟩:=of_bind H
 have HS11:=HS10.f2
 rcases v2 with pv2|v2o
 ·refine run_callp (first:=[]) (vs:=[vP bp0 0]) (caps:=[]) Tryd.call111 rfl rfl (ctf_reader_string.calls k v1o.2 bp0 Av1o_p0 cv1o_p0 HS11 hrv1o_p0 hcv1o_p0 H2) ?_
  rintro _ w6 ⟨csq2,rfl,HS12⟩
  refine .inr ⟨_,rfl,?_⟩
  refine panic_then ?_
  obtain rfl:=Option.some.inj H
  refine bodyPost_panic rfl ?_
  have HS13:=HS12.d2
  have HS14:=HS13.d1
  exact ⟨h,csq2,rfl,hsub,HS14⟩
 refine run_callp (first:=[]) (vs:=[vP bp0 0]) (caps:=[]) Tryd.call111 rfl rfl (ctf_reader_string.calls k v1o.2 bp0 Av1o_p0 cv1o_p0 HS11 hrv1o_p0 hcv1o_p0 H2) ?_
 rintro _ w7 ⟨Av2o_p0,cv2o_p0,rfl,hcv2o_p0,hrv2o_p0,HS15⟩
 refine .inl ⟨_,rfl,?_⟩
 have HS16:=HS15.f2
 have HS17:=HS16.f2
 refine rs (vP b2 1) (r_fieldBox (n:=1) (o':=1) rfl Tryd.runUnderlying34 rfl Tryd.sizeOf9 (by decide) rfl)<|run_st (i:=0) (cs:=[vI v1o.1,vS ByteArray.empty,vI 0,vB false,vI 0,vI 0,vL none 0 0]) (cs':=[vI v1o.1,vS v2o.1,vI 0,vB false,vI 0,vI 0,vL none 0 0]) (vs:=[vS v2o.1]) (bs':=((some b2, .cells #[vI v1o.1,vS v2o.1,vI 0,vB false,vI 0,vI 0,vL none 0 0] 34 (0,0))::(some b1, .cells #[vI 0,vS ByteArray.empty,vI 0,vB false,vI 0,vI 0,vL none 0 0] 34 (0,0))::(some bp0, .cells #[vL Av2o_p0 v2o.2.length cv2o_p0] 126 (0,0))::rest)) rfl rfl Tryd.sizeOf9 rfl rfl (by decide) rfl HS17 rfl (Nat.le_of_ble_eq_true rfl) rfl rfl ?_
 intro w8 HS18
 try simp only [sc0,sc1]
 refine run_nil<|norm_then<|wp_seq<|region<|rs (vP bp0 0) (r_move rfl) ?_
 obtain ⟨v3,H3,H⟩:=of_bind H
 have HS19:=HS18.f2
 rcases v3 with pv3|v3o
 ·refine run_callp (first:=[]) (vs:=[vP bp0 0]) (caps:=[]) Tryd.call110 rfl rfl (ctf_reader_int.calls k v2o.2 bp0 Av2o_p0 cv2o_p0 HS19 hrv2o_p0 hcv2o_p0 H3) ?_
  rintro _ w9 ⟨csq3,rfl,HS20⟩
  refine .inr ⟨_,rfl,?_⟩
  refine panic_then ?_
  obtain rfl:=Option.some.inj H
  refine bodyPost_panic rfl ?_
  have HS21:=HS20.d2
  have HS22:=HS21.d1
  exact ⟨h,csq3,rfl,hsub,HS22⟩
 refine run_callp (first:=[]) (vs:=[vP bp0 0]) (caps:=[]) Tryd.call110 rfl rfl (ctf_reader_int.calls k v2o.2 bp0 Av2o_p0 cv2o_p0 HS19 hrv2o_p0 hcv2o_p0 H3) ?_
 rintro _ w10 ⟨Av3o_p0,cv3o_p0,rfl,hcv3o_p0,hrv3o_p0,HS23⟩
 refine .inl ⟨_,rfl,?_⟩
 have HS24:=HS23.f2
 have HS25:=HS24.f2
 refine rs (vP b2 2) (r_fieldBox (n:=2) (o':=2) rfl Tryd.runUnderlying34 rfl Tryd.sizeOf31 (by decide) rfl)<|rs (vP b2 2) (r_fieldBox (n:=1) (o':=2) rfl Tryd.runUnderlying31 rfl Tryd.sizeOf3 (by decide) rfl)<|run_frame (by simp only [sc0,sc1];rfl) ?_
 refine run_st (i:=0) (cs:=[vI v1o.1,vS v2o.1,vI 0,vB false,vI 0,vI 0,vL none 0 0]) (cs':=[vI v1o.1,vS v2o.1,vI v3o.1,vB false,vI 0,vI 0,vL none 0 0]) (vs:=[vI v3o.1]) (bs':=((some b2, .cells #[vI v1o.1,vS v2o.1,vI v3o.1,vB false,vI 0,vI 0,vL none 0 0] 34 (0,0))::(some b1, .cells #[vI 0,vS ByteArray.empty,vI 0,vB false,vI 0,vI 0,vL none 0 0] 34 (0,0))::(some bp0, .cells #[vL Av3o_p0 v3o.2.length cv3o_p0] 126 (0,0))::rest)) rfl rfl Tryd.sizeOf3 rfl rfl (by decide) rfl HS25 rfl (Nat.le_of_ble_eq_true rfl) rfl rfl ?_
 intro w11 HS26
 try simp only [sc0,sc1]
 refine run_nil<|norm_then<|wp_seq<|region<|rs (vP bp0 0) (r_move rfl) ?_
 obtain ⟨v4,H4,H⟩:=of_bind H
 have HS27:=HS26.f2
 rcases v4 with pv4|v4o
 ·refine run_callp (first:=[]) (vs:=[vP bp0 0]) (caps:=[]) Tryd.call112 rfl rfl (ctf_reader_bool.calls v3o.2 bp0 Av3o_p0 cv3o_p0 HS27 hrv3o_p0 hcv3o_p0 H4) ?_
  rintro _ w12 ⟨csq4,rfl,HS28⟩
  refine .inr ⟨_,rfl,?_⟩
  refine panic_then ?_
  obtain rfl:=Option.some.inj H
  refine bodyPost_panic rfl ?_
  have HS29:=HS28.d2
  have HS30:=HS29.d1
  exact ⟨h,csq4,rfl,hsub,HS30⟩
 refine run_callp (first:=[]) (vs:=[vP bp0 0]) (caps:=[]) Tryd.call112 rfl rfl (ctf_reader_bool.calls v3o.2 bp0 Av3o_p0 cv3o_p0 HS27 hrv3o_p0 hcv3o_p0 H4) ?_
 rintro _ w13 ⟨Av4o_p0,cv4o_p0,rfl,hcv4o_p0,hrv4o_p0,HS31⟩
 refine .inl ⟨_,rfl,?_⟩
 have HS32:=HS31.f2
 have HS33:=HS32.f2
 refine rs (vP b2 2) (r_fieldBox (n:=2) (o':=2) rfl Tryd.runUnderlying34 rfl Tryd.sizeOf31 (by decide) rfl)<|rs (vP b2 3) (r_fieldBox (n:=1) (o':=3) rfl Tryd.runUnderlying31 rfl Tryd.sizeOf4 (by decide) rfl)<|run_frame (by simp only [sc0,sc1];rfl) ?_
 refine run_st (i:=0) (cs:=[vI v1o.1,vS v2o.1,vI v3o.1,vB false,vI 0,vI 0,vL none 0 0]) (cs':=[vI v1o.1,vS v2o.1,vI v3o.1,vB v4o.1,vI 0,vI 0,vL none 0 0]) (vs:=[vB v4o.1]) (bs':=((some b2, .cells #[vI v1o.1,vS v2o.1,vI v3o.1,vB v4o.1,vI 0,vI 0,vL none 0 0] 34 (0,0))::(some b1, .cells #[vI 0,vS ByteArray.empty,vI 0,vB false,vI 0,vI 0,vL none 0 0] 34 (0,0))::(some bp0, .cells #[vL Av4o_p0 v4o.2.length cv4o_p0] 126 (0,0))::rest)) rfl rfl Tryd.sizeOf4 rfl rfl (by decide) rfl HS33 rfl (Nat.le_of_ble_eq_true rfl) rfl rfl ?_
 intro w14 HS34
 try simp only [sc0,sc1]
 refine run_nil<|norm_then<|wp_seq<|region<|rs (vP bp0 0) (r_move rfl) ?_
 obtain ⟨v5,H5,H⟩:=of_bind H
 have HS35:=HS34.f2
 rcases v5 with pv5|v5o
 ·refine run_callp (first:=[]) (vs:=[vP bp0 0]) (caps:=[]) Tryd.call110 rfl rfl (ctf_reader_int.calls k v4o.2 bp0 Av4o_p0 cv4o_p0 HS35 hrv4o_p0 hcv4o_p0 H5) ?_
  rintro _ w15 ⟨csq5,rfl,HS36⟩
  refine .inr ⟨_,rfl,?_⟩
  refine panic_then ?_
  obtain rfl:=Option.some.inj H
  refine bodyPost_panic rfl ?_
  have HS37:=HS36.d2
  have HS38:=HS37.d1
  exact ⟨h,csq5,rfl,hsub,HS38⟩
 refine run_callp (first:=[]) (vs:=[vP bp0 0]) (caps:=[]) Tryd.call110 rfl rfl (ctf_reader_int.calls k v4o.2 bp0 Av4o_p0 cv4o_p0 HS35 hrv4o_p0 hcv4o_p0 H5) ?_
 rintro _ w16 ⟨Av5o_p0,cv5o_p0,rfl,hcv5o_p0,hrv5o_p0,HS39⟩
 refine .inl ⟨_,rfl,?_⟩
 have HS40:=HS39.f2
 have HS41:=HS40.f2
 refine rs (vP b2 4) (r_fieldBox (n:=1) (o':=4) rfl Tryd.runUnderlying34 rfl Tryd.sizeOf3 (by decide) rfl)<|run_st (i:=0) (cs:=[vI v1o.1,vS v2o.1,vI v3o.1,vB v4o.1,vI 0,vI 0,vL none 0 0]) (cs':=[vI v1o.1,vS v2o.1,vI v3o.1,vB v4o.1,vI v5o.1,vI 0,vL none 0 0]) (vs:=[vI v5o.1]) (bs':=((some b2, .cells #[vI v1o.1,vS v2o.1,vI v3o.1,vB v4o.1,vI v5o.1,vI 0,vL none 0 0] 34 (0,0))::(some b1, .cells #[vI 0,vS ByteArray.empty,vI 0,vB false,vI 0,vI 0,vL none 0 0] 34 (0,0))::(some bp0, .cells #[vL Av5o_p0 v5o.2.length cv5o_p0] 126 (0,0))::rest)) rfl rfl Tryd.sizeOf3 rfl rfl (by decide) rfl HS41 rfl (Nat.le_of_ble_eq_true rfl) rfl rfl ?_
 intro w17 HS42
 try simp only [sc0,sc1]
 refine run_nil<|norm_then<|wp_seq<|region<|rs (vP bp0 0) (r_move rfl) ?_
 obtain ⟨v6,H6,H⟩:=of_bind H
 have HS43:=HS42.f2
 rcases v6 with pv6|v6o
 ·refine run_callp (first:=[]) (vs:=[vP bp0 0]) (caps:=[]) Tryd.call110 rfl rfl (ctf_reader_int.calls k v5o.2 bp0 Av5o_p0 cv5o_p0 HS43 hrv5o_p0 hcv5o_p0 H6) ?_
  rintro _ w18 ⟨csq6,rfl,HS44⟩
  refine .inr ⟨_,rfl,?_⟩
  refine panic_then ?_
  obtain rfl:=Option.some.inj H
  refine bodyPost_panic rfl ?_
  have HS45:=HS44.d2
  have HS46:=HS45.d1
  exact ⟨h,csq6,rfl,hsub,HS46⟩
 refine run_callp (first:=[]) (vs:=[vP bp0 0]) (caps:=[]) Tryd.call110 rfl rfl (ctf_reader_int.calls k v5o.2 bp0 Av5o_p0 cv5o_p0 HS43 hrv5o_p0 hcv5o_p0 H6) ?_
 rintro _ w19 ⟨Av6o_p0,cv6o_p0,rfl,hcv6o_p0,hrv6o_p0,HS47⟩
 refine .inl ⟨_,rfl,?_⟩
 have HS48:=HS47.f2
 have HS49:=HS48.f2
 refine rs (vP b2 5) (r_fieldBox (n:=1) (o':=5) rfl Tryd.runUnderlying34 rfl Tryd.sizeOf3 (by decide) rfl)<|run_st (i:=0) (cs:=[vI v1o.1,vS v2o.1,vI v3o.1,vB v4o.1,vI v5o.1,vI 0,vL none 0 0]) (cs':=[vI v1o.1,vS v2o.1,vI v3o.1,vB v4o.1,vI v5o.1,vI v6o.1,vL none 0 0]) (vs:=[vI v6o.1]) (bs':=((some b2, .cells #[vI v1o.1,vS v2o.1,vI v3o.1,vB v4o.1,vI v5o.1,vI v6o.1,vL none 0 0] 34 (0,0))::(some b1, .cells #[vI 0,vS ByteArray.empty,vI 0,vB false,vI 0,vI 0,vL none 0 0] 34 (0,0))::(some bp0, .cells #[vL Av6o_p0 v6o.2.length cv6o_p0] 126 (0,0))::rest)) rfl rfl Tryd.sizeOf3 rfl rfl (by decide) rfl HS49 rfl (Nat.le_of_ble_eq_true rfl) rfl rfl ?_
 intro w20 HS50
 try simp only [sc0,sc1]
 refine run_nil<|norm_then<|wp_seq<|region<|rs (vP bp0 0) (r_move rfl)<|rs (vP bp0 0) (r_move rfl)<|rs (Value.func (.func 114) #[vP bp0 0] #[]) (r_first (fv:=[vP bp0 0]) (cv:=[]) rfl rfl) ?_
 obtain ⟨v7,H7,H⟩:=of_bind H
 have HS51:=HS50.f2
 rcases v7 with pv7|v7o
 ·refine run_callp (first:=[]) (vs:=[vP bp0 0,Value.func (.func 114) #[vP bp0 0] #[]]) (caps:=[]) Tryd.call113 rfl rfl (ctf_list_api_Field.calls k v6o.2 bp0 Av6o_p0 cv6o_p0 HS51 hrv6o_p0 hcv6o_p0 H7) ?_
  rintro _ w21 ⟨h1,csq7,rfl,hs13,HS52⟩
  refine .inr ⟨_,rfl,?_⟩
  replace hrp0:Rd (Kd.int .u8) h1 Ap0 p0:=hrp0.ext hs13
  replace hsub:Sub h h1:=hsub.then hs13
  replace hrv1o_p0:Rd (Kd.int .u8) h1 Av1o_p0 v1o.2:=hrv1o_p0.ext hs13
  replace hrv2o_p0:Rd (Kd.int .u8) h1 Av2o_p0 v2o.2:=hrv2o_p0.ext hs13
  replace hrv3o_p0:Rd (Kd.int .u8) h1 Av3o_p0 v3o.2:=hrv3o_p0.ext hs13
  replace hrv4o_p0:Rd (Kd.int .u8) h1 Av4o_p0 v4o.2:=hrv4o_p0.ext hs13
  replace hrv5o_p0:Rd (Kd.int .u8) h1 Av5o_p0 v5o.2:=hrv5o_p0.ext hs13
  replace hrv6o_p0:Rd (Kd.int .u8) h1 Av6o_p0 v6o.2:=hrv6o_p0.ext hs13
  refine panic_then ?_
  obtain rfl:=Option.some.inj H
  refine bodyPost_panic rfl ?_
  have HS53:=HS52.d2
  have HS54:=HS53.d1
  exact ⟨h1,csq7,rfl,hsub,HS54⟩
 refine run_callp (first:=[]) (vs:=[vP bp0 0,Value.func (.func 114) #[vP bp0 0] #[]]) (caps:=[]) Tryd.call113 rfl rfl (ctf_list_api_Field.calls k v6o.2 bp0 Av6o_p0 cv6o_p0 HS51 hrv6o_p0 hcv6o_p0 H7) ?_
 rintro _ w22 ⟨h2,Av7o_r0_0,cv7o_r0_0,Av7o_p0,cv7o_p0,rfl,hcv7o_r0_0,hrv7o_r0_0,hcv7o_p0,hrv7o_p0,hs14,HS55⟩
 refine .inl ⟨_,rfl,?_⟩
 replace hrp0:Rd (Kd.int .u8) h2 Ap0 p0:=hrp0.ext hs14
 replace hsub:Sub h h2:=hsub.then hs14
 replace hrv1o_p0:Rd (Kd.int .u8) h2 Av1o_p0 v1o.2:=hrv1o_p0.ext hs14
 replace hrv2o_p0:Rd (Kd.int .u8) h2 Av2o_p0 v2o.2:=hrv2o_p0.ext hs14
 replace hrv3o_p0:Rd (Kd.int .u8) h2 Av3o_p0 v3o.2:=hrv3o_p0.ext hs14
 replace hrv4o_p0:Rd (Kd.int .u8) h2 Av4o_p0 v4o.2:=hrv4o_p0.ext hs14
 replace hrv5o_p0:Rd (Kd.int .u8) h2 Av5o_p0 v5o.2:=hrv5o_p0.ext hs14
 replace hrv6o_p0:Rd (Kd.int .u8) h2 Av6o_p0 v6o.2:=hrv6o_p0.ext hs14
 have HS56:=HS55.f2
 have HS57:=HS56.f2
 refine run_frame (by simp only [sc0,sc1];rfl) ?_
 refine rs (vP b2 6) (r_fieldBox (n:=1) (o':=6) rfl Tryd.runUnderlying34 rfl Tryd.sizeOf32 (by decide) rfl)<|run_st (i:=0) (cs:=[vI v1o.1,vS v2o.1,vI v3o.1,vB v4o.1,vI v5o.1,vI v6o.1,vL none 0 0]) (cs':=[vI v1o.1,vS v2o.1,vI v3o.1,vB v4o.1,vI v5o.1,vI v6o.1,vL Av7o_r0_0 v7o.1.length cv7o_r0_0]) (vs:=[vL Av7o_r0_0 v7o.1.length cv7o_r0_0]) (bs':=((some b2, .cells #[vI v1o.1,vS v2o.1,vI v3o.1,vB v4o.1,vI v5o.1,vI v6o.1,vL Av7o_r0_0 v7o.1.length cv7o_r0_0] 34 (0,0))::(some b1, .cells #[vI 0,vS ByteArray.empty,vI 0,vB false,vI 0,vI 0,vL none 0 0] 34 (0,0))::(some bp0, .cells #[vL Av7o_p0 v7o.2.length cv7o_p0] 126 (0,0))::rest)) rfl rfl Tryd.sizeOf32 rfl rfl (by decide) rfl HS57 rfl (Nat.le_of_ble_eq_true rfl) rfl rfl ?_
 intro w23 HS58
 try simp only [sc0,sc1]
 refine run_nil<|norm_then<|wp_seq<|region<|rs (Value.agg #[vI v1o.1,vS v2o.1,vI v3o.1,vB v4o.1,vI v5o.1,vI v6o.1,vL Av7o_r0_0 v7o.1.length cv7o_r0_0]) (r_loadBoxAgg (n:=7) (vs:=[vI v1o.1,vS v2o.1,vI v3o.1,vB v4o.1,vI v5o.1,vI v6o.1,vL Av7o_r0_0 v7o.1.length cv7o_r0_0]) rfl Tryd.isAgg34 (HS58.look 0 rfl) Tryd.sizeOf34 rfl rfl)<|run_st (i:=1) (cs:=[vI 0,vS ByteArray.empty,vI 0,vB false,vI 0,vI 0,vL none 0 0]) (cs':=[vI v1o.1,vS v2o.1,vI v3o.1,vB v4o.1,vI v5o.1,vI v6o.1,vL Av7o_r0_0 v7o.1.length cv7o_r0_0]) (vs:=[vI v1o.1,vS v2o.1,vI v3o.1,vB v4o.1,vI v5o.1,vI v6o.1,vL Av7o_r0_0 v7o.1.length cv7o_r0_0]) (bs':=((some b2, .cells #[vI v1o.1,vS v2o.1,vI v3o.1,vB v4o.1,vI v5o.1,vI v6o.1,vL Av7o_r0_0 v7o.1.length cv7o_r0_0] 34 (0,0))::(some b1, .cells #[vI v1o.1,vS v2o.1,vI v3o.1,vB v4o.1,vI v5o.1,vI v6o.1,vL Av7o_r0_0 v7o.1.length cv7o_r0_0] 34 (0,0))::(some bp0, .cells #[vL Av7o_p0 v7o.2.length cv7o_p0] 126 (0,0))::rest)) rfl rfl Tryd.sizeOf34 rfl rfl (by decide) rfl HS58 rfl (Nat.le_of_ble_eq_true rfl) rfl rfl ?_
 intro w24 HS59
 try simp only [sc0,sc1]
 refine run_nil<|norm_then<|wp_ret ?_
 obtain rfl:=Option.some.inj H
 refine bodyPost_ret (results_1 rfl (one_agg rfl Tryd.isAgg34 (HS59.look 1 rfl) Tryd.sizeOf34 rfl)) rfl ?_
 have HS60:=HS59.d1
 have HS61:=HS60.d0
 exact ⟨h2,Av7o_r0_0,cv7o_r0_0,Av7o_p0,cv7o_p0,rfl,hcv7o_r0_0,hrv7o_r0_0,hcv7o_p0,hrv7o_p0,hsub,HS61⟩
def ctf_list_api_Def.l0 (k:Nat) (v1o:Int×(List Int)):Nat→Int→(List Int)→(List api_Def)→Option ((Except Value ((List api_Def)×(List Int)))⊕((List Int)×(List api_Def)))
 |0,_,_,_=>none
 |m+1,y1_0,y1_1,y1_2=>if (decide (y1_0<v1o.1))=true then ((ctf_reader_def.f k y1_1).bind fun v2=>(match v2 with| .error pv2=>some (.inl (.error pv2))| .ok v2o=>(if y1_2.length+1≤4294967296 then (ctf_list_api_Def.l0 k v1o m (IntKind.wrap .i64 (y1_0+1)) v2o.2 (y1_2++([v2o.1]:List api_Def))) else none))) else (some (.inr (y1_1,y1_2)))
def ctf_list_api_Def.f (k:Nat) (p0:List Int):Option (Except Value ((List api_Def)×(List Int))):=(ctf_reader_int.f k p0).bind fun v1=>(match v1 with| .error pv1=>some (.error pv1)| .ok v1o=>(if ((decide (v1o.1<0))||(decide (v1o.1>(v1o.2.length:Int))))=true then (some (.error (Value.iface 120 (Value.agg #[])))) else ((ctf_list_api_Def.l0 k v1o k 0 v1o.2 ([]:List api_Def)).bind fun xx1=>(match xx1 with| .inl r=>some r| .inr s1=>some (.ok (s1.2,s1.1))))))
theorem ctf_list_api_Def.calls (k:Nat) (p0:List Int) (bp0:Nat) (Ap0:Option Addr) (cp0:Nat) {h0:View} {w0:World} {h:View} {w:World} {rest:List Res} (HS:St [] h0 w0 h ((some bp0, .cells #[vL Ap0 p0.length cp0] 126 (0,0))::rest) w) (hrp0:Rd (Kd.int .u8) h Ap0 p0) (hcp0:p0.length≤cp0) {r:Except Value ((List api_Def)×(List Int))} (H:ctf_list_api_Def.f k p0=some r):Calls Tryd.prog 73 #[vP bp0 0,Value.func (.func 74) #[vP bp0 0] #[]] w (fun e w1=>match r with| .ok rok=>(∃(h1:View),∃(Az_r0_0:Option Addr) (cz_r0_0:Nat),∃(Az_p0:Option Addr) (cz_p0:Nat),e= .returned (vL Az_r0_0 rok.1.length cz_r0_0)∧rok.1.length≤cz_r0_0∧Rd k_api_Def h1 Az_r0_0 rok.1∧rok.2.length≤cz_p0∧Rd (Kd.int .u8) h1 Az_p0 rok.2∧Sub h h1∧St [] h0 w0 h1 ((some bp0, .cells #[vL Az_p0 rok.2.length cz_p0] 126 (0,0))::rest) w1)| .error pv=>(∃h1:View,∃csp0:List Value,e= .panicked [{v:=pv,recovered:=false}]∧Sub h h1∧St [] h0 w0 h1 ((some bp0, .cells csp0.toArray 126 (0,0))::rest) w1)):=by
 unfold ctf_list_api_Def.f at H
 have hsub:Sub h h:=Sub.rfl' h
 go_enter Tryd.func73,Tryd.ntmps73
 refine wp_seq<|region<|rs (vL none 0 0) (r_assign rfl) ?_
 try simp only [sc0,sc1]
 refine run_nil<|norm_then<|wp_seq<|region<|rs (vP bp0 0) (r_move rfl) ?_
 obtain ⟨v1,H1,H⟩:=of_bind H
 rcases v1 with pv1|v1o
 ·refine run_callp (first:=[]) (vs:=[vP bp0 0]) (caps:=[]) Tryd.call110 rfl rfl (ctf_reader_int.calls k p0 bp0 Ap0 cp0 HS hrp0 hcp0 H1) ?_
  rintro _ w1 ⟨csq1,rfl,HS1⟩
  refine .inr ⟨_,rfl,?_⟩
  refine panic_then ?_
  obtain rfl:=Option.some.inj H
  exact bodyPost_panic rfl<|⟨h,csq1,rfl,hsub,HS1⟩
 refine run_callp (first:=[]) (vs:=[vP bp0 0]) (caps:=[]) Tryd.call110 rfl rfl (ctf_reader_int.calls k p0 bp0 Ap0 cp0 HS hrp0 hcp0 H1) ?_
 rintro _ w2 ⟨Av1o_p0,cv1o_p0,rfl,hcv1o_p0,hrv1o_p0,HS2⟩
 refine .inl ⟨_,rfl,?_⟩
 refine rs (vI v1o.1) (r_assign rfl) ?_
 try simp only [sc0,sc1]
 refine run_nil<|norm_then<|wp_seq<|wp_seq<|region<|rs (vI v1o.1) (r_move rfl)<|rs (vB (decide (v1o.1<0))) (r_bin rfl rfl rfl)<|rs (vB (decide (v1o.1<0))) (r_move rfl)<|rgs (decide (v1o.1<0)) true (vI v1o.1) rfl rfl rfl rfl (fun hg=>(r_move rfl))<|run_frame (by simp only [sc0,sc1];rfl) ?_
 refine rgs (decide (v1o.1<0)) true (vP bp0 0) rfl rfl rfl rfl (fun hg=>(r_move rfl))<|rgs (decide (v1o.1<0)) true (vP bp0 0) rfl rfl rfl rfl (fun hg=>(r_nilCheck (gvt (vP bp0 0) hg rfl)))<|rgs (decide (v1o.1<0)) true (vP bp0 0) rfl rfl rfl rfl (fun hg=>(r_fieldBox (n:=1) (o':=0) (gvt (vP bp0 0) hg rfl) Tryd.runUnderlying126 rfl Tryd.sizeOf124 (by decide) rfl))<|rgs (decide (v1o.1<0)) true (vP bp0 0) rfl rfl rfl rfl (fun hg=>(r_fieldBox (n:=1) (o':=0) (gvt (vP bp0 0) hg rfl) Tryd.runUnderlying124 rfl Tryd.sizeOf80 (by decide) rfl))<|run_frame (by simp only [sc0,sc1];rfl) ?_
 refine rgs (decide (v1o.1<0)) true (vL Av1o_p0 v1o.2.length cv1o_p0) rfl rfl rfl rfl (fun hg=>(r_loadBox (gvt (vP bp0 0) hg rfl) Tryd.isAgg80 (HS2.look 0 rfl) rfl))<|rgs (decide (v1o.1<0)) true (vI (v1o.2.length:Int)) rfl rfl rfl rfl (fun hg=>(r_len (gvt (vL Av1o_p0 v1o.2.length cv1o_p0) hg rfl) Tryd.runUnderlying80))<|rgs (decide (v1o.1<0)) true (vB (decide (v1o.1>(v1o.2.length:Int)))) rfl rfl rfl rfl (fun hg=>(r_bin (gvt (vI v1o.1) hg rfl) (gvt (vI (v1o.2.length:Int)) hg rfl) rfl))<|rs (vB ((decide (v1o.1<0))||(decide (v1o.1>(v1o.2.length:Int))))) (r_pick_or rfl rfl (fun hp=>(gvt (vB (decide (v1o.1>(v1o.2.length:Int)))) (and_i rfl hp) rfl))) ?_
 try simp only [sc0,sc1]
 refine run_nil<|norm_then<|wp_cond_split (t:=((decide (v1o.1<0))||(decide (v1o.1>(v1o.2.length:Int))))) rfl (fun c1=>?_) (fun c1=>?_)
 ·replace H:=of_pos H c1
  refine region<|rs (Value.agg #[]) (r_build0 (cs:=[]) Tryd.zeroValue120 Tryd.runUnderlying120 (pl:=#[]) (fun w=>by simp []) rfl) ?_
  refine rs (Value.iface 120 (Value.agg #[])) (r_iface rfl Tryd.runUnderlying120 (by intro m hm;cases hm)) ?_
  refine run_panic rfl<|panic_then ?_
  obtain rfl:=Option.some.inj H
  exact bodyPost_panic rfl<|⟨h,[vL Av1o_p0 v1o.2.length cv1o_p0],rfl,hsub,HS2⟩
 ·replace H:=of_neg H (nt c1)
  refine wp_skip<|norm_then<|wp_seq<|region<|rs (vL none 0 0) (r_assign rfl) ?_
  try simp only [sc0,sc1]
  refine run_nil<|norm_then<|wp_seq<|wp_seq<|region<|rs (vI v1o.1) (r_move rfl)<|rs (vI 0) (r_move rfl) ?_
  try simp only [sc0,sc1]
  refine run_nil<|norm_then ?_
  have HS3:=HS2.nothing (.cells ([]:List Value).toArray 34 (0,0))
  obtain ⟨xx1,H,G1⟩:=of_bind H
  refine loop_j [6,24,25,26,27,28,29,30,31] (fun m us w'=>∃y1_0:Int,∃y1_1:List Int,∃y1_2:List api_Def,∃h1:View,∃(Ay1_1:Option Addr) (cy1_1:Nat),∃(oby1_2:Option Nat) (cy1_2:Nat),∃(csy1_2:List Value),Fit us (fun uy1=>[vL (rowA oby1_2) y1_2.length cy1_2,vI y1_0,(uy1 2),(uy1 3),(uy1 4),(uy1 5),(uy1 6),(uy1 7),(uy1 8)])∧ctf_list_api_Def.l0 k v1o m y1_0 y1_1 y1_2=some xx1∧y1_1.length≤cy1_1∧Rd (Kd.int .u8) h1 Ay1_1 y1_1∧RowOk k_api_Def h1 y1_2 oby1_2 y1_2.length cy1_2 csy1_2∧Rd (Kd.int .u8) h1 Ap0 p0∧Sub h h1∧Rd (Kd.int .u8) h1 Av1o_p0 v1o.2∧St [] h0 w0 h1 ((oby1_2, .cells (csy1_2).toArray 34 (0,0))::(some bp0, .cells #[vL Ay1_1 y1_1.length cy1_1] 126 (0,0))::rest) w') (fun us w'=>∃(s1:(List Int)×(List api_Def)),xx1= .inr s1∧∃(h4:View),∃(Ao1_0:Option Addr) (co1_0:Nat),∃(obo1_1:Option Nat) (co1_1:Nat),∃(cso1_1:List Value),Fit us (fun uo1=>[vL (rowA obo1_1) s1.2.length co1_1,(uo1 1),(uo1 2),(uo1 3),(uo1 4),(uo1 5),(uo1 6),(uo1 7),(uo1 8)])∧s1.1.length≤co1_0∧Rd (Kd.int .u8) h4 Ao1_0 s1.1∧RowOk k_api_Def h4 s1.2 obo1_1 s1.2.length co1_1 cso1_1∧Rd (Kd.int .u8) h4 Ap0 p0∧Sub h h4∧Rd (Kd.int .u8) h4 Av1o_p0 v1o.2∧St [] h0 w0 h4 ((obo1_1, .cells (cso1_1).toArray 34 (0,0))::(some bp0, .cells #[vL Ao1_0 s1.1.length co1_0] 126 (0,0))::rest) w') k ⟨0,v1o.2,([]:List api_Def),h,Av1o_p0,cv1o_p0,none,0,([]:List Value),(fit rfl),H,hcv1o_p0,hrv1o_p0,(RowOk.none' k_api_Def _).norm,hrp0,hsub,hrv1o_p0,HS3⟩ ?_ ?_
  ·rintro m us w3 ⟨y1_0,y1_1,y1_2,h1,Ay1_1,cy1_1,oby1_2,cy1_2,csy1_2,huy1,H,hcy1_1,hry1_1,hoy1_2,hrp0,hsub,hrv1o_p0,HS4⟩
   obtain ⟨uy1,rfl⟩:=unj huy1
   cases m with
   |zero=>exact absurd H (by simp [ctf_list_api_Def.l0])
   |succ m=>
    rw [ctf_list_api_Def.l0] at H
    try simp only [patch,sc0,sc1]
    refine wp_seq<|region<|rs (vB (decide (y1_0<v1o.1))) (r_bin rfl rfl rfl) ?_
    try simp only [sc0,sc1]
    refine run_nil<|norm_then<|wp_seq<|wp_cond_split (t:=(decide (y1_0<v1o.1))) rfl (fun c2=>?_) (fun c2=>?_)
    ·replace H:=of_pos H c2
     refine wp_skip<|norm_then<|wp_seq<|wp_block<|region<|rs (vL (rowA oby1_2) y1_2.length cy1_2) (r_move rfl)<|rs (Value.func (.func 74) #[vP bp0 0] #[]) (r_move rfl) ?_
     obtain ⟨v2,H2,H⟩:=of_bind H
     have HS5:=HS4.f1
     rcases v2 with pv2|v2o
     ·refine run_callp (first:=[vP bp0 0]) (vs:=[]) (caps:=[]) Tryd.call74 rfl rfl (ctf_reader_def.calls k y1_1 bp0 Ay1_1 cy1_1 HS5 hry1_1 hcy1_1 H2) ?_
      rintro _ w4 ⟨h2,csq2,rfl,hs3,HS6⟩
      refine .inr ⟨_,rfl,?_⟩
      replace hrp0:Rd (Kd.int .u8) h2 Ap0 p0:=hrp0.ext hs3
      replace hsub:Sub h h2:=hsub.then hs3
      replace hrv1o_p0:Rd (Kd.int .u8) h2 Av1o_p0 v1o.2:=hrv1o_p0.ext hs3
      replace hry1_1:Rd (Kd.int .u8) h2 Ay1_1 y1_1:=hry1_1.ext hs3
      replace hoy1_2:=hoy1_2.view hs3
      refine panic_block<|panic_then<|panic_loop<|panic_then ?_
      obtain rfl:=Option.some.inj H
      obtain rfl:=Option.some.inj G1
      refine bodyPost_panic rfl ?_
      have HS7:=HS6.d1
      exact ⟨h2,csq2,rfl,hsub,HS7⟩
     refine run_callp (first:=[vP bp0 0]) (vs:=[]) (caps:=[]) Tryd.call74 rfl rfl (ctf_reader_def.calls k y1_1 bp0 Ay1_1 cy1_1 HS5 hry1_1 hcy1_1 H2) ?_
     rintro _ w5 ⟨h3,Av2o_r0_6,cv2o_r0_6,Av2o_p0,cv2o_p0,rfl,hcv2o_r0_6,hrv2o_r0_6,hcv2o_p0,hrv2o_p0,hs4,HS8⟩
     refine .inl ⟨_,rfl,?_⟩
     replace hrp0:Rd (Kd.int .u8) h3 Ap0 p0:=hrp0.ext hs4
     replace hsub:Sub h h3:=hsub.then hs4
     replace hrv1o_p0:Rd (Kd.int .u8) h3 Av1o_p0 v1o.2:=hrv1o_p0.ext hs4
     replace hry1_1:Rd (Kd.int .u8) h3 Ay1_1 y1_1:=hry1_1.ext hs4
     replace hoy1_2:=hoy1_2.view hs4
     have HS9:=HS8.f1
     refine run_bs k_api_Def (xs:=([v2o.1]:List api_Def)) (n:=1) (cs:=[vI v2o.1.vKind,vS v2o.1.vName,vI v2o.1.vInt.vSize,vB v2o.1.vInt.vSigned,vI v2o.1.vRef,vI v2o.1.vN,vL Av2o_r0_6 v2o.1.vFields.length cv2o_r0_6]) Tryd.runUnderlying22 Tryd.typeInfo34 Tryd.zeroValue34 rfl rfl (by decide) (by decide) (by decide) [Value.agg #[vI v2o.1.vKind,vS v2o.1.vName,vI v2o.1.vInt.vSize,vB v2o.1.vInt.vSigned,vI v2o.1.vRef,vI v2o.1.vN,vL Av2o_r0_6 v2o.1.vFields.length cv2o_r0_6]] (parts_any.trans rfl) rfl rfl rfl rfl (elems_cons (qs:=[vI v2o.1.vKind,vS v2o.1.vName,vI v2o.1.vInt.vSize,vB v2o.1.vInt.vSigned,vI v2o.1.vRef,vI v2o.1.vN,vL Av2o_r0_6 v2o.1.vFields.length cv2o_r0_6]) ⟨[vI v2o.1.vKind],[vS v2o.1.vName,vI v2o.1.vInt.vSize,vB v2o.1.vInt.vSigned,vI v2o.1.vRef,vI v2o.1.vN,vL Av2o_r0_6 v2o.1.vFields.length cv2o_r0_6],rfl,rfl,⟨[vS v2o.1.vName],[vI v2o.1.vInt.vSize,vB v2o.1.vInt.vSigned,vI v2o.1.vRef,vI v2o.1.vN,vL Av2o_r0_6 v2o.1.vFields.length cv2o_r0_6],rfl,rfl,⟨[vI v2o.1.vInt.vSize,vB v2o.1.vInt.vSigned],[vI v2o.1.vRef,vI v2o.1.vN,vL Av2o_r0_6 v2o.1.vFields.length cv2o_r0_6],rfl,⟨[vI v2o.1.vInt.vSize],[vB v2o.1.vInt.vSigned],rfl,rfl,rfl⟩,⟨[vI v2o.1.vRef],[vI v2o.1.vN,vL Av2o_r0_6 v2o.1.vFields.length cv2o_r0_6],rfl,rfl,⟨[vI v2o.1.vN],[vL Av2o_r0_6 v2o.1.vFields.length cv2o_r0_6],rfl,rfl,⟨Av2o_r0_6,cv2o_r0_6,rfl,hcv2o_r0_6,hrv2o_r0_6⟩⟩⟩⟩⟩⟩ (elems_nil (cs:=[]))) HS9 ?_
     intro w6 b1 HS10 ho1
     refine run_frame (by simp only [sc0,sc1];rfl) ?_
     obtain ⟨hl1,H⟩:=of_ite H
     refine run_app k_api_Def (q:=1) (cs:=csy1_2) rfl rfl Tryd.runUnderlying22 Tryd.typeInfo34 Tryd.zeroValue34 rfl (by decide) rfl (src_row Tryd.runUnderlying22 HS10 (i:=0) rfl ho1 rfl) ho1.len (src_row_elems ho1) hl1 HS10 rfl hoy1_2 ?_
     intro w7 ob1 c3 cs1 HS11 ho2
     refine rs (vL (rowA ob1) (y1_2.length+1) c3) (r_assign rfl) ?_
     try simp only [sc0,sc1]
     refine run_nil<|norm_block<|norm_then<|region<|rs (vI (w64 (y1_0+1))) (r_bin rfl rfl rfl)<|rs (vI (w64 (y1_0+1))) (r_move rfl) ?_
     try simp only [sc0,sc1]
     refine run_nil<|again_j m (Nat.lt_succ_self m) rfl ⟨(w64 (y1_0+1)),v2o.2,(y1_2++([v2o.1]:List api_Def)),h3,Av2o_p0,cv2o_p0,ob1,c3,cs1,(fit (by first|rfl|(rw [ho2.len];done)|(rw [ho2.len];rfl))),H,hcv2o_p0,hrv2o_p0,ho2.norm,hrp0,hsub,hrv1o_p0,HS11.tail⟩
    ·replace H:=of_neg H (nt c2)
     refine wp_exit<|exit_then ?_
     obtain rfl:=Option.some.inj H
     refine leave_j rfl ⟨_,rfl,h1,Ay1_1,cy1_1,oby1_2,cy1_2,csy1_2,(fit rfl),hcy1_1,hry1_1,hoy1_2.norm,hrp0,hsub,hrv1o_p0,HS4⟩
  ·rintro us w8 ⟨s1,rfl,h4,Ao1_0,co1_0,obo1_1,co1_1,cso1_1,huo1,hco1_0,hro1_0,hoo1_1,hrp0,hsub,hrv1o_p0,HS12⟩
   obtain ⟨uo1,rfl⟩:=unj huo1
   replace H:=G1
   clear G1
   try simp only [patch,sc0,sc1]
   refine norm_then<|wp_seq<|region<|rs (vL (rowA obo1_1) s1.2.length co1_1) (r_move rfl)<|rs (vL (rowA obo1_1) s1.2.length co1_1) (r_assign rfl) ?_
   try simp only [sc0,sc1]
   refine run_nil<|norm_then<|wp_ret ?_
   obtain rfl:=Option.some.inj H
   refine bodyPost_ret (results_1 rfl (one_tmp rfl)) rfl ?_
   obtain ⟨h5,HS13,hs5,rdp1⟩:=row_pub HS12 (i:=0) rfl hoo1_1
   have HS14:St [] h0 w0 h5 ((some bp0, .cells #[vL Ao1_0 s1.1.length co1_0] 126 (0,0))::rest) w8:=HS13
   replace hrp0:Rd (Kd.int .u8) h5 Ap0 p0:=hrp0.ext hs5
   replace hsub:Sub h h5:=hsub.then hs5
   replace hrv1o_p0:Rd (Kd.int .u8) h5 Av1o_p0 v1o.2:=hrv1o_p0.ext hs5
   replace hro1_0:Rd (Kd.int .u8) h5 Ao1_0 s1.1:=hro1_0.ext hs5
   exact ⟨h5,(rowA obo1_1),co1_1,Ao1_0,co1_0,rfl,hoo1_1.cap,rdp1,hco1_0,hro1_0,hsub,HS14⟩
def ctf_Decode.f (k:Nat) (a0:List Int):Option (api_Types×Int):=(ctf_bytesLeft_take.f a0 4).bind fun v1=>(match v1 with| .error pv1=>(if badB pv1=true then some ((⟨[]⟩:api_Types),81) else none)| .ok v1o=>(if (!(strEq (strOf v1o.1) (⟨#[67,84,70,1]⟩:ByteArray)))=true then ((if badB (Value.iface 120 (Value.agg #[]))=true then some ((⟨[]⟩:api_Types),81) else none)) else ((ctf_list_api_Def.f k v1o.2).bind fun v2=>(match v2 with| .error pv2=>(if badB pv2=true then some ((⟨[]⟩:api_Types),81) else none)| .ok v2o=>(if (decide ((v2o.2.length:Int)>0))=true then ((if badB (Value.iface 120 (Value.agg #[]))=true then some ((⟨[]⟩:api_Types),81) else none)) else ((ctf_valid.f k (⟨v2o.1⟩:api_Types)).bind fun v3=>(if (!v3)=true then (some ((⟨[]⟩:api_Types),80)) else (some ((⟨v2o.1⟩:api_Types),0)))))))))
theorem ctf_Decode.calls (k:Nat) (a0:List Int) (A0_0:Option Addr) (c0_0:Nat) {h0:View} {w0:World} (hv:Sees h0 w0) (hr0_0:Rd (Kd.int .u8) h0 A0_0 a0) (hc0_0:a0.length≤c0_0) {r:api_Types×Int} (H:ctf_Decode.f k a0=some r):Calls Tryd.prog 38 #[vL A0_0 a0.length c0_0] w0 (fun e w1=>∃(h1:View) (A0_0:Option Addr) (c0_0:Nat),e= .returned (Value.tuple #[Value.agg #[vL A0_0 r.1.vDefs.length c0_0],vI r.2])∧r.1.vDefs.length≤c0_0∧Rd k_api_Def h1 A0_0 r.1.vDefs∧Gr w0.heap.size h0 h1∧Sees h1 w1∧Ext w0 w1):=by
 unfold ctf_Decode.f at H
 have HS:St [] h0 w0 h0 [] w0:=St.init hv
 go_enter_defers Tryd.func38,Tryd.ntmps38
 refine wp_seq<|region<|run_ex rfl rfl (does_alloc (cs:=#[vL none 0 0]) Tryd.zeroValue24 rfl) ?_
 rintro w1 _ hE1 ⟨b1,rfl,ge1,hb1⟩
 have HS1:=HS.new hE1 ge1 hb1
 refine run_ex rfl rfl (does_alloc (cs:=#[vI 0]) Tryd.zeroValue27 rfl) ?_
 rintro w2 _ hE2 ⟨b2,rfl,ge2,hb2⟩
 have HS2:=HS1.new hE2 ge2 hb2
 try simp only [sc0,sc1]
 refine run_nil<|norm_then<|wp_seq<|region<|rs (Value.func (.func 71) #[] #[vP b1 0,vP b2 0]) (r_makeFunc (vs:=[vP b1 0,vP b2 0]) rfl)<|run_defer rfl ?_
 try simp only [sc0,sc1]
 refine run_nil<|norm_then<|wp_seq<|region<|rs (vL A0_0 a0.length c0_0) (r_move rfl)<|rs (Value.agg #[vL A0_0 a0.length c0_0]) (r_build (cs:=[vL A0_0 a0.length c0_0]) (ps:=[(0,vL A0_0 a0.length c0_0)]) Tryd.zeroValue124 Tryd.runUnderlying124 (pl:=#[(0,1)]) (fun w=>by simp [Tryd.sizeOf80]) (parts_1 (show _=vL A0_0 a0.length c0_0 from rfl)) rfl) ?_
 refine rs (Value.agg #[vL A0_0 a0.length c0_0]) (r_build (cs:=[vL A0_0 a0.length c0_0]) (ps:=[(0,Value.agg #[vL A0_0 a0.length c0_0])]) Tryd.zeroValue126 Tryd.runUnderlying126 (pl:=#[(0,1)]) (fun w=>by simp [Tryd.sizeOf124]) (parts_1 (show _=Value.agg #[vL A0_0 a0.length c0_0] from rfl)) rfl) ?_
 refine run_ex rfl rfl (does_box (cs:=#[vL A0_0 a0.length c0_0]) rfl rfl) ?_
 rintro w3 _ hE3 ⟨b3,rfl,ge3,hb3⟩
 have HS3:=HS2.new hE3 ge3 hb3
 refine run_frame (by simp only [sc0,sc1];rfl) ?_
 refine rs (vP b3 0) (r_assign rfl) ?_
 try simp only [sc0,sc1]
 refine run_nil<|norm_then<|wp_seq<|wp_seq<|region<|rs (vP b3 0) (r_move rfl)<|rs (vP b3 0) (r_nilCheck rfl)<|rs (vP b3 0) (r_fieldBox (n:=1) (o':=0) rfl Tryd.runUnderlying126 rfl Tryd.sizeOf124 (by decide) rfl) ?_
 obtain ⟨v1,H1,H⟩:=of_bind H
 rcases v1 with pv1|v1o
 ·refine run_callp (first:=[]) (vs:=[vP b3 0,vI 4]) (caps:=[]) Tryd.call72 rfl rfl (ctf_bytesLeft_take.calls a0 4 b3 A0_0 c0_0 HS3 hr0_0 hc0_0 H1) ?_
  rintro _ w4 ⟨csq1,rfl,HS4⟩
  refine .inr ⟨_,rfl,?_⟩
  refine panic_then<|panic_then ?_
  obtain ⟨hbad,H⟩:=of_ite H
  first|(obtain rfl:=bad_of hbad)|skip
  obtain rfl:=Option.some.inj H
  have HS5:=HS4.f1
  have HS6:=HS5.f2
  refine catch_panic (caps:=[vP b1 0,vP b2 0]) Tryd.call71 (decode1_caught HS6 rfl rfl) ?_
  intro w5 HS7
  refine ⟨_,results_2 rfl (one_agg rfl Tryd.isAgg24 (HS7.look 0 rfl) Tryd.sizeOf24 rfl) (one_cell rfl Tryd.isAgg27 (HS7.look 1 rfl)),?_⟩
  exact ⟨h0,none,0,rfl,(Nat.le_refl 0),(Rd.nil _ _ _),HS7.gr,HS7.sees,HS7.toE⟩
 refine run_callp (first:=[]) (vs:=[vP b3 0,vI 4]) (caps:=[]) Tryd.call72 rfl rfl (ctf_bytesLeft_take.calls a0 4 b3 A0_0 c0_0 HS3 hr0_0 hc0_0 H1) ?_
 rintro _ w6 ⟨Av1o_r0_0,cv1o_r0_0,Av1o_p0,cv1o_p0,rfl,hcv1o_r0_0,hrv1o_r0_0,hcv1o_p0,hrv1o_p0,HS8⟩
 refine .inl ⟨_,rfl,?_⟩
 refine run_frame (by simp only [sc0,sc1];rfl) ?_
 refine rs (vS (strOf v1o.1)) (r_b2s rfl Tryd.runUnderlying80 Tryd.runUnderlying9 Tryd.runUnderlying5 HS8.sees hrv1o_r0_0)<|rs (vB (!(strEq (strOf v1o.1) (⟨#[67,84,70,1]⟩:ByteArray)))) (r_strneq rfl rfl) ?_
 try simp only [sc0,sc1]
 refine run_nil<|norm_then<|wp_cond_split (t:=(!(strEq (strOf v1o.1) (⟨#[67,84,70,1]⟩:ByteArray)))) rfl (fun c1=>?_) (fun c1=>?_)
 ·replace H:=of_pos H c1
  refine region<|rs (Value.agg #[]) (r_build0 (cs:=[]) Tryd.zeroValue120 Tryd.runUnderlying120 (pl:=#[]) (fun w=>by simp []) rfl) ?_
  refine rs (Value.iface 120 (Value.agg #[])) (r_iface rfl Tryd.runUnderlying120 (by intro m hm;cases hm)) ?_
  refine run_panic rfl<|panic_then ?_
  obtain ⟨hbad,H⟩:=of_ite H
  first|(obtain rfl:=bad_of hbad)|skip
  obtain rfl:=Option.some.inj H
  have HS9:=HS8.f1
  have HS10:=HS9.f2
  refine catch_panic (caps:=[vP b1 0,vP b2 0]) Tryd.call71 (decode1_caught HS10 rfl rfl) ?_
  intro w7 HS11
  refine ⟨_,results_2 rfl (one_agg rfl Tryd.isAgg24 (HS11.look 0 rfl) Tryd.sizeOf24 rfl) (one_cell rfl Tryd.isAgg27 (HS11.look 1 rfl)),?_⟩
  exact ⟨h0,none,0,rfl,(Nat.le_refl 0),(Rd.nil _ _ _),HS11.gr,HS11.sees,HS11.toE⟩
 ·replace H:=of_neg H (nt c1)
  refine wp_skip<|norm_then<|wp_seq<|region<|rs (vP b3 0) (r_move rfl)<|rs (vP b3 0) (r_move rfl)<|rs (Value.func (.func 74) #[vP b3 0] #[]) (r_first (fv:=[vP b3 0]) (cv:=[]) rfl rfl) ?_
  obtain ⟨v2,H2,H⟩:=of_bind H
  rcases v2 with pv2|v2o
  ·refine run_callp (first:=[]) (vs:=[vP b3 0,Value.func (.func 74) #[vP b3 0] #[]]) (caps:=[]) Tryd.call73 rfl rfl (ctf_list_api_Def.calls k v1o.2 b3 Av1o_p0 cv1o_p0 HS8 hrv1o_p0 hcv1o_p0 H2) ?_
   rintro _ w8 ⟨h1,csq2,rfl,hs3,HS12⟩
   refine .inr ⟨_,rfl,?_⟩
   replace hrv1o_r0_0:Rd (Kd.int .u8) h1 Av1o_r0_0 v1o.1:=hrv1o_r0_0.ext hs3
   replace hrv1o_p0:Rd (Kd.int .u8) h1 Av1o_p0 v1o.2:=hrv1o_p0.ext hs3
   refine panic_then ?_
   obtain ⟨hbad,H⟩:=of_ite H
   first|(obtain rfl:=bad_of hbad)|skip
   obtain rfl:=Option.some.inj H
   have HS13:=HS12.f1
   have HS14:=HS13.f2
   refine catch_panic (caps:=[vP b1 0,vP b2 0]) Tryd.call71 (decode1_caught HS14 rfl rfl) ?_
   intro w9 HS15
   refine ⟨_,results_2 rfl (one_agg rfl Tryd.isAgg24 (HS15.look 0 rfl) Tryd.sizeOf24 rfl) (one_cell rfl Tryd.isAgg27 (HS15.look 1 rfl)),?_⟩
   exact ⟨h1,none,0,rfl,(Nat.le_refl 0),(Rd.nil _ _ _),HS15.gr,HS15.sees,HS15.toE⟩
  refine run_callp (first:=[]) (vs:=[vP b3 0,Value.func (.func 74) #[vP b3 0] #[]]) (caps:=[]) Tryd.call73 rfl rfl (ctf_list_api_Def.calls k v1o.2 b3 Av1o_p0 cv1o_p0 HS8 hrv1o_p0 hcv1o_p0 H2) ?_
  rintro _ w10 ⟨h2,Av2o_r0_0,cv2o_r0_0,Av2o_p0,cv2o_p0,rfl,hcv2o_r0_0,hrv2o_r0_0,hcv2o_p0,hrv2o_p0,hs4,HS16⟩
  refine .inl ⟨_,rfl,?_⟩
  replace hrv1o_r0_0:Rd (Kd.int .u8) h2 Av1o_r0_0 v1o.1:=hrv1o_r0_0.ext hs4
  replace hrv1o_p0:Rd (Kd.int .u8) h2 Av1o_p0 v1o.2:=hrv1o_p0.ext hs4
  refine run_frame (by simp only [sc0,sc1];rfl) ?_
  refine rs (vP b1 0) (r_fieldBox (n:=1) (o':=0) rfl Tryd.runUnderlying24 rfl Tryd.sizeOf22 (by decide) rfl)<|run_st (i:=2) (cs:=[vL none 0 0]) (cs':=[vL Av2o_r0_0 v2o.1.length cv2o_r0_0]) (vs:=[vL Av2o_r0_0 v2o.1.length cv2o_r0_0]) (bs':=[(some b3, .cells #[vL Av2o_p0 v2o.2.length cv2o_p0] 126 (0,0)),(some b2, .cells #[vI 0] 27 (0,0)),(some b1, .cells #[vL Av2o_r0_0 v2o.1.length cv2o_r0_0] 24 (0,0))]) rfl rfl Tryd.sizeOf22 rfl rfl (by decide) rfl HS16 rfl (Nat.le_of_ble_eq_true rfl) rfl rfl ?_
  intro w11 HS17
  try simp only [sc0,sc1]
  refine run_nil<|norm_then<|wp_seq<|wp_seq<|region<|rs (vP b3 0) (r_move rfl)<|rs (vP b3 0) (r_nilCheck rfl)<|rs (vP b3 0) (r_fieldBox (n:=1) (o':=0) rfl Tryd.runUnderlying126 rfl Tryd.sizeOf124 (by decide) rfl)<|rs (vP b3 0) (r_fieldBox (n:=1) (o':=0) rfl Tryd.runUnderlying124 rfl Tryd.sizeOf80 (by decide) rfl)<|run_frame (by simp only [sc0,sc1];rfl) ?_
  refine rs (vL Av2o_p0 v2o.2.length cv2o_p0) (r_loadBox rfl Tryd.isAgg80 (HS17.look 0 rfl) rfl)<|rs (vI (v2o.2.length:Int)) (r_len rfl Tryd.runUnderlying80)<|rs (vB (decide ((v2o.2.length:Int)>0))) (r_bin rfl rfl rfl) ?_
  try simp only [sc0,sc1]
  refine run_nil<|norm_then<|wp_cond_split (t:=(decide ((v2o.2.length:Int)>0))) rfl (fun c2=>?_) (fun c2=>?_)
  ·replace H:=of_pos H c2
   refine region<|rs (Value.agg #[]) (r_build0 (cs:=[]) Tryd.zeroValue120 Tryd.runUnderlying120 (pl:=#[]) (fun w=>by simp []) rfl) ?_
   refine rs (Value.iface 120 (Value.agg #[])) (r_iface rfl Tryd.runUnderlying120 (by intro m hm;cases hm)) ?_
   refine run_panic rfl<|panic_then ?_
   obtain ⟨hbad,H⟩:=of_ite H
   first|(obtain rfl:=bad_of hbad)|skip
   obtain rfl:=Option.some.inj H
   have HS18:=HS17.f1
   have HS19:=HS18.f2
   refine catch_panic (caps:=[vP b1 0,vP b2 0]) Tryd.call71 (decode1_caught HS19 rfl rfl) ?_
   intro w12 HS20
   refine ⟨_,results_2 rfl (one_agg rfl Tryd.isAgg24 (HS20.look 0 rfl) Tryd.sizeOf24 rfl) (one_cell rfl Tryd.isAgg27 (HS20.look 1 rfl)),?_⟩
   exact ⟨h2,none,0,rfl,(Nat.le_refl 0),(Rd.nil _ _ _),HS20.gr,HS20.sees,HS20.toE⟩
  ·replace H:=of_neg H (nt c2)
   refine wp_skip<|norm_then<|wp_seq<|wp_seq<|region<|rs (Value.agg #[vL Av2o_r0_0 v2o.1.length cv2o_r0_0]) (r_loadBoxAgg (n:=1) (vs:=[vL Av2o_r0_0 v2o.1.length cv2o_r0_0]) rfl Tryd.isAgg24 (HS17.look 2 rfl) Tryd.sizeOf24 rfl rfl) ?_
   obtain ⟨v3,H3,H⟩:=of_bind H
   refine run_eq (v:=vB v3) rfl rfl (does_call_eq Tryd.call47 rfl rfl (ctf_valid.calls k (⟨v2o.1⟩:api_Types) Av2o_r0_0 cv2o_r0_0 HS17.sees hrv2o_r0_0 hcv2o_r0_0 H3)) ?_
   intro w13 hE4
   have HS21:=HS17.step hE4
   refine rs (vB (!v3)) (r_not rfl) ?_
   try simp only [sc0,sc1]
   refine run_nil<|norm_then<|wp_cond_split (t:=(!v3)) rfl (fun c3=>?_) (fun c3=>?_)
   ·replace H:=of_pos H c3
    refine wp_seq<|region<|rs (Value.agg #[vL none 0 0]) (r_build0 (cs:=[vL none 0 0]) Tryd.zeroValue24 Tryd.runUnderlying24 (pl:=#[(0,1)]) (fun w=>by simp [Tryd.sizeOf22]) rfl) ?_
    refine run_st (i:=2) (cs:=[vL Av2o_r0_0 v2o.1.length cv2o_r0_0]) (cs':=[vL none 0 0]) (vs:=[vL none 0 0]) (bs':=[(some b3, .cells #[vL Av2o_p0 v2o.2.length cv2o_p0] 126 (0,0)),(some b2, .cells #[vI 0] 27 (0,0)),(some b1, .cells #[vL none 0 0] 24 (0,0))]) rfl rfl Tryd.sizeOf24 rfl rfl (by decide) rfl HS21 rfl (Nat.le_of_ble_eq_true rfl) rfl rfl ?_
    intro w14 HS22
    refine run_st (i:=1) (cs:=[vI 0]) (cs':=[vI 80]) (vs:=[vI 80]) (bs':=[(some b3, .cells #[vL Av2o_p0 v2o.2.length cv2o_p0] 126 (0,0)),(some b2, .cells #[vI 80] 27 (0,0)),(some b1, .cells #[vL none 0 0] 24 (0,0))]) rfl rfl Tryd.sizeOf27 rfl rfl (by decide) rfl HS22 rfl (Nat.le_of_ble_eq_true rfl) rfl rfl ?_
    intro w15 HS23
    try simp only [sc0,sc1]
    refine run_nil<|norm_then<|wp_ret<|ret_then ?_
    obtain rfl:=Option.some.inj H
    refine catch_ret (caps:=[vP b1 0,vP b2 0]) Tryd.call71 (decode1_quiet _ _ HS23) ?_
    intro w16 HS24
    refine ⟨_,results_2 rfl (one_agg rfl Tryd.isAgg24 (HS24.look 2 rfl) Tryd.sizeOf24 rfl) (one_cell rfl Tryd.isAgg27 (HS24.look 1 rfl)),?_⟩
    exact ⟨h2,none,0,rfl,(Nat.le_refl 0),(Rd.nil _ _ _),HS24.gr,HS24.sees,HS24.toE⟩
   ·replace H:=of_neg H (nt c3)
    refine wp_skip<|norm_then<|wp_seq<|region<|rs (Value.agg #[vL Av2o_r0_0 v2o.1.length cv2o_r0_0]) (r_loadBoxAgg (n:=1) (vs:=[vL Av2o_r0_0 v2o.1.length cv2o_r0_0]) rfl Tryd.isAgg24 (HS21.look 2 rfl) Tryd.sizeOf24 rfl rfl)<|run_st (i:=2) (cs:=[vL Av2o_r0_0 v2o.1.length cv2o_r0_0]) (cs':=[vL Av2o_r0_0 v2o.1.length cv2o_r0_0]) (vs:=[vL Av2o_r0_0 v2o.1.length cv2o_r0_0]) (bs':=[(some b3, .cells #[vL Av2o_p0 v2o.2.length cv2o_p0] 126 (0,0)),(some b2, .cells #[vI 0] 27 (0,0)),(some b1, .cells #[vL Av2o_r0_0 v2o.1.length cv2o_r0_0] 24 (0,0))]) rfl rfl Tryd.sizeOf24 rfl rfl (by decide) rfl HS21 rfl (Nat.le_of_ble_eq_true rfl) rfl rfl ?_
    intro w17 HS25
    refine run_st (i:=1) (cs:=[vI 0]) (cs':=[vI 0]) (vs:=[vI 0]) (bs':=[(some b3, .cells #[vL Av2o_p0 v2o.2.length cv2o_p0] 126 (0,0)),(some b2, .cells #[vI 0] 27 (0,0)),(some b1, .cells #[vL Av2o_r0_0 v2o.1.length cv2o_r0_0] 24 (0,0))]) rfl rfl Tryd.sizeOf27 rfl rfl (by decide) rfl HS25 rfl (Nat.le_of_ble_eq_true rfl) rfl rfl ?_
    intro w18 HS26
    try simp only [sc0,sc1]
    refine run_nil<|norm_then<|wp_ret ?_
    obtain rfl:=Option.some.inj H
    refine catch_ret (caps:=[vP b1 0,vP b2 0]) Tryd.call71 (decode1_quiet _ _ HS26) ?_
    intro w19 HS27
    refine ⟨_,results_2 rfl (one_agg rfl Tryd.isAgg24 (HS27.look 2 rfl) Tryd.sizeOf24 rfl) (one_cell rfl Tryd.isAgg27 (HS27.look 1 rfl)),?_⟩
    exact ⟨h2,Av2o_r0_0,cv2o_r0_0,rfl,hcv2o_r0_0,hrv2o_r0_0,HS27.gr,HS27.sees,HS27.toE⟩
def taplineref08_Named.f (a0:api_Def):Option (Bool):=some ((a0.vKind !=2)&&(a0.vKind !=3))
def taplineref08_unused.f (a0:api_Def):Option (Bool):=(taplineref08_Named.f a0).bind fun v1=>(if (v1 !=(!(strEq a0.vName ByteArray.empty)))=true then (some false) else (if ((a0.vKind !=1)&&((a0.vInt.vSize !=0)||a0.vInt.vSigned))=true then (some false) else (if ((((a0.vKind !=2)&&(a0.vKind !=3))&&(a0.vKind !=6))&&(a0.vRef !=0))=true then (some false) else (if (((a0.vKind !=3)&&(a0.vKind !=4))&&(a0.vN !=0))=true then (some false) else (some (((a0.vKind==4)||(a0.vKind==5))||((a0.vFields.length:Int)==0)))))))
def taplineref08_Name.l0 (a0:ByteArray):Nat→Int→Option ((Bool)⊕(Unit))
 |0,_=>none
 |m+1,y1_0=>if (decide (y1_0<(a0.size:Int)))=true then (if 0≤y1_0∧y1_0<(a0.size:Int) then (if ((!((((decide ((byteAt a0 y1_0)≥97))&&(decide ((byteAt a0 y1_0)≤122)))||((decide ((byteAt a0 y1_0)≥65))&&(decide ((byteAt a0 y1_0)≤90))))||((byteAt a0 y1_0)==95)))&&(((y1_0==0)||(decide ((byteAt a0 y1_0)<48)))||(decide ((byteAt a0 y1_0)>57))))=true then (some (.inl false)) else (taplineref08_Name.l0 a0 m (IntKind.wrap .i64 (y1_0+1)))) else none) else (some (.inr ()))
def taplineref08_Name.f (k:Nat) (a0:ByteArray):Option (Bool):=if (((a0.size:Int)==0)||(decide ((a0.size:Int)>31)))=true then (some false) else ((taplineref08_Name.l0 a0 k 0).bind fun xx1=>(match xx1 with| .inl r=>some r| .inr s1=>some true))
def taplineref08_Index.f (a0:api_Types) (a1:Int):Option (Bool):=some ((decide (a1≥0))&&(decide (a1<(a0.vDefs.length:Int))))
def taplineref08_fields.l1 (a0:List api_Field) (y1_0:Int):Nat→Int→Option ((Bool)⊕(Unit))
 |0,_=>none
 |m+1,y2_0=>if (decide (y2_0<y1_0))=true then (if 0≤y2_0∧y2_0<a0.length then (if 0≤y1_0∧y1_0<a0.length then (if (strEq ((rd z_api_Field a0 y2_0).vName) ((rd z_api_Field a0 y1_0).vName))=true then (some (.inl false)) else (taplineref08_fields.l1 a0 y1_0 m (IntKind.wrap .i64 (y2_0+1)))) else none) else none) else (some (.inr ()))
def taplineref08_fields.l0 (k:Nat) (a0:List api_Field):Nat→Int→Option ((Bool)⊕(Unit))
 |0,_=>none
 |m+1,y1_0=>if (decide (y1_0<(a0.length:Int)))=true then (if 0≤y1_0∧y1_0<a0.length then ((taplineref08_Name.f k ((rd z_api_Field a0 y1_0).vName)).bind fun v1=>(if (!v1)=true then (some (.inl false)) else ((taplineref08_fields.l1 a0 y1_0 k 0).bind fun xx2=>(match xx2 with| .inl r=>some (.inl r)| .inr s1=>taplineref08_fields.l0 k a0 m (IntKind.wrap .i64 (y1_0+1)))))) else none) else (some (.inr ()))
def taplineref08_fields.f (k:Nat) (a0:List api_Field):Option (Bool):=if (((a0.length:Int)==0)||(decide ((a0.length:Int)>32)))=true then (some false) else ((taplineref08_fields.l0 k a0 k 0).bind fun xx1=>(match xx1 with| .inl r=>some r| .inr s2=>some true))
def taplineref08_shaped.l0 (a0:api_Types) (a1:api_Def):Nat→Int→Option ((Bool)⊕(Unit))
 |0,_=>none
 |m+1,y1_0=>if (decide (y1_0<(a1.vFields.length:Int)))=true then (if 0≤y1_0∧y1_0<a1.vFields.length then ((if (true&&((a1.vKind==4)==true))=true then taplineref08_Index.f a0 ((rd z_api_Field a1.vFields y1_0).vType) else some false).bind fun v7=>(if ((a1.vKind==4)&&(!v7))=true then (some (.inl false)) else (if ((a1.vKind==5)&&((((rd z_api_Field a1.vFields y1_0).vType !=0)||(decide ((rd z_api_Field a1.vFields y1_0).vAt<(-2147483648))))||(decide ((rd z_api_Field a1.vFields y1_0).vAt>2147483647))))=true then (some (.inl false)) else (taplineref08_shaped.l0 a0 a1 m (IntKind.wrap .i64 (y1_0+1)))))) else none) else (some (.inr ()))
def taplineref08_shaped.f (k:Nat) (a0:api_Types) (a1:api_Def):Option (Bool):=(if (true&&(((decide (a1.vKind<1))||(decide (a1.vKind>6)))==false))=true then taplineref08_unused.f a1 else some false).bind fun v1=>((if (true&&((((decide (a1.vKind<1))||(decide (a1.vKind>6)))||(!v1))==false))=true then taplineref08_Named.f a1 else some false).bind fun v2=>((if ((true&&((((decide (a1.vKind<1))||(decide (a1.vKind>6)))||(!v1))==false))&&(v2==true))=true then taplineref08_Name.f k a1.vName else some false).bind fun v3=>(if ((((decide (a1.vKind<1))||(decide (a1.vKind>6)))||(!v1))||(v2&&(!v3)))=true then (some false) else (if (a1.vKind==1)=true then (some ((((a1.vInt.vSize==1)||(a1.vInt.vSize==2))||(a1.vInt.vSize==4))||(a1.vInt.vSize==8))) else (((if (a1.vKind==2)=true then (some (a1.vKind==2)) else (some (a1.vKind==6))):Option (Bool)).bind fun xx1=>(if xx1=true then ((taplineref08_Index.f a0 a1.vRef).bind fun v4=>(some v4)) else (if (a1.vKind==3)=true then ((taplineref08_Index.f a0 a1.vRef).bind fun v5=>(some ((v5&&(decide (a1.vN≥1)))&&(decide (a1.vN≤512))))) else ((taplineref08_fields.f k a1.vFields).bind fun v6=>(if (!v6)=true then (some false) else ((taplineref08_shaped.l0 a0 a1 k 0).bind fun xx2=>(match xx2 with| .inl r=>some r| .inr s1=>some ((a1.vKind==5)||((decide (a1.vN≥1))&&(decide (a1.vN≤512)))))))))))))))
def taplineref08_size.l0 (a0:api_Def) (a1:List Int):Nat→Int→Option ((Int)⊕(Unit))
 |0,_=>none
 |m+1,y1_0=>if (decide (y1_0<(a0.vFields.length:Int)))=true then (if 0≤y1_0∧y1_0<a0.vFields.length then (if 0≤(rd z_api_Field a0.vFields y1_0).vType∧(rd z_api_Field a0.vFields y1_0).vType<a1.length then (if ((rd 0 a1 ((rd z_api_Field a0.vFields y1_0).vType))==0)=true then (some (.inl 0)) else (taplineref08_size.l0 a0 a1 m (IntKind.wrap .i64 (y1_0+1)))) else none) else none) else (some (.inr ()))
def taplineref08_size.f (k:Nat) (a0:api_Def) (a1:List Int):Option (Int):=if (a0.vKind==1)=true then (some a0.vInt.vSize) else (if (a0.vKind==2)=true then (some 8) else (if (a0.vKind==3)=true then (if 0≤a0.vRef∧a0.vRef<a1.length then (some (IntKind.wrap .i64 (a0.vN*(rd 0 a1 a0.vRef)))) else none) else (if (a0.vKind==5)=true then (some 4) else (if (a0.vKind==6)=true then (if 0≤a0.vRef∧a0.vRef<a1.length then (some (rd 0 a1 a0.vRef)) else none) else ((taplineref08_size.l0 a0 a1 k 0).bind fun xx1=>(match xx1 with| .inl r=>some r| .inr s1=>some a0.vN))))))
def taplineref08_sizes.l1 (k:Nat) (a0:api_Types):Nat→Bool→Int→(List Int)→Option (Bool×(List Int))
 |0,_,_,_=>none
 |m+1,y2_0,y2_1,y2_2=>if (decide (y2_1<(a0.vDefs.length:Int)))=true then (if 0≤y2_1∧y2_1<(((a0.vDefs.length:Int).toNat:Nat):Int) then (if ((rd 0 y2_2 y2_1) !=0)=true then (taplineref08_sizes.l1 k a0 m y2_0 (IntKind.wrap .i64 (y2_1+1)) y2_2) else (if 0≤y2_1∧y2_1<a0.vDefs.length then ((taplineref08_size.f k (rd z_api_Def a0.vDefs y2_1) y2_2).bind fun v1=>(if (decide (v1>0))=true then (if 0≤y2_1∧y2_1<(((a0.vDefs.length:Int).toNat:Nat):Int) then (taplineref08_sizes.l1 k a0 m true (IntKind.wrap .i64 (y2_1+1)) (List.set y2_2 y2_1.toNat (iMin v1 513))) else none) else (taplineref08_sizes.l1 k a0 m y2_0 (IntKind.wrap .i64 (y2_1+1)) y2_2))) else none)) else none) else (some (y2_0,y2_2))
def taplineref08_sizes.l0 (k:Nat) (a0:api_Types):Nat→Bool→(List Int)→Option ((List Int))
 |0,_,_=>none
 |m+1,y1_0,y1_1=>if y1_0=true then ((taplineref08_sizes.l1 k a0 k false 0 y1_1).bind fun xx2=>(taplineref08_sizes.l0 k a0 m xx2.1 xx2.2)) else (some y1_1)
def taplineref08_sizes.f (k:Nat) (a0:api_Types):Option ((List Int)):=if 0≤(a0.vDefs.length:Int)∧(a0.vDefs.length:Int)≤4294967296 then ((taplineref08_sizes.l0 k a0 k true (List.replicate (a0.vDefs.length:Int).toNat (0:Int))).bind fun xx1=>(some xx1)) else none
def taplineref08_ends.l0 (a0:api_Types):Nat→Int→Int→Option ((Bool)⊕(Unit))
 |0,_,_=>none
 |m+1,y1_0,y1_1=>if (decide (y1_1≤(a0.vDefs.length:Int)))=true then (if 0≤y1_0∧y1_0<a0.vDefs.length then ((taplineref08_Named.f (rd z_api_Def a0.vDefs y1_0)).bind fun v1=>(if v1=true then (some (.inl true)) else (if 0≤y1_0∧y1_0<a0.vDefs.length then (taplineref08_ends.l0 a0 m ((rd z_api_Def a0.vDefs y1_0).vRef) (IntKind.wrap .i64 (y1_1+1))) else none))) else none) else (some (.inr ()))
def taplineref08_ends.f (k:Nat) (a0:api_Types) (a1:Int):Option (Bool):=(taplineref08_ends.l0 a0 k a1 0).bind fun xx1=>(match xx1 with| .inl r=>some r| .inr s1=>some false)
def taplineref08_placed.l0 (a0:api_Def) (a1:List Int):Nat→Int→Int→Option ((Bool)⊕(Int))
 |0,_,_=>none
 |m+1,y1_0,y1_1=>if (decide (y1_1<(a0.vFields.length:Int)))=true then (if 0≤y1_1∧y1_1<a0.vFields.length then (if ((decide ((rd z_api_Field a0.vFields y1_1).vAt<y1_0))||(decide ((rd z_api_Field a0.vFields y1_1).vAt>a0.vN)))=true then (some (.inl false)) else (if 0≤(rd z_api_Field a0.vFields y1_1).vType∧(rd z_api_Field a0.vFields y1_1).vType<a1.length then (taplineref08_placed.l0 a0 a1 m (IntKind.wrap .i64 ((rd z_api_Field a0.vFields y1_1).vAt+(rd 0 a1 ((rd z_api_Field a0.vFields y1_1).vType)))) (IntKind.wrap .i64 (y1_1+1))) else none)) else none) else (some (.inr y1_0))
def taplineref08_placed.f (k:Nat) (a0:api_Def) (a1:List Int):Option (Bool):=(taplineref08_placed.l0 a0 a1 k 0 0).bind fun xx1=>(match xx1 with| .inl r=>some r| .inr s1=>some (decide (s1≤a0.vN)))
def taplineref08_Check.l1 (a0:api_Types) (y1_0:Int):Nat→Int→Option ((Int)⊕(Unit))
 |0,_=>none
 |m+1,y2_0=>if (decide (y2_0<y1_0))=true then (if 0≤y1_0∧y1_0<a0.vDefs.length then ((taplineref08_Named.f (rd z_api_Def a0.vDefs y1_0)).bind fun v2=>(if (true&&(v2==true))=true→(0≤y2_0∧y2_0<a0.vDefs.length) then (if (true&&(v2==true))=true→(0≤y1_0∧y1_0<a0.vDefs.length) then (if (v2&&(strEq ((rd z_api_Def a0.vDefs y2_0).vName) ((rd z_api_Def a0.vDefs y1_0).vName)))=true then (some (.inl 80)) else (taplineref08_Check.l1 a0 y1_0 m (IntKind.wrap .i64 (y2_0+1)))) else none) else none)) else none) else (some (.inr ()))
def taplineref08_Check.l0 (k:Nat) (a0:api_Types):Nat→Int→Option ((Int)⊕(Unit))
 |0,_=>none
 |m+1,y1_0=>if (decide (y1_0<(a0.vDefs.length:Int)))=true then (if 0≤y1_0∧y1_0<a0.vDefs.length then ((taplineref08_shaped.f k a0 (rd z_api_Def a0.vDefs y1_0)).bind fun v1=>(if (!v1)=true then (some (.inl 80)) else ((taplineref08_Check.l1 a0 y1_0 k 0).bind fun xx2=>(match xx2 with| .inl r=>some (.inl r)| .inr s1=>taplineref08_Check.l0 k a0 m (IntKind.wrap .i64 (y1_0+1)))))) else none) else (some (.inr ()))
def taplineref08_Check.l2 (k:Nat) (a0:api_Types) (v3:(List Int)):Nat→Int→Option ((Int)⊕(Unit))
 |0,_=>none
 |m+1,y3_0=>if (decide (y3_0<(a0.vDefs.length:Int)))=true then (if 0≤y3_0∧y3_0<v3.length then (if (true&&(((rd 0 v3 y3_0)==0)==false))=true→(0≤y3_0∧y3_0<v3.length) then ((if (true&&((((rd 0 v3 y3_0)==0)||(decide ((rd 0 v3 y3_0)>512)))==false))=true then taplineref08_ends.f k a0 y3_0 else some false).bind fun v4=>(if ((((rd 0 v3 y3_0)==0)||(decide ((rd 0 v3 y3_0)>512)))||(!v4))=true then (some (.inl 80)) else (if 0≤y3_0∧y3_0<a0.vDefs.length then (if (true&&(((rd z_api_Def a0.vDefs y3_0).vKind==4)==true))=true→(0≤y3_0∧y3_0<a0.vDefs.length) then ((if (true&&(((rd z_api_Def a0.vDefs y3_0).vKind==4)==true))=true then taplineref08_placed.f k (rd z_api_Def a0.vDefs y3_0) v3 else some false).bind fun v5=>(if (((rd z_api_Def a0.vDefs y3_0).vKind==4)&&(!v5))=true then (some (.inl 80)) else (taplineref08_Check.l2 k a0 v3 m (IntKind.wrap .i64 (y3_0+1))))) else none) else none))) else none) else none) else (some (.inr ()))
def taplineref08_Check.f (k:Nat) (a0:api_Types):Option (Int):=if (decide ((a0.vDefs.length:Int)>200))=true then (some 80) else ((taplineref08_Check.l0 k a0 k 0).bind fun xx1=>(match xx1 with| .inl r=>some r| .inr s2=>(taplineref08_sizes.f k a0).bind fun v3=>((taplineref08_Check.l2 k a0 v3 k 0).bind fun xx3=>(match xx3 with| .inl r=>some r| .inr s3=>some 0))))
def taplineref08_Reader_Refuse.f (p0_0:List Int) (p0_1:Int) (p0_2:Bool) (p0_3:Int) (a1:Int):Option (Bool×Int):=if (!p0_2)=true then (some (true,a1)) else (some (p0_2,p0_3))
def taplineref08_Reader_Byte.f (p0_0:List Int) (p0_1:Int) (p0_2:Bool) (p0_3:Int):Option (Int×Int×Bool×Int):=if p0_2=true then (some (0,p0_1,p0_2,p0_3)) else (if (decide (p0_1≥(p0_0.length:Int)))=true then ((taplineref08_Reader_Refuse.f p0_0 p0_1 p0_2 p0_3 (p0_0.length:Int)).bind fun v1=>(some (0,p0_1,v1.1,v1.2))) else (if 0≤(IntKind.wrap .i64 ((IntKind.wrap .i64 (p0_1+1))-1))∧(IntKind.wrap .i64 ((IntKind.wrap .i64 (p0_1+1))-1))<p0_0.length then (some ((rd 0 p0_0 (IntKind.wrap .i64 ((IntKind.wrap .i64 (p0_1+1))-1))),(IntKind.wrap .i64 (p0_1+1)),p0_2,p0_3)) else none))
def taplineref08_Reader_Int.l0 (p0_0:List Int):Nat→Int→Int→Int→Bool→Int→Option ((Int×Int×Bool×Int)⊕(Int×Bool×Int))
 |0,_,_,_,_,_=>none
 |m+1,y1_0,y1_1,y1_2,y1_3,y1_4=>if ((decide (y1_1<10))&&(!y1_3))=true then ((taplineref08_Reader_Byte.f p0_0 y1_2 y1_3 y1_4).bind fun v1=>(if v1.2.2.1=true then (some (.inl (0,v1.2.1,v1.2.2.1,v1.2.2.2))) else (if (((y1_1==9)&&(decide (v1.1>1)))||((decide (y1_1>0))&&(v1.1==0)))=true then ((taplineref08_Reader_Refuse.f p0_0 v1.2.1 v1.2.2.1 v1.2.2.2 (IntKind.wrap .i64 (v1.2.1-1))).bind fun v2=>(some (.inl (0,v1.2.1,v2.1,v2.2)))) else (if 0≤(IntKind.wrap .i64 (7*y1_1)) then (if (decide (v1.1<128))=true then (if ((iRem (iOr .u64 y1_0 (iShl .u64 (IntKind.wrap .u64 (iRem v1.1 128)) (IntKind.wrap .i64 (7*y1_1)))) 2)==1)=true then (some (.inl ((IntKind.wrap .i64 ((IntKind.wrap .i64 (0-(IntKind.wrap .i64 (iShr .u64 (iOr .u64 y1_0 (iShl .u64 (IntKind.wrap .u64 (iRem v1.1 128)) (IntKind.wrap .i64 (7*y1_1)))) 1))))-1)),v1.2.1,v1.2.2.1,v1.2.2.2))) else (some (.inl ((IntKind.wrap .i64 (iShr .u64 (iOr .u64 y1_0 (iShl .u64 (IntKind.wrap .u64 (iRem v1.1 128)) (IntKind.wrap .i64 (7*y1_1)))) 1)),v1.2.1,v1.2.2.1,v1.2.2.2)))) else (taplineref08_Reader_Int.l0 p0_0 m (iOr .u64 y1_0 (iShl .u64 (IntKind.wrap .u64 (iRem v1.1 128)) (IntKind.wrap .i64 (7*y1_1)))) (IntKind.wrap .i64 (y1_1+1)) v1.2.1 v1.2.2.1 v1.2.2.2)) else none)))) else (some (.inr (y1_2,y1_3,y1_4)))
def taplineref08_Reader_Int.f (k:Nat) (p0_0:List Int) (p0_1:Int) (p0_2:Bool) (p0_3:Int):Option (Int×Int×Bool×Int):=(taplineref08_Reader_Int.l0 p0_0 k 0 0 p0_1 p0_2 p0_3).bind fun xx1=>(match xx1 with| .inl r=>some r| .inr s1=>some (0,s1.1,s1.2.1,s1.2.2))
def taplineref08_Reader_Len.f (k:Nat) (p0_0:List Int) (p0_1:Int) (p0_2:Bool) (p0_3:Int):Option (Int×Int×Bool×Int):=(taplineref08_Reader_Int.f k p0_0 p0_1 p0_2 p0_3).bind fun v1=>(((if ((!v1.2.2.1)&&((decide (v1.1<0))||(decide (v1.1>(IntKind.wrap .i64 ((p0_0.length:Int)-v1.2.1))))))=true then ((taplineref08_Reader_Refuse.f p0_0 v1.2.1 v1.2.2.1 v1.2.2.2 (IntKind.wrap .i64 (v1.2.1-1))).bind fun v2=>(some (v2.1,v2.2))) else (some (v1.2.2.1,v1.2.2.2))):Option (Bool×Int)).bind fun xx1=>(if xx1.1=true then (some (0,v1.2.1,xx1.1,xx1.2)) else (some (v1.1,v1.2.1,xx1.1,xx1.2))))
def taplineref08_Reader_Text.f (k:Nat) (p0_0:List Int) (p0_1:Int) (p0_2:Bool) (p0_3:Int):Option (ByteArray×Int×Bool×Int):=(taplineref08_Reader_Len.f k p0_0 p0_1 p0_2 p0_3).bind fun v1=>(if v1.2.2.1=true then (some (ByteArray.empty,v1.2.1,v1.2.2.1,v1.2.2.2)) else (if 0≤(IntKind.wrap .i64 ((IntKind.wrap .i64 (v1.2.1+v1.1))-v1.1))∧(IntKind.wrap .i64 ((IntKind.wrap .i64 (v1.2.1+v1.1))-v1.1))≤(IntKind.wrap .i64 (v1.2.1+v1.1))∧(IntKind.wrap .i64 (v1.2.1+v1.1))≤(p0_0.length:Int) then (some ((strOf (List.drop (IntKind.wrap .i64 ((IntKind.wrap .i64 (v1.2.1+v1.1))-v1.1)).toNat (List.take (IntKind.wrap .i64 (v1.2.1+v1.1)).toNat p0_0))),(IntKind.wrap .i64 (v1.2.1+v1.1)),v1.2.2.1,v1.2.2.2)) else none))
def taplineref08_Reader_Bool.f (p0_0:List Int) (p0_1:Int) (p0_2:Bool) (p0_3:Int):Option (Bool×Int×Bool×Int):=(taplineref08_Reader_Byte.f p0_0 p0_1 p0_2 p0_3).bind fun v1=>(((if ((!v1.2.2.1)&&(decide (v1.1>1)))=true then ((taplineref08_Reader_Refuse.f p0_0 v1.2.1 v1.2.2.1 v1.2.2.2 (IntKind.wrap .i64 (v1.2.1-1))).bind fun v2=>(some (v2.1,v2.2))) else (some (v1.2.2.1,v1.2.2.2))):Option (Bool×Int)).bind fun xx1=>(some ((v1.1==1),v1.2.1,xx1.1,xx1.2)))
def taplineref08_Decode.l0 (a0:List Int):Nat→Int→Int→Bool→Int→Option (Int×Bool×Int)
 |0,_,_,_,_=>none
 |m+1,y1_0,y1_1,y1_2,y1_3=>if (decide (y1_0<((4:Nat):Int)))=true then ((taplineref08_Reader_Byte.f a0 y1_1 y1_2 y1_3).bind fun v1=>(if (true&&((!v1.2.2.1)==true))=true→(0≤y1_0∧y1_0<([67,84,70,1]:List Int).length) then (if ((!v1.2.2.1)&&(v1.1 !=(rd 0 ([67,84,70,1]:List Int) y1_0)))=true then ((taplineref08_Reader_Refuse.f a0 v1.2.1 v1.2.2.1 v1.2.2.2 y1_0).bind fun v2=>(taplineref08_Decode.l0 a0 m (IntKind.wrap .i64 (y1_0+1)) v1.2.1 v2.1 v2.2)) else (taplineref08_Decode.l0 a0 m (IntKind.wrap .i64 (y1_0+1)) v1.2.1 v1.2.2.1 v1.2.2.2)) else none)) else (some (y1_1,y1_2,y1_3))
def taplineref08_Decode.l2 (k:Nat) (a0:List Int) (v10:Int×Int×Bool×Int):Nat→Int→Int→Bool→Int→(List api_Field)→Option (Int×Bool×Int×(List api_Field))
 |0,_,_,_,_,_=>none
 |m+1,y3_0,y3_1,y3_2,y3_3,y3_4=>if ((decide (y3_0<v10.1))&&(!y3_2))=true then ((taplineref08_Reader_Text.f k a0 y3_1 y3_2 y3_3).bind fun v11=>((taplineref08_Reader_Int.f k a0 v11.2.1 v11.2.2.1 v11.2.2.2).bind fun v12=>((taplineref08_Reader_Int.f k a0 v12.2.1 v12.2.2.1 v12.2.2.2).bind fun v13=>(if y3_4.length+1≤4294967296 then (taplineref08_Decode.l2 k a0 v10 m (IntKind.wrap .i64 (y3_0+1)) v13.2.1 v13.2.2.1 v13.2.2.2 (y3_4++([(⟨v11.1,v12.1,v13.1⟩:api_Field)]:List api_Field))) else none)))) else (some (y3_1,y3_2,y3_3,y3_4))
def taplineref08_Decode.l1 (k:Nat) (a0:List Int) (v3:Int×Int×Bool×Int):Nat→Int→Int→Bool→Int→(List api_Def)→Option (Int×Bool×Int×(List api_Def))
 |0,_,_,_,_,_=>none
 |m+1,y2_0,y2_1,y2_2,y2_3,y2_4=>if ((decide (y2_0<v3.1))&&(!y2_2))=true then ((taplineref08_Reader_Int.f k a0 y2_1 y2_2 y2_3).bind fun v4=>((taplineref08_Reader_Text.f k a0 v4.2.1 v4.2.2.1 v4.2.2.2).bind fun v5=>((taplineref08_Reader_Int.f k a0 v5.2.1 v5.2.2.1 v5.2.2.2).bind fun v6=>((taplineref08_Reader_Bool.f a0 v6.2.1 v6.2.2.1 v6.2.2.2).bind fun v7=>((taplineref08_Reader_Int.f k a0 v7.2.1 v7.2.2.1 v7.2.2.2).bind fun v8=>((taplineref08_Reader_Int.f k a0 v8.2.1 v8.2.2.1 v8.2.2.2).bind fun v9=>((taplineref08_Reader_Len.f k a0 v9.2.1 v9.2.2.1 v9.2.2.2).bind fun v10=>((taplineref08_Decode.l2 k a0 v10 k 0 v10.2.1 v10.2.2.1 v10.2.2.2 ([]:List api_Field)).bind fun xx3=>(if y2_4.length+1≤4294967296 then (taplineref08_Decode.l1 k a0 v3 m (IntKind.wrap .i64 (y2_0+1)) xx3.1 xx3.2.1 xx3.2.2.1 (y2_4++([(⟨v4.1,v5.1,(⟨v6.1,v7.1⟩:api_Int),v8.1,v9.1,xx3.2.2.2⟩:api_Def)]:List api_Def))) else none))))))))) else (some (y2_1,y2_2,y2_3,y2_4))
def taplineref08_Decode.f (k:Nat) (a0:List Int):Option (taplineref08_Read):=(taplineref08_Decode.l0 a0 k 0 0 false 0).bind fun xx1=>((taplineref08_Reader_Len.f k a0 xx1.1 xx1.2.1 xx1.2.2).bind fun v3=>((taplineref08_Decode.l1 k a0 v3 k 0 v3.2.1 v3.2.2.1 v3.2.2.2 ([]:List api_Def)).bind fun xx2=>(if (xx2.2.1||(xx2.1 !=(a0.length:Int)))=true then (some (⟨(⟨[]⟩:api_Types),81⟩:taplineref08_Read)) else ((taplineref08_Check.f k (⟨xx2.2.2.2⟩:api_Types)).bind fun v14=>(if (v14 !=0)=true then (some (⟨(⟨[]⟩:api_Types),v14⟩:taplineref08_Read)) else (some (⟨(⟨xx2.2.2.2⟩:api_Types),0⟩:taplineref08_Read)))))))
def taplinelaw08_CtfBack.f (k:Nat) (a0:api_Types) (a1:List Int):Option (Bool):=(taplinelaw08_sane.f k).bind fun v1=>((ctf_Encode.f k a0).bind fun v2=>(if (v2.2==0)=true then ((ctf_Decode.f k v2.1).bind fun v3=>((if (true&&((v3.2 !=0)==false))=true then taplineref08_Same.f k v3.1 a0 else some false).bind fun v4=>(if ((v3.2 !=0)||(!v4))=true then (some false) else (if (decide ((a1.length:Int)>100000))=true then (some v1) else ((ctf_Decode.f k a1).bind fun v5=>(if (v5.2 !=0)=true then (some v1) else ((ctf_Encode.f k v5.1).bind fun v6=>(some ((v1&&(v6.2==0))&&(strEq (strOf v6.1) (strOf a1))))))))))) else (if (decide ((a1.length:Int)>100000))=true then (some v1) else ((ctf_Decode.f k a1).bind fun v7=>(if (v7.2 !=0)=true then (some v1) else ((ctf_Encode.f k v7.1).bind fun v8=>(some ((v1&&(v8.2==0))&&(strEq (strOf v8.1) (strOf a1))))))))))
theorem taplinelaw08_CtfBack.calls (k:Nat) (a0:api_Types) (a1:List Int) (A0_0:Option Addr) (c0_0:Nat) (A1_0:Option Addr) (c1_0:Nat) {h0:View} {w0:World} (hv:Sees h0 w0) (ht:Tab w0) (hr0_0:Rd k_api_Def h0 A0_0 a0.vDefs) (hc0_0:a0.vDefs.length≤c0_0) (hr1_0:Rd (Kd.int .u8) h0 A1_0 a1) (hc1_0:a1.length≤c1_0) {r:Bool} (H:taplinelaw08_CtfBack.f k a0 a1=some r):Calls Tryd.prog 11 #[Value.agg #[vL A0_0 a0.vDefs.length c0_0],vL A1_0 a1.length c1_0] w0 (fun e w1=>e= .returned (vB r)∧Ext w0 w1):=by
 unfold taplinelaw08_CtfBack.f at H
 have HS:St [] h0 w0 h0 [] w0:=St.init hv
 go_enter Tryd.func11,Tryd.ntmps11
 refine wp_seq<|region<|run_ex rfl rfl (does_box (cs:=#[vL A0_0 a0.vDefs.length c0_0]) rfl rfl) ?_
 rintro w1 _ hE1 ⟨b1,rfl,ge1,hb1⟩
 have HS1:=HS.new hE1 ge1 hb1
 refine rs (vB false) (r_assign rfl) ?_
 try simp only [sc0,sc1]
 refine run_nil<|norm_then<|wp_seq<|region ?_
 obtain ⟨v1,H1,H⟩:=of_bind H
 refine run_eq (v:=vB v1) rfl rfl (does_call_eq Tryd.call13 rfl rfl (taplinelaw08_sane.calls k HS1.sees (ht.s HS1) H1)) ?_
 intro w2 hE2
 have HS2:=HS1.step hE2
 refine rs (vB v1) (r_assign rfl) ?_
 try simp only [sc0,sc1]
 refine run_nil<|norm_then<|wp_seq<|region<|rs (Value.agg #[vL A0_0 a0.vDefs.length c0_0]) (r_loadBoxAgg (n:=1) (vs:=[vL A0_0 a0.vDefs.length c0_0]) rfl Tryd.isAgg24 (HS2.look 0 rfl) Tryd.sizeOf24 rfl rfl) ?_
 obtain ⟨v2,H2,H⟩:=of_bind H
 refine run_ex rfl rfl (does_call Tryd.call37 rfl (gives_in (h:=h0) (R:=(fun hx u=>∃(Av2_0_0:Option Addr) (cv2_0_0:Nat),u=Value.tuple #[vL Av2_0_0 v2.1.length cv2_0_0,vI v2.2]∧v2.1.length≤cv2_0_0∧Rd (Kd.int .u8) hx Av2_0_0 v2.1)) (Ext.rfl' w2) ((ctf_Encode.calls k a0 A0_0 c0_0 HS2.sees hr0_0 hc0_0 H2).mono ?_)) rfl) ?_
 ·rintro _ _ ⟨h1,Av2_0_0,cv2_0_0,rfl,hcv2_0_0,hrv2_0_0,g,ss,x⟩
  exact ⟨h1,_,rfl,⟨Av2_0_0,cv2_0_0,rfl,hcv2_0_0,hrv2_0_0⟩,g,ss,x⟩
 rintro w3 _ hE3 ⟨h1,⟨Av2_0_0,cv2_0_0,rfl,hcv2_0_0,hrv2_0_0⟩,gr1,se1⟩
 have HS3:=HS2.view hE3 gr1 se1
 refine rs (Value.tuple #[vL Av2_0_0 v2.1.length cv2_0_0,vI v2.2]) (r_move rfl)<|rs (vL Av2_0_0 v2.1.length cv2_0_0) (r_extract rfl rfl)<|run_frame (by simp only [sc0,sc1];rfl) ?_
 refine rs (vI v2.2) (r_extract rfl rfl)<|rs (vL Av2_0_0 v2.1.length cv2_0_0) (r_assign rfl)<|rs (vI v2.2) (r_assign rfl) ?_
 try simp only [sc0,sc1]
 refine run_nil<|norm_then<|wp_seq<|wp_seq<|region<|rs (vI v2.2) (r_move rfl)<|rs (vB (v2.2==0)) (r_bin rfl rfl rfl) ?_
 try simp only [sc0,sc1]
 refine run_nil<|norm_then<|wp_cond_split (t:=(v2.2==0)) rfl (fun c1=>?_) (fun c1=>?_)
 ·replace H:=of_pos H c1
  refine wp_seq<|region<|rs (vL Av2_0_0 v2.1.length cv2_0_0) (r_move rfl) ?_
  obtain ⟨v3,H3,H⟩:=of_bind H
  refine run_ex rfl rfl (does_call Tryd.call38 rfl (gives_in (h:=h1) (R:=(fun hx u=>∃(Av3_0_0:Option Addr) (cv3_0_0:Nat),u=Value.tuple #[Value.agg #[vL Av3_0_0 v3.1.vDefs.length cv3_0_0],vI v3.2]∧v3.1.vDefs.length≤cv3_0_0∧Rd k_api_Def hx Av3_0_0 v3.1.vDefs)) (Ext.rfl' w3) ((ctf_Decode.calls k v2.1 Av2_0_0 cv2_0_0 HS3.sees hrv2_0_0 hcv2_0_0 H3).mono ?_)) rfl) ?_
  ·rintro _ _ ⟨h1,Av3_0_0,cv3_0_0,rfl,hcv3_0_0,hrv3_0_0,g,ss,x⟩
   exact ⟨h1,_,rfl,⟨Av3_0_0,cv3_0_0,rfl,hcv3_0_0,hrv3_0_0⟩,g,ss,x⟩
  rintro w4 _ hE4 ⟨h2,⟨Av3_0_0,cv3_0_0,rfl,hcv3_0_0,hrv3_0_0⟩,gr2,se2⟩
  have HS4:=HS3.view hE4 gr2 se2
  replace hrv2_0_0:Rd (Kd.int .u8) h2 Av2_0_0 v2.1:=hrv2_0_0.ext gr2.1
  refine rs (Value.tuple #[Value.agg #[vL Av3_0_0 v3.1.vDefs.length cv3_0_0],vI v3.2]) (r_move rfl)<|rs (Value.agg #[vL Av3_0_0 v3.1.vDefs.length cv3_0_0]) (r_extract rfl rfl)<|run_frame (by simp only [sc0,sc1];rfl) ?_
  refine rs (vI v3.2) (r_extract rfl rfl)<|run_ex rfl rfl (does_alloc (cs:=#[vL none 0 0]) Tryd.zeroValue24 rfl) ?_
  rintro w5 _ hE5 ⟨b2,rfl,ge2,hb2⟩
  have HS5:=HS4.new hE5 ge2 hb2
  refine run_st (i:=0) (cs:=[vL none 0 0]) (cs':=[vL Av3_0_0 v3.1.vDefs.length cv3_0_0]) (vs:=[vL Av3_0_0 v3.1.vDefs.length cv3_0_0]) (bs':=[(some b2, .cells #[vL Av3_0_0 v3.1.vDefs.length cv3_0_0] 24 (0,0)),(some b1, .cells #[vL A0_0 a0.vDefs.length c0_0] 24 (0,0))]) rfl rfl Tryd.sizeOf24 rfl rfl (by decide) rfl HS5 rfl (Nat.le_of_ble_eq_true rfl) rfl rfl ?_
  intro w6 HS6
  refine rs (vI v3.2) (r_assign rfl) ?_
  try simp only [sc0,sc1]
  refine run_nil<|norm_then<|wp_seq<|region<|rs (vI v3.2) (r_move rfl)<|rs (vB (v3.2 !=0)) (r_bin rfl rfl rfl)<|rs (vB (v3.2 !=0)) (r_move rfl)<|rgs (v3.2 !=0) true (Value.agg #[vL Av3_0_0 v3.1.vDefs.length cv3_0_0]) rfl rfl rfl rfl (fun hg=>(r_loadBoxAgg (n:=1) (vs:=[vL Av3_0_0 v3.1.vDefs.length cv3_0_0]) rfl Tryd.isAgg24 (HS6.look 0 rfl) Tryd.sizeOf24 rfl rfl))<|run_frame (by simp only [sc0,sc1];rfl) ?_
  refine rgs (v3.2 !=0) true (Value.agg #[vL A0_0 a0.vDefs.length c0_0]) rfl rfl rfl rfl (fun hg=>(r_loadBoxAgg (n:=1) (vs:=[vL A0_0 a0.vDefs.length c0_0]) rfl Tryd.isAgg24 (HS6.look 1 rfl) Tryd.sizeOf24 rfl rfl)) ?_
  obtain ⟨v4,H4,H⟩:=of_bind H
  refine run_g (b:=(v3.2 !=0)) (c:=true) (v:=vB v4) rfl rfl rfl rfl (fun hg=>(does_call_eq Tryd.call30 rfl (map2 (gvt (Value.agg #[vL Av3_0_0 v3.1.vDefs.length cv3_0_0]) hg rfl) (gvt (Value.agg #[vL A0_0 a0.vDefs.length c0_0]) hg rfl)) (taplineref08_Same.calls k v3.1 a0 Av3_0_0 cv3_0_0 A0_0 c0_0 HS6.sees hrv3_0_0 hcv3_0_0 (hr0_0.ext HS6.sub) hc0_0 (of_pos H4 hg)))) ?_
  intro w7 hE6
  have HS7:=HS6.step hE6
  refine rgs (v3.2 !=0) true (vB (!v4)) rfl rfl rfl rfl (fun hg=>(r_not (gvt (vB v4) hg rfl)))<|rs (vB ((v3.2 !=0)||(!v4))) (r_pick_or rfl rfl (fun hp=>(gvt (vB (!v4)) (and_i rfl hp) rfl))) ?_
  try simp only [sc0,sc1]
  refine run_nil<|norm_then<|wp_cond_split (t:=((v3.2 !=0)||(!v4))) rfl (fun c2=>?_) (fun c2=>?_)
  ·replace H:=of_pos H c2
   refine wp_seq<|region<|rs (vB false) (r_assign rfl) ?_
   try simp only [sc0,sc1]
   refine run_nil<|norm_then<|wp_ret<|ret_then ?_
   obtain rfl:=Option.some.inj H
   exact bodyPost_ret (results_1 rfl (one_tmp rfl)) rfl<|⟨rfl,HS7.toE⟩
  ·replace H:=of_neg H (nt c2)
   refine wp_skip<|norm_then<|wp_seq<|wp_seq<|region<|rs (vL A1_0 a1.length c1_0) (r_move rfl)<|rs (vI (a1.length:Int)) (r_len rfl Tryd.runUnderlying80)<|rs (vB (decide ((a1.length:Int)>100000))) (r_bin rfl rfl rfl) ?_
   try simp only [sc0,sc1]
   refine run_nil<|norm_then<|wp_cond_split (t:=(decide ((a1.length:Int)>100000))) rfl (fun c3=>?_) (fun c3=>?_)
   ·replace H:=of_pos H c3
    refine wp_seq<|region<|rs (vB v1) (r_move rfl)<|rs (vB v1) (r_assign rfl) ?_
    try simp only [sc0,sc1]
    refine run_nil<|norm_then<|wp_ret<|ret_then ?_
    obtain rfl:=Option.some.inj H
    exact bodyPost_ret (results_1 rfl (one_tmp rfl)) rfl<|⟨rfl,HS7.toE⟩
   ·replace H:=of_neg H (nt c3)
    refine wp_skip<|norm_then<|wp_seq<|region<|rs (vL A1_0 a1.length c1_0) (r_move rfl) ?_
    obtain ⟨v5,H5,H⟩:=of_bind H
    refine run_ex rfl rfl (does_call Tryd.call38 rfl (gives_in (h:=h2) (R:=(fun hx u=>∃(Av5_0_0:Option Addr) (cv5_0_0:Nat),u=Value.tuple #[Value.agg #[vL Av5_0_0 v5.1.vDefs.length cv5_0_0],vI v5.2]∧v5.1.vDefs.length≤cv5_0_0∧Rd k_api_Def hx Av5_0_0 v5.1.vDefs)) (Ext.rfl' w7) ((ctf_Decode.calls k a1 A1_0 c1_0 HS7.sees (hr1_0.ext HS7.sub) hc1_0 H5).mono ?_)) rfl) ?_
    ·rintro _ _ ⟨h1,Av5_0_0,cv5_0_0,rfl,hcv5_0_0,hrv5_0_0,g,ss,x⟩
     exact ⟨h1,_,rfl,⟨Av5_0_0,cv5_0_0,rfl,hcv5_0_0,hrv5_0_0⟩,g,ss,x⟩
    rintro w8 _ hE7 ⟨h3,⟨Av5_0_0,cv5_0_0,rfl,hcv5_0_0,hrv5_0_0⟩,gr3,se3⟩
    have HS8:=HS7.view hE7 gr3 se3
    replace hrv2_0_0:Rd (Kd.int .u8) h3 Av2_0_0 v2.1:=hrv2_0_0.ext gr3.1
    replace hrv3_0_0:Rd k_api_Def h3 Av3_0_0 v3.1.vDefs:=hrv3_0_0.ext gr3.1
    refine rs (Value.tuple #[Value.agg #[vL Av5_0_0 v5.1.vDefs.length cv5_0_0],vI v5.2]) (r_move rfl)<|rs (Value.agg #[vL Av5_0_0 v5.1.vDefs.length cv5_0_0]) (r_extract rfl rfl)<|run_frame (by simp only [sc0,sc1];rfl) ?_
    refine rs (vI v5.2) (r_extract rfl rfl)<|run_ex rfl rfl (does_alloc (cs:=#[vL none 0 0]) Tryd.zeroValue24 rfl) ?_
    rintro w9 _ hE8 ⟨b3,rfl,ge3,hb3⟩
    have HS9:=HS8.new hE8 ge3 hb3
    refine run_st (i:=0) (cs:=[vL none 0 0]) (cs':=[vL Av5_0_0 v5.1.vDefs.length cv5_0_0]) (vs:=[vL Av5_0_0 v5.1.vDefs.length cv5_0_0]) (bs':=[(some b3, .cells #[vL Av5_0_0 v5.1.vDefs.length cv5_0_0] 24 (0,0)),(some b2, .cells #[vL Av3_0_0 v3.1.vDefs.length cv3_0_0] 24 (0,0)),(some b1, .cells #[vL A0_0 a0.vDefs.length c0_0] 24 (0,0))]) rfl rfl Tryd.sizeOf24 rfl rfl (by decide) rfl HS9 rfl (Nat.le_of_ble_eq_true rfl) rfl rfl ?_
    intro w10 HS10
    refine rs (vI v5.2) (r_assign rfl) ?_
    try simp only [sc0,sc1]
    refine run_nil<|norm_then<|wp_seq<|wp_seq<|region<|rs (vI v5.2) (r_move rfl)<|rs (vB (v5.2 !=0)) (r_bin rfl rfl rfl) ?_
    try simp only [sc0,sc1]
    refine run_nil<|norm_then<|wp_cond_split (t:=(v5.2 !=0)) rfl (fun c4=>?_) (fun c4=>?_)
    ·replace H:=of_pos H c4
     refine wp_seq<|region<|rs (vB v1) (r_move rfl)<|rs (vB v1) (r_assign rfl) ?_
     try simp only [sc0,sc1]
     refine run_nil<|norm_then<|wp_ret<|ret_then ?_
     obtain rfl:=Option.some.inj H
     exact bodyPost_ret (results_1 rfl (one_tmp rfl)) rfl<|⟨rfl,HS10.toE⟩
    ·replace H:=of_neg H (nt c4)
     refine wp_skip<|norm_then<|wp_seq<|region<|rs (Value.agg #[vL Av5_0_0 v5.1.vDefs.length cv5_0_0]) (r_loadBoxAgg (n:=1) (vs:=[vL Av5_0_0 v5.1.vDefs.length cv5_0_0]) rfl Tryd.isAgg24 (HS10.look 0 rfl) Tryd.sizeOf24 rfl rfl) ?_
     obtain ⟨v6,H6,H⟩:=of_bind H
     refine run_ex rfl rfl (does_call Tryd.call37 rfl (gives_in (h:=h3) (R:=(fun hx u=>∃(Av6_0_0:Option Addr) (cv6_0_0:Nat),u=Value.tuple #[vL Av6_0_0 v6.1.length cv6_0_0,vI v6.2]∧v6.1.length≤cv6_0_0∧Rd (Kd.int .u8) hx Av6_0_0 v6.1)) (Ext.rfl' w10) ((ctf_Encode.calls k v5.1 Av5_0_0 cv5_0_0 HS10.sees hrv5_0_0 hcv5_0_0 H6).mono ?_)) rfl) ?_
     ·rintro _ _ ⟨h1,Av6_0_0,cv6_0_0,rfl,hcv6_0_0,hrv6_0_0,g,ss,x⟩
      exact ⟨h1,_,rfl,⟨Av6_0_0,cv6_0_0,rfl,hcv6_0_0,hrv6_0_0⟩,g,ss,x⟩
     rintro w11 _ hE9 ⟨h4,⟨Av6_0_0,cv6_0_0,rfl,hcv6_0_0,hrv6_0_0⟩,gr4,se4⟩
     have HS11:=HS10.view hE9 gr4 se4
     replace hrv2_0_0:Rd (Kd.int .u8) h4 Av2_0_0 v2.1:=hrv2_0_0.ext gr4.1
     replace hrv3_0_0:Rd k_api_Def h4 Av3_0_0 v3.1.vDefs:=hrv3_0_0.ext gr4.1
     replace hrv5_0_0:Rd k_api_Def h4 Av5_0_0 v5.1.vDefs:=hrv5_0_0.ext gr4.1
     refine rs (Value.tuple #[vL Av6_0_0 v6.1.length cv6_0_0,vI v6.2]) (r_move rfl)<|rs (vL Av6_0_0 v6.1.length cv6_0_0) (r_extract rfl rfl)<|run_frame (by simp only [sc0,sc1];rfl) ?_
     refine rs (vI v6.2) (r_extract rfl rfl)<|rs (vL Av6_0_0 v6.1.length cv6_0_0) (r_assign rfl)<|rs (vI v6.2) (r_assign rfl) ?_
     try simp only [sc0,sc1]
     refine run_nil<|norm_then<|wp_seq<|region<|rs (vB v1) (r_move rfl)<|rs (vB v1) (r_move rfl)<|rgs v1 true (vI v6.2) rfl rfl rfl rfl (fun hg=>(r_move rfl))<|rgs v1 true (vB (v6.2==0)) rfl rfl rfl rfl (fun hg=>(r_bin (gvt (vI v6.2) hg rfl) rfl rfl))<|run_frame (by simp only [sc0,sc1];rfl) ?_
     refine rs (vB (v1&&(v6.2==0))) (r_pick_and rfl (fun hp=>(gvt (vB (v6.2==0)) (and_i rfl hp) rfl)) rfl)<|rs (vB (v1&&(v6.2==0))) (r_move rfl)<|rgs (v1&&(v6.2==0)) true (vL Av6_0_0 v6.1.length cv6_0_0) rfl rfl rfl rfl (fun hg=>(r_move rfl))<|rgs (v1&&(v6.2==0)) true (vS (strOf v6.1)) rfl rfl rfl rfl (fun hg=>(r_b2s (gvt (vL Av6_0_0 v6.1.length cv6_0_0) hg rfl) Tryd.runUnderlying80 Tryd.runUnderlying9 Tryd.runUnderlying5 HS11.sees hrv6_0_0))<|run_frame (by simp only [sc0,sc1];rfl) ?_
     refine rgs (v1&&(v6.2==0)) true (vL A1_0 a1.length c1_0) rfl rfl rfl rfl (fun hg=>(r_move rfl))<|rgs (v1&&(v6.2==0)) true (vS (strOf a1)) rfl rfl rfl rfl (fun hg=>(r_b2s (gvt (vL A1_0 a1.length c1_0) hg rfl) Tryd.runUnderlying80 Tryd.runUnderlying9 Tryd.runUnderlying5 HS11.sees (hr1_0.ext HS11.sub)))<|rgs (v1&&(v6.2==0)) true (vB (strEq (strOf v6.1) (strOf a1))) rfl rfl rfl rfl (fun hg=>(r_streql (gvt (vS (strOf v6.1)) hg rfl) (gvt (vS (strOf a1)) hg rfl)))<|rs (vB ((v1&&(v6.2==0))&&(strEq (strOf v6.1) (strOf a1)))) (r_pick_and rfl (fun hp=>(gvt (vB (strEq (strOf v6.1) (strOf a1))) (and_i rfl hp) rfl)) rfl)<|run_frame (by simp only [sc0,sc1];rfl) ?_
     refine rs (vB ((v1&&(v6.2==0))&&(strEq (strOf v6.1) (strOf a1)))) (r_assign rfl) ?_
     try simp only [sc0,sc1]
     refine run_nil<|norm_then<|wp_ret ?_
     obtain rfl:=Option.some.inj H
     exact bodyPost_ret (results_1 rfl (one_tmp rfl)) rfl<|⟨rfl,HS11.toE⟩
 ·replace H:=of_neg H (nt c1)
  refine wp_skip<|norm_then<|wp_seq<|wp_seq<|region<|rs (vL A1_0 a1.length c1_0) (r_move rfl)<|rs (vI (a1.length:Int)) (r_len rfl Tryd.runUnderlying80)<|rs (vB (decide ((a1.length:Int)>100000))) (r_bin rfl rfl rfl) ?_
  try simp only [sc0,sc1]
  refine run_nil<|norm_then<|wp_cond_split (t:=(decide ((a1.length:Int)>100000))) rfl (fun c5=>?_) (fun c5=>?_)
  ·replace H:=of_pos H c5
   refine wp_seq<|region<|rs (vB v1) (r_move rfl)<|rs (vB v1) (r_assign rfl) ?_
   try simp only [sc0,sc1]
   refine run_nil<|norm_then<|wp_ret<|ret_then ?_
   obtain rfl:=Option.some.inj H
   exact bodyPost_ret (results_1 rfl (one_tmp rfl)) rfl<|⟨rfl,HS3.toE⟩
  ·replace H:=of_neg H (nt c5)
   refine wp_skip<|norm_then<|wp_seq<|region<|rs (vL A1_0 a1.length c1_0) (r_move rfl) ?_
   obtain ⟨v7,H7,H⟩:=of_bind H
   refine run_ex rfl rfl (does_call Tryd.call38 rfl (gives_in (h:=h1) (R:=(fun hx u=>∃(Av7_0_0:Option Addr) (cv7_0_0:Nat),u=Value.tuple #[Value.agg #[vL Av7_0_0 v7.1.vDefs.length cv7_0_0],vI v7.2]∧v7.1.vDefs.length≤cv7_0_0∧Rd k_api_Def hx Av7_0_0 v7.1.vDefs)) (Ext.rfl' w3) ((ctf_Decode.calls k a1 A1_0 c1_0 HS3.sees (hr1_0.ext HS3.sub) hc1_0 H7).mono ?_)) rfl) ?_
   ·rintro _ _ ⟨h1,Av7_0_0,cv7_0_0,rfl,hcv7_0_0,hrv7_0_0,g,ss,x⟩
    exact ⟨h1,_,rfl,⟨Av7_0_0,cv7_0_0,rfl,hcv7_0_0,hrv7_0_0⟩,g,ss,x⟩
   rintro w12 _ hE10 ⟨h5,⟨Av7_0_0,cv7_0_0,rfl,hcv7_0_0,hrv7_0_0⟩,gr5,se5⟩
   have HS12:=HS3.view hE10 gr5 se5
   replace hrv2_0_0:Rd (Kd.int .u8) h5 Av2_0_0 v2.1:=hrv2_0_0.ext gr5.1
   refine rs (Value.tuple #[Value.agg #[vL Av7_0_0 v7.1.vDefs.length cv7_0_0],vI v7.2]) (r_move rfl)<|rs (Value.agg #[vL Av7_0_0 v7.1.vDefs.length cv7_0_0]) (r_extract rfl rfl)<|run_frame (by simp only [sc0,sc1];rfl) ?_
   refine rs (vI v7.2) (r_extract rfl rfl)<|run_ex rfl rfl (does_alloc (cs:=#[vL none 0 0]) Tryd.zeroValue24 rfl) ?_
   rintro w13 _ hE11 ⟨b4,rfl,ge4,hb4⟩
   have HS13:=HS12.new hE11 ge4 hb4
   refine run_st (i:=0) (cs:=[vL none 0 0]) (cs':=[vL Av7_0_0 v7.1.vDefs.length cv7_0_0]) (vs:=[vL Av7_0_0 v7.1.vDefs.length cv7_0_0]) (bs':=[(some b4, .cells #[vL Av7_0_0 v7.1.vDefs.length cv7_0_0] 24 (0,0)),(some b1, .cells #[vL A0_0 a0.vDefs.length c0_0] 24 (0,0))]) rfl rfl Tryd.sizeOf24 rfl rfl (by decide) rfl HS13 rfl (Nat.le_of_ble_eq_true rfl) rfl rfl ?_
   intro w14 HS14
   refine rs (vI v7.2) (r_assign rfl) ?_
   try simp only [sc0,sc1]
   refine run_nil<|norm_then<|wp_seq<|wp_seq<|region<|rs (vI v7.2) (r_move rfl)<|rs (vB (v7.2 !=0)) (r_bin rfl rfl rfl) ?_
   try simp only [sc0,sc1]
   refine run_nil<|norm_then<|wp_cond_split (t:=(v7.2 !=0)) rfl (fun c6=>?_) (fun c6=>?_)
   ·replace H:=of_pos H c6
    refine wp_seq<|region<|rs (vB v1) (r_move rfl)<|rs (vB v1) (r_assign rfl) ?_
    try simp only [sc0,sc1]
    refine run_nil<|norm_then<|wp_ret<|ret_then ?_
    obtain rfl:=Option.some.inj H
    exact bodyPost_ret (results_1 rfl (one_tmp rfl)) rfl<|⟨rfl,HS14.toE⟩
   ·replace H:=of_neg H (nt c6)
    refine wp_skip<|norm_then<|wp_seq<|region<|rs (Value.agg #[vL Av7_0_0 v7.1.vDefs.length cv7_0_0]) (r_loadBoxAgg (n:=1) (vs:=[vL Av7_0_0 v7.1.vDefs.length cv7_0_0]) rfl Tryd.isAgg24 (HS14.look 0 rfl) Tryd.sizeOf24 rfl rfl) ?_
    obtain ⟨v8,H8,H⟩:=of_bind H
    refine run_ex rfl rfl (does_call Tryd.call37 rfl (gives_in (h:=h5) (R:=(fun hx u=>∃(Av8_0_0:Option Addr) (cv8_0_0:Nat),u=Value.tuple #[vL Av8_0_0 v8.1.length cv8_0_0,vI v8.2]∧v8.1.length≤cv8_0_0∧Rd (Kd.int .u8) hx Av8_0_0 v8.1)) (Ext.rfl' w14) ((ctf_Encode.calls k v7.1 Av7_0_0 cv7_0_0 HS14.sees hrv7_0_0 hcv7_0_0 H8).mono ?_)) rfl) ?_
    ·rintro _ _ ⟨h1,Av8_0_0,cv8_0_0,rfl,hcv8_0_0,hrv8_0_0,g,ss,x⟩
     exact ⟨h1,_,rfl,⟨Av8_0_0,cv8_0_0,rfl,hcv8_0_0,hrv8_0_0⟩,g,ss,x⟩
    rintro w15 _ hE12 ⟨h6,⟨Av8_0_0,cv8_0_0,rfl,hcv8_0_0,hrv8_0_0⟩,gr6,se6⟩
    have HS15:=HS14.view hE12 gr6 se6
    replace hrv2_0_0:Rd (Kd.int .u8) h6 Av2_0_0 v2.1:=hrv2_0_0.ext gr6.1
    replace hrv7_0_0:Rd k_api_Def h6 Av7_0_0 v7.1.vDefs:=hrv7_0_0.ext gr6.1
    refine rs (Value.tuple #[vL Av8_0_0 v8.1.length cv8_0_0,vI v8.2]) (r_move rfl)<|rs (vL Av8_0_0 v8.1.length cv8_0_0) (r_extract rfl rfl)<|run_frame (by simp only [sc0,sc1];rfl) ?_
    refine rs (vI v8.2) (r_extract rfl rfl)<|rs (vL Av8_0_0 v8.1.length cv8_0_0) (r_assign rfl)<|rs (vI v8.2) (r_assign rfl) ?_
    try simp only [sc0,sc1]
    refine run_nil<|norm_then<|wp_seq<|region<|rs (vB v1) (r_move rfl)<|rs (vB v1) (r_move rfl)<|rgs v1 true (vI v8.2) rfl rfl rfl rfl (fun hg=>(r_move rfl))<|rgs v1 true (vB (v8.2==0)) rfl rfl rfl rfl (fun hg=>(r_bin (gvt (vI v8.2) hg rfl) rfl rfl))<|run_frame (by simp only [sc0,sc1];rfl) ?_
    refine rs (vB (v1&&(v8.2==0))) (r_pick_and rfl (fun hp=>(gvt (vB (v8.2==0)) (and_i rfl hp) rfl)) rfl)<|rs (vB (v1&&(v8.2==0))) (r_move rfl)<|rgs (v1&&(v8.2==0)) true (vL Av8_0_0 v8.1.length cv8_0_0) rfl rfl rfl rfl (fun hg=>(r_move rfl))<|rgs (v1&&(v8.2==0)) true (vS (strOf v8.1)) rfl rfl rfl rfl (fun hg=>(r_b2s (gvt (vL Av8_0_0 v8.1.length cv8_0_0) hg rfl) Tryd.runUnderlying80 Tryd.runUnderlying9 Tryd.runUnderlying5 HS15.sees hrv8_0_0))<|run_frame (by simp only [sc0,sc1];rfl) ?_
    refine rgs (v1&&(v8.2==0)) true (vL A1_0 a1.length c1_0) rfl rfl rfl rfl (fun hg=>(r_move rfl))<|rgs (v1&&(v8.2==0)) true (vS (strOf a1)) rfl rfl rfl rfl (fun hg=>(r_b2s (gvt (vL A1_0 a1.length c1_0) hg rfl) Tryd.runUnderlying80 Tryd.runUnderlying9 Tryd.runUnderlying5 HS15.sees (hr1_0.ext HS15.sub)))<|rgs (v1&&(v8.2==0)) true (vB (strEq (strOf v8.1) (strOf a1))) rfl rfl rfl rfl (fun hg=>(r_streql (gvt (vS (strOf v8.1)) hg rfl) (gvt (vS (strOf a1)) hg rfl)))<|rs (vB ((v1&&(v8.2==0))&&(strEq (strOf v8.1) (strOf a1)))) (r_pick_and rfl (fun hp=>(gvt (vB (strEq (strOf v8.1) (strOf a1))) (and_i rfl hp) rfl)) rfl)<|run_frame (by simp only [sc0,sc1];rfl) ?_
    refine rs (vB ((v1&&(v8.2==0))&&(strEq (strOf v8.1) (strOf a1)))) (r_assign rfl) ?_
    try simp only [sc0,sc1]
    refine run_nil<|norm_then<|wp_ret ?_
    obtain rfl:=Option.some.inj H
    exact bodyPost_ret (results_1 rfl (one_tmp rfl)) rfl<|⟨rfl,HS15.toE⟩
end Go.Proofs.YtfjppgobidjndaaDoor
namespace Go.M
open Go.RowKit
theorem wrapU8 (x:Int):IntKind.wrap .u8 x=x%256:=by simp [IntKind.wrap,IntKind.bits,IntKind.signed]
theorem wrapU64 (x:Int):IntKind.wrap .u64 x=x%18446744073709551616:=by simp [IntKind.wrap,IntKind.bits,IntKind.signed]
theorem wrapI64 {x:Int} (h0: -9223372036854775808≤x) (h1:x≤9223372036854775807):IntKind.wrap .i64 x=x:=by
 simp [IntKind.wrap,IntKind.bits,IntKind.signed];omega
def enc7:Nat→Nat→List Int
 |0,u=>[(u:Int)]
 |n+1,u=>if u<128 then [(u:Int)] else ((u%128+128:Nat):Int)::enc7 n (u/128)
def dec7:Nat→List Int→Option (Nat×List Int)
 |_,[]=>none
 |i,c::r=>if (i=9∧1<c)∨(0<i∧c=0) then none else if c<128 then some (c.toNat,r) else (dec7 (i+1) r).map fun q=>(c.toNat-128+128*q.1,q.2)
def zig (x:Int):Nat:=if x<0 then (-2*x-1).toNat else (2*x).toNat
def zag (u:Nat):Int:=if u%2=1 then-((u/2:Nat):Int)-1 else ((u/2:Nat):Int)
def I64 (x:Int):Prop:= -9223372036854775808≤x∧x≤9223372036854775807
def encI (x:Int):List Int:=enc7 9 (zig x)
def decI (p:List Int):Option (Int×List Int):=(dec7 0 p).map fun q=>(zag q.1,q.2)
theorem zig_lt {x:Int} (h:I64 x):zig x<2^64:=by unfold I64 at h;unfold zig;split<;>omega
theorem zag_zig (x:Int):zag (zig x)=x:=by unfold zig zag;split<;>split<;>omega
theorem zig_zag (u:Nat):zig (zag u)=u:=by unfold zig zag;split<;>split<;>omega
theorem zag_I64 {u:Nat} (h:u<2^64):I64 (zag u):=by unfold I64 zag;split<;>omega
def Bytes (p:List Int):Prop:=∀c∈p,0≤c∧c≤255
theorem Bytes.nil:Bytes []:=fun c h=>by cases h
theorem Bytes.cons {c:Int} {p:List Int} (h0:0≤c) (h1:c≤255) (h:Bytes p):Bytes (c::p):=fun x hx=>by
 rcases List.mem_cons.1 hx with rfl|hx
 ·exact ⟨h0,h1⟩
 ·exact h x hx
theorem Bytes.app {p q:List Int} (h:Bytes p) (g:Bytes q):Bytes (p++q):=fun x hx=>by
 rcases List.mem_append.1 hx with hx|hx
 ·exact h x hx
 ·exact g x hx
theorem Bytes.take {p:List Int} (h:Bytes p) (n:Nat):Bytes (p.take n):=fun x hx=>h x (List.mem_of_mem_take hx)
theorem Bytes.drop {p:List Int} (h:Bytes p) (n:Nat):Bytes (p.drop n):=fun x hx=>h x (List.mem_of_mem_drop hx)
theorem enc7_bytes:∀(n u:Nat),u<128^(n+1)→Bytes (enc7 n u)
  |0,u,h=>by unfold enc7;exact Bytes.cons (by omega) (by omega) Bytes.nil
  | n + 1, u, h => by
    unfold enc7
    split
    · exact Bytes.cons (by omega) (by omega) Bytes.nil
    · refine Bytes.cons (by omega) (by omega) (enc7_bytes n _ ?_)
      rw [Nat.pow_succ] at h
      exact Nat.div_lt_of_lt_mul (by omega)
theorem enc7_len:∀(n u:Nat),(enc7 n u).length≤n+1∧1≤(enc7 n u).length
  |0,u=>by simp [enc7]
  | n + 1, u => by
    have:=enc7_len n (u/128)
    unfold enc7
    split<;>simp<;>omega
theorem encI_bytes {x:Int} (h:I64 x):Bytes (encI x):=enc7_bytes 9 _ (Nat.lt_of_lt_of_le (zig_lt h) (Nat.le_of_ble_eq_true rfl))
theorem encI_len (x:Int):(encI x).length≤10∧1≤(encI x).length:=enc7_len 9 _
theorem dec_enc7 : ∀ (n i u : Nat) (r : List Int), i + n = 9 → u * 128 ^ i < 2 ^ 64 → (i = 0 ∨ 0 < u) → dec7 i (enc7 n u ++ r) = some (u, r)
  | 0, i, u, r, hi, hu, h0 => by
    obtain rfl:i=9:=by omega
    have:u=1:=by
      have h2:(128:Nat)^9=9223372036854775808:=Nat.eq_of_beq_eq_true rfl
      have h3:(2:Nat)^64=18446744073709551616:=Nat.eq_of_beq_eq_true rfl
      rw [h2,h3] at hu
      omega
    subst this
    simp [enc7,dec7]
  | n + 1, i, u, r, hi, hu, h0 => by
    unfold enc7
    by_cases h:u<128
    · rw [if_pos h]
      show dec7 i ((u:Int)::r)=_
      unfold dec7
      rw [if_neg (by omega),if_pos (by omega)]
      simp
    · rw [if_neg h]
      show dec7 i (((u%128+128:Nat):Int)::(enc7 n (u/128)++r))=_
      unfold dec7
      rw [if_neg (by omega),if_neg (by omega),dec_enc7 n (i+1) (u/128) r (by omega) ?_ (by omega)]
      · have e:u%128+128-128+128*(u/128)=u:=by omega
        simp only [Option.map_some,Int.toNat_natCast,e]
      · refine Nat.lt_of_le_of_lt ?_ hu
        rw [Nat.pow_succ,Nat.mul_comm (128^i),←Nat.mul_assoc]
        exact Nat.mul_le_mul_right _ (Nat.div_mul_le_self u 128)
theorem decI_encI {x:Int} (h:I64 x) (r:List Int):decI (encI x++r)=some (x,r):=by
 unfold decI encI
 rw [dec_enc7 9 0 (zig x) r rfl (by simpa using zig_lt h) (.inl rfl)]
 simp [zag_zig]
theorem enc_dec7 : ∀ (n i : Nat) (p : List Int) (u : Nat) (r : List Int), i + n = 9 → Bytes p → dec7 i p = some (u, r) → enc7 n u ++ r = p ∧ u * 128 ^ i < 2 ^ 64 ∧ (0 < i → 0 < u)
  |n,i,[],u,r,hi,hb,h=>by simp [dec7] at h
  | 0, i, c :: q, u, r, hi, hb, h => by
    obtain rfl:i=9:=by omega
    unfold dec7 at h
    have hc:=hb c List.mem_cons_self
    split at h
    · cases h
    · rename_i hn
      split at h
      · obtain ⟨rfl,rfl⟩:=Prod.mk.inj (Option.some.inj h)
        have:c=1:=by omega
        subst this
        exact ⟨rfl,by decide,fun _=>by decide⟩
      · omega
  | n + 1, i, c :: q, u, r, hi, hb, h => by
    unfold dec7 at h
    have hc:=hb c List.mem_cons_self
    have hq:Bytes q:=fun x hx=>hb x (List.mem_cons_of_mem _ hx)
    split at h
    · cases h
    · rename_i hn
      split at h
      · rename_i hl
        obtain ⟨rfl,rfl⟩:=Prod.mk.inj (Option.some.inj h)
        unfold enc7
        rw [if_pos (by omega)]
        refine ⟨by simp;omega,?_,fun h0=>by omega⟩
        have h1:(128:Nat)^i≤128^8:=Nat.pow_le_pow_right (by decide) (by omega)
        have h2:c.toNat<128:=by omega
        have h3:c.toNat*128^i≤127*128^8:=Nat.mul_le_mul (by omega) h1
        have h4:127*128^8+1≤2^64:=Nat.le_of_ble_eq_true rfl
        omega
      · rename_i hl
        cases hd:dec7 (i+1) q with
        |none=>rw [hd] at h;cases h
        | some v =>
          obtain ⟨v,r'⟩:=v
          rw [hd] at h
          obtain ⟨rfl,rfl⟩:=Prod.mk.inj (Option.some.inj h)
          obtain ⟨h1,h2,h3⟩:=enc_dec7 n (i+1) q v r' (by omega) hq hd
          have h3:=h3 (by omega)
          unfold enc7
          rw [if_neg (by omega)]
          have e1:(c.toNat-128+128*v)%128+128=c.toNat:=by omega
          have e2:(c.toNat-128+128*v)/128=v:=by omega
          rw [e1,e2]
          refine ⟨?_,?_,fun _=>by omega⟩
          · show ((c.toNat:Nat):Int)::(enc7 n v++r')=c::q
            rw [h1,Int.toNat_of_nonneg hc.1]
          · rw [Nat.pow_succ,Nat.mul_comm (128^i),←Nat.mul_assoc] at h2
            have h5:c.toNat-128<128:=by omega
            have h6:(c.toNat-128+128*v)≤v*128+127:=by omega
            have h7:128^(i+1)*(v+1)≤2^64:=by
              have hp:(2:Nat)^64=128^(i+1)*2^(64-7*(i+1)):=by
                rw [show (128:Nat)=2^7 from rfl,←Nat.pow_mul,←Nat.pow_add]
                congr 1
                omega
              rw [hp]
              refine Nat.mul_le_mul_left _ ?_
              have h8:128^(i+1)*v<128^(i+1)*2^(64-7*(i+1)):=by
                rw [←hp,Nat.pow_succ,Nat.mul_comm,Nat.mul_comm (128^i),←Nat.mul_assoc]
                exact h2
              exact Nat.lt_of_mul_lt_mul_left h8
            have h9:(c.toNat-128+128*v+1)*128^i≤128^(i+1)*(v+1):=by
              rw [Nat.pow_succ,Nat.mul_comm (128^i) 128,Nat.mul_comm (128*128^i),←Nat.mul_assoc]
              exact Nat.mul_le_mul_right _ (by omega)
            have h10:0<(128:Nat)^i:=Nat.pow_pos (by decide)
            have h11:(c.toNat-128+128*v+1)*128^i=(c.toNat-128+128*v)*128^i+128^i:=by rw [Nat.add_mul,Nat.one_mul]
            show (c.toNat-128+128*v)*128^i<2^64
            have h12:=Nat.le_trans h9 h7
            rw [h11] at h12
            omega
theorem encI_decI {p r:List Int} {x:Int} (hb:Bytes p) (h:decI p=some (x,r)):encI x++r=p∧I64 x:=by
  unfold decI at h
  cases hd:dec7 0 p with
  |none=>rw [hd] at h;cases h
  | some v =>
    rw [hd] at h
    obtain ⟨rfl,rfl⟩:=Prod.mk.inj (Option.some.inj h)
    obtain ⟨h1,h2,_⟩:=enc_dec7 9 0 p v.1 v.2 rfl hb hd
    unfold encI
    rw [zig_zag]
    exact ⟨h1,zag_I64 (by simpa using h2)⟩
theorem dec7_suffix : ∀ (i : Nat) (p : List Int) (u : Nat) (r : List Int), dec7 i p = some (u, r) → ∃ j, 0 < j ∧ j ≤ p.length ∧ r = p.drop j
  |i,[],u,r,h=>by simp [dec7] at h
  | i, c :: q, u, r, h => by
    unfold dec7 at h
    split at h
    · cases h
    · split at h
      · obtain ⟨rfl,rfl⟩:=Prod.mk.inj (Option.some.inj h)
        exact ⟨1,by omega,by simp,rfl⟩
      · cases hd:dec7 (i+1) q with
        |none=>rw [hd] at h;cases h
        | some v =>
          rw [hd] at h
          obtain ⟨rfl,rfl⟩:=Prod.mk.inj (Option.some.inj h)
          obtain ⟨j,h0,h1,h2⟩:=dec7_suffix (i+1) q v.1 v.2 hd
          exact ⟨j+1,by omega,by simpa using h1,by rw [h2];rfl⟩
theorem decI_suffix {p r:List Int} {x:Int} (h:decI p=some (x,r)):∃j,0<j∧j≤p.length∧r=p.drop j:=by
  unfold decI at h
  cases hd:dec7 0 p with
  |none=>rw [hd] at h;cases h
  | some v =>
    rw [hd] at h
    obtain ⟨rfl,rfl⟩:=Prod.mk.inj (Option.some.inj h)
    exact dec7_suffix 0 p v.1 v.2 hd
theorem or_u64 {a y i:Nat} (ha:a<2^i) (hy:a+y*2^i<2^64):iOr .u64 (a:Int) ((y*2^i:Nat):Int)=((a+y*2^i:Nat):Int):=by
 have e:∀n:Nat,n<2^64→(BitVec.ofInt 64 (n:Int)).toNat=n:=fun n h=>by
  rw [BitVec.toNat_ofInt]
  have:((2^64:Nat):Int)=18446744073709551616:=rfl
  rw [this]
  have:n<18446744073709551616:=h
  omega
 have hb:(BitVec.ofInt 64 (a:Int)|||BitVec.ofInt 64 ((y*2^i:Nat):Int)).toNat=a+y*2^i:=by
  rw [BitVec.toNat_or,e a (by omega),e _ (by omega),Nat.mul_comm y,Nat.or_comm,←Nat.two_pow_add_eq_or_of_lt ha y]
  omega
 show IntKind.wrap .u64 ((BitVec.ofInt 64 (a:Int)|||BitVec.ofInt 64 ((y*2^i:Nat):Int)).toNat:Int)=_
 rw [hb,wrapU64]
 have:a+y*2^i<18446744073709551616:=hy
 omega
theorem shl_u64 {y i:Nat} (hi:i<64) (hy:y*2^i<2^64):iShl .u64 (y:Int) (i:Int)=((y*2^i:Nat):Int):=by
 show IntKind.wrap .u64 ((y:Int)*2^(min (i:Int).toNat 64))=_
 have:min (i:Int).toNat 64=i:=by simp;omega
 rw [this,wrapU64,show (y:Int)*2^i=((y*2^i:Nat):Int) by simp]
 have:y*2^i<18446744073709551616:=hy
 omega
theorem and_u8 {c:Nat} (h:c<256):iAnd .u8 (c:Int) 127=((c%128:Nat):Int):=by
 have:∀c:Fin 256,iAnd .u8 ((c:Nat):Int) 127=(((c:Nat)%128:Nat):Int):=by decide+kernel
 exact this ⟨c,h⟩
theorem or_u8 {c:Nat} (h:c<256):iOr .u8 (c:Int) 128=((c%128+128:Nat):Int):=by
 have:∀c:Fin 256,iOr .u8 ((c:Nat):Int) 128=(((c:Nat)%128+128:Nat):Int):=by decide+kernel
 exact this ⟨c,h⟩
theorem shr_u64 (u i:Nat) (hi:i≤64):iShr .u64 (u:Int) (i:Int)=((u/2^i:Nat):Int):=by
 show ((u:Int)).fdiv (2^(min (i:Int).toNat 64))=_
 have:min (i:Int).toNat 64=i:=by simp;omega
 rw [this,Int.fdiv_eq_ediv_of_nonneg _ (by exact Int.le_of_lt (Int.pow_pos (by decide)))]
 simp
theorem and1_u64 {u:Nat} (h:u<2^64):iAnd .u64 (u:Int) 1=((u%2:Nat):Int):=by
 have e:(BitVec.ofInt 64 (u:Int)).toNat=u:=by
  rw [BitVec.toNat_ofInt]
  have:((2^64:Nat):Int)=18446744073709551616:=rfl
  rw [this]
  have:u<18446744073709551616:=h
  omega
 show IntKind.wrap .u64 ((BitVec.ofInt 64 (u:Int)&&&BitVec.ofInt 64 1).toNat:Int)=_
 rw [BitVec.toNat_and,e,show (BitVec.ofInt 64 1).toNat=1 from rfl,Nat.and_one_is_mod,wrapU64]
 omega
theorem not_u64 {u:Nat} (h:u<2^64):iNot .u64 (u:Int)=((2^64-1-u:Nat):Int):=by
 have h':u<18446744073709551616:=h
 show IntKind.wrap .u64 ((BitVec.ofInt 64 (IntKind.max .u64)^^^BitVec.ofInt 64 (u:Int)).toNat:Int)=_
 have e1:BitVec.ofInt 64 (IntKind.max .u64)=BitVec.allOnes 64:=by decide
 have e2:BitVec.ofInt 64 (u:Int)=BitVec.ofNat 64 u:=by
  apply BitVec.eq_of_toNat_eq
  rw [BitVec.toNat_ofInt,BitVec.toNat_ofNat]
  have:((2^64:Nat):Int)=18446744073709551616:=rfl
  rw [this]
  omega
 rw [e1,e2,BitVec.allOnes_xor,BitVec.toNat_not,BitVec.toNat_ofNat,wrapU64]
 omega
theorem not_i64 {n:Nat} (h:n<2^63):iNot .i64 (n:Int)= -(n:Int)-1:=by
 have h':n<9223372036854775808:=h
 show IntKind.wrap .i64 ((BitVec.ofInt 64 (-1)^^^BitVec.ofInt 64 (n:Int)).toNat:Int)=_
 have e1:BitVec.ofInt 64 (-1)=BitVec.allOnes 64:=by decide
 have e2:BitVec.ofInt 64 (n:Int)=BitVec.ofNat 64 n:=by
  apply BitVec.eq_of_toNat_eq
  rw [BitVec.toNat_ofInt,BitVec.toNat_ofNat]
  have:((2^64:Nat):Int)=18446744073709551616:=rfl
  rw [this]
  omega
 rw [e1,e2,BitVec.allOnes_xor,BitVec.toNat_not,BitVec.toNat_ofNat]
 have:2^64-1-n%2^64=18446744073709551615-n:=by omega
 rw [this]
 simp [IntKind.wrap,IntKind.bits,IntKind.signed]
 omega
end Go.M
namespace Go.Proofs.YtfjppgobidjndaaDoor
open Go.RowKit Go.M
section
variable {t:api_Types} {l:List Int}
structure MemOk (t:api_Types) (mem:Nat→ByteArray→api_Field×Int):Prop where
 ev:∀i name,i<t.vDefs.length→Ev (fun k=>ctf_member.f k t (i:Int) name) (mem i name)
 typ:∀i name,i<t.vDefs.length→(mem i name).2=0→0≤(mem i name).1.vType∧(mem i name).1.vType<t.vDefs.length
end
set_option maxRecDepth 100000 in
theorem sane_at (k:Nat):taplinelaw08_sane.f (k+60)=some true:=by kernel_rfl
theorem sane_ev : Ev (fun k => taplinelaw08_sane.f k) true := ⟨60, fun k hk => by
 obtain ⟨m,rfl⟩:∃m,k=m+60:=⟨k-60,by omega⟩
 exact sane_at m⟩
theorem byteAt_rd (s:ByteArray) (i:Int):byteAt s i=rd 0 (bytesOf s) i:=by
 unfold byteAt rd bytesOf
 rw [List.getD_eq_getElem?_getD,List.getD_eq_getElem?_getD,List.getElem?_map]
 cases s.data.toList[i.toNat]?<;>rfl
theorem rname_loop {s:ByteArray} (hl:s.size≤9223372036854775807):∀(d j m:Nat),j+d=s.size→d<m→
    taplineref08_Name.l0 s m (j:Int)=some (if okFrom j ((bytesOf s).drop j)=true then .inr () else .inl false):=by
  have hb:=bytesOf_length s
  intro d
  induction d with
  | zero =>
    intro j m hj hm
    obtain ⟨m,rfl⟩:∃q,m=q+1:=⟨m-1,by omega⟩
    rw [taplineref08_Name.l0,if_neg (by simp;omega),List.drop_eq_nil_of_le (by omega)]
    rfl
  | succ d ih =>
    intro j m hj hm
    obtain ⟨m,rfl⟩:∃q,m=q+1:=⟨m-1,by omega⟩
    have hlt:j<s.size:=by omega
    have h1:=name_loop (s:=s) (by omega) (d+1) j (m+1) (by omega) (by omega)
    rw [ctf_isName.l0,if_pos (by simp;omega),if_pos (by omega)] at h1
    rw [taplineref08_Name.l0,if_pos (by simp;omega),if_pos (by omega),byteAt_rd]
    rw [←h1]
    split
    · rfl
    · rw [wrap_nat hlt hl,ih (j+1) m (by omega) (by omega),name_loop (by omega) d (j+1) m (by omega) (by omega)]
theorem empty_iff (s:ByteArray):strEq s ByteArray.empty=decide (s.size=0):=by
 by_cases h:s.size=0
 ·have:s=ByteArray.empty:=by
   cases s with|mk d=>
   have:d=#[]:=Array.size_eq_zero_iff.1 h
   subst this;rfl
  rw [decide_eq_true h];exact strEq_iff.2 this
 ·rw [decide_eq_false h]
  cases hs:strEq s ByteArray.empty with
  |false=>rfl
  |true=>exact absurd (by rw [strEq_iff.1 hs];rfl) h
theorem rname_ev {s:ByteArray} (hs:s.size≤9223372036854775807):Ev (fun k=>taplineref08_Name.f k s) (nameS s):=by
 refine ⟨s.size+1,fun k hk=>?_⟩
 show taplineref08_Name.f k s=_
 unfold taplineref08_Name.f nameS
 rw [empty_iff]
 by_cases h0:s.size=0
 ·rw [if_pos (by simp [h0])];simp [h0]
 ·by_cases h1:(s.size:Int)≤31
  ·rw [if_neg (by simp only [Bool.or_eq_true,beq_iff_eq,decide_eq_true_eq];omega),show (0:Int)=((0:Nat):Int) from rfl,rname_loop hs s.size 0 k (by omega) (by omega),List.drop_zero]
   cases okFrom 0 (bytesOf s)<;>simp [h0,h1]
  ·rw [if_pos (by simp only [Bool.or_eq_true,beq_iff_eq,decide_eq_true_eq];omega)];simp [h1]
def namesS:List ByteArray→List api_Field→Bool
 |_,[]=>true
 |ns,f::r=>nameS f.vName&& !(ns.any (strEq f.vName))&&namesS (f.vName::ns) r
theorem fieldsS_eq (d:api_Def) (n:Int):∀(l:List api_Field) (ns:List ByteArray),fieldsS d n ns l=(namesS ns l&&l.all (fieldOk d n))
  |[],ns=>rfl
  | f :: r, ns => by
    simp only [fieldsS,namesS,fieldsS_eq d n r,List.all_cons]
    cases nameS f.vName<;>cases (ns.any (strEq f.vName))<;>cases (fieldOk d n f)<;>cases (namesS (f.vName::ns) r)<;>rfl
theorem seen_loop {l:List api_Field} (hl:l.length≤9223372036854775807) {i:Nat} (hi:i<l.length):∀(e j m:Nat),j+e=i→e<m→
    taplineref08_fields.l1 l (i:Int) m (j:Int)=some (if (((l.take i).drop j).any fun f=>strEq f.vName (l.getD i z_api_Field).vName)=true then .inl false else .inr ()):=by
  intro e
  induction e with
  | zero =>
    intro j m hj hm
    obtain ⟨m,rfl⟩:∃q,m=q+1:=⟨m-1,by omega⟩
    rw [taplineref08_fields.l1,if_neg (by simp;omega),List.drop_eq_nil_of_le (by simp;omega)]
    rfl
  | succ e ih =>
    intro j m hj hm
    obtain ⟨m,rfl⟩:∃q,m=q+1:=⟨m-1,by omega⟩
    have hlt:j<l.length:=by omega
    have hd:(l.take i).drop j=l.getD j z_api_Field::(l.take i).drop (j+1):=by
      rw [drop_getD z_api_Field (by simp;omega)]
      congr 1
      rw [List.getD_eq_getElem?_getD,List.getD_eq_getElem?_getD,List.getElem?_take,if_pos (by omega)]
    rw [taplineref08_fields.l1,if_pos (by simp;omega),if_pos (by omega),if_pos (by omega),rd_nat,rd_nat,hd,List.any_cons]
    by_cases h:strEq (l.getD j z_api_Field).vName (l.getD i z_api_Field).vName=true
    · rw [if_pos h,h];rfl
    · rw [if_neg h,wrap_nat hlt hl,ih (j+1) m (by omega) (by omega)]
      rw [Bool.not_eq_true] at h
      rw [h,Bool.false_or]
theorem any_rev (l:List api_Field) (s:ByteArray):((l.map (·.vName)).reverse.any (strEq s))=l.any fun f=>strEq f.vName s:=by
 rw [List.any_reverse,List.any_map]
 congr 1
 funext f
 exact strEq_comm _ _
theorem fields_loop {l : List api_Field} (hl : l.length ≤ 9223372036854775807) (hz : ∀ f ∈ l, f.vName.size ≤ 9223372036854775807) : ∀ (e j : Nat), j + e = l.length →
    Ev2 (fun k m=>taplineref08_fields.l0 k l m (j:Int)) (if namesS ((l.take j).map (·.vName)).reverse (l.drop j)=true then .inr () else .inl false):=by
  intro e
  induction e with
  | zero =>
    intro j hj
    refine Ev2.pure fun k m=>?_
    rw [taplineref08_fields.l0,if_neg (by simp;omega),List.drop_eq_nil_of_le (by omega)]
    rfl
  | succ e ih =>
    intro j hj
    have hlt:j<l.length:=by omega
    have hmem:=getD_mem (z:=z_api_Field) hlt
    have h1:=rname_ev (hz _ hmem)
    have h2:=ih (j+1) (by omega)
    have ht:((l.take (j+1)).map (·.vName)).reverse=(l.getD j z_api_Field).vName::((l.take j).map (·.vName)).reverse:=by
      rw [List.take_add_one,List.map_append,List.reverse_append]
      rw [List.getD_eq_getElem?_getD,List.getElem?_eq_getElem hlt]
      rfl
    rw [ht] at h2
    rw [drop_getD z_api_Field hlt,namesS]
    refine Ev2.step h1 (r:=fun k m v1=>if (!v1)=true then (some (.inl false)) else ((taplineref08_fields.l1 l (j:Int) k 0).bind fun xx2=>(match xx2 with| .inl r=>some (.inl r)| .inr s1=>taplineref08_fields.l0 k l m ((j+1:Nat):Int)))) ?_ (fun k m=>?_)
    · rcases Bool.eq_false_or_eq_true (nameS (l.getD j z_api_Field).vName) with hn|hn
      · obtain ⟨K,hK⟩:=h2
        rw [hn]
        refine ⟨max K (j+1),fun k m hk hm=>?_⟩
        have h3:=seen_loop hl hlt j 0 k (by omega) (by omega)
        rw [List.drop_zero] at h3
        simp only [Bool.not_true,Bool.false_eq_true,if_false,Bool.true_and]
        rw [show taplineref08_fields.l1 l (j:Int) k 0=_ from h3,any_rev]
        cases ha:(l.take j).any fun f=>strEq f.vName (l.getD j z_api_Field).vName with
        |true=>simp
        |false=>simpa using hK k m (by omega) (by omega)
      · exact ⟨0,fun k m _ _=>by rw [hn];rfl⟩
    · rw [taplineref08_fields.l0,if_pos (by simp;omega),if_pos (by omega),rd_nat,wrap_nat hlt hl]
      try rfl
theorem fields_ev {l:List api_Field} (hl:l.length≤9223372036854775807) (hz:∀f∈l,f.vName.size≤9223372036854775807):
  Ev (fun k=>taplineref08_fields.f k l) (decide (0<l.length)&&decide (l.length≤32)&&namesS [] l):=by
 by_cases h:l.length=0∨32<l.length
 ·refine Ev.pure fun k=>?_
  unfold taplineref08_fields.f
  rw [if_pos (by simp only [Bool.or_eq_true,beq_iff_eq,decide_eq_true_eq];omega)]
  rcases h with h|h
  ·simp [h]
  ·rw [decide_eq_false (p:=l.length≤32) (by omega)];simp
 ·obtain ⟨K,hK⟩:=(fields_loop hl hz l.length 0 (by omega)).diag
  refine ⟨K,fun k hk=>?_⟩
  show taplineref08_fields.f k l=_
  unfold taplineref08_fields.f
  rw [if_neg (by simp only [Bool.or_eq_true,beq_iff_eq,decide_eq_true_eq];omega),show taplineref08_fields.l0 k l k 0=_ from hK k hk,decide_eq_true (p:=0<l.length) (by omega),decide_eq_true (p:=l.length≤32) (by omega)]
  simp only [List.take_zero,List.map_nil,List.reverse_nil,List.drop_zero]
  cases namesS [] l<;>rfl
theorem rshaped_loop {t : api_Types} {d : api_Def} (hl : d.vFields.length ≤ 9223372036854775807) : ∀ (e j m : Nat), j + e = d.vFields.length → e < m →
    taplineref08_shaped.l0 t d m (j:Int)=some (if (d.vFields.drop j).all (fieldOk d (t.vDefs.length:Int))=true then .inr () else .inl false):=by
  intro e
  induction e with
  | zero =>
    intro j m hj hm
    obtain ⟨m,rfl⟩:∃q,m=q+1:=⟨m-1,by omega⟩
    rw [taplineref08_shaped.l0,if_neg (by simp;omega),List.drop_eq_nil_of_le (by omega)]
    rfl
  | succ e ih =>
    intro j m hj hm
    obtain ⟨m,rfl⟩:∃q,m=q+1:=⟨m-1,by omega⟩
    have hlt:j<d.vFields.length:=by omega
    rw [taplineref08_shaped.l0,if_pos (by simp;omega),if_pos (by omega),rd_nat,drop_getD z_api_Field hlt,wrap_nat hlt hl,ih (j+1) m (by omega) (by omega),List.all_cons]
    generalize d.vFields.getD j z_api_Field=f
    unfold fieldOk taplineref08_Index.f
    by_cases h4:d.vKind=4
    · have h5:(d.vKind==5)=false:=by simp [h4]
      by_cases ha:f.vType<0
      · simp [h4,h5,ha]
        intro h;omega
      · by_cases hb:f.vType<(t.vDefs.length:Int)
        · have h0:(0:Int)≤f.vType:=by omega
          have h1:¬((t.vDefs.length:Int)≤f.vType):=by omega
          simp [h4,h5,ha,hb,h0,h1]
        · have h1:(t.vDefs.length:Int)≤f.vType:=by omega
          simp [h4,h5,ha,hb,h1]
    · by_cases h5:d.vKind=5
      · cases hx:((f.vType !=0)||(decide (f.vAt<(-2147483648))))||(decide (f.vAt>2147483647))<;>simp [h5,hx]
      · simp [h4,h5]
theorem all_fields_free {d:api_Def} {n:Int} (h4:d.vKind≠4) (h5:d.vKind≠5) (l:List api_Field):l.all (fieldOk d n)=true:=by
 rw [List.all_eq_true]
 intro f _
 unfold fieldOk
 simp [h4,h5]
theorem rshaped_ev {t:api_Types} {d:api_Def} (hl:d.vFields.length≤9223372036854775807) (hz:∀f∈d.vFields,f.vName.size≤9223372036854775807) (hz0:d.vName.size≤9223372036854775807):
  Ev (fun k=>taplineref08_shaped.f k t d) (shapedS d (t.vDefs.length:Int)):=by
 obtain ⟨Kn,hKn⟩:=rname_ev hz0
 obtain ⟨Kf,hKf⟩:=fields_ev hl hz
 have hw:strEq d.vName ByteArray.empty=true→nameS d.vName=false:=by
  intro h;unfold nameS;rw [h];simp
 refine ⟨max (max Kn Kf) (d.vFields.length+1),fun k hk=>?_⟩
 show taplineref08_shaped.f k t d=_
 have h1:=hKn k (by omega)
 have h2:=hKf k (by omega)
 have h3:=rshaped_loop (t:=t) (d:=d) hl d.vFields.length 0 k (by omega) (by omega)
 rw [List.drop_zero] at h3
 unfold taplineref08_shaped.f taplineref08_unused.f taplineref08_Named.f taplineref08_Index.f shapedS shp
 simp only [h1,h2,show taplineref08_shaped.l0 t d k 0=_ from h3,fieldsS_eq]
 have hlen:∀n:Nat,((n:Int)==0)=decide (n=0):=by intro n;by_cases h:n=0<;>simp [h]
 have hpos:∀n:Nat,decide (0<n)= !decide (n=0):=by intro n;by_cases h:n=0<;>simp [h];omega
 rw [hlen,hpos]
 have hnil:decide (d.vFields.length=0)=true→namesS [] d.vFields=true:=by
  intro h
  have:d.vFields=[]:=List.length_eq_zero_iff.1 (of_decide_eq_true h)
  rw [this];rfl
 have hz32:decide (d.vFields.length=0)=true→decide (d.vFields.length≤32)=true:=by
  intro h
  exact decide_eq_true (by have:=of_decide_eq_true h;omega)
 have h55:∀x:Int,(x==0)=decide (x=0):=by intro x;by_cases h:x=0<;>simp [h]
 have hcase:d.vKind<1∨d.vKind>6∨d.vKind=1∨d.vKind=2∨d.vKind=3∨d.vKind=4∨d.vKind=5∨d.vKind=6:=by omega
 have hall:=fun a b=>all_fields_free (d:=d) (n:=(t.vDefs.length:Int)) a b d.vFields
 generalize d.vFields.all (fieldOk d (t.vDefs.length:Int))=F at*
 generalize nameS d.vName=A at*
 generalize strEq d.vName ByteArray.empty=B at*
 generalize decide (d.vFields.length=0)=C at*
 generalize decide (d.vFields.length≤32)=D at*
 generalize namesS [] d.vFields=E at*
 generalize d.vKind=K at*
 generalize d.vInt=I at*
 generalize d.vN=N at*
 generalize d.vRef=R at*
 clear h1 h2 h3 hKn hKf hl hz hz0
 have hI:(I.vSigned==false)= !I.vSigned:=by cases I.vSigned<;>rfl
 have hge:decide (R≥0)=decide (0≤R):=rfl
 have hgN:decide (N≥1)=decide (1≤N):=rfl
 rcases hcase with h|h|rfl|rfl|rfl|rfl|rfl|rfl
 ·simp only [show¬K=1 from by omega,show¬K=2 from by omega,show¬K=3 from by omega,show¬K=4 from by omega,show¬K=5 from by omega,show¬K=6 from by omega,if_false,decide_eq_true h]
  simp
 ·simp only [show¬K=1 from by omega,show¬K=2 from by omega,show¬K=3 from by omega,show¬K=4 from by omega,show¬K=5 from by omega,show¬K=6 from by omega,if_false,decide_eq_true h]
  simp
 ·rw [hall (by omega) (by omega)]
  simp only [okI,hI,hge,hgN,Int.reduceBEq,Int.reduceBNe,Int.reduceLT,Int.reduceGT,Int.reduceEq,bne,eq_self,Bool.false_eq_true,Bool.not_true,Bool.not_false,Bool.true_and,Bool.false_and,Bool.and_true,Bool.and_false,Bool.or_self,Bool.or_false,Bool.false_or,Bool.true_or,Option.bind_some,if_true,if_false,decide_true,decide_false]
  generalize (I.vSize==1||I.vSize==2||I.vSize==4||I.vSize==8)=a at*
  generalize (I.vSize==0)=a0 at*
  generalize I.vSigned=b at*
  generalize (R==0)=r at*
  generalize (N==0)=n at*
  revert hw hz32 hnil
  clear hall hlen hpos h55 hI hge hgN
  clear a0 b
  revert A B C D E a r n
  decide
 ·rw [hall (by omega) (by omega)]
  simp only [okI,hI,hge,hgN,Int.reduceBEq,Int.reduceBNe,Int.reduceLT,Int.reduceGT,Int.reduceEq,bne,eq_self,Bool.false_eq_true,Bool.not_true,Bool.not_false,Bool.true_and,Bool.false_and,Bool.and_true,Bool.and_false,Bool.or_self,Bool.or_false,Bool.false_or,Bool.true_or,Option.bind_some,if_true,if_false,decide_true,decide_false]
  generalize (I.vSize==0)=a at*
  generalize I.vSigned=b at*
  generalize decide (0≤R)=r at*
  generalize decide (R<(t.vDefs.length:Int))=r2 at*
  generalize (N==0)=n at*
  revert hw hz32 hnil
  clear hall hlen hpos h55 hI hge hgN
  revert A B C D E a b r r2 n
  decide
 ·rw [hall (by omega) (by omega)]
  simp only [okI,hI,hge,hgN,Int.reduceBEq,Int.reduceBNe,Int.reduceLT,Int.reduceGT,Int.reduceEq,bne,eq_self,Bool.false_eq_true,Bool.not_true,Bool.not_false,Bool.true_and,Bool.false_and,Bool.and_true,Bool.and_false,Bool.or_self,Bool.or_false,Bool.false_or,Bool.true_or,Option.bind_some,if_true,if_false,decide_true,decide_false]
  generalize (I.vSize==0)=a at*
  generalize I.vSigned=b at*
  generalize decide (0≤R)=r at*
  generalize decide (R<(t.vDefs.length:Int))=r2 at*
  generalize decide (1≤N)=n at*
  generalize decide (N≤512)=n2 at*
  revert hw hz32 hnil
  clear hall hlen hpos h55 hI hge hgN
  revert A B C D E a b r r2 n n2
  decide
 ·simp only [okI,hI,hge,hgN,Int.reduceBEq,Int.reduceBNe,Int.reduceLT,Int.reduceGT,Int.reduceEq,bne,eq_self,Bool.false_eq_true,Bool.not_true,Bool.not_false,Bool.true_and,Bool.false_and,Bool.and_true,Bool.and_false,Bool.or_self,Bool.or_false,Bool.false_or,Bool.true_or,Option.bind_some,if_true,if_false,decide_true,decide_false]
  generalize (I.vSize==0)=a at*
  generalize I.vSigned=b at*
  generalize (R==0)=r at*
  generalize decide (1≤N)=n at*
  generalize decide (N≤512)=n2 at*
  revert hw hz32 hnil
  clear hall hlen hpos h55 hI hge hgN
  revert A B C D E F a b r n n2
  decide
 ·simp only [okI,hI,hge,hgN,Int.reduceBEq,Int.reduceBNe,Int.reduceLT,Int.reduceGT,Int.reduceEq,bne,eq_self,Bool.false_eq_true,Bool.not_true,Bool.not_false,Bool.true_and,Bool.false_and,Bool.and_true,Bool.and_false,Bool.or_self,Bool.or_false,Bool.false_or,Bool.true_or,Option.bind_some,if_true,if_false,decide_true,decide_false]
  generalize (I.vSize==0)=a at*
  generalize I.vSigned=b at*
  generalize (R==0)=r at*
  generalize (N==0)=n at*
  generalize decide (1≤N)=n1 at*
  generalize decide (N≤512)=n2 at*
  revert hw hz32 hnil
  clear hall hlen hpos h55 hI hge hgN
  clear n1 n2
  revert A B C D E F a b r n
  decide
 ·rw [hall (by omega) (by omega)]
  simp only [okI,hI,hge,hgN,Int.reduceBEq,Int.reduceBNe,Int.reduceLT,Int.reduceGT,Int.reduceEq,bne,eq_self,Bool.false_eq_true,Bool.not_true,Bool.not_false,Bool.true_and,Bool.false_and,Bool.and_true,Bool.and_false,Bool.or_self,Bool.or_false,Bool.false_or,Bool.true_or,Option.bind_some,if_true,if_false,decide_true,decide_false]
  generalize (I.vSize==0)=a at*
  generalize I.vSigned=b at*
  generalize decide (0≤R)=r at*
  generalize decide (R<(t.vDefs.length:Int))=r2 at*
  generalize (N==0)=n at*
  revert hw hz32 hnil
  clear hall hlen hpos h55 hI hge hgN
  revert A B C D E a b r r2 n
  decide
structure GoodSz (defs:List api_Def) (g:List Int):Prop where
 len:g.length=defs.length
 ex:∃rk:Nat→Nat,∀j,j<defs.length→0<g.getD j 0∧g.getD j 0≤512∧(∀c∈cont (defs.getD j z_api_Def),rk c.toNat<rk j)∧g.getD j 0=nval (defs.getD j z_api_Def) (inner g (defs.getD j z_api_Def))
theorem GoodT.good {t:api_Types} {l:List Int} (G:GoodT t l):GoodSz t.vDefs l:=by
 refine ⟨G.len,?_⟩
 obtain ⟨rk,B,h⟩:=G.jn
 exact ⟨rk, fun j hj => by
  obtain ⟨h1,h2,h3,h4⟩:=h j hj (G.pos j hj)
  exact ⟨G.pos j hj, h2, fun c hc => (h3 c hc).2, h4⟩⟩
section
variable {defs:List api_Def} {g:List Int} {rk:Nat→Nat}
structure Mid (defs:List api_Def) (g:List Int) (out:List Int) (bg:List Bool) (out':List Int) (bg':List Bool):Prop where
 lo:out'.length=defs.length
 lb:bg'.length=defs.length
 val:∀j,j<defs.length→out'.getD j 0=0∨out'.getD j 0=g.getD j 0
 keep:∀j,0<out.getD j 0→out'.getD j 0=out.getD j 0
 stk:∀j,bg'.getD j false=true→out'.getD j 0=0→bg.getD j false=true∧out.getD j 0=0
theorem Mid.trans {o1 o2 o3:List Int} {b1 b2 b3:List Bool} (h:Mid defs g o1 b1 o2 b2) (k:Mid defs g o2 b2 o3 b3):Mid defs g o1 b1 o3 b3:=
 ⟨k.lo, k.lb, k.val, fun j hj => by rw [k.keep j (by rw [h.keep j hj]; exact hj), h.keep j hj], fun j hb ho => by
  obtain ⟨h1,h2⟩:=k.stk j hb ho
  exact h.stk j h1 h2⟩
def CallG (defs:List api_Def) (g:List Int) (i:Nat) (out:List Int) (bg:List Bool):Prop:=∃out' bg',Ev (fun k=>ctf_sizes_1.f k (i:Int) out true bg defs) (g.getD i 0,out',true,bg')∧Mid defs g out bg out' bg'∧out'.getD i 0=g.getD i 0
theorem good_loop {R:Nat} (v1:List Int) (hv:∀c∈v1,0≤c∧c<(defs.length:Int)) (hvl:v1.length≤9223372036854775807) (hr:∀c∈v1,rk c.toNat<R)
    (hc:∀(i:Nat) (out:List Int) (bg:List Bool),i<defs.length→rk i<R→out.length=defs.length→bg.length=defs.length→(∀j,j<defs.length→out.getD j 0=0∨out.getD j 0=g.getD j 0)→(∀j,bg.getD j false=true→out.getD j 0=0→rk i<rk j)→CallG defs g i out bg):
    ∀(e j:Nat) (inn:Int) (out:List Int) (bg:List Bool),j+e=v1.length→out.length=defs.length→bg.length=defs.length→(∀j,j<defs.length→out.getD j 0=0∨out.getD j 0=g.getD j 0)→(∀j,bg.getD j false=true→out.getD j 0=0→R≤rk j)→
    ∃out' bg',(∃K,∀k m,K≤k→K≤m→ctf_sizes_1.l0 (ctf_sizes_1.f k) defs v1 m inn (j:Int) true out bg=some ((v1.drop j).foldl (fun _ c=>g.getD c.toNat 0) inn,true,out',bg'))∧Mid defs g out bg out' bg':=by
  intro e
  induction e with
  | zero =>
    intro j inn out bg hj h1 h2 h3 h4
    refine ⟨out,bg,⟨1,fun k m _ hm=>?_⟩,h1,h2,h3,fun _ _=>rfl,fun j a b=>⟨a,b⟩⟩
    obtain ⟨m,rfl⟩:∃q,m=q+1:=⟨m-1,by omega⟩
    rw [ctf_sizes_1.l0,if_neg (by simp;omega),List.drop_eq_nil_of_le (by omega)]
    rfl
  | succ e ih =>
    intro j inn out bg hj h1 h2 h3 h4
    have hlt:j<v1.length:=by omega
    have hmem:=getD_mem (z:=0) hlt
    have hm:=hv _ hmem
    obtain ⟨i,hi⟩:∃i:Nat,v1.getD j 0=(i:Int):=⟨(v1.getD j 0).toNat,by omega⟩
    have hri:rk i<R:=by have:=hr _ hmem;rw [hi] at this;exact this
    obtain ⟨o1,b1,⟨K1,hK1⟩,hM1,hv1⟩:=hc i out bg (by omega) hri h1 h2 h3 (fun q a b=>by have:=h4 q a b;omega)
    obtain ⟨o2, b2, ⟨K2, hK2⟩, hM2⟩ := ih (j + 1) (g.getD i 0) o1 b1 (by omega) hM1.lo hM1.lb hM1.val (fun q a b => by
      obtain ⟨x,y⟩:=hM1.stk q a b
      exact h4 q x y)
    refine ⟨o2,b2,⟨max K1 K2+1,fun k m hk hm'=>?_⟩,hM1.trans hM2⟩
    obtain ⟨m,rfl⟩:∃q,m=q+1:=⟨m-1,by omega⟩
    rw [ctf_sizes_1.l0,if_pos (by simp;omega),if_pos (by omega),rd_nat,hi,show ctf_sizes_1.f k _ _ _ _ _=_ from hK1 k (by omega)]
    simp only [Option.bind_some]
    rw [wrap_nat hlt hvl,drop_getD 0 hlt,hi]
    exact hK2 k m (by omega) (by omega)
theorem cont_few {d:api_Def} {n:Nat} (hd:ShD d n):(cont d).length≤9223372036854775807:=by
 have:=hd.few
 unfold cont
 split
 ·simp
 ·split
  ·rw [List.length_map];omega
  ·simp
theorem good_call (hS : ∀ d ∈ defs, ShD d defs.length) (hg : ∀ j, j < defs.length → 0 < g.getD j 0 ∧ g.getD j 0 ≤ 512 ∧ (∀ c ∈ cont (defs.getD j z_api_Def), rk c.toNat < rk j) ∧ g.getD j 0 = nval (defs.getD j z_api_Def) (inner g (defs.getD j z_api_Def))) :
    ∀(R i:Nat) (out:List Int) (bg:List Bool),rk i=R→i<defs.length→out.length=defs.length→bg.length=defs.length→(∀j,j<defs.length→out.getD j 0=0∨out.getD j 0=g.getD j 0)→(∀j,bg.getD j false=true→out.getD j 0=0→rk i<rk j)→CallG defs g i out bg:=by
  intro R
  induction R using Nat.strongRecOn with
  | _ R ihR =>
    intro i out bg hR hi h1 h2 h3 h4
    obtain ⟨g1,g2,g3,g4⟩:=hg i hi
    rcases h3 i hi with h0|h0
    · have hb:bg.getD i false=false:=by
        cases hb:bg.getD i false with
        |false=>rfl
        |true=>exact absurd (h4 i hb h0) (by omega)
      have hd:=hS _ (getD_mem (z:=z_api_Def) hi)
      obtain ⟨Kc,hKc⟩:=contained_ev (d:=defs.getD i z_api_Def) (by have:=hd.few;omega)
      obtain ⟨o1,b1,⟨K1,hK1⟩,hM⟩:=good_loop (defs:=defs) (g:=g) (rk:=rk) (R:=R) (cont (defs.getD i z_api_Def)) (cont_range hd) (cont_few hd) (fun c hc=>by have:=g3 c hc;omega)
        (fun i' o b a1 a2 a3 a4 a5 a6 => ihR (rk i') a2 i' o b rfl a1 a3 a4 a5 a6) (cont (defs.getD i z_api_Def)).length 0 0 out (bg.set i true) (by omega) h1 (by simpa using h2) h3 (fun j a b => by
          rw [getD_set (by omega)] at a
          split at a
          · next e=>subst e;omega
          · have := h4 j a b; omega)
      rw [List.drop_zero] at hK1
      have hset:∀j,(o1.set i (g.getD i 0)).getD j 0=if i=j then g.getD i 0 else o1.getD j 0:=fun j=>getD_set (by rw [hM.lo];exact hi)
      refine ⟨o1.set i (g.getD i 0),b1,⟨max Kc K1+1,fun k hk=>?_⟩,⟨by simp [hM.lo],hM.lb,fun j hj=>?_,fun j hj=>?_,fun j hb' ho=>?_⟩,by rw [hset,if_pos rfl]⟩
      · obtain ⟨k,rfl⟩:∃q,k=q+1:=⟨k-1,by omega⟩
        show ctf_sizes_1.f (k+1) _ _ _ _ _=_
        rw [ctf_sizes_1.f,if_pos (by omega),rd_nat,if_neg (by simp only [Bool.not_true,Bool.or_false,decide_eq_true_eq];omega),if_pos (by omega),rd_nat,if_neg (by rw [hb];simp),if_pos (by omega),if_pos (by omega),rd_nat,show ctf_contained.f k _=_ from hKc k (by omega)]
        simp only [Option.bind_some,Int.toNat_natCast]
        rw [show ctf_sizes_1.l0 (ctf_sizes_1.f k) defs _ k 0 0 true out _=_ from hK1 k k (by omega) (by omega)]
        simp only [Option.bind_some]
        rw [if_pos (by rw [hM.lo];omega)]
        simp only [nval_eq]
        rw [show nval (defs.getD i z_api_Def) (List.foldl (fun x c=>g.getD c.toNat 0) 0 (cont (defs.getD i z_api_Def)))=g.getD i 0 from g4.symm,decide_eq_true g2]
        rfl
      · rw [hset]
        split
        · next e=>subst e;exact .inr rfl
        · exact hM.val j hj
      · rw [hset,if_neg (fun e=>by subst e;omega)]
        exact hM.keep j hj
      · rw [hset] at ho
        split at ho
        · omega
        · next hne=>
          obtain ⟨x,y⟩:=hM.stk j hb' ho
          rw [getD_set (by omega),if_neg hne] at x
          exact ⟨x,y⟩
    · refine ⟨out,bg,⟨1,fun k hk=>?_⟩,⟨h1,h2,h3,fun _ _=>rfl,fun j a b=>⟨a,b⟩⟩,h0⟩
      obtain ⟨k,rfl⟩:∃q,k=q+1:=⟨k-1,by omega⟩
      show ctf_sizes_1.f (k+1) _ _ _ _ _=_
      rw [ctf_sizes_1.f,if_pos (by omega),rd_nat,if_pos (by simp only [Bool.or_eq_true,decide_eq_true_eq];exact .inl (by omega)),if_pos (by omega),h0]
end
theorem list_ext {g h:List Int} (hl:g.length=h.length) (he:∀j,j<g.length→g.getD j 0=h.getD j 0):g=h:=by
 apply List.ext_getElem hl
 intro j h1 h2
 have:=he j h1
 rw [List.getD_eq_getElem?_getD,List.getD_eq_getElem?_getD,List.getElem?_eq_getElem h1,List.getElem?_eq_getElem h2] at this
 exact this
theorem good_all {t : api_Types} {g : List Int} {rk : Nat → Nat} (hS : ∀ d ∈ t.vDefs, ShD d t.vDefs.length) (hn : t.vDefs.length ≤ 9223372036854775807)
    (hg:∀j,j<t.vDefs.length→0<g.getD j 0∧g.getD j 0≤512∧(∀c∈cont (t.vDefs.getD j z_api_Def),rk c.toNat<rk j)∧g.getD j 0=nval (t.vDefs.getD j z_api_Def) (inner g (t.vDefs.getD j z_api_Def))):
    ∀(e j:Nat) (bg:List Bool) (out:List Int),j+e=t.vDefs.length→out.length=t.vDefs.length→bg.length=t.vDefs.length→(∀q,q<t.vDefs.length→out.getD q 0=0∨out.getD q 0=g.getD q 0)→(∀q,bg.getD q false=true→out.getD q 0=0→False)→(∀q,q<j→out.getD q 0=g.getD q 0)→
    ∃bg' out',Ev2 (fun k m=>ctf_sizes.l0 k t m (j:Int) true bg out) (true,bg',out')∧out'.length=t.vDefs.length∧∀q,q<t.vDefs.length→out'.getD q 0=g.getD q 0:=by
  intro e
  induction e with
  | zero =>
    intro j bg out hj h1 h2 h3 h4 h5
    refine ⟨bg,out,Ev2.pure (fun k m=>?_),h1,fun q hq=>h5 q (by omega)⟩
    rw [ctf_sizes.l0,if_neg (by simp;omega)]
  | succ e ih =>
    intro j bg out hj h1 h2 h3 h4 h5
    have hlt:j<t.vDefs.length:=by omega
    obtain ⟨o1,b1,hE,hM,hv⟩:=good_call hS hg (rk j) j out bg rfl hlt h1 h2 h3 (fun q a b=>(h4 q a b).elim)
    obtain ⟨bg', out', hE2, h6, h7⟩ := ih (j + 1) b1 o1 (by omega) hM.lo hM.lb hM.val (fun q a b => by
      obtain ⟨x,y⟩:=hM.stk q a b
      exact h4 q x y) (fun q hq=>by
      by_cases hqj:q=j
      · subst hqj;exact hv
      · have h8:=h5 q (by omega)
        have h9:=(hg q (by omega)).1
        rw [hM.keep q (by omega), h8])
    refine ⟨bg',out',Ev2.step hE (r:=fun k m (v1:Int×List Int×Bool×List Bool)=>ctf_sizes.l0 k t m (IntKind.wrap .i64 ((j:Int)+1)) v1.2.2.1 v1.2.2.2 v1.2.1) ?_ (fun k m=>?_),h6,h7⟩
    · simp only
      rw [wrap_nat hlt hn]
      exact hE2
    · rw [ctf_sizes.l0,if_pos (by simp;omega)]
theorem sizes_good {t:api_Types} {g:List Int} (hS:∀d∈t.vDefs,ShD d t.vDefs.length) (hn:t.vDefs.length≤200) (G:GoodSz t.vDefs g):Ev (fun k=>ctf_sizes.f k t) (g,true):=by
 obtain ⟨rk,hg⟩:=G.ex
 have hrep:∀(n q:Nat),(List.replicate n (0:Int)).getD q 0=0:=fun n q=>by
  rw [List.getD_eq_getElem?_getD,List.getElem?_replicate]
  split<;>rfl
 have hrepb:∀(n q:Nat),(List.replicate n false).getD q false=false:=fun n q=>by
  rw [List.getD_eq_getElem?_getD,List.getElem?_replicate]
  split<;>rfl
 obtain ⟨bg,out,hE,h1,h2⟩:=good_all hS (by omega) hg t.vDefs.length 0 (List.replicate t.vDefs.length false) (List.replicate t.vDefs.length 0) (by omega) (by simp) (by simp) (fun q _=> .inl (hrep _ _)) (fun q a _=>by rw [hrepb] at a;cases a) (fun q hq=>by omega)
 have hog:out=g:=list_ext (by rw [h1,G.len]) (fun j hj=>h2 j (by omega))
 subst hog
 obtain ⟨K,hK⟩:=hE.diag
 refine ⟨K,fun k hk=>?_⟩
 show ctf_sizes.f k t=_
 unfold ctf_sizes.f
 rw [if_pos (by omega),if_pos (by omega)]
 simp only [Int.toNat_natCast]
 rw [show ctf_sizes.l0 k t k 0 true _ _=_ from hK k hk]
 rfl
theorem inner_ref {d:api_Def} {known:List Int} (hk:d.vKind=3∨d.vKind=6):inner known d=rd 0 known d.vRef∧cont d=[d.vRef]:=by
 have hcd:cont d=[d.vRef]:=by
  unfold cont
  rw [if_pos (by simp only [Bool.or_eq_true,beq_iff_eq];exact hk)]
 refine ⟨?_,hcd⟩
 unfold inner
 rw [hcd]
 rfl
theorem cont_kind {d:api_Def} {c:Int} (h:c∈cont d):d.vKind=3∨d.vKind=4∨d.vKind=6:=by
 unfold cont at h
 split at h
 ·next h2=>simp only [Bool.or_eq_true,beq_iff_eq] at h2;omega
 ·split at h
  ·next h2=>simp only [beq_iff_eq] at h2;omega
  ·cases h
theorem inner_congr {d:api_Def} {a b:List Int} (h:∀c∈cont d,a.getD c.toNat 0=b.getD c.toNat 0):inner a d=inner b d:=by
  unfold inner
  have key:∀(l:List Int) (z0:Int),(∀c∈l,a.getD c.toNat 0=b.getD c.toNat 0)→l.foldl (fun _ c=>a.getD c.toNat 0) z0=l.foldl (fun _ c=>b.getD c.toNat 0) z0:=by
    intro l
    induction l with
    |nil=>intro _ _;rfl
    | cons c l ih =>
      intro z0 hc
      rw [List.foldl_cons,List.foldl_cons,hc c List.mem_cons_self]
      exact ih _ (fun c hc'=>hc c (List.mem_cons_of_mem _ hc'))
  exact key _ _ h
theorem cont_struct {d:api_Def} (e:d.vKind=4):cont d=d.vFields.map (·.vType):=by
 unfold cont
 rw [if_neg (by simp [e]),if_pos (by simp [e])]
structure Wf (t:api_Types) (l:List Int):Prop where
 few:t.vDefs.length≤200
 defs:defsS t.vDefs.length [] t.vDefs=true
 sz:GoodSz t.vDefs l
 ends:∀d∈t.vDefs,lostS t.vDefs t.vDefs.length d=false
 placed:∀d∈t.vDefs,d.vKind=4→placedS d l=true
theorem GoodT.wf {t:api_Types} {l:List Int} (G:GoodT t l):Wf t l:=⟨G.few,G.defs,G.good,G.ends,G.placed⟩
theorem Wf.sh {t:api_Types} {l:List Int} (W:Wf t l):∀d∈t.vDefs,ShD d t.vDefs.length:=defs_of _ _ W.defs
theorem Wf.good {t:api_Types} {l:List Int} (W:Wf t l):GoodT t l:=by
  obtain ⟨rk,h⟩:=W.sz.ex
  have hB:∀n,∃B,∀j,j<n→rk j<B:=by
    intro n
    induction n with
    |zero=>exact ⟨0,fun j hj=>by omega⟩
    | succ n ih =>
      obtain ⟨B,hB⟩:=ih
      refine ⟨max B (rk n+1),fun j hj=>?_⟩
      by_cases e:j=n
      · subst e;omega
      · have:=hB j (by omega);omega
  obtain ⟨B,hB⟩:=hB t.vDefs.length
  refine ⟨W.few,W.sh,sizes_good W.sh W.few W.sz,W.sz.len,⟨rk,B,fun j hj _=>?_⟩,fun q hq=>(h q hq).1,W.ends,W.placed,W.defs⟩
  obtain ⟨h1,h2,h3,h4⟩:=h j hj
  refine ⟨hB j hj,h2,fun c hc=>⟨?_,h3 c hc⟩,h4⟩
  have:=cont_range (W.sh _ (getD_mem (z:=z_api_Def) hj)) c hc
  exact (h c.toNat (by omega)).1
theorem valid_wf {t : api_Types} {l : List Int} (hF : ∀ d ∈ t.vDefs, FitD d) (W : Wf t l) : Ev (fun k => ctf_valid.f k t) true := by
  have hn:=W.few
  have hS:=W.sh
  have hcond:¬decide ((t.vDefs.length:Int)>200)=true:=by simp;omega
  obtain ⟨v,hv,hp⟩:=valid_loop hF (by omega) t.vDefs.length 0 [] [] (by omega) SeenOk.nil
  rw [List.drop_zero] at hp
  obtain ⟨K,hK⟩:=hv.diag
  obtain ⟨K2,hK2⟩:=sizes_good hS hn W.sz
  obtain ⟨K3,hK3⟩:=ends_ev hS hn
  have he:t.vDefs.any (lostS t.vDefs t.vDefs.length)=false:=List.any_eq_false.2 fun d hd=>by rw [W.ends d hd];simp
  obtain ⟨K4, hK4⟩ := contains_ev (l := t.vDefs) (p := fun k z0 => ctf_valid_1.f k z0 l) (q := fun _ => false) (fun d hd => by
    by_cases h4:d.vKind=4
    · have:=placed_ev (d:=d) (l:=l) (hF d hd).len (fun f hf=>by have:=(hS d hd).typ h4 f hf;rw [W.sz.len];exact this)
      rw [W.placed d hd h4] at this
      exact (this.bind (g:=fun k v1=>some ((d.vKind==4)&&(!v1))) (b:=false) (Ev.pure fun _=>by simp)).congr fun k=>by
        unfold ctf_valid_1.f
        rw [if_pos (by simp [h4])]
    · refine Ev.pure fun k=>?_
      unfold ctf_valid_1.f
      rw [if_neg (by simp [h4])]
      simp [h4]) (by omega)
  cases v with
  |inl b=>rw [W.defs] at hp;exact absurd hp.2 (by simp)
  | inr m =>
    refine ⟨max (max K K2) (max K3 K4),fun k hk=>?_⟩
    show ctf_valid.f k t=_
    unfold ctf_valid.f
    rw [if_neg hcond,show ctf_valid.l0 k t k 0 []=_ from hK k (by omega)]
    simp only [Option.bind_some]
    rw [show ctf_sizes.f k t=_ from hK2 k (by omega)]
    simp only [Option.bind_some]
    rw [show ctf_ends.f k t=_ from hK3 k (by omega),he]
    simp only [Bool.not_true,Bool.not_false,beq_self_eq_true,Bool.and_self,if_true,Option.bind_some,Bool.or_self,Bool.false_eq_true,if_false]
    rw [show slices_ContainsFunc_api_Def_api_Def.f k t.vDefs _=_ from hK4 k (by omega)]
    simp
theorem valid_iff {t:api_Types} (hF:∀d∈t.vDefs,FitD d):(∃l,Wf t l∧Ev (fun k=>ctf_valid.f k t) true)∨((∀l,¬Wf t l)∧Ev (fun k=>ctf_valid.f k t) false):=by
  obtain ⟨b,hE,hb⟩:=valid_ev hF
  cases b with
  | true =>
    obtain ⟨l,G⟩:=hb rfl
    exact .inl ⟨l,G.wf,hE⟩
  | false =>
    refine .inr ⟨fun l W=>?_,hE⟩
    have:=hE.uniq (valid_wf hF W)
    cases this
def rsizeS (d:api_Def) (known:List Int):Int:=if d.vKind=4∧(d.vFields.any fun f=>rd 0 known f.vType==0)=true then 0 else nval d (inner known d)
theorem rsize_loop {d:api_Def} {known:List Int} (hl:d.vFields.length≤9223372036854775807) (ht:∀f∈d.vFields,0≤f.vType∧f.vType<known.length):∀(e j m:Nat),j+e=d.vFields.length→e<m→
    taplineref08_size.l0 d known m (j:Int)=some (if ((d.vFields.drop j).any fun f=>rd 0 known f.vType==0)=true then .inl 0 else .inr ()):=by
  intro e
  induction e with
  | zero =>
    intro j m hj hm
    obtain ⟨m,rfl⟩:∃q,m=q+1:=⟨m-1,by omega⟩
    rw [taplineref08_size.l0,if_neg (by simp;omega),List.drop_eq_nil_of_le (by omega)]
    rfl
  | succ e ih =>
    intro j m hj hm
    obtain ⟨m,rfl⟩:∃q,m=q+1:=⟨m-1,by omega⟩
    have hlt:j<d.vFields.length:=by omega
    have hf:=ht _ (getD_mem (z:=z_api_Field) hlt)
    rw [taplineref08_size.l0,if_pos (by simp;omega),if_pos (by omega),rd_nat,if_pos hf,drop_getD z_api_Field hlt,List.any_cons]
    by_cases hc:(rd 0 known (d.vFields.getD j z_api_Field).vType==0)=true
    · rw [if_pos hc,hc];rfl
    · rw [if_neg hc,wrap_nat hlt hl,ih (j+1) m (by omega) (by omega)]
      rw [Bool.not_eq_true] at hc
      rw [hc,Bool.false_or]
theorem rsize_ev {d : api_Def} {known : List Int} {n : Nat} (hd : ShD d n) (hn : known.length = n) : Ev (fun k => taplineref08_size.f k d known) (rsizeS d known) := by
  have hfew:=hd.few
  have hkind:=hd.kind
  refine ⟨d.vFields.length+1,fun k hk=>?_⟩
  show taplineref08_size.f k d known=_
  unfold taplineref08_size.f rsizeS nval
  simp only [beq_iff_eq]
  by_cases e1:d.vKind=1
  · rw [if_pos e1,if_neg (by omega),if_pos e1]
  · rw [if_neg e1]
    by_cases e2:d.vKind=2
    · rw [if_pos e2,if_neg (by omega),if_neg e1,if_pos e2]
    · rw [if_neg e2]
      by_cases e3:d.vKind=3
      · have hr:=hd.ref (by omega)
        rw [if_pos e3,if_pos (by omega),if_neg (by omega),if_neg e1,if_neg e2,if_pos e3,(inner_ref (.inl e3)).1]
      · rw [if_neg e3]
        by_cases e5:d.vKind=5
        · rw [if_pos e5,if_neg (by omega),if_neg e1,if_neg e2,if_neg e3,if_neg (by omega),if_pos e5]
        · rw [if_neg e5]
          by_cases e6:d.vKind=6
          · have hr:=hd.ref (by omega)
            rw [if_pos e6,if_pos (by omega),if_neg (by omega),if_neg e1,if_neg e2,if_neg e3,if_neg (by omega),if_neg e5,if_pos e6,(inner_ref (.inr e6)).1]
          · have e4:d.vKind=4:=by omega
            have ht:=hd.typ e4
            rw [if_neg e6,show taplineref08_size.l0 d known k 0=_ from rsize_loop (by omega) (fun f hf=>by have:=ht f hf;omega) d.vFields.length 0 k (by omega) (by omega),List.drop_zero]
            rw [if_neg e1,if_neg e2,if_neg e3,if_pos e4]
            cases hany:d.vFields.any fun f=>rd 0 known f.vType==0 with
            |true=>simp [e4]
            |false=>simp [e4]
structure Inv (defs:List api_Def) (known:List Int):Prop where
 len:known.length=defs.length
 rng:∀j,j<defs.length→0≤known.getD j 0∧known.getD j 0≤513
 ex:∃(rk:Nat→Nat) (B:Nat),∀j,j<defs.length→known.getD j 0≠0→rk j<B∧(∀c∈cont (defs.getD j z_api_Def),known.getD c.toNat 0≠0∧rk c.toNat<rk j)∧known.getD j 0=iMin (nval (defs.getD j z_api_Def) (inner known (defs.getD j z_api_Def))) 513
theorem rsize_pos {d : api_Def} {known : List Int} {n : Nat} (hd : ShD d n) (h : 0 < rsizeS d known) : 0 < nval d (inner known d) ∧ rsizeS d known = nval d (inner known d) ∧ ∀ c ∈ cont d, known.getD c.toNat 0 ≠ 0 := by
  unfold rsizeS at h⊢
  split at h
  · omega
  · next hc=>
    rw [if_neg hc]
    refine ⟨h,rfl,fun c hcm=>?_⟩
    rcases cont_kind hcm with e|e|e
    · obtain ⟨h1,h2⟩:=inner_ref (known:=known) (.inl e)
      rw [h2] at hcm
      rw [List.mem_singleton.1 hcm]
      intro h0
      unfold nval at h
      rw [h1,show rd 0 known d.vRef=0 from h0,Int.mul_zero,if_neg (by omega),if_neg (by omega),if_pos e] at h
      exact absurd h (by decide)
    · have hcd:cont d=d.vFields.map (·.vType):=by
        unfold cont
        rw [if_neg (by simp [e]),if_pos (by simp [e])]
      rw [hcd] at hcm
      obtain ⟨f,hf,rfl⟩:=List.mem_map.1 hcm
      intro h0
      exact hc ⟨e,List.any_eq_true.2 ⟨f,hf,by rw [beq_iff_eq];exact h0⟩⟩
    · obtain ⟨h1,h2⟩:=inner_ref (known:=known) (.inr e)
      rw [h2] at hcm
      rw [List.mem_singleton.1 hcm]
      intro h0
      unfold nval at h
      rw [h1,show rd 0 known d.vRef=0 from h0,if_neg (by omega),if_neg (by omega),if_neg (by omega),if_neg (by omega),if_neg (by omega),if_pos e] at h
      omega
def zer (l:List Int):Nat:=(l.filter fun x=>x==0).length
theorem zer_set:∀(a:List Int) (i:Nat) (v:Int),i<a.length→a.getD i 0=0→v≠0→zer (a.set i v)+1=zer a
  |[],i,v,h,_,_=>by simp at h
  | x :: a, 0, v, h, hi, hv => by
    simp only [List.getD_cons_zero] at hi
    subst hi
    simp [zer,hv]
  | x :: a, i + 1, v, h, hi, hv => by
    have:=zer_set a i v (by simpa using h) (by simpa using hi) hv
    unfold zer at*
    rw [List.set_cons_succ,List.filter_cons,List.filter_cons]
    by_cases hx:(x==0)=true
    · rw [if_pos hx,if_pos hx,List.length_cons,List.length_cons];omega
    · rw [if_neg hx,if_neg hx];exact this
theorem inv_set {defs : List api_Def} {known : List Int} (hS : ∀ d ∈ defs, ShD d defs.length) (I : Inv defs known) {i : Nat} (hi : i < defs.length) (h0 : known.getD i 0 = 0) (hp : 0 < rsizeS (defs.getD i z_api_Def) known) :
    Inv defs (known.set i (iMin (rsizeS (defs.getD i z_api_Def) known) 513))∧iMin (rsizeS (defs.getD i z_api_Def) known) 513≠0:=by
  obtain ⟨hp1,hp2,hp3⟩:=rsize_pos (hS _ (getD_mem hi)) hp
  obtain ⟨rk,B,hB⟩:=I.ex
  have hv:0<iMin (rsizeS (defs.getD i z_api_Def) known) 513∧iMin (rsizeS (defs.getD i z_api_Def) known) 513≤513:=by
    unfold iMin
    split<;>omega
  generalize hV:iMin (rsizeS (defs.getD i z_api_Def) known) 513=V at*
  have hset:∀j,(known.set i V).getD j 0=if i=j then V else known.getD j 0:=fun j=>getD_set (by rw [I.len];exact hi)
  have hne:∀c:Int,known.getD c.toNat 0≠0→¬i=c.toNat:=fun c hc e=>by rw [←e] at hc;exact hc h0
  refine ⟨⟨by simp [I.len],fun j hj=>?_,fun j=>if i=j then B else rk j,B+1,fun j hj hj0=>?_⟩,by omega⟩
  · rw [hset]
    split
    · omega
    · exact I.rng j hj
  · show (if i=j then B else rk j)<B+1∧(∀c:Int,c∈cont (defs.getD j z_api_Def)→_∧(if i=c.toNat then B else rk c.toNat)<(if i=j then B else rk j))∧_
    by_cases hij:i=j
    · subst hij
      rw [if_pos rfl]
      refine ⟨by omega,fun c hc=>?_,?_⟩
      · have h5:=hp3 c hc
        have h6:=cont_range (hS _ (getD_mem (z:=z_api_Def) hi)) c hc
        rw [hset,if_neg (hne c h5),if_neg (hne c h5)]
        exact ⟨h5,(hB c.toNat (by omega) h5).1⟩
      · rw [hp2] at hV
        refine (hset i).trans ?_
        rw [if_pos rfl]
        refine hV.symm.trans ?_
        congr 2
        exact inner_congr (fun c hc=>by rw [hset,if_neg (hne c (hp3 c hc))])
    · rw [hset,if_neg hij] at hj0
      obtain ⟨h5,h7,h8⟩:=hB j hj hj0
      rw [if_neg hij,hset,if_neg hij]
      refine ⟨by omega,fun c hc=>?_,?_⟩
      · obtain ⟨h9,h10⟩:=h7 c hc
        rw [hset,if_neg (hne c h9),if_neg (hne c h9)]
        exact ⟨h9,h10⟩
      · rw [h8]
        congr 2
        exact inner_congr (fun c hc=>by rw [hset,if_neg (hne c (h7 c hc).1)])
theorem pass_loop {t : api_Types} (hS : ∀ d ∈ t.vDefs, ShD d t.vDefs.length) (hn : t.vDefs.length ≤ 9223372036854775807) : ∀ (e j : Nat) (more : Bool) (known : List Int), j + e = t.vDefs.length → Inv t.vDefs known →
    ∃ more' known', Ev2 (fun k m => taplineref08_sizes.l1 k t m more (j : Int) known) (more', known') ∧ Inv t.vDefs known' ∧ (more' = false → more = false ∧ known' = known ∧ ∀ q, j ≤ q → q < t.vDefs.length → known.getD q 0 = 0 → rsizeS (t.vDefs.getD q z_api_Def) known ≤ 0) ∧
      zer known'≤zer known∧(more'=true→more=true∨zer known'<zer known):=by
  intro e
  induction e with
  | zero =>
    intro j more known hj I
    refine ⟨more,known,Ev2.pure (fun k m=>?_),I,fun h=>⟨h,rfl,fun q _ _=>by omega⟩,Nat.le_refl _,fun h=> .inl h⟩
    rw [taplineref08_sizes.l1,if_neg (by simp;omega)]
  | succ e ih =>
    intro j more known hj I
    have hlt:j<t.vDefs.length:=by omega
    have hd:=hS _ (getD_mem (z:=z_api_Def) hlt)
    by_cases h0:known.getD j 0=0
    · have hs:=rsize_ev hd I.len
      by_cases hp:0<rsizeS (t.vDefs.getD j z_api_Def) known
      · obtain ⟨I2,hv⟩:=inv_set hS I hlt h0 hp
        have hz:=zer_set known j _ (by rw [I.len];exact hlt) h0 hv
        obtain ⟨more',known',hE,I3,h1,h2,h3⟩:=ih (j+1) true _ (by omega) I2
        refine ⟨more',known',Ev2.step hs (r:=fun k m v1=>if (decide (v1>0))=true then (if 0≤(j:Int)∧(j:Int)<(((t.vDefs.length:Int).toNat:Nat):Int) then (taplineref08_sizes.l1 k t m true (IntKind.wrap .i64 ((j:Int)+1)) (List.set known j (iMin v1 513))) else none) else (taplineref08_sizes.l1 k t m more (IntKind.wrap .i64 ((j:Int)+1)) known)) ?_ (fun k m=>?_),I3,?_,by omega,fun _=> .inr (by omega)⟩
        · obtain ⟨K,hK⟩:=hE
          refine ⟨K,fun k m hk hm=>?_⟩
          show (if _ then _ else _)=_
          rw [if_pos (decide_eq_true hp),if_pos (by omega),wrap_nat hlt hn]
          exact hK k m hk hm
        · rw [taplineref08_sizes.l1,if_pos (by simp;omega),if_pos (by omega),rd_nat,if_neg (by rw [h0];decide),if_pos (by omega),rd_nat]
          simp only [Int.toNat_natCast]
        · intro h;have:=(h1 h).1;cases this
      · obtain ⟨more',known',hE,I3,h1,h2,h3⟩:=ih (j+1) more known (by omega) I
        refine ⟨more',known',Ev2.step hs (r:=fun k m v1=>if (decide (v1>0))=true then (if 0≤(j:Int)∧(j:Int)<(((t.vDefs.length:Int).toNat:Nat):Int) then (taplineref08_sizes.l1 k t m true (IntKind.wrap .i64 ((j:Int)+1)) (List.set known j (iMin v1 513))) else none) else (taplineref08_sizes.l1 k t m more (IntKind.wrap .i64 ((j:Int)+1)) known)) ?_ (fun k m=>?_),I3,?_,h2,h3⟩
        · obtain ⟨K,hK⟩:=hE
          refine ⟨K,fun k m hk hm=>?_⟩
          show (if _ then _ else _)=_
          rw [if_neg (by simpa using hp),wrap_nat hlt hn]
          exact hK k m hk hm
        · rw [taplineref08_sizes.l1,if_pos (by simp;omega),if_pos (by omega),rd_nat,if_neg (by rw [h0];decide),if_pos (by omega),rd_nat]
          simp only [Int.toNat_natCast]
        · intro h
          obtain ⟨a,b,c⟩:=h1 h
          refine ⟨a,b,fun q hq hq2 hq0=>?_⟩
          by_cases hqj:q=j
          · subst hqj;omega
          · exact c q (by omega) hq2 hq0
    · obtain ⟨more',known',hE,I3,h1,h2,h3⟩:=ih (j+1) more known (by omega) I
      refine ⟨more',known',Ev2.next (r:=fun k m=>taplineref08_sizes.l1 k t m more ((j+1:Nat):Int) known) hE (fun k m=>?_),I3,?_,h2,h3⟩
      · rw [taplineref08_sizes.l1,if_pos (by simp;omega),if_pos (by omega),rd_nat,if_pos (by simpa using h0),wrap_nat hlt hn]
      · intro h
        obtain ⟨a,b,c⟩:=h1 h
        refine ⟨a,b,fun q hq hq2 hq0=>?_⟩
        by_cases hqj:q=j
        · subst hqj;exact absurd hq0 h0
        · exact c q (by omega) hq2 hq0
def Fin (defs:List api_Def) (known:List Int):Prop:=∀q,q<defs.length→known.getD q 0=0→rsizeS (defs.getD q z_api_Def) known≤0
theorem rounds {t : api_Types} (hS : ∀ d ∈ t.vDefs, ShD d t.vDefs.length) (hn : t.vDefs.length ≤ 9223372036854775807) : ∀ (z : Nat) (known : List Int), zer known = z → Inv t.vDefs known →
    ∃known',Ev2 (fun k m=>taplineref08_sizes.l0 k t m true known) known'∧Inv t.vDefs known'∧Fin t.vDefs known':=by
  intro z
  induction z using Nat.strongRecOn with
  | _ z ih =>
    intro known hz I
    obtain ⟨more',known',hE,I2,h1,h2,h3⟩:=pass_loop hS hn t.vDefs.length 0 false known (by omega) I
    cases more' with
    | false =>
      obtain ⟨_,rfl,hf⟩:=h1 rfl
      refine ⟨known',Ev2.step hE.diag (r:=fun k m (x:Bool×List Int)=>taplineref08_sizes.l0 k t m x.1 x.2) (Ev2.pure fun k m=>?_) (fun k m=>?_),I2,fun q hq h0=>hf q (by omega) hq h0⟩
      · show taplineref08_sizes.l0 k t (m+1) false known'=_
        rw [taplineref08_sizes.l0,if_neg (by simp)]
      · rw [taplineref08_sizes.l0,if_pos rfl]
        rfl
    | true =>
      have hlt:zer known'<z:=by
        rcases h3 rfl with h|h
        · cases h
        · omega
      obtain ⟨k3,hE3,I3,F3⟩:=ih (zer known') hlt known' rfl I2
      refine ⟨k3,Ev2.step hE.diag (r:=fun k m (x:Bool×List Int)=>taplineref08_sizes.l0 k t m x.1 x.2) hE3 (fun k m=>?_),I3,F3⟩
      rw [taplineref08_sizes.l0,if_pos rfl]
      rfl
theorem rsizes_ev {t:api_Types} (hS:∀d∈t.vDefs,ShD d t.vDefs.length) (hn:t.vDefs.length≤200):∃known,Ev (fun k=>taplineref08_sizes.f k t) known∧Inv t.vDefs known∧Fin t.vDefs known:=by
 have hrep:∀(n q:Nat),(List.replicate n (0:Int)).getD q 0=0:=fun n q=>by
  rw [List.getD_eq_getElem?_getD,List.getElem?_replicate]
  split<;>rfl
 obtain ⟨known,hE,I,F⟩:=rounds hS (by omega) _ (List.replicate t.vDefs.length (0:Int)) rfl ⟨by simp,fun j hj=>by rw [hrep];omega,fun _=>0,0,fun j hj h=>absurd (hrep _ _) h⟩
 obtain ⟨K,hK⟩:=hE.diag
 refine ⟨known,⟨K,fun k hk=>?_⟩,I,F⟩
 show taplineref08_sizes.f k t=_
 unfold taplineref08_sizes.f
 rw [if_pos (by omega)]
 simp only [Int.toNat_natCast]
 rw [show taplineref08_sizes.l0 k t k true _=_ from hK k hk]
 rfl
theorem iMin_low {x:Int} (h:iMin x 513≤512):iMin x 513=x:=by
 unfold iMin at*
 split
 ·next h2=>rw [if_pos h2] at h;omega
 ·rfl
theorem rsizes_good {defs : List api_Def} {known g : List Int} (hS : ∀ d ∈ defs, ShD d defs.length) (I : Inv defs known) (F : Fin defs known) (G : GoodSz defs g) : known = g := by
  obtain ⟨rk,hg⟩:=G.ex
  refine list_ext (by rw [I.len,G.len]) (fun j hj=>?_)
  rw [I.len] at hj
  obtain ⟨rk2,B,hB⟩:=I.ex
  have key:∀(R q:Nat),rk q=R→q<defs.length→known.getD q 0=g.getD q 0:=by
    intro R
    induction R using Nat.strongRecOn with
    | _ R ih =>
      intro q hR hq
      obtain ⟨g1,g2,g3,g4⟩:=hg q hq
      have hd:=hS _ (getD_mem (z:=z_api_Def) hq)
      have hch:∀c∈cont (defs.getD q z_api_Def),known.getD c.toNat 0=g.getD c.toNat 0:=fun c hc=>by
        have h6:=cont_range hd c hc
        exact ih _ (by have:=g3 c hc;omega) c.toNat rfl (by omega)
      have hin:=inner_congr hch
      by_cases h0:known.getD q 0=0
      · exfalso
        have h1:=F q hq h0
        unfold rsizeS at h1
        rw [if_neg,hin,←g4] at h1
        · omega
        · rintro ⟨e4,ha⟩
          obtain ⟨f,hf,hf0⟩:=List.any_eq_true.1 ha
          have hcm:f.vType∈cont (defs.getD q z_api_Def):=by
            rw [cont_struct e4]
            exact List.mem_map.2 ⟨f,hf,rfl⟩
          have h2:=hch _ hcm
          have h6:=cont_range hd _ hcm
          have h3:=(hg f.vType.toNat (by omega)).1
          rw [beq_iff_eq] at hf0
          rw [show known.getD f.vType.toNat 0=0 from hf0] at h2
          omega
      · obtain ⟨_,_,h3⟩:=hB q hq h0
        rw [hin,←g4] at h3
        rw [h3]
        unfold iMin
        rw [if_neg (by omega)]
  exact key (rk j) j rfl hj
theorem rsizes_conv {defs:List api_Def} {known:List Int} (I:Inv defs known) (h:∀j,j<defs.length→known.getD j 0≠0∧known.getD j 0≤512):GoodSz defs known:=by
 obtain ⟨rk,B,hB⟩:=I.ex
 refine ⟨I.len,rk,fun j hj=>?_⟩
 obtain ⟨h1,h2⟩:=h j hj
 have h3:=I.rng j hj
 obtain ⟨_,h4,h5⟩:=hB j hj h1
 refine ⟨by omega,h2,fun c hc=>(h4 c hc).2,?_⟩
 rw [h5] at h2⊢
 exact iMin_low h2
theorem rends_loop {t : api_Types} (hS : ∀ d ∈ t.vDefs, ShD d t.vDefs.length) (hn : t.vDefs.length ≤ 9223372036854775000) : ∀ (e j m : Nat) (i : Int), 0 ≤ i → i < t.vDefs.length → j + e = t.vDefs.length → e + 1 < m →
    ((taplineref08_ends.l0 t m i (j:Int)).bind fun xx1=>(match xx1 with| .inl r=>some r| .inr s1=>some false))=some (!lostS t.vDefs e (rd z_api_Def t.vDefs i)):=by
  intro e
  induction e with
  | zero =>
    intro j m i h0 h1 hj hm
    obtain ⟨m,rfl⟩:∃q,m=q+1:=⟨m-1,by omega⟩
    obtain ⟨m,rfl⟩:∃q,m=q+1:=⟨m-1,by omega⟩
    rw [taplineref08_ends.l0,if_pos (by simp;omega),if_pos ⟨h0,h1⟩]
    simp only [taplineref08_Named.f,Option.bind_some,lostS]
    show (Option.bind (if namedS _=true then _ else _) _)=_
    by_cases hnm:namedS (rd z_api_Def t.vDefs i)=true
    · rw [if_pos hnm,hnm];rfl
    · rw [if_neg hnm,if_pos ⟨h0,h1⟩,wrap_id (by omega) (by omega),taplineref08_ends.l0,if_neg (by simp;omega)]
      rw [Bool.not_eq_true] at hnm
      rw [hnm];rfl
  | succ e ih =>
    intro j m i h0 h1 hj hm
    obtain ⟨m,rfl⟩:∃q,m=q+1:=⟨m-1,by omega⟩
    rw [taplineref08_ends.l0,if_pos (by simp;omega),if_pos ⟨h0,h1⟩]
    simp only [taplineref08_Named.f,Option.bind_some,lostS]
    show (Option.bind (if namedS _=true then _ else _) _)=_
    by_cases hnm:namedS (rd z_api_Def t.vDefs i)=true
    · rw [if_pos hnm,if_pos hnm];rfl
    · rw [if_neg hnm,if_neg hnm,if_pos ⟨h0,h1⟩]
      have hk:(rd z_api_Def t.vDefs i).vKind=2∨(rd z_api_Def t.vDefs i).vKind=3:=by
        unfold namedS at hnm
        by_cases h2:(rd z_api_Def t.vDefs i).vKind=2
        · exact .inl h2
        · by_cases h3:(rd z_api_Def t.vDefs i).vKind=3
          · exact .inr h3
          · exact absurd (by simp [h2,h3]) hnm
      have hr:=(hS _ (rd_mem (z:=z_api_Def) h0 h1)).ref (by omega)
      rw [wrap_nat (show j<t.vDefs.length by omega) (by omega)]
      exact ih (j+1) m _ hr.1 hr.2 (by omega) (by omega)
theorem rends_ev {t:api_Types} (hS:∀d∈t.vDefs,ShD d t.vDefs.length) (hn:t.vDefs.length≤200) {i:Nat} (hi:i<t.vDefs.length):Ev (fun k=>taplineref08_ends.f k t (i:Int)) (!lostS t.vDefs t.vDefs.length (t.vDefs.getD i z_api_Def)):=
 ⟨t.vDefs.length + 2, fun k hk => by
  show taplineref08_ends.f k t _=_
  unfold taplineref08_ends.f
  have:=rends_loop hS (by omega) t.vDefs.length 0 k (i:Int) (by omega) (by omega) (by omega) (by omega)
  rw [rd_nat] at this
  exact this⟩
def rplacedAt (l:List Int) (N:Int):Int→List api_Field→Option Int
 |at_,[]=>some at_
 |at_,f::r=>if ((decide (f.vAt<at_))||(decide (f.vAt>N)))=true then none else rplacedAt l N (IntKind.wrap .i64 (f.vAt+rd 0 l f.vType)) r
def rplacedS (d:api_Def) (l:List Int):Bool:=match rplacedAt l d.vN 0 d.vFields with|none=>false|some e=>decide (e≤d.vN)
theorem rplaced_loop {d:api_Def} {l:List Int} (hl:d.vFields.length≤9223372036854775807) (ht:∀f∈d.vFields,0≤f.vType∧f.vType<l.length):∀(e j m:Nat) (at_:Int),j+e=d.vFields.length→e<m→
    taplineref08_placed.l0 d l m at_ (j:Int)=some (match rplacedAt l d.vN at_ (d.vFields.drop j) with|none=> .inl false|some a=> .inr a):=by
  intro e
  induction e with
  | zero =>
    intro j m at_ hj hm
    obtain ⟨m,rfl⟩:∃q,m=q+1:=⟨m-1,by omega⟩
    rw [taplineref08_placed.l0,if_neg (by simp;omega),List.drop_eq_nil_of_le (by omega)]
    rfl
  | succ e ih =>
    intro j m at_ hj hm
    obtain ⟨m,rfl⟩:∃q,m=q+1:=⟨m-1,by omega⟩
    have hlt:j<d.vFields.length:=by omega
    have hf:=ht _ (getD_mem (z:=z_api_Field) hlt)
    rw [taplineref08_placed.l0,if_pos (by simp;omega),if_pos (by omega),rd_nat,drop_getD z_api_Field hlt]
    simp only [rplacedAt]
    by_cases hc:((decide ((d.vFields.getD j z_api_Field).vAt<at_))||(decide ((d.vFields.getD j z_api_Field).vAt>d.vN)))=true
    · rw [if_pos hc,if_pos hc]
    · rw [if_neg hc,if_neg hc,if_pos hf,wrap_nat hlt hl,ih (j+1) m _ (by omega) (by omega)]
theorem rplaced_ev {d:api_Def} {l:List Int} (hl:d.vFields.length≤9223372036854775807) (ht:∀f∈d.vFields,0≤f.vType∧f.vType<l.length):Ev (fun k=>taplineref08_placed.f k d l) (rplacedS d l):=by
 refine ⟨d.vFields.length+1,fun k hk=>?_⟩
 show taplineref08_placed.f k d l=_
 unfold taplineref08_placed.f rplacedS
 rw [show taplineref08_placed.l0 d l k 0 0=_ from rplaced_loop hl ht d.vFields.length 0 k 0 (by omega) (by omega),List.drop_zero]
 cases rplacedAt l d.vN 0 d.vFields<;>rfl
theorem placed_over {l:List Int} {N:Int} (hN:0≤N):∀(fs:List api_Field) (a:Int),N<a→a≤1024→(∀f∈fs,0<rd 0 l f.vType∧rd 0 l f.vType≤512)→(match placedAt l a fs with|none=>false|some e=>decide (e≤N))=false:=by
  intro fs
  induction fs with
  |nil=>intro a h1 h2 _;simp only [placedAt];exact decide_eq_false (by omega)
  | cons f r ih =>
    intro a h1 h2 hf
    have h3:=hf f List.mem_cons_self
    simp only [placedAt]
    by_cases hc:((decide (f.vAt<a))||(decide (f.vAt>512)))=true
    · rw [if_pos hc]
    · rw [if_neg hc]
      simp only [Bool.or_eq_true,decide_eq_true_eq,not_or] at hc
      rw [wrap_id (by omega) (by omega)]
      exact ih _ (by omega) (by omega) (fun g hg=>hf g (List.mem_cons_of_mem _ hg))
theorem placed_same {l : List Int} {N : Int} (hN : 0 ≤ N) (hN2 : N ≤ 512) : ∀ (fs : List api_Field) (a : Int), 0 ≤ a → (∀ f ∈ fs, 0 < rd 0 l f.vType ∧ rd 0 l f.vType ≤ 512) →
    (match rplacedAt l N a fs with|none=>false|some e=>decide (e≤N))=(match placedAt l a fs with|none=>false|some e=>decide (e≤N)):=by
  intro fs
  induction fs with
  |nil=>intro a _ _;rfl
  | cons f r ih =>
    intro a h0 hf
    have h3:=hf f List.mem_cons_self
    simp only [placedAt,rplacedAt]
    by_cases hc:((decide (f.vAt<a))||(decide (f.vAt>N)))=true
    · rw [if_pos hc]
      by_cases hc2:((decide (f.vAt<a))||(decide (f.vAt>512)))=true
      · rw [if_pos hc2]
      · rw [if_neg hc2]
        simp only [Bool.or_eq_true,decide_eq_true_eq,not_or] at hc hc2
        rw [wrap_id (by omega) (by omega)]
        exact (placed_over hN r _ (by omega) (by omega) (fun g hg=>hf g (List.mem_cons_of_mem _ hg))).symm
    · rw [if_neg hc,if_neg]
      · simp only [Bool.or_eq_true,decide_eq_true_eq,not_or] at hc
        rw [wrap_id (by omega) (by omega)]
        exact ih _ (by omega) (fun g hg=>hf g (List.mem_cons_of_mem _ hg))
      · simp only [Bool.or_eq_true,decide_eq_true_eq,not_or] at hc⊢
        omega
theorem rplaced_same {defs:List api_Def} {l:List Int} (G:GoodSz defs l) (hS:∀d∈defs,ShD d defs.length) {d:api_Def} (hd:d∈defs) (h4:d.vKind=4):rplacedS d l=placedS d l:=by
 obtain ⟨rk,h⟩:=G.ex
 have h1:=(hS d hd).num (.inr h4)
 have h2:=(hS d hd).typ h4
 exact placed_same (by omega) h1.2 _ _ (by omega) (fun f hf => by
  have h3:=h2 f hf
  have:=h f.vType.toNat (by omega)
  exact ⟨this.1, this.2.1⟩)
theorem rseen_loop {t:api_Types} (hl:t.vDefs.length≤9223372036854775807) {i:Nat} (hi:i<t.vDefs.length):∀(e j m:Nat),j+e=i→e<m→
    taplineref08_Check.l1 t (i:Int) m (j:Int)=some (if (namedS (t.vDefs.getD i z_api_Def)&&(((t.vDefs.take i).drop j).any fun f=>strEq f.vName (t.vDefs.getD i z_api_Def).vName))=true then .inl 80 else .inr ()):=by
  intro e
  induction e with
  | zero =>
    intro j m hj hm
    obtain ⟨m,rfl⟩:∃q,m=q+1:=⟨m-1,by omega⟩
    rw [taplineref08_Check.l1,if_neg (by simp;omega),List.drop_eq_nil_of_le (by simp;omega)]
    simp
  | succ e ih =>
    intro j m hj hm
    obtain ⟨m,rfl⟩:∃q,m=q+1:=⟨m-1,by omega⟩
    have hlt:j<t.vDefs.length:=by omega
    have hd:(t.vDefs.take i).drop j=t.vDefs.getD j z_api_Def::(t.vDefs.take i).drop (j+1):=by
      rw [drop_getD z_api_Def (by simp;omega)]
      congr 1
      rw [List.getD_eq_getElem?_getD,List.getD_eq_getElem?_getD,List.getElem?_take,if_pos (by omega)]
    rw [taplineref08_Check.l1,if_pos (by simp;omega),if_pos (by omega),rd_nat,rd_nat,hd,List.any_cons]
    simp only [taplineref08_Named.f,Option.bind_some]
    rw [if_pos (fun _=>by omega),if_pos (fun _=>by omega),wrap_nat hlt hl,ih (j+1) m (by omega) (by omega)]
    show (if (namedS (t.vDefs.getD i z_api_Def)&&_)=true then _ else _)=_
    cases namedS (t.vDefs.getD i z_api_Def)<;>cases (strEq (t.vDefs.getD j z_api_Def).vName (t.vDefs.getD i z_api_Def).vName)<;>cases (((t.vDefs.take i).drop (j+1)).any fun f=>strEq f.vName (t.vDefs.getD i z_api_Def).vName)<;>rfl
theorem any_revD (l:List api_Def) (s:ByteArray):((l.map (·.vName)).reverse.any (strEq s))=l.any fun f=>strEq f.vName s:=by
 rw [List.any_reverse,List.any_map]
 congr 1
 funext f
 exact strEq_comm _ _
theorem rdefs_loop {t : api_Types} (hF : ∀ d ∈ t.vDefs, FitD d) (hl : t.vDefs.length ≤ 9223372036854775807) : ∀ (e j : Nat), j + e = t.vDefs.length →
    Ev2 (fun k m=>taplineref08_Check.l0 k t m (j:Int)) (if defsS t.vDefs.length ((t.vDefs.take j).map (·.vName)).reverse (t.vDefs.drop j)=true then .inr () else .inl 80):=by
  intro e
  induction e with
  | zero =>
    intro j hj
    refine Ev2.pure fun k m=>?_
    rw [taplineref08_Check.l0,if_neg (by simp;omega),List.drop_eq_nil_of_le (by omega)]
    rfl
  | succ e ih =>
    intro j hj
    have hlt:j<t.vDefs.length:=by omega
    have hmem:=getD_mem (z:=z_api_Def) hlt
    have hFd:=hF _ hmem
    have h1:=rshaped_ev (t:=t) hFd.len hFd.names hFd.name
    have h2:=ih (j+1) (by omega)
    have ht:((t.vDefs.take (j+1)).map (·.vName)).reverse=(t.vDefs.getD j z_api_Def).vName::((t.vDefs.take j).map (·.vName)).reverse:=by
      rw [List.take_add_one,List.map_append,List.reverse_append]
      rw [List.getD_eq_getElem?_getD,List.getElem?_eq_getElem hlt]
      rfl
    rw [ht] at h2
    rw [drop_getD z_api_Def hlt,defsS]
    refine Ev2.step h1 (r:=fun k m v1=>if (!v1)=true then (some (.inl 80)) else ((taplineref08_Check.l1 t (j:Int) k 0).bind fun xx2=>(match xx2 with| .inl r=>some (.inl r)| .inr s1=>taplineref08_Check.l0 k t m ((j+1:Nat):Int)))) ?_ (fun k m=>?_)
    · rcases Bool.eq_false_or_eq_true (shapedS (t.vDefs.getD j z_api_Def) (t.vDefs.length:Int)) with hn|hn
      · obtain ⟨K,hK⟩:=h2
        rw [hn]
        refine ⟨max K (j+1),fun k m hk hm=>?_⟩
        have h3:=rseen_loop hl hlt j 0 k (by omega) (by omega)
        rw [List.drop_zero] at h3
        simp only [Bool.not_true,Bool.false_eq_true,if_false,Bool.true_and]
        rw [show taplineref08_Check.l1 t (j:Int) k 0=_ from h3,any_revD]
        cases ha:namedS (t.vDefs.getD j z_api_Def)&&(t.vDefs.take j).any fun f=>strEq f.vName (t.vDefs.getD j z_api_Def).vName with
        |true=>simp
        |false=>simpa using hK k m (by omega) (by omega)
      · exact ⟨0,fun k m _ _=>by rw [hn];rfl⟩
    · rw [taplineref08_Check.l0,if_pos (by simp;omega),if_pos (by omega),rd_nat,wrap_nat hlt hl]
      try rfl
def CondQ (t:api_Types) (known:List Int) (q:Nat):Prop:=known.getD q 0≠0∧known.getD q 0≤512∧lostS t.vDefs t.vDefs.length (t.vDefs.getD q z_api_Def)=false∧((t.vDefs.getD q z_api_Def).vKind=4→rplacedS (t.vDefs.getD q z_api_Def) known=true)
theorem rlast_loop {t : api_Types} {known : List Int} (hF : ∀ d ∈ t.vDefs, FitD d) (hS : ∀ d ∈ t.vDefs, ShD d t.vDefs.length) (hn : t.vDefs.length ≤ 200) (hk : known.length = t.vDefs.length) : ∀ (e j : Nat), j + e = t.vDefs.length →
    ∃v,Ev2 (fun k m=>taplineref08_Check.l2 k t known m (j:Int)) v∧((v= .inr ()∧∀q,j≤q→q<t.vDefs.length→CondQ t known q)∨(v= .inl 80∧¬∀q,j≤q→q<t.vDefs.length→CondQ t known q)):=by
  intro e
  induction e with
  | zero =>
    intro j hj
    refine ⟨.inr (),Ev2.pure fun k m=>?_, .inl ⟨rfl,fun q _ _=>by omega⟩⟩
    rw [taplineref08_Check.l2,if_neg (by simp;omega)]
  | succ e ih =>
    intro j hj
    have hlt:j<t.vDefs.length:=by omega
    have hmem:=getD_mem (z:=z_api_Def) hlt
    have he:=rends_ev hS hn hlt
    obtain ⟨v,hv,hp⟩:=ih (j+1) (by omega)
    by_cases hc:CondQ t known j
    · obtain ⟨c1,c2,c3,c4⟩:=hc
      refine ⟨v,?_,?_⟩
      · obtain ⟨K1,hK1⟩:=he
        obtain ⟨K2,hK2⟩:=hv
        by_cases h4:(t.vDefs.getD j z_api_Def).vKind=4
        · obtain ⟨K3,hK3⟩:=rplaced_ev (d:=t.vDefs.getD j z_api_Def) (l:=known) (hF _ hmem).len (fun f hf=>by have:=(hS _ hmem).typ h4 f hf;rw [hk];exact this)
          refine ⟨max (max K1 K2) K3+1,fun k m hk1 hm1=>?_⟩
          obtain ⟨m,rfl⟩:∃q,m=q+1:=⟨m-1,by omega⟩
          show taplineref08_Check.l2 k t known (m+1) (j:Int)=_
          rw [taplineref08_Check.l2,if_pos (by simp;omega),if_pos (by omega),if_pos (fun _=>by omega),rd_nat,rd_nat,show taplineref08_ends.f k t (j:Int)=_ from hK1 k (by omega),c3]
          rw [show (known.getD j 0==0)=false from by simpa using c1,show decide (known.getD j 0>512)=false from decide_eq_false (by omega)]
          simp only [Bool.or_self,beq_self_eq_true,Bool.and_self,if_true,Bool.not_false,Option.bind_some,Bool.not_true,Bool.false_eq_true,if_false]
          rw [if_pos (by omega),if_pos (fun _=>by omega),show ((t.vDefs.getD j z_api_Def).vKind==4)=true from by simpa using h4]
          simp only [Bool.true_and,beq_self_eq_true,if_true]
          rw [show taplineref08_placed.f k _ known=_ from hK3 k (by omega),c4 h4]
          simp only [Option.bind_some,Bool.not_true,Bool.false_eq_true,if_false]
          rw [wrap_nat hlt (by omega)]
          exact hK2 k m (by omega) (by omega)
        · refine ⟨max K1 K2+1,fun k m hk1 hm1=>?_⟩
          obtain ⟨m,rfl⟩:∃q,m=q+1:=⟨m-1,by omega⟩
          show taplineref08_Check.l2 k t known (m+1) (j:Int)=_
          rw [taplineref08_Check.l2,if_pos (by simp;omega),if_pos (by omega),if_pos (fun _=>by omega),rd_nat,rd_nat,show taplineref08_ends.f k t (j:Int)=_ from hK1 k (by omega),c3]
          rw [show (known.getD j 0==0)=false from by simpa using c1,show decide (known.getD j 0>512)=false from decide_eq_false (by omega)]
          simp only [Bool.or_self,beq_self_eq_true,Bool.and_self,if_true,Bool.not_false,Option.bind_some,Bool.not_true,Bool.false_eq_true,if_false]
          rw [if_pos (by omega),if_pos (fun _=>by omega),show ((t.vDefs.getD j z_api_Def).vKind==4)=false from by simpa using h4]
          simp only [Bool.true_and,Bool.false_and,Bool.false_eq_true,if_false,Option.bind_some,show (false==true)=false from rfl]
          rw [wrap_nat hlt (by omega)]
          exact hK2 k m (by omega) (by omega)
      · rcases hp with ⟨a,b⟩|⟨a,b⟩
        · refine .inl ⟨a,fun q hq hq2=>?_⟩
          by_cases hqj:q=j
          · subst hqj;exact ⟨c1,c2,c3,c4⟩
          · exact b q (by omega) hq2
        · exact .inr ⟨a,fun h=>b (fun q hq hq2=>h q (by omega) hq2)⟩
    · refine ⟨.inl 80,?_, .inr ⟨rfl,fun h=>hc (h j (by omega) hlt)⟩⟩
      obtain ⟨K1,hK1⟩:=he
      by_cases c1:known.getD j 0=0
      · refine ⟨K1+1,fun k m hk1 hm1=>?_⟩
        obtain ⟨m,rfl⟩:∃q,m=q+1:=⟨m-1,by omega⟩
        show taplineref08_Check.l2 k t known (m+1) (j:Int)=_
        rw [taplineref08_Check.l2,if_pos (by simp;omega),if_pos (by omega),if_pos (fun _=>by omega),rd_nat,c1]
        rfl
      · by_cases c2:known.getD j 0≤512
        · cases c3:lostS t.vDefs t.vDefs.length (t.vDefs.getD j z_api_Def) with
          | true =>
            refine ⟨K1+1,fun k m hk1 hm1=>?_⟩
            obtain ⟨m,rfl⟩:∃q,m=q+1:=⟨m-1,by omega⟩
            show taplineref08_Check.l2 k t known (m+1) (j:Int)=_
            rw [taplineref08_Check.l2,if_pos (by simp;omega),if_pos (by omega),if_pos (fun _=>by omega),rd_nat,show taplineref08_ends.f k t (j:Int)=_ from hK1 k (by omega),c3]
            rw [show (known.getD j 0==0)=false from by simpa using c1,show decide (known.getD j 0>512)=false from decide_eq_false (by omega)]
            rfl
          | false =>
            have h4:(t.vDefs.getD j z_api_Def).vKind=4:=Classical.byContradiction fun h=>hc ⟨c1,c2,c3,fun h2=>absurd h2 h⟩
            have hpf:rplacedS (t.vDefs.getD j z_api_Def) known=false:=by
              cases hpp:rplacedS (t.vDefs.getD j z_api_Def) known with
              |false=>rfl
              |true=>exact absurd ⟨c1,c2,c3,fun _=>hpp⟩ hc
            obtain ⟨K3,hK3⟩:=rplaced_ev (d:=t.vDefs.getD j z_api_Def) (l:=known) (hF _ hmem).len (fun f hf=>by have:=(hS _ hmem).typ h4 f hf;rw [hk];exact this)
            refine ⟨max K1 K3+1,fun k m hk1 hm1=>?_⟩
            obtain ⟨m,rfl⟩:∃q,m=q+1:=⟨m-1,by omega⟩
            show taplineref08_Check.l2 k t known (m+1) (j:Int)=_
            rw [taplineref08_Check.l2,if_pos (by simp;omega),if_pos (by omega),if_pos (fun _=>by omega),rd_nat,rd_nat,show taplineref08_ends.f k t (j:Int)=_ from hK1 k (by omega),c3]
            rw [show (known.getD j 0==0)=false from by simpa using c1,show decide (known.getD j 0>512)=false from decide_eq_false (by omega)]
            simp only [Bool.or_self,beq_self_eq_true,Bool.and_self,if_true,Bool.not_false,Option.bind_some,Bool.not_true,Bool.false_eq_true,if_false]
            rw [if_pos (by omega),if_pos (fun _=>by omega),show ((t.vDefs.getD j z_api_Def).vKind==4)=true from by simpa using h4]
            simp only [Bool.true_and,beq_self_eq_true,if_true]
            rw [show taplineref08_placed.f k _ known=_ from hK3 k (by omega),hpf]
            rfl
        · refine ⟨K1+1,fun k m hk1 hm1=>?_⟩
          obtain ⟨m,rfl⟩:∃q,m=q+1:=⟨m-1,by omega⟩
          show taplineref08_Check.l2 k t known (m+1) (j:Int)=_
          rw [taplineref08_Check.l2,if_pos (by simp;omega),if_pos (by omega),if_pos (fun _=>by omega),rd_nat]
          rw [show (known.getD j 0==0)=false from by simpa using c1,show decide (known.getD j 0>512)=true from decide_eq_true (by omega)]
          rfl
theorem rcheck_iff {t : api_Types} (hF : ∀ d ∈ t.vDefs, FitD d) : (∃ l, Wf t l ∧ Ev (fun k => taplineref08_sizes.f k t) l ∧ Ev (fun k => taplineref08_Check.f k t) 0) ∨ ((∀ l, ¬ Wf t l) ∧ Ev (fun k => taplineref08_Check.f k t) 80) := by
  by_cases hn:(t.vDefs.length:Int)>200
  · refine .inr ⟨fun l W=>by have:=W.few;omega,Ev.pure fun k=>?_⟩
    unfold taplineref08_Check.f
    rw [if_pos (by simpa using hn)]
  · have hn:t.vDefs.length≤200:=by omega
    have hcond:¬decide ((t.vDefs.length:Int)>200)=true:=by simp;omega
    obtain ⟨K,hK⟩:=(rdefs_loop hF (by omega) t.vDefs.length 0 (by omega)).diag
    simp only [List.take_zero,List.map_nil,List.reverse_nil,List.drop_zero] at hK
    cases hd:defsS t.vDefs.length [] t.vDefs with
    | false =>
      rw [hd] at hK
      refine .inr ⟨fun l W=>(by have:=W.defs;rw [hd] at this;cases this),⟨K,fun k hk=>?_⟩⟩
      show taplineref08_Check.f k t=_
      unfold taplineref08_Check.f
      rw [if_neg hcond,show taplineref08_Check.l0 k t k 0=_ from hK k hk]
      rfl
    | true =>
      rw [hd] at hK
      have hS:=defs_of _ _ hd
      obtain ⟨known,hsz,I,F⟩:=rsizes_ev hS hn
      obtain ⟨v,hv,hp⟩:=rlast_loop hF hS hn I.len t.vDefs.length 0 (by omega)
      obtain ⟨K2,hK2⟩:=hv.diag
      obtain ⟨K3,hK3⟩:=hsz
      rcases hp with ⟨rfl,hp⟩|⟨rfl,hp⟩
      · have hg:=rsizes_conv I (fun j hj=>⟨(hp j (by omega) hj).1,(hp j (by omega) hj).2.1⟩)
        have hidx:∀d∈t.vDefs,∃q,q<t.vDefs.length∧t.vDefs.getD q z_api_Def=d:=fun d hd=>by
          obtain ⟨q,hq,e⟩:=List.mem_iff_getElem.1 hd
          exact ⟨q,hq,by rw [List.getD_eq_getElem?_getD,List.getElem?_eq_getElem hq];exact e⟩
        refine .inl ⟨known,⟨hn,hd,hg,fun d hd=>?_,fun d hd h4=>?_⟩,⟨K3,hK3⟩,⟨max (max K K2) K3,fun k hk=>?_⟩⟩
        · obtain ⟨q,hq,rfl⟩:=hidx d hd
          exact (hp q (by omega) hq).2.2.1
        · rw [←rplaced_same hg hS hd h4]
          obtain ⟨q,hq,rfl⟩:=hidx d hd
          exact (hp q (by omega) hq).2.2.2 h4
        · show taplineref08_Check.f k t=_
          unfold taplineref08_Check.f
          rw [if_neg hcond,show taplineref08_Check.l0 k t k 0=_ from hK k (by omega)]
          simp only [if_true,Option.bind_some]
          rw [show taplineref08_sizes.f k t=_ from hK3 k (by omega)]
          simp only [Option.bind_some]
          rw [show taplineref08_Check.l2 k t known k 0=_ from hK2 k (by omega)]
          rfl
      · refine .inr ⟨fun l W=>?_,⟨max (max K K2) K3,fun k hk=>?_⟩⟩
        · have hkl:=rsizes_good hS I F W.sz
          subst hkl
          refine hp fun q _ hq=>?_
          obtain ⟨rk,h⟩:=W.sz.ex
          have hm:=getD_mem (z:=z_api_Def) hq
          refine ⟨by have:=(h q hq).1;omega,(h q hq).2.1,W.ends _ hm,fun h4=>?_⟩
          rw [rplaced_same W.sz hS hm h4]
          exact W.placed _ hm h4
        · show taplineref08_Check.f k t=_
          unfold taplineref08_Check.f
          rw [if_neg hcond,show taplineref08_Check.l0 k t k 0=_ from hK k (by omega)]
          simp only [if_true,Option.bind_some]
          rw [show taplineref08_sizes.f k t=_ from hK3 k (by omega)]
          simp only [Option.bind_some]
          rw [show taplineref08_Check.l2 k t known k 0=_ from hK2 k (by omega)]
          rfl
section
variable {t:api_Types} {l:List Int}
end
section
variable {t:api_Types} {l:List Int}
end
section
variable {t:api_Types} {l:List Int}
end
def dAt (t:api_Types) (i:Nat):api_Def:=t.vDefs.getD i z_api_Def
noncomputable def tx (t:api_Types) (i:Nat):ByteArray:=by
 classical exact if h:∃s,Ev (fun k=>ctf_text.f k t (i:Int)) s then Classical.choose h else ByteArray.empty
section
variable {t u:api_Types} {l m:List Int}
theorem dAt_mem {i:Nat} (hi:i<t.vDefs.length):dAt t i∈t.vDefs:=getD_mem hi
def bs (s:ByteArray):List UInt8:=s.data.toList
end
def kids (d:api_Def):List Int:=if d.vKind=2∨d.vKind=3∨d.vKind=6 then [d.vRef] else if d.vKind=4 then d.vFields.map (·.vType) else []
inductive Rch (t:api_Types) (i:Nat):Nat→Prop
 |refl:Rch t i i
 |step {k:Nat} {c:Int} (h:Rch t i k) (hc:c∈kids (dAt t k)):Rch t i c.toNat
theorem kids_ref {d:api_Def} (h:d.vKind=2∨d.vKind=3∨d.vKind=6):kids d=[d.vRef]:=by unfold kids;rw [if_pos h]
theorem kids_struct {d:api_Def} (h:d.vKind=4):kids d=d.vFields.map (·.vType):=by unfold kids;rw [if_neg (by omega),if_pos h]
theorem kids_none {d:api_Def} (h:¬(d.vKind=2∨d.vKind=3∨d.vKind=6)) (h4:d.vKind≠4):kids d=[]:=by unfold kids;rw [if_neg h,if_neg h4]
section
variable {t:api_Types} {l:List Int}
theorem kids_range (W:Wf t l) {i:Nat} (hi:i<t.vDefs.length) {c:Int} (hc:c∈kids (dAt t i)):c=((c.toNat:Nat):Int)∧c.toNat<t.vDefs.length:=by
 have hd:=W.sh _ (dAt_mem hi)
 by_cases h:(dAt t i).vKind=2∨(dAt t i).vKind=3∨(dAt t i).vKind=6
 ·rw [kids_ref h] at hc
  have:=hd.ref h
  rw [List.mem_singleton.1 hc]
  omega
 ·by_cases h4:(dAt t i).vKind=4
  ·rw [kids_struct h4] at hc
   obtain ⟨f,hf,rfl⟩:=List.mem_map.1 hc
   have:=hd.typ h4 f hf
   omega
  ·rw [kids_none h h4] at hc;cases hc
theorem Rch.lt (W:Wf t l) {i k:Nat} (hi:i<t.vDefs.length) (h:Rch t i k):k<t.vDefs.length:=by
 induction h with
 |refl=>exact hi
 |step h hc ih=>exact (kids_range W ih hc).2
theorem Rch.trans {i j k:Nat} (h:Rch t i j) (g:Rch t j k):Rch t i k:=by
 induction g with
 |refl=>exact h
 |step g hc ih=>exact .step ih hc
def keysL (m:List (Int×Bool)):List Int:=m.map (·.1)
def AllT (m:List (Int×Bool)):Prop:=∀p∈m,p.2=true
structure Seen (t:api_Types) (from_:Nat→Prop) (m m':List (Int×Bool)):Prop where
 all:AllT m'
 mono:∀y∈keysL m,y∈keysL m'
 new:∀y∈keysL m',y∉keysL m→∃k:Nat,y=(k:Int)∧(∃i,from_ i∧Rch t i k)∧∀c∈kids (dAt t k),c∈keysL m'
theorem Seen.rfl' {from_:Nat→Prop} {m:List (Int×Bool)} (h:AllT m):Seen t from_ m m:=⟨h,fun _ h=>h,fun y h1 h2=>absurd h1 h2⟩
theorem Seen.then {F G H:Nat→Prop} {a b c:List (Int×Bool)} (h:Seen t F a b) (g:Seen t G b c) (hF:∀i,F i→H i) (hG:∀i,G i→H i):Seen t H a c:=by
 refine ⟨g.all,fun y hy=>g.mono y (h.mono y hy),fun y hy hn=>?_⟩
 by_cases hb:y∈keysL b
 ·obtain ⟨k,e,⟨i,h1,h2⟩,h3⟩:=h.new y hb hn
  exact ⟨k,e,⟨i,hF i h1,h2⟩,fun c hc=>g.mono c (h3 c hc)⟩
 ·obtain ⟨k,e,⟨i,h1,h2⟩,h3⟩:=g.new y hy hb
  exact ⟨k,e,⟨i,hG i h1,h2⟩,h3⟩
end
noncomputable def tell (p:Prop):Bool:=by classical exact decide p
theorem tell_t {p:Prop} (h:p):tell p=true:=by unfold tell;simp [h]
theorem tell_f {p:Prop} (h:¬p):tell p=false:=by unfold tell;simp [h]
theorem tell_iff {p:Prop}:tell p=true↔p:=by unfold tell;simp
theorem tell_of {p:Prop} {b:Bool} (h:b=true↔p):b=tell p:=by
 by_cases hp:p
 ·rw [tell_t hp];exact h.2 hp
 ·rw [tell_f hp]
  cases b with
  |false=>rfl
  |true=>exact absurd (h.1 rfl) hp
theorem tell_congr {p q:Prop} (h:p↔q):tell p=tell q:=tell_of (tell_iff.trans h)
def fAt (d:api_Def) (j:Nat):api_Field:=d.vFields.getD j z_api_Field
def AlikeF (t:api_Types) (u:api_Types) (k:Int) (f g:api_Field):Prop:=f.vName=g.vName∧f.vAt=g.vAt∧(k=4→tx t f.vType.toNat=tx u g.vType.toNat)
structure AlikeS (t:api_Types) (d:api_Def) (u:api_Types) (g:api_Def):Prop where
 kind:d.vKind=g.vKind
 name:d.vName=g.vName
 int:d.vInt.vSize=g.vInt.vSize∧d.vInt.vSigned=g.vInt.vSigned
 num:d.vN=g.vN
 ref:d.vKind=2∨d.vKind=3∨d.vKind=6→tx t d.vRef.toNat=tx u g.vRef.toNat
 len:d.vFields.length=g.vFields.length
 fld:∀j,j<d.vFields.length→AlikeF t u d.vKind (fAt d j) (fAt g j)
section
variable {t u:api_Types} {l m:List Int}
end
section
variable {t:api_Types} {l:List Int}
structure RInv (t:api_Types) (fr:List Nat) (is:List Bool) (todo:List Int):Prop where
 len:is.length=t.vDefs.length
 mark:∀k,is.getD k false=true→∃i∈fr,Rch t i k
 todo_in:∀x∈todo,x=((x.toNat:Nat):Int)∧x.toNat<t.vDefs.length∧∃i∈fr,Rch t i x.toNat
 closed:∀k,is.getD k false=true→∀c∈kids (dAt t k),is.getD c.toNat false=true∨c∈todo
 start:∀i∈fr,is.getD i false=true∨((i:Nat):Int)∈todo
end
end Go.Proofs.YtfjppgobidjndaaDoor
namespace Go.Proofs.YtfjppgobidjndaaDoor
open Go.RowKit Go.M
end Go.Proofs.YtfjppgobidjndaaDoor
/-taplineref08.Reach:a list that is cut at its front and appended to. -/
namespace Go.Proofs.YtfjppgobidjndaaDoor
open Go.RowKit Go.M
/-- a row of numbers of one's own, that may begin within its block -/
def RowA (h:View) (xs:List Int) (A:Option Addr) (ob:Option Nat) (c:Nat) (cs:List Value):Prop:=∃pre body,cs=pre++body∧OffA A ob pre.length c∧RowOk (Kd.int .i64) h xs ob xs.length c body
theorem RowA.cap {h:View} {xs:List Int} {A:Option Addr} {ob:Option Nat} {c:Nat} {cs:List Value} (ho:RowA h xs A ob c cs):xs.length≤c:=by
 obtain ⟨pre,body,_,_,h⟩:=ho;exact h.le
theorem RowA.view {h h':View} {xs:List Int} {A:Option Addr} {ob:Option Nat} {c:Nat} {cs:List Value} (ho:RowA h xs A ob c cs) (hs:Sub h h'):RowA h' xs A ob c cs:=by
 obtain ⟨pre,body,h1,h2,h3⟩:=ho;exact ⟨pre,body,h1,h2,h3.view hs⟩
section
variable {P:Program} {ops:Array Oper} {Q:Exit→Act→World→Prop} {l:List Value} {df:List Deferred} {w:World} {os:List Oper} {M:List Nat} {h0 h:View} {w0:World} {bs:List Res} {dst:Tmp} {ty:TypeId} {pos:String} {after:Array Edge}
end
set_option maxRecDepth 20000
set_option maxHeartbeats 4000000
end Go.Proofs.YtfjppgobidjndaaDoor
namespace Go.Proofs.YtfjppgobidjndaaDoor
open Go.RowKit Go.M
def slices_EqualFunc_api_Def_api_Def_api_Def_api_Def.l0 (a0:List api_Def) (a1:List api_Def) (a2:(api_Def→api_Def→Option Bool)):Nat→Int→Option ((Bool)⊕(Unit))
 |0,_=>none
 |m+1,y1_0=>if (decide (y1_0<(a0.length:Int)))=true then (if 0≤y1_0∧y1_0<a0.length then (if 0≤y1_0∧y1_0<a1.length then ((a2 (rd z_api_Def a0 y1_0) (rd z_api_Def a1 y1_0)).bind fun v1=>(if (!v1)=true then (some (.inl false)) else (slices_EqualFunc_api_Def_api_Def_api_Def_api_Def.l0 a0 a1 a2 m (IntKind.wrap .i64 (y1_0+1))))) else none) else none) else (some (.inr ()))
def slices_EqualFunc_api_Def_api_Def_api_Def_api_Def.f (k:Nat) (a0:List api_Def) (a1:List api_Def) (a2:api_Def→api_Def→Option Bool):Option (Bool):=if ((a0.length:Int) !=(a1.length:Int))=true then (some false) else ((slices_EqualFunc_api_Def_api_Def_api_Def_api_Def.l0 a0 a1 a2 k 0).bind fun xx1=>(match xx1 with| .inl r=>some r| .inr s1=>some true))
def slices_Equal_api_Field_api_Field.l0 (a0:List api_Field) (a1:List api_Field):Nat→Int→Option ((Bool)⊕(Unit))
 |0,_=>none
 |m+1,y1_0=>if (decide (y1_0<(a0.length:Int)))=true then (if 0≤y1_0∧y1_0<a0.length then (if 0≤y1_0∧y1_0<a1.length then (if (!((strEq ((rd z_api_Field a0 y1_0).vName) ((rd z_api_Field a1 y1_0).vName))&&(((rd z_api_Field a0 y1_0).vType==(rd z_api_Field a1 y1_0).vType)&&(((rd z_api_Field a0 y1_0).vAt==(rd z_api_Field a1 y1_0).vAt)&&true))))=true then (some (.inl false)) else (slices_Equal_api_Field_api_Field.l0 a0 a1 m (IntKind.wrap .i64 (y1_0+1)))) else none) else none) else (some (.inr ()))
def slices_Equal_api_Field_api_Field.f (k:Nat) (a0:List api_Field) (a1:List api_Field):Option (Bool):=if ((a0.length:Int) !=(a1.length:Int))=true then (some false) else ((slices_Equal_api_Field_api_Field.l0 a0 a1 k 0).bind fun xx1=>(match xx1 with| .inl r=>some r| .inr s1=>some true))
def ctf_Same_1.f (k:Nat) (a0:api_Def) (a1:api_Def):Option (Bool):=(if (true&&((((((a0.vKind==a1.vKind)&&(strEq a0.vName a1.vName))&&((a0.vInt.vSize==a1.vInt.vSize)&&((a0.vInt.vSigned==a1.vInt.vSigned)&&true)))&&(a0.vRef==a1.vRef))&&(a0.vN==a1.vN))==true))=true then slices_Equal_api_Field_api_Field.f k a0.vFields a1.vFields else some false).bind fun v1=>(some ((((((a0.vKind==a1.vKind)&&(strEq a0.vName a1.vName))&&((a0.vInt.vSize==a1.vInt.vSize)&&((a0.vInt.vSigned==a1.vInt.vSigned)&&true)))&&(a0.vRef==a1.vRef))&&(a0.vN==a1.vN))&&v1))
def ctf_Same.f (k:Nat) (a0:api_Types) (a1:api_Types):Option (Bool):=(slices_EqualFunc_api_Def_api_Def_api_Def_api_Def.f k a0.vDefs a1.vDefs (fun z0 z1=>ctf_Same_1.f k z0 z1)).bind fun v1=>(some v1)
section
variable {t u:api_Types} {l lu:List Int}
end
theorem sameFields_l0 (a b:List api_Field):∀(m:Nat) (y:Int),taplineref08_SameFields.l0 a b m y=slices_Equal_api_Field_api_Field.l0 a b m y
 |0,_=>rfl
 |m+1,y=>by rw [taplineref08_SameFields.l0,slices_Equal_api_Field_api_Field.l0,sameFields_l0 a b m]
theorem sameFields_eq (k:Nat) (a b:List api_Field):taplineref08_SameFields.f k a b=slices_Equal_api_Field_api_Field.f k a b:=by
 unfold taplineref08_SameFields.f slices_Equal_api_Field_api_Field.f
 rw [sameFields_l0]
 split
 ·rfl
 ·cases slices_Equal_api_Field_api_Field.l0 a b k 0 with
  |none=>rfl
  |some x=>cases x<;>rfl
theorem sameDef_eq (k:Nat) (a b:api_Def):taplineref08_SameDef.f k a b=ctf_Same_1.f k a b:=by
 unfold taplineref08_SameDef.f ctf_Same_1.f
 rw [sameFields_eq]
theorem same_l0 (k:Nat) (t u:api_Types):∀(m:Nat) (y:Int),taplineref08_Same.l0 k t u m y=slices_EqualFunc_api_Def_api_Def_api_Def_api_Def.l0 t.vDefs u.vDefs (fun z0 z1=>ctf_Same_1.f k z0 z1) m y
 |0,_=>rfl
 |m+1,y=>by rw [taplineref08_Same.l0,slices_EqualFunc_api_Def_api_Def_api_Def_api_Def.l0,same_l0 k t u m,sameDef_eq]
theorem same_eq (k:Nat) (t u:api_Types):taplineref08_Same.f k t u=ctf_Same.f k t u:=by
 unfold taplineref08_Same.f ctf_Same.f slices_EqualFunc_api_Def_api_Def_api_Def_api_Def.f
 simp only [same_l0]
 split
 ·rfl
 ·cases slices_EqualFunc_api_Def_api_Def_api_Def_api_Def.l0 t.vDefs u.vDefs (fun z0 z1=>ctf_Same_1.f k z0 z1) k 0 with
  |none=>rfl
  |some x=>cases x<;>rfl
def feqS (f g:api_Field):Bool:=(strEq f.vName g.vName)&&((f.vType==g.vType)&&((f.vAt==g.vAt)&&true))
theorem feqS_refl (f:api_Field):feqS f f=true:=by unfold feqS;rw [strEq_iff.2 rfl];simp
theorem flds_loop {a b : List api_Field} (hl : a.length ≤ 9223372036854775807) (hab : a.length = b.length) : ∀ (e j m : Nat), j + e = a.length → e < m →
    slices_Equal_api_Field_api_Field.l0 a b m (j:Int)=some (if tell (∀i,j≤i→i<a.length→feqS (a.getD i z_api_Field) (b.getD i z_api_Field)=true)=true then .inr () else .inl false):=by
  intro e
  induction e with
  | zero =>
    intro j m hj hm
    obtain ⟨m,rfl⟩:∃q,m=q+1:=⟨m-1,by omega⟩
    rw [slices_Equal_api_Field_api_Field.l0,if_neg (by simp;omega),if_pos (tell_t (fun i h1 h2=>by omega))]
  | succ e ih =>
    intro j m hj hm
    obtain ⟨m,rfl⟩:∃q,m=q+1:=⟨m-1,by omega⟩
    have hlt:j<a.length:=by omega
    rw [slices_Equal_api_Field_api_Field.l0,if_pos (by simp;omega),if_pos (by omega),if_pos (by omega),rd_nat,rd_nat,wrap_nat hlt hl,ih (j+1) m (by omega) (by omega)]
    show (if (!feqS (a.getD j z_api_Field) (b.getD j z_api_Field))=true then _ else _)=_
    by_cases hq:feqS (a.getD j z_api_Field) (b.getD j z_api_Field)=true
    · rw [hq,if_neg (by simp),tell_congr (p:=∀i,j+1≤i→i<a.length→feqS (a.getD i z_api_Field) (b.getD i z_api_Field)=true) (q:=∀i,j≤i→i<a.length→feqS (a.getD i z_api_Field) (b.getD i z_api_Field)=true)]
      exact ⟨fun h i h1 h2 => by
        by_cases e:i=j
        · subst e;exact hq
        · exact h i (by omega) h2, fun h i h1 h2 => h i (by omega) h2⟩
    · rw [tell_f (p:=∀i,j≤i→i<a.length→feqS (a.getD i z_api_Field) (b.getD i z_api_Field)=true) (fun h=>hq (h j (Nat.le_refl _) hlt)),if_pos (by simpa using hq)]
      rfl
theorem flds_ev {a b:List api_Field} (hl:a.length≤9223372036854775807):Ev (fun k=>slices_Equal_api_Field_api_Field.f k a b) (tell (a.length=b.length∧∀i,i<a.length→feqS (a.getD i z_api_Field) (b.getD i z_api_Field)=true)):=by
 by_cases hab:a.length=b.length
 ·refine ⟨a.length+1,fun k hk=>?_⟩
  show slices_Equal_api_Field_api_Field.f k a b=_
  unfold slices_Equal_api_Field_api_Field.f
  rw [if_neg (by simp;omega),show slices_Equal_api_Field_api_Field.l0 a b k 0=_ from flds_loop hl hab a.length 0 k (by omega) (by omega)]
  rw [tell_congr (p:=∀i,0≤i→i<a.length→feqS (a.getD i z_api_Field) (b.getD i z_api_Field)=true) (q:=a.length=b.length∧∀i,i<a.length→feqS (a.getD i z_api_Field) (b.getD i z_api_Field)=true) ⟨fun h=>⟨hab,fun i hi=>h i (by omega) hi⟩,fun h i _ hi=>h.2 i hi⟩]
  generalize tell (a.length=b.length∧∀i,i<a.length→feqS (a.getD i z_api_Field) (b.getD i z_api_Field)=true)=x
  cases x<;>rfl
 ·refine Ev.pure fun k=>?_
  unfold slices_Equal_api_Field_api_Field.f
  rw [if_pos (by simp;omega),tell_f (fun h=>hab h.1)]
def headS (a b:api_Def):Bool:=((((a.vKind==b.vKind)&&(strEq a.vName b.vName))&&((a.vInt.vSize==b.vInt.vSize)&&((a.vInt.vSigned==b.vInt.vSigned)&&true)))&&(a.vRef==b.vRef))&&(a.vN==b.vN)
def SameD (a b:api_Def):Prop:=headS a b=true∧a.vFields.length=b.vFields.length∧∀i,i<a.vFields.length→feqS (a.vFields.getD i z_api_Field) (b.vFields.getD i z_api_Field)=true
theorem SameD.refl (a:api_Def):SameD a a:=⟨by unfold headS;rw [strEq_iff.2 rfl];simp,rfl,fun i _=>feqS_refl _⟩
theorem sameD_ev {a b:api_Def} (hl:a.vFields.length≤9223372036854775807):Ev (fun k=>ctf_Same_1.f k a b) (tell (SameD a b)):=by
  obtain ⟨K,hK⟩:=flds_ev (a:=a.vFields) (b:=b.vFields) hl
  refine ⟨K,fun k hk=>?_⟩
  show ctf_Same_1.f k a b=_
  unfold ctf_Same_1.f
  show ((if (true&&(headS a b==true))=true then _ else _:Option Bool).bind fun v1=>some (headS a b&&v1))=_
  cases hh:headS a b with
  | true =>
    rw [if_pos (show (true&&(true==true))=true from rfl),show slices_Equal_api_Field_api_Field.f k a.vFields b.vFields=_ from hK k hk]
    exact congrArg some (tell_congr ⟨fun h=>⟨hh,h⟩,fun h=>h.2⟩)
  | false =>
    rw [tell_f (fun h:SameD a b=>by rw [SameD,hh] at h;cases h.1)]
    rfl
theorem eqfuncD_loop {a b : List api_Def} {p : Nat → api_Def → api_Def → Option Bool} {q : api_Def → api_Def → Prop} (hl : a.length ≤ 9223372036854775807) (hab : a.length = b.length)
    (hp:∀j,j<a.length→Ev (fun k=>p k (a.getD j z_api_Def) (b.getD j z_api_Def)) (tell (q (a.getD j z_api_Def) (b.getD j z_api_Def)))):∀(e j:Nat),j+e=a.length→
    Ev2 (fun k m=>slices_EqualFunc_api_Def_api_Def_api_Def_api_Def.l0 a b (p k) m (j:Int)) (if tell (∀i,j≤i→i<a.length→q (a.getD i z_api_Def) (b.getD i z_api_Def))=true then .inr () else .inl false):=by
  intro e
  induction e with
  | zero =>
    intro j hj
    refine Ev2.pure fun k m=>?_
    rw [slices_EqualFunc_api_Def_api_Def_api_Def_api_Def.l0,if_neg (by simp;omega),if_pos (tell_t (fun i h1 h2=>by omega))]
  | succ e ih =>
    intro j hj
    have hlt:j<a.length:=by omega
    have h2:=ih (j+1) (by omega)
    refine Ev2.step (hp j hlt) (r:=fun k m v1=>if (!v1)=true then (some (.inl false)) else (slices_EqualFunc_api_Def_api_Def_api_Def_api_Def.l0 a b (p k) m ((j+1:Nat):Int))) ?_ (fun k m=>?_)
    · by_cases hq:q (a.getD j z_api_Def) (b.getD j z_api_Def)
      · rw [tell_t hq]
        obtain ⟨K,hK⟩:=h2
        refine ⟨K,fun k m hk hm=>?_⟩
        simp only [Bool.not_true,Bool.false_eq_true,if_false]
        rw [show slices_EqualFunc_api_Def_api_Def_api_Def_api_Def.l0 a b (p k) m ((j+1:Nat):Int)=_ from hK k m hk hm]
        congr 2
        rw [tell_congr (p:=∀i,j+1≤i→i<a.length→q (a.getD i z_api_Def) (b.getD i z_api_Def)) (q:=∀i,j≤i→i<a.length→q (a.getD i z_api_Def) (b.getD i z_api_Def))]
        exact ⟨fun h i h1 h2 => by
          by_cases e:i=j
          · subst e;exact hq
          · exact h i (by omega) h2, fun h i h1 h2 => h i (by omega) h2⟩
      · rw [tell_f hq,if_neg (by rw [tell_f (fun h=>hq (h j (Nat.le_refl _) hlt))];simp)]
        exact ⟨0,fun k m _ _=>rfl⟩
    · rw [slices_EqualFunc_api_Def_api_Def_api_Def_api_Def.l0,if_pos (by simp;omega),if_pos (by omega),if_pos (by omega),rd_nat,rd_nat,wrap_nat hlt hl]
theorem eqfuncD_ev {a b:List api_Def} {p:Nat→api_Def→api_Def→Option Bool} {q:api_Def→api_Def→Prop} (hl:a.length≤9223372036854775807)
  (hp:a.length=b.length→∀j,j<a.length→Ev (fun k=>p k (a.getD j z_api_Def) (b.getD j z_api_Def)) (tell (q (a.getD j z_api_Def) (b.getD j z_api_Def)))):
  Ev (fun k=>slices_EqualFunc_api_Def_api_Def_api_Def_api_Def.f k a b (p k)) (tell (a.length=b.length∧∀i,i<a.length→q (a.getD i z_api_Def) (b.getD i z_api_Def))):=by
 by_cases hab:a.length=b.length
 ·obtain ⟨K,hK⟩:=(eqfuncD_loop hl hab (hp hab) a.length 0 (by omega)).diag
  refine ⟨K,fun k hk=>?_⟩
  show slices_EqualFunc_api_Def_api_Def_api_Def_api_Def.f k a b (p k)=_
  unfold slices_EqualFunc_api_Def_api_Def_api_Def_api_Def.f
  rw [if_neg (by simp;omega),show slices_EqualFunc_api_Def_api_Def_api_Def_api_Def.l0 a b (p k) k 0=_ from hK k hk]
  rw [tell_congr (p:=∀i,0≤i→i<a.length→q (a.getD i z_api_Def) (b.getD i z_api_Def)) (q:=a.length=b.length∧∀i,i<a.length→q (a.getD i z_api_Def) (b.getD i z_api_Def)) ⟨fun h=>⟨hab,fun i hi=>h i (by omega) hi⟩,fun h i _ hi=>h.2 i hi⟩]
  generalize tell (a.length=b.length∧∀i,i<a.length→q (a.getD i z_api_Def) (b.getD i z_api_Def))=x
  cases x<;>rfl
 ·refine Ev.pure fun k=>?_
  unfold slices_EqualFunc_api_Def_api_Def_api_Def_api_Def.f
  rw [if_pos (by simp;omega),tell_f (fun h=>hab h.1)]
theorem same_ev {t u:api_Types} (hF:FitT t):Ev (fun k=>ctf_Same.f k t u) (tell (t.vDefs.length=u.vDefs.length∧∀i,i<t.vDefs.length→SameD (t.vDefs.getD i z_api_Def) (u.vDefs.getD i z_api_Def))):=by
 obtain ⟨K,hK⟩:=eqfuncD_ev (a:=t.vDefs) (b:=u.vDefs) (p:=fun k z0 z1=>ctf_Same_1.f k z0 z1) (q:=SameD) hF.1 (fun _ j hj=>sameD_ev (hF.2 _ (getD_mem hj)).len)
 refine ⟨K,fun k hk=>?_⟩
 show ctf_Same.f k t u=_
 unfold ctf_Same.f
 rw [show slices_EqualFunc_api_Def_api_Def_api_Def_api_Def.f k t.vDefs u.vDefs (fun z0 z1=>ctf_Same_1.f k z0 z1)=_ from hK k hk]
 rfl
end Go.Proofs.YtfjppgobidjndaaDoor
set_option maxRecDepth 20000
namespace Go.Proofs.YtfjppgobidjndaaDoor
open Go.RowKit Go.M
def encS (s:ByteArray):List Int:=encI (s.size:Int)++bytesOf s
def encF (f:api_Field):List Int:=encS f.vName++(encI f.vType++encI f.vAt)
def encL {α:Type} (one:α→List Int) (l:List α):List Int:=encI (l.length:Int)++l.flatMap one
def encB (b:Bool):List Int:=[if b=true then 1 else 0]
def encD (d:api_Def):List Int:=encI d.vKind++(encS d.vName++(encI d.vInt.vSize++(encB d.vInt.vSigned++(encI d.vRef++(encI d.vN++encL encF d.vFields)))))
def headL:List Int:=[67,84,70,1]
def encT (t:api_Types):List Int:=headL++encL encD t.vDefs
def WordsF (f:api_Field):Prop:=I64 f.vType∧I64 f.vAt
def WordsD (d:api_Def):Prop:=I64 d.vKind∧I64 d.vInt.vSize∧I64 d.vRef∧I64 d.vN∧∀f∈d.vFields,WordsF f
theorem put_word {x:Int} (h:I64 x):∃u:Nat,u=zig x∧u<2^64∧(if (decide (x<0))=true then (some (iNot .u64 (iShl .u64 (IntKind.wrap .u64 x) 1))) else (some (iShl .u64 (IntKind.wrap .u64 x) 1)):Option Int)=some (u:Int):=by
 refine ⟨zig x,rfl,zig_lt h,?_⟩
 have h64:(2:Nat)^64=18446744073709551616:=Nat.eq_of_beq_eq_true rfl
 have hz:=zig_lt h
 unfold I64 at h
 have hshl:iShl .u64 (IntKind.wrap .u64 x) 1=((2*x)%18446744073709551616):=by
  show IntKind.wrap .u64 (IntKind.wrap .u64 x*2^(min (1:Int).toNat 64))=_
  rw [show (2:Int)^(min (1:Int).toNat 64)=2 from rfl,wrapU64,wrapU64]
  omega
 rw [hshl]
 by_cases hx:x<0
 ·rw [if_pos (decide_eq_true hx)]
  obtain ⟨n,hn⟩:∃n:Nat,(2*x)%18446744073709551616=(n:Int):=⟨((2*x)%18446744073709551616).toNat,by omega⟩
  rw [hn,not_u64 (by rw [h64];omega),h64]
  unfold zig
  rw [if_pos hx]
  congr 1
  omega
 ·rw [if_neg (by simpa using hx)]
  unfold zig
  rw [if_neg hx]
  congr 1
  omega
theorem put_loop : ∀ (n u : Nat) (b : List Int) (m : Nat), u < 128 ^ (n + 1) → n + 1 ≤ m → b.length + n + 1 ≤ 4294967296 →
    ∃(w:Nat) (i:List Int),ctf_put.l0 m (u:Int) b=some ((w:Int),b++i)∧i++[(w:Int)]=enc7 n u∧w<128∧i.length≤n
  |n,u,b,0,hu,hm,hb=>by omega
  | 0, u, b, m + 1, hu, hm, hb => by
    refine ⟨u,[],?_,rfl,by omega,by simp⟩
    rw [ctf_put.l0,if_neg (by simp;omega),List.append_nil]
  | n + 1, u, b, m + 1, hu, hm, hb => by
    by_cases h:u<128
    · refine ⟨u,[],?_,?_,h,by simp⟩
      · rw [ctf_put.l0,if_neg (by simp;omega),List.append_nil]
      · rw [enc7,if_pos h];rfl
    · have hd:u/128<128^(n+1):=by
        rw [Nat.pow_succ] at hu
        exact Nat.div_lt_of_lt_mul (by omega)
      have e:iOr .u8 (IntKind.wrap .u8 (u:Int)) 128=((u%128+128:Nat):Int):=by
        rw [wrapU8,show (u:Int)%256=((u%256:Nat):Int) by omega,or_u8 (by omega)]
        omega
      obtain ⟨w,i,h1,h2,h3,h4⟩:=put_loop n (u/128) (b++[((u%128+128:Nat):Int)]) m hd (by omega) (by simp;omega)
      refine ⟨w,((u%128+128:Nat):Int)::i,?_,?_,h3,by simp;omega⟩
      · rw [ctf_put.l0,if_pos (by simp;omega),if_pos (by omega),e,show (7:Int)=((7:Nat):Int) from rfl,shr_u64 u 7 (by omega)]
        rw [show u/2^7=u/128 from rfl,h1,List.append_assoc]
        rfl
      · rw [enc7,if_neg h,←h2]
        rfl
theorem put_ok {k:Nat} {b:List Int} {x:Int} (hk:10≤k) (hx:I64 x) (hb:b.length+10≤4294967296):ctf_put.f k b x=some (b++encI x):=by
 obtain ⟨u,hu,hlt,he⟩:=put_word hx
 obtain ⟨w,i,h1,h2,h3,h4⟩:=put_loop 9 u b k (Nat.lt_of_lt_of_le hlt (Nat.le_of_ble_eq_true rfl)) (by omega) (by omega)
 show ctf_put.f k b x=_
 unfold ctf_put.f
 rw [he]
 simp only [Option.bind_some]
 rw [h1]
 simp only [Option.bind_some]
 rw [if_pos (by simp;omega),wrapU8,show (w:Int)%256=(w:Int) by omega,List.append_assoc,h2,hu]
 rfl
theorem i64_nat {n:Nat} (h:n≤9223372036854775807):I64 (n:Int):=by unfold I64;omega
theorem encS_len (s:ByteArray):(encS s).length≤10+s.size:=by
 unfold encS
 have:=(encI_len (s.size:Int)).1
 rw [List.length_append,bytesOf_length]
 omega
theorem puts_ok {k:Nat} {b:List Int} {s:ByteArray} (hk:10≤k) (hb:b.length+10+s.size≤4294967296):ctf_putString.f k b s=some (b++encS s):=by
 show ctf_putString.f k b s=_
 unfold ctf_putString.f
 have:=(encI_len (s.size:Int)).1
 rw [put_ok hk (i64_nat (by omega)) (by omega)]
 simp only [Option.bind_some]
 rw [if_pos (by rw [List.length_append];omega)]
 unfold encS
 rw [List.append_assoc]
def SmallF (f:api_Field):Prop:=WordsF f∧f.vName.size≤31
def SmallD (d:api_Def):Prop:=WordsD d∧d.vName.size≤31∧d.vFields.length≤32∧∀f∈d.vFields,SmallF f
theorem encF_len {f:api_Field} (h:SmallF f):(encF f).length≤61:=by
 unfold encF
 have h1:=encS_len f.vName
 have h2:=(encI_len f.vType).1
 have h3:=(encI_len f.vAt).1
 have:=h.2
 simp only [List.length_append]
 omega
theorem putField_ok {k:Nat} {b:List Int} {f:api_Field} (hk:10≤k) (h:SmallF f) (hb:b.length+61≤4294967296):ctf_putField.f k b f=some (b++encF f):=by
 show ctf_putField.f k b f=_
 unfold ctf_putField.f
 have h1:=encS_len f.vName
 have h2:=(encI_len f.vType).1
 have:=h.2
 rw [puts_ok hk (by omega)]
 simp only [Option.bind_some]
 rw [put_ok hk h.1.1 (by simp only [List.length_append];omega)]
 simp only [Option.bind_some]
 rw [put_ok hk h.1.2 (by simp only [List.length_append];omega)]
 simp only [Option.bind_some]
 unfold encF
 simp only [List.append_assoc]
theorem putFields_loop {k:Nat} (hk:10≤k) {l:List api_Field} (hl:l.length≤32) (hs:∀f∈l,SmallF f):∀(e j m:Nat) (b:List Int),j+e=l.length→e<m→b.length+61*e≤4294967296→
    ctf_putList_api_Field.l0 k l m (j:Int) b=some (b++(l.drop j).flatMap encF)
  |e,j,0,b,hj,hm,hb=>by omega
  | 0, j, m + 1, b, hj, hm, hb => by
    rw [ctf_putList_api_Field.l0,if_neg (by simp;omega),List.drop_eq_nil_of_le (by omega)]
    simp
  | e + 1, j, m + 1, b, hj, hm, hb => by
    have hlt:j<l.length:=by omega
    have hf:=hs _ (getD_mem (z:=z_api_Field) hlt)
    have hlen:=encF_len hf
    rw [ctf_putList_api_Field.l0,if_pos (by simp;omega),if_pos (by omega),rd_nat,putField_ok hk hf (by omega),wrap_nat hlt (by omega)]
    simp only [Option.bind_some]
    rw [putFields_loop hk hl hs e (j+1) m _ (by omega) (by omega) (by rw [List.length_append];omega),drop_getD z_api_Field hlt,List.flatMap_cons,List.append_assoc]
theorem putFields_ok {k:Nat} {b:List Int} {l:List api_Field} (hk:40≤k) (hl:l.length≤32) (hs:∀f∈l,SmallF f) (hb:b.length+1962≤4294967296):ctf_putList_api_Field.f k b l=some (b++encL encF l):=by
 show ctf_putList_api_Field.f k b l=_
 unfold ctf_putList_api_Field.f
 have h1:=(encI_len (l.length:Int)).1
 rw [put_ok (by omega) (i64_nat (by omega)) (by omega)]
 simp only [Option.bind_some]
 have:=putFields_loop (k:=k) (by omega) hl hs l.length 0 k (b++encI (l.length:Int)) (by omega) (by omega) (by rw [List.length_append];omega)
 rw [show ((0:Nat):Int)=0 from rfl] at this
 rw [this]
 unfold encL
 simp
theorem flat_len {α:Type} {one:α→List Int} {n:Nat}:∀(l:List α),(∀x∈l,(one x).length≤n)→(l.flatMap one).length≤n*l.length
  |[],_=>by simp
  | x :: l, h => by
    have h1:=h x List.mem_cons_self
    have h2:=flat_len l (fun y hy=>h y (List.mem_cons_of_mem _ hy))
    simp only [List.flatMap_cons,List.length_append,List.length_cons,Nat.mul_add]
    omega
theorem encFs_len {l:List api_Field} (hl:l.length≤32) (hs:∀f∈l,SmallF f):(encL encF l).length≤1962:=by
 unfold encL
 have h1:=(encI_len (l.length:Int)).1
 have h2:=flat_len (one:=encF) l (fun f hf=>encF_len (hs f hf))
 rw [List.length_append]
 omega
theorem encD_len {d:api_Def} (h:SmallD d):(encD d).length≤2044:=by
 have h1:=(encI_len d.vKind).1
 have h2:=encS_len d.vName
 have h3:=(encI_len d.vInt.vSize).1
 have h4:=(encI_len d.vRef).1
 have h5:=(encI_len d.vN).1
 have h6:=encFs_len h.2.2.1 h.2.2.2
 have:=h.2.1
 unfold encD encB
 simp only [List.length_append,List.length_cons,List.length_nil]
 omega
theorem putDef_ok {k:Nat} {b:List Int} {d:api_Def} (hk:40≤k) (h:SmallD d) (hb:b.length+2044≤4294967296):ctf_putDef.f k b d=some (b++encD d):=by
 have h1:=(encI_len d.vKind).1
 have h2:=encS_len d.vName
 have h3:=(encI_len d.vInt.vSize).1
 have h4:=(encI_len d.vRef).1
 have h5:=(encI_len d.vN).1
 have hn:=h.2.1
 obtain ⟨hW,_,hl,hs⟩:=h
 show ctf_putDef.f k b d=_
 unfold ctf_putDef.f
 rw [put_ok (by omega) hW.1 (by omega)]
 simp only [Option.bind_some]
 rw [puts_ok (by omega) (by simp only [List.length_append];omega)]
 simp only [Option.bind_some]
 rw [put_ok (by omega) hW.2.1 (by simp only [List.length_append];omega)]
 simp only [Option.bind_some]
 have hB:∀c:List Int,c.length+1≤4294967296→((if d.vInt.vSigned=true then (if c.length+1≤4294967296 then (some (c++([1]:List Int))) else none) else (if c.length+1≤4294967296 then (some (c++([0]:List Int))) else none)):Option (List Int))=some (c++encB d.vInt.vSigned):=fun c hc=>by
  unfold encB
  rw [if_pos hc,if_pos hc]
  split<;>simp_all
 rw [hB _ (by simp only [List.length_append];omega)]
 simp only [Option.bind_some]
 have hBl:(encB d.vInt.vSigned).length=1:=rfl
 rw [put_ok (by omega) hW.2.2.1 (by simp only [List.length_append];omega)]
 simp only [Option.bind_some]
 rw [put_ok (by omega) hW.2.2.2.1 (by simp only [List.length_append];omega)]
 simp only [Option.bind_some]
 rw [putFields_ok hk hl hs (by simp only [List.length_append];omega)]
 simp only [Option.bind_some]
 unfold encD
 simp only [List.append_assoc]
theorem putDefs_loop {k:Nat} (hk:40≤k) {l:List api_Def} (hl:l.length≤200) (hs:∀d∈l,SmallD d):∀(e j m:Nat) (b:List Int),j+e=l.length→e<m→b.length+2044*e≤4294967296→
    ctf_putList_api_Def.l0 k l m (j:Int) b=some (b++(l.drop j).flatMap encD)
  |e,j,0,b,hj,hm,hb=>by omega
  | 0, j, m + 1, b, hj, hm, hb => by
    rw [ctf_putList_api_Def.l0,if_neg (by simp;omega),List.drop_eq_nil_of_le (by omega)]
    simp
  | e + 1, j, m + 1, b, hj, hm, hb => by
    have hlt:j<l.length:=by omega
    have hf:=hs _ (getD_mem (z:=z_api_Def) hlt)
    have hlen:=encD_len hf
    rw [ctf_putList_api_Def.l0,if_pos (by simp;omega),if_pos (by omega),rd_nat,putDef_ok hk hf (by omega),wrap_nat hlt (by omega)]
    simp only [Option.bind_some]
    rw [putDefs_loop hk hl hs e (j+1) m _ (by omega) (by omega) (by rw [List.length_append];omega),drop_getD z_api_Def hlt,List.flatMap_cons,List.append_assoc]
theorem putDefs_ok {k:Nat} {l:List api_Def} (hk:300≤k) (hl:l.length≤200) (hs:∀d∈l,SmallD d):ctf_putList_api_Def.f k ([67,84,70,1]:List Int) l=some (headL++encL encD l):=by
 show ctf_putList_api_Def.f k ([67,84,70,1]:List Int) l=_
 unfold ctf_putList_api_Def.f
 have h1:=(encI_len (l.length:Int)).1
 have h4:([67,84,70,1]:List Int).length=4:=rfl
 rw [put_ok (by omega) (i64_nat (by omega)) (by rw [h4];omega)]
 simp only [Option.bind_some]
 have:=putDefs_loop (k:=k) (by omega) hl hs l.length 0 k (([67,84,70,1]:List Int)++encI (l.length:Int)) (by omega) (by omega) (by rw [List.length_append,h4];omega)
 rw [show ((0:Nat):Int)=0 from rfl] at this
 rw [this]
 unfold encL headL
 simp only [Option.bind_some,List.drop_zero,List.append_assoc]
end Go.Proofs.YtfjppgobidjndaaDoor
