/- Parts of a proof, merged by program: F3 Q1 Q2 Q3 Q4 C0 Q5 Q6 N1 N2 Q14 Q15 Q16 Q17 Q19 Q20 Q21 Q22 Q26 Q23 N3 Q8. The walks (each function once) and the plain laws; no condition of their own. -/
import Derived.Test.YtfjppgobidjndaaGreatDoorMrg5
import Derived.Test.YtfjppgobidjndaaGreatDoorCards
import Derived.Test.YtfjppgobidjndaaGreatDoorTie
import Derived.WalkKit
import Derived.ProofKit
import Derived.OpenShut
import Derived.Deep.DeepHandedRow
import Derived.Lib.LaidTab
set_option linter.unusedVariables false
set_option linter.unusedSimpArgs false
set_option maxRecDepth 20000
set_option maxHeartbeats 4000000
namespace Go.Proofs.YtfjppgobidjndaaGreatDoor
open Go.RowKit Go.M
def jL.f (k:Nat) (a0:aQ) (a1:aQ) (a2:List ByteArray):Option (Bool):=(kU.f k).bind fun v1=>((lg.f k a0).bind fun v2=>((jg.f k a0 a1).bind fun v3=>((fV.f k a0 a2).bind fun v4=>((iU.f k a0).bind fun v5=>((dK.f k a0 a1).bind fun v6=>((bH.f k a0 a2).bind fun v7=>((if (true&&((((v2.2.2 !=v5.vE)||(v3.2.2.2 !=v6.vE))||(v4.2.2 !=v7.vE))==false))=true then eu.f k v2.1 v5.vT else some false).bind fun v8=>((if (true&&(((((v2.2.2 !=v5.vE)||(v3.2.2.2 !=v6.vE))||(v4.2.2 !=v7.vE))||(!v8))==false))=true then eu.f k v3.1 v6.vT else some false).bind fun v9=>((if (true&&((((((v2.2.2 !=v5.vE)||(v3.2.2.2 !=v6.vE))||(v4.2.2 !=v7.vE))||(!v8))||(!v9))==false))=true then eu.f k v4.1 v7.vT else some false).bind fun v10=>(if ((((((v2.2.2 !=v5.vE)||(v3.2.2.2 !=v6.vE))||(v4.2.2 !=v7.vE))||(!v8))||(!v9))||(!v10))=true then (some false) else ((if (true&&(v1==true))=true then cZ.f k v2.2.1 v5.vA else some false).bind fun v11=>((if (true&&((v1&&v11)==true))=true then cZ.f k v3.2.1 v6.vA else some false).bind fun v12=>((if (true&&(((v1&&v11)&&v12)==true))=true then cZ.f k v3.2.2.1 v6.vB else some false).bind fun v13=>((if (true&&((((v1&&v11)&&v12)&&v13)==true))=true then cZ.f k v4.2.1 v7.vA else some false).bind fun v14=>(some ((((v1&&v11)&&v12)&&v13)&&v14))))))))))))))))
theorem jL.calls (k:Nat) (a0:aQ) (a1:aQ) (a2:List ByteArray) (bQ:Option Addr) (bT:Nat) (iM:Option Addr) (iO:Nat) (lV:Option Addr) (mG:Nat) {h0:View} {w0:World} (hv:lS h0 w0) (ht:Tab w0) (fK:Rd bI h0 bQ a0.au) (iF:a0.au.length≤bT) (kX:Rd bI h0 iM a1.au) (pK:a1.au.length≤iO) (pY:Rd Kd.str h0 lV a2) (vY:a2.length≤mG) {r:Bool} (H:jL.f k a0 a1 a2=some r):Calls Tryz.prog 3 #[Value.agg #[vL bQ a0.au.length bT],Value.agg #[vL iM a1.au.length iO],vL lV a2.length mG] w0 (fun e w1=>e= .returned (vB r)∧Ext w0 w1):=by
 unfold jL.f at H
 have HS:St [] h0 w0 h0 [] w0:=St.init hv
 go_enter Tryz.func3,Tryz.ntmps3
 refine Al<|Ao<|dF X X (eF (cs:=#[vL bQ a0.au.length bT]) X X) ?_
 rintro w1 _ hE1 ⟨b1,rfl,ge1,hb1⟩
 have HS1:=HS.new hE1 ge1 hb1
 refine dF X X (eF (cs:=#[vL iM a1.au.length iO]) X X) ?_
 rintro w2 _ hE2 ⟨b2,rfl,ge2,hb2⟩
 have HS2:=HS1.new hE2 ge2 hb2
 refine rs (vB false) (aG X) ?_
 try simp only [sc0,sc1]
 refine aB<|ay<|Al<|Ao ?_
 obtain ⟨v1,H1,H⟩:=bn H
 refine run_eq (v:=vB v1) X X (bC Tryz.call4 X X (kU.calls k HS2.sees (ht.s HS2) H1)) ?_
 intro w3 hE3
 have HS3:=HS2.step hE3
 refine rs (vB v1) (aG X) ?_
 try simp only [sc0,sc1]
 refine aB<|ay<|Al<|Ao<|rs (Value.agg #[vL bQ a0.au.length bT]) (aT (n:=1) (vs:=[vL bQ a0.au.length bT]) X AI (HS3.look 1 X) AD X X) ?_
 obtain ⟨v2,H2,H⟩:=bn H
 refine dF X X (iQ Tryz.call5 X (jX (h:=h0) (R:=(fun hx u=>∃(iZ:Option Addr) (jG:Nat),∃(qc:Option Addr) (uF:Nat),u=Value.tuple #[Value.agg #[vL iZ v2.1.au.length jG],vL qc v2.2.1.length uF,vI v2.2.2]∧v2.1.au.length≤jG∧Rd bI hx iZ v2.1.au∧v2.2.1.length≤uF∧Rd (Kd.int .i64) hx qc v2.2.1)) (Ext.rfl' w3) ((lg.calls k a0 bQ bT HS3.sees (ht.s HS3) fK iF H2).mono ?_)) X) ?_
 ·rintro _ _ ⟨h1,iZ,jG,qc,uF,rfl,qK,jK,Fz,pU,g,ss,x⟩
  exact ⟨h1,_,X,⟨iZ,jG,qc,uF,X,qK,jK,Fz,pU⟩,g,ss,x⟩
 rintro w4 _ hE4 ⟨h1,⟨iZ,jG,qc,uF,rfl,qK,jK,Fz,pU⟩,gr1,se1⟩
 have HS4:=HS3.view hE4 gr1 se1
 refine rs (Value.tuple #[Value.agg #[vL iZ v2.1.au.length jG],vL qc v2.2.1.length uF,vI v2.2.2]) (aO X)<|rs (Value.agg #[vL iZ v2.1.au.length jG]) (gV X X)<|aK (by simp only [sc0,sc1];rfl) ?_
 refine rs (vL qc v2.2.1.length uF) (gV X X)<|rs (vI v2.2.2) (gV X X)<|dF X X (dO (cs:=#[vL none 0 0]) Bp X) ?_
 rintro w5 _ hE5 ⟨b3,rfl,ge3,hb3⟩
 have HS5:=HS4.new hE5 ge3 hb3
 refine gJ (i:=0) (cs:=[vL none 0 0]) (cs':=[vL iZ v2.1.au.length jG]) (vs:=[vL iZ v2.1.au.length jG]) (bs':=[(some b3, .cells #[vL iZ v2.1.au.length jG] 24 (0,0)),(some b2, .cells #[vL iM a1.au.length iO] 24 (0,0)),(some b1, .cells #[vL bQ a0.au.length bT] 24 (0,0))]) X X AD X X (by decide) X HS5 X (Ax X) X X ?_
 intro w6 HS6
 refine aK (by simp only [sc0,sc1];rfl) ?_
 refine rs (vL qc v2.2.1.length uF) (aG X)<|rs (vI v2.2.2) (aG X) ?_
 try simp only [sc0,sc1]
 refine aB<|ay<|Al<|Ao<|rs (Value.agg #[vL bQ a0.au.length bT]) (aT (n:=1) (vs:=[vL bQ a0.au.length bT]) X AI (HS6.look 2 X) AD X X)<|rs (Value.agg #[vL iM a1.au.length iO]) (aT (n:=1) (vs:=[vL iM a1.au.length iO]) X AI (HS6.look 1 X) AD X X) ?_
 obtain ⟨v3,H3,H⟩:=bn H
 refine dF X X (iQ Tryz.call6 X (jX (h:=h1) (R:=(fun hx u=>∃(fQ:Option Addr) (gY:Nat),∃(qy:Option Addr) (uG:Nat),∃(qA:Option Addr) (uH:Nat),u=Value.tuple #[Value.agg #[vL fQ v3.1.au.length gY],vL qy v3.2.1.length uG,vL qA v3.2.2.1.length uH,vI v3.2.2.2]∧v3.1.au.length≤gY∧Rd bI hx fQ v3.1.au∧v3.2.1.length≤uG∧Rd (Kd.int .i64) hx qy v3.2.1∧v3.2.2.1.length≤uH∧Rd (Kd.int .i64) hx qA v3.2.2.1)) (Ext.rfl' w6) ((jg.calls k a0 a1 bQ bT iM iO HS6.sees (ht.s HS6) (fK.ext HS6.sub) iF (kX.ext HS6.sub) pK H3).mono ?_)) X) ?_
 ·rintro _ _ ⟨h1,fQ,gY,qy,uG,qA,uH,rfl,nJ,iy,FB,qO,FC,qP,g,ss,x⟩
  exact ⟨h1,_,X,⟨fQ,gY,qy,uG,qA,uH,X,nJ,iy,FB,qO,FC,qP⟩,g,ss,x⟩
 rintro w7 _ hE6 ⟨h2,⟨fQ,gY,qy,uG,qA,uH,rfl,nJ,iy,FB,qO,FC,qP⟩,gr2,se2⟩
 have HS7:=HS6.view hE6 gr2 se2
 replace jK:Rd bI h2 iZ v2.1.au:=jK.ext gr2.1
 replace pU:Rd (Kd.int .i64) h2 qc v2.2.1:=pU.ext gr2.1
 refine rs (Value.tuple #[Value.agg #[vL fQ v3.1.au.length gY],vL qy v3.2.1.length uG,vL qA v3.2.2.1.length uH,vI v3.2.2.2]) (aO X)<|aK (by simp only [sc0,sc1];rfl) ?_
 refine rs (Value.agg #[vL fQ v3.1.au.length gY]) (gV X X)<|rs (vL qy v3.2.1.length uG) (gV X X)<|rs (vL qA v3.2.2.1.length uH) (gV X X)<|rs (vI v3.2.2.2) (gV X X)<|aK (by simp only [sc0,sc1];rfl) ?_
 refine dF X X (dO (cs:=#[vL none 0 0]) Bp X) ?_
 rintro w8 _ hE7 ⟨b4,rfl,ge4,hb4⟩
 have HS8:=HS7.new hE7 ge4 hb4
 refine gJ (i:=0) (cs:=[vL none 0 0]) (cs':=[vL fQ v3.1.au.length gY]) (vs:=[vL fQ v3.1.au.length gY]) (bs':=[(some b4, .cells #[vL fQ v3.1.au.length gY] 24 (0,0)),(some b3, .cells #[vL iZ v2.1.au.length jG] 24 (0,0)),(some b2, .cells #[vL iM a1.au.length iO] 24 (0,0)),(some b1, .cells #[vL bQ a0.au.length bT] 24 (0,0))]) X X AD X X (by decide) X HS8 X (Ax X) X X ?_
 intro w9 HS9
 refine rs (vL qy v3.2.1.length uG) (aG X)<|rs (vL qA v3.2.2.1.length uH) (aG X)<|aK (by simp only [sc0,sc1];rfl) ?_
 refine rs (vI v3.2.2.2) (aG X) ?_
 try simp only [sc0,sc1]
 refine aB<|ay<|Al<|Ao<|rs (Value.agg #[vL bQ a0.au.length bT]) (aT (n:=1) (vs:=[vL bQ a0.au.length bT]) X AI (HS9.look 3 X) AD X X)<|rs (vL lV a2.length mG) (aO X) ?_
 obtain ⟨v4,H4,H⟩:=bn H
 refine dF X X (iQ Tryz.call7 X (jX (h:=h2) (R:=(fun hx u=>∃(jh:Option Addr) (jA:Nat),∃(qQ:Option Addr) (uI:Nat),u=Value.tuple #[Value.agg #[vL jh v4.1.au.length jA],vL qQ v4.2.1.length uI,vI v4.2.2]∧v4.1.au.length≤jA∧Rd bI hx jh v4.1.au∧v4.2.1.length≤uI∧Rd (Kd.int .i64) hx qQ v4.2.1)) (Ext.rfl' w9) ((fV.calls k a0 a2 bQ bT lV mG HS9.sees (fK.ext HS9.sub) iF (pY.ext HS9.sub) vY H4).mono ?_)) X) ?_
 ·rintro _ _ ⟨h1,jh,jA,qQ,uI,rfl,vC,nM,FD,uf,g,ss,x⟩
  exact ⟨h1,_,X,⟨jh,jA,qQ,uI,X,vC,nM,FD,uf⟩,g,ss,x⟩
 rintro w10 _ hE8 ⟨h3,⟨jh,jA,qQ,uI,rfl,vC,nM,FD,uf⟩,gr3,se3⟩
 have kF:=HS9.view hE8 gr3 se3
 replace jK:Rd bI h3 iZ v2.1.au:=jK.ext gr3.1
 replace pU:Rd (Kd.int .i64) h3 qc v2.2.1:=pU.ext gr3.1
 replace iy:Rd bI h3 fQ v3.1.au:=iy.ext gr3.1
 replace qO:Rd (Kd.int .i64) h3 qy v3.2.1:=qO.ext gr3.1
 replace qP:Rd (Kd.int .i64) h3 qA v3.2.2.1:=qP.ext gr3.1
 refine rs (Value.tuple #[Value.agg #[vL jh v4.1.au.length jA],vL qQ v4.2.1.length uI,vI v4.2.2]) (aO X)<|aK (by simp only [sc0,sc1];rfl) ?_
 refine rs (Value.agg #[vL jh v4.1.au.length jA]) (gV X X)<|rs (vL qQ v4.2.1.length uI) (gV X X)<|rs (vI v4.2.2) (gV X X)<|dF X X (dO (cs:=#[vL none 0 0]) Bp X) ?_
 rintro w11 _ hE9 ⟨b5,rfl,ge5,hb5⟩
 have oC:=kF.new hE9 ge5 hb5
 refine aK (by simp only [sc0,sc1];rfl) ?_
 refine gJ (i:=0) (cs:=[vL none 0 0]) (cs':=[vL jh v4.1.au.length jA]) (vs:=[vL jh v4.1.au.length jA]) (bs':=[(some b5, .cells #[vL jh v4.1.au.length jA] 24 (0,0)),(some b4, .cells #[vL fQ v3.1.au.length gY] 24 (0,0)),(some b3, .cells #[vL iZ v2.1.au.length jG] 24 (0,0)),(some b2, .cells #[vL iM a1.au.length iO] 24 (0,0)),(some b1, .cells #[vL bQ a0.au.length bT] 24 (0,0))]) X X AD X X (by decide) X oC X (Ax X) X X ?_
 intro w12 mW
 refine rs (vL qQ v4.2.1.length uI) (aG X)<|rs (vI v4.2.2) (aG X) ?_
 try simp only [sc0,sc1]
 refine aB<|ay<|Al<|Ao<|rs (Value.agg #[vL bQ a0.au.length bT]) (aT (n:=1) (vs:=[vL bQ a0.au.length bT]) X AI (mW.look 4 X) AD X X) ?_
 obtain ⟨v5,H5,H⟩:=bn H
 refine dF X X (iQ Tryz.call8 X (jX (h:=h3) (R:=(fun hx u=>∃(mQ:Option Addr) (nR:Nat),∃(qB:Option Addr) (rW:Nat),∃(tC:Option Addr) (vM:Nat),u=Value.agg #[vL mQ v5.vT.au.length nR,vL qB v5.vA.length rW,vL tC v5.vB.length vM,vI v5.vE]∧v5.vT.au.length≤nR∧Rd bI hx mQ v5.vT.au∧v5.vA.length≤rW∧Rd (Kd.int .i64) hx qB v5.vA∧v5.vB.length≤vM∧Rd (Kd.int .i64) hx tC v5.vB)) (Ext.rfl' w12) ((iU.calls k a0 bQ bT mW.sees (fK.ext mW.sub) iF H5).mono ?_)) X) ?_
 ·rintro _ _ ⟨h1,mQ,nR,qB,rW,tC,vM,rfl,yM,qN,FH,wY,JM,yN,g,ss,x⟩
  exact ⟨h1,_,X,⟨mQ,nR,qB,rW,tC,vM,X,yM,qN,FH,wY,JM,yN⟩,g,ss,x⟩
 rintro w13 _ NI ⟨h4,⟨mQ,nR,qB,rW,tC,vM,rfl,yM,qN,FH,wY,JM,yN⟩,gr4,se4⟩
 have qx:=mW.view NI gr4 se4
 replace jK:Rd bI h4 iZ v2.1.au:=jK.ext gr4.1
 replace pU:Rd (Kd.int .i64) h4 qc v2.2.1:=pU.ext gr4.1
 replace iy:Rd bI h4 fQ v3.1.au:=iy.ext gr4.1
 replace qO:Rd (Kd.int .i64) h4 qy v3.2.1:=qO.ext gr4.1
 replace qP:Rd (Kd.int .i64) h4 qA v3.2.2.1:=qP.ext gr4.1
 replace nM:Rd bI h4 jh v4.1.au:=nM.ext gr4.1
 replace uf:Rd (Kd.int .i64) h4 qQ v4.2.1:=uf.ext gr4.1
 refine dF X X (dO (cs:=#[vL none 0 0,vL none 0 0,vL none 0 0,vI 0]) BS X) ?_
 rintro w14 _ Qg ⟨b6,rfl,ge6,hb6⟩
 have ru:=qx.new Qg ge6 hb6
 refine gJ (i:=0) (cs:=[vL none 0 0,vL none 0 0,vL none 0 0,vI 0]) (cs':=[vL mQ v5.vT.au.length nR,vL qB v5.vA.length rW,vL tC v5.vB.length vM,vI v5.vE]) (vs:=[vL mQ v5.vT.au.length nR,vL qB v5.vA.length rW,vL tC v5.vB.length vM,vI v5.vE]) (bs':=[(some b6, .cells #[vL mQ v5.vT.au.length nR,vL qB v5.vA.length rW,vL tC v5.vB.length vM,vI v5.vE] 35 (0,0)),(some b5, .cells #[vL jh v4.1.au.length jA] 24 (0,0)),(some b4, .cells #[vL fQ v3.1.au.length gY] 24 (0,0)),(some b3, .cells #[vL iZ v2.1.au.length jG] 24 (0,0)),(some b2, .cells #[vL iM a1.au.length iO] 24 (0,0)),(some b1, .cells #[vL bQ a0.au.length bT] 24 (0,0))]) X X BE X X (by decide) X ru X (Ax X) X X ?_
 intro w15 sW
 try simp only [sc0,sc1]
 refine aB<|ay<|Al<|Ao<|rs (Value.agg #[vL bQ a0.au.length bT]) (aT (n:=1) (vs:=[vL bQ a0.au.length bT]) X AI (sW.look 5 X) AD X X)<|rs (Value.agg #[vL iM a1.au.length iO]) (aT (n:=1) (vs:=[vL iM a1.au.length iO]) X AI (sW.look 4 X) AD X X) ?_
 obtain ⟨v6,H6,H⟩:=bn H
 refine dF X X (iQ Tryz.call9 X (jX (h:=h4) (R:=(fun hx u=>∃(kL:Option Addr) (mV:Nat),∃(rX:Option Addr) (tH:Nat),∃(rY:Option Addr) (tJ:Nat),u=Value.agg #[vL kL v6.vT.au.length mV,vL rX v6.vA.length tH,vL rY v6.vB.length tJ,vI v6.vE]∧v6.vT.au.length≤mV∧Rd bI hx kL v6.vT.au∧v6.vA.length≤tH∧Rd (Kd.int .i64) hx rX v6.vA∧v6.vB.length≤tJ∧Rd (Kd.int .i64) hx rY v6.vB)) (Ext.rfl' w15) ((dK.calls k a0 a1 bQ bT iM iO sW.sees (fK.ext sW.sub) iF (kX.ext sW.sub) pK H6).mono ?_)) X) ?_
 ·rintro _ _ ⟨h1,kL,mV,rX,tH,rY,tJ,rfl,vF,kW,FI,Ad,FK,Ae,g,ss,x⟩
  exact ⟨h1,_,X,⟨kL,mV,rX,tH,rY,tJ,X,vF,kW,FI,Ad,FK,Ae⟩,g,ss,x⟩
 rintro w16 _ U1 ⟨h5,⟨kL,mV,rX,tH,rY,tJ,rfl,vF,kW,FI,Ad,FK,Ae⟩,gr5,se5⟩
 have sH:=sW.view U1 gr5 se5
 replace jK:Rd bI h5 iZ v2.1.au:=jK.ext gr5.1
 replace pU:Rd (Kd.int .i64) h5 qc v2.2.1:=pU.ext gr5.1
 replace iy:Rd bI h5 fQ v3.1.au:=iy.ext gr5.1
 replace qO:Rd (Kd.int .i64) h5 qy v3.2.1:=qO.ext gr5.1
 replace qP:Rd (Kd.int .i64) h5 qA v3.2.2.1:=qP.ext gr5.1
 replace nM:Rd bI h5 jh v4.1.au:=nM.ext gr5.1
 replace uf:Rd (Kd.int .i64) h5 qQ v4.2.1:=uf.ext gr5.1
 replace qN:Rd bI h5 mQ v5.vT.au:=qN.ext gr5.1
 replace wY:Rd (Kd.int .i64) h5 qB v5.vA:=wY.ext gr5.1
 replace yN:Rd (Kd.int .i64) h5 tC v5.vB:=yN.ext gr5.1
 refine dF X X (dO (cs:=#[vL none 0 0,vL none 0 0,vL none 0 0,vI 0]) BS X) ?_
 rintro w17 _ U2 ⟨b7,rfl,ge7,hb7⟩
 have uQ:=sH.new U2 ge7 hb7
 refine aK (by simp only [sc0,sc1];rfl) ?_
 refine gJ (i:=0) (cs:=[vL none 0 0,vL none 0 0,vL none 0 0,vI 0]) (cs':=[vL kL v6.vT.au.length mV,vL rX v6.vA.length tH,vL rY v6.vB.length tJ,vI v6.vE]) (vs:=[vL kL v6.vT.au.length mV,vL rX v6.vA.length tH,vL rY v6.vB.length tJ,vI v6.vE]) (bs':=[(some b7, .cells #[vL kL v6.vT.au.length mV,vL rX v6.vA.length tH,vL rY v6.vB.length tJ,vI v6.vE] 35 (0,0)),(some b6, .cells #[vL mQ v5.vT.au.length nR,vL qB v5.vA.length rW,vL tC v5.vB.length vM,vI v5.vE] 35 (0,0)),(some b5, .cells #[vL jh v4.1.au.length jA] 24 (0,0)),(some b4, .cells #[vL fQ v3.1.au.length gY] 24 (0,0)),(some b3, .cells #[vL iZ v2.1.au.length jG] 24 (0,0)),(some b2, .cells #[vL iM a1.au.length iO] 24 (0,0)),(some b1, .cells #[vL bQ a0.au.length bT] 24 (0,0))]) X X BE X X (by decide) X uQ X (Ax X) X X ?_
 intro w18 xU
 try simp only [sc0,sc1]
 refine aB<|ay<|Al<|Ao<|rs (Value.agg #[vL bQ a0.au.length bT]) (aT (n:=1) (vs:=[vL bQ a0.au.length bT]) X AI (xU.look 6 X) AD X X)<|rs (vL lV a2.length mG) (aO X) ?_
 obtain ⟨v7,H7,H⟩:=bn H
 refine dF X X (iQ Tryz.call10 X (jX (h:=h5) (R:=(fun hx u=>∃(kZ:Option Addr) (nH:Nat),∃(uJ:Option Addr) (uK:Nat),∃(yC:Option Addr) (yD:Nat),u=Value.agg #[vL kZ v7.vT.au.length nH,vL uJ v7.vA.length uK,vL yC v7.vB.length yD,vI v7.vE]∧v7.vT.au.length≤nH∧Rd bI hx kZ v7.vT.au∧v7.vA.length≤uK∧Rd (Kd.int .i64) hx uJ v7.vA∧v7.vB.length≤yD∧Rd (Kd.int .i64) hx yC v7.vB)) (Ext.rfl' w18) ((bH.calls k a0 a2 bQ bT lV mG xU.sees (fK.ext xU.sub) iF (pY.ext xU.sub) vY H7).mono ?_)) X) ?_
 ·rintro _ _ ⟨h1,kZ,nH,uJ,uK,yC,yD,rfl,vG,l7,FM,FN,JO,JQ,g,ss,x⟩
  exact ⟨h1,_,X,⟨kZ,nH,uJ,uK,yC,yD,X,vG,l7,FM,FN,JO,JQ⟩,g,ss,x⟩
 rintro w19 _ U3 ⟨h6,⟨kZ,nH,uJ,uK,yC,yD,rfl,vG,l7,FM,FN,JO,JQ⟩,gr6,se6⟩
 have zM:=xU.view U3 gr6 se6
 replace jK:Rd bI h6 iZ v2.1.au:=jK.ext gr6.1
 replace pU:Rd (Kd.int .i64) h6 qc v2.2.1:=pU.ext gr6.1
 replace iy:Rd bI h6 fQ v3.1.au:=iy.ext gr6.1
 replace qO:Rd (Kd.int .i64) h6 qy v3.2.1:=qO.ext gr6.1
 replace qP:Rd (Kd.int .i64) h6 qA v3.2.2.1:=qP.ext gr6.1
 replace nM:Rd bI h6 jh v4.1.au:=nM.ext gr6.1
 replace uf:Rd (Kd.int .i64) h6 qQ v4.2.1:=uf.ext gr6.1
 replace qN:Rd bI h6 mQ v5.vT.au:=qN.ext gr6.1
 replace wY:Rd (Kd.int .i64) h6 qB v5.vA:=wY.ext gr6.1
 replace yN:Rd (Kd.int .i64) h6 tC v5.vB:=yN.ext gr6.1
 replace kW:Rd bI h6 kL v6.vT.au:=kW.ext gr6.1
 replace Ad:Rd (Kd.int .i64) h6 rX v6.vA:=Ad.ext gr6.1
 replace Ae:Rd (Kd.int .i64) h6 rY v6.vB:=Ae.ext gr6.1
 refine dF X X (dO (cs:=#[vL none 0 0,vL none 0 0,vL none 0 0,vI 0]) BS X) ?_
 rintro w20 _ Wv ⟨b8,rfl,ge8,hb8⟩
 have zl:=zM.new Wv ge8 hb8
 refine aK (by simp only [sc0,sc1];rfl) ?_
 refine gJ (i:=0) (cs:=[vL none 0 0,vL none 0 0,vL none 0 0,vI 0]) (cs':=[vL kZ v7.vT.au.length nH,vL uJ v7.vA.length uK,vL yC v7.vB.length yD,vI v7.vE]) (vs:=[vL kZ v7.vT.au.length nH,vL uJ v7.vA.length uK,vL yC v7.vB.length yD,vI v7.vE]) (bs':=[(some b8, .cells #[vL kZ v7.vT.au.length nH,vL uJ v7.vA.length uK,vL yC v7.vB.length yD,vI v7.vE] 35 (0,0)),(some b7, .cells #[vL kL v6.vT.au.length mV,vL rX v6.vA.length tH,vL rY v6.vB.length tJ,vI v6.vE] 35 (0,0)),(some b6, .cells #[vL mQ v5.vT.au.length nR,vL qB v5.vA.length rW,vL tC v5.vB.length vM,vI v5.vE] 35 (0,0)),(some b5, .cells #[vL jh v4.1.au.length jA] 24 (0,0)),(some b4, .cells #[vL fQ v3.1.au.length gY] 24 (0,0)),(some b3, .cells #[vL iZ v2.1.au.length jG] 24 (0,0)),(some b2, .cells #[vL iM a1.au.length iO] 24 (0,0)),(some b1, .cells #[vL bQ a0.au.length bT] 24 (0,0))]) X X BE X X (by decide) X zl X (Ax X) X X ?_
 intro w21 zN
 try simp only [sc0,sc1]
 refine aB<|ay<|Al<|Al<|Ao<|rs (vI v2.2.2) (aO X)<|rs (vP b6 3) (aH (n:=1) (o':=3) X Bw X B5 (by decide) X)<|rs (vI v5.vE) (aN X C6 (zN.look 2 X) X)<|rs (vB (v2.2.2 !=v5.vE)) (bW X X X)<|aK (by simp only [sc0,sc1];rfl) ?_
 refine rs (vB (v2.2.2 !=v5.vE)) (aO X)<|rgs (v2.2.2 !=v5.vE) true (vI v3.2.2.2) X X X X (fun hg=>(aO X))<|rgs (v2.2.2 !=v5.vE) true (vP b7 3) X X X X (fun hg=>(aH (n:=1) (o':=3) X Bw X B5 (by decide) X))<|rgs (v2.2.2 !=v5.vE) true (vI v6.vE) X X X X (fun hg=>(aN (gvt (vP b7 3) hg X) C6 (zN.look 1 X) X))<|aK (by simp only [sc0,sc1];rfl) ?_
 refine rgs (v2.2.2 !=v5.vE) true (vB (v3.2.2.2 !=v6.vE)) X X X X (fun hg=>(bW (gvt (vI v3.2.2.2) hg X) (gvt (vI v6.vE) hg X) X))<|rs (vB ((v2.2.2 !=v5.vE)||(v3.2.2.2 !=v6.vE))) (dQ X X (fun hp=>(gvt (vB (v3.2.2.2 !=v6.vE)) (gQ X hp) X)))<|rs (vB ((v2.2.2 !=v5.vE)||(v3.2.2.2 !=v6.vE))) (aO X)<|rgs ((v2.2.2 !=v5.vE)||(v3.2.2.2 !=v6.vE)) true (vI v4.2.2) X X X X (fun hg=>(aO X))<|aK (by simp only [sc0,sc1];rfl) ?_
 refine rgs ((v2.2.2 !=v5.vE)||(v3.2.2.2 !=v6.vE)) true (vP b8 3) X X X X (fun hg=>(aH (n:=1) (o':=3) X Bw X B5 (by decide) X))<|rgs ((v2.2.2 !=v5.vE)||(v3.2.2.2 !=v6.vE)) true (vI v7.vE) X X X X (fun hg=>(aN (gvt (vP b8 3) hg X) C6 (zN.look 0 X) X))<|rgs ((v2.2.2 !=v5.vE)||(v3.2.2.2 !=v6.vE)) true (vB (v4.2.2 !=v7.vE)) X X X X (fun hg=>(bW (gvt (vI v4.2.2) hg X) (gvt (vI v7.vE) hg X) X))<|rs (vB (((v2.2.2 !=v5.vE)||(v3.2.2.2 !=v6.vE))||(v4.2.2 !=v7.vE))) (dQ X X (fun hp=>(gvt (vB (v4.2.2 !=v7.vE)) (gQ X hp) X)))<|aK (by simp only [sc0,sc1];rfl) ?_
 refine rs (vB (((v2.2.2 !=v5.vE)||(v3.2.2.2 !=v6.vE))||(v4.2.2 !=v7.vE))) (aO X)<|rgs (((v2.2.2 !=v5.vE)||(v3.2.2.2 !=v6.vE))||(v4.2.2 !=v7.vE)) true (Value.agg #[vL iZ v2.1.au.length jG]) X X X X (fun hg=>(aT (n:=1) (vs:=[vL iZ v2.1.au.length jG]) X AI (zN.look 5 X) AD X X))<|rgs (((v2.2.2 !=v5.vE)||(v3.2.2.2 !=v6.vE))||(v4.2.2 !=v7.vE)) true (vP b6 0) X X X X (fun hg=>(aH (n:=1) (o':=0) X Bw X AD (by decide) X))<|rgs (((v2.2.2 !=v5.vE)||(v3.2.2.2 !=v6.vE))||(v4.2.2 !=v7.vE)) true (Value.agg #[vL mQ v5.vT.au.length nR]) X X X X (fun hg=>(aT (n:=1) (vs:=[vL mQ v5.vT.au.length nR]) (gvt (vP b6 0) hg X) AI (zN.look 2 X) AD X X))<|aK (by simp only [sc0,sc1];rfl) ?_
 obtain ⟨v8,H8,H⟩:=bn H
 refine sJ (b:=(((v2.2.2 !=v5.vE)||(v3.2.2.2 !=v6.vE))||(v4.2.2 !=v7.vE))) (c:=true) (v:=vB v8) X X X X (fun hg=>(bC CR X (wF (gvt (Value.agg #[vL iZ v2.1.au.length jG]) hg X) (gvt (Value.agg #[vL mQ v5.vT.au.length nR]) hg X)) (eu.calls k v2.1 v5.vT iZ jG mQ nR zN.sees jK qK qN yM (bU H8 hg)))) ?_
 intro w22 Wx
 have Bf:=zN.step Wx
 refine rgs (((v2.2.2 !=v5.vE)||(v3.2.2.2 !=v6.vE))||(v4.2.2 !=v7.vE)) true (vB (!v8)) X X X X (fun hg=>(mZ (gvt (vB v8) hg X)))<|rs (vB ((((v2.2.2 !=v5.vE)||(v3.2.2.2 !=v6.vE))||(v4.2.2 !=v7.vE))||(!v8))) (dQ X X (fun hp=>(gvt (vB (!v8)) (gQ X hp) X)))<|rs (vB ((((v2.2.2 !=v5.vE)||(v3.2.2.2 !=v6.vE))||(v4.2.2 !=v7.vE))||(!v8))) (aO X)<|aK (by simp only [sc0,sc1];rfl) ?_
 refine rgs ((((v2.2.2 !=v5.vE)||(v3.2.2.2 !=v6.vE))||(v4.2.2 !=v7.vE))||(!v8)) true (Value.agg #[vL fQ v3.1.au.length gY]) X X X X (fun hg=>(aT (n:=1) (vs:=[vL fQ v3.1.au.length gY]) X AI (Bf.look 4 X) AD X X))<|rgs ((((v2.2.2 !=v5.vE)||(v3.2.2.2 !=v6.vE))||(v4.2.2 !=v7.vE))||(!v8)) true (vP b7 0) X X X X (fun hg=>(aH (n:=1) (o':=0) X Bw X AD (by decide) X))<|rgs ((((v2.2.2 !=v5.vE)||(v3.2.2.2 !=v6.vE))||(v4.2.2 !=v7.vE))||(!v8)) true (Value.agg #[vL kL v6.vT.au.length mV]) X X X X (fun hg=>(aT (n:=1) (vs:=[vL kL v6.vT.au.length mV]) (gvt (vP b7 0) hg X) AI (Bf.look 1 X) AD X X)) ?_
 obtain ⟨v9,H9,H⟩:=bn H
 refine sJ (b:=((((v2.2.2 !=v5.vE)||(v3.2.2.2 !=v6.vE))||(v4.2.2 !=v7.vE))||(!v8))) (c:=true) (v:=vB v9) X X X X (fun hg=>(bC CR X (wF (gvt (Value.agg #[vL fQ v3.1.au.length gY]) hg X) (gvt (Value.agg #[vL kL v6.vT.au.length mV]) hg X)) (eu.calls k v3.1 v6.vT fQ gY kL mV Bf.sees iy nJ kW vF (bU H9 hg)))) ?_
 intro w23 Yc
 have zO:=Bf.step Yc
 refine aK (by simp only [sc0,sc1];rfl) ?_
 refine rgs ((((v2.2.2 !=v5.vE)||(v3.2.2.2 !=v6.vE))||(v4.2.2 !=v7.vE))||(!v8)) true (vB (!v9)) X X X X (fun hg=>(mZ (gvt (vB v9) hg X)))<|rs (vB (((((v2.2.2 !=v5.vE)||(v3.2.2.2 !=v6.vE))||(v4.2.2 !=v7.vE))||(!v8))||(!v9))) (dQ X X (fun hp=>(gvt (vB (!v9)) (gQ X hp) X)))<|rs (vB (((((v2.2.2 !=v5.vE)||(v3.2.2.2 !=v6.vE))||(v4.2.2 !=v7.vE))||(!v8))||(!v9))) (aO X)<|rgs (((((v2.2.2 !=v5.vE)||(v3.2.2.2 !=v6.vE))||(v4.2.2 !=v7.vE))||(!v8))||(!v9)) true (Value.agg #[vL jh v4.1.au.length jA]) X X X X (fun hg=>(aT (n:=1) (vs:=[vL jh v4.1.au.length jA]) X AI (zO.look 3 X) AD X X))<|aK (by simp only [sc0,sc1];rfl) ?_
 refine rgs (((((v2.2.2 !=v5.vE)||(v3.2.2.2 !=v6.vE))||(v4.2.2 !=v7.vE))||(!v8))||(!v9)) true (vP b8 0) X X X X (fun hg=>(aH (n:=1) (o':=0) X Bw X AD (by decide) X))<|rgs (((((v2.2.2 !=v5.vE)||(v3.2.2.2 !=v6.vE))||(v4.2.2 !=v7.vE))||(!v8))||(!v9)) true (Value.agg #[vL kZ v7.vT.au.length nH]) X X X X (fun hg=>(aT (n:=1) (vs:=[vL kZ v7.vT.au.length nH]) (gvt (vP b8 0) hg X) AI (zO.look 0 X) AD X X)) ?_
 obtain ⟨v10,H10,H⟩:=bn H
 refine sJ (b:=(((((v2.2.2 !=v5.vE)||(v3.2.2.2 !=v6.vE))||(v4.2.2 !=v7.vE))||(!v8))||(!v9))) (c:=true) (v:=vB v10) X X X X (fun hg=>(bC CR X (wF (gvt (Value.agg #[vL jh v4.1.au.length jA]) hg X) (gvt (Value.agg #[vL kZ v7.vT.au.length nH]) hg X)) (eu.calls k v4.1 v7.vT jh jA kZ nH zO.sees nM vC l7 vG (bU H10 hg)))) ?_
 intro w24 Yd
 have BX:=zO.step Yd
 refine rgs (((((v2.2.2 !=v5.vE)||(v3.2.2.2 !=v6.vE))||(v4.2.2 !=v7.vE))||(!v8))||(!v9)) true (vB (!v10)) X X X X (fun hg=>(mZ (gvt (vB v10) hg X)))<|aK (by simp only [sc0,sc1];rfl) ?_
 refine rs (vB ((((((v2.2.2 !=v5.vE)||(v3.2.2.2 !=v6.vE))||(v4.2.2 !=v7.vE))||(!v8))||(!v9))||(!v10))) (dQ X X (fun hp=>(gvt (vB (!v10)) (gQ X hp) X))) ?_
 try simp only [sc0,sc1]
 refine aB<|ay<|Av (t:=((((((v2.2.2 !=v5.vE)||(v3.2.2.2 !=v6.vE))||(v4.2.2 !=v7.vE))||(!v8))||(!v9))||(!v10))) X (fun c1=>?_) (fun c1=>?_)
 ·replace H:=bU H c1
  refine Al<|Ao<|rs (vB false) (aG X) ?_
  try simp only [sc0,sc1]
  refine aB<|ay<|AT<|bP ?_
  obtain rfl:=Ab H
  exact Ay (bD X (bK X)) X<|⟨X,BX.toE⟩
 ·replace H:=cO H (nt c1)
  refine AN<|ay<|Al<|Ao<|rs (vB v1) (aO X)<|rs (vB v1) (aO X)<|rgs v1 true (vL qc v2.2.1.length uF) X X X X (fun hg=>(aO X))<|rgs v1 true (vP b6 1) X X X X (fun hg=>(aH (n:=1) (o':=1) X Bw X BY (by decide) X))<|aK (by simp only [sc0,sc1];rfl) ?_
  refine rgs v1 true (vL qB v5.vA.length rW) X X X X (fun hg=>(aN (gvt (vP b6 1) hg X) B3 (BX.look 2 X) X)) ?_
  obtain ⟨v11,H11,H⟩:=bn H
  refine sJ (b:=v1) (c:=true) (v:=vB v11) X X X X (fun hg=>(bC CF X (wF (gvt (vL qc v2.2.1.length uF) hg X) (gvt (vL qB v5.vA.length rW) hg X)) (cZ.calls k v2.2.1 v5.vA qc uF qB rW BX.sees pU Fz wY FH (bU H11 hg)))) ?_
  intro w25 Ye
  have BI:=BX.step Ye
  refine rs (vB (v1&&v11)) (dL X (fun hp=>(gvt (vB v11) (gQ X hp) X)) X)<|rs (vB (v1&&v11)) (aO X)<|aK (by simp only [sc0,sc1];rfl) ?_
  refine rgs (v1&&v11) true (vL qy v3.2.1.length uG) X X X X (fun hg=>(aO X))<|rgs (v1&&v11) true (vP b7 1) X X X X (fun hg=>(aH (n:=1) (o':=1) X Bw X BY (by decide) X))<|rgs (v1&&v11) true (vL rX v6.vA.length tH) X X X X (fun hg=>(aN (gvt (vP b7 1) hg X) B3 (BI.look 1 X) X)) ?_
  obtain ⟨v12,H12,H⟩:=bn H
  refine sJ (b:=(v1&&v11)) (c:=true) (v:=vB v12) X X X X (fun hg=>(bC CF X (wF (gvt (vL qy v3.2.1.length uG) hg X) (gvt (vL rX v6.vA.length tH) hg X)) (cZ.calls k v3.2.1 v6.vA qy uG rX tH BI.sees qO FB Ad FI (bU H12 hg)))) ?_
  intro w26 hE20
  have AL:=BI.step hE20
  refine aK (by simp only [sc0,sc1];rfl) ?_
  refine rs (vB ((v1&&v11)&&v12)) (dL X (fun hp=>(gvt (vB v12) (gQ X hp) X)) X)<|rs (vB ((v1&&v11)&&v12)) (aO X)<|rgs ((v1&&v11)&&v12) true (vL qA v3.2.2.1.length uH) X X X X (fun hg=>(aO X))<|rgs ((v1&&v11)&&v12) true (vP b7 2) X X X X (fun hg=>(aH (n:=1) (o':=2) X Bw X BY (by decide) X))<|aK (by simp only [sc0,sc1];rfl) ?_
  refine rgs ((v1&&v11)&&v12) true (vL rY v6.vB.length tJ) X X X X (fun hg=>(aN (gvt (vP b7 2) hg X) B3 (AL.look 1 X) X)) ?_
  obtain ⟨v13,H13,H⟩:=bn H
  refine sJ (b:=((v1&&v11)&&v12)) (c:=true) (v:=vB v13) X X X X (fun hg=>(bC CF X (wF (gvt (vL qA v3.2.2.1.length uH) hg X) (gvt (vL rY v6.vB.length tJ) hg X)) (cZ.calls k v3.2.2.1 v6.vB qA uH rY tJ AL.sees qP FC Ae FK (bU H13 hg)))) ?_
  intro w27 Yf
  have yX:=AL.step Yf
  refine rs (vB (((v1&&v11)&&v12)&&v13)) (dL X (fun hp=>(gvt (vB v13) (gQ X hp) X)) X)<|rs (vB (((v1&&v11)&&v12)&&v13)) (aO X)<|aK (by simp only [sc0,sc1];rfl) ?_
  refine rgs (((v1&&v11)&&v12)&&v13) true (vL qQ v4.2.1.length uI) X X X X (fun hg=>(aO X))<|rgs (((v1&&v11)&&v12)&&v13) true (vP b8 1) X X X X (fun hg=>(aH (n:=1) (o':=1) X Bw X BY (by decide) X))<|rgs (((v1&&v11)&&v12)&&v13) true (vL uJ v7.vA.length uK) X X X X (fun hg=>(aN (gvt (vP b8 1) hg X) B3 (yX.look 0 X) X)) ?_
  obtain ⟨v14,H14,H⟩:=bn H
  refine sJ (b:=(((v1&&v11)&&v12)&&v13)) (c:=true) (v:=vB v14) X X X X (fun hg=>(bC CF X (wF (gvt (vL qQ v4.2.1.length uI) hg X) (gvt (vL uJ v7.vA.length uK) hg X)) (cZ.calls k v4.2.1 v7.vA qQ uI uJ uK yX.sees uf FD FN FM (bU H14 hg)))) ?_
  intro w28 Yg
  have Bh:=yX.step Yg
  refine aK (by simp only [sc0,sc1];rfl) ?_
  refine rs (vB ((((v1&&v11)&&v12)&&v13)&&v14)) (dL X (fun hp=>(gvt (vB v14) (gQ X hp) X)) X)<|rs (vB ((((v1&&v11)&&v12)&&v13)&&v14)) (aG X) ?_
  try simp only [sc0,sc1]
  refine aB<|ay<|AT ?_
  obtain rfl:=Ab H
  exact Ay (bD X (bK X)) X<|⟨X,Bh.toE⟩
def Ev {α:Type} (f:Nat→Option α) (v:α):Prop:=∃K,∀k,K≤k→f k=some v
def Ev2 {α:Type} (f:Nat→Nat→Option α) (v:α):Prop:=∃K,∀k m,K≤k→K≤m→f k m=some v
section
variable {α β γ:Type}
theorem Ev.pure {f:Nat→Option α} {v:α} (h:∀k,f k=some v):Ev f v:=⟨0,fun k _=>h k⟩
theorem Ev.bind {f:Nat→Option α} {g:Nat→α→Option β} {a:α} {b:β} (hf:Ev f a) (hg:Ev (fun k=>g k a) b):Ev (fun k=>(f k).bind (g k)) b:=by
 obtain ⟨K,hK⟩:=hf
 obtain ⟨L,hL⟩:=hg
 exact ⟨max K L, fun k hk => by
  show (f k).bind (g k)=some b
  rw [hK k (by omega)]
  exact hL k (by omega)⟩
theorem Ev.congr {f g:Nat→Option α} {v:α} (hf:Ev f v) (h:∀k,g k=f k):Ev g v:=by
 obtain ⟨K,hK⟩:=hf
 exact ⟨K,fun k hk=>(h k).trans (hK k hk)⟩
theorem Ev.succ {f:Nat→Option α} {v:α} (hf:Ev (fun k=>f (k+1)) v):Ev f v:=by
 obtain ⟨K,hK⟩:=hf
 refine ⟨K+1,fun k hk=>?_⟩
 obtain ⟨m,rfl⟩:∃m,k=m+1:=⟨k-1,by omega⟩
 exact hK m (by omega)
theorem Ev.uniq {f:Nat→Option α} {v u:α} (hf:Ev f v) (hg:Ev f u):v=u:=by
 obtain ⟨K,hK⟩:=hf
 obtain ⟨L,hL⟩:=hg
 have h1:=hK (max K L) (by omega)
 have h2:=hL (max K L) (by omega)
 rw [h1] at h2
 exact Ab h2
theorem Ev2.diag {f:Nat→Nat→Option α} {v:α} (h:Ev2 f v):Ev (fun k=>f k k) v:=by
 obtain ⟨K,hK⟩:=h
 exact ⟨K,fun k hk=>hK k k hk hk⟩
theorem Ev2.pure {f : Nat → Nat → Option α} {v : α} (h : ∀ k m, f k (m + 1) = some v) : Ev2 f v := ⟨1, fun k m _ hm => by
 obtain ⟨q,rfl⟩:∃q,m=q+1:=⟨m-1,by omega⟩
 exact h k q⟩
theorem Ev2.step {f:Nat→Nat→Option α} {g:Nat→Option β} {b:β} {r:Nat→Nat→β→Option α} {v:α} (hg:Ev g b) (hr:Ev2 (fun k m=>r k m b) v) (h:∀k m,f k (m+1)=(g k).bind (r k m)):Ev2 f v:=by
 obtain ⟨K,hK⟩:=hg
 obtain ⟨L,hL⟩:=hr
 refine ⟨max K L+1,fun k m hk hm=>?_⟩
 obtain ⟨q,rfl⟩:∃q,m=q+1:=⟨m-1,by omega⟩
 rw [h,hK k (by omega)]
 exact hL k q (by omega) (by omega)
theorem Ev2.next {f r:Nat→Nat→Option α} {v:α} (hr:Ev2 r v) (h:∀k m,f k (m+1)=r k m):Ev2 f v:=by
 obtain ⟨L,hL⟩:=hr
 refine ⟨L+1,fun k m hk hm=>?_⟩
 obtain ⟨q,rfl⟩:∃q,m=q+1:=⟨m-1,by omega⟩
 rw [h]
 exact hL k q (by omega) (by omega)
theorem Ev.all {f:γ→Nat→Option α} {q:γ→α}:∀(l:List γ),(∀z∈l,Ev (f z) (q z))→∃K,∀k,K≤k→∀z∈l,f z k=some (q z)
  |[],_=>⟨0,fun k _ z hz=>by cases hz⟩
  | x :: l, h => by
    obtain ⟨K,hK⟩:=h x List.mem_cons_self
    obtain ⟨L,hL⟩:=Ev.all l (fun z hz=>h z (List.mem_cons_of_mem _ hz))
    refine ⟨max K L,fun k hk z hz=>?_⟩
    rcases List.mem_cons.1 hz with rfl|hz
    · exact hK k (by omega)
    · exact hL k (by omega) z hz
end
theorem yE {x:Int} (h0: -9223372036854775808≤x) (h1:x≤9223372036854775807):IntKind.wrap .i64 x=x:=by
 simp [IntKind.wrap,IntKind.bits,IntKind.signed]
 omega
theorem fF {j n:Nat} (hj:j<n) (hn:n≤9223372036854775807):IntKind.wrap .i64 ((j:Int)+1)=((j+1:Nat):Int):=by
 rw [yE (by omega) (by omega)];rfl
section
variable {α:Type} {z:α} {xs:List α}
theorem ig (j:Nat):rd z xs (j:Int)=xs.getD j z:=by simp [rd]
theorem RJ {i:Int} (h0:0≤i) (h1:i<xs.length):rd z xs i∈xs:=by
 unfold rd
 have:i.toNat<xs.length:=by omega
 rw [List.getD_eq_getElem?_getD,List.getElem?_eq_getElem this]
 exact List.getElem_mem this
theorem getD_mem {j:Nat} (h1:j<xs.length):xs.getD j z∈xs:=by
 rw [List.getD_eq_getElem?_getD,List.getElem?_eq_getElem h1]
 exact List.getElem_mem h1
end
theorem Ez {l:List aZ} {p:aZ→Option Bool} {q:aZ→Bool} (hp:∀z∈l,p z=some (q z)) (hl:l.length≤9223372036854775807):
    ∀(d j m:Nat),j+d=l.length→d<m→cu.l0 l p m (j:Int)=some (if ((l.drop j).any q)=true then .inl (((j+(l.drop j).findIdx q:Nat)):Int) else .inr ()):=by
  intro d
  induction d with
  | zero =>
    intro j m hj hm
    obtain ⟨m,rfl⟩:∃q,m=q+1:=⟨m-1,by omega⟩
    rw [cu.l0,if_neg (by simp;omega)]
    have:l.drop j=[]:=List.drop_eq_nil_of_le (by omega)
    rw [this]
    rfl
  | succ d ih =>
    intro j m hj hm
    obtain ⟨m,rfl⟩:∃q,m=q+1:=⟨m-1,by omega⟩
    have hlt:j<l.length:=by omega
    rw [cu.l0,if_pos (by simp;omega),if_pos (by omega),ig,hp _ (getD_mem hlt)]
    have hd:l.drop j=l.getD j ah::l.drop (j+1):=by
      rw [List.drop_eq_getElem_cons hlt,List.getD_eq_getElem?_getD,List.getElem?_eq_getElem hlt];rfl
    simp only [Option.bind_some]
    cases hb:q (l.getD j ah) with
    | true =>
      rw [if_pos rfl,hd]
      simp only [List.any_cons,hb,Bool.true_or,if_true,List.findIdx_cons,cond_true,Nat.add_zero]
    | false =>
      rw [if_neg (by simp),fF hlt hl,ih (j+1) m (by omega) (by omega),hd]
      simp only [List.any_cons,hb,Bool.false_or,List.findIdx_cons,cond_false]
      split
      · congr 2;omega
      · rfl
theorem zq {l:List aZ} {p:Nat→aZ→Option Bool} {q:aZ→Bool} (hp:∀z∈l,Ev (fun k=>p k z) (q z)) (hl:l.length≤9223372036854775807):
  Ev (fun k=>eG.f k l (p k)) (l.any q):=by
 obtain ⟨K,hK⟩:=Ev.all (f:=fun z k=>p k z) l hp
 refine ⟨max K (l.length+1),fun k hk=>?_⟩
 unfold eG.f cu.f
 have:=Ez (l:=l) (p:=p k) (q:=q) (fun z hz=>hK k (by omega) z hz) hl l.length 0 k (by omega) (by omega)
 rw [show ((0:Nat):Int)=0 from rfl] at this
 simp only []
 rw [this,List.drop_zero]
 cases h:l.any q with
 |true=>simp
 |false=>simp
theorem jV {α:Type} {l:List α} {j:Nat} (z:α) (h:j<l.length):l.drop j=l.getD j z::l.drop (j+1):=by
 rw [List.drop_eq_getElem_cons h,List.getD_eq_getElem?_getD,List.getElem?_eq_getElem h];rfl
def GU (i:Nat) (c:Int):Bool:=((decide (c≥97)&&decide (c≤122))||(decide (c≥65)&&decide (c≤90))||(c==95))||(!(i==0)&&decide (c≥48)&&decide (c≤57))
def y7:Nat→List Int→Bool
 |_,[]=>true
 |i,c::r=>GU i c&&y7 (i+1) r
def rZ (s:ByteArray):Bool:=y7 0 (bytesOf s)&& !(strEq s ByteArray.empty)&&decide ((s.size:Int)≤31)
theorem DF {s:ByteArray} (hl:(bytesOf s).length≤9223372036854775807):∀(d j m:Nat),j+d=(bytesOf s).length→d<m→
    jF.l0 s m (j:Int)=some (if y7 j ((bytesOf s).drop j)=true then .inr () else .inl false):=by
  intro d
  induction d with
  | zero =>
    intro j m hj hm
    obtain ⟨m,rfl⟩:∃q,m=q+1:=⟨m-1,by omega⟩
    rw [jF.l0,if_neg (by simp;omega),List.drop_eq_nil_of_le (by omega)]
    rfl
  | succ d ih =>
    intro j m hj hm
    obtain ⟨m,rfl⟩:∃q,m=q+1:=⟨m-1,by omega⟩
    have hlt:j<(bytesOf s).length:=by omega
    rw [jF.l0,if_pos (by simp;omega),if_pos (by omega),ig,jV 0 hlt,fF hlt hl,ih (j+1) m (by omega) (by omega)]
    have hb:∀c:Int,((!((((decide (c≥97))&&(decide (c≤122)))||((decide (c≥65))&&(decide (c≤90))))||(c==95)))&&(((((j:Nat):Int)==0)||(decide (c<48)))||(decide (c>57))))= !(GU j c):=by
      intro c
      unfold GU
      have h1:(((j:Nat):Int)==0)=(j==0):=by cases j<;>simp;omega
      have h2:decide (c<48)= !(decide (c≥48)):=by by_cases h:c<48<;>simp [h]<;>omega
      have h3:decide (c>57)= !(decide (c≤57)):=by by_cases h:c>57<;>simp [h]<;>omega
      rw [h1,h2,h3]
      cases decide (c≥97)<;>cases decide (c≤122)<;>cases decide (c≥65)<;>cases decide (c≤90)<;>cases (c==95)<;>cases (j==0)<;>cases decide (c≥48)<;>cases decide (c≤57)<;>rfl
    rw [hb]
    by_cases h9:GU j ((bytesOf s).getD j 0)=true
    · simp only [y7,h9,Bool.not_true,Bool.false_eq_true,if_false,Bool.true_and]
    · rw [Bool.not_eq_true] at h9
      simp only [y7,h9,Bool.not_false,if_true,Bool.false_and,Bool.false_eq_true,if_false]
theorem Og {s:ByteArray} (hs:s.size≤9223372036854775807):Ev (fun k=>jF.f k s) (rZ s):=by
 have hl:=bytesOf_length s
 refine ⟨s.size+1,fun k hk=>?_⟩
 show jF.f k s=_
 unfold jF.f
 rw [if_pos hs,show (0:Int)=((0:Nat):Int) from rfl,DF (by omega) (bytesOf s).length 0 k (by omega) (by omega),List.drop_zero]
 unfold rZ
 cases y7 0 (bytesOf s)<;>simp
def cont (d:aZ):List Int:=if d.aA==3||d.aA==6 then [d.bY] else if d.aA==4 then d.ak.map (·.vType) else []
theorem Ec {d:aZ} (hl:d.ak.length≤4294967295):∀(e j m:Nat),j+e=d.ak.length→e<m→
    iW.l0 d m (j:Int) ((d.ak.take j).map (·.vType))=some (d.ak.map (·.vType)):=by
  intro e
  induction e with
  | zero =>
    intro j m hj hm
    obtain ⟨m,rfl⟩:∃q,m=q+1:=⟨m-1,by omega⟩
    rw [iW.l0,if_neg (by simp;omega),List.take_of_length_le (by omega)]
  | succ e ih =>
    intro j m hj hm
    obtain ⟨m,rfl⟩:∃q,m=q+1:=⟨m-1,by omega⟩
    have hlt:j<d.ak.length:=by omega
    rw [iW.l0,if_pos (by simp;omega),if_pos (by omega),if_pos (by simp;omega),ig,fF hlt (by omega)]
    have:(d.ak.take j).map (·.vType)++[(d.ak.getD j aj).vType]=(d.ak.take (j+1)).map (·.vType):=by
      rw [List.take_add_one,List.map_append,List.getD_eq_getElem?_getD,List.getElem?_eq_getElem hlt];rfl
    rw [this]
    exact ih (j+1) m (by omega) (by omega)
theorem Bo {d:aZ} (hl:d.ak.length≤4294967295):Ev (fun k=>iW.f k d) (cont d):=by
 refine ⟨d.ak.length+1,fun k hk=>?_⟩
 show iW.f k d=_
 unfold iW.f cont
 have:=Ec hl d.ak.length 0 k (by omega) (by omega)
 simp only [List.take_zero,List.map_nil] at this
 rw [show ((0:Nat):Int)=0 from rfl] at this
 rw [this]
 by_cases h3:d.aA=3
 ·simp [h3]
 ·by_cases h6:d.aA=6
  ·simp [h6]
  ·by_cases h4:d.aA=4
   ·simp [h4]
   ·simp [h3,h6,h4]
def shp (k:Int):Option iD:=
 if k=1 then some ⟨true,true,false,false,false⟩ else if k=2 then some ⟨false,false,true,false,false⟩ else if k=3 then some ⟨false,false,true,true,false⟩
 else if k=4 then some ⟨true,false,false,true,true⟩ else if k=5 then some ⟨true,false,false,false,true⟩ else if k=6 then some ⟨true,false,true,false,false⟩ else none
theorem wZ (k:Int):∃m,nV.f=some m∧bM ieq m k=shp k:=by
 refine ⟨_,X,?_⟩
 simp only [iG,ieq,Int.reduceBEq,Bool.false_eq_true,if_false,bM,beq_iff_eq,shp]
def y8 (m:List (ByteArray×Bool)) (ns:List ByteArray):Prop:=∀s,(bM strEq m s).getD false=ns.any (strEq s)
theorem y8.nil:y8 [] []:=fun s=>rfl
theorem AX (a b:ByteArray):strEq a b=strEq b a:=by
  cases h:strEq a b with
  |true=>rw [gq] at h;subst h;exact (gq.2 rfl).symm
  | false =>
    cases h2:strEq b a with
    |false=>rfl
    |true=>rw [gq] at h2;subst h2;rw [gq.2 rfl] at h;cases h
theorem KL (m : List (ByteArray × Bool)) (k s : ByteArray) (v : Bool) : bM strEq (iG strEq m k v) s = if strEq s k = true then some v else bM strEq m s := by
  induction m with
  |nil=>simp [iG,bM]
  | cons p m ih =>
    simp only [iG]
    by_cases hk:strEq k p.1=true
    · rw [if_pos hk]
      have:=gq.1 hk
      simp only [bM]
      by_cases hs:strEq s k=true
      · rw [if_pos hs,if_pos hs]
      · rw [if_neg hs,if_neg hs,if_neg (by rw [←this];exact hs)]
    · rw [if_neg hk]
      simp only [bM]
      by_cases hs:strEq s p.1=true
      · rw [if_pos hs]
        have h1:=gq.1 hs
        subst h1
        rw [if_neg (by rw [AX];exact hk),if_pos (gq.2 rfl)]
      · rw [if_neg hs,ih]
        by_cases hsk:strEq s k=true
        · rw [if_pos hsk,if_pos hsk]
        · rw [if_neg hsk,if_neg hsk,if_neg hs]
theorem y8.put {m:List (ByteArray×Bool)} {ns:List ByteArray} (h:y8 m ns) (k:ByteArray):y8 (iG strEq m k true) (k::ns):=fun s=>by
 rw [KL,List.any_cons]
 by_cases hs:strEq s k=true
 ·rw [if_pos hs,hs];rfl
 ·rw [if_neg hs,h s]
  have:strEq s k=false:=by simpa using hs
  rw [this];rfl
def lU (d:aZ) (n:Int) (f:bf):Bool:=
 !(((d.aA==5)&&(((f.vType !=0)||decide (f.vAt<(-2147483648)))||decide (f.vAt>2147483647)))||((d.aA==4)&&(decide (f.vType<0)||decide (f.vType≥n))))
def su (d:aZ) (n:Int):List ByteArray→List bf→Bool
 |_,[]=>true
 |ns,f::r=>rZ f.aF&& !(ns.any (strEq f.aF))&&lU d n f&&su d n (f.aF::ns) r
theorem IY {d : aZ} {n : Int} (hl : d.ak.length ≤ 9223372036854775807) (hz : ∀ f ∈ d.ak, f.aF.size ≤ 9223372036854775807) : ∀ (e j : Nat) (m : List (ByteArray × Bool)) (ns : List ByteArray), j + e = d.ak.length → y8 m ns →
    ∃v,Ev2 (fun k q=>jl.l0 k d n q (j:Int) m) v∧(match v with| .inl b=>b=false∧su d n ns (d.ak.drop j)=false| .inr _=>su d n ns (d.ak.drop j)=true):=by
  intro e
  induction e with
  | zero =>
    intro j m ns hj hm
    refine ⟨.inr m,Ev2.pure (fun k q=>?_),?_⟩
    · rw [jl.l0,if_neg (by simp;omega)]
    · rw [List.drop_eq_nil_of_le (by omega)];rfl
  | succ e ih =>
    intro j m ns hj hm
    have hlt:j<d.ak.length:=by omega
    have hmem:=getD_mem (z:=aj) hlt
    obtain ⟨v,hv,hp⟩:=ih (j+1) (iG strEq m (d.ak.getD j aj).aF true) ((d.ak.getD j aj).aF::ns) (by omega) (hm.put _)
    have hn:=Og (hz _ hmem)
    rw [jV aj hlt]
    have hstep:∀k q,jl.l0 k d n (q+1) (j:Int) m=(jF.f k (d.ak.getD j aj).aF).bind fun v4=>if ((!v4)||ns.any (strEq (d.ak.getD j aj).aF))=true then some (.inl false) else
        if lU d n (d.ak.getD j aj)=false then some (.inl false) else jl.l0 k d n q ((j+1:Nat):Int) (iG strEq m (d.ak.getD j aj).aF true):=by
      intro k q
      rw [jl.l0,if_pos (by simp;omega),if_pos (by omega),ig,fF hlt hl,hm]
      unfold lU
      simp only [Bool.not_eq_false']
    simp only [su]
    generalize hf:d.ak.getD j aj=f at*
    cases h1:rZ f.aF with
    | false => exact ⟨.inl false, Ev2.step hn (r := fun k q b => if ((!b) || ns.any (strEq f.aF)) = true then some (.inl false) else
        if lU d n f = false then some (.inl false) else jl.l0 k d n q ((j + 1 : Nat) : Int) (iG strEq m f.aF true)) ⟨0, fun _ _ _ _ => by simp [h1]⟩ hstep, rfl, by simp⟩
    | true =>
      cases h2:ns.any (strEq f.aF) with
      | true => exact ⟨.inl false, Ev2.step hn (r := fun k q b => if ((!b) || ns.any (strEq f.aF)) = true then some (.inl false) else
        if lU d n f = false then some (.inl false) else jl.l0 k d n q ((j + 1 : Nat) : Int) (iG strEq m f.aF true)) ⟨0, fun _ _ _ _ => by simp [h2]⟩ hstep, rfl, by simp⟩
      | false =>
        cases h3:lU d n f with
        | false => exact ⟨.inl false, Ev2.step hn (r := fun k q b => if ((!b) || ns.any (strEq f.aF)) = true then some (.inl false) else
        if lU d n f = false then some (.inl false) else jl.l0 k d n q ((j + 1 : Nat) : Int) (iG strEq m f.aF true)) ⟨0, fun _ _ _ _ => by simp [h1, h2, h3]⟩ hstep, rfl, by simp⟩
        | true =>
          refine ⟨v, Ev2.step hn (r := fun k q b => if ((!b) || ns.any (strEq f.aF)) = true then some (.inl false) else
            if lU d n f = false then some (.inl false) else jl.l0 k d n q ((j + 1 : Nat) : Int) (iG strEq m f.aF true)) ?_ hstep, ?_⟩
          · obtain ⟨K,hK⟩:=hv
            exact ⟨K,fun k q hk hq=>by simp only [h1,h2,h3];simpa using hK k q hk hq⟩
          · cases v with
            |inl b=>simpa using hp
            |inr b=>simpa using hp
def nS (d:aZ) (n:Int):Bool:=
 match shp d.aA with
 |none=>false
 |some s=>(if s.ny=true then rZ d.aF else strEq d.aF ByteArray.empty)&&(if s.um=true then okI d.aY else ((d.aY.aU==0)&&(d.aY.aJ==false)))&&
   (if s.mD=true then (decide (0≤d.bY)&&decide (d.bY<n)) else (d.bY==0))&&(if s.vn=true then (decide (1≤d.vN)&&decide (d.vN≤512)) else (d.vN==0))&&
   (s.kN==decide (0<d.ak.length))&&decide (d.ak.length≤32)&&su d n [] d.ak
theorem Oh {d : aZ} {n : Int} (hl : d.ak.length ≤ 9223372036854775807) (hz : ∀ f ∈ d.ak, f.aF.size ≤ 9223372036854775807) (hz0 : d.aF.size ≤ 9223372036854775807) :
    Ev (fun k=>jl.f k d n) (nS d n):=by
  obtain ⟨m,hm,hf⟩:=wZ d.aA
  obtain ⟨Kn,hKn⟩:=Og hz0
  obtain ⟨v,hv,hp⟩:=IY (n:=n) hl hz d.ak.length 0 [] [] (by omega) y8.nil
  obtain ⟨Kl,hKl⟩:=hv.diag
  refine ⟨max Kn Kl,fun k hk=>?_⟩
  show jl.f k d n=_
  have h1:=hKn k (by omega)
  have h2:jl.l0 k d n k 0 []=some v:=hKl k (by omega)
  rw [List.drop_zero] at hp
  clear hKl hv
  rcases v with b|b
  · obtain ⟨rfl,hp⟩:=hp
    have h1:jF.f k d.aF=some (rZ d.aF):=h1
    unfold jl.f
    simp only [hm,Option.bind_some,hf,h1,h2,rP.f]
    unfold nS
    cases hs:shp d.aA with
    |none=>simp
    | some s =>
      simp only [Option.isSome_some,Option.getD_some]
      obtain ⟨b1,b2,b3,b4,b5⟩:=s
      have e1:decide (d.bY<0)= !(decide (0≤d.bY)):=by by_cases h:d.bY<0<;>simp [h]<;>omega
      have e2:decide (d.bY≥n)= !(decide (d.bY<n)):=by by_cases h:d.bY<n<;>simp [h]<;>omega
      have e3:decide (d.vN<1)= !(decide (1≤d.vN)):=by by_cases h:d.vN<1<;>simp [h]<;>omega
      have e4:decide (d.vN>512)= !(decide (d.vN≤512)):=by by_cases h:d.vN>512<;>simp [h]<;>omega
      have e5:decide ((d.ak.length:Int)>0)=decide (0<d.ak.length):=by by_cases h:0<d.ak.length<;>simp [h]
      have e6:decide ((d.ak.length:Int)>32)= !(decide (d.ak.length≤32)):=by by_cases h:d.ak.length≤32<;>simp [h]<;>omega
      have e7:(d.bY !=0)= !(d.bY==0):=X
      have e8:(d.vN !=0)= !(d.vN==0):=X
      have e9:∀x:Bool,((if x=true then 0 else 10:Int) !=0)= !x:=fun x=>by cases x<;>rfl
      simp only [e1,e2,e3,e4,e5,e6,e7,e8]
      rw [hp]
      generalize rZ d.aF=c1
      generalize strEq d.aF ByteArray.empty=c2
      generalize okI d.aY=c3
      generalize (d.aY.aU==0)=c4
      generalize (d.aY.aJ==false)=c5
      generalize decide (0≤d.bY)=c6
      generalize decide (d.bY<n)=c7
      generalize (d.bY==0)=c8
      generalize decide (1≤d.vN)=c9
      generalize decide (d.vN≤512)=c10
      generalize (d.vN==0)=c11
      generalize decide (0<d.ak.length)=c12
      generalize decide (d.ak.length≤32)=c13
      have f1:∀(b c1 c2:Bool) (K:Option Bool),((if (!true)=true then some (!true) else ((if (true&&(b==true))=true then some c1 else some false).bind fun v2=>if (b&& !v2)=true then some (b&& !v2) else some (!b&& !c2)):Option Bool).bind fun xx1=>if xx1=true then some false else K)=if (if b=true then c1 else c2)=true then K else some false:=by
        intro b c1 c2 K;cases b<;>cases c1<;>cases c2<;>rfl
      have f2:∀(b:Bool) (x:Int) (hx:(x !=0)= !c3) (K:Option Bool),((if (true&&(b==true))=true then some x else some 0).bind fun v3=>(((if (b&&(v3 !=0))=true then some (b&&(v3 !=0)) else some (!b&& !(c4&&(c5&&true)))):Option Bool).bind fun xx2=>if xx2=true then some false else K))=if (if b=true then c3 else (c4&&c5))=true then K else some false:=by
        intro b x hx K;cases b
        · cases c4<;>cases c5<;>rfl
        · simp only [Bool.true_and,beq_self_eq_true,if_true,Option.bind_some,hx]
          cases c3<;>rfl
      have f3:∀(b x y z:Bool) (K:Option Bool),(((if (b&&(!x|| !y))=true then some (b&&(!x|| !y)) else some (!b&& !z)):Option Bool).bind fun xx=>if xx=true then some false else K)=if (if b=true then (x&&y) else z)=true then K else some false:=by
        intro b x y z K;cases b<;>cases x<;>cases y<;>cases z<;>rfl
      have f5:∀(b x y:Bool) (K:Option Bool),(((if (b !=x)=true then some (b !=x) else some (!y)):Option Bool).bind fun xx=>if xx=true then some false else K)=if (b==x&&y)=true then K else some false:=by
        intro b x y K;cases b<;>cases x<;>cases y<;>rfl
      rw [f1,f2 _ _ (e9 c3),f3,f3,f5]
      generalize (if b1=true then c1 else c2)=t1
      generalize (if b2=true then c3 else (c4&&c5))=t2
      generalize (if b3=true then (c6&&c7) else c8)=t3
      generalize (if b4=true then (c9&&c10) else c11)=t4
      generalize (b5==c12)=t5
      cases t1<;>cases t2<;>cases t3<;>cases t4<;>cases t5<;>cases c13<;>rfl
  · simp only at hp
    have h1:jF.f k d.aF=some (rZ d.aF):=h1
    unfold jl.f
    simp only [hm,Option.bind_some,hf,h1,h2,rP.f]
    unfold nS
    cases hs:shp d.aA with
    |none=>simp
    | some s =>
      simp only [Option.isSome_some,Option.getD_some]
      obtain ⟨b1,b2,b3,b4,b5⟩:=s
      have e1:decide (d.bY<0)= !(decide (0≤d.bY)):=by by_cases h:d.bY<0<;>simp [h]<;>omega
      have e2:decide (d.bY≥n)= !(decide (d.bY<n)):=by by_cases h:d.bY<n<;>simp [h]<;>omega
      have e3:decide (d.vN<1)= !(decide (1≤d.vN)):=by by_cases h:d.vN<1<;>simp [h]<;>omega
      have e4:decide (d.vN>512)= !(decide (d.vN≤512)):=by by_cases h:d.vN>512<;>simp [h]<;>omega
      have e5:decide ((d.ak.length:Int)>0)=decide (0<d.ak.length):=by by_cases h:0<d.ak.length<;>simp [h]
      have e6:decide ((d.ak.length:Int)>32)= !(decide (d.ak.length≤32)):=by by_cases h:d.ak.length≤32<;>simp [h]<;>omega
      have e7:(d.bY !=0)= !(d.bY==0):=X
      have e8:(d.vN !=0)= !(d.vN==0):=X
      have e9:∀x:Bool,((if x=true then 0 else 10:Int) !=0)= !x:=fun x=>by cases x<;>rfl
      simp only [e1,e2,e3,e4,e5,e6,e7,e8]
      rw [hp]
      generalize rZ d.aF=c1
      generalize strEq d.aF ByteArray.empty=c2
      generalize okI d.aY=c3
      generalize (d.aY.aU==0)=c4
      generalize (d.aY.aJ==false)=c5
      generalize decide (0≤d.bY)=c6
      generalize decide (d.bY<n)=c7
      generalize (d.bY==0)=c8
      generalize decide (1≤d.vN)=c9
      generalize decide (d.vN≤512)=c10
      generalize (d.vN==0)=c11
      generalize decide (0<d.ak.length)=c12
      generalize decide (d.ak.length≤32)=c13
      have f1:∀(b c1 c2:Bool) (K:Option Bool),((if (!true)=true then some (!true) else ((if (true&&(b==true))=true then some c1 else some false).bind fun v2=>if (b&& !v2)=true then some (b&& !v2) else some (!b&& !c2)):Option Bool).bind fun xx1=>if xx1=true then some false else K)=if (if b=true then c1 else c2)=true then K else some false:=by
        intro b c1 c2 K;cases b<;>cases c1<;>cases c2<;>rfl
      have f2:∀(b:Bool) (x:Int) (hx:(x !=0)= !c3) (K:Option Bool),((if (true&&(b==true))=true then some x else some 0).bind fun v3=>(((if (b&&(v3 !=0))=true then some (b&&(v3 !=0)) else some (!b&& !(c4&&(c5&&true)))):Option Bool).bind fun xx2=>if xx2=true then some false else K))=if (if b=true then c3 else (c4&&c5))=true then K else some false:=by
        intro b x hx K;cases b
        · cases c4<;>cases c5<;>rfl
        · simp only [Bool.true_and,beq_self_eq_true,if_true,Option.bind_some,hx]
          cases c3<;>rfl
      have f3:∀(b x y z:Bool) (K:Option Bool),(((if (b&&(!x|| !y))=true then some (b&&(!x|| !y)) else some (!b&& !z)):Option Bool).bind fun xx=>if xx=true then some false else K)=if (if b=true then (x&&y) else z)=true then K else some false:=by
        intro b x y z K;cases b<;>cases x<;>cases y<;>cases z<;>rfl
      have f5:∀(b x y:Bool) (K:Option Bool),(((if (b !=x)=true then some (b !=x) else some (!y)):Option Bool).bind fun xx=>if xx=true then some false else K)=if (b==x&&y)=true then K else some false:=by
        intro b x y K;cases b<;>cases x<;>cases y<;>rfl
      rw [f1,f2 _ _ (e9 c3),f3,f3,f5]
      generalize (if b1=true then c1 else c2)=t1
      generalize (if b2=true then c3 else (c4&&c5))=t2
      generalize (if b3=true then (c6&&c7) else c8)=t3
      generalize (if b4=true then (c9&&c10) else c11)=t4
      generalize (b5==c12)=t5
      cases t1<;>cases t2<;>cases t3<;>cases t4<;>cases t5<;>cases c13<;>rfl
def nval (d:aZ) (inner:Int):Int:=
 if d.aA=1 then d.aY.aU else if d.aA=2 then 8 else if d.aA=3 then IntKind.wrap .i64 (d.vN*inner) else if d.aA=4 then d.vN else if d.aA=5 then 4 else if d.aA=6 then inner else 0
theorem Oi (d:aZ) (inner:Int):((bM ieq (iG ieq (iG ieq (iG ieq (iG ieq (iG ieq (iG ieq ([]:List (Int×Int)) 1 d.aY.aU) 2 8) 3 (IntKind.wrap .i64 (d.vN*inner))) 4 d.vN) 5 4) 6 inner) d.aA).getD 0)=nval d inner:=by
 simp only [iG,ieq,Int.reduceBEq,Bool.false_eq_true,if_false,bM,beq_iff_eq,nval]
 repeat' split
 all_goals rfl
structure ShD (d:aZ) (n:Nat):Prop where
 kind:1≤d.aA∧d.aA≤6
 ref:d.aA=2∨d.aA=3∨d.aA=6→0≤d.bY∧d.bY<n
 num:d.aA=3∨d.aA=4→1≤d.vN∧d.vN≤512
 int:d.aA=1→d.aY.aU=1∨d.aY.aU=2∨d.aY.aU=4∨d.aY.aU=8
 few:d.ak.length≤32
 typ:d.aA=4→∀f∈d.ak,0≤f.vType∧f.vType<n
 names:(d.ak.map (·.aF)).Nodup
theorem fields_of {d : aZ} {n : Int} : ∀ (ns : List ByteArray) (l : List bf), su d n ns l = true → (∀ f ∈ l, rZ f.aF = true ∧ lU d n f = true ∧ f.aF ∉ ns) ∧ (l.map (·.aF)).Nodup
  |_,[],_=>⟨by simp,by simp⟩
  | ns, f :: r, h => by
    simp only [su,Bool.and_eq_true,Bool.not_eq_true'] at h
    obtain ⟨⟨⟨h1,h2⟩,h3⟩,h4⟩:=h
    obtain ⟨h5,h6⟩:=fields_of _ r h4
    have hn:f.aF∉ns:=fun hm=>by
      have:=List.any_eq_false.1 h2 f.aF hm
      exact this (gq.2 X)
    refine ⟨fun g hg=>?_,?_⟩
    · rcases List.mem_cons.1 hg with rfl|hg
      · exact ⟨h1,h3,hn⟩
      · obtain ⟨a,b,c⟩:=h5 g hg
        exact ⟨a,b,fun hm=>c (List.mem_cons_of_mem _ hm)⟩
    · rw [List.map_cons,List.nodup_cons]
      refine ⟨fun hm=>?_,h6⟩
      obtain ⟨g,hg,e⟩:=List.mem_map.1 hm
      exact (h5 g hg).2.2 (by rw [e];exact List.mem_cons_self)
theorem Oj {d:aZ} {n:Nat} (h:nS d (n:Int)=true):ShD d n:=by
  unfold nS at h
  cases hs:shp d.aA with
  |none=>rw [hs] at h;cases h
  | some s =>
    rw [hs] at h
    simp only [Bool.and_eq_true,decide_eq_true_eq] at h
    obtain ⟨⟨⟨⟨⟨⟨h1,h2⟩,h3⟩,h4⟩,h5⟩,h6⟩,h7⟩:=h
    obtain ⟨h8,h9⟩:=fields_of _ _ h7
    unfold shp at hs
    refine ⟨?_,?_,?_,?_,h6,?_,h9⟩
    · repeat' split at hs
      all_goals first|(cases hs;done)|omega
    · intro hk
      repeat' split at hs
      all_goals first|(cases hs;done)|(injection hs with hs;subst hs;simp at h3;omega)|omega
    · intro hk
      repeat' split at hs
      all_goals first|(cases hs;done)|(injection hs with hs;subst hs;simp at h4;omega)|omega
    · intro hk
      rw [if_pos hk] at hs
      injection hs with hs
      subst hs
      simp only [if_true] at h2
      simp only [okI,Bool.or_eq_true,beq_iff_eq] at h2
      omega
    · intro hk f hf
      have:=(h8 f hf).2.1
      simp only [lU,hk] at this
      simp at this
      omega
theorem sD {d:aZ} {n:Nat} (h:ShD d n):∀c∈cont d,0≤c∧c<n:=by
 intro c hc
 unfold cont at hc
 split at hc
 ·rename_i hk
  simp only [Bool.or_eq_true,beq_iff_eq] at hk
  obtain rfl:=List.mem_singleton.1 hc
  exact h.ref (by omega)
 ·split at hc
  ·rename_i hk
   simp only [beq_iff_eq] at hk
   obtain ⟨f,hf,rfl⟩:=List.mem_map.1 hc
   exact h.typ hk f hf
  ·cases hc
def cnt (l:List Bool):Nat:=(l.filter fun b=> !b).length
theorem cnt_le:∀(a b:List Bool),a.length=b.length→(∀j,a.getD j false=true→b.getD j false=true)→cnt b≤cnt a
  |[],[],_,_=>Nat.le_refl _
  |[],_::_,h,_=>by simp at h
  |_::_,[],h,_=>by simp at h
  | x :: a, y :: b, h, hj => by
    have h1:=cnt_le a b (by simpa using h) (fun j hh=>by simpa using hj (j+1) (by simpa using hh))
    have h2:=hj 0
    simp only [List.getD_cons_zero] at h2
    unfold cnt at*
    cases x<;>cases y<;>simp_all<;>omega
theorem Ol:∀(a:List Bool) (i:Nat),i<a.length→a.getD i false=false→cnt (a.set i true)+1=cnt a
  |[],i,h,_=>by simp at h
  | x :: a, 0, h, hi => by
    simp only [List.getD_cons_zero] at hi
    subst hi
    simp [cnt]
  | x :: a, i + 1, h, hi => by
    have:=Ol a i (by simpa using h) (by simpa using hi)
    unfold cnt at*
    cases x<;>simp_all<;>omega
theorem qR {α:Type} {z v:α} {l:List α} {i j:Nat} (hi:i<l.length):(l.set i v).getD j z=if i=j then v else l.getD j z:=by
 by_cases h:i=j
 ·subst h;simp [List.getD_eq_getElem?_getD,hi]
 ·simp [List.getD_eq_getElem?_getD,List.getElem?_set_ne h,h]
section
variable (defs:List aZ)
def inner (out:List Int) (d:aZ):Int:=(cont d).foldl (fun _ c=>out.getD c.toNat 0) 0
def Jn (out:List Int):Prop:=∃(rk:Nat→Nat) (B:Nat),∀j,j<defs.length→0<out.getD j 0→
 rk j<B∧out.getD j 0≤512∧(∀c∈cont (defs.getD j ah),0<out.getD c.toNat 0∧rk c.toNat<rk j)∧out.getD j 0=nval (defs.getD j ah) (inner out (defs.getD j ah))
structure Post (out:List Int) (ok:Bool) (bg:List Bool) (out':List Int) (ok':Bool) (bg':List Bool):Prop where
 lo:out'.length=defs.length
 lb:bg'.length=defs.length
 bgm:∀j,bg.getD j false=true→bg'.getD j false=true
 okm:ok'=true→ok=true
 keep:ok'=true→∀j,0<out.getD j 0→out'.getD j 0=out.getD j 0
 stack:ok'=true→∀j,bg.getD j false=true→out.getD j 0≤0→out'.getD j 0≤0
 jn:ok'=true→Jn defs out→Jn defs out'
variable {defs}
theorem Post.rfl' {out:List Int} {ok:Bool} {bg:List Bool} (h1:out.length=defs.length) (h2:bg.length=defs.length):Post defs out ok bg out ok bg:=
 ⟨h1,h2,fun _ h=>h,fun h=>h,fun _ _ _=>rfl,fun _ _ _ h=>h,fun _ h=>h⟩
theorem Post.trans {o1 o2 o3:List Int} {k1 k2 k3:Bool} {b1 b2 b3:List Bool} (h:Post defs o1 k1 b1 o2 k2 b2) (g:Post defs o2 k2 b2 o3 k3 b3):Post defs o1 k1 b1 o3 k3 b3:=by
 refine ⟨g.lo,g.lb,fun j hj=>g.bgm j (h.bgm j hj),fun hk=>h.okm (g.okm hk),fun hk j hj=>?_,fun hk j hb ho=>?_,fun hk hJ=>g.jn hk (h.jn (g.okm hk) hJ)⟩
 ·have:=h.keep (g.okm hk) j hj
  rw [g.keep hk j (by rw [this];exact hj),this]
 ·exact g.stack hk j (h.bgm j hb) (h.stack (g.okm hk) j hb ho)
def Vk (i:Nat) (out:List Int) (ok:Bool) (bg:List Bool):Prop:=∃r out' ok' bg',Ev (fun k=>fE.f k (i:Int) out ok bg defs) (r,out',ok',bg')∧Post defs out ok bg out' ok' bg'∧(ok'=true→Jn defs out→0<r∧r=out'.getD i 0)
theorem KN {c0 : Nat} (v1 : List Int) (hv : ∀ c ∈ v1, 0 ≤ c ∧ c < (defs.length : Int)) (hvl : v1.length ≤ 9223372036854775807)
    (hc:∀i out ok bg,i<defs.length→out.length=defs.length→bg.length=defs.length→cnt bg<c0→Vk (defs:=defs) i out ok bg):
    ∀(e j:Nat) (inn:Int) (out:List Int) (ok:Bool) (bg:List Bool),j+e=v1.length→out.length=defs.length→bg.length=defs.length→cnt bg<c0→
    ∃ VT out' ok' bg', (∃ K, ∀ k m, K ≤ k → K ≤ m → fE.l0 (fE.f k) defs v1 m inn (j : Int) ok out bg = some (VT, ok', out', bg')) ∧ Post defs out ok bg out' ok' bg' ∧
      (ok'=true→Jn defs out→(∀c∈v1.drop j,0<out'.getD c.toNat 0)∧VT=(v1.drop j).foldl (fun _ c=>out'.getD c.toNat 0) inn):=by
  intro e
  induction e with
  | zero =>
    intro j inn out ok bg hj h1 h2 h3
    refine ⟨inn,out,ok,bg,⟨1,fun k m _ hm=>?_⟩,Post.rfl' h1 h2,fun _ _=>?_⟩
    · obtain ⟨m,rfl⟩:∃q,m=q+1:=⟨m-1,by omega⟩
      rw [fE.l0,if_neg (by simp;omega)]
    · rw [List.drop_eq_nil_of_le (by omega)];simp
  | succ e ih =>
    intro j inn out ok bg hj h1 h2 h3
    have hlt:j<v1.length:=by omega
    have hm:=hv _ (getD_mem (z:=0) hlt)
    obtain ⟨i,hi⟩:∃i:Nat,v1.getD j 0=(i:Int):=⟨(v1.getD j 0).toNat,by omega⟩
    obtain ⟨r,o1,k1,b1,⟨K1,hK1⟩,hP1,hr1⟩:=hc i out ok bg (by omega) h1 h2 h3
    have hcl:=cnt_le bg b1 (by rw [h2,hP1.lb]) hP1.bgm
    obtain ⟨VT,o2,k2,b2,⟨K2,hK2⟩,hP2,hr2⟩:=ih (j+1) r o1 k1 b1 (by omega) hP1.lo hP1.lb (by omega)
    refine ⟨VT,o2,k2,b2,⟨max K1 K2+1,fun k m hk hm'=>?_⟩,hP1.trans hP2,fun hok hJ=>?_⟩
    · obtain ⟨m,rfl⟩:∃q,m=q+1:=⟨m-1,by omega⟩
      rw [fE.l0,if_pos (by simp;omega),if_pos (by omega),ig,hi,show fE.f k _ _ _ _ _=_ from hK1 k (by omega)]
      simp only [Option.bind_some]
      rw [fF hlt hvl]
      exact hK2 k m (by omega) (by omega)
    · obtain ⟨h5,h6⟩:=hr2 hok (hP1.jn (hP2.okm hok) hJ)
      obtain ⟨h7,h8⟩:=hr1 (hP2.okm hok) hJ
      have h9:=hP2.keep hok i (by rw [←h8];exact h7)
      rw [jV 0 hlt,hi]
      refine ⟨fun c hc'=>?_,?_⟩
      · rcases List.mem_cons.1 hc' with rfl|hc'
        · simp only [Int.toNat_natCast]
          rw [h9,←h8];exact h7
        · exact h5 c hc'
      · rw [List.foldl_cons,h6]
        simp only [Int.toNat_natCast]
        rw [h9,←h8]
theorem KO (hS : ∀ d ∈ defs, ShD d defs.length) : ∀ (c : Nat) (i : Nat) (out : List Int) (ok : Bool) (bg : List Bool), i < defs.length → out.length = defs.length → bg.length = defs.length → cnt bg = c → Vk (defs := defs) i out ok bg := by
  intro c
  induction c using Nat.strongRecOn with
  | _ c ihc =>
    intro i out ok bg hi h1 h2 hcnt
    by_cases hA:0<out.getD i 0∨ok=false
    · refine ⟨out.getD i 0,out,ok,bg,⟨1,fun k hk=>?_⟩,Post.rfl' h1 h2,fun hk _=>?_⟩
      · obtain ⟨k,rfl⟩:∃q,k=q+1:=⟨k-1,by omega⟩
        show fE.f (k+1) _ _ _ _ _=_
        rw [fE.f, if_pos (by omega), ig, if_pos (by
          rcases hA with h|h
          · simp only [Bool.or_eq_true,decide_eq_true_eq];exact .inl h
          · simp [h]), if_pos (by omega)]
      · rcases hA with h|h
        · exact ⟨h,X⟩
        · rw [h] at hk;cases hk
    · have hA1:¬0<out.getD i 0:=fun h=>hA (.inl h)
      have hok:ok=true:=by cases ok with
        |true=>rfl
        |false=>exact absurd (.inr rfl) hA
      subst hok
      cases hb:bg.getD i false with
      | true =>
        refine ⟨0,out,false,bg,⟨1,fun k hk=>?_⟩,⟨h1,h2,fun _ h=>h,(fun h=>by cases h),(fun h=>by cases h),(fun h=>by cases h),(fun h=>by cases h)⟩,(fun h _=>by cases h)⟩
        obtain ⟨k,rfl⟩:∃q,k=q+1:=⟨k-1,by omega⟩
        show fE.f (k+1) _ _ _ _ _=_
        rw [fE.f,if_pos (by omega),ig,if_neg (by simp only [Bool.not_true,Bool.or_false,decide_eq_true_eq];exact hA1),if_pos (by omega),ig,if_pos hb]
      | false =>
        have hd:=hS _ (getD_mem (z:=ah) hi)
        have hcr:=sD hd
        have hcs:=Ol bg i (by omega) hb
        have WO:(cont (defs.getD i ah)).length≤9223372036854775807:=by
          have:=hd.few
          unfold cont
          split
          · simp
          · split
            · rw [List.length_map];omega
            · simp
        obtain ⟨Kc,hKc⟩:=Bo (d:=defs.getD i ah) (by have:=hd.few;omega)
        obtain ⟨inn,o1,k1,b1,⟨K1,hK1⟩,hP,hr⟩:=KN (defs:=defs) (c0:=c) (cont (defs.getD i ah)) hcr WO (fun i' out' ok' bg' a b c' d=>ihc (cnt bg') d i' out' ok' bg' a b c' rfl)
          (cont (defs.getD i ah)).length 0 0 out true (bg.set i true) (by omega) h1 (by simpa using h2) (by omega)
        rw [List.drop_zero] at hr
        have hb1:(bg.set i true).getD i false=true:=by rw [qR (by omega),if_pos X]
        have hbm:∀j,bg.getD j false=true→(bg.set i true).getD j false=true:=fun j hj=>by
          rw [qR (by omega)]
          split
          · rfl
          · exact hj
        have fin : Jn defs out → (k1 && decide (nval (defs.getD i ah) inn ≤ 512)) = true → 0 < nval (defs.getD i ah) inn ∧ Jn defs (o1.set i (nval (defs.getD i ah) inn)) := by
          intro hJ hk
          simp only [Bool.and_eq_true,decide_eq_true_eq] at hk
          obtain ⟨hk1,WQ⟩:=hk
          obtain ⟨hr1,hr2⟩:=hr hk1 hJ
          have hi0:=hP.stack hk1 i hb1 (by omega)
          have hJ1:=hP.jn hk1 hJ
          have Xu:inn=inner o1 (defs.getD i ah):=hr2
          have WR:0<nval (defs.getD i ah) inn:=by
            obtain ⟨rk,B,hB⟩:=hJ1
            have href:(defs.getD i ah).aA=3∨(defs.getD i ah).aA=6→0<inn∧inn≤512:=by
              intro hk
              have hcd:cont (defs.getD i ah)=[(defs.getD i ah).bY]:=by
                unfold cont
                rw [if_pos (by simp only [Bool.or_eq_true,beq_iff_eq];exact hk)]
              rw [hcd] at hr1 hcr
              have h5:=hr1 _ (List.mem_singleton.2 X)
              have h6:=hcr _ (List.mem_singleton.2 X)
              have h7:=hB (defs.getD i ah).bY.toNat (by omega) h5
              rw [Xu]
              unfold inner
              rw [hcd]
              simp only [List.foldl_cons,List.foldl_nil]
              exact ⟨h5,h7.2.1⟩
            have hkd:=hd.kind
            have hnum:=hd.num
            have hint:=hd.int
            unfold nval
            by_cases e1:(defs.getD i ah).aA=1
            · rw [if_pos e1];have:=hint e1;omega
            · rw [if_neg e1]
              by_cases e2:(defs.getD i ah).aA=2
              · rw [if_pos e2];decide
              · rw [if_neg e2]
                by_cases e3:(defs.getD i ah).aA=3
                · rw [if_pos e3]
                  obtain ⟨h5,h6⟩:=href (.inl e3)
                  obtain ⟨h7,h8⟩:=hnum (.inl e3)
                  have h9:(defs.getD i ah).vN*inn≤512*512:=Int.mul_le_mul h8 h6 (by omega) (by omega)
                  have h10:0<(defs.getD i ah).vN*inn:=Int.mul_pos (by omega) h5
                  rw [yE (by omega) (by omega)]
                  exact h10
                · rw [if_neg e3]
                  by_cases e4:(defs.getD i ah).aA=4
                  · rw [if_pos e4];have:=hnum (.inr e4);omega
                  · rw [if_neg e4]
                    by_cases e5:(defs.getD i ah).aA=5
                    · rw [if_pos e5];decide
                    · rw [if_neg e5,if_pos (by omega)]
                      exact (href (.inr (by omega))).1
          refine ⟨WR,?_⟩
          obtain ⟨rk,B,hB⟩:=hJ1
          have hne:∀c:Int,0<o1.getD c.toNat 0→¬i=c.toNat:=fun c hc e=>by rw [←e] at hc;omega
          have hset:∀j,¬i=j→(o1.set i (nval (defs.getD i ah) inn)).getD j 0=o1.getD j 0:=fun j hj=>by rw [qR (by rw [hP.lo];exact hi),if_neg hj]
          have hin:∀d:aZ,(∀c∈cont d,0<o1.getD c.toNat 0)→inner (o1.set i (nval (defs.getD i ah) inn)) d=inner o1 d:=by
            intro d hcd
            have key:∀(l:List Int) (z0:Int),(∀c∈l,0<o1.getD c.toNat 0)→l.foldl (fun _ c=>(o1.set i (nval (defs.getD i ah) inn)).getD c.toNat 0) z0=l.foldl (fun _ c=>o1.getD c.toNat 0) z0:=by
              intro l
              induction l with
              |nil=>intro _ _;rfl
              | cons c l ihl =>
                intro z0 hcd
                rw [List.foldl_cons,List.foldl_cons,hset _ (hne c (hcd c List.mem_cons_self))]
                exact ihl _ (fun c hc=>hcd c (List.mem_cons_of_mem _ hc))
            exact key _ _ hcd
          refine ⟨fun j=>if i=j then B else rk j,B+1,fun j hj hpos=>?_⟩
          show (if i=j then B else rk j)<B+1∧_∧(∀c:Int,c∈cont (defs.getD j ah)→_∧(if i=c.toNat then B else rk c.toNat)<(if i=j then B else rk j))∧_
          by_cases hij:i=j
          · subst hij
            rw [qR (by rw [hP.lo];exact hi),if_pos rfl,if_pos rfl]
            refine ⟨by omega,WQ,fun c hc=>?_,?_⟩
            · have h5:=hr1 c hc
              have h6:=hcr c hc
              rw [hset _ (hne c h5),if_neg (hne c h5)]
              exact ⟨h5,(hB c.toNat (by omega) h5).1⟩
            · rw [hin _ hr1,←Xu]
          · rw [hset j hij] at hpos⊢
            obtain ⟨h5,h6,h7,h8⟩:=hB j hj hpos
            rw [if_neg hij]
            refine ⟨by omega,h6,fun c hc=>?_,?_⟩
            · obtain ⟨h9,h10⟩:=h7 c hc
              rw [hset _ (hne c h9),if_neg (hne c h9)]
              exact ⟨h9,h10⟩
            · rw [hin _ (fun c hc=>(h7 c hc).1)];exact h8
        refine ⟨nval (defs.getD i ah) inn,o1.set i (nval (defs.getD i ah) inn),k1&&decide (nval (defs.getD i ah) inn≤512),b1,⟨max Kc K1+1,fun k hk=>?_⟩,?_,?_⟩
        · obtain ⟨k,rfl⟩:∃q,k=q+1:=⟨k-1,by omega⟩
          show fE.f (k+1) _ _ _ _ _=_
          rw [fE.f,if_pos (by omega),ig,if_neg (by simp only [Bool.not_true,Bool.or_false,decide_eq_true_eq];exact hA1),if_pos (by omega),ig,if_neg (by rw [hb];simp),if_pos (by omega),if_pos (by omega),ig,show iW.f k _=_ from hKc k (by omega)]
          simp only [Option.bind_some,Int.toNat_natCast]
          rw [show fE.l0 (fE.f k) defs _ k 0 0 true out _=_ from hK1 k k (by omega) (by omega)]
          simp only [Option.bind_some]
          rw [if_pos (by rw [hP.lo];omega)]
          simp only [Oi]
        · refine ⟨by simp [hP.lo],hP.lb,fun j hj=>hP.bgm j (hbm j hj),fun _=>rfl,fun hk j hj=>?_,fun hk j hj ho=>?_,fun hk hJ=>?_⟩
          · have hk1:k1=true:=by simp only [Bool.and_eq_true] at hk;exact hk.1
            rw [qR (by rw [hP.lo];exact hi),if_neg (fun e=>hA1 (by subst e;exact hj))]
            exact hP.keep hk1 j hj
          · have hk1:k1=true:=by simp only [Bool.and_eq_true] at hk;exact hk.1
            rw [qR (by rw [hP.lo];exact hi),if_neg (fun e=>by subst e;rw [hb] at hj;cases hj)]
            exact hP.stack hk1 j (hbm j hj) ho
          · exact (fin hJ hk).2
        · intro hk hJ
          refine ⟨(fin hJ hk).1,?_⟩
          rw [qR (by rw [hP.lo];exact hi),if_pos rfl]
end
theorem Jn.zero {defs : List aZ} {n : Nat} : Jn defs (List.replicate n 0) := ⟨fun _ => 0, 0, fun j hj h => by
 exfalso
 rw [List.getD_eq_getElem?_getD,List.getElem?_replicate] at h
 split at h <;> simp at h⟩
theorem Qr {t : aQ} (hS : ∀ d ∈ t.au, ShD d t.au.length) (hn : t.au.length ≤ 9223372036854775807) : ∀ (e j : Nat) (ok : Bool) (bg : List Bool) (out : List Int), j + e = t.au.length → out.length = t.au.length → bg.length = t.au.length →
    ∃ok' bg' out',Ev2 (fun k m=>iT.l0 k t m (j:Int) ok bg out) (ok',bg',out')∧Post t.au out ok bg out' ok' bg'∧(ok'=true→Jn t.au out→∀q,j≤q→q<t.au.length→0<out'.getD q 0):=by
  intro e
  induction e with
  | zero =>
    intro j ok bg out hj h1 h2
    refine ⟨ok,bg,out,Ev2.pure (fun k m=>?_),Post.rfl' h1 h2,fun _ _ q hq hq2=>by omega⟩
    rw [iT.l0,if_neg (by simp;omega)]
  | succ e ih =>
    intro j ok bg out hj h1 h2
    have hlt:j<t.au.length:=by omega
    obtain ⟨r,o1,k1,b1,hE,hP1,hr1⟩:=KO hS (cnt bg) j out ok bg hlt h1 h2 rfl
    obtain ⟨ok',bg',out',hE2,hP2,hr2⟩:=ih (j+1) k1 b1 o1 (by omega) hP1.lo hP1.lb
    refine ⟨ok',bg',out',Ev2.step hE (r:=fun k m (v1:Int×List Int×Bool×List Bool)=>iT.l0 k t m (IntKind.wrap .i64 ((j:Int)+1)) v1.2.2.1 v1.2.2.2 v1.2.1) ?_ (fun k m=>?_),hP1.trans hP2,fun hok hJ q hq hq2=>?_⟩
    · simp only
      rw [fF hlt hn]
      exact hE2
    · rw [iT.l0,if_pos (by simp;omega)]
    · by_cases hqj:q=j
      · subst hqj
        obtain ⟨h3,h4⟩:=hr1 (hP2.okm hok) hJ
        rw [hP2.keep hok q (by rw [←h4];exact h3),←h4]
        exact h3
      · exact hr2 hok (hP1.jn (hP2.okm hok) hJ) q (by omega) hq2
theorem Qs {t:aQ} (hS:∀d∈t.au,ShD d t.au.length) (hn:t.au.length≤200):∃out ok,Ev (fun k=>iT.f k t) (out,ok)∧out.length=t.au.length∧(ok=true→Jn t.au out∧∀q,q<t.au.length→0<out.getD q 0):=by
 obtain ⟨ok,bg,out,hE,hP,hr⟩:=Qr hS (by omega) t.au.length 0 true (List.replicate t.au.length false) (List.replicate t.au.length 0) (by omega) (by simp) (by simp)
 obtain ⟨K,hK⟩:=hE.diag
 refine ⟨out,ok,⟨K,fun k hk=>?_⟩,hP.lo,fun hok=>⟨hP.jn hok Jn.zero,fun q hq=>hr hok Jn.zero q (by omega) hq⟩⟩
 show iT.f k t=_
 unfold iT.f
 rw [if_pos (by omega),if_pos (by omega)]
 simp only [Int.toNat_natCast]
 rw [show iT.l0 k t k 0 true _ _=_ from hK k hk]
 rfl
def pV (l:List Int):Int→List bf→Option Int
 |at_,[]=>some at_
 |at_,f::r=>if ((decide (f.vAt<at_))||(decide (f.vAt>512)))=true then none else pV l (IntKind.wrap .i64 (f.vAt+rd 0 l f.vType)) r
def xg (d:aZ) (l:List Int):Bool:=match pV l 0 d.ak with|none=>false|some e=>decide (e≤d.vN)
theorem IZ {d:aZ} {l:List Int} (hl:d.ak.length≤9223372036854775807) (ht:∀f∈d.ak,0≤f.vType∧f.vType<l.length):∀(e j m:Nat) (at_:Int),j+e=d.ak.length→e<m→
    kK.l0 d l m at_ (j:Int)=some (match pV l at_ (d.ak.drop j) with|none=> .inl false|some a=> .inr a):=by
  intro e
  induction e with
  | zero =>
    intro j m at_ hj hm
    obtain ⟨m,rfl⟩:∃q,m=q+1:=⟨m-1,by omega⟩
    rw [kK.l0,if_neg (by simp;omega),List.drop_eq_nil_of_le (by omega)]
    rfl
  | succ e ih =>
    intro j m at_ hj hm
    obtain ⟨m,rfl⟩:∃q,m=q+1:=⟨m-1,by omega⟩
    have hlt:j<d.ak.length:=by omega
    have hf:=ht _ (getD_mem (z:=aj) hlt)
    rw [kK.l0,if_pos (by simp;omega),if_pos (by omega),ig,jV aj hlt]
    simp only [pV]
    by_cases hc:((decide ((d.ak.getD j aj).vAt<at_))||(decide ((d.ak.getD j aj).vAt>512)))=true
    · rw [if_pos hc,if_pos hc]
    · rw [if_neg hc,if_neg hc,if_pos hf,fF hlt hl,ih (j+1) m _ (by omega) (by omega)]
theorem GV {d:aZ} {l:List Int} (hl:d.ak.length≤9223372036854775807) (ht:∀f∈d.ak,0≤f.vType∧f.vType<l.length):Ev (fun k=>kK.f k d l) (xg d l):=by
 refine ⟨d.ak.length+1,fun k hk=>?_⟩
 show kK.f k d l=_
 unfold kK.f xg
 rw [show kK.l0 d l k 0 0=_ from IZ hl ht d.ak.length 0 k 0 (by omega) (by omega),List.drop_zero]
 cases pV l 0 d.ak<;>rfl
def gy (d:aZ):Bool:=(d.aA !=2)&&(d.aA !=3)
def pW (defs:List aZ):Nat→aZ→Bool
 |0,d=> !gy d
 |m+1,d=>if gy d=true then false else pW defs m (rd ah defs d.bY)
theorem Om {t : aQ} (hS : ∀ d ∈ t.au, ShD d t.au.length) (hn : t.au.length ≤ 9223372036854775807) : ∀ (e j m : Nat) (d : aZ), d ∈ t.au → j + e = t.au.length → e < m →
    ((kJ.l0 t m (j:Int) d.aA d.aF d.aY.aU d.aY.aJ d.bY d.vN d.ak).bind fun xx1=>(match xx1 with| .inl r=>some r| .inr s1=>(jH.f (⟨s1.1,s1.2.1,(⟨s1.2.2.1,s1.2.2.2.1⟩:jE),s1.2.2.2.2.1,s1.2.2.2.2.2.1,s1.2.2.2.2.2.2⟩:aZ)).bind fun v2=>(some (!v2))))=some (pW t.au e d):=by
  intro e
  induction e with
  | zero =>
    intro j m d hd hj hm
    obtain ⟨m,rfl⟩:∃q,m=q+1:=⟨m-1,by omega⟩
    rw [kJ.l0,if_neg (by simp;omega)]
    rfl
  | succ e ih =>
    intro j m d hd hj hm
    obtain ⟨m,rfl⟩:∃q,m=q+1:=⟨m-1,by omega⟩
    rw [kJ.l0,if_pos (by simp;omega)]
    simp only [jH.f,Option.bind_some,pW]
    show (Option.bind (if gy d=true then _ else _) _)=_
    by_cases hnm:gy d=true
    · rw [if_pos hnm,if_pos hnm];rfl
    · rw [if_neg hnm,if_neg hnm]
      have hk:d.aA=2∨d.aA=3:=by
        unfold gy at hnm
        by_cases h2:d.aA=2
        · exact .inl h2
        · by_cases h3:d.aA=3
          · exact .inr h3
          · exact absurd (by simp [h2,h3]) hnm
      have hr:=(hS d hd).ref (by omega)
      rw [if_pos hr,fF (show j<t.au.length by omega) hn]
      have:=ih (j+1) m (rd ah t.au d.bY) (RJ hr.1 hr.2) (by omega) (by omega)
      simp only [jH.f,Option.bind_some] at this
      exact this
theorem Oo {t:aQ} (hS:∀d∈t.au,ShD d t.au.length) (hn:t.au.length≤200):Ev (fun k=>tZ.f k t) (!(t.au.any (pW t.au t.au.length))):=by
 have h := zq (l := t.au) (p := fun k z0 => kJ.f k z0 t) (q := pW t.au t.au.length) (fun z hz => ⟨t.au.length + 1, fun k hk => by
  show kJ.f k z t=_
  unfold kJ.f
  exact Om hS (by omega) t.au.length 0 k z hz (by omega) (by omega)⟩) (by omega)
 exact (h.bind (g:=fun k v1=>some (!v1)) (Ev.pure fun _=>rfl)).congr fun k=>rfl
def xI (n:Nat):List ByteArray→List aZ→Bool
 |_,[]=>true
 |ns,d::r=>nS d (n:Int)&& !(gy d&&ns.any (strEq d.aF))&&xI n (d.aF::ns) r
structure Ce (d:aZ):Prop where
 name:d.aF.size≤9223372036854775807
 len:d.ak.length≤9223372036854775807
 names:∀f∈d.ak,f.aF.size≤9223372036854775807
theorem EC {t : aQ} (hF : ∀ d ∈ t.au, Ce d) (hn : t.au.length ≤ 9223372036854775807) : ∀ (e j : Nat) (m : List (ByteArray × Bool)) (ns : List ByteArray), j + e = t.au.length → y8 m ns →
    ∃v,Ev2 (fun k q=>dH.l0 k t q (j:Int) m) v∧(match v with| .inl b=>b=false∧xI t.au.length ns (t.au.drop j)=false| .inr _=>xI t.au.length ns (t.au.drop j)=true):=by
  intro e
  induction e with
  | zero =>
    intro j m ns hj hm
    refine ⟨.inr m,Ev2.pure (fun k q=>?_),?_⟩
    · rw [dH.l0,if_neg (by simp;omega)]
    · rw [List.drop_eq_nil_of_le (by omega)];rfl
  | succ e ih =>
    intro j m ns hj hm
    have hlt:j<t.au.length:=by omega
    have hmem:=getD_mem (z:=ah) hlt
    have hFd:=hF _ hmem
    obtain ⟨v,hv,hp⟩:=ih (j+1) (iG strEq m (t.au.getD j ah).aF true) ((t.au.getD j ah).aF::ns) (by omega) (hm.put _)
    have hs:=Oh (n:=(t.au.length:Int)) hFd.len hFd.names hFd.name
    rw [jV ah hlt]
    have hstep:∀k q,dH.l0 k t (q+1) (j:Int) m=(jl.f k (t.au.getD j ah) (t.au.length:Int)).bind fun v1=>
        if ((!v1)||(gy (t.au.getD j ah)&&ns.any (strEq (t.au.getD j ah).aF)))=true then some (.inl false) else dH.l0 k t q ((j+1:Nat):Int) (iG strEq m (t.au.getD j ah).aF true):=by
      intro k q
      rw [dH.l0,if_pos (by simp;omega),if_pos (by omega),ig,fF hlt hn,hm]
      congr 1
      funext v1
      simp only [jH.f]
      cases v1 with
      |false=>simp
      |true=>rfl
    simp only [xI]
    generalize hf:t.au.getD j ah=d at*
    by_cases hc:(nS d (t.au.length:Int)&& !(gy d&&ns.any (strEq d.aF)))=true
    · refine ⟨v,Ev2.step hs (r:=fun k q v1=>if ((!v1)||(gy d&&ns.any (strEq d.aF)))=true then some (.inl false) else dH.l0 k t q ((j+1:Nat):Int) (iG strEq m d.aF true)) ?_ hstep,?_⟩
      · obtain ⟨K,hK⟩:=hv
        refine ⟨K,fun k q hk hq=>?_⟩
        simp only [Bool.and_eq_true,Bool.not_eq_true'] at hc
        show (if _ then _ else _)=_
        rw [hc.1,hc.2]
        simpa using hK k q hk hq
      · rw [hc]
        cases v with
        |inl b=>simpa using hp
        |inr b=>simpa using hp
    · rw [Bool.not_eq_true] at hc
      refine ⟨.inl false,Ev2.step hs (r:=fun k q v1=>if ((!v1)||(gy d&&ns.any (strEq d.aF)))=true then some (.inl false) else dH.l0 k t q ((j+1:Nat):Int) (iG strEq m d.aF true)) ⟨0,fun k q _ _=>?_⟩ hstep,X,by rw [hc];rfl⟩
      show (if _ then _ else _)=_
      rw [if_pos]
      cases h1:nS d (t.au.length:Int) with
      |false=>rfl
      |true=>rw [h1] at hc;simpa using hc
theorem DI {n:Nat}:∀(ns:List ByteArray) (l:List aZ),xI n ns l=true→∀d∈l,ShD d n
  |_,[],_=>by simp
  | ns, d :: r, h => by
    simp only [xI,Bool.and_eq_true] at h
    intro x hx
    rcases List.mem_cons.1 hx with rfl|hx
    · exact Oj h.1.1
    · exact DI _ r h.2 x hx
structure KP (t:aQ) (l:List Int):Prop where
 few:t.au.length≤200
 sh:∀d∈t.au,ShD d t.au.length
 sizes:Ev (fun k=>iT.f k t) (l,true)
 len:l.length=t.au.length
 jn:Jn t.au l
 pos:∀q,q<t.au.length→0<l.getD q 0
 ends:∀d∈t.au,pW t.au t.au.length d=false
 placed:∀d∈t.au,d.aA=4→xg d l=true
 defs:xI t.au.length [] t.au=true
theorem Qu {t : aQ} (hF : ∀ d ∈ t.au, Ce d) : ∃ b, Ev (fun k => dH.f k t) b ∧ (b = true → ∃ l, KP t l) := by
  by_cases hn:(t.au.length:Int)>200
  · refine ⟨false,Ev.pure (fun k=>?_),fun h=>by cases h⟩
    unfold dH.f
    rw [if_pos (by simpa using hn)]
  · have hn : t.au.length ≤ 200 := by omega
    have hcond:¬decide ((t.au.length:Int)>200)=true:=by simp;omega
    obtain ⟨v,hv,hp⟩:=EC hF (by omega) t.au.length 0 [] [] (by omega) y8.nil
    rw [List.drop_zero] at hp
    cases v with
    | inl b =>
      simp only at hp
      obtain ⟨rfl,hp⟩:=hp
      obtain ⟨K,hK⟩:=hv.diag
      refine ⟨false,⟨K,fun k hk=>?_⟩,fun h=>by cases h⟩
      show dH.f k t=_
      unfold dH.f
      rw [if_neg hcond,show dH.l0 k t k 0 []=_ from hK k hk]
      rfl
    | inr m =>
      simp only at hp
      have hS:=DI _ _ hp
      obtain ⟨out,ok,hsz,hlen,hok⟩:=Qs hS hn
      obtain ⟨K,hK⟩:=hv.diag
      obtain ⟨K2,hK2⟩:=hsz
      cases ok with
      | false =>
        refine ⟨false,⟨max K K2,fun k hk=>?_⟩,fun h=>by cases h⟩
        show dH.f k t=_
        unfold dH.f
        rw [if_neg hcond,show dH.l0 k t k 0 []=_ from hK k (by omega)]
        simp only [Option.bind_some]
        rw [show iT.f k t=_ from hK2 k (by omega)]
        simp
      | true =>
        obtain ⟨hJ,hpos⟩:=hok rfl
        obtain ⟨K3,hK3⟩:=Oo hS hn
        obtain ⟨K4, hK4⟩ := zq (l := t.au) (p := fun k z0 => mF.f k z0 out) (q := fun d => (d.aA == 4) && !(xg d out)) (fun d hd => by
          by_cases h4:d.aA=4
          · have:=GV (d:=d) (l:=out) (hF d hd).len (fun f hf=>by have:=(hS d hd).typ h4 f hf;rw [hlen];exact this)
            exact (this.bind (g:=fun k v1=>some ((d.aA==4)&&(!v1))) (Ev.pure fun _=>rfl)).congr fun k=>by
              unfold mF.f
              rw [if_pos (by simp [h4])]
          · refine Ev.pure fun k=>?_
            unfold mF.f
            rw [if_neg (by simp [h4])]
            simp [h4]) (by omega)
        cases he:t.au.any (pW t.au t.au.length) with
        | true =>
          refine ⟨false,⟨max (max K K2) K3,fun k hk=>?_⟩,fun h=>by cases h⟩
          show dH.f k t=_
          unfold dH.f
          rw [if_neg hcond,show dH.l0 k t k 0 []=_ from hK k (by omega)]
          simp only [Option.bind_some]
          rw [show iT.f k t=_ from hK2 k (by omega)]
          simp only [Option.bind_some]
          rw [show tZ.f k t=_ from hK3 k (by omega),he]
          simp
        | false =>
          refine ⟨!(t.au.any fun d=>(d.aA==4)&& !(xg d out)),⟨max (max K K2) (max K3 K4),fun k hk=>?_⟩,fun h=>⟨out,hn,hS,⟨K2,hK2⟩,hlen,hJ,hpos,fun d hd=>?_,fun d hd h4=>?_,hp⟩⟩
          · show dH.f k t=_
            unfold dH.f
            rw [if_neg hcond,show dH.l0 k t k 0 []=_ from hK k (by omega)]
            simp only [Option.bind_some]
            rw [show iT.f k t=_ from hK2 k (by omega)]
            simp only [Option.bind_some]
            rw [show tZ.f k t=_ from hK3 k (by omega),he]
            simp only [Bool.not_true,Bool.not_false,beq_self_eq_true,Bool.and_self,if_true,Option.bind_some,Bool.or_self,Bool.false_eq_true,if_false]
            rw [show eG.f k t.au _=_ from hK4 k (by omega)]
            rfl
          · have:=List.any_eq_false.1 he d hd
            simpa using this
          · simp only [Bool.not_eq_true'] at h
            have:=List.any_eq_false.1 h d hd
            simpa [h4] using this
end Go.Proofs.YtfjppgobidjndaaGreatDoor
namespace Go.Proofs.YtfjppgobidjndaaGreatDoor
open Go.ChangeShapes Go.WideShapes Go.ChangeAt Go.RowKit Go.M
set_option maxRecDepth 100000
theorem own:ownKnob Tryz.prog.godebug=none:=by kernel_rfl
theorem laidOut:laidOutB Tryz.prog=true:=by kernel_rfl
theorem Yh : Tryz.prog.globalNamed "internal/strconv.uint64pow10" = some 0 := by kernel_rfl
theorem Qv:(Tryz.prog.globals[0]?).map (·.type)=some 141:=by kernel_rfl
theorem Qw:Tryz.prog.cellsOf 141=20:=by kernel_rfl
theorem Qx:Tryz.prog.cellsOf 124=1:=by kernel_rfl
theorem GX {P:Program} {x:String×DataW Unit} {rest:List (String×DataW Unit)} {W:World} (h:laidMet P (x::rest) W):laidMet P rest W:=by
 obtain ⟨ps,⟨g',t',cs,fuel,p,q,hg',ht',hvar,hd,hr,e⟩,hn,hc⟩:=h
 subst e
 refine ⟨q,hr,?_,fun b off hm=>hc b off (List.mem_append_right _ hm)⟩
 exact (List.nodup_append.1 hn).2.1
abbrev TM : List (String × DataW Unit) := [("math/bits.deBruijn32tab", Rows.laid_math_bits_deBruijn32tab), ("math/bits.deBruijn64tab", Rows.laid_math_bits_deBruijn64tab), ("internal/strconv.uint64pow10", Rows.laid_internal_strconv_uint64pow10)]
theorem Vl {W:World} (h:laidMetH Tryz.prog TM W):Tab W:=
 Lib.tabIs_of_head (rest:=[]) (zs:=Lib.pow10Tab) Yh Qv Tryz.underlying141 Tryz.underlying124 Qx Qw (GX (GX h))
section
variable {H:Type} {enc:TypeId×Value→H} {W:World}
theorem KQ {n:Nat} (h:n≤maxLen):n≤9223372036854775807:=by unfold maxLen at h;omega
theorem op3:Opn enc Tryz.prog W 3 (Kd.int .i64) (fun n=>(Lit.int .i64 n).wf=true):=UC B9 (by kernel_rfl)
theorem op4:Opn enc Tryz.prog W 4 Kd.bool (fun _=>True):=Sv Cg (by kernel_rfl)
theorem op9:Opn enc Tryz.prog W 9 Kd.str (fun s=>s.size≤maxLen):=UD Da (by kernel_rfl)
theorem Yi:Opn enc Tryz.prog W 25 (Kd.slice Kd.str) (fun xs=>xs.length≤9223372036854775807∧∀s∈xs,s.size≤9223372036854775807):=
 (EY op9 C7 (by kernel_rfl)).weak fun xs h=>⟨KQ h.1,fun s hs=>KQ (h.2 s hs)⟩
theorem Yj:Opn enc Tryz.prog W 55 Df (fun _=>True):=
 (Jp (fun p=>(⟨p.1,p.2⟩:jE)) (fun _=>rfl) (zK Ch (by kernel_rfl) (uV op3 rfl (EZ op4 rfl)))).weak fun _ _=>trivial
theorem Yk:Opn enc Tryz.prog W 48 dw (fun f=>f.aF.size≤9223372036854775807):=
 (Jp (fun p=>(⟨p.1,p.2.1,p.2.2⟩:bf)) (fun _=>rfl) (zK C3 (by kernel_rfl) (uV op9 rfl (uV op3 rfl (EZ op3 rfl))))).weak fun _ h=>KQ h.1
theorem Yl:Opn enc Tryz.prog W 58 bI Ce:=
 (Jp (fun p => (⟨p.1, p.2.1, p.2.2.1, p.2.2.2.1, p.2.2.2.2.1, p.2.2.2.2.2⟩ : aZ)) (fun _ => rfl) (zK Tryz.underlying58 (by kernel_rfl)
  (uV op3 rfl (uV op9 rfl (uV Yj rfl (uV op3 rfl (uV op3 rfl (EZ (EY Yk Tryz.underlying56 (by kernel_rfl)) rfl)))))))).weak fun _ h => ⟨KQ h.2.1, KQ h.2.2.2.2.2.1, h.2.2.2.2.2.2⟩
def Xv (t:aQ):Prop:=t.au.length≤9223372036854775807∧∀d∈t.au,Ce d
theorem Ym:Opn enc Tryz.prog W 24 Dh Xv:=
 (Jp (fun p=>(⟨p⟩:aQ)) (fun _=>rfl) (zK C8 (by kernel_rfl) (EZ (EY Yl Tryz.underlying22 (by kernel_rfl)) rfl))).weak fun _ h=>⟨KQ h.1,h.2⟩
theorem Vm {b:Nat} {v:Value} {d:DataW H} {p:List MemPlace} (hval:Value.okWide Tryz.prog W .any b 24 v) (h:DataW.Trod enc Tryz.prog W 0 (fun _=>true) true 24 v d p):
  ∃(t:aQ) (A:Option Addr) (c:Nat),v= .agg #[.slice A t.au.length c]∧Rd bI (vw W) A t.au∧t.au.length≤c∧Xv t:=by
 obtain ⟨cs,rfl,_⟩:=okWide_struct C8 hval
 obtain ⟨fuel,hf⟩:=h
 obtain ⟨t,⟨A,c,hcs,hc,hr⟩,hF⟩:=Ym.open_ _ _ _ hf
 refine ⟨t,A,c,?_,hr,hc,hF⟩
 have:cs.toList=[.slice A t.au.length c]:=hcs
 rw [←Array.toArray_toList (xs:=cs),this]
theorem WS {b:Nat} {v:Value} {d:DataW H} {p:List MemPlace} (hval:Value.okWide Tryz.prog W .any b 25 v) (h:DataW.Trod enc Tryz.prog W 0 (fun _=>true) true 25 v d p):
  ∃(xs:List ByteArray) (A:Option Addr) (c:Nat),v= .slice A xs.length c∧Rd Kd.str (vw W) A xs∧xs.length≤c∧xs.length≤9223372036854775807∧∀s∈xs,s.size≤9223372036854775807:=by
 obtain ⟨a,len,cap,rfl⟩:=okWide_slice C7 hval
 obtain ⟨fuel,hf⟩:=h
 obtain ⟨xs,⟨A,c,hcs,hc,hr⟩,hF⟩:=Yi.open_ _ _ _ hf
 have:[Value.slice a len cap]=[Value.slice A xs.length c]:=hcs
 injection this with this
 injection this with h1 h2 h3
 subst h1 h2 h3
 exact ⟨xs,_,_,X,hr,hc,hF⟩
theorem Qy {fn:Func} {s:ChangeSpec} {args:Array Value} {ds gs:List (DataW H)} {before:List MemPlace} {W':World} (hT:∀t∈fn.params.toList,Tryz.prog.readableRec t=true∧t<Tryz.prog.types.size) (hr:fn.resultTypes=#[4]) (hvs:s.vars=[])
  (hfn:s.fn H (ds++gs)={results:=[.lit (.bool true)],args:=ds}) (hW:DataW.Whole enc Tryz.prog fn.params.toList s.vars false W args.toList ds gs before) (hE:Ext W W'):s.post enc Tryz.prog fn false true false false W args (.bool true) W':=by
 have hW':=hW
 obtain ⟨p,q,hA,hV,e,hfz,hnd⟩:=hW
 rw [hvs] at hV
 obtain ⟨rfl,rfl⟩:=trodVars_none hV
 have hlt:∀x∈p,x.block<W.heap.size:=fun x hx=>hW'.lt x (by rw [e];exact List.mem_append_left _ hx)
 refine ⟨ds,[],before,[],p,[],hW',?_,?_,?_,Below.frame hE _,fun h=>by cases h⟩
 ·rw [hfn,hr]
  exact trodAll_cons_mk (shut_bool Cg _) trodAll_mk0
 ·rw [hfn]
  exact Gg laidOut hE hT hA hlt (fun x hx=>by simpa using hlt x hx)
 ·rw [hfn,hvs]
  rfl
end
def Vo:List Int:=[0,1,28,2,29,14,24,3,30,22,20,15,25,17,4,8,31,27,13,23,21,19,16,7,26,12,18,6,11,5,10,9]
def Vp:List Int:=[0,1,56,2,57,49,28,3,61,58,42,50,38,29,17,4,62,47,59,36,45,43,51,22,53,39,33,30,24,18,12,5,63,55,48,27,60,41,37,16,46,35,44,21,52,32,23,11,54,26,40,15,34,20,31,10,25,14,19,9,13,8,7,6]
def TN:List Int:=[1,10,100,1000,10000,100000,1000000,10000000,100000000,1000000000,10000000000,100000000000,1000000000000,10000000000000,100000000000000,1000000000000000,10000000000000000,100000000000000000,1000000000000000000,10000000000000000000]
def lay (k:IntKind) (zs:List Int):Obj→Obj
 | .cells _ t frozen=> .cells (zs.map fun z=>Value.int k z).toArray t frozen
 |o=>o
noncomputable def laidWorld (os:Os):World:=
 {World.holding Tryz.prog os ⟨#[],#[],[]⟩ with heap:=(((World.holding Tryz.prog os ⟨#[],#[],[]⟩).heap.modify 0 (lay .u64 TN)).modify 1 (lay .u8 Vo)).modify 2 (lay .u8 Vp)}
theorem laid_met (os:Os) (args:Array Value):laidMet Tryz.prog TM ((laidWorld os).forCall (fun _ _=>0) ⟨#[],args,[]⟩).memory:=
 laidMet_of_run' 8 (by kernel_rfl) (by kernel_rfl)
end Go.Proofs.YtfjppgobidjndaaGreatDoor
namespace Go.Proofs.YtfjppgobidjndaaGreatDoor
open Go.RowKit Go.M
theorem Oq {x y:Int} (h:x=y):(x==y)=true:=beq_iff_eq.2 h
theorem Pv {x y:Int} (h:x≠y):¬(x==y)=true:=fun e=>h (beq_iff_eq.1 e)
theorem Um {x y:Int} (h:x≠y):(x !=y)=true:=by simpa using h
section
variable {t:aQ} {l:List Int}
theorem ED (hv:Ev (fun k=>dH.f k t) true) (i:Int):Ev (fun k=>jY.f k t i) (if 0≤i∧i<t.au.length then 0 else 3):=by
 obtain ⟨K,hK⟩:=hv
 refine ⟨K,fun k hk=>?_⟩
 show jY.f k t i=_
 unfold jY.f
 rw [show dH.f k t=_ from hK k hk]
 simp only [Option.bind_some,Bool.not_true,Bool.false_eq_true,if_false]
 by_cases h:0≤i∧i<t.au.length
 ·rw [if_pos h,if_neg (by simp;omega)]
 ·rw [if_neg h,if_pos (by simp;omega)]
theorem GY (hv:Ev (fun k=>dH.f k t) false) (i:Int):Ev (fun k=>jY.f k t i) 80:=by
 obtain ⟨K,hK⟩:=hv
 refine ⟨K,fun k hk=>?_⟩
 show jY.f k t i=_
 unfold jY.f
 rw [show dH.f k t=_ from hK k hk]
 rfl
structure Yn (t:aQ) (mem:Nat→ByteArray→bf×Int):Prop where
 ev:∀i name,i<t.au.length→Ev (fun k=>lZ.f k t (i:Int) name) (mem i name)
 typ:∀i name,i<t.au.length→(mem i name).2=0→0≤(mem i name).1.vType∧(mem i name).1.vType<t.au.length
end
set_option maxRecDepth 100000 in
theorem TP (k:Nat):kU.f (k+60)=some true:=by kernel_rfl
theorem TQ : Ev (fun k => kU.f k) true := ⟨60, fun k hk => by
 obtain ⟨m,rfl⟩:∃m,k=m+60:=⟨k-60,by omega⟩
 exact TP m⟩
structure DJ (defs:List aZ) (g:List Int):Prop where
 len:g.length=defs.length
 ex:∃rk:Nat→Nat,∀j,j<defs.length→0<g.getD j 0∧g.getD j 0≤512∧(∀c∈cont (defs.getD j ah),rk c.toNat<rk j)∧g.getD j 0=nval (defs.getD j ah) (inner g (defs.getD j ah))
theorem KP.good {t:aQ} {l:List Int} (G:KP t l):DJ t.au l:=by
 refine ⟨G.len,?_⟩
 obtain ⟨rk,B,h⟩:=G.jn
 exact ⟨rk, fun j hj => by
  obtain ⟨h1,h2,h3,h4⟩:=h j hj (G.pos j hj)
  exact ⟨G.pos j hj, h2, fun c hc => (h3 c hc).2, h4⟩⟩
section
variable {defs:List aZ} {g:List Int} {rk:Nat→Nat}
structure Mid (defs:List aZ) (g:List Int) (out:List Int) (bg:List Bool) (out':List Int) (bg':List Bool):Prop where
 lo:out'.length=defs.length
 lb:bg'.length=defs.length
 val:∀j,j<defs.length→out'.getD j 0=0∨out'.getD j 0=g.getD j 0
 keep:∀j,0<out.getD j 0→out'.getD j 0=out.getD j 0
 stk:∀j,bg'.getD j false=true→out'.getD j 0=0→bg.getD j false=true∧out.getD j 0=0
theorem Mid.trans {o1 o2 o3:List Int} {b1 b2 b3:List Bool} (h:Mid defs g o1 b1 o2 b2) (k:Mid defs g o2 b2 o3 b3):Mid defs g o1 b1 o3 b3:=
 ⟨k.lo, k.lb, k.val, fun j hj => by rw [k.keep j (by rw [h.keep j hj]; exact hj), h.keep j hj], fun j hb ho => by
  obtain ⟨h1,h2⟩:=k.stk j hb ho
  exact h.stk j h1 h2⟩
def Vq (defs:List aZ) (g:List Int) (i:Nat) (out:List Int) (bg:List Bool):Prop:=∃out' bg',Ev (fun k=>fE.f k (i:Int) out true bg defs) (g.getD i 0,out',true,bg')∧Mid defs g out bg out' bg'∧out'.getD i 0=g.getD i 0
theorem Ot {R:Nat} (v1:List Int) (hv:∀c∈v1,0≤c∧c<(defs.length:Int)) (hvl:v1.length≤9223372036854775807) (hr:∀c∈v1,rk c.toNat<R)
    (hc:∀(i:Nat) (out:List Int) (bg:List Bool),i<defs.length→rk i<R→out.length=defs.length→bg.length=defs.length→(∀j,j<defs.length→out.getD j 0=0∨out.getD j 0=g.getD j 0)→(∀j,bg.getD j false=true→out.getD j 0=0→rk i<rk j)→Vq defs g i out bg):
    ∀(e j:Nat) (inn:Int) (out:List Int) (bg:List Bool),j+e=v1.length→out.length=defs.length→bg.length=defs.length→(∀j,j<defs.length→out.getD j 0=0∨out.getD j 0=g.getD j 0)→(∀j,bg.getD j false=true→out.getD j 0=0→R≤rk j)→
    ∃out' bg',(∃K,∀k m,K≤k→K≤m→fE.l0 (fE.f k) defs v1 m inn (j:Int) true out bg=some ((v1.drop j).foldl (fun _ c=>g.getD c.toNat 0) inn,true,out',bg'))∧Mid defs g out bg out' bg':=by
  intro e
  induction e with
  | zero =>
    intro j inn out bg hj h1 h2 h3 h4
    refine ⟨out,bg,⟨1,fun k m _ hm=>?_⟩,h1,h2,h3,fun _ _=>rfl,fun j a b=>⟨a,b⟩⟩
    obtain ⟨m,rfl⟩:∃q,m=q+1:=⟨m-1,by omega⟩
    rw [fE.l0,if_neg (by simp;omega),List.drop_eq_nil_of_le (by omega)]
    rfl
  | succ e ih =>
    intro j inn out bg hj h1 h2 h3 h4
    have hlt:j<v1.length:=by omega
    have hmem:=getD_mem (z:=0) hlt
    have hm:=hv _ hmem
    obtain ⟨i,hi⟩:∃i:Nat,v1.getD j 0=(i:Int):=⟨(v1.getD j 0).toNat,by omega⟩
    have hri:rk i<R:=by have:=hr _ hmem;rw [hi] at this;exact this
    obtain ⟨o1,b1,⟨K1,hK1⟩,hM1,hv1⟩:=hc i out bg (by omega) hri h1 h2 h3 (fun q a b=>by have:=h4 q a b;omega)
    obtain ⟨o2, b2, ⟨K2, hK2⟩, hM2⟩ := ih (j + 1) (g.getD i 0) o1 b1 (by omega) hM1.lo hM1.lb hM1.val (fun q a b => by
      obtain ⟨x,y⟩:=hM1.stk q a b
      exact h4 q x y)
    refine ⟨o2,b2,⟨max K1 K2+1,fun k m hk hm'=>?_⟩,hM1.trans hM2⟩
    obtain ⟨m,rfl⟩:∃q,m=q+1:=⟨m-1,by omega⟩
    rw [fE.l0,if_pos (by simp;omega),if_pos (by omega),ig,hi,show fE.f k _ _ _ _ _=_ from hK1 k (by omega)]
    simp only [Option.bind_some]
    rw [fF hlt hvl,jV 0 hlt,hi]
    exact hK2 k m (by omega) (by omega)
theorem Qz {d:aZ} {n:Nat} (hd:ShD d n):(cont d).length≤9223372036854775807:=by
 have:=hd.few
 unfold cont
 split
 ·simp
 ·split
  ·rw [List.length_map];omega
  ·simp
theorem Ou (hS : ∀ d ∈ defs, ShD d defs.length) (hg : ∀ j, j < defs.length → 0 < g.getD j 0 ∧ g.getD j 0 ≤ 512 ∧ (∀ c ∈ cont (defs.getD j ah), rk c.toNat < rk j) ∧ g.getD j 0 = nval (defs.getD j ah) (inner g (defs.getD j ah))) :
    ∀(R i:Nat) (out:List Int) (bg:List Bool),rk i=R→i<defs.length→out.length=defs.length→bg.length=defs.length→(∀j,j<defs.length→out.getD j 0=0∨out.getD j 0=g.getD j 0)→(∀j,bg.getD j false=true→out.getD j 0=0→rk i<rk j)→Vq defs g i out bg:=by
  intro R
  induction R using Nat.strongRecOn with
  | _ R ihR =>
    intro i out bg hR hi h1 h2 h3 h4
    obtain ⟨g1,g2,g3,g4⟩:=hg i hi
    rcases h3 i hi with h0|h0
    · have hb:bg.getD i false=false:=by
        cases hb:bg.getD i false with
        |false=>rfl
        |true=>exact absurd (h4 i hb h0) (by omega)
      have hd:=hS _ (getD_mem (z:=ah) hi)
      obtain ⟨Kc,hKc⟩:=Bo (d:=defs.getD i ah) (by have:=hd.few;omega)
      obtain ⟨o1,b1,⟨K1,hK1⟩,hM⟩:=Ot (defs:=defs) (g:=g) (rk:=rk) (R:=R) (cont (defs.getD i ah)) (sD hd) (Qz hd) (fun c hc=>by have:=g3 c hc;omega)
        (fun i' o b a1 a2 a3 a4 a5 a6 => ihR (rk i') a2 i' o b rfl a1 a3 a4 a5 a6) (cont (defs.getD i ah)).length 0 0 out (bg.set i true) (by omega) h1 (by simpa using h2) h3 (fun j a b => by
          rw [qR (by omega)] at a
          split at a
          · next e=>subst e;omega
          · have := h4 j a b; omega)
      rw [List.drop_zero] at hK1
      have hset:∀j,(o1.set i (g.getD i 0)).getD j 0=if i=j then g.getD i 0 else o1.getD j 0:=fun j=>qR (by rw [hM.lo];exact hi)
      refine ⟨o1.set i (g.getD i 0),b1,⟨max Kc K1+1,fun k hk=>?_⟩,⟨by simp [hM.lo],hM.lb,fun j hj=>?_,fun j hj=>?_,fun j hb' ho=>?_⟩,by rw [hset,if_pos X]⟩
      · obtain ⟨k,rfl⟩:∃q,k=q+1:=⟨k-1,by omega⟩
        show fE.f (k+1) _ _ _ _ _=_
        rw [fE.f,if_pos (by omega),ig,if_neg (by simp only [Bool.not_true,Bool.or_false,decide_eq_true_eq];omega),if_pos (by omega),ig,if_neg (by rw [hb];simp),if_pos (by omega),if_pos (by omega),ig,show iW.f k _=_ from hKc k (by omega)]
        simp only [Option.bind_some,Int.toNat_natCast]
        rw [show fE.l0 (fE.f k) defs _ k 0 0 true out _=_ from hK1 k k (by omega) (by omega)]
        simp only [Option.bind_some]
        rw [if_pos (by rw [hM.lo];omega)]
        simp only [Oi]
        rw [show nval (defs.getD i ah) (List.foldl (fun x c=>g.getD c.toNat 0) 0 (cont (defs.getD i ah)))=g.getD i 0 from g4.symm,decide_eq_true g2]
        rfl
      · rw [hset]
        split
        · next e=>subst e;exact .inr rfl
        · exact hM.val j hj
      · rw [hset,if_neg (fun e=>by subst e;omega)]
        exact hM.keep j hj
      · rw [hset] at ho
        split at ho
        · omega
        · next hne=>
          obtain ⟨x,y⟩:=hM.stk j hb' ho
          rw [qR (by omega),if_neg hne] at x
          exact ⟨x,y⟩
    · refine ⟨out,bg,⟨1,fun k hk=>?_⟩,⟨h1,h2,h3,fun _ _=>rfl,fun j a b=>⟨a,b⟩⟩,h0⟩
      obtain ⟨k,rfl⟩:∃q,k=q+1:=⟨k-1,by omega⟩
      show fE.f (k+1) _ _ _ _ _=_
      rw [fE.f,if_pos (by omega),ig,if_pos (by simp only [Bool.or_eq_true,decide_eq_true_eq];exact .inl (by omega)),if_pos (by omega),h0]
end
theorem FP {g h:List Int} (hl:g.length=h.length) (he:∀j,j<g.length→g.getD j 0=h.getD j 0):g=h:=by
 apply List.ext_getElem hl
 intro j h1 h2
 have:=he j h1
 rw [List.getD_eq_getElem?_getD,List.getD_eq_getElem?_getD,List.getElem?_eq_getElem h1,List.getElem?_eq_getElem h2] at this
 exact this
theorem QA {t : aQ} {g : List Int} {rk : Nat → Nat} (hS : ∀ d ∈ t.au, ShD d t.au.length) (hn : t.au.length ≤ 9223372036854775807)
    (hg:∀j,j<t.au.length→0<g.getD j 0∧g.getD j 0≤512∧(∀c∈cont (t.au.getD j ah),rk c.toNat<rk j)∧g.getD j 0=nval (t.au.getD j ah) (inner g (t.au.getD j ah))):
    ∀(e j:Nat) (bg:List Bool) (out:List Int),j+e=t.au.length→out.length=t.au.length→bg.length=t.au.length→(∀q,q<t.au.length→out.getD q 0=0∨out.getD q 0=g.getD q 0)→(∀q,bg.getD q false=true→out.getD q 0=0→False)→(∀q,q<j→out.getD q 0=g.getD q 0)→
    ∃bg' out',Ev2 (fun k m=>iT.l0 k t m (j:Int) true bg out) (true,bg',out')∧out'.length=t.au.length∧∀q,q<t.au.length→out'.getD q 0=g.getD q 0:=by
  intro e
  induction e with
  | zero =>
    intro j bg out hj h1 h2 h3 h4 h5
    refine ⟨bg,out,Ev2.pure (fun k m=>?_),h1,fun q hq=>h5 q (by omega)⟩
    rw [iT.l0,if_neg (by simp;omega)]
  | succ e ih =>
    intro j bg out hj h1 h2 h3 h4 h5
    have hlt:j<t.au.length:=by omega
    obtain ⟨o1,b1,hE,hM,hv⟩:=Ou hS hg (rk j) j out bg rfl hlt h1 h2 h3 (fun q a b=>(h4 q a b).elim)
    obtain ⟨bg', out', hE2, h6, h7⟩ := ih (j + 1) b1 o1 (by omega) hM.lo hM.lb hM.val (fun q a b => by
      obtain ⟨x,y⟩:=hM.stk q a b
      exact h4 q x y) (fun q hq=>by
      by_cases hqj:q=j
      · subst hqj;exact hv
      · have h8:=h5 q (by omega)
        have h9:=(hg q (by omega)).1
        rw [hM.keep q (by omega), h8])
    refine ⟨bg',out',Ev2.step hE (r:=fun k m (v1:Int×List Int×Bool×List Bool)=>iT.l0 k t m (IntKind.wrap .i64 ((j:Int)+1)) v1.2.2.1 v1.2.2.2 v1.2.1) ?_ (fun k m=>?_),h6,h7⟩
    · simp only
      rw [fF hlt hn]
      exact hE2
    · rw [iT.l0,if_pos (by simp;omega)]
theorem EF {t:aQ} {g:List Int} (hS:∀d∈t.au,ShD d t.au.length) (hn:t.au.length≤200) (G:DJ t.au g):Ev (fun k=>iT.f k t) (g,true):=by
 obtain ⟨rk,hg⟩:=G.ex
 have hrep:∀(n q:Nat),(List.replicate n (0:Int)).getD q 0=0:=fun n q=>by
  rw [List.getD_eq_getElem?_getD,List.getElem?_replicate]
  split<;>rfl
 have WT:∀(n q:Nat),(List.replicate n false).getD q false=false:=fun n q=>by
  rw [List.getD_eq_getElem?_getD,List.getElem?_replicate]
  split<;>rfl
 obtain ⟨bg,out,hE,h1,h2⟩:=QA hS (by omega) hg t.au.length 0 (List.replicate t.au.length false) (List.replicate t.au.length 0) (by omega) (by simp) (by simp) (fun q _=> .inl (hrep _ _)) (fun q a _=>by rw [WT] at a;cases a) (fun q hq=>by omega)
 have hog:out=g:=FP (by rw [h1,G.len]) (fun j hj=>h2 j (by omega))
 subst hog
 obtain ⟨K,hK⟩:=hE.diag
 refine ⟨K,fun k hk=>?_⟩
 show iT.f k t=_
 unfold iT.f
 rw [if_pos (by omega),if_pos (by omega)]
 simp only [Int.toNat_natCast]
 rw [show iT.l0 k t k 0 true _ _=_ from hK k hk]
 rfl
theorem lH {d:aZ} {known:List Int} (hk:d.aA=3∨d.aA=6):inner known d=rd 0 known d.bY∧cont d=[d.bY]:=by
 have hcd:cont d=[d.bY]:=by
  unfold cont
  rw [if_pos (by simp only [Bool.or_eq_true,beq_iff_eq];exact hk)]
 refine ⟨?_,hcd⟩
 unfold inner
 rw [hcd]
 rfl
theorem Af {d:aZ} {c:Int} (h:c∈cont d):d.aA=3∨d.aA=4∨d.aA=6:=by
 unfold cont at h
 split at h
 ·next h2=>simp only [Bool.or_eq_true,beq_iff_eq] at h2;omega
 ·split at h
  ·next h2=>simp only [beq_iff_eq] at h2;omega
  ·cases h
theorem zu {d:aZ} {a b:List Int} (h:∀c∈cont d,a.getD c.toNat 0=b.getD c.toNat 0):inner a d=inner b d:=by
  unfold inner
  have key:∀(l:List Int) (z0:Int),(∀c∈l,a.getD c.toNat 0=b.getD c.toNat 0)→l.foldl (fun _ c=>a.getD c.toNat 0) z0=l.foldl (fun _ c=>b.getD c.toNat 0) z0:=by
    intro l
    induction l with
    |nil=>intro _ _;rfl
    | cons c l ih =>
      intro z0 hc
      rw [List.foldl_cons,List.foldl_cons,hc c List.mem_cons_self]
      exact ih _ (fun c hc'=>hc c (List.mem_cons_of_mem _ hc'))
  exact key _ _ h
theorem sF {d:aZ} (e:d.aA=4):cont d=d.ak.map (·.vType):=by
 unfold cont
 rw [if_neg (by simp [e]),if_pos (by simp [e])]
structure Wf (t:aQ) (l:List Int):Prop where
 few:t.au.length≤200
 defs:xI t.au.length [] t.au=true
 sz:DJ t.au l
 ends:∀d∈t.au,pW t.au t.au.length d=false
 placed:∀d∈t.au,d.aA=4→xg d l=true
theorem KP.wf {t:aQ} {l:List Int} (G:KP t l):Wf t l:=⟨G.few,G.defs,G.good,G.ends,G.placed⟩
theorem Wf.sh {t:aQ} {l:List Int} (W:Wf t l):∀d∈t.au,ShD d t.au.length:=DI _ _ W.defs
theorem Wf.good {t:aQ} {l:List Int} (W:Wf t l):KP t l:=by
  obtain ⟨rk,h⟩:=W.sz.ex
  have hB:∀n,∃B,∀j,j<n→rk j<B:=by
    intro n
    induction n with
    |zero=>exact ⟨0,fun j hj=>by omega⟩
    | succ n ih =>
      obtain ⟨B,hB⟩:=ih
      refine ⟨max B (rk n+1),fun j hj=>?_⟩
      by_cases e:j=n
      · subst e;omega
      · have:=hB j (by omega);omega
  obtain ⟨B,hB⟩:=hB t.au.length
  refine ⟨W.few,W.sh,EF W.sh W.few W.sz,W.sz.len,⟨rk,B,fun j hj _=>?_⟩,fun q hq=>(h q hq).1,W.ends,W.placed,W.defs⟩
  obtain ⟨h1,h2,h3,h4⟩:=h j hj
  refine ⟨hB j hj,h2,fun c hc=>⟨?_,h3 c hc⟩,h4⟩
  have:=sD (W.sh _ (getD_mem (z:=ah) hj)) c hc
  exact (h c.toNat (by omega)).1
theorem QB {t : aQ} {l : List Int} (hF : ∀ d ∈ t.au, Ce d) (W : Wf t l) : Ev (fun k => dH.f k t) true := by
  have hn:=W.few
  have hS:=W.sh
  have hcond:¬decide ((t.au.length:Int)>200)=true:=by simp;omega
  obtain ⟨v,hv,hp⟩:=EC hF (by omega) t.au.length 0 [] [] (by omega) y8.nil
  rw [List.drop_zero] at hp
  obtain ⟨K,hK⟩:=hv.diag
  obtain ⟨K2,hK2⟩:=EF hS hn W.sz
  obtain ⟨K3,hK3⟩:=Oo hS hn
  have he:t.au.any (pW t.au t.au.length)=false:=List.any_eq_false.2 fun d hd=>by rw [W.ends d hd];simp
  obtain ⟨K4, hK4⟩ := zq (l := t.au) (p := fun k z0 => mF.f k z0 l) (q := fun _ => false) (fun d hd => by
    by_cases h4:d.aA=4
    · have:=GV (d:=d) (l:=l) (hF d hd).len (fun f hf=>by have:=(hS d hd).typ h4 f hf;rw [W.sz.len];exact this)
      rw [W.placed d hd h4] at this
      exact (this.bind (g:=fun k v1=>some ((d.aA==4)&&(!v1))) (b:=false) (Ev.pure fun _=>by simp)).congr fun k=>by
        unfold mF.f
        rw [if_pos (by simp [h4])]
    · refine Ev.pure fun k=>?_
      unfold mF.f
      rw [if_neg (by simp [h4])]
      simp [h4]) (by omega)
  cases v with
  |inl b=>rw [W.defs] at hp;exact absurd hp.2 (by simp)
  | inr m =>
    refine ⟨max (max K K2) (max K3 K4),fun k hk=>?_⟩
    show dH.f k t=_
    unfold dH.f
    rw [if_neg hcond,show dH.l0 k t k 0 []=_ from hK k (by omega)]
    simp only [Option.bind_some]
    rw [show iT.f k t=_ from hK2 k (by omega)]
    simp only [Option.bind_some]
    rw [show tZ.f k t=_ from hK3 k (by omega),he]
    simp only [Bool.not_true,Bool.not_false,beq_self_eq_true,Bool.and_self,if_true,Option.bind_some,Bool.or_self,Bool.false_eq_true,if_false]
    rw [show eG.f k t.au _=_ from hK4 k (by omega)]
    simp
theorem DK {t:aQ} (hF:∀d∈t.au,Ce d):(∃l,Wf t l∧Ev (fun k=>dH.f k t) true)∨((∀l,¬Wf t l)∧Ev (fun k=>dH.f k t) false):=by
  obtain ⟨b,hE,hb⟩:=Qu hF
  cases b with
  | true =>
    obtain ⟨l,G⟩:=hb rfl
    exact .inl ⟨l,G.wf,hE⟩
  | false =>
    refine .inr ⟨fun l W=>?_,hE⟩
    have:=hE.uniq (QB hF W)
    cases this
theorem TR {t:aQ} {l m:List Int} (W:Wf t l) (V:Wf t m):l=m:=by
 have:=W.good.sizes.uniq V.good.sizes
 exact congrArg Prod.fst this
def Vr (n:Nat):Bool:=match strconv_Itoa.f (n:Int) with|some b=>decide (b.size≤3)|_=>false
theorem Vs:(List.range 513).all Vr=true:=by kernel_rfl
theorem Ov {n:Int} (h1:1≤n) (h2:n≤512):∃s,strconv_Itoa.f n=some s∧s.size≤3:=by
 obtain ⟨m,rfl⟩:∃m:Nat,n=(m:Int):=⟨n.toNat,by omega⟩
 have h0:=List.all_eq_true.1 Vs m (List.mem_range.2 (by omega))
 unfold Vr at h0
 cases hi:strconv_Itoa.f (m:Int) with
 |none=>rw [hi] at h0;cases h0
 |some b=>rw [hi] at h0;exact ⟨b,rfl,of_decide_eq_true h0⟩
theorem uh {n:Nat}:∀(ns:List ByteArray) (l:List aZ),xI n ns l=true→∀d∈l,nS d (n:Int)=true
  |_,[],_=>by simp
  | ns, d :: r, h => by
    simp only [xI,Bool.and_eq_true] at h
    intro x hx
    rcases List.mem_cons.1 hx with rfl|hx
    · exact h.1.1
    · exact uh _ r h.2 x hx
theorem DL {d:aZ} {n:Int} (h:nS d n=true) (hn:gy d=true):rZ d.aF=true:=by
  unfold nS at h
  unfold gy at hn
  simp only [Bool.and_eq_true,bne_iff_ne,ne_eq] at hn
  cases hs:shp d.aA with
  |none=>rw [hs] at h;cases h
  | some s =>
    rw [hs] at h
    simp only [Bool.and_eq_true] at h
    have h1:=h.1.1.1.1.1.1
    unfold shp at hs
    rw [if_neg hn.1,if_neg hn.2] at hs
    have hv:s.ny=true:=by
      repeat' split at hs
      all_goals first|(cases hs;done)|(injection hs with hs;subst hs;rfl)
    rwa [if_pos hv] at h1
theorem Ci {s:ByteArray} (h:rZ s=true):s.size≤31:=by
 unfold rZ at h
 simp only [Bool.and_eq_true,decide_eq_true_eq] at h
 omega
theorem pG {d:aZ} (hn:¬gy d=true):d.aA=2∨d.aA=3:=by
 unfold gy at hn
 by_cases h2:d.aA=2
 ·exact .inl h2
 ·by_cases h3:d.aA=3
  ·exact .inr h3
  ·exact absurd (by simp [h2,h3]) hn
theorem l9 (a b:ByteArray):(a++b).size=a.size+b.size:=ByteArray.size_append
theorem QC {t : aQ} {l : List Int} (W : Wf t l) : ∀ (m i : Nat), m ≤ 1000 → i < t.au.length → pW t.au m (t.au.getD i ah) = false →
    ∃s,Ev (fun k=>fB.f k t (i:Int)) s∧s.size≤31+8*m:=by
  have base:∀(m i:Nat),i<t.au.length→gy (t.au.getD i ah)=true→∃s,Ev (fun k=>fB.f k t (i:Int)) s∧s.size≤31+8*m:=by
    intro m i hi hn
    have hm:=getD_mem (z:=ah) hi
    have hsz:=Ci (DL (uh _ _ W.defs _ hm) hn)
    have h2:¬((t.au.getD i ah).aA==2)=true:=by unfold gy at hn;simp only [Bool.and_eq_true,bne_iff_ne,ne_eq] at hn;simpa using hn.1
    have h3:¬((t.au.getD i ah).aA==3)=true:=by unfold gy at hn;simp only [Bool.and_eq_true,bne_iff_ne,ne_eq] at hn;simpa using hn.2
    refine ⟨(t.au.getD i ah).aF,Ev.succ (Ev.pure fun k=>?_),by omega⟩
    rw [fB.f,if_pos (by omega),ig,if_neg h2,if_neg h3]
  intro m
  induction m with
  | zero =>
    intro i _ hi h
    simp only [pW,Bool.not_eq_false'] at h
    exact base 0 i hi h
  | succ m ih =>
    intro i hm1 hi h
    simp only [pW] at h
    by_cases hn:gy (t.au.getD i ah)=true
    · exact base (m+1) i hi hn
    · rw [if_neg hn] at h
      have hm:=getD_mem (z:=ah) hi
      have hk:=pG hn
      have hr:=(W.sh _ hm).ref (by omega)
      obtain ⟨q,hq⟩:∃q:Nat,(t.au.getD i ah).bY=(q:Int):=⟨(t.au.getD i ah).bY.toNat,by omega⟩
      rw [hq,ig] at h
      rw [hq] at hr
      obtain ⟨s,⟨K1,h1⟩,h3⟩:=ih q (by omega) (by omega) h
      have e2:ByteArray.size (⟨#[32,42]⟩:ByteArray)=2:=X
      have e3:ByteArray.size (⟨#[32,91]⟩:ByteArray)=2:=X
      have e1:ByteArray.size (⟨#[93]⟩:ByteArray)=1:=X
      by_cases hk2:(t.au.getD i ah).aA=2
      · refine ⟨s++(⟨#[32,42]⟩:ByteArray),⟨K1+1,fun k hk=>?_⟩,by rw [l9,e2];omega⟩
        · obtain ⟨k,rfl⟩:∃q,k=q+1:=⟨k-1,by omega⟩
          show fB.f (k+1) t (i:Int)=_
          rw [fB.f,if_pos (by omega),ig,if_pos (Oq hk2),hq,show fB.f k t (q:Int)=_ from h1 k (by omega)]
          simp only [Option.bind_some]
          rw [if_pos (by rw [e2];omega)]
      · have hk3:(t.au.getD i ah).aA=3:=by omega
        have hN:=(W.sh _ hm).num (.inl hk3)
        obtain ⟨dg,hd1,hd3⟩:=Ov hN.1 hN.2
        refine ⟨((s++(⟨#[32,91]⟩:ByteArray))++dg)++(⟨#[93]⟩:ByteArray),⟨K1+1,fun k hk=>?_⟩,by rw [l9,l9,l9,e3,e1];omega⟩
        · obtain ⟨k,rfl⟩:∃q,k=q+1:=⟨k-1,by omega⟩
          show fB.f (k+1) t (i:Int)=_
          rw [fB.f,if_pos (by omega),ig,if_neg (Pv hk2),if_pos (Oq hk3),hq,show fB.f k t (q:Int)=_ from h1 k (by omega)]
          simp only [Option.bind_some]
          rw [if_pos (by rw [e3];omega),hd1]
          simp only [Option.bind_some]
          rw [if_pos (by rw [l9,e3];omega),if_pos (by rw [l9,l9,e3,e1];omega)]
section
variable {t:aQ} {l:List Int}
def AY (name:ByteArray) (d:aZ):Bool:=gy d&&strEq d.aF name
def qX (t:aQ) (name:ByteArray):Int:=if t.au.any (AY name)=true then ((t.au.findIdx (AY name):Nat):Int) else-1
theorem I5 (hn:t.au.length≤200) (name:ByteArray):Ev (fun k=>mP.f k t name) (qX t name):=by
 refine ⟨t.au.length+1,fun k hk=>?_⟩
 show mP.f k t name=_
 unfold mP.f cu.f qX
 have:=Ez (l:=t.au) (p:=fun z0=>rV.f z0 name) (q:=AY name) (fun z hz=>rfl) (by omega) t.au.length 0 k (by omega) (by omega)
 rw [show cu.l0 t.au _ k 0=_ from this,List.drop_zero]
 cases t.au.any (AY name)<;>simp
end
def dAt (t:aQ) (i:Nat):aZ:=t.au.getD i ah
noncomputable def tx (t:aQ) (i:Nat):ByteArray:=by
 classical exact if h:∃s,Ev (fun k=>fB.f k t (i:Int)) s then Classical.choose h else ByteArray.empty
def dg (n:Int):ByteArray:=(strconv_Itoa.f n).getD ByteArray.empty
def star:ByteArray:=⟨#[32,42]⟩
def brO:ByteArray:=⟨#[32,91]⟩
def brC:ByteArray:=⟨#[93]⟩
section
variable {t u:aQ} {l m:List Int}
theorem GZ {i:Nat} {s:ByteArray} (h:Ev (fun k=>fB.f k t (i:Int)) s):tx t i=s:=by
 have hx:∃s,Ev (fun k=>fB.f k t (i:Int)) s:=⟨s,h⟩
 unfold tx
 rw [dif_pos hx]
 exact (Classical.choose_spec hx).uniq h
theorem oQ (i:Nat):rd ah t.au (i:Int)=dAt t i:=ig i
theorem nT {i:Nat} (hi:i<t.au.length):dAt t i∈t.au:=getD_mem hi
theorem zx (W:Wf t l) {i:Nat} (hi:i<t.au.length):Ev (fun k=>fB.f k t (i:Int)) (tx t i)∧(tx t i).size≤2000:=by
 obtain ⟨s,h1,h3⟩:=QC W t.au.length i (by have:=W.few;omega) hi (W.ends _ (getD_mem hi))
 rw [GZ h1]
 exact ⟨h1,by have:=W.few;omega⟩
theorem oU (d:aZ):gy d=true↔d.aA≠2∧d.aA≠3:=by
 unfold gy;simp [bne_iff_ne]
theorem xk {i:Nat} (hi:i<t.au.length) (hn:gy (dAt t i)=true):tx t i=(dAt t i).aF:=by
 obtain ⟨h2,h3⟩:=(oU _).1 hn
 refine GZ (Ev.succ (Ev.pure fun k=>?_))
 rw [fB.f,if_pos (by omega),oQ,if_neg (Pv h2),if_neg (Pv h3)]
theorem DN (W:Wf t l) {i:Nat} (hi:i<t.au.length) (hk:(dAt t i).aA=2∨(dAt t i).aA=3∨(dAt t i).aA=6):(dAt t i).bY=(((dAt t i).bY.toNat:Nat):Int)∧(dAt t i).bY.toNat<t.au.length:=by
 have:=(W.sh _ (nT hi)).ref hk
 omega
theorem Bq (W:Wf t l) {i:Nat} (hi:i<t.au.length) (hk:(dAt t i).aA=2):tx t i=tx t (dAt t i).bY.toNat++star:=by
 obtain ⟨h1,h2⟩:=DN W hi (.inl hk)
 obtain ⟨⟨K,hK⟩,h3⟩:=zx W h2
 refine GZ ⟨K+1,fun k hk'=>?_⟩
 obtain ⟨k,rfl⟩:∃q,k=q+1:=⟨k-1,by omega⟩
 show fB.f (k+1) t (i:Int)=_
 rw [fB.f,if_pos (by omega),oQ,if_pos (Oq hk)]
 rw [h1,show fB.f k t _=_ from hK k (by omega)]
 simp only [Option.bind_some]
 rw [if_pos (by rw [show ByteArray.size (⟨#[32,42]⟩:ByteArray)=2 from rfl];omega)]
 simp only [Int.toNat_natCast]
 rfl
theorem WU {n:Int} (h1:1≤n) (h2:n≤512):strconv_Itoa.f n=some (dg n)∧(dg n).size≤3:=by
 obtain ⟨s,h3,h4⟩:=Ov h1 h2
 unfold dg
 rw [h3]
 exact ⟨X,h4⟩
theorem Bv (W:Wf t l) {i:Nat} (hi:i<t.au.length) (hk:(dAt t i).aA=3):tx t i=((tx t (dAt t i).bY.toNat++brO)++dg (dAt t i).vN)++brC:=by
 obtain ⟨h1,h2⟩:=DN W hi (.inr (.inl hk))
 obtain ⟨⟨K,hK⟩,h3⟩:=zx W h2
 obtain ⟨hN1,hN2⟩:=(W.sh _ (nT hi)).num (.inl hk)
 obtain ⟨h4,h5⟩:=WU hN1 hN2
 have e3:ByteArray.size (⟨#[32,91]⟩:ByteArray)=2:=X
 have e1:ByteArray.size (⟨#[93]⟩:ByteArray)=1:=X
 refine GZ ⟨K+1,fun k hk'=>?_⟩
 obtain ⟨k,rfl⟩:∃q,k=q+1:=⟨k-1,by omega⟩
 show fB.f (k+1) t (i:Int)=_
 rw [fB.f,if_pos (by omega),oQ,if_neg (Pv (by omega)),if_pos (Oq hk)]
 rw [h1,show fB.f k t _=_ from hK k (by omega)]
 simp only [Option.bind_some]
 rw [if_pos (by rw [e3];omega)]
 rw [h4]
 simp only [Option.bind_some]
 rw [if_pos (by rw [l9,e3];omega),if_pos (by rw [l9,l9,e3,e1];omega)]
 simp only [Int.toNat_natCast]
 rfl
def bs (s:ByteArray):List UInt8:=s.data.toList
theorem tX (a b:ByteArray):bs (a++b)=bs a++bs b:=by
 unfold bs
 rw [ByteArray.data_append,Array.toList_append]
theorem RN {a b:ByteArray} (h:bs a=bs b):a=b:=data_inj h
theorem JR {x:UInt8}:∀{a b a' b':List UInt8},x∉a→x∉a'→a++x::b=a'++x::b'→a=a'∧b=b'
  |[],b,[],b',_,_,h=>⟨rfl,by simpa using h⟩
  | [], b, y :: a', b', _, h2, h => by
    simp only [List.nil_append,List.cons_append,List.cons.injEq] at h
    exact absurd (by rw [←h.1];exact List.mem_cons_self) h2
  | y :: a, b, [], b', h1, _, h => by
    simp only [List.nil_append,List.cons_append,List.cons.injEq] at h
    exact absurd (by rw [h.1];exact List.mem_cons_self) h1
  | y :: a, b, z :: a', b', h1, h2, h => by
    simp only [List.cons_append,List.cons.injEq] at h
    obtain ⟨h3,h4⟩:=JR (fun hm=>h1 (List.mem_cons_of_mem _ hm)) (fun hm=>h2 (List.mem_cons_of_mem _ hm)) h.2
    exact ⟨by rw [h.1,h3],h4⟩
theorem KR {x:UInt8} {a b a' b':List UInt8} (h1:x∉b) (h2:x∉b') (h:a++x::b=a'++x::b'):a=a'∧b=b':=by
 have h3:=congrArg List.reverse h
 simp only [List.reverse_append,List.reverse_cons,List.append_assoc,List.singleton_append] at h3
 obtain ⟨h4,h5⟩:=JR (by simpa using h1) (by simpa using h2) h3
 exact ⟨List.reverse_inj.1 h5,List.reverse_inj.1 h4⟩
def I7 (n:Nat):Bool:= !((bs (dg (n:Int))).contains 91)&&((bs (dg (n:Int))).foldl (fun a c=>a*10+(c.toNat-48)) 0==n)
theorem FQ:(List.range 513).all I7=true:=by kernel_rfl
theorem Vt {n:Int} (h1:1≤n) (h2:n≤512):(91:UInt8)∉bs (dg n):=by
 obtain ⟨m,rfl⟩:∃m:Nat,n=(m:Int):=⟨n.toNat,by omega⟩
 have:=List.all_eq_true.1 FQ m (List.mem_range.2 (by omega))
 unfold I7 at this
 simp only [Bool.and_eq_true,Bool.not_eq_true'] at this
 intro hm
 have h3:=this.1
 rw [List.contains_iff_mem.2 hm] at h3
 cases h3
theorem Vu {a b:Int} (h1:1≤a) (h2:a≤512) (h3:1≤b) (h4:b≤512) (h:bs (dg a)=bs (dg b)):a=b:=by
 obtain ⟨m,rfl⟩:∃m:Nat,a=(m:Int):=⟨a.toNat,by omega⟩
 obtain ⟨q,rfl⟩:∃m:Nat,b=(m:Int):=⟨b.toNat,by omega⟩
 have e1:=List.all_eq_true.1 FQ m (List.mem_range.2 (by omega))
 have e2:=List.all_eq_true.1 FQ q (List.mem_range.2 (by omega))
 unfold I7 at e1 e2
 simp only [Bool.and_eq_true,beq_iff_eq] at e1 e2
 rw [h] at e1
 have:=e1.2.symm.trans e2.2
 omega
theorem DR {c:Int}:∀{j:Nat} {cs:List Int},y7 j cs=true→c∈cs→(c≥48∧c≤57)∨(c≥65∧c≤90)∨c=95∨(c≥97∧c≤122)
  |j,[],_,h=>by cases h
  | j, x :: r, h, hm => by
    simp only [y7,Bool.and_eq_true] at h
    rcases List.mem_cons.1 hm with rfl|hm
    · have:=h.1
      unfold GU at this
      simp only [Bool.or_eq_true,Bool.and_eq_true,decide_eq_true_eq,beq_iff_eq] at this
      omega
    · exact DR h.2 hm
theorem EG {s:ByteArray} (h:rZ s=true):∀c∈bs s,c≠42∧c≠93:=by
 unfold rZ at h
 simp only [Bool.and_eq_true] at h
 intro c hc
 have hm:((c.toNat:Nat):Int)∈bytesOf s:=by unfold bytesOf;exact List.mem_map.2 ⟨c,hc,X⟩
 have:=DR h.1.1 hm
 constructor
 ·rintro rfl;revert this;decide
 ·rintro rfl;revert this;decide
theorem Ox (W:Wf t l) {i:Nat} (hi:i<t.au.length) (hn:gy (dAt t i)=true):rZ (dAt t i).aF=true:=DL (uh _ _ W.defs _ (nT hi)) hn
theorem KT (W : Wf t l) (V : Wf u m) {i j : Nat} (hi : i < t.au.length) (hj : j < u.au.length) (h : tx t i = tx u j) :
    (gy (dAt t i)=true∧gy (dAt u j)=true∧(dAt t i).aF=(dAt u j).aF)∨
    ((dAt t i).aA=2∧(dAt u j).aA=2∧tx t (dAt t i).bY.toNat=tx u (dAt u j).bY.toNat)∨
    ((dAt t i).aA=3∧(dAt u j).aA=3∧(dAt t i).vN=(dAt u j).vN∧tx t (dAt t i).bY.toNat=tx u (dAt u j).bY.toNat):=by
  have hb:=congrArg bs h
  have hs:bs star=[32,42]:=X
  have ho:bs brO=[32,91]:=X
  have hc:bs brC=[93]:=X
  by_cases h1:gy (dAt t i)=true
  · rw [xk hi h1] at h hb
    have hnb:=EG (Ox W hi h1)
    by_cases h2:gy (dAt u j)=true
    · rw [xk hj h2] at h
      exact .inl ⟨h1,h2,h⟩
    · exfalso
      rcases pG h2 with e|e
      · rw [Bq V hj e,tX,hs] at hb
        exact (hnb 42 (by rw [hb];simp)).1 X
      · rw [Bv V hj e,tX,hc] at hb
        exact (hnb 93 (by rw [hb];simp)).2 X
  · by_cases h2:gy (dAt u j)=true
    · exfalso
      rw [xk hj h2] at hb
      have hnb:=EG (Ox V hj h2)
      rcases pG h1 with e|e
      · rw [Bq W hi e,tX,hs] at hb
        exact (hnb 42 (by rw [←hb];simp)).1 X
      · rw [Bv W hi e,tX,hc] at hb
        exact (hnb 93 (by rw [←hb];simp)).2 X
    · rcases pG h1 with e|e<;>rcases pG h2 with e'|e'
      · rw [Bq W hi e,Bq V hj e',tX,tX] at hb
        exact .inr (.inl ⟨e,e',RN (List.append_cancel_right hb)⟩)
      · exfalso
        rw [Bq W hi e,Bv V hj e',tX _ star,tX _ brC,hs,hc] at hb
        have:=congrArg (fun l=>l.getLast?) hb
        simp at this
      · exfalso
        rw [Bv W hi e,Bq V hj e',tX _ brC,tX _ star,hs,hc] at hb
        have:=congrArg (fun l=>l.getLast?) hb
        simp at this
      · rw [Bv W hi e,Bv V hj e',tX (_++_),tX (_++_) brC] at hb
        have hb:=List.append_cancel_right hb
        rw [tX,tX,tX,tX,ho,List.append_assoc,List.append_assoc] at hb
        have hN1:=(W.sh _ (nT hi)).num (.inl e)
        have hN2:=(V.sh _ (nT hj)).num (.inl e')
        have hb:(bs (tx t (dAt t i).bY.toNat)++[32])++91::bs (dg (dAt t i).vN)=(bs (tx u (dAt u j).bY.toNat)++[32])++91::bs (dg (dAt u j).vN):=by simpa using hb
        obtain ⟨h3,h4⟩:=KR (Vt hN1.1 hN1.2) (Vt hN2.1 hN2.2) hb
        exact .inr (.inr ⟨e,e',Vu hN1.1 hN1.2 hN2.1 hN2.2 h4,RN (List.append_cancel_right h3)⟩)
theorem EH {n : Nat} : ∀ (ns : List ByteArray) (l : List aZ), xI n ns l = true → (∀ d ∈ l, gy d = true → d.aF ∉ ns) ∧ ∀ i j, i < j → j < l.length → gy (l.getD j ah) = true → (l.getD i ah).aF ≠ (l.getD j ah).aF
  |ns,[],_=>⟨by simp,fun i j _ h=>by simp at h⟩
  | ns, d :: r, h => by
    simp only [xI,Bool.and_eq_true,Bool.not_eq_true'] at h
    obtain ⟨⟨h1,h2⟩,h3⟩:=h
    obtain ⟨h4,h5⟩:=EH _ r h3
    refine ⟨fun x hx hn hm=>?_,fun i j hij hj hn=>?_⟩
    · rcases List.mem_cons.1 hx with rfl|hx
      · rw [hn,Bool.true_and] at h2
        exact absurd (gq.2 X) (List.any_eq_false.1 h2 _ hm)
      · exact h4 x hx hn (List.mem_cons_of_mem _ hm)
    · obtain ⟨j,rfl⟩:∃q,j=q+1:=⟨j-1,by omega⟩
      rw [List.getD_cons_succ] at hn⊢
      cases i with
      | zero =>
        rw [List.getD_cons_zero]
        intro e
        exact h4 _ (getD_mem (by simpa using hj)) hn (by rw [←e];exact List.mem_cons_self)
      | succ i =>
        rw [List.getD_cons_succ]
        exact h5 i j (by omega) (by simpa using hj) hn
theorem sU (W:Wf t l) {i j:Nat} (hi:i<t.au.length) (hj:j<t.au.length) (h1:gy (dAt t i)=true) (h2:gy (dAt t j)=true) (h:(dAt t i).aF=(dAt t j).aF):i=j:=by
 have:=(EH _ _ W.defs).2
 rcases Nat.lt_trichotomy i j with hlt|he|hlt
 ·exact absurd h (this i j hlt hj h2)
 ·exact he
 ·exact absurd h.symm (this j i hlt hi h1)
end
def kids (d:aZ):List Int:=if d.aA=2∨d.aA=3∨d.aA=6 then [d.bY] else if d.aA=4 then d.ak.map (·.vType) else []
inductive Rch (t:aQ) (i:Nat):Nat→Prop
 |refl:Rch t i i
 |step {k:Nat} {c:Int} (h:Rch t i k) (hc:c∈kids (dAt t k)):Rch t i c.toNat
theorem qo {d:aZ} (h:d.aA=2∨d.aA=3∨d.aA=6):kids d=[d.bY]:=by unfold kids;rw [if_pos h]
theorem lN {d:aZ} (h:d.aA=4):kids d=d.ak.map (·.vType):=by unfold kids;rw [if_neg (by omega),if_pos h]
theorem Ag {d:aZ} (h:¬(d.aA=2∨d.aA=3∨d.aA=6)) (h4:d.aA≠4):kids d=[]:=by unfold kids;rw [if_neg h,if_neg h4]
section
variable {t:aQ} {l:List Int}
theorem oW (W:Wf t l) {i:Nat} (hi:i<t.au.length) {c:Int} (hc:c∈kids (dAt t i)):c=((c.toNat:Nat):Int)∧c.toNat<t.au.length:=by
 have hd:=W.sh _ (nT hi)
 by_cases h:(dAt t i).aA=2∨(dAt t i).aA=3∨(dAt t i).aA=6
 ·rw [qo h] at hc
  have:=hd.ref h
  rw [List.mem_singleton.1 hc]
  omega
 ·by_cases h4:(dAt t i).aA=4
  ·rw [lN h4] at hc
   obtain ⟨f,hf,rfl⟩:=List.mem_map.1 hc
   have:=hd.typ h4 f hf
   omega
  ·rw [Ag h h4] at hc;cases hc
theorem Rch.lt (W:Wf t l) {i k:Nat} (hi:i<t.au.length) (h:Rch t i k):k<t.au.length:=by
 induction h with
 |refl=>exact hi
 |step h hc ih=>exact (oW W ih hc).2
theorem Rch.trans {i j k:Nat} (h:Rch t i j) (g:Rch t j k):Rch t i k:=by
 induction g with
 |refl=>exact h
 |step g hc ih=>exact .step ih hc
def keysL (m:List (Int×Bool)):List Int:=m.map (·.1)
def Px (m:List (Int×Bool)):Prop:=∀p∈m,p.2=true
theorem DT {m:List (Int×Bool)} (h:Px m) (y:Int):(bM ieq m y).getD false=true↔y∈keysL m:=by
  induction m with
  |nil=>simp [bM,keysL]
  | cons p m ih =>
    have ih:=ih (fun q hq=>h q (List.mem_cons_of_mem _ hq))
    simp only [bM,keysL,List.map_cons,List.mem_cons]
    by_cases hy:ieq y p.1=true
    · rw [if_pos hy]
      have e:y=p.1:=by simpa [ieq] using hy
      simp [h p List.mem_cons_self,e]
    · rw [if_neg hy]
      have e:y≠p.1:=by simpa [ieq] using hy
      rw [ih]
      simp [e,keysL]
theorem ug (m : List (Int × Bool)) (y z : Int) (v : Bool) : z ∈ keysL (iG ieq m y v) ↔ z ∈ keysL m ∨ z = y := by
  induction m with
  |nil=>simp [iG,keysL]
  | cons p m ih =>
    simp only [iG]
    by_cases hy:ieq y p.1=true
    · rw [if_pos hy]
      have e:y=p.1:=by simpa [ieq] using hy
      simp only [keysL,List.map_cons,List.mem_cons]
      constructor
      · rintro (h|h)
        · exact .inr h
        · exact .inl (.inr h)
      · rintro ((h|h)|h)
        · exact .inl (by rw [h,e])
        · exact .inr h
        · exact .inl h
    · rw [if_neg hy]
      simp only [keysL,List.map_cons,List.mem_cons] at ih⊢
      rw [ih]
      constructor
      · rintro (h|h|h)
        · exact .inl (.inl h)
        · exact .inl (.inr h)
        · exact .inr h
      · rintro ((h|h)|h)
        · exact .inl h
        · exact .inr (.inl h)
        · exact .inr (.inr h)
theorem TS {m:List (Int×Bool)} (h:Px m) (y:Int):Px (iG ieq m y true):=by
  induction m with
  |nil=>intro p hp;simp [iG] at hp;rw [hp]
  | cons p m ih =>
    have ih:=ih (fun q hq=>h q (List.mem_cons_of_mem _ hq))
    simp only [iG]
    split
    · intro q hq
      rcases List.mem_cons.1 hq with rfl|hq
      · rfl
      · exact h q (List.mem_cons_of_mem _ hq)
    · intro q hq
      rcases List.mem_cons.1 hq with rfl|hq
      · exact h q List.mem_cons_self
      · exact ih q hq
def unv (n:Nat) (m:List (Int×Bool)):Nat:=((List.range n).filter fun k=> !(keysL m).contains ((k:Nat):Int)).length
theorem DU {p q : Nat → Bool} : ∀ {l : List Nat}, (∀ x ∈ l, q x = true → p x = true) → (∃ x ∈ l, p x = true ∧ q x = false) → (l.filter q).length < (l.filter p).length
  |[],_,h=>by obtain ⟨x,hx,_⟩:=h;cases hx
  | y :: l, h, hx => by
    have hle:∀{l:List Nat},(∀x∈l,q x=true→p x=true)→(l.filter q).length≤(l.filter p).length:=by
      intro l
      induction l with
      |nil=>intro _;simp
      | cons z l ih =>
        intro h
        have:=ih (fun x hx=>h x (List.mem_cons_of_mem _ hx))
        rw [List.filter_cons,List.filter_cons]
        by_cases hq:q z=true
        · rw [if_pos hq,if_pos (h z List.mem_cons_self hq)];simpa using this
        · rw [if_neg hq]
          split
          · simp;omega
          · exact this
    rw [List.filter_cons,List.filter_cons]
    obtain ⟨x,hx,hp,hq⟩:=hx
    rcases List.mem_cons.1 hx with rfl|hx
    · rw [if_pos hp,if_neg (by rw [hq];simp)]
      have:=hle (l:=l) (fun x hx=>h x (List.mem_cons_of_mem _ hx))
      simp;omega
    · have ih:=DU (l:=l) (fun x hx=>h x (List.mem_cons_of_mem _ hx)) ⟨x,hx,hp,hq⟩
      by_cases hqy:q y=true
      · rw [if_pos hqy,if_pos (h y List.mem_cons_self hqy)];simpa using ih
      · rw [if_neg hqy]
        split
        · simp;omega
        · exact ih
theorem TT {n:Nat} {m:List (Int×Bool)} {i:Nat} (hi:i<n) (h:((i:Nat):Int)∉keysL m):unv n (iG ieq m (i:Int) true)<unv n m:=by
  unfold unv
  refine DU (fun x _ hx=>?_) ⟨i,List.mem_range.2 hi,?_,?_⟩
  · simp only [Bool.not_eq_true'] at hx⊢
    cases hc:(keysL m).contains ((x:Nat):Int) with
    |false=>rfl
    | true =>
      have:((x:Nat):Int)∈keysL (iG ieq m (i:Int) true):=(ug _ _ _ _).2 (.inl (List.contains_iff_mem.1 hc))
      rw [List.contains_iff_mem.2 this] at hx
      cases hx
  · simp only [Bool.not_eq_true']
    cases hc:(keysL m).contains ((i:Nat):Int) with
    |false=>rfl
    |true=>exact absurd (List.contains_iff_mem.1 hc) h
  · simp only [Bool.not_eq_false']
    exact List.contains_iff_mem.2 ((ug _ _ _ _).2 (.inr X))
theorem Vw {n : Nat} {m m' : List (Int × Bool)} (h : ∀ y ∈ keysL m, y ∈ keysL m') : unv n m' ≤ unv n m := by
  unfold unv
  have hle:∀{p q:Nat→Bool} {l:List Nat},(∀x∈l,q x=true→p x=true)→(l.filter q).length≤(l.filter p).length:=by
    intro p q l
    induction l with
    |nil=>intro _;simp
    | cons z l ih =>
      intro h
      have:=ih (fun x hx=>h x (List.mem_cons_of_mem _ hx))
      rw [List.filter_cons,List.filter_cons]
      by_cases hq:q z=true
      · rw [if_pos hq,if_pos (h z List.mem_cons_self hq)];simpa using this
      · rw [if_neg hq]
        split
        · simp;omega
        · exact this
  refine hle (fun x _ hx=>?_)
  simp only [Bool.not_eq_true'] at hx⊢
  cases hc:(keysL m).contains ((x:Nat):Int) with
  |false=>rfl
  |true=>rw [List.contains_iff_mem.2 (h _ (List.contains_iff_mem.1 hc))] at hx;cases hx
structure Seen (t:aQ) (from_:Nat→Prop) (m m':List (Int×Bool)):Prop where
 all:Px m'
 mono:∀y∈keysL m,y∈keysL m'
 new:∀y∈keysL m',y∉keysL m→∃k:Nat,y=(k:Int)∧(∃i,from_ i∧Rch t i k)∧∀c∈kids (dAt t k),c∈keysL m'
theorem Seen.rfl' {from_:Nat→Prop} {m:List (Int×Bool)} (h:Px m):Seen t from_ m m:=⟨h,fun _ h=>h,fun y h1 h2=>absurd h1 h2⟩
theorem Seen.then {F G H:Nat→Prop} {a b c:List (Int×Bool)} (h:Seen t F a b) (g:Seen t G b c) (hF:∀i,F i→H i) (hG:∀i,G i→H i):Seen t H a c:=by
 refine ⟨g.all,fun y hy=>g.mono y (h.mono y hy),fun y hy hn=>?_⟩
 by_cases hb:y∈keysL b
 ·obtain ⟨k,e,⟨i,h1,h2⟩,h3⟩:=h.new y hb hn
  exact ⟨k,e,⟨i,hF i h1,h2⟩,fun c hc=>g.mono c (h3 c hc)⟩
 ·obtain ⟨k,e,⟨i,h1,h2⟩,h3⟩:=g.new y hy hb
  exact ⟨k,e,⟨i,hG i h1,h2⟩,h3⟩
def Oy (t:aQ) (i:Nat) (m:List (Int×Bool)):Prop:=∃m',Ev (fun k=>fU.f k (i:Int) m t.au) m'∧Seen t (fun q=>q=i) m m'∧((i:Nat):Int)∈keysL m'
theorem KU {i:Nat} {U:Nat} (hl:(dAt t i).ak.length≤9223372036854775807) (hr:∀f∈(dAt t i).ak,f.vType=((f.vType.toNat:Nat):Int)∧f.vType.toNat<t.au.length)
    (hv:∀(c:Nat) (m:List (Int×Bool)),c<t.au.length→Px m→unv t.au.length m<U→Oy t c m):∀(e j:Nat) (m:List (Int×Bool)),j+e=(dAt t i).ak.length→Px m→unv t.au.length m<U→
    ∃m',(∃K,∀k q,K≤k→K≤q→fU.l0 (fU.f k) (i:Int) t.au q (j:Int) m=some m')∧Seen t (fun q=>∃f∈(dAt t i).ak,f.vType.toNat=q) m m'∧∀f∈(dAt t i).ak.drop j,f.vType∈keysL m':=by
  intro e
  induction e with
  | zero =>
    intro j m hj hm hU
    refine ⟨m,⟨1,fun k q _ hq=>?_⟩,Seen.rfl' hm,?_⟩
    · obtain ⟨q,rfl⟩:∃p,q=p+1:=⟨q-1,by omega⟩
      rw [fU.l0,oQ,if_neg (by simp;omega)]
    · rw [List.drop_eq_nil_of_le (by omega)];simp
  | succ e ih =>
    intro j m hj hm hU
    have hlt:j<(dAt t i).ak.length:=by omega
    have hf:=hr _ (getD_mem (z:=aj) hlt)
    obtain ⟨m1,⟨K1,h1⟩,s1,k1⟩:=hv ((dAt t i).ak.getD j aj).vType.toNat m hf.2 hm hU
    obtain ⟨m2,⟨K2,h2⟩,s2,k2⟩:=ih (j+1) m1 (by omega) s1.all (Nat.lt_of_le_of_lt (Vw s1.mono) hU)
    refine ⟨m2,⟨max K1 K2+1,fun k q hk hq=>?_⟩,s1.then s2 (fun q hq=>⟨_,getD_mem (z:=aj) hlt,hq.symm⟩) (fun _ h=>h),?_⟩
    · obtain ⟨q,rfl⟩:∃p,q=p+1:=⟨q-1,by omega⟩
      rw [fU.l0,oQ,if_pos (by simp;omega),if_pos (by omega),ig,hf.1,show fU.f k _ _ _=_ from h1 k (by omega)]
      simp only [Option.bind_some]
      rw [fF hlt hl]
      exact h2 k q (by omega) (by omega)
    · rw [jV aj hlt]
      intro f hfm
      rcases List.mem_cons.1 hfm with rfl|hfm
      · rw [hf.1];exact s2.mono _ k1
      · exact k2 f hfm
theorem zy (k:Int):((shp k).getD aI).mD=decide (k=2∨k=3∨k=6):=by
 unfold shp
 repeat' split
 all_goals first|(subst_vars;rfl)|(rw [decide_eq_false (by omega)];rfl)
theorem visit (W : Wf t l) : ∀ (U i : Nat) (m : List (Int × Bool)), unv t.au.length m = U → i < t.au.length → Px m → Oy t i m := by
  intro U
  induction U using Nat.strongRecOn with
  | _ U ih =>
    intro i m hU hi hm
    by_cases hin:((i:Nat):Int)∈keysL m
    · refine ⟨m,Ev.succ (Ev.pure fun k=>?_),Seen.rfl' hm,hin⟩
      rw [fU.f,if_pos ((DT hm _).2 hin)]
    · have hnf:¬(bM ieq m (i:Int)).getD false=true:=fun h=>hin ((DT hm _).1 h)
      have hless:=TT (n:=t.au.length) hi hin
      have hall:=TS hm (i:Int)
      obtain ⟨ms,hms,hsh⟩:=wZ (dAt t i).aA
      have hd:=W.sh _ (nT hi)
      have hself:((i:Nat):Int)∈keysL (iG ieq m (i:Int) true):=(ug _ _ _ _).2 (.inr X)
      by_cases hk:(dAt t i).aA=2∨(dAt t i).aA=3∨(dAt t i).aA=6
      · obtain ⟨hr1,hr2⟩:=DN W hi hk
        obtain ⟨m2,⟨K,hK⟩,s2,k2⟩:=ih _ (by rw [←hU];exact hless) (dAt t i).bY.toNat (iG ieq m (i:Int) true) rfl hr2 hall
        refine ⟨m2,⟨K+1,fun k hk'=>?_⟩,⟨s2.all,fun y hy=>s2.mono y ((ug _ _ _ _).2 (.inl hy)),fun y hy hn=>?_⟩,s2.mono _ hself⟩
        · obtain ⟨k,rfl⟩:∃q,k=q+1:=⟨k-1,by omega⟩
          show fU.f (k+1) (i:Int) m t.au=_
          rw [fU.f,if_neg hnf,if_pos (by omega),oQ,hms]
          simp only [Option.bind_some]
          rw [hsh,zy,if_pos (decide_eq_true hk),hr1,show fU.f k _ _ _=_ from hK k (by omega)]
          simp only [Option.bind_some]
          rw [if_neg (Pv (by omega))]
        · by_cases hy1:y∈keysL (iG ieq m (i:Int) true)
          · rcases (ug _ _ _ _).1 hy1 with h|h
            · exact absurd h hn
            · refine ⟨i,h,⟨i,X, .refl⟩,fun c hc=>?_⟩
              rw [qo hk] at hc
              rw [List.mem_singleton.1 hc,hr1]
              exact k2
          · obtain ⟨k,e,⟨q,h1,h2⟩,h3⟩:=s2.new y hy hy1
            subst h1
            refine ⟨k,e,⟨i,X,?_⟩,h3⟩
            have hstep:Rch t i (dAt t i).bY.toNat:=Rch.step (c:=(dAt t i).bY) .refl (by rw [qo hk];exact List.mem_singleton.2 X)
            exact hstep.trans h2
      · by_cases h4:(dAt t i).aA=4
        · have hfr:∀f∈(dAt t i).ak,f.vType=((f.vType.toNat:Nat):Int)∧f.vType.toNat<t.au.length:=fun f hf=>by have:=hd.typ h4 f hf;omega
          obtain ⟨m2,⟨K,hK⟩,s2,k2⟩:=KU (t:=t) (i:=i) (U:=unv t.au.length m) (by have:=hd.few;omega) hfr (fun c m' hc hm' hlt=>ih _ (by rw [←hU];exact hlt) c m' rfl hc hm') (dAt t i).ak.length 0 (iG ieq m (i:Int) true) (by omega) hall hless
          rw [List.drop_zero] at k2
          refine ⟨m2,⟨K+1,fun k hk'=>?_⟩,⟨s2.all,fun y hy=>s2.mono y ((ug _ _ _ _).2 (.inl hy)),fun y hy hn=>?_⟩,s2.mono _ hself⟩
          · obtain ⟨k,rfl⟩:∃q,k=q+1:=⟨k-1,by omega⟩
            show fU.f (k+1) (i:Int) m t.au=_
            rw [fU.f,if_neg hnf,if_pos (by omega),oQ,hms]
            simp only [Option.bind_some]
            rw [hsh,zy,if_neg (by simpa using hk)]
            simp only [Option.bind_some]
            rw [if_pos (Oq h4),show fU.l0 (fU.f k) (i:Int) t.au k 0 _=_ from hK k k (by omega) (by omega)]
            rfl
          · by_cases hy1:y∈keysL (iG ieq m (i:Int) true)
            · rcases (ug _ _ _ _).1 hy1 with h|h
              · exact absurd h hn
              · refine ⟨i,h,⟨i,X, .refl⟩,fun c hc=>?_⟩
                rw [lN h4] at hc
                obtain ⟨f,hf,rfl⟩:=List.mem_map.1 hc
                exact k2 f hf
            · obtain ⟨k,e,⟨q,⟨f,hf,h1⟩,h2⟩,h3⟩:=s2.new y hy hy1
              subst h1
              refine ⟨k,e,⟨i,X,?_⟩,h3⟩
              have hstep:Rch t i f.vType.toNat:=Rch.step (c:=f.vType) .refl (by rw [lN h4];exact List.mem_map.2 ⟨f,hf,X⟩)
              exact hstep.trans h2
        · refine ⟨iG ieq m (i:Int) true,Ev.succ (Ev.pure fun k=>?_),⟨hall,fun y hy=>(ug _ _ _ _).2 (.inl hy),fun y hy hn=>?_⟩,hself⟩
          · rw [fU.f,if_neg hnf,if_pos (by omega),oQ,hms]
            simp only [Option.bind_some]
            rw [hsh,zy,if_neg (by simpa using hk)]
            simp only [Option.bind_some]
            rw [if_neg (Pv h4)]
          · rcases (ug _ _ _ _).1 hy with h|h
            · exact absurd h hn
            · refine ⟨i,h,⟨i,X, .refl⟩,fun c hc=>?_⟩
              rw [Ag hk h4] at hc;cases hc
def Ar (l:List Nat):List Int:=l.map fun i=>((i:Nat):Int)
theorem TU (l:List Nat) (j:Nat) (hj:j<l.length):rd 0 (Ar l) (j:Int)=((l.getD j 0:Nat):Int):=by
 rw [ig]
 unfold Ar
 rw [List.getD_eq_getElem?_getD,List.getElem?_map,List.getElem?_eq_getElem hj,List.getD_eq_getElem?_getD,List.getElem?_eq_getElem hj]
 rfl
theorem G7 (W:Wf t l) {fr:List Nat} (hf:∀i∈fr,i<t.au.length) (hl:fr.length≤9223372036854775807):∀(e j:Nat) (m:List (Int×Bool)),j+e=fr.length→Px m→
    ∃m',Ev2 (fun k q=>jf.l0 k t (Ar fr) q (j:Int) m) m'∧Seen t (fun q=>q∈fr) m m'∧∀i∈fr.drop j,((i:Nat):Int)∈keysL m':=by
  have hln:(Ar fr).length=fr.length:=by unfold Ar;rw [List.length_map]
  intro e
  induction e with
  | zero =>
    intro j m hj hm
    refine ⟨m,Ev2.pure (fun k q=>?_),Seen.rfl' hm,?_⟩
    · rw [jf.l0,if_neg (by rw [hln];simp;omega)]
    · rw [List.drop_eq_nil_of_le (by omega)];simp
  | succ e ih =>
    intro j m hj hm
    have hlt:j<fr.length:=by omega
    have hmem:=getD_mem (z:=0) hlt
    obtain ⟨m1,h1,s1,k1⟩:=visit W _ (fr.getD j 0) m rfl (hf _ hmem) hm
    obtain ⟨m2,h2,s2,k2⟩:=ih (j+1) m1 (by omega) s1.all
    refine ⟨m2,Ev2.step h1 (r:=fun k q v1=>jf.l0 k t (Ar fr) q ((j+1:Nat):Int) v1) h2 (fun k q=>?_),s1.then s2 (fun q hq=>by rw [hq];exact hmem) (fun _ h=>h),?_⟩
    · rw [jf.l0,if_pos (by rw [hln];simp;omega),if_pos (by rw [hln];omega),TU _ _ hlt,fF hlt hl]
    · rw [jV 0 hlt]
      intro i him
      rcases List.mem_cons.1 him with rfl|him
      · exact s2.mono _ k1
      · exact k2 i him
theorem EI (W:Wf t l) {fr:List Nat} (hf:∀i∈fr,i<t.au.length) (hl:fr.length≤9223372036854775807):∃mv,Ev (fun k=>jf.f k t (Ar fr)) mv∧Px mv∧∀y,y∈keysL mv↔∃k:Nat,y=(k:Int)∧∃i∈fr,Rch t i k:=by
  obtain ⟨mv,h1,s,h2⟩:=G7 W hf hl fr.length 0 [] (by omega) (by intro p hp;cases hp)
  rw [List.drop_zero] at h2
  obtain ⟨K,hK⟩:=h1.diag
  have hnil:∀y,y∉keysL []:=fun y h=>by cases h
  refine ⟨mv,⟨K,fun k hk=>?_⟩,s.all,fun y=>⟨fun hy=>?_,fun h=>?_⟩⟩
  · show jf.f k t (Ar fr)=_
    unfold jf.f
    rw [show jf.l0 k t (Ar fr) k 0 []=_ from hK k hk]
    rfl
  · obtain ⟨k,e,⟨i,h3,h4⟩,_⟩:=s.new y hy (hnil y)
    exact ⟨k,e,i,h3,h4⟩
  · obtain ⟨k,rfl,i,hi,hr⟩:=h
    induction hr with
    |refl=>exact h2 i hi
    | step h hc ih =>
      obtain ⟨k,e,_,h5⟩:=s.new _ ih (hnil _)
      have e:_=k:=Int.ofNat.inj e
      subst e
      have h6:=h5 _ hc
      have h7:=(oW W (Rch.lt W (hf i hi) h) hc).1
      rw [←h7];exact h6
end
noncomputable def tell (p:Prop):Bool:=by classical exact decide p
theorem mY {p:Prop} (h:p):tell p=true:=by unfold tell;simp [h]
theorem jW {p:Prop} (h:¬p):tell p=false:=by unfold tell;simp [h]
theorem QD {p:Prop}:tell p=true↔p:=by unfold tell;simp
theorem FT {p:Prop} {b:Bool} (h:b=true↔p):b=tell p:=by
 by_cases hp:p
 ·rw [mY hp];exact h.2 hp
 ·rw [jW hp]
  cases b with
  |false=>rfl
  |true=>exact absurd (h.1 rfl) hp
theorem jw {p q:Prop} (h:p↔q):tell p=tell q:=FT (QD.trans h)
def fAt (d:aZ) (j:Nat):bf:=d.ak.getD j aj
def nI (t:aQ) (u:aQ) (k:Int) (f g:bf):Prop:=f.aF=g.aF∧f.vAt=g.vAt∧(k=4→tx t f.vType.toNat=tx u g.vType.toNat)
structure qU (t:aQ) (d:aZ) (u:aQ) (g:aZ):Prop where
 kind:d.aA=g.aA
 name:d.aF=g.aF
 int:d.aY.aU=g.aY.aU∧d.aY.aJ=g.aY.aJ
 num:d.vN=g.vN
 ref:d.aA=2∨d.aA=3∨d.aA=6→tx t d.bY.toNat=tx u g.bY.toNat
 len:d.ak.length=g.ak.length
 fld:∀j,j<d.ak.length→nI t u d.aA (fAt d j) (fAt g j)
theorem I8 {a b : List bf} {p : Nat → bf → bf → Option Bool} {q : bf → bf → Prop} (hl : a.length ≤ 9223372036854775807) (hab : a.length = b.length)
    (hp:∀j,j<a.length→Ev (fun k=>p k (a.getD j aj) (b.getD j aj)) (tell (q (a.getD j aj) (b.getD j aj)))):∀(e j:Nat),j+e=a.length→
    Ev2 (fun k m=>aV.l0 a b (p k) m (j:Int)) (if tell (∀i,j≤i→i<a.length→q (a.getD i aj) (b.getD i aj))=true then .inr () else .inl false):=by
  intro e
  induction e with
  | zero =>
    intro j hj
    refine Ev2.pure fun k m=>?_
    rw [aV.l0,if_neg (by simp;omega),if_pos (mY (fun i h1 h2=>by omega))]
  | succ e ih =>
    intro j hj
    have hlt:j<a.length:=by omega
    have h2:=ih (j+1) (by omega)
    refine Ev2.step (hp j hlt) (r:=fun k m v1=>if (!v1)=true then (some (.inl false)) else (aV.l0 a b (p k) m ((j+1:Nat):Int))) ?_ (fun k m=>?_)
    · by_cases hq:q (a.getD j aj) (b.getD j aj)
      · rw [mY hq]
        obtain ⟨K,hK⟩:=h2
        refine ⟨K,fun k m hk hm=>?_⟩
        simp only [Bool.not_true,Bool.false_eq_true,if_false]
        rw [show aV.l0 a b (p k) m ((j+1:Nat):Int)=_ from hK k m hk hm]
        congr 2
        rw [jw (p:=∀i,j+1≤i→i<a.length→q (a.getD i aj) (b.getD i aj)) (q:=∀i,j≤i→i<a.length→q (a.getD i aj) (b.getD i aj))]
        exact ⟨fun h i h1 h2 => by
          by_cases e:i=j
          · subst e;exact hq
          · exact h i (by omega) h2, fun h i h1 h2 => h i (by omega) h2⟩
      · rw [jW hq,if_neg (by rw [jW (fun h=>hq (h j (Nat.le_refl _) hlt))];simp)]
        exact ⟨0,fun k m _ _=>rfl⟩
    · rw [aV.l0,if_pos (by simp;omega),if_pos (by omega),if_pos (by omega),ig,ig,fF hlt hl]
theorem Oz {a b:List bf} {p:Nat→bf→bf→Option Bool} {q:bf→bf→Prop} (hl:a.length≤9223372036854775807)
  (hp:a.length=b.length→∀j,j<a.length→Ev (fun k=>p k (a.getD j aj) (b.getD j aj)) (tell (q (a.getD j aj) (b.getD j aj)))):
  Ev (fun k=>aV.f k a b (p k)) (tell (a.length=b.length∧∀i,i<a.length→q (a.getD i aj) (b.getD i aj))):=by
 by_cases hab:a.length=b.length
 ·obtain ⟨K,hK⟩:=(I8 hl hab (hp hab) a.length 0 (by omega)).diag
  refine ⟨K,fun k hk=>?_⟩
  show aV.f k a b (p k)=_
  unfold aV.f
  rw [if_neg (by simp;omega),show aV.l0 a b (p k) k 0=_ from hK k hk]
  rw [jw (p:=∀i,0≤i→i<a.length→q (a.getD i aj) (b.getD i aj)) (q:=a.length=b.length∧∀i,i<a.length→q (a.getD i aj) (b.getD i aj)) ⟨fun h=>⟨hab,fun i hi=>h i (by omega) hi⟩,fun h i _ hi=>h.2 i hi⟩]
  generalize tell (a.length=b.length∧∀i,i<a.length→q (a.getD i aj) (b.getD i aj))=x
  cases x<;>rfl
 ·refine Ev.pure fun k=>?_
  unfold aV.f
  rw [if_pos (by simp;omega),jW (fun h=>hab h.1)]
section
variable {t u:aQ} {l m:List Int}
theorem OA {k : Int} {d : aZ} {f g : bf} (hd : d.aA = k) (h : k = 4 → Ev (fun k => fB.f k t f.vType) (tx t f.vType.toNat) ∧ Ev (fun k => fB.f k u g.vType) (tx u g.vType.toNat)) :
    Ev (fun k=>nG.f k f g d t u) (tell (nI t u k f g)):=by
  have hs:∀a b:ByteArray,strEq a b=tell (a=b):=fun a b=>FT gq
  have hi:∀a b:Int,(a==b)=tell (a=b):=fun a b=>FT beq_iff_eq
  by_cases h4:k=4
  · obtain ⟨⟨K1,h1⟩,⟨K2,h2⟩⟩:=h h4
    refine ⟨max K1 K2,fun n hn=>?_⟩
    show nG.f n f g d t u=_
    unfold nG.f
    rw [show fB.f n t f.vType=_ from h1 n (by omega),show fB.f n u g.vType=_ from h2 n (by omega),hd,h4,hs f.aF,hi f.vAt]
    by_cases c1:f.aF=g.aF
    · by_cases c2:f.vAt=g.vAt
      · simp only [mY c1,mY c2,Bool.and_self,beq_self_eq_true,bne_self_eq_false,if_true,Option.bind_some,Bool.true_and,Bool.false_or,hs (tx t f.vType.toNat)]
        exact congrArg some (jw ⟨fun h=>⟨c1,c2,fun _=>h⟩,fun h=>h.2.2 X⟩)
      · rw [mY c1,jW c2,jW (fun h:nI t u 4 f g=>c2 h.2.1)];rfl
    · rw [jW c1,jW (fun h:nI t u 4 f g=>c1 h.1)];rfl
  · refine Ev.pure fun n=>?_
    unfold nG.f
    rw [show (d.aA !=4)=true from by rw [hd];simpa using h4,hs f.aF,hi f.vAt]
    by_cases c1:f.aF=g.aF
    · by_cases c2:f.vAt=g.vAt
      · rw [mY c1,mY c2,mY (show nI t u k f g from ⟨c1,c2,fun h=>absurd h h4⟩)];rfl
      · rw [mY c1,jW c2,jW (fun h:nI t u k f g=>c2 h.2.1)];rfl
    · rw [jW c1,jW (fun h:nI t u k f g=>c1 h.1)];rfl
theorem QE (W : Wf t l) (V : Wf u m) {i j : Nat} (hi : i < t.au.length) (hj : j < u.au.length) : Ev (fun k => oO.f k t (dAt t i) u (dAt u j)) (tell (qU t (dAt t i) u (dAt u j))) := by
  have hD:=W.sh _ (nT hi)
  have hG:=V.sh _ (nT hj)
  have hlen:=hD.few
  have htx:∀{t:aQ} {l:List Int} (W:Wf t l) {c:Int},0≤c→c<t.au.length→Ev (fun k=>fB.f k t c) (tx t c.toNat):=fun {t l} W {c} h0 h1=>by
    have:=(zx W (i:=c.toNat) (by omega)).1
    rwa [show ((c.toNat:Nat):Int)=c by omega] at this
  by_cases hne:(dAt t i).aA=(dAt u j).aA∧(dAt t i).aF=(dAt u j).aF∧((dAt t i).aY.aU=(dAt u j).aY.aU∧(dAt t i).aY.aJ=(dAt u j).aY.aJ)∧(dAt t i).vN=(dAt u j).vN
  · obtain ⟨n1,n2,⟨n3,n4⟩,n5⟩:=hne
    obtain ⟨ms,hms,hsh⟩:=wZ (dAt t i).aA
    have hF := Oz (a := (dAt t i).ak) (b := (dAt u j).ak) (p := fun k z0 z1 => nG.f k z0 z1 (dAt t i) t u) (q := nI t u (dAt t i).aA) (by omega) (fun hab x hx => OA X (fun h4 => by
      have r1:=hD.typ h4 _ (getD_mem (z:=aj) hx)
      have r2:=hG.typ (by omega) _ (getD_mem (z:=aj) (by omega:x<(dAt u j).ak.length))
      exact ⟨htx W r1.1 r1.2, htx V r2.1 r2.2⟩))
    obtain ⟨K3,h3⟩:=hF
    have hcond:¬((((((dAt t i).aA !=(dAt u j).aA)||(!(strEq (dAt t i).aF (dAt u j).aF)))||(!(((dAt t i).aY.aU==(dAt u j).aY.aU)&&(((dAt t i).aY.aJ==(dAt u j).aY.aJ)&&true))))||((dAt t i).vN !=(dAt u j).vN))=true):=by
      rw [n1,n2,n3,n4,n5,gq.2 rfl];simp
    by_cases hk:(dAt t i).aA=2∨(dAt t i).aA=3∨(dAt t i).aA=6
    · have r1:=hD.ref hk
      have r2:=hG.ref (by rw [←n1];exact hk)
      obtain ⟨K1,h1⟩:=htx W r1.1 r1.2
      obtain ⟨K2,h2⟩:=htx V r2.1 r2.2
      refine ⟨K1+K2+K3,fun k hk'=>?_⟩
      show oO.f k t (dAt t i) u (dAt u j)=_
      unfold oO.f
      rw [if_neg hcond,hms]
      simp only [Option.bind_some]
      rw [hsh,zy,decide_eq_true hk]
      simp only [beq_self_eq_true,Bool.and_self,if_true]
      rw [show fB.f k t (dAt t i).bY=_ from h1 k (by omega),show fB.f k u (dAt u j).bY=_ from h2 k (by omega)]
      simp only [Option.bind_some,Bool.true_and]
      by_cases c:tx t (dAt t i).bY.toNat=tx u (dAt u j).bY.toNat
      · rw [gq.2 c,if_neg (by simp),show aV.f k _ _ _=_ from h3 k (by omega)]
        exact congrArg some (jw ⟨fun h=>⟨n1,n2,⟨n3,n4⟩,n5,fun _=>c,h.1,h.2⟩,fun h=>⟨h.len,h.fld⟩⟩)
      · rw [if_pos (by
          cases hs:strEq (tx t (dAt t i).bY.toNat) (tx u (dAt u j).bY.toNat) with
          |false=>rfl
          | true => exact absurd (gq.1 hs) c), jW (fun h => c (h.ref hk))]
    · refine ⟨K3,fun k hk'=>?_⟩
      show oO.f k t (dAt t i) u (dAt u j)=_
      unfold oO.f
      rw [if_neg hcond,hms]
      simp only [Option.bind_some]
      rw [hsh,zy,decide_eq_false hk]
      simp only [show (false==true)=false from rfl,Bool.true_and,Bool.false_and,Bool.false_eq_true,if_false,Option.bind_some]
      rw [show aV.f k _ _ _=_ from h3 k (by omega)]
      exact congrArg some (jw ⟨fun h=>⟨n1,n2,⟨n3,n4⟩,n5,fun h'=>absurd h' hk,h.1,h.2⟩,fun h=>⟨h.len,h.fld⟩⟩)
  · refine Ev.pure fun k=>?_
    unfold oO.f
    rw [if_pos,jW (fun h=>hne ⟨h.kind,h.name,h.int,h.num⟩)]
    by_cases a1:(dAt t i).aA=(dAt u j).aA
    · by_cases a2:(dAt t i).aF=(dAt u j).aF
      · by_cases a3:(dAt t i).aY.aU=(dAt u j).aY.aU∧(dAt t i).aY.aJ=(dAt u j).aY.aJ
        · have a4:(dAt t i).vN≠(dAt u j).vN:=fun h=>hne ⟨a1,a2,a3,h⟩
          rw [Um a4];simp
        · have:((((dAt t i).aY.aU==(dAt u j).aY.aU)&&(((dAt t i).aY.aJ==(dAt u j).aY.aJ)&&true)))=false:=by
            rw [Bool.eq_false_iff]
            intro h
            simp only [Bool.and_true,Bool.and_eq_true,beq_iff_eq] at h
            exact a3 h
          rw [this];simp
      · have:strEq (dAt t i).aF (dAt u j).aF=false:=by
          rw [Bool.eq_false_iff]
          exact fun h=>a2 (gq.1 h)
        rw [this];simp
    · rw [Um a1];simp
theorem uM {name:ByteArray} (h:0≤qX t name):∃k:Nat,qX t name=(k:Int)∧k<t.au.length∧gy (dAt t k)=true∧(dAt t k).aF=name:=by
 unfold qX at h⊢
 split at h
 ·next ha=>
  rw [if_pos ha]
  obtain ⟨x,hx,hq⟩:=List.any_eq_true.1 ha
  have hlt:=List.findIdx_lt_length_of_exists ⟨x,hx,hq⟩
  refine ⟨_,X,hlt,?_⟩
  have hg:=List.findIdx_getElem (w:=hlt)
  have he:dAt t (t.au.findIdx (AY name))=t.au[t.au.findIdx (AY name)]:=by
   unfold dAt
   rw [List.getD_eq_getElem?_getD,List.getElem?_eq_getElem hlt]
   rfl
  rw [he]
  unfold AY at hg
  simp only [Bool.and_eq_true] at hg
  exact ⟨hg.1,gq.1 hg.2⟩
 ·omega
theorem Ah {name:ByteArray} (h:¬0≤qX t name):∀k,k<t.au.length→gy (dAt t k)=true→(dAt t k).aF≠name:=by
 unfold qX at h
 split at h
 ·omega
 ·next ha=>
  intro k hk hn he
  refine ha (List.any_eq_true.2 ⟨dAt t k,nT hk,?_⟩)
  unfold AY
  rw [hn,he,gq.2 rfl];rfl
def tK (t u:aQ) (k:Nat):Prop:=gy (dAt t k)=true→∃j,j<u.au.length∧gy (dAt u j)=true∧qU t (dAt t k) u (dAt u j)
def EqS (t:aQ) (i:Nat) (u:aQ) (j:Nat):Prop:=tx t i=tx u j∧∀k,Rch t i k→tK t u k
theorem TV (W : Wf t l) (V : Wf u m) {k : Nat} (hk : k < t.au.length) (z : Bool) : Ev (fun n => jU.l0 n t u (k : Int) z) (if tell (tK t u k) = true then .inr () else .inl false) := by
  by_cases hn:gy (dAt t k)=true
  · obtain ⟨K1,h1⟩:=I5 V.few (dAt t k).aF
    by_cases h0:0≤qX u (dAt t k).aF
    · obtain ⟨j,e,hj,hnj,hname⟩:=uM h0
      obtain ⟨K2,h2⟩:=QE W V hk hj
      refine ⟨K1+K2,fun n hn'=>?_⟩
      show jU.l0 n t u (k:Int) z=_
      rw [jU.l0,if_pos (by omega),oQ]
      simp only [jH.f,Option.bind_some]
      show (if gy (dAt t k)=true then _ else _)=_
      rw [if_pos hn,show mP.f n u _=_ from h1 n (by omega),e]
      simp only [Option.bind_some]
      rw [show decide (((j:Nat):Int)<0)=false from decide_eq_false (by omega),oQ]
      simp only [beq_self_eq_true,Bool.and_self,if_true]
      rw [if_pos (fun _=>by omega),show oO.f n t (dAt t k) u (dAt u j)=_ from h2 n (by omega)]
      simp only [Option.bind_some,Bool.false_or]
      have hc : tell (qU t (dAt t k) u (dAt u j)) = tell (tK t u k) := jw ⟨fun h _ => ⟨j, hj, hnj, h⟩, fun h => by
        obtain ⟨j',hj',hn',ha⟩:=h hn
        have:=sU V hj hj' hnj hn' (by rw [hname,ha.name])
        subst this
        exact ha⟩
      rw [hc]
      cases tell (tK t u k)<;>rfl
    · refine ⟨K1,fun n hn'=>?_⟩
      have hlt:qX u (dAt t k).aF<0:=by omega
      show jU.l0 n t u (k:Int) z=_
      rw [jU.l0,if_pos (by omega),oQ]
      simp only [jH.f,Option.bind_some]
      show (if gy (dAt t k)=true then _ else _)=_
      rw [if_pos hn,show mP.f n u _=_ from h1 n (by omega)]
      simp only [Option.bind_some]
      rw [decide_eq_true hlt, jW (fun h => by
        obtain ⟨j',hj',hn',ha⟩:=h hn
        exact Ah h0 j' hj' hn' ha.name.symm)]
      simp
  · refine Ev.pure fun n=>?_
    rw [jU.l0,if_pos (by omega),oQ]
    simp only [jH.f,Option.bind_some]
    show (if gy (dAt t k)=true then _ else _)=_
    rw [if_neg hn,mY (show tK t u k from fun h=>absurd h hn)]
    rfl
theorem OB {f : Nat → Int → Bool → Option (Bool ⊕ Unit)} {g : Int × Bool → Prop} : ∀ (mv : List (Int × Bool)), (∀ p ∈ mv, Ev (fun n => f n p.1 p.2) (if tell (g p) = true then .inr () else .inl false)) → Ev (fun n => KA (f n) mv) (if tell (∀ p ∈ mv, g p) = true then .inr () else .inl false)
  | [], _ => by
    rw [mY (by intro p hp;cases hp)]
    exact Ev.pure fun n=>rfl
  | p :: r, h => by
    obtain ⟨K1,h1⟩:=h p List.mem_cons_self
    obtain ⟨K2,h2⟩:=OB r (fun q hq=>h q (List.mem_cons_of_mem _ hq))
    refine ⟨K1+K2,fun n hn=>?_⟩
    show KA (f n) (p::r)=_
    rw [KA,show f n p.1 p.2=_ from h1 n (by omega),show KA (f n) r=_ from h2 n (by omega)]
    simp only [Option.bind_some]
    by_cases c1:g p
    · by_cases c2:∀q∈r,g q
      · rw [mY c1, mY c2, mY (by
          intro q hq
          rcases List.mem_cons.1 hq with rfl|hq
          · exact c1
          · exact c2 q hq)]
        rfl
      · rw [mY c1,jW c2,jW (p:=∀q∈p::r,g q) (fun h=>c2 fun q hq=>h q (List.mem_cons_of_mem _ hq))]
        rfl
    · rw [jW c1,jW (p:=∀q∈p::r,g q) (fun h=>c1 (h p List.mem_cons_self))]
      by_cases c2:∀q∈r,g q
      · rw [mY c2];rfl
      · rw [jW c2];rfl
theorem QF (W:Wf t l) (V:Wf u m) {i j:Nat} (hi:i<t.au.length) (hj:j<u.au.length):Ev (fun k=>jU.f k t (i:Int) u (j:Int)) (tell (EqS t i u j)):=by
 obtain ⟨⟨K1,h1⟩,_⟩:=zx W hi
 obtain ⟨⟨K2,h2⟩,_⟩:=zx V hj
 by_cases c:tx t i=tx u j
 ·obtain ⟨mv,⟨K3,h3⟩,hall,hkeys⟩:=EI W (fr:=[i]) (by intro x hx;rw [List.mem_singleton.1 hx];exact hi) (by simp)
  have hp:∀p∈mv,∃k:Nat,p.1=(k:Int)∧k<t.au.length∧Rch t i k:=fun p hp=>by
   obtain ⟨k,e,x,hx,hr⟩:=(hkeys p.1).1 (List.mem_map.2 ⟨p,hp,rfl⟩)
   rw [List.mem_singleton.1 hx] at hr
   exact ⟨k,e,hr.lt W hi,hr⟩
  obtain ⟨K4, h4⟩ := OB (f := fun n => jU.l0 n t u) (g := fun p => tK t u p.1.toNat) mv (fun p hpm => by
   obtain ⟨k,e,hk,_⟩:=hp p hpm
   rw [e]
   exact TV W V hk p.2)
  refine ⟨K1+K2+K3+K4,fun k hk=>?_⟩
  show jU.f k t (i:Int) u (j:Int)=_
  unfold jU.f
  rw [show fB.f k t (i:Int)=_ from h1 k (by omega),show fB.f k u (j:Int)=_ from h2 k (by omega)]
  simp only [Option.bind_some]
  rw [gq.2 c,if_neg (by simp),show jf.f k t [((i:Nat):Int)]=_ from h3 k (by omega)]
  simp only [Option.bind_some]
  rw [show KA (jU.l0 k t u) mv=_ from h4 k (by omega)]
  rw [jw (p := ∀ p ∈ mv, tK t u p.1.toNat) (q := EqS t i u j) ⟨fun h => ⟨c, fun q hr => by
   obtain ⟨p,hpm,e⟩:=List.mem_map.1 ((hkeys ((q:Nat):Int)).2 ⟨q,rfl,i,List.mem_singleton.2 rfl,hr⟩)
   have:=h p hpm
   rw [e] at this
   exact this⟩, fun h p hpm => by
   obtain ⟨k,e,hk,hr⟩:=hp p hpm
   rw [e]
   exact h.2 k hr⟩]
  cases tell (EqS t i u j)<;>rfl
 ·refine ⟨K1+K2,fun k hk=>?_⟩
  show jU.f k t (i:Int) u (j:Int)=_
  unfold jU.f
  rw [show fB.f k t (i:Int)=_ from h1 k (by omega),show fB.f k u (j:Int)=_ from h2 k (by omega)]
  simp only [Option.bind_some]
  rw [if_pos (by
   cases hs:strEq (tx t i) (tx u j) with
   |false=>rfl
   | true => exact absurd (gq.1 hs) c), jW (fun h => c h.1)]
end
def Typ (t:aQ) (a:Int) (i:Nat):Prop:=a=(i:Int)∧i<t.au.length∧∃l,Wf t l
theorem QG {t:aQ} (hF:∀d∈t.au,Ce d) (a:Int):(∃i l,a=((i:Nat):Int)∧i<t.au.length∧Wf t l∧Ev (fun k=>dH.f k t) true∧Ev (fun k=>jY.f k t a) 0)∨(∃e,e≠0∧(∀i,¬Typ t a i)∧Ev (fun k=>jY.f k t a) e):=by
 rcases DK hF with ⟨l,W,hv⟩|⟨hno,hv⟩
 ·have h1:=ED hv a
  by_cases h:0≤a∧a<t.au.length
  ·rw [if_pos h] at h1
   exact .inl ⟨a.toNat,l,by omega,by omega,W,hv,h1⟩
  ·rw [if_neg h] at h1
   exact .inr ⟨3,by decide,fun i hi=>h ⟨by have:=hi.1;omega,by have:=hi.1;have:=hi.2.1;omega⟩,h1⟩
 ·exact .inr ⟨80,by decide,fun i hi=>by obtain ⟨_,_,l,W⟩:=hi;exact hno l W,GY hv a⟩
def EqX (t:aQ) (a:Int) (u:aQ) (b:Int):Prop:=∃i j,Typ t a i∧Typ u b j∧EqS t i u j
section
variable {t u v:aQ} {l m n:List Int}
theorem nI.refl {k:Int} {f:bf}:nI t t k f f:=⟨rfl,rfl,fun _=>rfl⟩
theorem nI.symm {k:Int} {f g:bf} (h:nI t u k f g):nI u t k g f:=⟨h.1.symm,h.2.1.symm,fun e=>(h.2.2 e).symm⟩
theorem nI.trans {k:Int} {f g e:bf} (h:nI t u k f g) (h2:nI u v k g e):nI t v k f e:=⟨h.1.trans h2.1,h.2.1.trans h2.2.1,fun e=>(h.2.2 e).trans (h2.2.2 e)⟩
theorem qU.refl {d:aZ}:qU t d t d:=⟨rfl,rfl,⟨rfl,rfl⟩,rfl,fun _=>rfl,rfl,fun _ _=> .refl⟩
theorem qU.symm {d g:aZ} (h:qU t d u g):qU u g t d:=
 ⟨h.kind.symm,h.name.symm,⟨h.int.1.symm,h.int.2.symm⟩,h.num.symm,fun e=>(h.ref (by rw [h.kind];exact e)).symm,h.len.symm,fun j hj=>by rw [←h.kind];exact (h.fld j (by rw [h.len];exact hj)).symm⟩
theorem qU.trans {d g e:aZ} (h:qU t d u g) (h2:qU u g v e):qU t d v e:=
 ⟨h.kind.trans h2.kind, h.name.trans h2.name, ⟨h.int.1.trans h2.int.1, h.int.2.trans h2.int.2⟩, h.num.trans h2.num, fun e => (h.ref e).trans (h2.ref (by rw [← h.kind]; exact e)), h.len.trans h2.len,
  fun j hj => (h.fld j hj).trans (by have := h2.fld j (by rw [← h.len]; exact hj); rw [← h.kind] at this; exact this)⟩
def Match (t:aQ) (d:aZ) (u:aQ) (g:aZ):Prop:=
 (gy d=true∧gy g=true∧qU t d u g)∨(d.aA=2∧g.aA=2∧tx t d.bY.toNat=tx u g.bY.toNat)∨(d.aA=3∧g.aA=3∧d.vN=g.vN∧tx t d.bY.toNat=tx u g.bY.toNat)
theorem Match.symm {d g:aZ} (h:Match t d u g):Match u g t d:=by
 rcases h with ⟨a,b,c⟩|⟨a,b,c⟩|⟨a,b,c,d⟩
 ·exact .inl ⟨b,a,c.symm⟩
 ·exact .inr (.inl ⟨b,a,c.symm⟩)
 ·exact .inr (.inr ⟨b,a,c.symm,d.symm⟩)
theorem Match.kind {d g:aZ} (h:Match t d u g):d.aA=g.aA:=by
 rcases h with ⟨a,b,c⟩|⟨a,b,c⟩|⟨a,b,c,d⟩
 ·exact c.kind
 ·rw [a,b]
 ·rw [a,b]
theorem Match.ref {d g:aZ} (h:Match t d u g) (hk:d.aA=2∨d.aA=3∨d.aA=6):tx t d.bY.toNat=tx u g.bY.toNat:=by
 rcases h with ⟨a,b,c⟩|⟨a,b,c⟩|⟨a,b,c,d⟩
 ·exact c.ref hk
 ·exact c
 ·exact d
theorem Match.alike {d g:aZ} (h:Match t d u g) (hn:gy d=true):qU t d u g:=by
 obtain ⟨h2,h3⟩:=(oU _).1 hn
 rcases h with ⟨a,b,c⟩|⟨a,b,c⟩|⟨a,b,c,d⟩
 ·exact c
 ·exact absurd a h2
 ·exact absurd a h3
theorem Match.named {d g:aZ} (h:Match t d u g) (hn:gy d=true):gy g=true:=by
 obtain ⟨h2,h3⟩:=(oU _).1 hn
 exact (oU _).2 ⟨by rw [←h.kind];exact h2,by rw [←h.kind];exact h3⟩
theorem Match.kid {d g : aZ} (h : Match t d u g) {c : Int} (hc : c ∈ kids d) : ∃ c' ∈ kids g, tx t c.toNat = tx u c'.toNat := by
  by_cases hk:d.aA=2∨d.aA=3∨d.aA=6
  · rw [qo hk] at hc
    rw [List.mem_singleton.1 hc]
    exact ⟨g.bY,by rw [qo (by rw [←h.kind];exact hk)];exact List.mem_singleton.2 X,h.ref hk⟩
  · by_cases h4:d.aA=4
    · have hA:=h.alike ((oU _).2 ⟨by omega,by omega⟩)
      rw [lN h4] at hc
      obtain ⟨f,hf,rfl⟩:=List.mem_map.1 hc
      obtain ⟨j,hj,e⟩:=List.mem_iff_getElem.1 hf
      have hfj:fAt d j=f:=by unfold fAt;rw [List.getD_eq_getElem?_getD,List.getElem?_eq_getElem hj];exact e
      have hjg:j<g.ak.length:=by rw [←hA.len];exact hj
      refine ⟨(fAt g j).vType,?_,?_⟩
      · rw [lN (by rw [←h.kind];exact h4)]
        exact List.mem_map.2 ⟨fAt g j,getD_mem hjg,X⟩
      · rw [←hfj];exact (hA.fld j hj).2.2 h4
    · rw [Ag hk h4] at hc;cases hc
theorem Ai (W:Wf t l) (V:Wf u m) {i k k':Nat} (hi:i<t.au.length) (hc:∀k,Rch t i k→tK t u k) (hr:Rch t i k) (hk':k'<u.au.length) (he:tx t k=tx u k'):Match t (dAt t k) u (dAt u k'):=by
 have hk:=hr.lt W hi
 rcases KT W V hk hk' he with ⟨a,b,c⟩|h|h
 ·obtain ⟨j,hj,hn,hA⟩:=hc k hr a
  have:=sU V hj hk' hn b (by rw [←hA.name,c])
  subst this
  exact .inl ⟨a,b,hA⟩
 ·exact .inr (.inl h)
 ·exact .inr (.inr h)
section
variable {i j:Nat}
theorem Vx (W:Wf t l) (V:Wf u m) (hi:i<t.au.length) (hj:j<u.au.length) (E:EqS t i u j) {k:Nat} (h:Rch t i k):∃k',Rch u j k'∧tx t k=tx u k':=by
  induction h with
  |refl=>exact ⟨j, .refl,E.1⟩
  | step h hc ih =>
    obtain ⟨k',hr,he⟩:=ih
    obtain ⟨c',h1,h2⟩:=(Ai W V hi E.2 h (hr.lt V hj) he).kid hc
    exact ⟨c'.toNat, .step hr h1,h2⟩
theorem Vy (W:Wf t l) (V:Wf u m) (hi:i<t.au.length) (hj:j<u.au.length) (E:EqS t i u j) {k':Nat} (h:Rch u j k'):∃k,Rch t i k∧tx t k=tx u k':=by
  induction h with
  |refl=>exact ⟨i, .refl,E.1⟩
  | step h hc ih =>
    obtain ⟨k,hr,he⟩:=ih
    obtain ⟨c',h1,h2⟩:=(Ai W V hi E.2 hr (h.lt V hj) he).symm.kid hc
    exact ⟨c'.toNat, .step hr h1,h2.symm⟩
theorem EqS.refl (W:Wf t l) (hi:i<t.au.length):EqS t i t i:=⟨rfl,fun k hr hn=>⟨k,hr.lt W hi,hn, .refl⟩⟩
theorem EqS.symm (W:Wf t l) (V:Wf u m) (hi:i<t.au.length) (hj:j<u.au.length) (E:EqS t i u j):EqS u j t i:=by
 refine ⟨E.1.symm,fun k' hr' hn'=>?_⟩
 obtain ⟨k,hr,he⟩:=Vy W V hi hj E hr'
 have M:=(Ai W V hi E.2 hr (hr'.lt V hj) he).symm
 exact ⟨k,hr.lt W hi,M.named hn',M.alike hn'⟩
theorem EqS.trans {q:Nat} (W:Wf t l) (V:Wf u m) (hi:i<t.au.length) (hj:j<u.au.length) (E:EqS t i u j) (F:EqS u j v q):EqS t i v q:=by
 refine ⟨E.1.trans F.1,fun k hr hn=>?_⟩
 obtain ⟨k',hr',he⟩:=Vx W V hi hj E hr
 have M:=Ai W V hi E.2 hr (hr'.lt V hj) he
 obtain ⟨k2,h1,h2,h3⟩:=F.2 k' hr' (M.named hn)
 exact ⟨k2,h1,h2,(M.alike hn).trans h3⟩
theorem EqS.part {c c':Nat} (E:EqS t i u j) (hr:Rch t i c) (he:tx t c=tx u c'):EqS t c u c':=⟨he,fun k h=>E.2 k (hr.trans h)⟩
theorem OC {d:aZ} {c:Int} (h:c∈cont d):c∈kids d:=by
 rcases Af h with e|e|e
 ·rw [(lH (known:=[]) (.inl e)).2] at h;rw [qo (by omega)];exact h
 ·rw [sF e] at h;rw [lN e];exact h
 ·rw [(lH (known:=[]) (.inr e)).2] at h;rw [qo (by omega)];exact h
theorem QH {S : Nat → Prop} (W : Wf t l) (V : Wf u m) (hS : ∀ k, S k → k < t.au.length) (hSk : ∀ k, S k → ∀ c ∈ kids (dAt t k), S c.toNat) (hM : ∀ k k', S k → k' < u.au.length → tx t k = tx u k' → Match t (dAt t k) u (dAt u k')) : ∀ (k k' : Nat), S k → k' < u.au.length → tx t k = tx u k' → l.getD k 0 = m.getD k' 0 := by
  obtain ⟨rk,hg⟩:=W.sz.ex
  obtain ⟨rk',hg'⟩:=V.sz.ex
  have key:∀(R k k':Nat),rk k=R→S k→k'<u.au.length→tx t k=tx u k'→l.getD k 0=m.getD k' 0:=by
    intro R
    induction R using Nat.strongRecOn with
    | _ R ih =>
      intro k k' hR hr hk' he
      have hk:=hS k hr
      have M:=hM k k' hr hk' he
      obtain ⟨_,_,g3,g4⟩:=hg k hk
      obtain ⟨_,_,_,g4'⟩:=hg' k' hk'
      rw [g4,g4']
      show nval (dAt t k) (inner l (dAt t k))=nval (dAt u k') (inner m (dAt u k'))
      have href:(dAt t k).aA=3∨(dAt t k).aA=6→inner l (dAt t k)=inner m (dAt u k'):=fun h=>by
        obtain ⟨e1,e2⟩:=lH (known:=l) h
        obtain ⟨e3,e4⟩:=lH (d:=dAt u k') (known:=m) (by rw [←M.kind];exact h)
        rw [e1,e3]
        obtain ⟨r1,r2⟩:=DN W hk (by omega)
        obtain ⟨r3,r4⟩:=DN V hk' (by rw [←M.kind];omega)
        have hcm:(dAt t k).bY∈cont (dAt t k):=by rw [e2];exact List.mem_singleton.2 X
        exact ih _ (by have:=g3 _ hcm;omega) (dAt t k).bY.toNat (dAt u k').bY.toNat X (hSk k hr _ (OC hcm)) r4 (M.ref (by omega))
      have hkind:=M.kind
      unfold nval
      rw [←hkind]
      by_cases e1:(dAt t k).aA=1
      · rw [if_pos e1,if_pos e1];exact (M.alike ((oU _).2 ⟨by omega,by omega⟩)).int.1
      · rw [if_neg e1,if_neg e1]
        by_cases e2:(dAt t k).aA=2
        · rw [if_pos e2,if_pos e2]
        · rw [if_neg e2,if_neg e2]
          by_cases e3:(dAt t k).aA=3
          · rw [if_pos e3,if_pos e3,href (.inl e3)]
            rcases M with ⟨a,b,c⟩|⟨a,b,c⟩|⟨a,b,c,d⟩
            · rw [c.num]
            · omega
            · rw [c]
          · rw [if_neg e3,if_neg e3]
            by_cases e4:(dAt t k).aA=4
            · rw [if_pos e4,if_pos e4];exact (M.alike ((oU _).2 ⟨by omega,by omega⟩)).num
            · rw [if_neg e4,if_neg e4]
              by_cases e5:(dAt t k).aA=5
              · rw [if_pos e5,if_pos e5]
              · rw [if_neg e5,if_neg e5]
                by_cases e6:(dAt t k).aA=6
                · rw [if_pos e6,if_pos e6,href (.inr e6)]
                · rw [if_neg e6,if_neg e6]
  exact fun k k'=>key (rk k) k k' X
end
theorem EqX.symm {a b:Int} (h:EqX t a u b):EqX u b t a:=by
 obtain ⟨i,j,⟨rfl,hi,l,W⟩,⟨rfl,hj,m,V⟩,E⟩:=h
 exact ⟨j,i,⟨X,hj,m,V⟩,⟨X,hi,l,W⟩,E.symm W V hi hj⟩
theorem EqX.trans {a b c:Int} (h:EqX t a u b) (g:EqX u b v c):EqX t a v c:=by
 obtain ⟨i,j,⟨rfl,hi,l,W⟩,⟨rfl,hj,m,V⟩,E⟩:=h
 obtain ⟨j',q,⟨e,_,_⟩,hq,F⟩:=g
 have e:j=j':=Int.ofNat.inj e
 subst e
 exact ⟨i,q,⟨X,hi,l,W⟩,hq,E.trans W V hi hj F⟩
end
theorem RP : ∀ (n : Nat) (f : Nat → Nat), (∀ i, i ≤ n → f i < n) → ∃ a b, a < b ∧ b ≤ n ∧ f a = f b
  |0,f,h=>absurd (h 0 (Nat.le_refl _)) (by omega)
  | n + 1, f, h => by
    by_cases hx:∃a,a≤n∧f a=f (n+1)
    · obtain ⟨a,h1,h2⟩:=hx
      exact ⟨a,n+1,by omega,by omega,h2⟩
    · have hne:∀a,a≤n→f a≠f (n+1):=fun a ha e=>hx ⟨a,ha,e⟩
      obtain ⟨a, b, h1, h2, h3⟩ := RP n (fun i => if f i = n then f (n + 1) else f i) (fun i hi => by
        have h4:=h i (by omega)
        have h5:=h (n+1) (by omega)
        have h6:=hne i hi
        show (if f i=n then f (n+1) else f i)<n
        split
        · omega
        · omega)
      have h3:(if f a=n then f (n+1) else f a)=(if f b=n then f (n+1) else f b):=h3
      refine ⟨a,b,h1,by omega,?_⟩
      have ha:=hne a (by omega)
      have hb:=hne b h2
      split at h3<;>split at h3<;>omega
def hop (t:aQ) (i:Nat):Nat:=(dAt t i).bY.toNat
def hops (t:aQ):Nat→Nat→Nat
 |0,i=>i
 |e+1,i=>hops t e (hop t i)
theorem Cj (t:aQ):∀(a b i:Nat),hops t (a+b) i=hops t b (hops t a i)
  |0,b,i=>by rw [Nat.zero_add];rfl
  | a + 1, b, i => by
    rw [Nat.add_right_comm]
    exact Cj t a b (hop t i)
section
variable {t:aQ}
theorem OD {i:Nat}:rd ah t.au (dAt t i).bY=dAt t (hop t i):=rfl
theorem FU : ∀ (m i : Nat), pW t.au m (dAt t i) = false ↔ ∃ e, e ≤ m ∧ gy (dAt t (hops t e i)) = true
  | 0, i => by
    simp only [pW,Bool.not_eq_false']
    refine ⟨fun h=>⟨0,Nat.le_refl _,h⟩,fun ⟨e,he,h⟩=>?_⟩
    obtain rfl:e=0:=by omega
    exact h
  | m + 1, i => by
    simp only [pW,OD]
    by_cases hn:gy (dAt t i)=true
    · rw [if_pos hn]
      exact ⟨fun _=>⟨0,by omega,hn⟩,fun _=>rfl⟩
    · rw [if_neg hn,FU m (hop t i)]
      constructor
      · rintro ⟨e,h1,h2⟩
        exact ⟨e+1,by omega,h2⟩
      · rintro ⟨e,h1,h2⟩
        cases e with
        |zero=>exact absurd h2 hn
        |succ e=>exact ⟨e,by omega,h2⟩
theorem OE {n m : Nat} (hlt : ∀ i, i < n → gy (dAt t i) = false → hop t i < n) {i : Nat} (hi : i < n) (h : pW t.au m (dAt t i) = false) : pW t.au n (dAt t i) = false := by
  obtain ⟨e,_,he⟩:=(FU m i).1 h
  have key:∀e,gy (dAt t (hops t e i))=true→∃e',e'≤n∧gy (dAt t (hops t e' i))=true:=by
    intro e
    induction e using Nat.strongRecOn with
    | _ e ih =>
      intro he
      by_cases hen:e≤n
      · exact ⟨e,hen,he⟩
      · by_cases hx:∃e',e'<e∧gy (dAt t (hops t e' i))=true
        · obtain ⟨e',h1,h2⟩:=hx
          exact ih e' h1 h2
        · have hno:∀e',e'<e→gy (dAt t (hops t e' i))=false:=fun e' h1=>by
            cases hb:gy (dAt t (hops t e' i)) with
            |false=>rfl
            |true=>exact absurd ⟨e',h1,hb⟩ hx
          have hin:∀a,a≤n→hops t a i<n:=by
            intro a
            induction a with
            |zero=>intro _;exact hi
            | succ a iha =>
              intro ha
              rw [Cj t a 1 i]
              exact hlt _ (iha (by omega)) (hno a (by omega))
          obtain ⟨a,b,h1,h2,h3⟩:=RP n (fun a=>hops t a i) hin
          have h4:hops t e i=hops t (a+(e-b)) i:=by
            rw [show e=b+(e-b) by omega,Cj,Cj,←h3]
            congr 1;omega
          rw [h4] at he
          rw [hno _ (by omega)] at he
          cases he
  obtain ⟨e',h1,h2⟩:=key e he
  exact (FU n i).2 ⟨e',h1,h2⟩
end
def Bd (ch:Nat→List Nat):Nat→Nat→Prop
 |0,q=>ch q=[]
 |B+1,q=>∀c∈ch q,Bd ch B c
theorem Bd.up {ch:Nat→List Nat}:∀{B q:Nat},Bd ch B q→Bd ch (B+1) q
 |0,q,h=>fun c hc=>by rw [show ch q=[] from h] at hc;cases hc
 |B+1,q,h=>fun c hc=>(h c hc).up
theorem Bd.le {ch:Nat→List Nat} {q:Nat}:∀{B C:Nat},B≤C→Bd ch B q→Bd ch C q
  | B, 0, h, hb => by
    obtain rfl:B=0:=by omega
    exact hb
  | B, C + 1, h, hb => by
    by_cases e:B=C+1
    · subst e;exact hb
    · exact (Bd.le (by omega) hb).up
theorem TW {ch : Nat → List Nat} {n : Nat} (hlt : ∀ q, q < n → ∀ c ∈ ch q, c < n) (h : ∀ q, q < n → ∃ B, Bd ch B q) : ∃ rk : Nat → Nat, ∀ q, q < n → ∀ c ∈ ch q, rk c < rk q := by
  have hm : ∀ q, ∃ B, q < n → Bd ch B q ∧ ∀ C, Bd ch C q → B ≤ C := by
    intro q
    by_cases hq:q<n
    · obtain ⟨B,hB⟩:=h q hq
      have key:∀B,Bd ch B q→∃A,Bd ch A q∧∀C,Bd ch C q→A≤C:=by
        intro B
        induction B using Nat.strongRecOn with
        | _ B ih =>
          intro hB
          by_cases hx:∃C,C<B∧Bd ch C q
          · obtain ⟨C,h1,h2⟩:=hx
            exact ih C h1 h2
          · exact ⟨B, hB, fun C hC => by
              rcases Nat.lt_or_ge C B with h|h
              · exact absurd ⟨C,h,hC⟩ hx
              · exact h⟩
      obtain ⟨A,hA⟩:=key B hB
      exact ⟨A,fun _=>hA⟩
    · exact ⟨0,fun h=>absurd h hq⟩
  refine ⟨fun q=>Classical.choose (hm q),fun q hq c hc=>?_⟩
  obtain ⟨h1,_⟩:=Classical.choose_spec (hm q) hq
  obtain ⟨_,h4⟩:=Classical.choose_spec (hm c) (hlt q hq c hc)
  show Classical.choose (hm c)<Classical.choose (hm q)
  generalize Classical.choose (hm q)=B at h1⊢
  cases B with
  |zero=>rw [show ch q=[] from h1] at hc;cases hc
  |succ B=>exact Nat.lt_succ_of_le (h4 B (h1 c hc))
theorem KW {t u:aQ} {l m:List Int} (W:Wf t l) (V:Wf u m) (hM:∀k k',k<t.au.length→k'<u.au.length→tx t k=tx u k'→Match t (dAt t k) u (dAt u k')):
  ∀(k k':Nat),k<t.au.length→k'<u.au.length→tx t k=tx u k'→l.getD k 0=m.getD k' 0:=
 QH (S:=fun k=>k<t.au.length) W V (fun k h=>h) (fun k h c hc=>(oW W h hc).2) hM
abbrev Src:=List (aQ×Nat)
def sT (s:Src) (q:Nat):aQ:=(s.getD q (⟨[]⟩,0)).1
def sI (s:Src) (q:Nat):Nat:=(s.getD q (⟨[]⟩,0)).2
def dS (s:Src) (q:Nat):aZ:=dAt (sT s q) (sI s q)
noncomputable def xS (s:Src) (q:Nat):ByteArray:=tx (sT s q) (sI s q)
abbrev isRef (k:Int):Prop:=k=2∨k=3∨k=6
structure Re (u:aQ) (s:Src) (q:Nat):Prop where
 kind:(dAt u q).aA=(dS s q).aA
 name:(dAt u q).aF=(dS s q).aF
 int:(dAt u q).aY=(dS s q).aY
 num:(dAt u q).vN=(dS s q).vN
 ref:isRef (dS s q).aA→∃r:Nat,(dAt u q).bY=(r:Int)∧r<s.length∧xS s r=tx (sT s q) (dS s q).bY.toNat
 Yo:¬isRef (dS s q).aA→(dAt u q).bY=(dS s q).bY
 Vz:(dAt u q).ak.length=(dS s q).ak.length
 fld:∀j,j<(dS s q).ak.length→(fAt (dAt u q) j).aF=(fAt (dS s q) j).aF∧(fAt (dAt u q) j).vAt=(fAt (dS s q) j).vAt∧
  ((dS s q).aA=4→∃r:Nat,(fAt (dAt u q) j).vType=(r:Int)∧r<s.length∧xS s r=tx (sT s q) (fAt (dS s q) j).vType.toNat)∧((dS s q).aA≠4→(fAt (dAt u q) j).vType=(fAt (dS s q) j).vType)
structure Built (u:aQ) (s:Src):Prop where
 len:u.au.length=s.length
 few:s.length≤200
 src:∀q,q<s.length→(∃l,Wf (sT s q) l)∧sI s q<(sT s q).au.length
 re:∀q,q<s.length→Re u s q
 names:∀q r,q<s.length→r<s.length→gy (dS s q)=true→gy (dS s r)=true→(dS s q).aF=(dS s r).aF→q=r
 same:∀q r,q<s.length→r<s.length→∀k k',k<(sT s q).au.length→k'<(sT s r).au.length→tx (sT s q) k=tx (sT s r) k'→Match (sT s q) (dAt (sT s q) k) (sT s r) (dAt (sT s r) k')
theorem Aj {d e:aZ} {n m:Int}:∀(a b:List bf) (ns:List ByteArray),a.length=b.length→(∀j,j<a.length→(a.getD j aj).aF=(b.getD j aj).aF)→
    (∀j,j<a.length→lU d n (a.getD j aj)=true→lU e m (b.getD j aj)=true)→su d n ns a=true→su e m ns b=true
  |[],[],_,_,_,_,_=>rfl
  |[],_::_,_,h,_,_,_=>by simp at h
  |_::_,[],_,h,_,_,_=>by simp at h
  | x :: a, y :: b, ns, h, hn, hf, hh => by
    have n0:=hn 0 (by simp)
    have f0:=hf 0 (by simp)
    rw [List.getD_cons_zero,List.getD_cons_zero] at n0 f0
    simp only [su,Bool.and_eq_true] at hh⊢
    obtain ⟨⟨⟨h1,h2⟩,h3⟩,h4⟩:=hh
    rw [←n0]
    exact ⟨⟨⟨h1,h2⟩,f0 h3⟩,Aj a b _ (by simpa using h) (fun j hj=>by simpa using hn (j+1) (by simpa using hj)) (fun j hj=>by simpa using hf (j+1) (by simpa using hj)) h4⟩
theorem OG {d:aZ} {n:Int} {f:bf} (h:d.aA≠4) (h5:d.aA≠5):lU d n f=true:=by unfold lU;simp [h,h5]
theorem OH {d:aZ} {n:Int} {f:bf} (h:d.aA=4) (h0:0≤f.vType) (h1:f.vType<n):lU d n f=true:=by
 unfold lU
 have h2:¬f.vType<0:=by omega
 have h3:¬n≤f.vType:=by omega
 simp [h,h2,h3]
theorem G8 {d e:aZ} {n m:Int} {f g:bf} (hk:d.aA=5) (hk2:e.aA=5) (ht:f.vType=g.vType) (ha:f.vAt=g.vAt) (h:lU d n f=true):lU e m g=true:=by
 unfold lU at h⊢
 rw [hk2,←ht,←ha]
 rw [hk] at h
 simpa using h
theorem JU {n : Nat} : ∀ (ns : List ByteArray) (l : List aZ), (∀ d ∈ l, nS d (n : Int) = true) → (∀ d ∈ l, gy d = true → d.aF ∉ ns) → (∀ i j, i < j → j < l.length → gy (l.getD j ah) = true → (l.getD i ah).aF ≠ (l.getD j ah).aF) → xI n ns l = true
  |_,[],_,_,_=>rfl
  | ns, d :: r, h1, h2, h3 => by
    simp only [xI,Bool.and_eq_true,Bool.not_eq_true']
    refine ⟨⟨h1 d List.mem_cons_self,?_⟩,JU _ r (fun x hx=>h1 x (List.mem_cons_of_mem _ hx)) (fun x hx hn hm=>?_) (fun i j hij hj hn=>?_)⟩
    · cases hn:gy d with
      |false=>rfl
      | true =>
        rw [Bool.true_and,Bool.eq_false_iff]
        intro h
        obtain ⟨y,hy,e⟩:=List.any_eq_true.1 h
        rw [←gq.1 e] at hy
        exact h2 d List.mem_cons_self hn hy
    · rcases List.mem_cons.1 hm with e|hm
      · obtain ⟨j,hj,ej⟩:=List.mem_iff_getElem.1 hx
        have hg:r.getD j ah=x:=by rw [List.getD_eq_getElem?_getD,List.getElem?_eq_getElem hj];exact ej
        have:=h3 0 (j+1) (by omega) (by simpa using hj) (by rw [List.getD_cons_succ,hg];exact hn)
        rw [List.getD_cons_succ,List.getD_cons_zero,hg] at this
        exact this e.symm
      · exact h2 x (List.mem_cons_of_mem _ hx) hn hm
    · have:=h3 (i+1) (j+1) (by omega) (by simpa using hj) (by rw [List.getD_cons_succ];exact hn)
      rwa [List.getD_cons_succ,List.getD_cons_succ] at this
section
variable {u:aQ} {s:Src}
theorem AZ {t:aQ} {d:aZ} (h:d∈t.au):∃q,q<t.au.length∧dAt t q=d:=by
 obtain ⟨q,hq,e⟩:=List.mem_iff_getElem.1 h
 exact ⟨q,hq,by unfold dAt;rw [List.getD_eq_getElem?_getD,List.getElem?_eq_getElem hq];exact e⟩
theorem Built.named (B:Built u s) {q:Nat} (hq:q<s.length):gy (dAt u q)=gy (dS s q):=by
 unfold gy;rw [(B.re q hq).kind]
theorem Built.shaped (B : Built u s) {q : Nat} (hq : q < s.length) : nS (dAt u q) (u.au.length : Int) = true := by
  obtain ⟨⟨l,W⟩,hi⟩:=B.src q hq
  have R:=B.re q hq
  have h:=uh _ _ W.defs _ (nT hi)
  have h:nS (dS s q) ((sT s q).au.length:Int)=true:=h
  rw [B.len]
  unfold nS at h⊢
  rw [R.kind,R.name,R.int,R.num,R.Vz]
  cases hs:shp (dS s q).aA with
  |none=>rw [hs] at h;cases h
  | some σ =>
    rw [hs] at h
    have hσ:σ.mD=decide (isRef (dS s q).aA):=by
      have:=zy (dS s q).aA
      rw [hs] at this
      exact this
    simp only [Bool.and_eq_true] at h⊢
    obtain ⟨⟨⟨⟨⟨⟨h1,h2⟩,h3⟩,h4⟩,h5⟩,h6⟩,h7⟩:=h
    refine ⟨⟨⟨⟨⟨⟨h1,h2⟩,?_⟩,h4⟩,h5⟩,h6⟩,?_⟩
    · by_cases hr:isRef (dS s q).aA
      · obtain ⟨r,e,hlt,_⟩:=R.ref hr
        rw [hσ,decide_eq_true hr,if_pos rfl,e,decide_eq_true (by omega),decide_eq_true (by omega)]
        rfl
      · rw [hσ,decide_eq_false hr,if_neg (by simp)] at h3⊢
        rw [R.Yo hr];exact h3
    · refine Aj (dS s q).ak (dAt u q).ak [] R.Vz.symm (fun j hj=>(R.fld j hj).1.symm) (fun j hj hok=>?_) h7
      obtain ⟨g1,g2,g3,g4⟩:=R.fld j hj
      by_cases h4:(dS s q).aA=4
      · obtain ⟨r,e,hlt,_⟩:=g3 h4
        exact OH (by rw [R.kind];exact h4) (by show 0≤(fAt (dAt u q) j).vType;omega) (by show (fAt (dAt u q) j).vType<_;omega)
      · by_cases h5:(dS s q).aA=5
        · exact G8 h5 (by rw [R.kind];exact h5) (g4 h4).symm g2.symm hok
        · exact OG (by rw [R.kind];exact h4) (by rw [R.kind];exact h5)
theorem G9 {d:aZ} {n:Int} (h:nS d n=true) (hn:gy d=false):d.aF=ByteArray.empty:=by
 have hk:d.aA=2∨d.aA=3:=pG (by rw [hn];simp)
 unfold nS shp at h
 rcases hk with e|e
 ·simp only [e,Int.reduceEq,if_true,if_false,Bool.and_eq_true] at h
  exact gq.1 h.1.1.1.1.1.1
 ·simp only [e,Int.reduceEq,if_true,if_false,Bool.and_eq_true] at h
  exact gq.1 h.1.1.1.1.1.1
theorem QI {a:ByteArray} (h:rZ a=true):a≠ByteArray.empty:=by
 rintro rfl
 revert h;decide
theorem Built.defs (B:Built u s):xI u.au.length [] u.au=true:=by
 have hsh:∀d∈u.au,nS d (u.au.length:Int)=true:=fun d hd=>by
  obtain ⟨q,hq,rfl⟩:=AZ hd
  exact B.shaped (by rw [←B.len];exact hq)
 refine JU [] u.au hsh (fun _ _ _ h=>by cases h) (fun i j hij hj hn e=>?_)
 have hjs:j<s.length:=by rw [←B.len];exact hj
 have his:i<s.length:=by omega
 have hnj:gy (dAt u j)=true:=hn
 by_cases hni:gy (dAt u i)=true
 ·have:=B.names i j his hjs (by rw [←B.named his];exact hni) (by rw [←B.named hjs];exact hnj) (by rw [←(B.re i his).name,←(B.re j hjs).name];exact e)
  omega
 ·rw [Bool.not_eq_true] at hni
  have h1:=G9 (B.shaped his) hni
  have h2:=DL (B.shaped hjs) hnj
  exact QI h2 ((show (dAt u i).aF=(dAt u j).aF from e).symm.trans h1)
theorem Built.hop (B:Built u s) {q:Nat} (hq:q<s.length) (hr:isRef (dS s q).aA):hop u q<s.length∧xS s (hop u q)=tx (sT s q) (dS s q).bY.toNat:=by
 obtain ⟨r,e,h1,h2⟩:=(B.re q hq).ref hr
 unfold Go.Proofs.YtfjppgobidjndaaGreatDoor.hop
 rw [e,Int.toNat_natCast]
 exact ⟨h1,h2⟩
theorem Built.lost (B : Built u s) : ∀ (m q : Nat) (t : aQ) (k : Nat), q < s.length → (∃ l, Wf t l) → k < t.au.length → xS s q = tx t k → pW t.au m (dAt t k) = false → pW u.au m (dAt u q) = false := by
  intro m
  induction m with
  | zero =>
    intro q t k hq hW hk he h
    obtain ⟨l,W⟩:=hW
    obtain ⟨⟨l',W'⟩,hi⟩:=B.src q hq
    simp only [pW,Bool.not_eq_false'] at h⊢
    rw [B.named hq]
    rcases KT W' W hi hk he with ⟨a,_,_⟩|⟨a,b,c⟩|⟨a,b,c⟩
    · exact a
    · obtain ⟨h2,h3⟩:=(oU _).1 h;exact absurd b h2
    · obtain ⟨h2,h3⟩:=(oU _).1 h;exact absurd b h3
  | succ m ih =>
    intro q t k hq hW hk he h
    obtain ⟨l,W⟩:=hW
    obtain ⟨⟨l',W'⟩,hi⟩:=B.src q hq
    simp only [pW,OD] at h⊢
    by_cases hn:gy (dAt u q)=true
    · rw [if_pos hn]
    · rw [if_neg hn]
      rw [B.named hq] at hn
      have hkind:=pG hn
      obtain ⟨h1,h2⟩:=B.hop hq (by unfold isRef;omega)
      have hkt:gy (dAt t k)=true→False:=fun hx=>by
        rcases KT W' W hi hk he with ⟨a,_,_⟩|⟨a,b,c⟩|⟨a,b,c⟩
        · exact hn a
        · obtain ⟨h2,h3⟩:=(oU _).1 hx;exact h2 b
        · obtain ⟨h2,h3⟩:=(oU _).1 hx;exact h3 b
      rw [if_neg hkt] at h
      have hkk:=pG hkt
      have hrl:=DN W hk (by omega)
      have href:tx (sT s q) (dS s q).bY.toNat=tx t (dAt t k).bY.toNat:=by
        rcases KT W' W hi hk he with ⟨a,_,_⟩|⟨a,b,c⟩|⟨a,b,c,d⟩
        · exact absurd a hn
        · exact c
        · exact d
      exact ih _ t _ h1 ⟨l,W⟩ hrl.2 (h2.trans href) h
theorem Built.ends (B:Built u s) {q:Nat} (hq:q<s.length):pW u.au u.au.length (dAt u q)=false:=by
 obtain ⟨⟨l,W⟩,hi⟩:=B.src q hq
 have h:=B.lost _ q (sT s q) (sI s q) hq ⟨l,W⟩ hi X (W.ends _ (nT hi))
 refine OE (t:=u) (n:=u.au.length) (fun i hi hn=>?_) (by rw [B.len];exact hq) h
 rw [B.len] at hi⊢
 rw [B.named hi] at hn
 exact (B.hop hi (by have:=pG (d:=dS s i) (by rw [hn];simp);unfold isRef;omega)).1
theorem Built.sh (B:Built u s):∀d∈u.au,ShD d u.au.length:=DI _ _ B.defs
noncomputable def gS (s:Src):List Int:=(List.range s.length).map fun q=>by classical exact if h:∃l,Wf (sT s q) l then (Classical.choose h).getD (sI s q) 0 else 0
theorem VA {q:Nat} (hq:q<s.length) {l:List Int} (W:Wf (sT s q) l):(gS s).getD q 0=l.getD (sI s q) 0:=by
 unfold gS
 rw [List.getD_eq_getElem?_getD,List.getElem?_map,List.getElem?_range hq]
 simp only [Option.map_some,Option.getD_some]
 have h:∃l,Wf (sT s q) l:=⟨l,W⟩
 rw [dif_pos h,TR (Classical.choose_spec h) W]
theorem VB:(gS s).length=s.length:=by unfold gS;rw [List.length_map,List.length_range]
theorem Built.cont (B:Built u s) {q:Nat} (hq:q<s.length) {c:Int} (hc:c∈cont (dAt u q)):∃(r:Nat) (c':Int),c=(r:Int)∧r<s.length∧c'∈cont (dS s q)∧xS s r=tx (sT s q) c'.toNat:=by
 have R:=B.re q hq
 rcases Af hc with e|e|e
 ·rw [R.kind] at e
  rw [(lH (known:=[]) (.inl (by rw [R.kind];exact e))).2] at hc
  obtain ⟨r,h1,h2,h3⟩:=R.ref (by unfold isRef;omega)
  exact ⟨r,_,by rw [List.mem_singleton.1 hc];exact h1,h2,by rw [(lH (known:=[]) (.inl e)).2];exact List.mem_singleton.2 X,h3⟩
 ·rw [sF e] at hc
  rw [R.kind] at e
  obtain ⟨f,hf,rfl⟩:=List.mem_map.1 hc
  obtain ⟨j,hj,ej⟩:=List.mem_iff_getElem.1 hf
  have hfj:fAt (dAt u q) j=f:=by unfold fAt;rw [List.getD_eq_getElem?_getD,List.getElem?_eq_getElem hj];exact ej
  rw [R.Vz] at hj
  obtain ⟨r,h1,h2,h3⟩:=(R.fld j hj).2.2.1 e
  rw [hfj] at h1
  exact ⟨r,_,h1,h2,by rw [sF e];exact List.mem_map.2 ⟨_,getD_mem hj,X⟩,h3⟩
 ·rw [R.kind] at e
  rw [(lH (known:=[]) (.inr (by rw [R.kind];exact e))).2] at hc
  obtain ⟨r,h1,h2,h3⟩:=R.ref (by unfold isRef;omega)
  exact ⟨r,_,by rw [List.mem_singleton.1 hc];exact h1,h2,by rw [(lH (known:=[]) (.inr e)).2];exact List.mem_singleton.2 X,h3⟩
theorem Built.rank (B : Built u s) : ∃ rk : Nat → Nat, ∀ q, q < s.length → ∀ c ∈ Go.Proofs.YtfjppgobidjndaaGreatDoor.cont (dAt u q), rk c.toNat < rk q := by
  have hch:∀q,q<s.length→∀c∈(Go.Proofs.YtfjppgobidjndaaGreatDoor.cont (dAt u q)).map Int.toNat,c<s.length:=fun q hq c hc=>by
    obtain ⟨c',h1,rfl⟩:=List.mem_map.1 hc
    obtain ⟨r,_,rfl,h2,_⟩:=B.cont hq h1
    simpa using h2
  have hB : ∀ q, q < s.length → ∃ D, Bd (fun q => (Go.Proofs.YtfjppgobidjndaaGreatDoor.cont (dAt u q)).map Int.toNat) D q := by
    intro q hq
    obtain ⟨⟨l,W⟩,hi⟩:=B.src q hq
    obtain ⟨rk,hg⟩:=W.sz.ex
    have key:∀(D r k:Nat),rk k=D→r<s.length→k<(sT s q).au.length→xS s r=tx (sT s q) k→Bd (fun q=>(Go.Proofs.YtfjppgobidjndaaGreatDoor.cont (dAt u q)).map Int.toNat) (D+1) r:=by
      intro D
      induction D using Nat.strongRecOn with
      | _ D ih =>
        intro r k hD hr hk he c hc
        obtain ⟨c1,h1,rfl⟩:=List.mem_map.1 hc
        obtain ⟨r2,c2,rfl,h2,h3,h4⟩:=B.cont hr h1
        obtain ⟨_,hir⟩:=B.src r hr
        have M:=B.same r q hr hq _ _ hir hk he
        have Yp:∃c3∈Go.Proofs.YtfjppgobidjndaaGreatDoor.cont (dAt (sT s q) k),tx (sT s r) c2.toNat=tx (sT s q) c3.toNat:=by
          have hk3:=M.kind
          rcases Af h3 with e|e|e
          · have e2:(dAt (sT s q) k).aA=3:=hk3.symm.trans e
            have h3:c2∈Go.Proofs.YtfjppgobidjndaaGreatDoor.cont (dS s r):=h3
            rw [(lH (known:=[]) (.inl e)).2] at h3
            rw [List.mem_singleton.1 h3]
            exact ⟨_,by rw [(lH (known:=[]) (.inl e2)).2];exact List.mem_singleton.2 X,M.ref (.inr (.inl e))⟩
          · have e2:(dAt (sT s q) k).aA=4:=hk3.symm.trans e
            rw [sF e] at h3
            obtain ⟨c3,h5,h6⟩:=M.kid (c:=c2) (by show c2∈kids (dS s r);rw [lN e];exact h3)
            rw [lN e2] at h5
            exact ⟨c3,by rw [sF e2];exact h5,h6⟩
          · have e2:(dAt (sT s q) k).aA=6:=hk3.symm.trans e
            have h3:c2∈Go.Proofs.YtfjppgobidjndaaGreatDoor.cont (dS s r):=h3
            rw [(lH (known:=[]) (.inr e)).2] at h3
            rw [List.mem_singleton.1 h3]
            exact ⟨_,by rw [(lH (known:=[]) (.inr e2)).2];exact List.mem_singleton.2 X,M.ref (.inr (.inr e))⟩
        obtain ⟨c3,h5,h6⟩:=Yp
        have hlt:=(hg k hk).2.2.1 c3 h5
        have hcr:=sD (W.sh _ (nT hk)) c3 h5
        have:=ih (rk c3.toNat) (by omega) r2 c3.toNat X h2 (by omega) (h4.trans h6)
        rw [Int.toNat_natCast]
        exact this.le (by omega)
    exact ⟨_,key _ q (sI s q) X hq hi X⟩
  obtain ⟨rk,h⟩:=TW hch hB
  exact ⟨rk,fun q hq c hc=>h q hq _ (List.mem_map.2 ⟨c,hc,X⟩)⟩
theorem Built.size (B:Built u s) {q r k:Nat} (hq:q<s.length) (hr:r<s.length) {l:List Int} (W:Wf (sT s q) l) (hk:k<(sT s q).au.length) (he:xS s r=tx (sT s q) k):(gS s).getD r 0=l.getD k 0:=by
 obtain ⟨⟨m,V⟩,hi⟩:=B.src r hr
 rw [VA hr V]
 exact KW V W (fun a b ha hb=>B.same r q hr hq a b ha hb) _ _ hi hk he
theorem Built.sz (B:Built u s):DJ u.au (gS s):=by
 obtain ⟨rk,hrk⟩:=B.rank
 refine ⟨by rw [VB,B.len],rk,fun q hq=>?_⟩
 rw [B.len] at hq
 obtain ⟨⟨l,W⟩,hi⟩:=B.src q hq
 obtain ⟨_,hg⟩:=W.sz.ex
 obtain ⟨g1,g2,_,g4⟩:=hg _ hi
 have R:=B.re q hq
 rw [VA hq W]
 refine ⟨g1,g2,fun c hc=>hrk q hq c hc,?_⟩
 rw [g4]
 show nval (dS s q) (inner l (dS s q))=nval (dAt u q) (inner (gS s) (dAt u q))
 have href:(dS s q).aA=3∨(dS s q).aA=6→inner l (dS s q)=inner (gS s) (dAt u q):=fun h=>by
  rw [(lH (known:=l) h).1,(lH (d:=dAt u q) (known:=gS s) (by rw [R.kind];exact h)).1]
  obtain ⟨r,e,h1,h2⟩:=R.ref (by unfold isRef;omega)
  have hrl:=DN W hi (by show (dS s q).aA=2∨(dS s q).aA=3∨(dS s q).aA=6;omega)
  rw [e]
  exact (B.size hq h1 W hrl.2 h2).symm
 unfold nval
 rw [R.kind,R.int,R.num]
 by_cases e3:(dS s q).aA=3
 ·rw [href (.inl e3)]
 ·by_cases e6:(dS s q).aA=6
  ·rw [href (.inr e6)]
  ·simp only [if_neg e3,if_neg e6]
theorem Bz {l g:List Int} {N:Int}:∀(a b:List bf) (x:Int),a.length=b.length→(∀j,j<a.length→(a.getD j aj).vAt=(b.getD j aj).vAt∧rd 0 l (a.getD j aj).vType=rd 0 g (b.getD j aj).vType)→pV l x a=pV g x b
  |[],[],x,_,_=>rfl
  |[],_::_,_,h,_=>by simp at h
  |_::_,[],_,h,_=>by simp at h
  | y :: a, z :: b, x, h, hh => by
    have h0:=hh 0 (by simp)
    rw [List.getD_cons_zero,List.getD_cons_zero] at h0
    simp only [pV,h0.1,h0.2]
    split
    · rfl
    · exact Bz (N:=N) a b _ (by simpa using h) (fun j hj=>by simpa using hh (j+1) (by simpa using hj))
theorem Built.wf (B:Built u s):Wf u (gS s):=by
 refine ⟨by rw [B.len];exact B.few,B.defs,B.sz,fun d hd=>?_,fun d hd h4=>?_⟩
 ·obtain ⟨q,hq,rfl⟩:=AZ hd
  exact B.ends (by rw [←B.len];exact hq)
 ·obtain ⟨q,hq,rfl⟩:=AZ hd
  rw [B.len] at hq
  obtain ⟨⟨l,W⟩,hi⟩:=B.src q hq
  have R:=B.re q hq
  have h4':(dS s q).aA=4:=by rw [←R.kind];exact h4
  have hp:=W.placed _ (nT hi) h4'
  have hp:xg (dS s q) l=true:=hp
  unfold xg at hp⊢
  rw [R.num,←Bz (l:=l) (g:=gS s) (N:=0) (dS s q).ak (dAt u q).ak 0 R.Vz.symm (fun j hj=>?_)]
  ·exact hp
  ·obtain ⟨_,h2,h3,_⟩:=R.fld j hj
   obtain ⟨r,e,hr,hx⟩:=h3 h4'
   have ht:=(W.sh _ (nT hi)).typ h4' _ (getD_mem (z:=aj) hj)
   refine ⟨h2.symm,?_⟩
   show rd 0 l (fAt (dS s q) j).vType=rd 0 (gS s) (fAt (dAt u q) j).vType
   rw [e]
   have ht:0≤(fAt (dS s q) j).vType∧(fAt (dS s q) j).vType<(sT s q).au.length:=ht
   exact (B.size hq hr W (by omega) hx).symm
theorem Built.tx (B : Built u s) : ∀ (m q : Nat), q < s.length → pW u.au m (dAt u q) = false → Go.Proofs.YtfjppgobidjndaaGreatDoor.tx u q = xS s q := by
  have V:=B.wf
  have base:∀q,q<s.length→gy (dAt u q)=true→Go.Proofs.YtfjppgobidjndaaGreatDoor.tx u q=xS s q:=fun q hq hn=>by
    obtain ⟨⟨l,W⟩,hi⟩:=B.src q hq
    rw [xk (by rw [B.len];exact hq) hn,(B.re q hq).name]
    exact (xk hi (by show gy (dS s q)=true;rw [←B.named hq];exact hn)).symm
  intro m
  induction m with
  | zero =>
    intro q hq h
    simp only [pW,Bool.not_eq_false'] at h
    exact base q hq h
  | succ m ih =>
    intro q hq h
    simp only [pW,OD] at h
    by_cases hn:gy (dAt u q)=true
    · exact base q hq hn
    · rw [if_neg hn] at h
      have hk:=pG hn
      have R:=B.re q hq
      obtain ⟨⟨l,W⟩,hi⟩:=B.src q hq
      obtain ⟨h1,h2⟩:=B.hop hq (by rw [R.kind] at hk;unfold isRef;omega)
      have h3:=ih _ h1 h
      have hqu:q<u.au.length:=by rw [B.len];exact hq
      unfold xS
      rcases hk with e|e
      · rw [Bq V hqu e,Bq W hi (show (dS s q).aA=2 by rw [←R.kind];exact e)]
        rw [show Go.Proofs.YtfjppgobidjndaaGreatDoor.tx u (dAt u q).bY.toNat=_ from h3,h2];rfl
      · rw [Bv V hqu e,Bv W hi (show (dS s q).aA=3 by rw [←R.kind];exact e)]
        rw [show Go.Proofs.YtfjppgobidjndaaGreatDoor.tx u (dAt u q).bY.toNat=_ from h3,h2,R.num];rfl
theorem Built.text (B:Built u s) {q:Nat} (hq:q<s.length):Go.Proofs.YtfjppgobidjndaaGreatDoor.tx u q=xS s q:=B.tx _ q hq (B.ends hq)
theorem Built.alike (B:Built u s) {q:Nat} (hq:q<s.length):qU (sT s q) (dS s q) u (dAt u q):=by
 have R:=B.re q hq
 refine ⟨R.kind.symm,R.name.symm,by rw [R.int];exact ⟨X,X⟩,R.num.symm,fun h=>?_,R.Vz.symm,fun j hj=>?_⟩
 ·obtain ⟨r,e,h1,h2⟩:=R.ref h
  rw [e,Int.toNat_natCast,B.text h1,h2]
 ·obtain ⟨h1,h2,h3,h4⟩:=R.fld j hj
  refine ⟨h1.symm,h2.symm,fun h=>?_⟩
  obtain ⟨r,e,h5,h6⟩:=h3 h
  rw [e,Int.toNat_natCast,B.text h5,h6]
theorem Built.eq (B:Built u s) {t:aQ} {l:List Int} (W:Wf t l) (hsame:∀q,q<s.length→∀k k',k<t.au.length→k'<(sT s q).au.length→Go.Proofs.YtfjppgobidjndaaGreatDoor.tx t k=Go.Proofs.YtfjppgobidjndaaGreatDoor.tx (sT s q) k'→Match t (dAt t k) (sT s q) (dAt (sT s q) k'))
  {i j:Nat} (hi:i<t.au.length) (hall:∀k,Rch t i k→∃q,q<s.length∧xS s q=Go.Proofs.YtfjppgobidjndaaGreatDoor.tx t k) (hj:j<s.length) (he:xS s j=Go.Proofs.YtfjppgobidjndaaGreatDoor.tx t i):EqS t i u j:=by
 refine ⟨by rw [B.text hj,he],fun k hr hn=>?_⟩
 have hk:=hr.lt W hi
 obtain ⟨q,hq,hx⟩:=hall k hr
 obtain ⟨_,hiq⟩:=B.src q hq
 have M:=hsame q hq k _ hk hiq hx.symm
 have A:=B.alike hq
 refine ⟨q,by rw [B.len];exact hq,?_,(M.alike hn).trans A⟩
 rw [B.named hq]
 exact M.named hn
end
theorem He {ν : Type} (m : List (ByteArray × ν)) (k s : ByteArray) (v : ν) : bM strEq (iG strEq m k v) s = if s = k then some v else bM strEq m s := by
  induction m with
  | nil =>
    simp only [iG,bM]
    by_cases h:s=k
    · rw [if_pos (gq.2 h),if_pos h]
    · rw [if_neg (fun e=>h (gq.1 e)),if_neg h]
  | cons p m ih =>
    simp only [iG]
    by_cases hk:strEq k p.1=true
    · rw [if_pos hk]
      have:=gq.1 hk
      simp only [bM]
      by_cases hs:s=k
      · rw [if_pos (gq.2 hs),if_pos hs]
      · rw [if_neg (fun e=>hs (gq.1 e)),if_neg hs,if_neg (fun e=>hs ((gq.1 e).trans this.symm))]
    · rw [if_neg hk]
      simp only [bM]
      by_cases hs:strEq s p.1=true
      · rw [if_pos hs]
        have h1:=gq.1 hs
        rw [if_neg (fun e=>hk (gq.2 (e.symm.trans h1))),if_pos hs]
      · rw [if_neg hs,ih,if_neg hs]
theorem FV {d:aZ} {n:Int} {ns:List ByteArray} {l:List bf} (h:su d n ns l=true):∀f∈l,rZ f.aF=true:=fun f hf=>((fields_of ns l h).1 f hf).1
theorem Wf.fit {t : aQ} {l : List Int} (W : Wf t l) : ∀ d ∈ t.au, Ce d := by
  intro d hd
  have h:=uh _ _ W.defs _ hd
  have hs:=W.sh d hd
  refine ⟨?_,by have:=hs.few;omega,fun f hf=>?_⟩
  · cases hn:gy d with
    |true=>have:=Ci (DL h hn);omega
    |false=>rw [G9 h hn];decide
  · have hf':rZ f.aF=true:=by
      unfold nS at h
      cases hsh:shp d.aA with
      |none=>rw [hsh] at h;cases h
      | some σ =>
        rw [hsh] at h
        simp only [Bool.and_eq_true] at h
        exact FV h.2 f hf
    have:=Ci hf'
    omega
def mvS (to:Int→Int) (d:aZ):aZ:=
 ⟨d.aA,d.aF,d.aY,if isRef d.aA then to d.bY else d.bY,d.vN,if d.aA=4 then d.ak.map (fun f=>⟨f.aF,to f.vType,f.vAt⟩) else d.ak⟩
theorem RQ {α:Type} (a:List α) (x y:α) (b:List α):List.set (a++x::b) a.length y=a++y::b:=by
 induction a with
 |nil=>rfl
 |cons z a ih=>simp only [List.cons_append,List.length_cons,List.set_cons_succ,ih]
theorem getD_at {α:Type} (a:List α) (x z:α) (b:List α):(a++x::b).getD a.length z=x:=by
 rw [List.getD_eq_getElem?_getD,List.getElem?_append_right (Nat.le_refl _),Nat.sub_self];rfl
theorem EJ {a1:Nat→Int→Option Int} {to:Int→Int} {L:List bf} (hL:L.length≤9223372036854775807):∀(r p:List bf),p.length+r.length=L.length→(∀f∈r,Ev (fun k=>a1 k f.vType) (to f.vType))→
    Ev2 (fun k m=>jI.l0 (a1 k) L m (p.length:Int) (p++r)) (p++r.map (fun f=>⟨f.aF,to f.vType,f.vAt⟩))
  | [], p, hl, _ => by
    refine Ev2.pure fun k m=>?_
    rw [jI.l0,if_neg (by simp only [List.length_nil] at hl;simp;omega)]
    rfl
  | f :: r, p, hl, h => by
    simp only [List.length_cons] at hl
    have h2:=EJ (a1:=a1) (to:=to) hL r (p++[⟨f.aF,to f.vType,f.vAt⟩]) (by simp;omega) (fun g hg=>h g (List.mem_cons_of_mem _ hg))
    have hlt:p.length<L.length:=by omega
    have hr:rd aj (p++f::r) (p.length:Int)=f:=by rw [ig,getD_at]
    refine Ev2.step (h f List.mem_cons_self) (r:=fun k m v4=>jI.l0 (a1 k) L m ((p.length+1:Nat):Int) (p++⟨f.aF,v4,f.vAt⟩::r)) ?_ (fun k m=>?_)
    · rw [List.map_cons]
      simp only [List.length_append,List.length_cons,List.length_nil,List.append_assoc,List.singleton_append,Nat.zero_add] at h2
      exact h2
    · rw [jI.l0,if_pos (by simp;omega),if_pos (by omega),hr]
      simp only [Int.toNat_natCast]
      refine congrArg _ (funext fun v4=>?_)
      rw [if_pos (by omega),fF hlt hL,RQ]
theorem JV {t:aQ} {l:List Int} (W:Wf t l) {i:Nat} (hi:i<t.au.length) {a1:Nat→Int→Option Int} {to:Int→Int} (h:∀c∈kids (dAt t i),Ev (fun k=>a1 k c) (to c)):Ev (fun k=>jI.f k (dAt t i) (a1 k)) (mvS to (dAt t i)):=by
 have hd:=W.sh _ (nT hi)
 have hfew:=hd.few
 obtain ⟨ms,hms,hsh⟩:=wZ (dAt t i).aA
 have hcl:iI.f (dAt t i).ak=some (dAt t i).ak:=by unfold iI.f;rw [if_pos (by omega)]
 have key:∀(k:Nat),jI.f k (dAt t i) (a1 k)=((if isRef (dAt t i).aA then a1 k (dAt t i).bY else some (dAt t i).bY).bind fun xx1=>if (dAt t i).aA=4 then ((jI.l0 (a1 k) (dAt t i).ak k 0 (dAt t i).ak).bind fun xx2=>some ⟨(dAt t i).aA,(dAt t i).aF,(dAt t i).aY,xx1,(dAt t i).vN,xx2⟩) else some ⟨(dAt t i).aA,(dAt t i).aF,(dAt t i).aY,xx1,(dAt t i).vN,(dAt t i).ak⟩):=by
  intro k
  unfold jI.f
  rw [hcl]
  simp only [Option.bind_some]
  rw [hms]
  simp only [Option.bind_some]
  rw [hsh,zy]
  by_cases hk:isRef (dAt t i).aA
  ·rw [if_pos hk,if_pos (decide_eq_true hk),Option.bind_assoc]
   refine congrArg _ (funext fun v=>?_)
   simp only [Option.bind_some,beq_iff_eq]
  ·rw [if_neg hk,if_neg (by simpa using hk)]
   simp only [Option.bind_some,beq_iff_eq]
 by_cases hk:isRef (dAt t i).aA
 ·have h4:(dAt t i).aA≠4:=by unfold isRef at hk;omega
  obtain ⟨K,hK⟩:=h (dAt t i).bY (by rw [qo hk];exact List.mem_singleton.2 rfl)
  refine ⟨K,fun k hk'=>?_⟩
  show jI.f k _ _=_
  rw [key k,if_pos hk,show a1 k _=_ from hK k hk']
  simp only [Option.bind_some]
  unfold mvS
  rw [if_neg h4,if_neg h4,if_pos hk]
 ·by_cases h4:(dAt t i).aA=4
  ·obtain ⟨K,hK⟩:=(EJ (a1:=a1) (to:=to) (L:=(dAt t i).ak) (by omega) (dAt t i).ak [] (by simp) (fun f hf=>h f.vType (by rw [lN h4];exact List.mem_map.2 ⟨f,hf,rfl⟩))).diag
   refine ⟨K,fun k hk'=>?_⟩
   show jI.f k _ _=_
   rw [key k,if_neg hk]
   simp only [Option.bind_some]
   rw [if_pos h4,show jI.l0 (a1 k) (dAt t i).ak k 0 (dAt t i).ak=_ from hK k hk']
   unfold mvS
   rw [if_neg hk,if_pos h4]
   rfl
  ·refine Ev.pure fun k=>?_
   rw [key k,if_neg hk]
   simp only [Option.bind_some]
   unfold mvS
   rw [if_neg hk,if_neg h4,if_neg h4]
def toS (l:List dR):Src:=l.map fun x=>(x.vt,x.vi.toNat)
theorem xq (l:List dR):(toS l).length=l.length:=List.length_map ..
theorem DV {l:List dR} {q:Nat} (hq:q<l.length):sT (toS l) q=(l.getD q bJ).vt∧sI (toS l) q=(l.getD q bJ).vi.toNat:=by
 unfold sT sI toS
 rw [List.getD_eq_getElem?_getD,List.getElem?_map,List.getD_eq_getElem?_getD,List.getElem?_eq_getElem hq]
 exact ⟨X,X⟩
structure Pool (m:List (ByteArray×Int)) (l:List dR):Prop where
 src:∀x∈l,(∃s,Wf x.vt s)∧x.vi=((x.vi.toNat:Nat):Int)∧x.vi.toNat<x.vt.au.length
 fst:∀s n,bM strEq m s=some n→∃q:Nat,n=(q:Int)∧q<l.length∧xS (toS l) q=s
 all:∀q,q<l.length→bM strEq m (xS (toS l) q)=some (q:Int)
theorem Pool.nil:Pool [] []:=by
 refine ⟨?_,?_,?_⟩
 ·intro x hx;cases hx
 ·intro s n h;simp [bM] at h
 ·intro q h;simp at h
theorem BA {l r:List dR} {q:Nat} (hq:q<l.length):xS (toS (l++r)) q=xS (toS l) q:=by
 unfold xS sT sI toS
 rw [List.map_append,List.getD_eq_getElem?_getD,List.getD_eq_getElem?_getD,List.getElem?_append_left (by simpa using hq)]
theorem FW {l:List dR} {x:dR}:xS (toS (l++[x])) l.length=tx x.vt x.vi.toNat:=by
 unfold xS sT sI toS
 rw [List.map_append,List.getD_eq_getElem?_getD,List.getElem?_append_right (by simp)]
 simp
section
variable {m:List (ByteArray×Int)} {l:List dR}
theorem Pool.inj (P:Pool m l) {q r:Nat} (hq:q<l.length) (hr:r<l.length) (h:xS (toS l) q=xS (toS l) r):q=r:=by
 have h1:=P.all q hq
 rw [h,P.all r hr] at h1
 have:=Ab h1
 omega
theorem Pool.push (P:Pool m l) {t:aQ} {s:List Int} (W:Wf t s) {i:Nat} (hi:i<t.au.length) (hn:bM strEq m (tx t i)=none):Pool (iG strEq m (tx t i) (l.length:Int)) (l++[⟨t,(i:Int)⟩]):=by
 refine ⟨fun x hx=>?_,fun s n h=>?_,fun q hq=>?_⟩
 ·rcases List.mem_append.1 hx with h|h
  ·exact P.src x h
  ·rw [List.mem_singleton.1 h];exact ⟨⟨s,W⟩,by simp,by simpa using hi⟩
 ·rw [He] at h
  split at h
  ·next e=>
   injection h with h
   exact ⟨l.length,h.symm,by simp,by rw [FW,e];rfl⟩
  ·obtain ⟨q,h1,h2,h3⟩:=P.fst s n h
   exact ⟨q,h1,by simp;omega,by rw [BA h2];exact h3⟩
 ·rw [List.length_append,List.length_singleton] at hq
  rw [He]
  by_cases e:q=l.length
  ·subst e;rw [FW];exact if_pos rfl
  ·have hq':q<l.length:=by omega
   rw [BA hq',P.all q hq',if_neg (fun e2=>by rw [←e2,P.all q hq'] at hn;cases hn)]
noncomputable def JW (t:aQ):List dR→List Nat→List dR
 |l,[]=>l
 |l,i::r=>if tell (∃q,q<l.length∧xS (toS l) q=tx t i)=true then JW t l r else JW t (l++[⟨t,(i:Int)⟩]) r
structure Added (t:aQ) (m:List (ByteArray×Int)) (l:List dR) (j:Nat) (ix:List Int) (m':List (ByteArray×Int)) (l':List dR):Prop where
 pool:Pool m' l'
 ext:∃r,l'=l++r∧∀x∈r,∃i:Nat,j≤i∧i<t.au.length∧x=⟨t,(i:Int)⟩
 len:ix.length+j=t.au.length
 at_:∀i,i<ix.length→∃q:Nat,ix.getD i 0=(q:Int)∧q<l'.length∧xS (toS l') q=tx t (j+i)
 met:∀q,l.length≤q→q<l'.length→∃i,i<ix.length∧ix.getD i 0=(q:Int)
 few:l'.length≤l.length+ix.length
 ord:l'=JW t l (List.range' j (t.au.length-j))
theorem QJ {t : aQ} {s : List Int} (W : Wf t s) : ∀ (e j : Nat) (p : List Int) (m : List (ByteArray × Int)) (l : List dR), j + e = t.au.length → Pool m l → l.length + e ≤ 100000 → p.length = j → ∃ ix m' l', Ev2 (fun k q => fG.l0 k t q (j : Int) p l m) (p ++ ix, l', m') ∧ Added t m l j ix m' l' := by
  have hn:=W.few
  intro e
  induction e with
  | zero =>
    intro j p m l hj P hl hp
    refine ⟨[],m,l,Ev2.pure fun k q=>?_,P,⟨[],by simp,fun _ h=>by cases h⟩,by simpa using hj,fun i h=>by simp at h,fun q h1 h2=>by omega,by simp,by rw [show t.au.length-j=0 by omega];rfl⟩
    rw [fG.l0,if_neg (by simp;omega),List.append_nil]
  | succ e ih =>
    intro j p m l hj P hl hp
    have hlt:j<t.au.length:=by omega
    obtain ⟨⟨Kt,hKt⟩,_⟩:=zx W hlt
    cases hf:bM strEq m (tx t j) with
    | some n =>
      obtain ⟨q0,e0,h1,h2⟩:=P.fst _ _ hf
      obtain ⟨ix,m',l',⟨K,hK⟩,A⟩:=ih (j+1) (p++[n]) m l (by omega) P (by omega) (by simp;omega)
      obtain ⟨r,hr,hr2⟩:=A.ext
      refine ⟨n::ix,m',l',⟨max Kt K+1,fun k q hk hq=>?_⟩,A.pool,⟨r,hr,fun x hx=>by obtain ⟨i,a,b,c⟩:=hr2 x hx;exact ⟨i,by omega,b,c⟩⟩,by have:=A.len;simp;omega,fun i hi=>?_,fun q h1 h2=>?_,by have:=A.few;simp at this⊢;omega,by rw [show t.au.length-j=(t.au.length-(j+1))+1 by omega,List.range'_succ,JW,if_pos (mY ⟨q0,h1,h2⟩)];exact A.ord⟩
      · obtain ⟨q,rfl⟩:∃x,q=x+1:=⟨q-1,by omega⟩
        show fG.l0 k t (q+1) _ _ _ _=_
        rw [fG.l0,if_pos (by simp;omega),show fB.f k t (j:Int)=_ from hKt k (by omega)]
        simp only [Option.bind_some]
        rw [hf]
        simp only [Option.isSome_some,Bool.not_true,Bool.false_eq_true,if_false,Option.bind_some,Option.getD_some]
        rw [if_pos (by omega),fF hlt (by omega),show fG.l0 k t q _ _ _ _=_ from hK k q (by omega) (by omega),List.append_assoc]
        rfl
      · cases i with
        | zero =>
          refine ⟨q0,by simpa using e0,by rw [hr,List.length_append];omega,?_⟩
          rw [hr,BA h1,h2];rfl
        | succ i =>
          obtain ⟨q,a,b,c⟩:=A.at_ i (by simpa using hi)
          exact ⟨q,by simpa using a,b,by rw [c];congr 1;omega⟩
      · obtain ⟨i,a,b⟩:=A.met q h1 h2
        exact ⟨i+1,by simpa using a,by simpa using b⟩
    | none =>
      have P2:=P.push W hlt hf
      obtain ⟨ix,m',l',⟨K,hK⟩,A⟩:=ih (j+1) (p++[(l.length:Int)]) _ _ (by omega) P2 (by simp;omega) (by simp;omega)
      obtain ⟨r,hr,hr2⟩:=A.ext
      have hl2:l'.length=l.length+1+r.length:=by rw [hr];simp;omega
      refine ⟨(l.length:Int)::ix,m',l',⟨max Kt K+1,fun k q hk hq=>?_⟩,A.pool,⟨⟨t,(j:Int)⟩::r,by rw [hr];simp,fun x hx=>?_⟩,by have:=A.len;simp;omega,fun i hi=>?_,fun q h1 h2=>?_,by have:=A.few;simp at this⊢;omega,by rw [show t.au.length-j=(t.au.length-(j+1))+1 by omega,List.range'_succ,JW,if_neg (by rw [jW (fun ⟨q,h1,h2⟩=>by have:=P.all q h1;rw [h2,hf] at this;cases this)];simp)];exact A.ord⟩
      · obtain ⟨q,rfl⟩:∃x,q=x+1:=⟨q-1,by omega⟩
        show fG.l0 k t (q+1) _ _ _ _=_
        rw [fG.l0,if_pos (by simp;omega),show fB.f k t (j:Int)=_ from hKt k (by omega)]
        simp only [Option.bind_some]
        rw [hf]
        simp only [Option.isSome_none,Bool.not_false,if_true]
        rw [if_pos (by omega)]
        simp only [Option.bind_some]
        rw [if_pos (by omega),fF hlt (by omega),show fG.l0 k t q _ _ _ _=_ from hK k q (by omega) (by omega),List.append_assoc]
        rfl
      · rcases List.mem_cons.1 hx with h|h
        · exact ⟨j,Nat.le_refl _,hlt,h⟩
        · obtain ⟨i,a,b,c⟩:=hr2 x h;exact ⟨i,by omega,b,c⟩
      · cases i with
        | zero =>
          refine ⟨l.length,by simp,by omega,?_⟩
          rw [hr,BA (by simp),FW];simp
        | succ i =>
          obtain ⟨q,a,b,c⟩:=A.at_ i (by simpa using hi)
          exact ⟨q,by simpa using a,b,by rw [c];congr 1;omega⟩
      · by_cases e:q=l.length
        · subst e;exact ⟨0,by simp,by simp⟩
        · obtain ⟨i,a,b⟩:=A.met q (by simp;omega) h2
          exact ⟨i+1,by simpa using a,by simpa using b⟩
theorem OI {t:aQ} {s:List Int} (W:Wf t s) (P:Pool m l) (hl:l.length≤50000):∃ix m' l',Ev (fun k=>fG.f k m l t) (ix,m',l')∧Added t m l 0 ix m' l':=by
 obtain ⟨ix,m',l',h,A⟩:=QJ W t.au.length 0 [] m l (by omega) P (by have:=W.few;omega) rfl
 obtain ⟨K,hK⟩:=h.diag
 refine ⟨ix,m',l',⟨K,fun k hk=>?_⟩,A⟩
 show fG.f k m l t=_
 unfold fG.f
 rw [show fG.l0 k t k 0 [] l m=_ from hK k hk]
 rfl
def KX (m:List (ByteArray×Int)) (s:ByteArray):Int:=(bM strEq m s).getD 0
noncomputable def I9 (m:List (ByteArray×Int)) (l:List dR):aQ:=⟨l.map fun x=>mvS (fun c=>KX m (tx x.vt c.toNat)) (dAt x.vt x.vi.toNat)⟩
theorem KY (P:Pool m l) (hl:l.length≤100000):∀(e j:Nat) (p:List aZ),j+e=l.length→p.length=j→Ev2 (fun k q=>gZ.l0 k m l q (j:Int) p) (p++(I9 m (l.drop j)).au):=by
  intro e
  induction e with
  | zero =>
    intro j p hj hp
    refine Ev2.pure fun k q=>?_
    rw [gZ.l0,if_neg (by simp;omega),List.drop_eq_nil_of_le (by omega)]
    simp [I9]
  | succ e ih =>
    intro j p hj hp
    have hlt:j<l.length:=by omega
    have hx:=getD_mem (z:=bJ) hlt
    obtain ⟨⟨s,W⟩,h1,h2⟩:=P.src _ hx
    generalize hxe:l.getD j bJ=x at hx W h1 h2
    have hmv := JV W h2 (a1 := fun k z0 => kM.f k z0 m x) (to := fun c => KX m (tx x.vt c.toNat)) (fun c hc => by
      obtain ⟨c1,c2⟩:=oW W h2 hc
      obtain ⟨⟨K,hK⟩,_⟩:=zx W c2
      refine ⟨K,fun k hk=>?_⟩
      show kM.f k c m x=_
      unfold kM.f
      rw [c1,show fB.f k x.vt _=_ from hK k hk]
      rfl)
    refine Ev2.step hmv (r:=fun k q v1=>gZ.l0 k m l q ((j+1:Nat):Int) (p++[v1])) ?_ (fun k q=>?_)
    · have:=ih (j+1) (p++[mvS (fun c=>KX m (tx x.vt c.toNat)) (dAt x.vt x.vi.toNat)]) (by omega) (by simp;omega)
      rw [List.append_assoc] at this
      have hd:l.drop j=x::l.drop (j+1):=by rw [jV bJ hlt,hxe]
      rw [hd]
      exact this
    · rw [gZ.l0,if_pos (by simp;omega),if_pos (by omega),ig,hxe,if_pos (by omega),h1,oQ]
      simp only [Int.toNat_natCast]
      refine congrArg _ (funext fun v=>?_)
      rw [if_pos (by omega),fF hlt (by omega)]
theorem JX (P:Pool m l) (hl:l.length≤100000):Ev (fun k=>gZ.f k m l) (I9 m l):=by
 have h:=KY P hl l.length 0 [] (by omega) X
 rw [List.drop_zero] at h
 obtain ⟨K,hK⟩:=h.diag
 refine ⟨K,fun k hk=>?_⟩
 show gZ.f k m l=_
 unfold gZ.f
 rw [show gZ.l0 k m l k 0 []=_ from hK k hk]
 rfl
theorem TY {q:Nat} (hq:q<l.length):dAt (I9 m l) q=mvS (fun c=>KX m (tx (sT (toS l) q) c.toNat)) (dS (toS l) q):=by
 unfold dAt I9 dS
 obtain ⟨h1,h2⟩:=DV hq
 rw [h1,h2,List.getD_eq_getElem?_getD,List.getElem?_map,List.getD_eq_getElem?_getD,List.getElem?_eq_getElem hq]
 rfl
theorem QK:(I9 m l).au.length=l.length:=List.length_map ..
def Has (m:List (ByteArray×Int)) (t:aQ):Prop:=∀i,i<t.au.length→∃n,bM strEq m (tx t i)=some n
theorem Pool.re (P : Pool m l) (hH : ∀ q, q < l.length → Has m (sT (toS l) q)) {q : Nat} (hq : q < l.length) : Re (I9 m l) (toS l) q := by
  have hx:=getD_mem (z:=bJ) hq
  obtain ⟨⟨s,W⟩,h1,h2⟩:=P.src _ hx
  obtain ⟨e1,e2⟩:=DV hq
  rw [←e1] at W h2
  rw [←e2] at h2
  have to_:∀c∈kids (dS (toS l) q),∃r:Nat,KX m (tx (sT (toS l) q) c.toNat)=(r:Int)∧r<(toS l).length∧xS (toS l) r=tx (sT (toS l) q) c.toNat:=fun c hc=>by
    obtain ⟨_,c2⟩:=oW W h2 hc
    obtain ⟨n,hn⟩:=hH q hq _ c2
    obtain ⟨r,a,b,d⟩:=P.fst _ _ hn
    exact ⟨r,by unfold KX;rw [hn];exact a,by rw [xq];exact b,d⟩
  have h:=TY (m:=m) hq
  refine ⟨by rw [h];rfl,by rw [h];rfl,by rw [h];rfl,by rw [h];rfl,fun hk=>?_,fun hk=>?_,?_,fun j hj=>?_⟩
  · rw [h]
    obtain ⟨r,a,b,c⟩:=to_ (dS (toS l) q).bY (by rw [qo hk];exact List.mem_singleton.2 rfl)
    refine ⟨r,?_,b,c⟩
    show (if isRef (dS (toS l) q).aA then _ else _)=_
    rw [if_pos hk];exact a
  · rw [h]
    show (if isRef (dS (toS l) q).aA then _ else _)=_
    rw [if_neg hk]
  · rw [h]
    show (if (dS (toS l) q).aA=4 then _ else _:List bf).length=_
    split
    · rw [List.length_map]
    · rfl
  · rw [h]
    by_cases h4:(dS (toS l) q).aA=4
    · have hf:fAt (mvS (fun c=>KX m (tx (sT (toS l) q) c.toNat)) (dS (toS l) q)) j=⟨(fAt (dS (toS l) q) j).aF,KX m (tx (sT (toS l) q) (fAt (dS (toS l) q) j).vType.toNat),(fAt (dS (toS l) q) j).vAt⟩:=by
        unfold fAt
        show (if (dS (toS l) q).aA=4 then (dS (toS l) q).ak.map _ else _).getD j aj=_
        rw [if_pos h4,List.getD_eq_getElem?_getD,List.getElem?_map,List.getD_eq_getElem?_getD,List.getElem?_eq_getElem hj]
        rfl
      rw [hf]
      exact ⟨X,X,fun _=>to_ _ (by rw [lN h4];exact List.mem_map.2 ⟨_,getD_mem hj,X⟩),fun h=>absurd h4 h⟩
    · have hf:fAt (mvS (fun c=>KX m (tx (sT (toS l) q) c.toNat)) (dS (toS l) q)) j=fAt (dS (toS l) q) j:=by
        unfold fAt
        show (if (dS (toS l) q).aA=4 then (dS (toS l) q).ak.map _ else _).getD j aj=_
        rw [if_neg h4]
      rw [hf]
      exact ⟨X,X,fun h=>absurd h h4,fun _=>rfl⟩
theorem Pool.built (P:Pool m l) (hl:l.length≤200) (hH:∀q,q<l.length→Has m (sT (toS l) q))
  (hM:∀q r,q<l.length→r<l.length→∀k k',k<(sT (toS l) q).au.length→k'<(sT (toS l) r).au.length→tx (sT (toS l) q) k=tx (sT (toS l) r) k'→Match (sT (toS l) q) (dAt (sT (toS l) q) k) (sT (toS l) r) (dAt (sT (toS l) r) k')):Built (I9 m l) (toS l):=by
 have src:∀q,q<(toS l).length→(∃s,Wf (sT (toS l) q) s)∧sI (toS l) q<(sT (toS l) q).au.length:=fun q hq=>by
  rw [xq] at hq
  obtain ⟨h,_,h2⟩:=P.src _ (getD_mem (z:=bJ) hq)
  obtain ⟨e1,e2⟩:=DV hq
  rw [e1,e2];exact ⟨h,h2⟩
 refine ⟨by rw [QK,xq],by rw [xq];exact hl,src,fun q hq=>P.re hH (by rw [←xq];exact hq),fun q r hq hr hn hn' he=>?_,fun q r hq hr=>hM q r (by rw [←xq];exact hq) (by rw [←xq];exact hr)⟩
 have h1:xS (toS l) q=(dS (toS l) q).aF:=xk (src q hq).2 hn
 have h2:xS (toS l) r=(dS (toS l) r).aF:=xk (src r hr).2 hn'
 exact P.inj (by rw [←xq];exact hq) (by rw [←xq];exact hr) (by rw [h1,h2,he])
end
theorem yO {t:aQ} {l:List Int} (W:Wf t l) {k k':Nat} (hk:k<t.au.length) (hk':k'<t.au.length) (h:tx t k=tx t k'):Match t (dAt t k) t (dAt t k'):=by
 rcases KT W W hk hk' h with ⟨a,b,c⟩|x|x
 ·have:=sU W hk hk' a b c
  subst this
  exact .inl ⟨a,a, .refl⟩
 ·exact .inr (.inl x)
 ·exact .inr (.inr x)
theorem KZ {a:List bf} (hl:a.length≤9223372036854775807):∀(e j m:Nat),j+e=a.length→e<m→eX.l0 a a m (j:Int)=some (.inr ()):=by
  intro e
  induction e with
  | zero =>
    intro j m hj hm
    obtain ⟨m,rfl⟩:∃q,m=q+1:=⟨m-1,by omega⟩
    rw [eX.l0,if_neg (by simp;omega)]
  | succ e ih =>
    intro j m hj hm
    obtain ⟨m,rfl⟩:∃q,m=q+1:=⟨m-1,by omega⟩
    have hlt:j<a.length:=by omega
    rw [eX.l0,if_pos (by simp;omega),if_pos (by omega),if_pos (by omega),if_neg (by rw [gq.2 rfl];simp),fF hlt hl]
    exact ih (j+1) m (by omega) (by omega)
theorem La {d:aZ} (hl:d.ak.length≤9223372036854775807):∀k,d.ak.length<k→jC.f k d d=some true:=by
 intro k hk
 unfold jC.f
 have hF:eX.f k d.ak d.ak=some true:=by
  unfold eX.f
  rw [if_neg (by simp),show eX.l0 _ _ k 0=_ from KZ hl d.ak.length 0 k (by omega) hk]
  rfl
 rw [gq.2 rfl]
 simp only [beq_self_eq_true,Bool.and_self,if_true]
 rw [hF]
 rfl
theorem Lc {t:aQ} (hl:t.au.length≤9223372036854775807) {k:Nat} (hd:∀d∈t.au,jC.f k d d=some true):∀(e j m:Nat),j+e=t.au.length→e<m→eu.l0 k t t m (j:Int)=some (.inr ()):=by
  intro e
  induction e with
  | zero =>
    intro j m hj hm
    obtain ⟨m,rfl⟩:∃q,m=q+1:=⟨m-1,by omega⟩
    rw [eu.l0,if_neg (by simp;omega)]
  | succ e ih =>
    intro j m hj hm
    obtain ⟨m,rfl⟩:∃q,m=q+1:=⟨m-1,by omega⟩
    have hlt:j<t.au.length:=by omega
    rw [eu.l0,if_pos (by simp;omega),if_pos (by omega),if_pos (by omega),ig,hd _ (getD_mem hlt)]
    simp only [Option.bind_some,Bool.not_true,Bool.false_eq_true,if_false]
    rw [fF hlt hl]
    exact ih (j+1) m (by omega) (by omega)
theorem DW {t:aQ} (hl:t.au.length≤9223372036854775807) (hF:∀d∈t.au,Ce d):Ev (fun k=>eu.f k t t) true:=by
 obtain ⟨K,hK⟩:=Ev.all (f:=fun d k=>jC.f k d d) (q:=fun _=>true) t.au (fun d hd=>⟨d.ak.length+1,fun k hk=>La (hF d hd).len k (by omega)⟩)
 refine ⟨K+t.au.length+1,fun k hk=>?_⟩
 show eu.f k t t=_
 unfold eu.f
 rw [if_neg (by simp),show eu.l0 k t t k 0=_ from Lc hl (hK k (by omega)) t.au.length 0 k (by omega) (by omega)]
 rfl
theorem Ld {a:List Int} (hl:a.length≤9223372036854775807):∀(e j m:Nat),j+e=a.length→e<m→cZ.l0 a a m (j:Int)=some (.inr ()):=by
  intro e
  induction e with
  | zero =>
    intro j m hj hm
    obtain ⟨m,rfl⟩:∃q,m=q+1:=⟨m-1,by omega⟩
    rw [cZ.l0,if_neg (by simp;omega)]
  | succ e ih =>
    intro j m hj hm
    obtain ⟨m,rfl⟩:∃q,m=q+1:=⟨m-1,by omega⟩
    have hlt:j<a.length:=by omega
    rw [cZ.l0,if_pos (by simp;omega),if_pos (by omega),if_pos (by omega),if_neg (by simp),fF hlt hl]
    exact ih (j+1) m (by omega) (by omega)
theorem yP {a:List Int} (hl:a.length≤9223372036854775807):Ev (fun k=>cZ.f k a a) true:=by
 refine ⟨a.length+1,fun k hk=>?_⟩
 show cZ.f k a a=_
 unfold cZ.f
 rw [if_neg (by simp),show cZ.l0 a a k 0=_ from Ld hl a.length 0 k (by omega) (by omega)]
 rfl
section
variable {t:aQ} {s:List Int} {m m':List (ByteArray×Int)} {l l':List dR} {ix:List Int}
theorem Added.has (A:Added t m l 0 ix m' l'):Has m' t:=fun i hi=>by
 obtain ⟨q,_,h2,h3⟩:=A.at_ i (by have:=A.len;omega)
 have:=A.pool.all q h2
 rw [h3] at this
 simp only [Nat.zero_add] at this
 exact ⟨_,this⟩
theorem Added.keeps {u:aQ} (P:Pool m l) (A:Added t m l 0 ix m' l') (h:Has m u):Has m' u:=fun i hi=>by
 obtain ⟨n,hn⟩:=h i hi
 obtain ⟨q,_,h2,h3⟩:=P.fst _ _ hn
 obtain ⟨r,hr,_⟩:=A.ext
 refine ⟨(q:Int),?_⟩
 have hl:l.length≤l'.length:=by rw [hr];simp
 have:=A.pool.all q (by omega)
 rw [hr,BA h2,h3] at this
 exact this
theorem RS {l:List dR} {q:Nat} (hq:q<l.length):l.getD q bJ∈l:=getD_mem hq
theorem Le (W:Wf t s) (A:Added t [] [] 0 ix m' l'):(∀q,q<l'.length→sT (toS l') q=t)∧Built (I9 m' l') (toS l'):=by
 obtain ⟨r,hr,hr2⟩:=A.ext
 have hst:∀q,q<l'.length→sT (toS l') q=t:=fun q hq=>by
  rw [(DV hq).1]
  have hm:=RS hq
  rw [hr] at hm
  simp only [List.nil_append] at hm
  obtain ⟨i,_,_,e⟩:=hr2 _ hm
  rw [hr,List.nil_append,e]
 refine ⟨hst,A.pool.built ?_ (fun q hq=>?_) (fun q p hq hp k k' hk hk' he=>?_)⟩
 ·have:=A.few;have:=A.len;have:=W.few;simp at*;omega
 ·rw [hst q hq];exact A.has
 ·rw [hst q hq] at hk he⊢
  rw [hst p hp] at hk' he⊢
  exact yO W hk hk' he
theorem OJ (W:Wf t s) (hv:Ev (fun k=>dH.f k t) true) (A:Added t [] [] 0 ix m' l') (hA:Ev (fun k=>fG.f k [] [] t) (ix,m',l')):Ev (fun k=>lg.f k t) (I9 m' l',ix,0):=by
 obtain ⟨K1,h1⟩:=hA
 have hfew:l'.length≤100000:=by have:=A.few;have:=A.len;have:=W.few;simp at*;omega
 obtain ⟨K2,h2⟩:=JX A.pool hfew
 obtain ⟨K3,h3⟩:=hv
 refine ⟨K1+K2+K3,fun k hk=>?_⟩
 show lg.f k t=_
 unfold lg.f
 rw [show dH.f k t=_ from h3 k (by omega)]
 simp only [Option.bind_some,Bool.not_true,Bool.false_eq_true,if_false]
 rw [show fG.f k [] [] t=_ from h1 k (by omega)]
 simp only [Option.bind_some]
 rw [show gZ.f k m' l'=_ from h2 k (by omega)]
 rfl
theorem OL (W:Wf t s) (hv:Ev (fun k=>dH.f k t) true):∃ix m' l',Added t [] [] 0 ix m' l'∧Ev (fun k=>lg.f k t) (I9 m' l',ix,0):=by
 obtain ⟨ix,m',l',h,A⟩:=OI W Pool.nil (by simp)
 exact ⟨ix,m',l',A,OJ W hv A h⟩
theorem Lh (hv:Ev (fun k=>dH.f k t) false):Ev (fun k=>lg.f k t) (⟨[]⟩,[],80):=by
 obtain ⟨K3,h3⟩:=hv
 refine ⟨K3,fun k hk=>?_⟩
 show lg.f k t=_
 unfold lg.f
 rw [show dH.f k t=_ from h3 k (by omega)]
 rfl
end
def zA (P:Nat→Bool) (i:Nat):Nat:=((List.range i).filter P).length
def qH (P:Nat→Bool) (n:Nat):List Nat:=(List.range n).filter P
def toL (P:Nat→Bool) (n:Nat):List Int:=(List.range n).map fun i=>if P i=true then ((zA P i:Nat):Int) else-1
section
variable {P:Nat→Bool}
theorem FX (i:Nat):zA P (i+1)=zA P i+if P i=true then 1 else 0:=by
 unfold zA
 rw [List.range_succ,List.filter_append,List.length_append]
 cases h:P i<;>simp [h]
theorem Hf (n:Nat):qH P (n+1)=qH P n++if P n=true then [n] else []:=by
 unfold qH
 rw [List.range_succ,List.filter_append]
 cases h:P n<;>simp [h]
theorem Cm (n:Nat):(qH P n).length=zA P n:=rfl
theorem Ja (n:Nat):zA P n≤n:=by
 induction n with
 |zero=>simp [zA]
 |succ n ih=>rw [FX];split<;>omega
theorem Ua {i:Nat} (hp:P i=true):∀(n:Nat),i<n→zA P i<(qH P n).length∧(qH P n).getD (zA P i) 0=i:=by
  intro n
  induction n with
  |zero=>intro h;omega
  | succ n ih =>
    intro h
    rw [Hf]
    by_cases e:i=n
    · subst e
      rw [if_pos hp]
      refine ⟨by rw [List.length_append,Cm];simp,?_⟩
      rw [List.getD_eq_getElem?_getD,List.getElem?_append_right (by rw [Cm];exact Nat.le_refl _),Cm,Nat.sub_self];rfl
    · obtain ⟨h1,h2⟩:=ih (by omega)
      refine ⟨by rw [List.length_append];omega,?_⟩
      rw [List.getD_eq_getElem?_getD,List.getElem?_append_left h1,←List.getD_eq_getElem?_getD];exact h2
theorem QL : ∀ (n q : Nat), q < (qH P n).length → P ((qH P n).getD q 0) = true ∧ (qH P n).getD q 0 < n ∧ zA P ((qH P n).getD q 0) = q := by
  intro n
  induction n with
  |zero=>intro q h;simp [qH] at h
  | succ n ih =>
    intro q h
    rw [Hf] at h⊢
    by_cases hq:q<(qH P n).length
    · obtain ⟨a,b,c⟩:=ih q hq
      have:((qH P n)++if P n=true then [n] else []).getD q 0=(qH P n).getD q 0:=by
        rw [List.getD_eq_getElem?_getD,List.getElem?_append_left hq,←List.getD_eq_getElem?_getD]
      rw [this]
      exact ⟨a,by omega,c⟩
    · cases hp:P n with
      |false=>rw [hp] at h;simp at h;omega
      | true =>
        rw [hp,if_pos rfl,List.length_append,List.length_singleton] at h
        have hq':q=(qH P n).length:=by omega
        rw [if_pos rfl]
        have:((qH P n)++[n]).getD q 0=n:=by
          rw [List.getD_eq_getElem?_getD,List.getElem?_append_right (by omega),hq',Nat.sub_self];rfl
        rw [this]
        exact ⟨hp,by omega,by rw [hq',Cm]⟩
theorem DX (n:Nat):(toL P n).length=n:=by unfold toL;simp
theorem WV {n i:Nat} (hi:i<n):(toL P n).getD i 0=if P i=true then ((zA P i:Nat):Int) else-1:=by
 unfold toL
 rw [List.getD_eq_getElem?_getD,List.getElem?_map,List.getElem?_range hi];rfl
end
section
variable {t:aQ} {s:List Int} {P:Nat→Bool}
def outT (P:Nat→Bool) (t:aQ):aQ:=⟨(qH P t.au.length).map fun i=>mvS (fun c=>rd 0 (toL P t.au.length) c) (dAt t i)⟩
def BM (P:Nat→Bool) (t:aQ):Src:=(qH P t.au.length).map fun i=>(t,i)
theorem xu:(BM P t).length=zA P t.au.length:=by unfold BM;rw [List.length_map];rfl
theorem QM:(outT P t).au.length=zA P t.au.length:=by unfold outT;simp only [];rw [List.length_map];rfl
theorem qV {q:Nat} (hq:q<zA P t.au.length):sT (BM P t) q=t∧sI (BM P t) q=(qH P t.au.length).getD q 0:=by
 unfold sT sI BM
 have hq:q<(qH P t.au.length).length:=hq
 rw [List.getD_eq_getElem?_getD,List.getElem?_map,List.getD_eq_getElem?_getD,List.getElem?_eq_getElem hq]
 exact ⟨X,X⟩
theorem Ub {q:Nat} (hq:q<zA P t.au.length):dAt (outT P t) q=mvS (fun c=>rd 0 (toL P t.au.length) c) (dAt t ((qH P t.au.length).getD q 0)):=by
 unfold outT
 have hq:q<(qH P t.au.length).length:=hq
 unfold dAt
 simp only []
 rw [List.getD_eq_getElem?_getD,List.getElem?_map,List.getD_eq_getElem?_getD (l:=qH P t.au.length),List.getElem?_eq_getElem hq]
 rfl
def Closed (P:Nat→Bool) (t:aQ):Prop:=∀i,i<t.au.length→P i=true→∀c∈kids (dAt t i),P c.toNat=true
theorem VD (W:Wf t s) (hc:Closed P t) {i:Nat} (hi:i<t.au.length) (hp:P i=true) {c:Int} (h:c∈kids (dAt t i)):rd 0 (toL P t.au.length) c=((zA P c.toNat:Nat):Int)∧zA P c.toNat<zA P t.au.length∧(qH P t.au.length).getD (zA P c.toNat) 0=c.toNat:=by
 obtain ⟨c1,c2⟩:=oW W hi h
 have hp2:=hc i hi hp c h
 obtain ⟨h1,h2⟩:=Ua hp2 _ c2
 refine ⟨?_,h1,h2⟩
 rw [c1,ig,WV c2,if_pos hp2];rfl
theorem Lj (W : Wf t s) (hc : Closed P t) : Built (outT P t) (BM P t) := by
  have hat:∀q,q<zA P t.au.length→P ((qH P t.au.length).getD q 0)=true∧(qH P t.au.length).getD q 0<t.au.length∧zA P ((qH P t.au.length).getD q 0)=q:=fun q hq=>QL _ _ hq
  have hx:∀r,r<zA P t.au.length→xS (BM P t) r=tx t ((qH P t.au.length).getD r 0):=fun r hr=>by
    unfold xS;rw [(qV hr).1,(qV hr).2]
  have to_:∀q,q<zA P t.au.length→∀c∈kids (dAt t ((qH P t.au.length).getD q 0)),∃r:Nat,rd 0 (toL P t.au.length) c=(r:Int)∧r<(BM P t).length∧xS (BM P t) r=tx t c.toNat:=fun q hq c hcm=>by
    obtain ⟨a,b,_⟩:=hat q hq
    obtain ⟨e1,e2,e3⟩:=VD W hc b a hcm
    exact ⟨_,e1,by rw [xu];exact e2,by rw [hx _ e2,e3]⟩
  refine ⟨by rw [QM,xu],by rw [xu];have:=Ja (P:=P) t.au.length;have:=W.few;omega,fun q hq=>?_,fun q hq=>?_,fun q r hq hr hn hn' he=>?_,fun q r hq hr k k' hk hk' he=>?_⟩
  · rw [xu] at hq
    rw [(qV hq).1,(qV hq).2]
    exact ⟨⟨s,W⟩,(hat q hq).2.1⟩
  · rw [xu] at hq
    have h:=Ub (P:=P) (t:=t) hq
    have hd:dS (BM P t) q=dAt t ((qH P t.au.length).getD q 0):=by unfold dS;rw [(qV hq).1,(qV hq).2]
    have hk1:=to_ q hq
    rw [←hd] at h hk1
    refine ⟨by rw [h];rfl,by rw [h];rfl,by rw [h];rfl,by rw [h];rfl,fun hk=>?_,fun hk=>?_,?_,fun j hj=>?_⟩
    · rw [h,(qV hq).1]
      obtain ⟨r,a,b,c⟩:=hk1 (dS (BM P t) q).bY (by rw [qo hk];exact List.mem_singleton.2 rfl)
      refine ⟨r,?_,b,c⟩
      show (if isRef (dS (BM P t) q).aA then _ else _)=_
      rw [if_pos hk];exact a
    · rw [h]
      show (if isRef (dS (BM P t) q).aA then _ else _)=_
      rw [if_neg hk]
    · rw [h]
      show (if (dS (BM P t) q).aA=4 then _ else _:List bf).length=_
      split
      · rw [List.length_map]
      · rfl
    · rw [h,(qV hq).1]
      by_cases h4:(dS (BM P t) q).aA=4
      · have hf:fAt (mvS (fun c=>rd 0 (toL P t.au.length) c) (dS (BM P t) q)) j=⟨(fAt (dS (BM P t) q) j).aF,rd 0 (toL P t.au.length) (fAt (dS (BM P t) q) j).vType,(fAt (dS (BM P t) q) j).vAt⟩:=by
          unfold fAt
          show (if (dS (BM P t) q).aA=4 then (dS (BM P t) q).ak.map _ else _).getD j aj=_
          rw [if_pos h4,List.getD_eq_getElem?_getD,List.getElem?_map,List.getD_eq_getElem?_getD,List.getElem?_eq_getElem hj]
          rfl
        rw [hf]
        exact ⟨X,X,fun _=>hk1 _ (by rw [lN h4];exact List.mem_map.2 ⟨_,getD_mem hj,X⟩),fun h=>absurd h4 h⟩
      · have hf:fAt (mvS (fun c=>rd 0 (toL P t.au.length) c) (dS (BM P t) q)) j=fAt (dS (BM P t) q) j:=by
          unfold fAt
          show (if (dS (BM P t) q).aA=4 then (dS (BM P t) q).ak.map _ else _).getD j aj=_
          rw [if_neg h4]
        rw [hf]
        exact ⟨X,X,fun h=>absurd h h4,fun _=>rfl⟩
  · rw [xu] at hq hr
    unfold dS at hn hn' he
    rw [(qV hq).1,(qV hq).2] at hn he
    rw [(qV hr).1,(qV hr).2] at hn' he
    have:=sU W (hat q hq).2.1 (hat r hr).2.1 hn hn' he
    have h1:=(hat q hq).2.2
    rw [this,(hat r hr).2.2] at h1
    exact h1.symm
  · rw [xu] at hq hr
    rw [(qV hq).1] at hk he⊢
    rw [(qV hr).1] at hk' he⊢
    exact yO W hk hk' he
theorem JY (a:List Nat) (i:Nat):Ar (a++[i])=Ar a++[(i:Int)]:=by unfold Ar;rw [List.map_append];rfl
theorem FY (a:List Nat):(Ar a).length=a.length:=by unfold Ar;simp
theorem WW (W : Wf t s) {a : List ByteArray} (ha : a.length ≤ 200) : ∀ (e j : Nat) (acc : List Nat), j + e = a.length → acc.length = j →
    (∃fr:List Nat,fr.length=e∧(∀i,i<e→qX t (a.getD (j+i) ByteArray.empty)=((fr.getD i 0:Nat):Int))∧Ev2 (fun k m=>fV.l0 k t a m (j:Int) (Ar acc)) (.inr (Ar (acc++fr))))∨
    ((∃i,i<e∧¬0≤qX t (a.getD (j+i) ByteArray.empty))∧Ev2 (fun k m=>fV.l0 k t a m (j:Int) (Ar acc)) (.inl (⟨[]⟩,[],3))):=by
  intro e
  induction e with
  | zero =>
    intro j acc hj hacc
    refine .inl ⟨[],X,fun i h=>by omega,Ev2.pure fun k m=>?_⟩
    rw [fV.l0,if_neg (by simp;omega),List.append_nil]
  | succ e ih =>
    intro j acc hj hacc
    have hlt:j<a.length:=by omega
    obtain ⟨K1,h1⟩:=I5 W.few (a.getD j ByteArray.empty)
    by_cases h0:0≤qX t (a.getD j ByteArray.empty)
    · obtain ⟨q,e0,hq,_,_⟩:=uM h0
      rcases ih (j+1) (acc++[q]) (by omega) (by simp;omega) with ⟨fr,hfl,hfr,⟨K2,h2⟩⟩|⟨⟨i,hi,hneg⟩,⟨K2,h2⟩⟩
      · refine .inl ⟨q::fr,by simp [hfl],fun i hi=>?_,⟨K1+K2+1,fun k m hk hm=>?_⟩⟩
        · cases i with
          |zero=>exact e0
          | succ i =>
            rw [List.getD_cons_succ,←hfr i (by omega)]
            congr 2;omega
        · obtain ⟨m,rfl⟩:∃x,m=x+1:=⟨m-1,by omega⟩
          show fV.l0 k t a (m+1) (j:Int) _=_
          rw [fV.l0,if_pos (by simp;omega),if_pos (by omega),ig,show mP.f k t _=_ from h1 k (by omega),e0]
          simp only [Option.bind_some]
          rw [if_neg (by simp),if_pos (by rw [FY];omega),fF hlt (by omega)]
          have:=h2 k m (by omega) (by omega)
          simp only at this
          rw [JY,List.append_assoc] at this
          exact this
      · refine .inr ⟨⟨i+1,by omega,by rw [show j+(i+1)=j+1+i by omega];exact hneg⟩,⟨K1+K2+1,fun k m hk hm=>?_⟩⟩
        obtain ⟨m,rfl⟩:∃x,m=x+1:=⟨m-1,by omega⟩
        show fV.l0 k t a (m+1) (j:Int) _=_
        rw [fV.l0,if_pos (by simp;omega),if_pos (by omega),ig,show mP.f k t _=_ from h1 k (by omega),e0]
        simp only [Option.bind_some]
        rw [if_neg (by simp),if_pos (by rw [FY];omega),fF hlt (by omega)]
        have:=h2 k m (by omega) (by omega)
        simp only at this
        rw [JY] at this
        exact this
    · refine .inr ⟨⟨0,by omega,h0⟩,⟨K1+1,fun k m hk hm=>?_⟩⟩
      obtain ⟨m,rfl⟩:∃x,m=x+1:=⟨m-1,by omega⟩
      show fV.l0 k t a (m+1) (j:Int) _=_
      rw [fV.l0,if_pos (by simp;omega),if_pos (by omega),ig,show mP.f k t _=_ from h1 k (by omega)]
      simp only [Option.bind_some]
      rw [if_pos (decide_eq_true (by omega))]
def BD (mv:List (Int×Bool)) (i:Nat):Bool:=(bM ieq mv ((i:Nat):Int)).getD false
theorem WX {mv:List (Int×Bool)} (hn:t.au.length≤200):∀(e j:Nat),j+e=t.au.length→Ev2 (fun k m=>fV.l1 t mv m ((zA (BD mv) j:Nat):Int) (j:Int) (toL (BD mv) j)) (toL (BD mv) t.au.length):=by
  intro e
  induction e with
  | zero =>
    intro j hj
    have hj:j=t.au.length:=by omega
    subst hj
    refine Ev2.pure fun k m=>?_
    rw [fV.l1,if_neg (by simp)]
  | succ e ih =>
    intro j hj
    have hlt:j<t.au.length:=by omega
    have hc:=Ja (P:=BD mv) j
    obtain ⟨K,hK⟩:=ih (j+1) (by omega)
    have htl:toL (BD mv) (j+1)=toL (BD mv) j++[if BD mv j=true then ((zA (BD mv) j:Nat):Int) else-1]:=by unfold toL;rw [List.range_succ,List.map_append];rfl
    refine ⟨K+1,fun k m hk hm=>?_⟩
    obtain ⟨m,rfl⟩:∃x,m=x+1:=⟨m-1,by omega⟩
    have:=hK k m (by omega) (by omega)
    simp only at this
    rw [FX,htl] at this
    show fV.l1 t mv (m+1) _ (j:Int) _=_
    rw [fV.l1,if_pos (by simp;omega),fF hlt (by omega)]
    show (if BD mv j=true then _ else _)=_
    by_cases hp:BD mv j=true
    · rw [if_pos hp,if_pos (by rw [DX];omega),fF (j:=zA (BD mv) j) (n:=zA (BD mv) j+1) (by omega) (by omega)]
      rw [if_pos hp,if_pos hp] at this
      exact this
    · rw [if_neg hp,if_pos (by rw [DX];omega)]
      rw [if_neg hp,if_neg hp] at this
      exact this
theorem WY (W : Wf t s) {mv : List (Int × Bool)} (hc : Closed (BD mv) t) : ∀ (e j : Nat) (acc : List aZ), j + e = t.au.length → acc.length ≤ j → Ev2 (fun k m => fV.l2 k t mv (toL (BD mv) t.au.length) m (j : Int) acc) (acc ++ (((List.range e).map (· + j)).filter (BD mv)).map fun i => mvS (fun c => rd 0 (toL (BD mv) t.au.length) c) (dAt t i)) := by
  have hn:=W.few
  intro e
  induction e with
  | zero =>
    intro j acc hj ha
    refine Ev2.pure fun k m=>?_
    rw [fV.l2,if_neg (by simp;omega)]
    simp
  | succ e ih =>
    intro j acc hj ha
    have hlt:j<t.au.length:=by omega
    have hrange:(List.range (e+1)).map (· +j)=j::(List.range e).map (· +(j+1)):=by
      rw [List.range_succ_eq_map,List.map_cons,List.map_map]
      congr 1
      · omega
      · exact List.map_congr_left fun i _=>by simp only [Function.comp_apply];omega
    rw [hrange,List.filter_cons]
    by_cases hp:BD mv j=true
    · rw [if_pos hp,List.map_cons]
      have hmv := JV W hlt (a1 := fun _ z0 => qF.f z0 (toL (BD mv) t.au.length)) (to := fun c => rd 0 (toL (BD mv) t.au.length) c) (fun c hcm => Ev.pure fun k => by
        obtain ⟨c1,c2⟩:=oW W hlt hcm
        unfold qF.f
        rw [if_pos (by rw [DX]; omega)])
      obtain ⟨K1,h1⟩:=hmv
      obtain ⟨K2,h2⟩:=ih (j+1) (acc++[mvS (fun c=>rd 0 (toL (BD mv) t.au.length) c) (dAt t j)]) (by omega) (by simp;omega)
      refine ⟨K1+K2+1,fun k m hk hm=>?_⟩
      obtain ⟨m,rfl⟩:∃x,m=x+1:=⟨m-1,by omega⟩
      have:=h2 k m (by omega) (by omega)
      simp only at this
      rw [List.append_assoc] at this
      show fV.l2 k t mv _ (m+1) (j:Int) acc=_
      rw [fV.l2,if_pos (by simp;omega),if_pos (by omega)]
      show (if BD mv j=true then _ else _)=_
      rw [if_pos hp,oQ,show jI.f k _ _=_ from h1 k (by omega)]
      simp only [Option.bind_some]
      rw [if_pos (by omega),fF hlt (by omega)]
      exact this
    · rw [if_neg hp]
      obtain ⟨K2,h2⟩:=ih (j+1) acc (by omega) (by omega)
      refine ⟨K2+1,fun k m hk hm=>?_⟩
      obtain ⟨m,rfl⟩:∃x,m=x+1:=⟨m-1,by omega⟩
      show fV.l2 k t mv _ (m+1) (j:Int) acc=_
      rw [fV.l2,if_pos (by simp;omega),if_pos (by omega)]
      show (if BD mv j=true then _ else _)=_
      rw [if_neg hp,fF hlt (by omega)]
      exact h2 k m (by omega) (by omega)
theorem Uc (W : Wf t s) (hv : Ev (fun k => dH.f k t) true) {a : List ByteArray} (ha : a.length ≤ 200) :
    (∃(fr:List Nat) (P:Nat→Bool),fr.length=a.length∧(∀i,i<a.length→qX t (a.getD i ByteArray.empty)=((fr.getD i 0:Nat):Int))∧(∀k,P k=true↔∃i∈fr,Rch t i k)∧Ev (fun k=>fV.f k t a) (outT P t,toL P t.au.length,0))∨
    ((∃i,i<a.length∧¬0≤qX t (a.getD i ByteArray.empty))∧Ev (fun k=>fV.f k t a) (⟨[]⟩,[],3)):=by
  obtain ⟨Kv,hv⟩:=hv
  rcases WW W ha a.length 0 [] (by omega) rfl with ⟨fr,hfl,hfr,h0⟩|⟨⟨i,hi,hneg⟩,h0⟩
  · left
    obtain ⟨K0,h0⟩:=h0.diag
    simp only [Nat.zero_add,List.nil_append] at hfr h0
    have hin:∀i∈fr,i<t.au.length:=fun i hi=>by
      obtain ⟨j,hj,e⟩:=List.mem_iff_getElem.1 hi
      have h1:=hfr j (by omega)
      have hg:fr.getD j 0=i:=by rw [List.getD_eq_getElem?_getD,List.getElem?_eq_getElem hj];exact e
      rw [hg] at h1
      obtain ⟨q,e2,hq,_⟩:=uM (t:=t) (name:=a.getD j ByteArray.empty) (by rw [h1];omega)
      rw [h1] at e2
      have:=Int.ofNat.inj e2
      omega
    obtain ⟨mv,⟨K1,h1⟩,hall,hkeys⟩:=EI W hin (by omega)
    have hP:∀k,BD mv k=true↔∃i∈fr,Rch t i k:=fun k=>by
      unfold BD
      rw [DT hall,hkeys]
      constructor
      · rintro ⟨q,e,h⟩
        have:=Int.ofNat.inj e
        subst this;exact h
      · exact fun h=>⟨k,X,h⟩
    have hc:Closed (BD mv) t:=fun i hi hp c hcm=>by
      obtain ⟨q,hq,hr⟩:=(hP i).1 hp
      exact (hP _).2 ⟨q,hq, .step hr hcm⟩
    obtain ⟨K2,h2⟩:=(WX (mv:=mv) W.few t.au.length 0 (by omega)).diag
    obtain ⟨K3,h3⟩:=(WY W hc t.au.length 0 [] (by omega) (by simp)).diag
    refine ⟨fr,BD mv,hfl,hfr,hP,⟨Kv+K0+K1+K2+K3,fun k hk=>?_⟩⟩
    show fV.f k t a=_
    unfold fV.f
    rw [show dH.f k t=_ from hv k (by omega)]
    simp only [Option.bind_some,Bool.not_true,Bool.false_eq_true,if_false]
    rw [if_neg (by simp;omega),show fV.l0 k t a k 0 []=_ from h0 k (by omega)]
    simp only [Option.bind_some]
    rw [show jf.f k t (Ar fr)=_ from h1 k (by omega)]
    simp only [Option.bind_some]
    rw [show fV.l1 t mv k 0 0 []=_ from h2 k (by omega)]
    simp only [Option.bind_some]
    rw [show fV.l2 k t mv _ k 0 []=_ from h3 k (by omega)]
    simp only [Option.bind_some,List.nil_append]
    have hr:(List.range t.au.length).map (· +0)=List.range t.au.length:=by simp
    rw [hr]
    rfl
  · right
    obtain ⟨K0,h0⟩:=h0.diag
    refine ⟨⟨i,hi,by simpa using hneg⟩,⟨Kv+K0,fun k hk=>?_⟩⟩
    show fV.f k t a=_
    unfold fV.f
    rw [show dH.f k t=_ from hv k (by omega)]
    simp only [Option.bind_some,Bool.not_true,Bool.false_eq_true,if_false]
    rw [if_neg (by simp;omega),show fV.l0 k t a k 0 []=_ from h0 k (by omega)]
    rfl
end
def Jb (t u:aQ):Prop:=∀i,i<t.au.length→gy (dAt t i)=true→∀j,j<u.au.length→gy (dAt u j)=true→(dAt t i).aF=(dAt u j).aF→EqS t i u j
def vH (t u:aQ) (i:Nat):Prop:=gy (dAt t i)=true→∀j,j<u.au.length→gy (dAt u j)=true→(dAt t i).aF=(dAt u j).aF→EqS t i u j
section
variable {t u v:aQ} {s r:List Int}
theorem Jb.symm (W:Wf t s) (V:Wf u r) (h:Jb t u):Jb u t:=fun i hi hn j hj hm e=>(h j hj hm i hi hn e.symm).symm W V hj hi
theorem Jb.refl (W:Wf t s):Jb t t:=fun i hi hn j hj hm e=>by
 have:=sU W hi hj hn hm e
 subst this
 exact EqS.refl W hi
theorem Ud (W : Wf t s) (V : Wf u r) : ∀ (e j : Nat), j + e = t.au.length → Ev2 (fun k m => jg.l0 k t u m (j : Int)) (if tell (∀ i, j ≤ i → i < t.au.length → vH t u i) = true then .inr () else .inl (⟨[]⟩, [], [], 82)) := by
  have hn:=W.few
  intro e
  induction e with
  | zero =>
    intro j hj
    rw [if_pos (mY (fun i h1 h2=>by omega))]
    refine Ev2.pure fun k m=>?_
    rw [jg.l0,if_neg (by simp;omega)]
  | succ e ih =>
    intro j hj
    have hlt:j<t.au.length:=by omega
    obtain ⟨K,hK⟩:=ih (j+1) (by omega)
    have step : vH t u j → tell (∀ i, j ≤ i → i < t.au.length → vH t u i) = tell (∀ i, j + 1 ≤ i → i < t.au.length → vH t u i) := fun hc => jw ⟨fun h i h1 h2 => h i (by omega) h2, fun h i h1 h2 => by
      by_cases e:i=j
      · subst e;exact hc
      · exact h i (by omega) h2⟩
    by_cases hnm:gy (dAt t j)=true
    · obtain ⟨K1,h1⟩:=I5 V.few (dAt t j).aF
      by_cases h0:0≤qX u (dAt t j).aF
      · obtain ⟨q,e0,hq,hnq,hname⟩:=uM h0
        obtain ⟨K2,h2⟩:=QF W V hlt hq
        have hcomp : vH t u j ↔ EqS t j u q := ⟨fun h => h hnm q hq hnq hname.symm, fun h _ q' hq' hn' e' => by
          have:=sU V hq hq' hnq hn' (by rw [hname,e'])
          subst this; exact h⟩
        refine ⟨K+K1+K2+1,fun k m hk hm=>?_⟩
        obtain ⟨m,rfl⟩:∃x,m=x+1:=⟨m-1,by omega⟩
        show jg.l0 k t u (m+1) (j:Int)=_
        rw [jg.l0,if_pos (by simp;omega),if_pos (by omega),oQ]
        simp only [jH.f,Option.bind_some]
        show (if (!(gy (dAt t j)))=true then _ else _)=_
        rw [hnm,if_neg (by simp),show mP.f k u _=_ from h1 k (by omega),e0]
        simp only [Option.bind_some]
        rw [show decide (((q:Nat):Int)≥0)=true from decide_eq_true (by omega)]
        simp only [beq_self_eq_true,Bool.and_self,if_true,Bool.true_and]
        rw [show jU.f k t (j:Int) u (q:Int)=_ from h2 k (by omega)]
        simp only [Option.bind_some]
        by_cases hE:EqS t j u q
        · rw [mY hE,if_neg (by simp),fF hlt (by omega),step (hcomp.2 hE)]
          exact hK k m (by omega) (by omega)
        · rw [jW hE,if_pos (by decide),jW (fun h=>hE (hcomp.1 (h j (Nat.le_refl _) hlt)))]
          rfl
      · have hlt0:qX u (dAt t j).aF<0:=by omega
        have hcomp:vH t u j:=fun _ q hq hnq e=>absurd e.symm (Ah h0 q hq hnq)
        refine ⟨K+K1+1,fun k m hk hm=>?_⟩
        obtain ⟨m,rfl⟩:∃x,m=x+1:=⟨m-1,by omega⟩
        show jg.l0 k t u (m+1) (j:Int)=_
        rw [jg.l0,if_pos (by simp;omega),if_pos (by omega),oQ]
        simp only [jH.f,Option.bind_some]
        show (if (!(gy (dAt t j)))=true then _ else _)=_
        rw [hnm,if_neg (by simp),show mP.f k u _=_ from h1 k (by omega)]
        simp only [Option.bind_some]
        rw [show decide (qX u (dAt t j).aF≥0)=false from decide_eq_false (by omega)]
        simp only [Bool.and_false,Bool.false_eq_true,if_false,Option.bind_some,Bool.false_and,show (false==true)=false from rfl]
        rw [fF hlt (by omega),step hcomp]
        exact hK k m (by omega) (by omega)
    · refine ⟨K+1,fun k m hk hm=>?_⟩
      obtain ⟨m,rfl⟩:∃x,m=x+1:=⟨m-1,by omega⟩
      show jg.l0 k t u (m+1) (j:Int)=_
      rw [jg.l0,if_pos (by simp;omega),if_pos (by omega),oQ]
      simp only [jH.f,Option.bind_some]
      show (if (!(gy (dAt t j)))=true then _ else _)=_
      rw [Bool.not_eq_true] at hnm
      rw [hnm,if_pos (by decide),fF hlt (by omega),step (fun h=>by rw [hnm] at h;cases h)]
      exact hK k m (by omega) (by omega)
structure Both (t u:aQ) (m1:List (ByteArray×Int)) (l1:List dR) (x1:List Int) (m2:List (ByteArray×Int)) (l2:List dR) (x2:List Int):Prop where
 a:Added t [] [] 0 x1 m1 l1
 b:Added u m1 l1 0 x2 m2 l2
variable {m1 m2:List (ByteArray×Int)} {l1 l2:List dR} {x1 x2:List Int}
theorem Both.len1 (B:Both t u m1 l1 x1 m2 l2 x2):x1.length=t.au.length:=by have:=B.a.len;omega
theorem Both.len2 (B:Both t u m1 l1 x1 m2 l2 x2):x2.length=u.au.length:=by have:=B.b.len;omega
theorem Both.le (B:Both t u m1 l1 x1 m2 l2 x2):l1.length≤l2.length:=by
 obtain ⟨r,hr,_⟩:=B.b.ext
 rw [hr];simp
theorem Both.Xw (B:Both t u m1 l1 x1 m2 l2 x2) {i:Nat} (hi:i<t.au.length):∃q:Nat,x1.getD i 0=(q:Int)∧q<l2.length∧xS (toS l2) q=tx t i:=by
 obtain ⟨q,a,b,c⟩:=B.a.at_ i (by rw [B.len1];exact hi)
 obtain ⟨r,hr,_⟩:=B.b.ext
 simp only [Nat.zero_add] at c
 exact ⟨q,a,by have:=B.le;omega,by rw [hr,BA b];exact c⟩
theorem Both.Xx (B:Both t u m1 l1 x1 m2 l2 x2) {i:Nat} (hi:i<u.au.length):∃q:Nat,x2.getD i 0=(q:Int)∧q<l2.length∧xS (toS l2) q=tx u i:=by
 obtain ⟨q,a,b,c⟩:=B.b.at_ i (by rw [B.len2];exact hi)
 simp only [Nat.zero_add] at c
 exact ⟨q,a,b,c⟩
theorem Both.src (B:Both t u m1 l1 x1 m2 l2 x2) {q:Nat} (hq:q<l2.length):sT (toS l2) q=t∨sT (toS l2) q=u:=by
 rw [(DV hq).1]
 have hm:=RS hq
 obtain ⟨r1,e1,h1⟩:=B.a.ext
 obtain ⟨r2,e2,h2⟩:=B.b.ext
 rw [e2,e1,List.nil_append] at hm
 rcases List.mem_append.1 hm with h|h
 ·obtain ⟨i,_,_,e⟩:=h1 _ h
  rw [e2,e1,List.nil_append,e];exact .inl rfl
 ·obtain ⟨i,_,_,e⟩:=h2 _ h
  rw [e2,e1,List.nil_append,e];exact .inr rfl
theorem Both.met (B:Both t u m1 l1 x1 m2 l2 x2) {q:Nat} (hq:q<l2.length):(∃i,i<t.au.length∧x1.getD i 0=(q:Int))∨(∃i,i<u.au.length∧x2.getD i 0=(q:Int)):=by
 by_cases h:q<l1.length
 ·obtain ⟨i,a,b⟩:=B.a.met q (by simp) h
  exact .inl ⟨i,by rw [←B.len1];exact a,b⟩
 ·obtain ⟨i,a,b⟩:=B.b.met q (by omega) hq
  exact .inr ⟨i,by rw [←B.len2];exact a,b⟩
theorem Both.Yq (B:Both t u m1 l1 x1 m2 l2 x2):Has m2 t:=B.b.keeps B.a.pool B.a.has
theorem Both.Yr (B:Both t u m1 l1 x1 m2 l2 x2):Has m2 u:=B.b.has
theorem Hg (W:Wf t s) (V:Wf u r) (hc:Jb t u) {k k':Nat} (hk:k<t.au.length) (hk':k'<u.au.length) (he:tx t k=tx u k'):Match t (dAt t k) u (dAt u k'):=by
 rcases KT W V hk hk' he with ⟨a,b,c⟩|h|h
 ·exact Ai W V hk (hc k hk a k' hk' b c).2 .refl hk' he
 ·exact .inr (.inl h)
 ·exact .inr (.inr h)
theorem Both.same (B:Both t u m1 l1 x1 m2 l2 x2) (W:Wf t s) (V:Wf u r) (hc:Jb t u) {q:Nat} (hq:q<l2.length):
  (∀k k',k<t.au.length→k'<(sT (toS l2) q).au.length→tx t k=tx (sT (toS l2) q) k'→Match t (dAt t k) (sT (toS l2) q) (dAt (sT (toS l2) q) k'))∧
  (∀k k',k<u.au.length→k'<(sT (toS l2) q).au.length→tx u k=tx (sT (toS l2) q) k'→Match u (dAt u k) (sT (toS l2) q) (dAt (sT (toS l2) q) k')):=by
 rcases B.src hq with e|e
 ·rw [e]
  exact ⟨fun k k' hk hk' he=>yO W hk hk' he,fun k k' hk hk' he=>(Hg W V hc hk' hk he.symm).symm⟩
 ·rw [e]
  exact ⟨fun k k' hk hk' he=>Hg W V hc hk hk' he,fun k k' hk hk' he=>yO V hk hk' he⟩
theorem Both.built (B:Both t u m1 l1 x1 m2 l2 x2) (W:Wf t s) (V:Wf u r) (hc:Jb t u) (hl:l2.length≤200):Built (I9 m2 l2) (toS l2):=by
 refine B.b.pool.built hl (fun q hq=>?_) (fun q p hq hp k k' hk hk' he=>?_)
 ·rcases B.src hq with e|e
  ·rw [e];exact B.Yq
  ·rw [e];exact B.Yr
 ·obtain ⟨h1,h2⟩:=B.same W V hc hp
  rcases B.src hq with e|e
  ·rw [e] at hk he⊢;exact h1 k k' hk hk' he
  ·rw [e] at hk he⊢;exact h2 k k' hk hk' he
theorem QO (W:Wf t s) (V:Wf u r):∃m1 l1 x1 m2 l2 x2,Both t u m1 l1 x1 m2 l2 x2∧l2.length≤400∧Ev (fun k=>fG.f k [] [] t) (x1,m1,l1)∧Ev (fun k=>fG.f k m1 l1 u) (x2,m2,l2):=by
 obtain ⟨x1,m1,l1,h1,A1⟩:=OI W Pool.nil (by simp)
 have hl1:l1.length≤200:=by have:=A1.few;have:=A1.len;have:=W.few;simp at*;omega
 obtain ⟨x2,m2,l2,h2,A2⟩:=OI V A1.pool (by omega)
 exact ⟨m1,l1,x1,m2,l2,x2,⟨A1,A2⟩,by have:=A2.few;have:=A2.len;have:=V.few;omega,h1,h2⟩
theorem QS (W:Wf t s) (V:Wf u r) (hv:Ev (fun k=>dH.f k t) true) (hv2:Ev (fun k=>dH.f k u) true) (B:Both t u m1 l1 x1 m2 l2 x2) (hl:l2.length≤400) (h1:Ev (fun k=>fG.f k [] [] t) (x1,m1,l1)) (h2:Ev (fun k=>fG.f k m1 l1 u) (x2,m2,l2)):
  Ev (fun k=>jg.f k t u) (if tell (Jb t u)=true then (if l2.length≤200 then (I9 m2 l2,x1,x2,0) else (⟨[]⟩,[],[],2)) else (⟨[]⟩,[],[],82)):=by
 obtain ⟨K1,h1⟩:=h1
 obtain ⟨K2,h2⟩:=h2
 obtain ⟨K3,h3⟩:=hv
 obtain ⟨K4,h4⟩:=hv2
 obtain ⟨K5,h5⟩:=(Ud W V t.au.length 0 (by omega)).diag
 obtain ⟨K6,h6⟩:=JX B.b.pool (by omega)
 refine ⟨K1+K2+K3+K4+K5+K6,fun k hk=>?_⟩
 show jg.f k t u=_
 unfold jg.f
 rw [show dH.f k t=_ from h3 k (by omega),show dH.f k u=_ from h4 k (by omega)]
 simp only [Option.bind_some,Bool.not_true,beq_self_eq_true,Bool.and_self,if_true,Bool.or_self,Bool.false_eq_true,if_false]
 rw [show jg.l0 k t u k 0=_ from h5 k (by omega)]
 have hc:tell (∀i,0≤i→i<t.au.length→vH t u i)=tell (Jb t u):=jw ⟨fun h i hi hn=>h i (by omega) hi hn,fun h i _ hi hn=>h i hi hn⟩
 rw [hc]
 by_cases hC:Jb t u
 ·rw [mY hC,if_pos rfl,if_pos rfl]
  simp only [Option.bind_some]
  rw [show fG.f k [] [] t=_ from h1 k (by omega)]
  simp only [Option.bind_some]
  rw [show fG.f k m1 l1 u=_ from h2 k (by omega)]
  simp only [Option.bind_some]
  by_cases hle:l2.length≤200
  ·rw [if_pos hle,if_neg (by simp;omega),show gZ.f k m2 l2=_ from h6 k (by omega)]
   rfl
  ·rw [if_neg hle,if_pos (by simp;omega)]
 ·rw [jW hC,if_neg (by decide),if_neg (by decide)]
  rfl
theorem Hl (h:Ev (fun k=>dH.f k t) false∨(Ev (fun k=>dH.f k t) true∧Ev (fun k=>dH.f k u) false)):Ev (fun k=>jg.f k t u) (⟨[]⟩,[],[],80):=by
 rcases h with ⟨K,hK⟩|⟨⟨K,hK⟩,⟨K2,h2⟩⟩
 ·refine ⟨K,fun k hk=>?_⟩
  show jg.f k t u=_
  unfold jg.f
  rw [show dH.f k t=_ from hK k hk]
  rfl
 ·refine ⟨K+K2,fun k hk=>?_⟩
  show jg.f k t u=_
  unfold jg.f
  rw [show dH.f k t=_ from hK k (by omega)]
  simp only [Option.bind_some,Bool.not_true,beq_self_eq_true,Bool.and_self,if_true]
  rw [show dH.f k u=_ from h2 k (by omega)]
  rfl
end
def cf:List Bool→Nat
 |[]=>0
 |b::r=>(if b then 0 else 1)+cf r
theorem JZ:∀{is:List Bool} {i:Nat},i<is.length→is.getD i false=false→cf (is.set i true)+1=cf is
  |[],i,h,_=>by simp at h
  | b :: r, 0, _, h => by
    obtain rfl:b=false:=h
    simp [cf];omega
  | b :: r, i + 1, h, h2 => by
    have:=JZ (is:=r) (i:=i) (by simpa using h) h2
    simp only [List.set_cons_succ,cf]
    omega
theorem J3 {is:List Bool} {i k:Nat} (h:i<is.length):(is.set i true).getD k false=if i=k then true else is.getD k false:=by
 rw [List.getD_eq_getElem?_getD,List.getD_eq_getElem?_getD,List.getElem?_set]
 by_cases e:i=k
 ·subst e;rw [if_pos rfl,if_pos rfl,if_pos h];rfl
 ·rw [if_neg e,if_neg e]
def yF (t : aQ) : Nat → List Bool → List Int → Option (List Bool)
  |0,_,_=>none
  | m + 1, is, todo => match todo with
    |[]=>some is
    |i::r=>if is.getD i.toNat false=true then yF t m is r else yF t m (is.set i.toNat true) (r++kids (dAt t i.toNat))
section
variable {t:aQ} {l:List Int}
structure RInv (t:aQ) (fr:List Nat) (is:List Bool) (todo:List Int):Prop where
 len:is.length=t.au.length
 mark:∀k,is.getD k false=true→∃i∈fr,Rch t i k
 DY:∀x∈todo,x=((x.toNat:Nat):Int)∧x.toNat<t.au.length∧∃i∈fr,Rch t i x.toNat
 closed:∀k,is.getD k false=true→∀c∈kids (dAt t k),is.getD c.toNat false=true∨c∈todo
 start:∀i∈fr,is.getD i false=true∨((i:Nat):Int)∈todo
theorem OM (W : Wf t l) {fr : List Nat} : ∀ (N : Nat) (is : List Bool), cf is ≤ N → ∀ (todo : List Int), RInv t fr is todo →
    ∃is',(∃K,∀k,K≤k→yF t k is todo=some is')∧RInv t fr is' []:=by
  intro N
  induction N with
  | zero =>
    intro is hN todo
    induction todo with
    |nil=>exact fun h=>⟨is,⟨1,fun k hk=>by obtain ⟨k,rfl⟩:∃q,k=q+1:=⟨k-1,by omega⟩;rfl⟩,h⟩
    | cons x r ih =>
      intro h
      obtain ⟨hx1,hx2,hx3⟩:=h.DY x List.mem_cons_self
      have hs:is.getD x.toNat false=true:=by
        cases hb:is.getD x.toNat false with
        |true=>rfl
        | false =>
          have:=JZ (by rw [h.len];exact hx2) hb
          omega
      obtain ⟨is', ⟨K, hK⟩, hI⟩ := ih ⟨h.len, h.mark, fun y hy => h.DY y (List.mem_cons_of_mem _ hy), fun k hk c hc => by
        rcases h.closed k hk c hc with h1|h1
        · exact .inl h1
        · rcases List.mem_cons.1 h1 with rfl|h1
          · exact .inl hs
          · exact .inr h1,fun i hi=>by
        rcases h.start i hi with h1|h1
        · exact .inl h1
        · rcases List.mem_cons.1 h1 with h2|h1
          · exact .inl (by rw [←h2] at hs;exact hs)
          · exact .inr h1⟩
      refine ⟨is',⟨K+1,fun k hk=>?_⟩,hI⟩
      obtain ⟨k,rfl⟩:∃q,k=q+1:=⟨k-1,by omega⟩
      rw [yF,if_pos hs]
      exact hK k (by omega)
  | succ N ihN =>
    intro is hN todo
    induction todo with
    |nil=>exact fun h=>⟨is,⟨1,fun k hk=>by obtain ⟨k,rfl⟩:∃q,k=q+1:=⟨k-1,by omega⟩;rfl⟩,h⟩
    | cons x r ih =>
      intro h
      obtain ⟨hx1,hx2,hx3⟩:=h.DY x List.mem_cons_self
      cases hb:is.getD x.toNat false with
      | true =>
        obtain ⟨is', ⟨K, hK⟩, hI⟩ := ih ⟨h.len, h.mark, fun y hy => h.DY y (List.mem_cons_of_mem _ hy), fun k hk c hc => by
          rcases h.closed k hk c hc with h1|h1
          · exact .inl h1
          · rcases List.mem_cons.1 h1 with rfl|h1
            · exact .inl hb
            · exact .inr h1,fun i hi=>by
          rcases h.start i hi with h1|h1
          · exact .inl h1
          · rcases List.mem_cons.1 h1 with h2|h1
            · exact .inl (by rw [←h2] at hb;exact hb)
            · exact .inr h1⟩
        refine ⟨is',⟨K+1,fun k hk=>?_⟩,hI⟩
        obtain ⟨k,rfl⟩:∃q,k=q+1:=⟨k-1,by omega⟩
        rw [yF,if_pos hb]
        exact hK k (by omega)
      | false =>
        have hlt:x.toNat<is.length:=by rw [h.len];exact hx2
        have hcf:=JZ hlt hb
        obtain ⟨is', ⟨K, hK⟩, hI⟩ := ihN (is.set x.toNat true) (by omega) (r ++ kids (dAt t x.toNat)) ⟨by rw [List.length_set]; exact h.len, fun k hk => by
          rw [J3 hlt] at hk
          by_cases e:x.toNat=k
          · subst e;exact hx3
          · rw [if_neg e] at hk;exact h.mark k hk,fun y hy=>by
          rcases List.mem_append.1 hy with hy|hy
          · exact h.DY y (List.mem_cons_of_mem _ hy)
          · obtain ⟨h1,h2⟩:=oW W hx2 hy
            obtain ⟨i,hi,hr⟩:=hx3
            exact ⟨h1,h2,i,hi, .step hr hy⟩,fun k hk c hc=>by
          rw [J3 hlt] at hk
          rw [J3 hlt]
          by_cases e:x.toNat=k
          · subst e;exact .inr (List.mem_append_right _ hc)
          · rw [if_neg e] at hk
            rcases h.closed k hk c hc with h1|h1
            · refine .inl ?_
              split
              · rfl
              · exact h1
            · rcases List.mem_cons.1 h1 with rfl|h1
              · exact .inl (by rw [if_pos X])
              · exact .inr (List.mem_append_left _ h1),fun i hi=>by
          rw [J3 hlt]
          rcases h.start i hi with h1|h1
          · refine .inl ?_
            split
            · rfl
            · exact h1
          · rcases List.mem_cons.1 h1 with h2|h1
            · exact .inl (by rw [if_pos (by rw [←h2];rfl)])
            · exact .inr (List.mem_append_left _ h1)⟩
        refine ⟨is',⟨K+1,fun k hk=>?_⟩,hI⟩
        obtain ⟨k,rfl⟩:∃q,k=q+1:=⟨k-1,by omega⟩
        rw [yF,if_neg (by rw [hb];simp)]
        exact hK k (by omega)
theorem Ho (W:Wf t l) {fr:List Nat} (hf:∀i∈fr,i<t.au.length):∃is',(∃K,∀k,K≤k→yF t k (List.replicate t.au.length false) (Ar fr)=some is')∧is'.length=t.au.length∧∀k,is'.getD k false=true↔∃i∈fr,Rch t i k:=by
  have hrep:∀k,(List.replicate t.au.length false).getD k false=false:=fun k=>by
    rw [List.getD_eq_getElem?_getD,List.getElem?_replicate]
    split<;>rfl
  have hin:∀x∈Ar fr,x=((x.toNat:Nat):Int)∧x.toNat<t.au.length∧∃i∈fr,Rch t i x.toNat:=fun x hx=>by
    obtain ⟨i,hi,rfl⟩:=List.mem_map.1 hx
    exact ⟨X,hf i hi,i,hi, .refl⟩
  have hno:∀k,¬(List.replicate t.au.length false).getD k false=true:=fun k hk=>by rw [hrep] at hk;cases hk
  have h0:RInv t fr (List.replicate t.au.length false) (Ar fr):=⟨by simp,fun k hk=>absurd hk (hno k),hin,fun k hk=>absurd hk (hno k),fun i hi=> .inr (List.mem_map.2 ⟨i,hi,X⟩)⟩
  obtain ⟨is',hK,hI⟩:=OM W (fr:=fr) _ (List.replicate t.au.length false) (Nat.le_refl _) (Ar fr) h0
  refine ⟨is',hK,hI.len,fun k=>⟨hI.mark k,?_⟩⟩
  rintro ⟨i,hi,hr⟩
  induction hr with
  | refl =>
    rcases hI.start i hi with h|h
    · exact h
    · cases h
  | step hr hc ih =>
    rcases hI.closed _ ih _ hc with h|h
    · exact h
    · cases h
end
theorem OO (s:ByteArray) (i:Int):byteAt s i=rd 0 (bytesOf s) i:=by
 unfold byteAt rd bytesOf
 rw [List.getD_eq_getElem?_getD,List.getD_eq_getElem?_getD,List.getElem?_map]
 cases s.data.toList[i.toNat]?<;>rfl
theorem Ll {s:ByteArray} (hl:s.size≤9223372036854775807):∀(d j m:Nat),j+d=s.size→d<m→
    gB.l0 s m (j:Int)=some (if y7 j ((bytesOf s).drop j)=true then .inr () else .inl false):=by
  have hb:=bytesOf_length s
  intro d
  induction d with
  | zero =>
    intro j m hj hm
    obtain ⟨m,rfl⟩:∃q,m=q+1:=⟨m-1,by omega⟩
    rw [gB.l0,if_neg (by simp;omega),List.drop_eq_nil_of_le (by omega)]
    rfl
  | succ d ih =>
    intro j m hj hm
    obtain ⟨m,rfl⟩:∃q,m=q+1:=⟨m-1,by omega⟩
    have hlt:j<s.size:=by omega
    have h1:=DF (s:=s) (by omega) (d+1) j (m+1) (by omega) (by omega)
    rw [jF.l0,if_pos (by simp;omega),if_pos (by omega)] at h1
    rw [gB.l0,if_pos (by simp;omega),if_pos (by omega),OO]
    rw [←h1]
    split
    · rfl
    · rw [fF hlt hl,ih (j+1) m (by omega) (by omega),DF (by omega) d (j+1) m (by omega) (by omega)]
theorem OQ (s:ByteArray):strEq s ByteArray.empty=decide (s.size=0):=by
 by_cases h:s.size=0
 ·have:s=ByteArray.empty:=by
   cases s with|mk d=>
   have:d=#[]:=Array.size_eq_zero_iff.1 h
   subst this;rfl
  rw [decide_eq_true h];exact gq.2 this
 ·rw [decide_eq_false h]
  cases hs:strEq s ByteArray.empty with
  |false=>rfl
  |true=>exact absurd (by rw [gq.1 hs];rfl) h
theorem J4 {s:ByteArray} (hs:s.size≤9223372036854775807):Ev (fun k=>gB.f k s) (rZ s):=by
 refine ⟨s.size+1,fun k hk=>?_⟩
 show gB.f k s=_
 unfold gB.f rZ
 rw [OQ]
 by_cases h0:s.size=0
 ·rw [if_pos (by simp [h0])];simp [h0]
 ·by_cases h1:(s.size:Int)≤31
  ·rw [if_neg (by simp only [Bool.or_eq_true,beq_iff_eq,decide_eq_true_eq];omega),show (0:Int)=((0:Nat):Int) from rfl,Ll hs s.size 0 k (by omega) (by omega),List.drop_zero]
   cases y7 0 (bytesOf s)<;>simp [h0,h1]
  ·rw [if_pos (by simp only [Bool.or_eq_true,beq_iff_eq,decide_eq_true_eq];omega)];simp [h1]
def y9:List ByteArray→List bf→Bool
 |_,[]=>true
 |ns,f::r=>rZ f.aF&& !(ns.any (strEq f.aF))&&y9 (f.aF::ns) r
theorem EK (d:aZ) (n:Int):∀(l:List bf) (ns:List ByteArray),su d n ns l=(y9 ns l&&l.all (lU d n))
  |[],ns=>rfl
  | f :: r, ns => by
    simp only [su,y9,EK d n r,List.all_cons]
    cases rZ f.aF<;>cases (ns.any (strEq f.aF))<;>cases (lU d n f)<;>cases (y9 (f.aF::ns) r)<;>rfl
theorem OT {l:List bf} (hl:l.length≤9223372036854775807) {i:Nat} (hi:i<l.length):∀(e j m:Nat),j+e=i→e<m→
    dB.l1 l (i:Int) m (j:Int)=some (if (((l.take i).drop j).any fun f=>strEq f.aF (l.getD i aj).aF)=true then .inl false else .inr ()):=by
  intro e
  induction e with
  | zero =>
    intro j m hj hm
    obtain ⟨m,rfl⟩:∃q,m=q+1:=⟨m-1,by omega⟩
    rw [dB.l1,if_neg (by simp;omega),List.drop_eq_nil_of_le (by simp;omega)]
    rfl
  | succ e ih =>
    intro j m hj hm
    obtain ⟨m,rfl⟩:∃q,m=q+1:=⟨m-1,by omega⟩
    have hlt:j<l.length:=by omega
    have hd:(l.take i).drop j=l.getD j aj::(l.take i).drop (j+1):=by
      rw [jV aj (by simp;omega)]
      congr 1
      rw [List.getD_eq_getElem?_getD,List.getD_eq_getElem?_getD,List.getElem?_take,if_pos (by omega)]
    rw [dB.l1,if_pos (by simp;omega),if_pos (by omega),if_pos (by omega),ig,ig,hd,List.any_cons]
    by_cases h:strEq (l.getD j aj).aF (l.getD i aj).aF=true
    · rw [if_pos h,h];rfl
    · rw [if_neg h,fF hlt hl,ih (j+1) m (by omega) (by omega)]
      rw [Bool.not_eq_true] at h
      rw [h,Bool.false_or]
theorem Ue (l:List bf) (s:ByteArray):((l.map (·.aF)).reverse.any (strEq s))=l.any fun f=>strEq f.aF s:=by
 rw [List.any_reverse,List.any_map]
 congr 1
 funext f
 exact AX _ _
theorem Jc {l : List bf} (hl : l.length ≤ 9223372036854775807) (hz : ∀ f ∈ l, f.aF.size ≤ 9223372036854775807) : ∀ (e j : Nat), j + e = l.length →
    Ev2 (fun k m=>dB.l0 k l m (j:Int)) (if y9 ((l.take j).map (·.aF)).reverse (l.drop j)=true then .inr () else .inl false):=by
  intro e
  induction e with
  | zero =>
    intro j hj
    refine Ev2.pure fun k m=>?_
    rw [dB.l0,if_neg (by simp;omega),List.drop_eq_nil_of_le (by omega)]
    rfl
  | succ e ih =>
    intro j hj
    have hlt:j<l.length:=by omega
    have hmem:=getD_mem (z:=aj) hlt
    have h1:=J4 (hz _ hmem)
    have h2:=ih (j+1) (by omega)
    have ht:((l.take (j+1)).map (·.aF)).reverse=(l.getD j aj).aF::((l.take j).map (·.aF)).reverse:=by
      rw [List.take_add_one,List.map_append,List.reverse_append]
      rw [List.getD_eq_getElem?_getD,List.getElem?_eq_getElem hlt]
      rfl
    rw [ht] at h2
    rw [jV aj hlt,y9]
    refine Ev2.step h1 (r:=fun k m v1=>if (!v1)=true then (some (.inl false)) else ((dB.l1 l (j:Int) k 0).bind fun xx2=>(match xx2 with| .inl r=>some (.inl r)| .inr s1=>dB.l0 k l m ((j+1:Nat):Int)))) ?_ (fun k m=>?_)
    · rcases Bool.eq_false_or_eq_true (rZ (l.getD j aj).aF) with hn|hn
      · obtain ⟨K,hK⟩:=h2
        rw [hn]
        refine ⟨max K (j+1),fun k m hk hm=>?_⟩
        have h3:=OT hl hlt j 0 k (by omega) (by omega)
        rw [List.drop_zero] at h3
        simp only [Bool.not_true,Bool.false_eq_true,if_false,Bool.true_and]
        rw [show dB.l1 l (j:Int) k 0=_ from h3,Ue]
        cases ha:(l.take j).any fun f=>strEq f.aF (l.getD j aj).aF with
        |true=>simp
        |false=>simpa using hK k m (by omega) (by omega)
      · exact ⟨0,fun k m _ _=>by rw [hn];rfl⟩
    · rw [dB.l0,if_pos (by simp;omega),if_pos (by omega),ig,fF hlt hl]
      try rfl
theorem OU {l:List bf} (hl:l.length≤9223372036854775807) (hz:∀f∈l,f.aF.size≤9223372036854775807):
  Ev (fun k=>dB.f k l) (decide (0<l.length)&&decide (l.length≤32)&&y9 [] l):=by
 by_cases h:l.length=0∨32<l.length
 ·refine Ev.pure fun k=>?_
  unfold dB.f
  rw [if_pos (by simp only [Bool.or_eq_true,beq_iff_eq,decide_eq_true_eq];omega)]
  rcases h with h|h
  ·simp [h]
  ·rw [decide_eq_false (p:=l.length≤32) (by omega)];simp
 ·obtain ⟨K,hK⟩:=(Jc hl hz l.length 0 (by omega)).diag
  refine ⟨K,fun k hk=>?_⟩
  show dB.f k l=_
  unfold dB.f
  rw [if_neg (by simp only [Bool.or_eq_true,beq_iff_eq,decide_eq_true_eq];omega),show dB.l0 k l k 0=_ from hK k hk,decide_eq_true (p:=0<l.length) (by omega),decide_eq_true (p:=l.length≤32) (by omega)]
  simp only [List.take_zero,List.map_nil,List.reverse_nil,List.drop_zero]
  cases y9 [] l<;>rfl
theorem Hq {t : aQ} {d : aZ} (hl : d.ak.length ≤ 9223372036854775807) : ∀ (e j m : Nat), j + e = d.ak.length → e < m →
    fZ.l0 t d m (j:Int)=some (if (d.ak.drop j).all (lU d (t.au.length:Int))=true then .inr () else .inl false):=by
  intro e
  induction e with
  | zero =>
    intro j m hj hm
    obtain ⟨m,rfl⟩:∃q,m=q+1:=⟨m-1,by omega⟩
    rw [fZ.l0,if_neg (by simp;omega),List.drop_eq_nil_of_le (by omega)]
    rfl
  | succ e ih =>
    intro j m hj hm
    obtain ⟨m,rfl⟩:∃q,m=q+1:=⟨m-1,by omega⟩
    have hlt:j<d.ak.length:=by omega
    rw [fZ.l0,if_pos (by simp;omega),if_pos (by omega),ig,jV aj hlt,fF hlt hl,ih (j+1) m (by omega) (by omega),List.all_cons]
    generalize d.ak.getD j aj=f
    unfold lU iL.f
    by_cases h4:d.aA=4
    · have h5:(d.aA==5)=false:=by simp [h4]
      by_cases ha:f.vType<0
      · simp [h4,h5,ha]
        intro h;omega
      · by_cases hb:f.vType<(t.au.length:Int)
        · have h0:(0:Int)≤f.vType:=by omega
          have h1:¬((t.au.length:Int)≤f.vType):=by omega
          simp [h4,h5,ha,hb,h0,h1]
        · have h1:(t.au.length:Int)≤f.vType:=by omega
          simp [h4,h5,ha,hb,h1]
    · by_cases h5:d.aA=5
      · cases hx:((f.vType !=0)||(decide (f.vAt<(-2147483648))))||(decide (f.vAt>2147483647))<;>simp [h5,hx]
      · simp [h4,h5]
theorem DZ {d:aZ} {n:Int} (h4:d.aA≠4) (h5:d.aA≠5) (l:List bf):l.all (lU d n)=true:=by
 rw [List.all_eq_true]
 intro f _
 unfold lU
 simp [h4,h5]
theorem Lm {t:aQ} {d:aZ} (hl:d.ak.length≤9223372036854775807) (hz:∀f∈d.ak,f.aF.size≤9223372036854775807) (hz0:d.aF.size≤9223372036854775807):
  Ev (fun k=>fZ.f k t d) (nS d (t.au.length:Int)):=by
 obtain ⟨Kn,hKn⟩:=J4 hz0
 obtain ⟨Kf,hKf⟩:=OU hl hz
 have hw:strEq d.aF ByteArray.empty=true→rZ d.aF=false:=by
  intro h;unfold rZ;rw [h];simp
 refine ⟨max (max Kn Kf) (d.ak.length+1),fun k hk=>?_⟩
 show fZ.f k t d=_
 have h1:=hKn k (by omega)
 have h2:=hKf k (by omega)
 have h3:=Hq (t:=t) (d:=d) hl d.ak.length 0 k (by omega) (by omega)
 rw [List.drop_zero] at h3
 unfold fZ.f lM.f dZ.f iL.f nS shp
 simp only [h1,h2,show fZ.l0 t d k 0=_ from h3,EK]
 have hlen:∀n:Nat,((n:Int)==0)=decide (n=0):=by intro n;by_cases h:n=0<;>simp [h]
 have hpos:∀n:Nat,decide (0<n)= !decide (n=0):=by intro n;by_cases h:n=0<;>simp [h];omega
 rw [hlen,hpos]
 have hnil:decide (d.ak.length=0)=true→y9 [] d.ak=true:=by
  intro h
  have:d.ak=[]:=List.length_eq_zero_iff.1 (of_decide_eq_true h)
  rw [this];rfl
 have hz32:decide (d.ak.length=0)=true→decide (d.ak.length≤32)=true:=by
  intro h
  exact decide_eq_true (by have:=of_decide_eq_true h;omega)
 have h55:∀x:Int,(x==0)=decide (x=0):=by intro x;by_cases h:x=0<;>simp [h]
 have hcase:d.aA<1∨d.aA>6∨d.aA=1∨d.aA=2∨d.aA=3∨d.aA=4∨d.aA=5∨d.aA=6:=by omega
 have hall:=fun a b=>DZ (d:=d) (n:=(t.au.length:Int)) a b d.ak
 generalize d.ak.all (lU d (t.au.length:Int))=F at*
 generalize rZ d.aF=A at*
 generalize strEq d.aF ByteArray.empty=B at*
 generalize decide (d.ak.length=0)=C at*
 generalize decide (d.ak.length≤32)=D at*
 generalize y9 [] d.ak=E at*
 generalize d.aA=K at*
 generalize d.aY=I at*
 generalize d.vN=N at*
 generalize d.bY=R at*
 clear h1 h2 h3 hKn hKf hl hz hz0
 have hI:(I.aJ==false)= !I.aJ:=by cases I.aJ<;>rfl
 have hge:decide (R≥0)=decide (0≤R):=X
 have hgN:decide (N≥1)=decide (1≤N):=X
 rcases hcase with h|h|rfl|rfl|rfl|rfl|rfl|rfl
 ·simp only [show¬K=1 from by omega,show¬K=2 from by omega,show¬K=3 from by omega,show¬K=4 from by omega,show¬K=5 from by omega,show¬K=6 from by omega,if_false,decide_eq_true h]
  simp
 ·simp only [show¬K=1 from by omega,show¬K=2 from by omega,show¬K=3 from by omega,show¬K=4 from by omega,show¬K=5 from by omega,show¬K=6 from by omega,if_false,decide_eq_true h]
  simp
 ·rw [hall (by omega) (by omega)]
  simp only [okI,hI,hge,hgN,Int.reduceBEq,Int.reduceBNe,Int.reduceLT,Int.reduceGT,Int.reduceEq,bne,eq_self,Bool.false_eq_true,Bool.not_true,Bool.not_false,Bool.true_and,Bool.false_and,Bool.and_true,Bool.and_false,Bool.or_self,Bool.or_false,Bool.false_or,Bool.true_or,Option.bind_some,if_true,if_false,decide_true,decide_false]
  generalize (I.aU==1||I.aU==2||I.aU==4||I.aU==8)=a at*
  generalize (I.aU==0)=a0 at*
  generalize I.aJ=b at*
  generalize (R==0)=r at*
  generalize (N==0)=n at*
  revert hw hz32 hnil
  clear hall hlen hpos h55 hI hge hgN
  clear a0 b
  revert A B C D E a r n
  decide
 ·rw [hall (by omega) (by omega)]
  simp only [okI,hI,hge,hgN,Int.reduceBEq,Int.reduceBNe,Int.reduceLT,Int.reduceGT,Int.reduceEq,bne,eq_self,Bool.false_eq_true,Bool.not_true,Bool.not_false,Bool.true_and,Bool.false_and,Bool.and_true,Bool.and_false,Bool.or_self,Bool.or_false,Bool.false_or,Bool.true_or,Option.bind_some,if_true,if_false,decide_true,decide_false]
  generalize (I.aU==0)=a at*
  generalize I.aJ=b at*
  generalize decide (0≤R)=r at*
  generalize decide (R<(t.au.length:Int))=r2 at*
  generalize (N==0)=n at*
  revert hw hz32 hnil
  clear hall hlen hpos h55 hI hge hgN
  revert A B C D E a b r r2 n
  decide
 ·rw [hall (by omega) (by omega)]
  simp only [okI,hI,hge,hgN,Int.reduceBEq,Int.reduceBNe,Int.reduceLT,Int.reduceGT,Int.reduceEq,bne,eq_self,Bool.false_eq_true,Bool.not_true,Bool.not_false,Bool.true_and,Bool.false_and,Bool.and_true,Bool.and_false,Bool.or_self,Bool.or_false,Bool.false_or,Bool.true_or,Option.bind_some,if_true,if_false,decide_true,decide_false]
  generalize (I.aU==0)=a at*
  generalize I.aJ=b at*
  generalize decide (0≤R)=r at*
  generalize decide (R<(t.au.length:Int))=r2 at*
  generalize decide (1≤N)=n at*
  generalize decide (N≤512)=n2 at*
  revert hw hz32 hnil
  clear hall hlen hpos h55 hI hge hgN
  revert A B C D E a b r r2 n n2
  decide
 ·simp only [okI,hI,hge,hgN,Int.reduceBEq,Int.reduceBNe,Int.reduceLT,Int.reduceGT,Int.reduceEq,bne,eq_self,Bool.false_eq_true,Bool.not_true,Bool.not_false,Bool.true_and,Bool.false_and,Bool.and_true,Bool.and_false,Bool.or_self,Bool.or_false,Bool.false_or,Bool.true_or,Option.bind_some,if_true,if_false,decide_true,decide_false]
  generalize (I.aU==0)=a at*
  generalize I.aJ=b at*
  generalize (R==0)=r at*
  generalize decide (1≤N)=n at*
  generalize decide (N≤512)=n2 at*
  revert hw hz32 hnil
  clear hall hlen hpos h55 hI hge hgN
  revert A B C D E F a b r n n2
  decide
 ·simp only [okI,hI,hge,hgN,Int.reduceBEq,Int.reduceBNe,Int.reduceLT,Int.reduceGT,Int.reduceEq,bne,eq_self,Bool.false_eq_true,Bool.not_true,Bool.not_false,Bool.true_and,Bool.false_and,Bool.and_true,Bool.and_false,Bool.or_self,Bool.or_false,Bool.false_or,Bool.true_or,Option.bind_some,if_true,if_false,decide_true,decide_false]
  generalize (I.aU==0)=a at*
  generalize I.aJ=b at*
  generalize (R==0)=r at*
  generalize (N==0)=n at*
  generalize decide (1≤N)=n1 at*
  generalize decide (N≤512)=n2 at*
  revert hw hz32 hnil
  clear hall hlen hpos h55 hI hge hgN
  clear n1 n2
  revert A B C D E F a b r n
  decide
 ·rw [hall (by omega) (by omega)]
  simp only [okI,hI,hge,hgN,Int.reduceBEq,Int.reduceBNe,Int.reduceLT,Int.reduceGT,Int.reduceEq,bne,eq_self,Bool.false_eq_true,Bool.not_true,Bool.not_false,Bool.true_and,Bool.false_and,Bool.and_true,Bool.and_false,Bool.or_self,Bool.or_false,Bool.false_or,Bool.true_or,Option.bind_some,if_true,if_false,decide_true,decide_false]
  generalize (I.aU==0)=a at*
  generalize I.aJ=b at*
  generalize decide (0≤R)=r at*
  generalize decide (R<(t.au.length:Int))=r2 at*
  generalize (N==0)=n at*
  revert hw hz32 hnil
  clear hall hlen hpos h55 hI hge hgN
  revert A B C D E a b r r2 n
  decide
end Go.Proofs.YtfjppgobidjndaaGreatDoor
