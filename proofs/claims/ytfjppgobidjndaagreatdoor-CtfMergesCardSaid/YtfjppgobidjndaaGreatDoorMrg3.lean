/- Parts of a proof, merged by program: F22 F5 F66 F39 F11 F12 F13 F40 F14 F15 F70 F43 F16 F17 F18 F71 F72 F74 F73 F45 F44 F19 F4 F53 F24 F55 F26 F78 F79. The walks (each function once) and the plain laws; no condition of their own. -/
import Derived.Test.YtfjppgobidjndaaGreatDoorMrg2
set_option linter.unusedVariables false
set_option linter.unusedSimpArgs false
set_option maxRecDepth 20000
set_option maxHeartbeats 4000000
namespace Go.Proofs.YtfjppgobidjndaaGreatDoor
open Go.RowKit Go.M
def gZ.l0 (k:Nat) (HY:List (ByteArray×Int)) (lI:List dR):Nat→Int→(List aZ)→Option ((List aZ))
 |0,_,_=>none
 |m+1,aC,dG=>if (decide (aC<((lI.length:Nat):Int)))=true then (if 0≤aC∧aC<((lI.length:Nat):Int) then (if 0≤(rd bJ lI aC).vi∧(rd bJ lI aC).vi<((rd bJ lI aC).vt.au).length then ((jI.f k (rd ah ((rd bJ lI aC).vt.au) ((rd bJ lI aC).vi)) (fun z0=>kM.f k z0 HY (rd bJ lI aC))).bind fun v1=>(if dG.length+1≤4294967296 then (gZ.l0 k HY lI m (IntKind.wrap .i64 (aC+1)) (dG++([v1]:List aZ))) else none)) else none) else none) else (some dG)
def gZ.f (k:Nat) (HY:List (ByteArray×Int)) (lI:List dR):Option (aQ):=(gZ.l0 k HY lI k 0 ([]:List aZ)).bind fun xx1=>(some (⟨xx1⟩:aQ))
theorem gZ.calls (k:Nat) (HY:List (ByteArray×Int)) (lI:List dR) (bp0:Nat) (oM:Nat) (uo:Array MapEntry) (uq:Nat) (oh:Option Nat) (xH:Nat) (sN:List Value) {h0:View} {w0:World} {h:View} {w:World} {rest:List Res} (HS:St [] h0 w0 h ((some bp0, .cells #[Value.map (some oM),vL (rowA oh) lI.length xH] 67 (0,0))::(some oM, .map uo uq)::(oh, .cells (sN).toArray 96 (0,0))::rest) w) (ht:Tab w0) (Nj:oG vS (vI) HY uo uq) (xE:gU lq h lI oh lI.length xH sN) {r:aQ} (H:gZ.f k HY lI=some r):Calls Tryz.prog 22 #[vP bp0 0] w (fun e w1=>∃(h1:View),∃(Nu:Option Addr) (Nv:Nat),e= .returned (Value.agg #[vL Nu r.au.length Nv])∧r.au.length≤Nv∧Rd bI h1 Nu r.au∧Sub h h1∧St [] h0 w0 h1 ((some bp0, .cells #[Value.map (some oM),vL (rowA oh) lI.length xH] 67 (0,0))::(some oM, .map uo uq)::(oh, .cells (sN).toArray 96 (0,0))::rest) w1):=by
 unfold gZ.f at H
 have hsub:Sub h h:=Sub.rfl' h
 go_enter Tryz.func22,Tryz.ntmps22
 refine Al<|Ao<|dF X X (eF (cs:=#[vP bp0 0]) X X) ?_
 rintro w1 _ hE1 ⟨b1,rfl,ge1,hb1⟩
 have HS1:=HS.new hE1 ge1 hb1
 refine dF X X (dO (cs:=#[vL none 0 0]) Bp X) ?_
 rintro w2 _ hE2 ⟨b2,rfl,ge2,hb2⟩
 have HS2:=HS1.new hE2 ge2 hb2
 try simp only [sc0,sc1]
 refine aB<|ay<|Al<|Ao<|dF X X (dO (cs:=#[vL none 0 0]) Bp X) ?_
 rintro w3 _ hE3 ⟨b3,rfl,ge3,hb3⟩
 have HS3:=HS2.new hE3 ge3 hb3
 try simp only [sc0,sc1]
 refine aB<|ay<|Al<|Al<|Ao<|rs (vP bp0 0) (aN X Tryz.isAgg63 (HS3.look 2 X) X)<|rs (vP bp0 0) (pI X)<|rs (vP bp0 1) (aH (n:=1) (o':=1) X BV X Cf (by decide) X)<|rs (vL (rowA oh) lI.length xH) (aN X CE (HS3.look 3 X) X)<|aK (by simp only [sc0,sc1];rfl) ?_
 refine rs (vI ((lI.length:Nat):Int)) (BP X B7)<|rs (vI 0) (aO X) ?_
 try simp only [sc0,sc1]
 refine aB<|ay ?_
 have HS4:=HS3.nothing (.cells ([]:List Value).toArray 58 (0,0))
 obtain ⟨xx1,H,G1⟩:=bn H
 refine jB [5,11,12,13,14,15,16,17,18,19,20,21,22,23,24,25,26,27,28,29] (fun m us w'=>∃aC:Int,∃dG:List aZ,∃h1:View,∃(fC:Option Nat) (jv:Nat),∃(eH:List Value),Fit us (fun uy1=>[(uy1 0),vI aC,(uy1 2),(uy1 3),(uy1 4),(uy1 5),(uy1 6),(uy1 7),(uy1 8),(uy1 9),(uy1 10),(uy1 11),(uy1 12),(uy1 13),(uy1 14),(uy1 15),(uy1 16),(uy1 17),(uy1 18),(uy1 19)])∧gZ.l0 k HY lI m aC dG=some xx1∧gU bI h1 dG fC dG.length jv eH∧Sub h h1∧gU lq h1 lI oh lI.length xH sN∧St [] h0 w0 h1 ((fC, .cells (eH).toArray 58 (0,0))::(some b3, .cells #[vL (rowA fC) dG.length jv] 24 (0,0))::(some b2, .cells #[vL none 0 0] 24 (0,0))::(some b1, .cells #[vP bp0 0] 63 (0,0))::(some bp0, .cells #[Value.map (some oM),vL (rowA oh) lI.length xH] 67 (0,0))::(some oM, .map uo uq)::(oh, .cells (sN).toArray 96 (0,0))::rest) w') (fun us w'=>∃(h3:View),∃(eP:Option Nat) (jo:Nat),∃(iw:List Value),Fit us (fun uo1=>[(uo1 0),(uo1 1),(uo1 2),(uo1 3),(uo1 4),(uo1 5),(uo1 6),(uo1 7),(uo1 8),(uo1 9),(uo1 10),(uo1 11),(uo1 12),(uo1 13),(uo1 14),(uo1 15),(uo1 16),(uo1 17),(uo1 18),(uo1 19)])∧gU bI h3 xx1 eP xx1.length jo iw∧Sub h h3∧gU lq h3 lI oh lI.length xH sN∧St [] h0 w0 h3 ((eP, .cells (iw).toArray 58 (0,0))::(some b3, .cells #[vL (rowA eP) xx1.length jo] 24 (0,0))::(some b2, .cells #[vL none 0 0] 24 (0,0))::(some b1, .cells #[vP bp0 0] 63 (0,0))::(some bp0, .cells #[Value.map (some oM),vL (rowA oh) lI.length xH] 67 (0,0))::(some oM, .map uo uq)::(oh, .cells (sN).toArray 96 (0,0))::rest) w') k ⟨0,([]:List aZ),h,none,0,([]:List Value),(fit X),H,(gU.none' bI _).norm,hsub,xE,HS4⟩ ?_ ?_
 ·rintro m us w4 ⟨aC,dG,h1,fC,jv,eH,nO,H,iE,hsub,xE,HS5⟩
  obtain ⟨uy1,rfl⟩:=unj nO
  cases m with
  |zero=>exact absurd H (by simp [gZ.l0])
  |succ m=>
   rw [gZ.l0] at H
   try simp only [patch,sc0,sc1]
   refine Al<|Ao<|rs (vB (decide (aC<((lI.length:Nat):Int)))) (bW X X X) ?_
   try simp only [sc0,sc1]
   refine aB<|ay<|Al<|Av (t:=(decide (aC<((lI.length:Nat):Int)))) X (fun c1=>?_) (fun c1=>?_)
   ·replace H:=bU H c1
    refine AN<|ay<|Al<|wp_block<|Al<|Ao ?_
    obtain ⟨hi1,H⟩:=dN H
    obtain ⟨rb1,_,Hz,⟨_,_,rfl,⟨xW,yY,rfl,Tc,Fa⟩,rfl⟩,hp1⟩:=xE.at bJ hi1.1 hi1.2
    refine rs (Value.pointer (some ⟨rb1,aC.toNat*2+0,none⟩)) (lX (sz:=2) X Hz X hi1.1 hi1.2 B7 C1)<|rs (Value.agg #[vL xW ((rd bJ lI aC).vt.au).length yY,vI ((rd bJ lI aC).vi)]) (aT (cs:=sN) (n:=2) (vs:=[vL xW ((rd bJ lI aC).vt.au).length yY,vI ((rd bJ lI aC).vi)]) X Tryz.isAgg96 (HS5.ES 6 X Hz) C1 (RX hp1 X) X)<|dF X X (dO (cs:=#[vL none 0 0,vI 0]) Cy X) ?_
    rintro w5 _ hE4 ⟨b4,rfl,ge4,hb4⟩
    have HS6:=HS5.new hE4 ge4 hb4
    refine gJ (i:=0) (cs:=[vL none 0 0,vI 0]) (cs':=[vL xW ((rd bJ lI aC).vt.au).length yY,vI ((rd bJ lI aC).vi)]) (vs:=[vL xW ((rd bJ lI aC).vt.au).length yY,vI ((rd bJ lI aC).vi)]) (bs':=((some b4, .cells #[vL xW ((rd bJ lI aC).vt.au).length yY,vI ((rd bJ lI aC).vi)] 96 (0,0))::(fC, .cells (eH).toArray 58 (0,0))::(some b3, .cells #[vL (rowA fC) dG.length jv] 24 (0,0))::(some b2, .cells #[vL none 0 0] 24 (0,0))::(some b1, .cells #[vP bp0 0] 63 (0,0))::(some bp0, .cells #[Value.map (some oM),vL (rowA oh) lI.length xH] 67 (0,0))::(some oM, .map uo uq)::(oh, .cells (sN).toArray 96 (0,0))::rest)) X X C1 X X (by decide) X HS6 X (Ax X) X X ?_
    intro w6 HS7
    try simp only [sc0,sc1]
    refine aB<|ay<|mg [([15,16,17,18,19,20,21,22,23,24],[0,1,2,3,4,5,6,7,8,9]),([],[0,1]),([],[0,1]),([28],[13]),([],[])] [10,11,12,14] [[],[0],[],[2],[2,3],[],[5],[2,3,4,5,6],[2,3,4,5,6,7],[],[2,3,4,5,6,7,8,9],[2,3,4,5,6,7,8,9,10],[0,1,2,3,4,5,6,7,8,9,10,11],[0,1,2,3,4,5,6,7,8,9,10,11,12],[0,1,2,3,4,5,6,7,8,9,10,11,12,13]] rM (by kernel_rfl) ?_
    intro w7 hE5
    have HS8:=HS7.step hE5
    obtain ⟨hi2,H⟩:=dN H
    obtain ⟨ad1,dU,dY,e1,mJ,jS,iY⟩:=gK Fa hi2.1 hi2.2
    refine iR [vP b3 0,vL (rowA fC) dG.length jv,vP b4 0,vP b4 0,vL xW ((rd bJ lI aC).vt.au).length yY,vP b4 1,vI ((rd bJ lI aC).vi),Value.pointer (some (Addr.add ad1 (((rd bJ lI aC).vi).toNat*7))),Value.agg #[vI ((rd ah ((rd bJ lI aC).vt.au) ((rd bJ lI aC).vi)).aA),vS ((rd ah ((rd bJ lI aC).vt.au) ((rd bJ lI aC).vi)).aF),vI ((rd ah ((rd bJ lI aC).vt.au) ((rd bJ lI aC).vi)).aY.aU),vB ((rd ah ((rd bJ lI aC).vt.au) ((rd bJ lI aC).vi)).aY.aJ),vI ((rd ah ((rd bJ lI aC).vt.au) ((rd bJ lI aC).vi)).bY),vI ((rd ah ((rd bJ lI aC).vt.au) ((rd bJ lI aC).vi)).vN),vL dU ((rd ah ((rd bJ lI aC).vt.au) ((rd bJ lI aC).vi)).ak).length dY],Value.func (.func 51) #[] #[vP b1 0,vP b4 0]] ?_ X X ?_
    ·try simp only [patch,sc0,sc1]
     exact bF (bG (v:=vP b3 0) X X X X (aH (n:=1) (o':=0) X AE X AM (by decide) X)) (bF (bG (v:=vL (rowA fC) dG.length jv) X X X X (aN X AR (HS8.look 2 X) X)) (bF (bG (v:=vP b4 0) X X X X (aH (n:=1) (o':=0) X Cq X AD (by decide) X)) (bF (bG (v:=vP b4 0) X X X X (aH (n:=1) (o':=0) X AE X AM (by decide) X)) (bF (bG (v:=vL xW ((rd bJ lI aC).vt.au).length yY) X X X X (aN X AR (HS8.look 0 X) X)) (bF (bG (v:=vP b4 1) X X X X (aH (n:=1) (o':=1) X Cq X As (by decide) X)) (bF (bG (v:=vI ((rd bJ lI aC).vi)) X X X X (aN X AC (HS8.look 0 X) X)) (bF (bG (v:=Value.pointer (some (Addr.add ad1 (((rd bJ lI aC).vi).toNat*7)))) X X X X (dP (sz:=7) X e1 X hi2.1 hi2.2 AF AH)) (bF (bG (v:=Value.agg #[vI ((rd ah ((rd bJ lI aC).vt.au) ((rd bJ lI aC).vi)).aA),vS ((rd ah ((rd bJ lI aC).vt.au) ((rd bJ lI aC).vi)).aF),vI ((rd ah ((rd bJ lI aC).vt.au) ((rd bJ lI aC).vi)).aY.aU),vB ((rd ah ((rd bJ lI aC).vt.au) ((rd bJ lI aC).vi)).aY.aJ),vI ((rd ah ((rd bJ lI aC).vt.au) ((rd bJ lI aC).vi)).bY),vI ((rd ah ((rd bJ lI aC).vt.au) ((rd bJ lI aC).vi)).vN),vL dU ((rd ah ((rd bJ lI aC).vt.au) ((rd bJ lI aC).vi)).ak).length dY]) X X X X (gG X A7 (mJ.sees HS8.sees) AH)) (bF (bG (v:=Value.func (.func 51) #[] #[vP b1 0,vP b4 0]) X X X X (qC (vs:=[vP b1 0,vP b4 0]) X)) (iH))))))))))
    try simp only [patch,sc0,sc1]
    obtain ⟨v1,H1,H⟩:=bn H
    refine dF X X (iQ Tryz.call27 X (jX (h:=h1) (R:=(fun hx u=>∃(kQ:Option Addr) (kR:Nat),u=Value.agg #[vI v1.aA,vS v1.aF,vI v1.aY.aU,vB v1.aY.aJ,vI v1.bY,vI v1.vN,vL kQ v1.ak.length kR]∧v1.ak.length≤kR∧Rd dw hx kQ v1.ak)) (Ext.rfl' w7) ((jI.calls k (rd ah ((rd bJ lI aC).vt.au) ((rd bJ lI aC).vi)) (fun z0=>kM.f k z0 HY (rd bJ lI aC)) dU dY 51 [vP b1 0,vP b4 0] HS8.sees iY jS Tryz.call51 (fun z0 h w hE hs hv r H=>kM.calls k z0 HY (rd bJ lI aC) b1 bp0 oM uo uq (vL (rowA oh) lI.length xH) b4 xW yY hv ((ht.s HS8).e hE) Nj (kD (HS8.look 6 X) hE) (kD (HS8.look 5 X) hE) (kD (HS8.look 4 X) hE) (Fa.ext hs) Tc (kD (HS8.look 0 X) hE) H) H1).mono ?_)) X) ?_
    ·rintro _ _ ⟨h1,kQ,kR,rfl,wO,wP,g,ss,x⟩
     exact ⟨h1,_,X,⟨kQ,kR,X,wO,wP⟩,g,ss,x⟩
    rintro w8 _ hE6 ⟨h2,⟨kQ,kR,rfl,wO,wP⟩,gr1,se1⟩
    have HS9:=HS8.view hE6 gr1 se1
    replace hsub:Sub h h2:=hsub.then gr1.1
    replace Fa:Rd bI h2 xW ((rd bJ lI aC).vt.au):=Fa.ext gr1.1
    replace mJ:mM h2 (Addr.add ad1 (((rd bJ lI aC).vi).toNat*7)) [vI ((rd ah ((rd bJ lI aC).vt.au) ((rd bJ lI aC).vi)).aA),vS ((rd ah ((rd bJ lI aC).vt.au) ((rd bJ lI aC).vi)).aF),vI ((rd ah ((rd bJ lI aC).vt.au) ((rd bJ lI aC).vi)).aY.aU),vB ((rd ah ((rd bJ lI aC).vt.au) ((rd bJ lI aC).vi)).aY.aJ),vI ((rd ah ((rd bJ lI aC).vt.au) ((rd bJ lI aC).vi)).bY),vI ((rd ah ((rd bJ lI aC).vt.au) ((rd bJ lI aC).vi)).vN),vL dU ((rd ah ((rd bJ lI aC).vt.au) ((rd bJ lI aC).vi)).ak).length dY]:=mJ.sub gr1.1
    replace iY:Rd dw h2 dU ((rd ah ((rd bJ lI aC).vt.au) ((rd bJ lI aC).vi)).ak):=iY.ext gr1.1
    replace iE:=iE.view gr1.1
    replace xE:=xE.view gr1.1
    refine lY ?_
    try simp only [sc0,sc1]
    refine iR [] ?_ X X ?_
    ·try simp only [patch,sc0,sc1]
     exact bF (bG (v:=vP b3 0) X X X X (aH (n:=1) (o':=0) X AE X AM (by decide) X)) (bF (bG (v:=vL (rowA fC) dG.length jv) X X X X (aN X AR (HS9.look 2 X) X)) (iH))
    try simp only [patch,sc0,sc1]
    refine ng bI (xs:=([v1]:List aZ)) (n:=1) (cs:=[vI v1.aA,vS v1.aF,vI v1.aY.aU,vB v1.aY.aJ,vI v1.bY,vI v1.vN,vL kQ v1.ak.length kR]) AF B0 A9 X X (by decide) (by decide) (by decide) [Value.agg #[vI v1.aA,vS v1.aF,vI v1.aY.aU,vB v1.aY.aJ,vI v1.bY,vI v1.vN,vL kQ v1.ak.length kR]] (jd.trans X) X X X X (fH (qs:=[vI v1.aA,vS v1.aF,vI v1.aY.aU,vB v1.aY.aJ,vI v1.bY,vI v1.vN,vL kQ v1.ak.length kR]) ⟨[vI v1.aA],[vS v1.aF,vI v1.aY.aU,vB v1.aY.aJ,vI v1.bY,vI v1.vN,vL kQ v1.ak.length kR],X,X,⟨[vS v1.aF],[vI v1.aY.aU,vB v1.aY.aJ,vI v1.bY,vI v1.vN,vL kQ v1.ak.length kR],X,X,⟨[vI v1.aY.aU,vB v1.aY.aJ],[vI v1.bY,vI v1.vN,vL kQ v1.ak.length kR],X,⟨[vI v1.aY.aU],[vB v1.aY.aJ],X,X,X⟩,⟨[vI v1.bY],[vI v1.vN,vL kQ v1.ak.length kR],X,X,⟨[vI v1.vN],[vL kQ v1.ak.length kR],X,X,⟨kQ,kR,X,wO,wP⟩⟩⟩⟩⟩⟩ (jc (cs:=[]))) HS9 ?_
    intro w9 b5 kF ho1
    refine lY ?_
    try simp only [sc0,sc1]
    refine iR [] ?_ X X ?_
    ·try simp only [patch,sc0,sc1]
     exact bF (bG (v:=vP b3 0) X X X X (aH (n:=1) (o':=0) X AE X AM (by decide) X)) (bF (bG (v:=vL (rowA fC) dG.length jv) X X X X (aN X AR (kF.look 3 X) X)) (iH))
    try simp only [patch,sc0,sc1]
    obtain ⟨hl1,H⟩:=dN H
    refine oD bI (q:=2) (cs:=eH) X X AF B0 A9 X (by decide) X (ni AF kF (i:=0) X ho1 X) ho1.len (iC ho1) hl1 kF X iE ?_
    intro w10 ob1 c2 cs1 oC ho2
    refine lY ?_
    try simp only [sc0,sc1]
    refine iR [vP b3 0] ?_ X X ?_
    ·try simp only [patch,sc0,sc1]
     exact bF (bG (v:=vP b3 0) X X X X (aH (n:=1) (o':=0) X AE X AM (by decide) X)) (iH)
    try simp only [patch,sc0,sc1]
    refine gJ (i:=3) (cs:=[vL (rowA fC) dG.length jv]) (cs':=[vL (rowA ob1) (dG.length+1) c2]) (vs:=[vL (rowA ob1) (dG.length+1) c2]) (bs':=(((some b5), .cells ([vI v1.aA,vS v1.aF,vI v1.aY.aU,vB v1.aY.aJ,vI v1.bY,vI v1.vN,vL kQ v1.ak.length kR]).toArray 58 (0,0))::(some b4, .cells #[vL xW ((rd bJ lI aC).vt.au).length yY,vI ((rd bJ lI aC).vi)] 96 (0,0))::(ob1, .cells (cs1).toArray 58 (0,0))::(some b3, .cells #[vL (rowA ob1) (dG.length+1) c2] 24 (0,0))::(some b2, .cells #[vL none 0 0] 24 (0,0))::(some b1, .cells #[vP bp0 0] 63 (0,0))::(some bp0, .cells #[Value.map (some oM),vL (rowA oh) lI.length xH] 67 (0,0))::(some oM, .map uo uq)::(oh, .cells (sN).toArray 96 (0,0))::rest)) X X AM X X (by decide) X oC X (Ax X) X X ?_
    intro w11 mW
    refine lY ?_
    try simp only [sc0,sc1]
    refine nU [] ?_ ?_
    ·try simp only [patch,sc0,sc1]
     exact iH
    try simp only [patch,sc0,sc1]
    refine dD<|ay<|Ao<|rs (vI (w64 (aC+1))) (bW X X X)<|rs (vI (w64 (aC+1))) (aO X) ?_
    try simp only [sc0,sc1]
    refine aB ?_
    have qx:St [] h0 w0 h2 (((some b5), .cells ([vI v1.aA,vS v1.aF,vI v1.aY.aU,vB v1.aY.aJ,vI v1.bY,vI v1.vN,vL kQ v1.ak.length kR]).toArray 58 (0,0))::(some b4, .cells #[vL xW ((rd bJ lI aC).vt.au).length yY,vI ((rd bJ lI aC).vi)] 96 (0,0))::(ob1, .cells (cs1).toArray 58 (0,0))::(some b3, .cells #[vL (rowA ob1) ((dG++([v1]:List aZ)).length) c2] 24 (0,0))::(some b2, .cells #[vL none 0 0] 24 (0,0))::(some b1, .cells #[vP bp0 0] 63 (0,0))::(some bp0, .cells #[Value.map (some oM),vL (rowA oh) lI.length xH] 67 (0,0))::(some oM, .map uo uq)::(oh, .cells (sN).toArray 96 (0,0))::rest) w11:=mW.cast (by first|rfl|(rw [ho2.len];done)|(rw [ho2.len];rfl))
    have ho3:=ho2.norm
    refine gI m (Nat.lt_succ_self m) X ⟨(w64 (aC+1)),(dG++([v1]:List aZ)),h2,ob1,c2,cs1,(fit (by first|rfl|(rw [ho2.len];done)|(rw [ho2.len];rfl))),H,ho3.norm,hsub,xE,qx.tail.tail⟩
   ·replace H:=cO H (nt c1)
    refine Bx<|eU ?_
    obtain rfl:=Ab H
    refine iK X ⟨h1,fC,jv,eH,(fit X),iE.norm,hsub,xE,HS5⟩
 ·rintro us w12 ⟨h3,eP,jo,iw,nP,jr,hsub,xE,ru⟩
  obtain ⟨uo1,rfl⟩:=unj nP
  replace H:=G1
  clear G1
  try simp only [patch,sc0,sc1]
  refine ay<|Al<|Ao<|rs (Value.agg #[vL (rowA eP) xx1.length jo]) (aT (n:=1) (vs:=[vL (rowA eP) xx1.length jo]) X AI (ru.look 1 X) AD X X)<|gJ (i:=2) (cs:=[vL none 0 0]) (cs':=[vL (rowA eP) xx1.length jo]) (vs:=[vL (rowA eP) xx1.length jo]) (bs':=((eP, .cells (iw).toArray 58 (0,0))::(some b3, .cells #[vL (rowA eP) xx1.length jo] 24 (0,0))::(some b2, .cells #[vL (rowA eP) xx1.length jo] 24 (0,0))::(some b1, .cells #[vP bp0 0] 63 (0,0))::(some bp0, .cells #[Value.map (some oM),vL (rowA oh) lI.length xH] 67 (0,0))::(some oM, .map uo uq)::(oh, .cells (sN).toArray 96 (0,0))::rest)) X X AD X X (by decide) X ru X (Ax X) X X ?_
  intro w13 sW
  try simp only [sc0,sc1]
  refine aB<|ay<|AT ?_
  obtain rfl:=Ab H
  refine Ay (bD X (kY X AI (sW.look 2 X) AD X)) X ?_
  obtain ⟨h4,sH,hs1,oV⟩:=lC sW (i:=0) rfl jr
  have uQ:St [] h0 w0 h4 ((some b3, .cells #[vL (rowA eP) xx1.length jo] 24 (0,0))::(some b2, .cells #[vL (rowA eP) xx1.length jo] 24 (0,0))::(some b1, .cells #[vP bp0 0] 63 (0,0))::(some bp0, .cells #[Value.map (some oM),vL (rowA oh) lI.length xH] 67 (0,0))::(some oM, .map uo uq)::(oh, .cells (sN).toArray 96 (0,0))::rest) w13:=sH
  replace hsub:Sub h h4:=hsub.then hs1
  replace xE:=xE.view hs1
  have xU:=uQ.d2
  have zM:=xU.d1
  have zl:=zM.d0
  exact ⟨h4,(rowA eP),jo,X,jr.cap,oV,hsub,zl⟩
def lg.f (k:Nat) (a0:aQ):Option (aQ×(List Int)×Int):=(dH.f k a0).bind fun v1=>(if (!v1)=true then (some ((⟨[]⟩:aQ),([]:List Int),80)) else ((fG.f k ([]:List (ByteArray×Int)) ([]:List dR) a0).bind fun v2=>((gZ.f k v2.2.1 v2.2.2).bind fun v3=>(some (v3,v2.1,0)))))
theorem lg.calls (k:Nat) (a0:aQ) (bQ:Option Addr) (bT:Nat) {h0:View} {w0:World} (hv:lS h0 w0) (ht:Tab w0) (fK:Rd bI h0 bQ a0.au) (iF:a0.au.length≤bT) {r:aQ×(List Int)×Int} (H:lg.f k a0=some r):Calls Tryz.prog 5 #[Value.agg #[vL bQ a0.au.length bT]] w0 (fun e w1=>∃(h1:View) (bQ:Option Addr) (bT:Nat) (iM:Option Addr) (iO:Nat),e= .returned (Value.tuple #[Value.agg #[vL bQ r.1.au.length bT],vL iM r.2.1.length iO,vI r.2.2])∧r.1.au.length≤bT∧Rd bI h1 bQ r.1.au∧r.2.1.length≤iO∧Rd (Kd.int .i64) h1 iM r.2.1∧Gr w0.heap.size h0 h1∧lS h1 w1∧Ext w0 w1):=by
 unfold lg.f at H
 have HS:St [] h0 w0 h0 [] w0:=St.init hv
 go_enter Tryz.func5,Tryz.ntmps5
 refine Al<|Ao<|dF X X (eF (cs:=#[vL bQ a0.au.length bT]) X X) ?_
 rintro w1 _ hE1 ⟨b1,rfl,ge1,hb1⟩
 have HS1:=HS.new hE1 ge1 hb1
 refine dF X X (dO (cs:=#[vL none 0 0]) Bp X) ?_
 rintro w2 _ hE2 ⟨b2,rfl,ge2,hb2⟩
 have HS2:=HS1.new hE2 ge2 hb2
 refine rs (vL none 0 0) (aG X)<|rs (vI 0) (aG X) ?_
 try simp only [sc0,sc1]
 refine aB<|ay<|Al<|Al<|Ao<|rs (Value.agg #[vL bQ a0.au.length bT]) (aT (n:=1) (vs:=[vL bQ a0.au.length bT]) X AI (HS2.look 1 X) AD X X) ?_
 obtain ⟨v1,H1,H⟩:=bn H
 refine run_eq (v:=vB v1) X X (bC Cu X X (dH.calls k a0 bQ bT HS2.sees fK iF H1)) ?_
 intro w3 hE3
 have HS3:=HS2.step hE3
 refine rs (vB (!v1)) (mZ X) ?_
 try simp only [sc0,sc1]
 refine aB<|ay<|Av (t:=(!v1)) X (fun c1=>?_) (fun c1=>?_)
 ·replace H:=bU H c1
  refine Al<|Ao<|rs (Value.agg #[vL none 0 0]) (qj (cs:=[vL none 0 0]) Bp AE (pl:=#[(0,1)]) (fun w=>by simp [Tryz.sizeOf22]) X) ?_
  refine gJ (i:=0) (cs:=[vL none 0 0]) (cs':=[vL none 0 0]) (vs:=[vL none 0 0]) (bs':=[(some b2, .cells #[vL none 0 0] 24 (0,0)),(some b1, .cells #[vL bQ a0.au.length bT] 24 (0,0))]) X X AD X X (by decide) X HS3 X (Ax X) X X ?_
  intro w4 HS4
  refine rs (vL none 0 0) (aG X)<|rs (vI 80) (aG X) ?_
  try simp only [sc0,sc1]
  refine aB<|ay<|AT<|bP ?_
  obtain rfl:=Ab H
  exact Ay (qg X (kY X AI (HS4.look 0 X) AD X) (bK X) (bK X)) X<|⟨h0,none,0,none,0,X,(Nat.le_refl 0),(Rd.nil _ _ _),(Nat.le_refl 0),(Rd.nil _ _ _),HS4.gr,HS4.sees,HS4.toE⟩
 ·replace H:=cO H (nt c1)
  refine AN<|ay<|Al<|Ao<|uj HS3 ?_
  intro w5 b3 HS5
  refine rs (Value.agg #[Value.map (some b3),vL none 0 0]) (jy (cs:=[Value.map (some b3),vL none 0 0]) (ps:=[(0,Value.map (some b3))]) C_ BV (pl:=#[(0,1),(1,1)]) (fun w=>by simp [Tryz.sizeOf64,Tryz.sizeOf65]) (pq (show _=Value.map (some b3) from X)) X) ?_
  refine dF X X (eF (cs:=#[Value.map (some b3),vL none 0 0]) X X) ?_
  rintro w6 _ hE4 ⟨b4,rfl,ge3,hb3⟩
  have HS6:=HS5.new hE4 ge3 hb3
  refine rs (vP b4 0) (aG X) ?_
  try simp only [sc0,sc1]
  refine aB<|ay<|Al<|Ao<|rs (vP b4 0) (aO X)<|rs (Value.agg #[vL bQ a0.au.length bT]) (aT (n:=1) (vs:=[vL bQ a0.au.length bT]) X AI (HS6.look 3 X) AD X X) ?_
  obtain ⟨v2,H2,H⟩:=bn H
  have HS7:=HS6.nothing (.cells ([]:List Value).toArray 96 (0,0))
  have HS8:=HS7.f2
  have HS9:=HS8.f2
  refine jJ (vs:=[vP b4 0,Value.agg #[vL bQ a0.au.length bT]]) (caps:=[]) Db X X (fG.calls k ([]:List (ByteArray×Int)) ([]:List dR) a0 b4 b3 (#[]) 0 none 0 ([]:List Value) bQ bT HS9 ht (oG.nil) (gU.none' lq _) fK iF H2) ?_
  rintro _ w7 ⟨Dp,JC,Td,Gw,Gx,Dq,JD,Gy,rfl,Fb,Nw,xX,kF⟩
  refine ⟨_,X,?_⟩
  have oC:=kF.f5
  have mW:=oC.f5
  have qx:=mW.f4
  have ru:=qx.f4
  have sW:=ru.f5
  have sH:=sW.f5
  refine rs (vL (rowA Dp) v2.1.length JC) (aG X) ?_
  try simp only [sc0,sc1]
  refine aB<|ay<|Al<|Ao<|rs (vP b4 0) (aO X) ?_
  obtain ⟨v3,H3,H⟩:=bn H
  have uQ:=sH.f1
  have xU:=uQ.f3
  have zM:=xU.f3
  refine jJ (vs:=[vP b4 0]) (caps:=[]) Tryz.call22 X X (gZ.calls k v2.2.1 v2.2.2 b4 b3 Gw Gx Dq JD Gy zM ht Nw xX H3) ?_
  rintro _ w8 ⟨h1,zV,BZ,rfl,Ny,Dt,hs2,zl⟩
  refine ⟨_,X,?_⟩
  replace xX:=xX.view hs2
  replace Fb:=Fb.view hs2
  have zN:=zl.f5
  have Bf:=zN.f5
  have zO:=Bf.f3
  have BX:=zO.f3
  have BI:=BX.f4
  have AL:=BI.f5
  refine rs (vL (rowA Dp) v2.1.length JC) (aO X)<|gJ (i:=4) (cs:=[vL none 0 0]) (cs':=[vL zV v3.au.length BZ]) (vs:=[vL zV v3.au.length BZ]) (bs':=[(Dp, .cells (Td).toArray 3 (0,0)),(Dq, .cells (Gy).toArray 96 (0,0)),(some b4, .cells #[Value.map (some b3),vL (rowA Dq) v2.2.2.length JD] 67 (0,0)),(some b3, .map Gw Gx),(some b2, .cells #[vL zV v3.au.length BZ] 24 (0,0)),(some b1, .cells #[vL bQ a0.au.length bT] 24 (0,0))]) X X AD X X (by decide) X AL X (Ax X) X X ?_
  intro w9 yX
  refine aK (by simp only [sc0,sc1];rfl) ?_
  refine rs (vL (rowA Dp) v2.1.length JC) (aG X)<|rs (vI 0) (aG X) ?_
  try simp only [sc0,sc1]
  refine aB<|ay<|AT ?_
  obtain rfl:=Ab H
  refine Ay (qg X (kY X AI (yX.look 4 X) AD X) (bK X) (bK X)) X ?_
  obtain ⟨h2,Bh,hs3,oV⟩:=lC yX (i:=0) rfl Fb
  replace xX:=xX.view hs3
  replace Dt:Rd bI h2 zV v3.au:=Dt.ext hs3
  exact ⟨h2,zV,BZ,(rowA Dp),JC,X,Ny,Dt,Fb.cap,oV,Bh.gr,Bh.sees,Bh.toE⟩
def eX.l0 (a0:List bf) (a1:List bf):Nat→Int→Option ((Bool)⊕(Unit))
 |0,_=>none
 |m+1,aC=>if (decide (aC<(a0.length:Int)))=true then (if 0≤aC∧aC<a0.length then (if 0≤aC∧aC<a1.length then (if (!((strEq ((rd aj a0 aC).aF) ((rd aj a1 aC).aF))&&(((rd aj a0 aC).vType==(rd aj a1 aC).vType)&&(((rd aj a0 aC).vAt==(rd aj a1 aC).vAt)&&true))))=true then (some (.inl false)) else (eX.l0 a0 a1 m (IntKind.wrap .i64 (aC+1)))) else none) else none) else (some (.inr ()))
def eX.f (k:Nat) (a0:List bf) (a1:List bf):Option (Bool):=if ((a0.length:Int) !=(a1.length:Int))=true then (some false) else ((eX.l0 a0 a1 k 0).bind fun xx1=>(match xx1 with| .inl r=>some r| .inr s1=>some true))
theorem eX.calls (k:Nat) (a0:List bf) (a1:List bf) (bQ:Option Addr) (bT:Nat) (iM:Option Addr) (iO:Nat) {h0:View} {w0:World} (hv:lS h0 w0) (fK:Rd dw h0 bQ a0) (iF:a0.length≤bT) (kX:Rd dw h0 iM a1) (pK:a1.length≤iO) {r:Bool} (H:eX.f k a0 a1=some r):Calls Tryz.prog 66 #[vL bQ a0.length bT,vL iM a1.length iO] w0 (fun e w1=>e= .returned (vB r)∧Ext w0 w1):=by
 unfold eX.f at H
 have HS:St [] h0 w0 h0 [] w0:=St.init hv
 go_enter Tryz.func66,Tryz.ntmps66
 refine Al<|Ao<|rs (vB false) (aG X) ?_
 try simp only [sc0,sc1]
 refine aB<|ay<|Al<|Al<|Ao<|rs (vL bQ a0.length bT) (aO X)<|rs (vI (a0.length:Int)) (jD X AK)<|rs (vL iM a1.length iO) (aO X)<|rs (vI (a1.length:Int)) (jD X AK)<|aK (by simp only [sc0,sc1];rfl) ?_
 refine rs (vB ((a0.length:Int) !=(a1.length:Int))) (bW X X X) ?_
 try simp only [sc0,sc1]
 refine aB<|ay<|Av (t:=((a0.length:Int) !=(a1.length:Int))) X (fun c1=>?_) (fun c1=>?_)
 ·replace H:=bU H c1
  refine Al<|Ao<|rs (vB false) (aG X) ?_
  try simp only [sc0,sc1]
  refine aB<|ay<|AT<|bP ?_
  obtain rfl:=Ab H
  exact Ay (bD X (bK X)) X<|⟨X,HS.toE⟩
 ·replace H:=cO H (nt c1)
  refine AN<|ay<|Al<|Al<|Ao<|rs (vI 0) (aG X) ?_
  try simp only [sc0,sc1]
  refine aB<|ay ?_
  obtain ⟨xx1,H,G1⟩:=bn H
  refine jB [4,5,11,12,13,14,15,16,17,18,19,20,21,22,23,24,25] (fun m us w'=>∃(aC:Int),Fit us (fun uy1=>[(uy1 0),vI aC,(uy1 2),(uy1 3),(uy1 4),(uy1 5),(uy1 6),(uy1 7),(uy1 8),(uy1 9),(uy1 10),(uy1 11),(uy1 12),(uy1 13),(uy1 14),(uy1 15),(uy1 16)])∧eX.l0 a0 a1 m aC=some xx1∧St [] h0 w0 h0 [] w') (fun us w'=>∃(s1:Unit),xx1= .inr s1∧Fit us (fun uo1=>[(uo1 0),(uo1 1),(uo1 2),(uo1 3),(uo1 4),(uo1 5),(uo1 6),(uo1 7),(uo1 8),(uo1 9),(uo1 10),(uo1 11),(uo1 12),(uo1 13),(uo1 14),(uo1 15),(uo1 16)])∧St [] h0 w0 h0 [] w') k ⟨0,(fit X),H,HS⟩ ?_ ?_
  ·rintro m us w1 ⟨aC,nO,H,HS1⟩
   obtain ⟨uy1,rfl⟩:=unj nO
   cases m with
   |zero=>exact absurd H (by simp [eX.l0])
   |succ m=>
    rw [eX.l0] at H
    try simp only [patch,sc0,sc1]
    refine Al<|Al<|Ao<|rs (vI aC) (aO X)<|rs (vL bQ a0.length bT) (aO X)<|rs (vI (a0.length:Int)) (jD X AK)<|rs (vB (decide (aC<(a0.length:Int)))) (bW X X X) ?_
    try simp only [sc0,sc1]
    refine aB<|ay<|Av (t:=(decide (aC<(a0.length:Int)))) X (fun c2=>?_) (fun c2=>?_)
    ·replace H:=bU H c2
     refine AN<|ay<|Al<|wp_block<|Al ?_
     obtain ⟨hi1,H⟩:=dN H
     obtain ⟨ad1,e1,mJ⟩:=ji fK hi1.1 hi1.2
     obtain ⟨hi2,H⟩:=dN H
     obtain ⟨ad2,e2,tN⟩:=ji kX hi2.1 hi2.2
     refine drawn [.eq (vL bQ a0.length bT), .eq (vI aC), .eq (Value.pointer (some (Addr.add ad1 (aC.toNat*3)))), .eq (Value.agg #[vS ((rd aj a0 aC).aF),vI ((rd aj a0 aC).vType),vI ((rd aj a0 aC).vAt)]), .eq (vL iM a1.length iO), .eq (vI aC), .eq (Value.pointer (some (Addr.add ad2 (aC.toNat*3)))), .eq (Value.agg #[vS ((rd aj a1 aC).aF),vI ((rd aj a1 aC).vType),vI ((rd aj a1 aC).vAt)]), .eq (vB (!((strEq ((rd aj a0 aC).aF) ((rd aj a1 aC).aF))&&(((rd aj a0 aC).vType==(rd aj a1 aC).vType)&&(((rd aj a0 aC).vAt==(rd aj a1 aC).vAt)&&true)))))] [17,18,19,20,21,22,23,24,25] rM (by kernel_rfl) X (aP (aP (aP (aP (aP (aP (aP (aP (aP iJ))))))))) ⟨aX X (fun a' w' hE hk=>by exact aW (aO (show _=vL bQ a0.length bT from hk 0 X))),aX X (fun a' w' hE hk=>by exact aW (aO (show _=vI aC from hk 5 X))),aX X (fun a' w' hE hk=>by exact aW (dP (sz:=3) (show _=vL bQ a0.length bT from hk 17 X) e1 (show _=vI aC from hk 18 X) hi1.1 hi1.2 AK AS)),aX X (fun a' w' hE hk=>by exact aW (gG (show _=Value.pointer (some (Addr.add ad1 (aC.toNat*3))) from hk 19 X) BC (mJ.sees (HS1.step hE).sees) AS)),aX X (fun a' w' hE hk=>by exact aW (aO (show _=vL iM a1.length iO from hk 1 X))),aX X (fun a' w' hE hk=>by exact aW (aO (show _=vI aC from hk 5 X))),aX X (fun a' w' hE hk=>by exact aW (dP (sz:=3) (show _=vL iM a1.length iO from hk 21 X) e2 (show _=vI aC from hk 22 X) hi2.1 hi2.2 AK AS)),aX X (fun a' w' hE hk=>by exact aW (gG (show _=Value.pointer (some (Addr.add ad2 (aC.toNat*3))) from hk 23 X) BC (tN.sees (HS1.step hE).sees) AS)),aX X (fun a' w' hE hk=>by exact aW (BO (show _=Value.agg #[vS ((rd aj a0 aC).aF),vI ((rd aj a0 aC).vType),vI ((rd aj a0 aC).vAt)] from hk 20 X) (show _=Value.agg #[vS ((rd aj a1 aC).aF),vI ((rd aj a1 aC).vType),vI ((rd aj a1 aC).vAt)] from hk 24 X) Tryz.eqGuardType48 (Az Tryz.stoodInHeld48 C3 (pJ (by decide) (jR Be X) (jR Be X) (RV Da) (pJ (by decide) (jR AC X) (jR AC X) (zf B9) (pJ (by decide) (jR AC X) (jR AC X) (zf B9) Aw)))))),trivial⟩ ?_
     intro w2 hE1
     simp only [List.zip_cons_cons,List.zip_nil_left,List.zip_nil_right,vO,sc0,sc1,List.length_cons,List.length_nil,List.drop_succ_cons,List.drop_zero,Nat.zero_add,Nat.reduceAdd]
     have HS2:=HS1.step hE1
     refine aB<|ay<|Av (t:=(!((strEq ((rd aj a0 aC).aF) ((rd aj a1 aC).aF))&&(((rd aj a0 aC).vType==(rd aj a1 aC).vType)&&(((rd aj a0 aC).vAt==(rd aj a1 aC).vAt)&&true))))) X (fun c3=>?_) (fun c3=>?_)
     ·replace H:=bU H c3
      refine Al<|Ao<|rs (vB false) (aG X) ?_
      try simp only [sc0,sc1]
      refine aB<|ay<|AT<|fA<|bP<|jm<|bP ?_
      obtain rfl:=Ab H
      obtain rfl:=Ab G1
      exact Ay (bD X (bK X)) X<|⟨X,HS2.toE⟩
     ·replace H:=cO H (nt c3)
      refine AN<|dD<|ay<|Ao<|rs (vI aC) (aO X)<|rs (vI (w64 (aC+1))) (bW X X X)<|rs (vI (w64 (aC+1))) (aG X) ?_
      try simp only [sc0,sc1]
      refine aB<|gI m (Nat.lt_succ_self m) X ⟨(w64 (aC+1)),(fit X),H,HS2⟩
    ·replace H:=cO H (nt c2)
     refine Bx<|eU ?_
     obtain rfl:=Ab H
     refine iK X ⟨_,X,(fit X),HS1⟩
  ·rintro us w3 ⟨s1,rfl,nP,HS3⟩
   obtain ⟨uo1,rfl⟩:=unj nP
   replace H:=G1
   clear G1
   try simp only [patch,sc0,sc1]
   refine ay<|Al<|Ao<|rs (vB true) (aG X) ?_
   try simp only [sc0,sc1]
   refine aB<|ay<|AT ?_
   obtain rfl:=Ab H
   exact Ay (bD X (bK X)) X<|⟨X,HS3.toE⟩
def jC.f (k:Nat) (a0:aZ) (a1:aZ):Option (Bool):=(if (true&&((((((a0.aA==a1.aA)&&(strEq a0.aF a1.aF))&&((a0.aY.aU==a1.aY.aU)&&((a0.aY.aJ==a1.aY.aJ)&&true)))&&(a0.bY==a1.bY))&&(a0.vN==a1.vN))==true))=true then eX.f k a0.ak a1.ak else some false).bind fun v1=>(some ((((((a0.aA==a1.aA)&&(strEq a0.aF a1.aF))&&((a0.aY.aU==a1.aY.aU)&&((a0.aY.aJ==a1.aY.aJ)&&true)))&&(a0.bY==a1.bY))&&(a0.vN==a1.vN))&&v1))
theorem jC.calls (k:Nat) (a0:aZ) (a1:aZ) (kG:Option Addr) (kH:Nat) (rG:Option Addr) (rH:Nat) {h0:View} {w0:World} (hv:lS h0 w0) (sV:Rd dw h0 kG a0.ak) (wL:a0.ak.length≤kH) (AU:Rd dw h0 rG a1.ak) (Du:a1.ak.length≤rH) {r:Bool} (H:jC.f k a0 a1=some r):Calls Tryz.prog 39 #[Value.agg #[vI a0.aA,vS a0.aF,vI a0.aY.aU,vB a0.aY.aJ,vI a0.bY,vI a0.vN,vL kG a0.ak.length kH],Value.agg #[vI a1.aA,vS a1.aF,vI a1.aY.aU,vB a1.aY.aJ,vI a1.bY,vI a1.vN,vL rG a1.ak.length rH]] w0 (fun e w1=>e= .returned (vB r)∧Ext w0 w1):=by
 unfold jC.f at H
 have HS:St [] h0 w0 h0 [] w0:=St.init hv
 go_enter Tryz.func39,Tryz.ntmps39
 refine Al<|Ao<|dF X X (eF (cs:=#[vI a0.aA,vS a0.aF,vI a0.aY.aU,vB a0.aY.aJ,vI a0.bY,vI a0.vN,vL kG a0.ak.length kH]) X X) ?_
 rintro w1 _ hE1 ⟨b1,rfl,ge1,hb1⟩
 have HS1:=HS.new hE1 ge1 hb1
 refine dF X X (eF (cs:=#[vI a1.aA,vS a1.aF,vI a1.aY.aU,vB a1.aY.aJ,vI a1.bY,vI a1.vN,vL rG a1.ak.length rH]) X X) ?_
 rintro w2 _ hE2 ⟨b2,rfl,ge2,hb2⟩
 have HS2:=HS1.new hE2 ge2 hb2
 refine rs (vB false) (aG X) ?_
 try simp only [sc0,sc1]
 refine aB<|ay<|Al<|Ao<|rs (vP b1 0) (aH (n:=1) (o':=0) X An X As (by decide) X)<|rs (vI a0.aA) (aN X AC (HS2.look 1 X) X)<|rs (vP b2 0) (aH (n:=1) (o':=0) X An X As (by decide) X)<|rs (vI a1.aA) (aN X AC (HS2.look 0 X) X)<|aK (by simp only [sc0,sc1];rfl) ?_
 refine rs (vB (a0.aA==a1.aA)) (bW X X X)<|rs (vB (a0.aA==a1.aA)) (aO X)<|rgs (a0.aA==a1.aA) true (vP b1 1) X X X X (fun hg=>(aH (n:=1) (o':=1) X An X AW (by decide) X))<|rgs (a0.aA==a1.aA) true (vS a0.aF) X X X X (fun hg=>(aN (gvt (vP b1 1) hg X) Be (HS2.look 1 X) X))<|aK (by simp only [sc0,sc1];rfl) ?_
 refine rgs (a0.aA==a1.aA) true (vP b2 1) X X X X (fun hg=>(aH (n:=1) (o':=1) X An X AW (by decide) X))<|rgs (a0.aA==a1.aA) true (vS a1.aF) X X X X (fun hg=>(aN (gvt (vP b2 1) hg X) Be (HS2.look 0 X) X))<|rgs (a0.aA==a1.aA) true (vB (strEq a0.aF a1.aF)) X X X X (fun hg=>(sG (gvt (vS a0.aF) hg X) (gvt (vS a1.aF) hg X)))<|rs (vB ((a0.aA==a1.aA)&&(strEq a0.aF a1.aF))) (dL X (fun hp=>(gvt (vB (strEq a0.aF a1.aF)) (gQ X hp) X)) X)<|aK (by simp only [sc0,sc1];rfl) ?_
 refine rs (vB ((a0.aA==a1.aA)&&(strEq a0.aF a1.aF))) (aO X)<|rgs ((a0.aA==a1.aA)&&(strEq a0.aF a1.aF)) true (vP b1 2) X X X X (fun hg=>(aH (n:=2) (o':=2) X An X Bk (by decide) X))<|rgs ((a0.aA==a1.aA)&&(strEq a0.aF a1.aF)) true (Value.agg #[vI a0.aY.aU,vB a0.aY.aJ]) X X X X (fun hg=>(aT (n:=2) (vs:=[vI a0.aY.aU,vB a0.aY.aJ]) (gvt (vP b1 2) hg X) Ca (HS2.look 1 X) Bk X X))<|rgs ((a0.aA==a1.aA)&&(strEq a0.aF a1.aF)) true (vP b2 2) X X X X (fun hg=>(aH (n:=2) (o':=2) X An X Bk (by decide) X))<|aK (by simp only [sc0,sc1];rfl) ?_
 refine rgs ((a0.aA==a1.aA)&&(strEq a0.aF a1.aF)) true (Value.agg #[vI a1.aY.aU,vB a1.aY.aJ]) X X X X (fun hg=>(aT (n:=2) (vs:=[vI a1.aY.aU,vB a1.aY.aJ]) (gvt (vP b2 2) hg X) Ca (HS2.look 0 X) Bk X X))<|rgs ((a0.aA==a1.aA)&&(strEq a0.aF a1.aF)) true (vB ((a0.aY.aU==a1.aY.aU)&&((a0.aY.aJ==a1.aY.aJ)&&true))) X X X X (fun hg=>(PG (gvt (Value.agg #[vI a0.aY.aU,vB a0.aY.aJ]) hg X) (gvt (Value.agg #[vI a1.aY.aU,vB a1.aY.aJ]) hg X) Tryz.eqGuardType55 (Az Tryz.stoodInHeld55 Ch (pJ (by decide) (jR AC X) (jR AC X) (zf B9) (pJ (by decide) (jR By X) (jR By X) (zH Cg) Aw)))))<|rs (vB (((a0.aA==a1.aA)&&(strEq a0.aF a1.aF))&&((a0.aY.aU==a1.aY.aU)&&((a0.aY.aJ==a1.aY.aJ)&&true)))) (dL X (fun hp=>(gvt (vB ((a0.aY.aU==a1.aY.aU)&&((a0.aY.aJ==a1.aY.aJ)&&true))) (gQ X hp) X)) X)<|rs (vB (((a0.aA==a1.aA)&&(strEq a0.aF a1.aF))&&((a0.aY.aU==a1.aY.aU)&&((a0.aY.aJ==a1.aY.aJ)&&true)))) (aO X)<|aK (by simp only [sc0,sc1];rfl) ?_
 refine rgs (((a0.aA==a1.aA)&&(strEq a0.aF a1.aF))&&((a0.aY.aU==a1.aY.aU)&&((a0.aY.aJ==a1.aY.aJ)&&true))) true (vP b1 4) X X X X (fun hg=>(aH (n:=1) (o':=4) X An X As (by decide) X))<|rgs (((a0.aA==a1.aA)&&(strEq a0.aF a1.aF))&&((a0.aY.aU==a1.aY.aU)&&((a0.aY.aJ==a1.aY.aJ)&&true))) true (vI a0.bY) X X X X (fun hg=>(aN (gvt (vP b1 4) hg X) AC (HS2.look 1 X) X))<|rgs (((a0.aA==a1.aA)&&(strEq a0.aF a1.aF))&&((a0.aY.aU==a1.aY.aU)&&((a0.aY.aJ==a1.aY.aJ)&&true))) true (vP b2 4) X X X X (fun hg=>(aH (n:=1) (o':=4) X An X As (by decide) X))<|rgs (((a0.aA==a1.aA)&&(strEq a0.aF a1.aF))&&((a0.aY.aU==a1.aY.aU)&&((a0.aY.aJ==a1.aY.aJ)&&true))) true (vI a1.bY) X X X X (fun hg=>(aN (gvt (vP b2 4) hg X) AC (HS2.look 0 X) X))<|aK (by simp only [sc0,sc1];rfl) ?_
 refine rgs (((a0.aA==a1.aA)&&(strEq a0.aF a1.aF))&&((a0.aY.aU==a1.aY.aU)&&((a0.aY.aJ==a1.aY.aJ)&&true))) true (vB (a0.bY==a1.bY)) X X X X (fun hg=>(bW (gvt (vI a0.bY) hg X) (gvt (vI a1.bY) hg X) X))<|rs (vB ((((a0.aA==a1.aA)&&(strEq a0.aF a1.aF))&&((a0.aY.aU==a1.aY.aU)&&((a0.aY.aJ==a1.aY.aJ)&&true)))&&(a0.bY==a1.bY))) (dL X (fun hp=>(gvt (vB (a0.bY==a1.bY)) (gQ X hp) X)) X)<|rs (vB ((((a0.aA==a1.aA)&&(strEq a0.aF a1.aF))&&((a0.aY.aU==a1.aY.aU)&&((a0.aY.aJ==a1.aY.aJ)&&true)))&&(a0.bY==a1.bY))) (aO X)<|rgs ((((a0.aA==a1.aA)&&(strEq a0.aF a1.aF))&&((a0.aY.aU==a1.aY.aU)&&((a0.aY.aJ==a1.aY.aJ)&&true)))&&(a0.bY==a1.bY)) true (vP b1 5) X X X X (fun hg=>(aH (n:=1) (o':=5) X An X As (by decide) X))<|aK (by simp only [sc0,sc1];rfl) ?_
 refine rgs ((((a0.aA==a1.aA)&&(strEq a0.aF a1.aF))&&((a0.aY.aU==a1.aY.aU)&&((a0.aY.aJ==a1.aY.aJ)&&true)))&&(a0.bY==a1.bY)) true (vI a0.vN) X X X X (fun hg=>(aN (gvt (vP b1 5) hg X) AC (HS2.look 1 X) X))<|rgs ((((a0.aA==a1.aA)&&(strEq a0.aF a1.aF))&&((a0.aY.aU==a1.aY.aU)&&((a0.aY.aJ==a1.aY.aJ)&&true)))&&(a0.bY==a1.bY)) true (vP b2 5) X X X X (fun hg=>(aH (n:=1) (o':=5) X An X As (by decide) X))<|rgs ((((a0.aA==a1.aA)&&(strEq a0.aF a1.aF))&&((a0.aY.aU==a1.aY.aU)&&((a0.aY.aJ==a1.aY.aJ)&&true)))&&(a0.bY==a1.bY)) true (vI a1.vN) X X X X (fun hg=>(aN (gvt (vP b2 5) hg X) AC (HS2.look 0 X) X))<|rgs ((((a0.aA==a1.aA)&&(strEq a0.aF a1.aF))&&((a0.aY.aU==a1.aY.aU)&&((a0.aY.aJ==a1.aY.aJ)&&true)))&&(a0.bY==a1.bY)) true (vB (a0.vN==a1.vN)) X X X X (fun hg=>(bW (gvt (vI a0.vN) hg X) (gvt (vI a1.vN) hg X) X))<|aK (by simp only [sc0,sc1];rfl) ?_
 refine rs (vB (((((a0.aA==a1.aA)&&(strEq a0.aF a1.aF))&&((a0.aY.aU==a1.aY.aU)&&((a0.aY.aJ==a1.aY.aJ)&&true)))&&(a0.bY==a1.bY))&&(a0.vN==a1.vN))) (dL X (fun hp=>(gvt (vB (a0.vN==a1.vN)) (gQ X hp) X)) X)<|rs (vB (((((a0.aA==a1.aA)&&(strEq a0.aF a1.aF))&&((a0.aY.aU==a1.aY.aU)&&((a0.aY.aJ==a1.aY.aJ)&&true)))&&(a0.bY==a1.bY))&&(a0.vN==a1.vN))) (aO X)<|rgs (((((a0.aA==a1.aA)&&(strEq a0.aF a1.aF))&&((a0.aY.aU==a1.aY.aU)&&((a0.aY.aJ==a1.aY.aJ)&&true)))&&(a0.bY==a1.bY))&&(a0.vN==a1.vN)) true (vP b1 6) X X X X (fun hg=>(aH (n:=1) (o':=6) X An X A4 (by decide) X))<|rgs (((((a0.aA==a1.aA)&&(strEq a0.aF a1.aF))&&((a0.aY.aU==a1.aY.aU)&&((a0.aY.aJ==a1.aY.aJ)&&true)))&&(a0.bY==a1.bY))&&(a0.vN==a1.vN)) true (vL kG a0.ak.length kH) X X X X (fun hg=>(aN (gvt (vP b1 6) hg X) Bs (HS2.look 1 X) X))<|aK (by simp only [sc0,sc1];rfl) ?_
 refine rgs (((((a0.aA==a1.aA)&&(strEq a0.aF a1.aF))&&((a0.aY.aU==a1.aY.aU)&&((a0.aY.aJ==a1.aY.aJ)&&true)))&&(a0.bY==a1.bY))&&(a0.vN==a1.vN)) true (vP b2 6) X X X X (fun hg=>(aH (n:=1) (o':=6) X An X A4 (by decide) X))<|rgs (((((a0.aA==a1.aA)&&(strEq a0.aF a1.aF))&&((a0.aY.aU==a1.aY.aU)&&((a0.aY.aJ==a1.aY.aJ)&&true)))&&(a0.bY==a1.bY))&&(a0.vN==a1.vN)) true (vL rG a1.ak.length rH) X X X X (fun hg=>(aN (gvt (vP b2 6) hg X) Bs (HS2.look 0 X) X)) ?_
 obtain ⟨v1,H1,H⟩:=bn H
 refine sJ (b:=(((((a0.aA==a1.aA)&&(strEq a0.aF a1.aF))&&((a0.aY.aU==a1.aY.aU)&&((a0.aY.aJ==a1.aY.aJ)&&true)))&&(a0.bY==a1.bY))&&(a0.vN==a1.vN))) (c:=true) (v:=vB v1) X X X X (fun hg=>(bC Tryz.call66 X (wF (gvt (vL kG a0.ak.length kH) hg X) (gvt (vL rG a1.ak.length rH) hg X)) (eX.calls k a0.ak a1.ak kG kH rG rH HS2.sees sV wL AU Du (bU H1 hg)))) ?_
 intro w3 hE3
 have HS3:=HS2.step hE3
 refine rs (vB ((((((a0.aA==a1.aA)&&(strEq a0.aF a1.aF))&&((a0.aY.aU==a1.aY.aU)&&((a0.aY.aJ==a1.aY.aJ)&&true)))&&(a0.bY==a1.bY))&&(a0.vN==a1.vN))&&v1)) (dL X (fun hp=>(gvt (vB v1) (gQ X hp) X)) X)<|aK (by simp only [sc0,sc1];rfl) ?_
 refine rs (vB ((((((a0.aA==a1.aA)&&(strEq a0.aF a1.aF))&&((a0.aY.aU==a1.aY.aU)&&((a0.aY.aJ==a1.aY.aJ)&&true)))&&(a0.bY==a1.bY))&&(a0.vN==a1.vN))&&v1)) (aG X) ?_
 try simp only [sc0,sc1]
 refine aB<|ay<|AT ?_
 obtain rfl:=Ab H
 exact Ay (bD X (bK X)) X<|⟨X,HS3.toE⟩
def eu.l0 (k:Nat) (a0:aQ) (a1:aQ):Nat→Int→Option ((Bool)⊕(Unit))
 |0,_=>none
 |m+1,aC=>if (decide (aC<(a0.au.length:Int)))=true then (if 0≤aC∧aC<a0.au.length then (if 0≤aC∧aC<a1.au.length then ((jC.f k (rd ah a0.au aC) (rd ah a1.au aC)).bind fun v1=>(if (!v1)=true then (some (.inl false)) else (eu.l0 k a0 a1 m (IntKind.wrap .i64 (aC+1))))) else none) else none) else (some (.inr ()))
def eu.f (k:Nat) (a0:aQ) (a1:aQ):Option (Bool):=if ((a0.au.length:Int) !=(a1.au.length:Int))=true then (some false) else ((eu.l0 k a0 a1 k 0).bind fun xx1=>(match xx1 with| .inl r=>some r| .inr s1=>some true))
theorem eu.calls (k:Nat) (a0:aQ) (a1:aQ) (bQ:Option Addr) (bT:Nat) (iM:Option Addr) (iO:Nat) {h0:View} {w0:World} (hv:lS h0 w0) (fK:Rd bI h0 bQ a0.au) (iF:a0.au.length≤bT) (kX:Rd bI h0 iM a1.au) (pK:a1.au.length≤iO) {r:Bool} (H:eu.f k a0 a1=some r):Calls Tryz.prog 11 #[Value.agg #[vL bQ a0.au.length bT],Value.agg #[vL iM a1.au.length iO]] w0 (fun e w1=>e= .returned (vB r)∧Ext w0 w1):=by
 unfold eu.f at H
 have HS:St [] h0 w0 h0 [] w0:=St.init hv
 go_enter Tryz.func11,Tryz.ntmps11
 refine Al<|Ao<|dF X X (eF (cs:=#[vL bQ a0.au.length bT]) X X) ?_
 rintro w1 _ hE1 ⟨b1,rfl,ge1,hb1⟩
 have HS1:=HS.new hE1 ge1 hb1
 refine dF X X (eF (cs:=#[vL iM a1.au.length iO]) X X) ?_
 rintro w2 _ hE2 ⟨b2,rfl,ge2,hb2⟩
 have HS2:=HS1.new hE2 ge2 hb2
 refine rs (vB false) (aG X) ?_
 try simp only [sc0,sc1]
 refine aB<|ay<|Al<|Al<|Ao<|rs (vP b1 0) (aH (n:=1) (o':=0) X AE X AM (by decide) X)<|rs (vL bQ a0.au.length bT) (aN X AR (HS2.look 1 X) X)<|rs (vI (a0.au.length:Int)) (jD X AF)<|rs (vP b2 0) (aH (n:=1) (o':=0) X AE X AM (by decide) X)<|aK (by simp only [sc0,sc1];rfl) ?_
 refine rs (vL iM a1.au.length iO) (aN X AR (HS2.look 0 X) X)<|rs (vI (a1.au.length:Int)) (jD X AF)<|rs (vB ((a0.au.length:Int) !=(a1.au.length:Int))) (bW X X X) ?_
 try simp only [sc0,sc1]
 refine aB<|ay<|Av (t:=((a0.au.length:Int) !=(a1.au.length:Int))) X (fun c1=>?_) (fun c1=>?_)
 ·replace H:=bU H c1
  refine Al<|Ao<|rs (vB false) (aG X) ?_
  try simp only [sc0,sc1]
  refine aB<|ay<|AT<|bP ?_
  obtain rfl:=Ab H
  exact Ay (bD X (bK X)) X<|⟨X,HS2.toE⟩
 ·replace H:=cO H (nt c1)
  refine AN<|ay<|Al<|Al<|Ao<|rs (vI 0) (aG X) ?_
  try simp only [sc0,sc1]
  refine aB<|ay ?_
  obtain ⟨xx1,H,G1⟩:=bn H
  refine jB [4,5,13,14,15,16,17,18,19,20,21,22,23,24,25,26,27,28,29,30,31] (fun m us w'=>∃(aC:Int),Fit us (fun uy1=>[(uy1 0),vI aC,(uy1 2),(uy1 3),(uy1 4),(uy1 5),(uy1 6),(uy1 7),(uy1 8),(uy1 9),(uy1 10),(uy1 11),(uy1 12),(uy1 13),(uy1 14),(uy1 15),(uy1 16),(uy1 17),(uy1 18),(uy1 19),(uy1 20)])∧eu.l0 k a0 a1 m aC=some xx1∧St [] h0 w0 h0 [(some b2, .cells #[vL iM a1.au.length iO] 24 (0,0)),(some b1, .cells #[vL bQ a0.au.length bT] 24 (0,0))] w') (fun us w'=>∃(s1:Unit),xx1= .inr s1∧Fit us (fun uo1=>[(uo1 0),(uo1 1),(uo1 2),(uo1 3),(uo1 4),(uo1 5),(uo1 6),(uo1 7),(uo1 8),(uo1 9),(uo1 10),(uo1 11),(uo1 12),(uo1 13),(uo1 14),(uo1 15),(uo1 16),(uo1 17),(uo1 18),(uo1 19),(uo1 20)])∧St [] h0 w0 h0 [(some b2, .cells #[vL iM a1.au.length iO] 24 (0,0)),(some b1, .cells #[vL bQ a0.au.length bT] 24 (0,0))] w') k ⟨0,(fit X),H,HS2⟩ ?_ ?_
  ·rintro m us w3 ⟨aC,nO,H,HS3⟩
   obtain ⟨uy1,rfl⟩:=unj nO
   cases m with
   |zero=>exact absurd H (by simp [eu.l0])
   |succ m=>
    rw [eu.l0] at H
    try simp only [patch,sc0,sc1]
    refine Al<|Al<|Ao<|rs (vI aC) (aO X)<|rs (vP b1 0) (aH (n:=1) (o':=0) X AE X AM (by decide) X)<|rs (vL bQ a0.au.length bT) (aN X AR (HS3.look 1 X) X)<|rs (vI (a0.au.length:Int)) (jD X AF)<|aK (by simp only [sc0,sc1];rfl) ?_
    refine rs (vB (decide (aC<(a0.au.length:Int)))) (bW X X X) ?_
    try simp only [sc0,sc1]
    refine aB<|ay<|Av (t:=(decide (aC<(a0.au.length:Int)))) X (fun c2=>?_) (fun c2=>?_)
    ·replace H:=bU H c2
     refine AN<|ay<|Al<|wp_block<|Al ?_
     obtain ⟨hi1,H⟩:=dN H
     obtain ⟨ad1,dU,dY,e1,mJ,jS,iY⟩:=gK fK hi1.1 hi1.2
     obtain ⟨hi2,H⟩:=dN H
     obtain ⟨ad2,mO,mX,e2,tN,xY,vJ⟩:=gK kX hi2.1 hi2.2
     obtain ⟨v1,H1,H⟩:=bn H
     refine drawn [.eq (vP b1 0), .eq (vL bQ a0.au.length bT), .eq (vI aC), .eq (Value.pointer (some (Addr.add ad1 (aC.toNat*7)))), .eq (Value.agg #[vI ((rd ah a0.au aC).aA),vS ((rd ah a0.au aC).aF),vI ((rd ah a0.au aC).aY.aU),vB ((rd ah a0.au aC).aY.aJ),vI ((rd ah a0.au aC).bY),vI ((rd ah a0.au aC).vN),vL dU ((rd ah a0.au aC).ak).length dY]), .eq (vP b2 0), .eq (vL iM a1.au.length iO), .eq (vI aC), .eq (Value.pointer (some (Addr.add ad2 (aC.toNat*7)))), .eq (Value.agg #[vI ((rd ah a1.au aC).aA),vS ((rd ah a1.au aC).aF),vI ((rd ah a1.au aC).aY.aU),vB ((rd ah a1.au aC).aY.aJ),vI ((rd ah a1.au aC).bY),vI ((rd ah a1.au aC).vN),vL mO ((rd ah a1.au aC).ak).length mX]), .eq (vB v1), .eq (vB (!v1))] [20,21,22,23,24,25,26,27,28,29,30,31] rM (by kernel_rfl) X (aP (aP (aP (aP (aP (aP (aP (aP (aP (aP (aP (aP iJ)))))))))))) ⟨aX X (fun a' w' hE hk=>by exact aW (aH (n:=1) (o':=0) (show _=vP b1 0 from hk 2 X) AE X AM (by decide) X)),aX X (fun a' w' hE hk=>by exact aW (aN (show _=vP b1 0 from hk 20 X) AR ((HS3.step hE).look 1 X) X)),aX X (fun a' w' hE hk=>by exact aW (aO (show _=vI aC from hk 5 X))),aX X (fun a' w' hE hk=>by exact aW (dP (sz:=7) (show _=vL bQ a0.au.length bT from hk 21 X) e1 (show _=vI aC from hk 22 X) hi1.1 hi1.2 AF AH)),aX X (fun a' w' hE hk=>by exact aW (gG (show _=Value.pointer (some (Addr.add ad1 (aC.toNat*7))) from hk 23 X) A7 (mJ.sees (HS3.step hE).sees) AH)),aX X (fun a' w' hE hk=>by exact aW (aH (n:=1) (o':=0) (show _=vP b2 0 from hk 3 X) AE X AM (by decide) X)),aX X (fun a' w' hE hk=>by exact aW (aN (show _=vP b2 0 from hk 25 X) AR ((HS3.step hE).look 0 X) X)),aX X (fun a' w' hE hk=>by exact aW (aO (show _=vI aC from hk 5 X))),aX X (fun a' w' hE hk=>by exact aW (dP (sz:=7) (show _=vL iM a1.au.length iO from hk 26 X) e2 (show _=vI aC from hk 27 X) hi2.1 hi2.2 AF AH)),aX X (fun a' w' hE hk=>by exact aW (gG (show _=Value.pointer (some (Addr.add ad2 (aC.toNat*7))) from hk 28 X) A7 (tN.sees (HS3.step hE).sees) AH)),aX X (fun a' w' hE hk=>by exact (bC Tryz.call39 X (wF (show _=Value.agg #[vI ((rd ah a0.au aC).aA),vS ((rd ah a0.au aC).aF),vI ((rd ah a0.au aC).aY.aU),vB ((rd ah a0.au aC).aY.aJ),vI ((rd ah a0.au aC).bY),vI ((rd ah a0.au aC).vN),vL dU ((rd ah a0.au aC).ak).length dY] from hk 24 X) (show _=Value.agg #[vI ((rd ah a1.au aC).aA),vS ((rd ah a1.au aC).aF),vI ((rd ah a1.au aC).aY.aU),vB ((rd ah a1.au aC).aY.aJ),vI ((rd ah a1.au aC).bY),vI ((rd ah a1.au aC).vN),vL mO ((rd ah a1.au aC).ak).length mX] from hk 29 X)) (jC.calls k (rd ah a0.au aC) (rd ah a1.au aC) dU dY mO mX (HS3.step hE).sees iY jS vJ xY H1))),aX X (fun a' w' hE hk=>by exact aW (mZ (show _=vB v1 from hk 30 X))),trivial⟩ ?_
     intro w4 hE3
     simp only [List.zip_cons_cons,List.zip_nil_left,List.zip_nil_right,vO,sc0,sc1,List.length_cons,List.length_nil,List.drop_succ_cons,List.drop_zero,Nat.zero_add,Nat.reduceAdd]
     have HS4:=HS3.step hE3
     refine aB<|ay<|Av (t:=(!v1)) X (fun c3=>?_) (fun c3=>?_)
     ·replace H:=bU H c3
      refine Al<|Ao<|rs (vB false) (aG X) ?_
      try simp only [sc0,sc1]
      refine aB<|ay<|AT<|fA<|bP<|jm<|bP ?_
      obtain rfl:=Ab H
      obtain rfl:=Ab G1
      exact Ay (bD X (bK X)) X<|⟨X,HS4.toE⟩
     ·replace H:=cO H (nt c3)
      refine AN<|dD<|ay<|Ao<|rs (vI aC) (aO X)<|rs (vI (w64 (aC+1))) (bW X X X)<|rs (vI (w64 (aC+1))) (aG X) ?_
      try simp only [sc0,sc1]
      refine aB<|gI m (Nat.lt_succ_self m) X ⟨(w64 (aC+1)),(fit X),H,HS4⟩
    ·replace H:=cO H (nt c2)
     refine Bx<|eU ?_
     obtain rfl:=Ab H
     refine iK X ⟨_,X,(fit X),HS3⟩
  ·rintro us w5 ⟨s1,rfl,nP,HS5⟩
   obtain ⟨uo1,rfl⟩:=unj nP
   replace H:=G1
   clear G1
   try simp only [patch,sc0,sc1]
   refine ay<|Al<|Ao<|rs (vB true) (aG X) ?_
   try simp only [sc0,sc1]
   refine aB<|ay<|AT ?_
   obtain rfl:=Ab H
   exact Ay (bD X (bK X)) X<|⟨X,HS5.toE⟩
def cZ.l0 (a0:List Int) (a1:List Int):Nat→Int→Option ((Bool)⊕(Unit))
 |0,_=>none
 |m+1,aC=>if (decide (aC<(a0.length:Int)))=true then (if 0≤aC∧aC<a0.length then (if 0≤aC∧aC<a1.length then (if ((rd 0 a0 aC) !=(rd 0 a1 aC))=true then (some (.inl false)) else (cZ.l0 a0 a1 m (IntKind.wrap .i64 (aC+1)))) else none) else none) else (some (.inr ()))
def cZ.f (k:Nat) (a0:List Int) (a1:List Int):Option (Bool):=if ((a0.length:Int) !=(a1.length:Int))=true then (some false) else ((cZ.l0 a0 a1 k 0).bind fun xx1=>(match xx1 with| .inl r=>some r| .inr s1=>some true))
theorem cZ.calls (k:Nat) (a0:List Int) (a1:List Int) (bQ:Option Addr) (bT:Nat) (iM:Option Addr) (iO:Nat) {h0:View} {w0:World} (hv:lS h0 w0) (fK:Rd (Kd.int .i64) h0 bQ a0) (iF:a0.length≤bT) (kX:Rd (Kd.int .i64) h0 iM a1) (pK:a1.length≤iO) {r:Bool} (H:cZ.f k a0 a1=some r):Calls Tryz.prog 12 #[vL bQ a0.length bT,vL iM a1.length iO] w0 (fun e w1=>e= .returned (vB r)∧Ext w0 w1):=by
 unfold cZ.f at H
 have HS:St [] h0 w0 h0 [] w0:=St.init hv
 go_enter Tryz.func12,Tryz.ntmps12
 refine Al<|Ao<|rs (vB false) (aG X) ?_
 try simp only [sc0,sc1]
 refine aB<|ay<|Al<|Al<|Ao<|rs (vL bQ a0.length bT) (aO X)<|rs (vI (a0.length:Int)) (jD X AG)<|rs (vL iM a1.length iO) (aO X)<|rs (vI (a1.length:Int)) (jD X AG)<|aK (by simp only [sc0,sc1];rfl) ?_
 refine rs (vB ((a0.length:Int) !=(a1.length:Int))) (bW X X X) ?_
 try simp only [sc0,sc1]
 refine aB<|ay<|Av (t:=((a0.length:Int) !=(a1.length:Int))) X (fun c1=>?_) (fun c1=>?_)
 ·replace H:=bU H c1
  refine Al<|Ao<|rs (vB false) (aG X) ?_
  try simp only [sc0,sc1]
  refine aB<|ay<|AT<|bP ?_
  obtain rfl:=Ab H
  exact Ay (bD X (bK X)) X<|⟨X,HS.toE⟩
 ·replace H:=cO H (nt c1)
  refine AN<|ay<|Al<|Al<|Ao<|rs (vI 0) (aG X) ?_
  try simp only [sc0,sc1]
  refine aB<|ay ?_
  obtain ⟨xx1,H,G1⟩:=bn H
  refine jB [4,5,11,12,13,14,15,16,17,18,19,20,21,22,23,24,25] (fun m us w'=>∃(aC:Int),Fit us (fun uy1=>[(uy1 0),vI aC,(uy1 2),(uy1 3),(uy1 4),(uy1 5),(uy1 6),(uy1 7),(uy1 8),(uy1 9),(uy1 10),(uy1 11),(uy1 12),(uy1 13),(uy1 14),(uy1 15),(uy1 16)])∧cZ.l0 a0 a1 m aC=some xx1∧St [] h0 w0 h0 [] w') (fun us w'=>∃(s1:Unit),xx1= .inr s1∧Fit us (fun uo1=>[(uo1 0),(uo1 1),(uo1 2),(uo1 3),(uo1 4),(uo1 5),(uo1 6),(uo1 7),(uo1 8),(uo1 9),(uo1 10),(uo1 11),(uo1 12),(uo1 13),(uo1 14),(uo1 15),(uo1 16)])∧St [] h0 w0 h0 [] w') k ⟨0,(fit X),H,HS⟩ ?_ ?_
  ·rintro m us w1 ⟨aC,nO,H,HS1⟩
   obtain ⟨uy1,rfl⟩:=unj nO
   cases m with
   |zero=>exact absurd H (by simp [cZ.l0])
   |succ m=>
    rw [cZ.l0] at H
    try simp only [patch,sc0,sc1]
    refine Al<|Al<|Ao<|rs (vI aC) (aO X)<|rs (vL bQ a0.length bT) (aO X)<|rs (vI (a0.length:Int)) (jD X AG)<|rs (vB (decide (aC<(a0.length:Int)))) (bW X X X) ?_
    try simp only [sc0,sc1]
    refine aB<|ay<|Av (t:=(decide (aC<(a0.length:Int)))) X (fun c2=>?_) (fun c2=>?_)
    ·replace H:=bU H c2
     refine AN<|ay<|Al<|wp_block<|Al ?_
     obtain ⟨hi1,H⟩:=dN H
     obtain ⟨ad1,e1,mJ⟩:=qY fK hi1.1 hi1.2
     obtain ⟨hi2,H⟩:=dN H
     obtain ⟨ad2,e2,tN⟩:=qY kX hi2.1 hi2.2
     refine drawn [.eq (vL bQ a0.length bT), .eq (vI aC), .eq (Value.pointer (some (Addr.add ad1 (aC.toNat*1)))), .eq (vI (rd 0 a0 aC)), .eq (vL iM a1.length iO), .eq (vI aC), .eq (Value.pointer (some (Addr.add ad2 (aC.toNat*1)))), .eq (vI (rd 0 a1 aC)), .eq (vB ((rd 0 a0 aC) !=(rd 0 a1 aC)))] [17,18,19,20,21,22,23,24,25] rM (by kernel_rfl) X (aP (aP (aP (aP (aP (aP (aP (aP (aP iJ))))))))) ⟨aX X (fun a' w' hE hk=>by exact aW (aO (show _=vL bQ a0.length bT from hk 0 X))),aX X (fun a' w' hE hk=>by exact aW (aO (show _=vI aC from hk 5 X))),aX X (fun a' w' hE hk=>by exact aW (dP (sz:=1) (show _=vL bQ a0.length bT from hk 17 X) e1 (show _=vI aC from hk 18 X) hi1.1 hi1.2 AG As)),aX X (fun a' w' hE hk=>by exact aW (kE (show _=Value.pointer (some (Addr.add ad1 (aC.toNat*1))) from hk 19 X) AC (mJ.cell0 (HS1.step hE).sees X))),aX X (fun a' w' hE hk=>by exact aW (aO (show _=vL iM a1.length iO from hk 1 X))),aX X (fun a' w' hE hk=>by exact aW (aO (show _=vI aC from hk 5 X))),aX X (fun a' w' hE hk=>by exact aW (dP (sz:=1) (show _=vL iM a1.length iO from hk 21 X) e2 (show _=vI aC from hk 22 X) hi2.1 hi2.2 AG As)),aX X (fun a' w' hE hk=>by exact aW (kE (show _=Value.pointer (some (Addr.add ad2 (aC.toNat*1))) from hk 23 X) AC (tN.cell0 (HS1.step hE).sees X))),aX X (fun a' w' hE hk=>by exact aW (bW (show _=vI (rd 0 a0 aC) from hk 20 X) (show _=vI (rd 0 a1 aC) from hk 24 X) X)),trivial⟩ ?_
     intro w2 hE1
     simp only [List.zip_cons_cons,List.zip_nil_left,List.zip_nil_right,vO,sc0,sc1,List.length_cons,List.length_nil,List.drop_succ_cons,List.drop_zero,Nat.zero_add,Nat.reduceAdd]
     have HS2:=HS1.step hE1
     refine aB<|ay<|Av (t:=((rd 0 a0 aC) !=(rd 0 a1 aC))) X (fun c3=>?_) (fun c3=>?_)
     ·replace H:=bU H c3
      refine Al<|Ao<|rs (vB false) (aG X) ?_
      try simp only [sc0,sc1]
      refine aB<|ay<|AT<|fA<|bP<|jm<|bP ?_
      obtain rfl:=Ab H
      obtain rfl:=Ab G1
      exact Ay (bD X (bK X)) X<|⟨X,HS2.toE⟩
     ·replace H:=cO H (nt c3)
      refine AN<|dD<|ay<|Ao<|rs (vI aC) (aO X)<|rs (vI (w64 (aC+1))) (bW X X X)<|rs (vI (w64 (aC+1))) (aG X) ?_
      try simp only [sc0,sc1]
      refine aB<|gI m (Nat.lt_succ_self m) X ⟨(w64 (aC+1)),(fit X),H,HS2⟩
    ·replace H:=cO H (nt c2)
     refine Bx<|eU ?_
     obtain rfl:=Ab H
     refine iK X ⟨_,X,(fit X),HS1⟩
  ·rintro us w3 ⟨s1,rfl,nP,HS3⟩
   obtain ⟨uo1,rfl⟩:=unj nP
   replace H:=G1
   clear G1
   try simp only [patch,sc0,sc1]
   refine ay<|Al<|Ao<|rs (vB true) (aG X) ?_
   try simp only [sc0,sc1]
   refine aB<|ay<|AT ?_
   obtain rfl:=Ab H
   exact Ay (bD X (bK X)) X<|⟨X,HS3.toE⟩
def nD.f:Option (aQ):=some (⟨([(⟨1,(⟨#[105,110,116,51,50]⟩:ByteArray),(⟨4,true⟩:jE),0,0,[]⟩:aZ),(⟨4,(⟨#[116,104,114,101,97,100,95,116]⟩:ByteArray),(⟨0,false⟩:jE),0,24,([(⟨(⟨#[116,95,116,105,100]⟩:ByteArray),0,0⟩:bf),(⟨(⟨#[116,95,110,101,120,116]⟩:ByteArray),2,8⟩:bf),(⟨(⟨#[116,95,110,97,109,101]⟩:ByteArray),3,16⟩:bf)]:List bf)⟩:aZ),(⟨2,ByteArray.empty,(⟨0,false⟩:jE),1,0,[]⟩:aZ),(⟨3,ByteArray.empty,(⟨0,false⟩:jE),4,8,[]⟩:aZ),(⟨1,(⟨#[99,104,97,114]⟩:ByteArray),(⟨1,true⟩:jE),0,0,[]⟩:aZ)]:List aZ)⟩:aQ)
theorem nD.calls {h0:View} {w0:World} (hv:lS h0 w0) {r:aQ} (H:nD.f=some r):Calls Tryz.prog 13 #[] w0 (fun e w1=>∃(h1:View) (bQ:Option Addr) (bT:Nat),e= .returned (Value.agg #[vL bQ r.au.length bT])∧r.au.length≤bT∧Rd bI h1 bQ r.au∧Gr w0.heap.size h0 h1∧lS h1 w1∧Ext w0 w1):=by
 unfold nD.f at H
 have HS:St [] h0 w0 h0 [] w0:=St.init hv
 go_enter Tryz.func13,Tryz.ntmps13
 refine Al<|Ao<|dF X X (dO (cs:=#[vL none 0 0]) Bp X) ?_
 rintro w1 _ hE1 ⟨b1,rfl,ge1,hb1⟩
 have HS1:=HS.new hE1 ge1 hb1
 try simp only [sc0,sc1]
 refine aB<|ay<|Al<|Ao<|rs (Value.agg #[vS (⟨#[116,95,116,105,100]⟩:ByteArray),vI 0,vI 0]) (jy (cs:=[vS (⟨#[116,95,116,105,100]⟩:ByteArray),vI 0,vI 0]) (ps:=[(0,vS (⟨#[116,95,116,105,100]⟩:ByteArray)),(1,vI 0),(2,vI 0)]) Bm AJ (pl:=#[(0,1),(1,1),(2,1)]) (fun w=>by simp [Tryz.sizeOf3,Tryz.sizeOf9]) (xM (show _=vS (⟨#[116,95,116,105,100]⟩:ByteArray) from X) (show _=vI 0 from X) (show _=vI 0 from X)) X) ?_
 refine rs (Value.agg #[vS (⟨#[116,95,110,101,120,116]⟩:ByteArray),vI 2,vI 8]) (jy (cs:=[vS (⟨#[116,95,110,101,120,116]⟩:ByteArray),vI 2,vI 8]) (ps:=[(0,vS (⟨#[116,95,110,101,120,116]⟩:ByteArray)),(1,vI 2),(2,vI 8)]) Bm AJ (pl:=#[(0,1),(1,1),(2,1)]) (fun w=>by simp [Tryz.sizeOf3,Tryz.sizeOf9]) (xM (show _=vS (⟨#[116,95,110,101,120,116]⟩:ByteArray) from X) (show _=vI 2 from X) (show _=vI 8 from X)) X) ?_
 refine rs (Value.agg #[vS (⟨#[116,95,110,97,109,101]⟩:ByteArray),vI 3,vI 16]) (jy (cs:=[vS (⟨#[116,95,110,97,109,101]⟩:ByteArray),vI 3,vI 16]) (ps:=[(0,vS (⟨#[116,95,110,97,109,101]⟩:ByteArray)),(1,vI 3),(2,vI 16)]) Bm AJ (pl:=#[(0,1),(1,1),(2,1)]) (fun w=>by simp [Tryz.sizeOf3,Tryz.sizeOf9]) (xM (show _=vS (⟨#[116,95,110,97,109,101]⟩:ByteArray) from X) (show _=vI 3 from X) (show _=vI 16 from X)) X) ?_
 refine ng dw (xs:=([(⟨(⟨#[116,95,116,105,100]⟩:ByteArray),0,0⟩:bf),(⟨(⟨#[116,95,110,101,120,116]⟩:ByteArray),2,8⟩:bf),(⟨(⟨#[116,95,110,97,109,101]⟩:ByteArray),3,16⟩:bf)]:List bf)) (n:=3) (cs:=[vS (⟨#[116,95,116,105,100]⟩:ByteArray),vI 0,vI 0,vS (⟨#[116,95,110,101,120,116]⟩:ByteArray),vI 2,vI 8,vS (⟨#[116,95,110,97,109,101]⟩:ByteArray),vI 3,vI 16]) AK Cs Bm X X (by decide) (by decide) (by decide) [Value.agg #[vS (⟨#[116,95,116,105,100]⟩:ByteArray),vI 0,vI 0],Value.agg #[vS (⟨#[116,95,110,101,120,116]⟩:ByteArray),vI 2,vI 8],Value.agg #[vS (⟨#[116,95,110,97,109,101]⟩:ByteArray),vI 3,vI 16]] (jd.trans X) X X X X (fH (qs:=[vS (⟨#[116,95,116,105,100]⟩:ByteArray),vI 0,vI 0]) ⟨[vS (⟨#[116,95,116,105,100]⟩:ByteArray)],[vI 0,vI 0],X,X,⟨[vI 0],[vI 0],X,X,X⟩⟩ (fH (qs:=[vS (⟨#[116,95,110,101,120,116]⟩:ByteArray),vI 2,vI 8]) ⟨[vS (⟨#[116,95,110,101,120,116]⟩:ByteArray)],[vI 2,vI 8],X,X,⟨[vI 2],[vI 8],X,X,X⟩⟩ (fH (qs:=[vS (⟨#[116,95,110,97,109,101]⟩:ByteArray),vI 3,vI 16]) ⟨[vS (⟨#[116,95,110,97,109,101]⟩:ByteArray)],[vI 3,vI 16],X,X,⟨[vI 3],[vI 16],X,X,X⟩⟩ (jc (cs:=[]))))) HS1 ?_
 intro w2 b2 HS2 ho1
 refine aK (by simp only [sc0,sc1];rfl) ?_
 refine rs (Value.agg #[vI 4,vS (⟨#[116,104,114,101,97,100,95,116]⟩:ByteArray),vI 0,vB false,vI 0,vI 24,vL (rowA (some b2)) 3 3]) (jy (cs:=[vI 4,vS (⟨#[116,104,114,101,97,100,95,116]⟩:ByteArray),vI 0,vB false,vI 0,vI 24,vL (rowA (some b2)) 3 3]) (ps:=[(0,vI 4),(1,vS (⟨#[116,104,114,101,97,100,95,116]⟩:ByteArray)),(4,vI 24),(5,vL (rowA (some b2)) 3 3)]) A9 An (pl:=#[(0,1),(1,1),(2,2),(4,1),(5,1),(6,1)]) (fun w=>by simp [Tryz.sizeOf3,Tryz.sizeOf55,Tryz.sizeOf56,Tryz.sizeOf9]) (Sl (show _=vI 4 from X) (show _=vS (⟨#[116,104,114,101,97,100,95,116]⟩:ByteArray) from X) (show _=vI 24 from X) (show _=vL (rowA (some b2)) 3 3 from X)) X) ?_
 refine dF X X (dO (cs:=#[vI 0,vS ByteArray.empty,vI 0,vB false,vI 0,vI 0,vL none 0 0]) A9 X) ?_
 rintro w3 _ hE2 ⟨b3,rfl,ge2,hb2⟩
 have HS3:=HS2.new hE2 ge2 hb2
 refine gJ (i:=0) (cs:=[vI 0,vS ByteArray.empty,vI 0,vB false,vI 0,vI 0,vL none 0 0]) (cs':=[vI 4,vS (⟨#[116,104,114,101,97,100,95,116]⟩:ByteArray),vI 0,vB false,vI 0,vI 24,vL (rowA (some b2)) 3 3]) (vs:=[vI 4,vS (⟨#[116,104,114,101,97,100,95,116]⟩:ByteArray),vI 0,vB false,vI 0,vI 24,vL (rowA (some b2)) 3 3]) (bs':=[(some b3, .cells #[vI 4,vS (⟨#[116,104,114,101,97,100,95,116]⟩:ByteArray),vI 0,vB false,vI 0,vI 24,vL (rowA (some b2)) 3 3] 58 (0,0)),((some b2), .cells ([vS (⟨#[116,95,116,105,100]⟩:ByteArray),vI 0,vI 0,vS (⟨#[116,95,110,101,120,116]⟩:ByteArray),vI 2,vI 8,vS (⟨#[116,95,110,97,109,101]⟩:ByteArray),vI 3,vI 16]).toArray 48 (0,0)),(some b1, .cells #[vL none 0 0] 24 (0,0))]) X X AH X X (by decide) X HS3 X (Ax X) X X ?_
 intro w4 HS4
 try simp only [sc0,sc1]
 refine aB<|ay<|Al<|Ao<|rs (Value.agg #[vI 4,vB true]) (jy (cs:=[vI 4,vB true]) (ps:=[(0,vI 4),(1,vB true)]) B2 A_ (pl:=#[(0,1),(1,1)]) (fun w=>by simp [Tryz.sizeOf3,Tryz.sizeOf4]) (qp (show _=vI 4 from X) (show _=vB true from X)) X) ?_
 refine rs (Value.agg #[vI 1,vS (⟨#[105,110,116,51,50]⟩:ByteArray),vI 4,vB true,vI 0,vI 0,vL none 0 0]) (jy (cs:=[vI 1,vS (⟨#[105,110,116,51,50]⟩:ByteArray),vI 4,vB true,vI 0,vI 0,vL none 0 0]) (ps:=[(0,vI 1),(1,vS (⟨#[105,110,116,51,50]⟩:ByteArray)),(2,Value.agg #[vI 4,vB true])]) A9 An (pl:=#[(0,1),(1,1),(2,2),(4,1),(5,1),(6,1)]) (fun w=>by simp [Tryz.sizeOf3,Tryz.sizeOf55,Tryz.sizeOf56,Tryz.sizeOf9]) (xM (show _=vI 1 from X) (show _=vS (⟨#[105,110,116,51,50]⟩:ByteArray) from X) (show _=Value.agg #[vI 4,vB true] from X)) X) ?_
 refine rs (Value.agg #[vI 4,vS (⟨#[116,104,114,101,97,100,95,116]⟩:ByteArray),vI 0,vB false,vI 0,vI 24,vL (rowA (some b2)) 3 3]) (aT (n:=7) (vs:=[vI 4,vS (⟨#[116,104,114,101,97,100,95,116]⟩:ByteArray),vI 0,vB false,vI 0,vI 24,vL (rowA (some b2)) 3 3]) X A7 (HS4.look 0 X) AH X X)<|rs (Value.agg #[vI 2,vS ByteArray.empty,vI 0,vB false,vI 1,vI 0,vL none 0 0]) (jy (cs:=[vI 2,vS ByteArray.empty,vI 0,vB false,vI 1,vI 0,vL none 0 0]) (ps:=[(0,vI 2),(3,vI 1)]) A9 An (pl:=#[(0,1),(1,1),(2,2),(4,1),(5,1),(6,1)]) (fun w=>by simp [Tryz.sizeOf3,Tryz.sizeOf55,Tryz.sizeOf56,Tryz.sizeOf9]) (qp (show _=vI 2 from X) (show _=vI 1 from X)) X) ?_
 refine aK (by simp only [sc0,sc1];rfl) ?_
 refine rs (Value.agg #[vI 3,vS ByteArray.empty,vI 0,vB false,vI 4,vI 8,vL none 0 0]) (jy (cs:=[vI 3,vS ByteArray.empty,vI 0,vB false,vI 4,vI 8,vL none 0 0]) (ps:=[(0,vI 3),(3,vI 4),(4,vI 8)]) A9 An (pl:=#[(0,1),(1,1),(2,2),(4,1),(5,1),(6,1)]) (fun w=>by simp [Tryz.sizeOf3,Tryz.sizeOf55,Tryz.sizeOf56,Tryz.sizeOf9]) (xM (show _=vI 3 from X) (show _=vI 4 from X) (show _=vI 8 from X)) X) ?_
 refine rs (Value.agg #[vI 1,vB true]) (jy (cs:=[vI 1,vB true]) (ps:=[(0,vI 1),(1,vB true)]) B2 A_ (pl:=#[(0,1),(1,1)]) (fun w=>by simp [Tryz.sizeOf3,Tryz.sizeOf4]) (qp (show _=vI 1 from X) (show _=vB true from X)) X) ?_
 refine rs (Value.agg #[vI 1,vS (⟨#[99,104,97,114]⟩:ByteArray),vI 1,vB true,vI 0,vI 0,vL none 0 0]) (jy (cs:=[vI 1,vS (⟨#[99,104,97,114]⟩:ByteArray),vI 1,vB true,vI 0,vI 0,vL none 0 0]) (ps:=[(0,vI 1),(1,vS (⟨#[99,104,97,114]⟩:ByteArray)),(2,Value.agg #[vI 1,vB true])]) A9 An (pl:=#[(0,1),(1,1),(2,2),(4,1),(5,1),(6,1)]) (fun w=>by simp [Tryz.sizeOf3,Tryz.sizeOf55,Tryz.sizeOf56,Tryz.sizeOf9]) (xM (show _=vI 1 from X) (show _=vS (⟨#[99,104,97,114]⟩:ByteArray) from X) (show _=Value.agg #[vI 1,vB true] from X)) X) ?_
 have HS5:St [] h0 w0 h0 [(some b3, .cells #[vI 4,vS (⟨#[116,104,114,101,97,100,95,116]⟩:ByteArray),vI 0,vB false,vI 0,vI 24,vL (rowA (some b2)) (([(⟨(⟨#[116,95,116,105,100]⟩:ByteArray),0,0⟩:bf),(⟨(⟨#[116,95,110,101,120,116]⟩:ByteArray),2,8⟩:bf),(⟨(⟨#[116,95,110,97,109,101]⟩:ByteArray),3,16⟩:bf)]:List bf).length) 3] 58 (0,0)),((some b2), .cells ([vS (⟨#[116,95,116,105,100]⟩:ByteArray),vI 0,vI 0,vS (⟨#[116,95,110,101,120,116]⟩:ByteArray),vI 2,vI 8,vS (⟨#[116,95,110,97,109,101]⟩:ByteArray),vI 3,vI 16]).toArray 48 (0,0)),(some b1, .cells #[vL none 0 0] 24 (0,0))] w4:=HS4.cast (by first|rfl|(rw [ho1.len];done)|(rw [ho1.len];rfl))
 have ho2:=ho1.norm
 obtain ⟨h1,HS6,hs1,oV⟩:=lC HS5 (i:=1) rfl ho2
 have HS7:St [] h0 w0 h1 [(some b3, .cells #[vI 4,vS (⟨#[116,104,114,101,97,100,95,116]⟩:ByteArray),vI 0,vB false,vI 0,vI 24,vL (rowA (some b2)) ([(⟨(⟨#[116,95,116,105,100]⟩:ByteArray),0,0⟩:bf),(⟨(⟨#[116,95,110,101,120,116]⟩:ByteArray),2,8⟩:bf),(⟨(⟨#[116,95,110,97,109,101]⟩:ByteArray),3,16⟩:bf)]:List bf).length 3] 58 (0,0)),(some b1, .cells #[vL none 0 0] 24 (0,0))] w4:=HS6
 refine ng bI (xs:=([(⟨1,(⟨#[105,110,116,51,50]⟩:ByteArray),(⟨4,true⟩:jE),0,0,[]⟩:aZ),(⟨4,(⟨#[116,104,114,101,97,100,95,116]⟩:ByteArray),(⟨0,false⟩:jE),0,24,([(⟨(⟨#[116,95,116,105,100]⟩:ByteArray),0,0⟩:bf),(⟨(⟨#[116,95,110,101,120,116]⟩:ByteArray),2,8⟩:bf),(⟨(⟨#[116,95,110,97,109,101]⟩:ByteArray),3,16⟩:bf)]:List bf)⟩:aZ),(⟨2,ByteArray.empty,(⟨0,false⟩:jE),1,0,[]⟩:aZ),(⟨3,ByteArray.empty,(⟨0,false⟩:jE),4,8,[]⟩:aZ),(⟨1,(⟨#[99,104,97,114]⟩:ByteArray),(⟨1,true⟩:jE),0,0,[]⟩:aZ)]:List aZ)) (n:=5) (cs:=[vI 1,vS (⟨#[105,110,116,51,50]⟩:ByteArray),vI 4,vB true,vI 0,vI 0,vL none 0 0,vI 4,vS (⟨#[116,104,114,101,97,100,95,116]⟩:ByteArray),vI 0,vB false,vI 0,vI 24,vL (rowA (some b2)) ([(⟨(⟨#[116,95,116,105,100]⟩:ByteArray),0,0⟩:bf),(⟨(⟨#[116,95,110,101,120,116]⟩:ByteArray),2,8⟩:bf),(⟨(⟨#[116,95,110,97,109,101]⟩:ByteArray),3,16⟩:bf)]:List bf).length 3,vI 2,vS ByteArray.empty,vI 0,vB false,vI 1,vI 0,vL none 0 0,vI 3,vS ByteArray.empty,vI 0,vB false,vI 4,vI 8,vL none 0 0,vI 1,vS (⟨#[99,104,97,114]⟩:ByteArray),vI 1,vB true,vI 0,vI 0,vL none 0 0]) AF B0 A9 X X (by decide) (by decide) (by decide) [Value.agg #[vI 1,vS (⟨#[105,110,116,51,50]⟩:ByteArray),vI 4,vB true,vI 0,vI 0,vL none 0 0],Value.agg #[vI 4,vS (⟨#[116,104,114,101,97,100,95,116]⟩:ByteArray),vI 0,vB false,vI 0,vI 24,vL (rowA (some b2)) ([(⟨(⟨#[116,95,116,105,100]⟩:ByteArray),0,0⟩:bf),(⟨(⟨#[116,95,110,101,120,116]⟩:ByteArray),2,8⟩:bf),(⟨(⟨#[116,95,110,97,109,101]⟩:ByteArray),3,16⟩:bf)]:List bf).length 3],Value.agg #[vI 2,vS ByteArray.empty,vI 0,vB false,vI 1,vI 0,vL none 0 0],Value.agg #[vI 3,vS ByteArray.empty,vI 0,vB false,vI 4,vI 8,vL none 0 0],Value.agg #[vI 1,vS (⟨#[99,104,97,114]⟩:ByteArray),vI 1,vB true,vI 0,vI 0,vL none 0 0]] (jd.trans X) X X X X (fH (qs:=[vI 1,vS (⟨#[105,110,116,51,50]⟩:ByteArray),vI 4,vB true,vI 0,vI 0,vL none 0 0]) ⟨[vI 1],[vS (⟨#[105,110,116,51,50]⟩:ByteArray),vI 4,vB true,vI 0,vI 0,vL none 0 0],X,X,⟨[vS (⟨#[105,110,116,51,50]⟩:ByteArray)],[vI 4,vB true,vI 0,vI 0,vL none 0 0],X,X,⟨[vI 4,vB true],[vI 0,vI 0,vL none 0 0],X,⟨[vI 4],[vB true],X,X,X⟩,⟨[vI 0],[vI 0,vL none 0 0],X,X,⟨[vI 0],[vL none 0 0],X,X,⟨none,0,X,(Nat.le_refl 0),(Rd.nil _ _ _)⟩⟩⟩⟩⟩⟩ (fH (qs:=[vI 4,vS (⟨#[116,104,114,101,97,100,95,116]⟩:ByteArray),vI 0,vB false,vI 0,vI 24,vL (rowA (some b2)) ([(⟨(⟨#[116,95,116,105,100]⟩:ByteArray),0,0⟩:bf),(⟨(⟨#[116,95,110,101,120,116]⟩:ByteArray),2,8⟩:bf),(⟨(⟨#[116,95,110,97,109,101]⟩:ByteArray),3,16⟩:bf)]:List bf).length 3]) ⟨[vI 4],[vS (⟨#[116,104,114,101,97,100,95,116]⟩:ByteArray),vI 0,vB false,vI 0,vI 24,vL (rowA (some b2)) ([(⟨(⟨#[116,95,116,105,100]⟩:ByteArray),0,0⟩:bf),(⟨(⟨#[116,95,110,101,120,116]⟩:ByteArray),2,8⟩:bf),(⟨(⟨#[116,95,110,97,109,101]⟩:ByteArray),3,16⟩:bf)]:List bf).length 3],X,X,⟨[vS (⟨#[116,104,114,101,97,100,95,116]⟩:ByteArray)],[vI 0,vB false,vI 0,vI 24,vL (rowA (some b2)) ([(⟨(⟨#[116,95,116,105,100]⟩:ByteArray),0,0⟩:bf),(⟨(⟨#[116,95,110,101,120,116]⟩:ByteArray),2,8⟩:bf),(⟨(⟨#[116,95,110,97,109,101]⟩:ByteArray),3,16⟩:bf)]:List bf).length 3],X,X,⟨[vI 0,vB false],[vI 0,vI 24,vL (rowA (some b2)) ([(⟨(⟨#[116,95,116,105,100]⟩:ByteArray),0,0⟩:bf),(⟨(⟨#[116,95,110,101,120,116]⟩:ByteArray),2,8⟩:bf),(⟨(⟨#[116,95,110,97,109,101]⟩:ByteArray),3,16⟩:bf)]:List bf).length 3],X,⟨[vI 0],[vB false],X,X,X⟩,⟨[vI 0],[vI 24,vL (rowA (some b2)) ([(⟨(⟨#[116,95,116,105,100]⟩:ByteArray),0,0⟩:bf),(⟨(⟨#[116,95,110,101,120,116]⟩:ByteArray),2,8⟩:bf),(⟨(⟨#[116,95,110,97,109,101]⟩:ByteArray),3,16⟩:bf)]:List bf).length 3],X,X,⟨[vI 24],[vL (rowA (some b2)) ([(⟨(⟨#[116,95,116,105,100]⟩:ByteArray),0,0⟩:bf),(⟨(⟨#[116,95,110,101,120,116]⟩:ByteArray),2,8⟩:bf),(⟨(⟨#[116,95,110,97,109,101]⟩:ByteArray),3,16⟩:bf)]:List bf).length 3],X,X,⟨(rowA (some b2)),3,X,ho2.cap,oV⟩⟩⟩⟩⟩⟩ (fH (qs:=[vI 2,vS ByteArray.empty,vI 0,vB false,vI 1,vI 0,vL none 0 0]) ⟨[vI 2],[vS ByteArray.empty,vI 0,vB false,vI 1,vI 0,vL none 0 0],X,X,⟨[vS ByteArray.empty],[vI 0,vB false,vI 1,vI 0,vL none 0 0],X,X,⟨[vI 0,vB false],[vI 1,vI 0,vL none 0 0],X,⟨[vI 0],[vB false],X,X,X⟩,⟨[vI 1],[vI 0,vL none 0 0],X,X,⟨[vI 0],[vL none 0 0],X,X,⟨none,0,X,(Nat.le_refl 0),(Rd.nil _ _ _)⟩⟩⟩⟩⟩⟩ (fH (qs:=[vI 3,vS ByteArray.empty,vI 0,vB false,vI 4,vI 8,vL none 0 0]) ⟨[vI 3],[vS ByteArray.empty,vI 0,vB false,vI 4,vI 8,vL none 0 0],X,X,⟨[vS ByteArray.empty],[vI 0,vB false,vI 4,vI 8,vL none 0 0],X,X,⟨[vI 0,vB false],[vI 4,vI 8,vL none 0 0],X,⟨[vI 0],[vB false],X,X,X⟩,⟨[vI 4],[vI 8,vL none 0 0],X,X,⟨[vI 8],[vL none 0 0],X,X,⟨none,0,X,(Nat.le_refl 0),(Rd.nil _ _ _)⟩⟩⟩⟩⟩⟩ (fH (qs:=[vI 1,vS (⟨#[99,104,97,114]⟩:ByteArray),vI 1,vB true,vI 0,vI 0,vL none 0 0]) ⟨[vI 1],[vS (⟨#[99,104,97,114]⟩:ByteArray),vI 1,vB true,vI 0,vI 0,vL none 0 0],X,X,⟨[vS (⟨#[99,104,97,114]⟩:ByteArray)],[vI 1,vB true,vI 0,vI 0,vL none 0 0],X,X,⟨[vI 1,vB true],[vI 0,vI 0,vL none 0 0],X,⟨[vI 1],[vB true],X,X,X⟩,⟨[vI 0],[vI 0,vL none 0 0],X,X,⟨[vI 0],[vL none 0 0],X,X,⟨none,0,X,(Nat.le_refl 0),(Rd.nil _ _ _)⟩⟩⟩⟩⟩⟩ (jc (cs:=[]))))))) HS7 ?_
 intro w5 b4 HS8 ho3
 refine aK (by simp only [sc0,sc1];rfl) ?_
 refine rs (Value.agg #[vL (rowA (some b4)) 5 5]) (jy (cs:=[vL (rowA (some b4)) 5 5]) (ps:=[(0,vL (rowA (some b4)) 5 5)]) Bp AE (pl:=#[(0,1)]) (fun w=>by simp [Tryz.sizeOf22]) (pq (show _=vL (rowA (some b4)) 5 5 from X)) X) ?_
 refine gJ (i:=2) (cs:=[vL none 0 0]) (cs':=[vL (rowA (some b4)) 5 5]) (vs:=[vL (rowA (some b4)) 5 5]) (bs':=[((some b4), .cells ([vI 1,vS (⟨#[105,110,116,51,50]⟩:ByteArray),vI 4,vB true,vI 0,vI 0,vL none 0 0,vI 4,vS (⟨#[116,104,114,101,97,100,95,116]⟩:ByteArray),vI 0,vB false,vI 0,vI 24,vL (rowA (some b2)) ([(⟨(⟨#[116,95,116,105,100]⟩:ByteArray),0,0⟩:bf),(⟨(⟨#[116,95,110,101,120,116]⟩:ByteArray),2,8⟩:bf),(⟨(⟨#[116,95,110,97,109,101]⟩:ByteArray),3,16⟩:bf)]:List bf).length 3,vI 2,vS ByteArray.empty,vI 0,vB false,vI 1,vI 0,vL none 0 0,vI 3,vS ByteArray.empty,vI 0,vB false,vI 4,vI 8,vL none 0 0,vI 1,vS (⟨#[99,104,97,114]⟩:ByteArray),vI 1,vB true,vI 0,vI 0,vL none 0 0]).toArray 58 (0,0)),(some b3, .cells #[vI 4,vS (⟨#[116,104,114,101,97,100,95,116]⟩:ByteArray),vI 0,vB false,vI 0,vI 24,vL (rowA (some b2)) ([(⟨(⟨#[116,95,116,105,100]⟩:ByteArray),0,0⟩:bf),(⟨(⟨#[116,95,110,101,120,116]⟩:ByteArray),2,8⟩:bf),(⟨(⟨#[116,95,110,97,109,101]⟩:ByteArray),3,16⟩:bf)]:List bf).length 3] 58 (0,0)),(some b1, .cells #[vL (rowA (some b4)) 5 5] 24 (0,0))]) X X AD X X (by decide) X HS8 X (Ax X) X X ?_
 intro w6 HS9
 try simp only [sc0,sc1]
 refine aB<|ay<|AT ?_
 obtain rfl:=Ab H
 refine Ay (bD X (kY X AI (HS9.look 2 X) AD X)) X ?_
 obtain ⟨h2,kF,hs2,D8⟩:=lC HS9 (i:=0) rfl ho3
 replace oV:Rd dw h2 (rowA (some b2)) ([(⟨(⟨#[116,95,116,105,100]⟩:ByteArray),0,0⟩:bf),(⟨(⟨#[116,95,110,101,120,116]⟩:ByteArray),2,8⟩:bf),(⟨(⟨#[116,95,110,97,109,101]⟩:ByteArray),3,16⟩:bf)]:List bf):=oV.ext hs2
 exact ⟨h2,(rowA (some b4)),5,(by first|rfl|(rw [ho3.len];done)|(rw [ho3.len];rfl)),ho3.cap,D8,kF.gr,kF.sees,kF.toE⟩
def jY.f (k:Nat) (a0:aQ) (a1:Int):Option (Int):=(dH.f k a0).bind fun v1=>(if (!v1)=true then (some 80) else (if ((decide (a1<0))||(decide (a1≥(a0.au.length:Int))))=true then (some 3) else (some 0)))
theorem jY.calls (k:Nat) (a0:aQ) (a1:Int) (bQ:Option Addr) (bT:Nat) {h0:View} {w0:World} (hv:lS h0 w0) (fK:Rd bI h0 bQ a0.au) (iF:a0.au.length≤bT) {r:Int} (H:jY.f k a0 a1=some r):Calls Tryz.prog 40 #[Value.agg #[vL bQ a0.au.length bT],vI a1] w0 (fun e w1=>e= .returned (vI r)∧Ext w0 w1):=by
 unfold jY.f at H
 have HS:St [] h0 w0 h0 [] w0:=St.init hv
 go_enter Tryz.func40,Tryz.ntmps40
 refine Al<|Ao<|dF X X (eF (cs:=#[vL bQ a0.au.length bT]) X X) ?_
 rintro w1 _ hE1 ⟨b1,rfl,ge1,hb1⟩
 have HS1:=HS.new hE1 ge1 hb1
 refine rs (vI 0) (aG X) ?_
 try simp only [sc0,sc1]
 refine aB<|ay<|Al<|wp_block<|Al<|Ao<|rs (Value.agg #[vL bQ a0.au.length bT]) (aT (n:=1) (vs:=[vL bQ a0.au.length bT]) X AI (HS1.look 0 X) AD X X) ?_
 obtain ⟨v1,H1,H⟩:=bn H
 refine run_eq (v:=vB v1) X X (bC Cu X X (dH.calls k a0 bQ bT HS1.sees fK iF H1)) ?_
 intro w2 hE2
 have HS2:=HS1.step hE2
 refine rs (vB (!v1)) (mZ X)<|rs (vB (!v1)) (aG X) ?_
 try simp only [sc0,sc1]
 refine aB<|ay<|Av (t:=(!v1)) X (fun c1=>?_) (fun c1=>?_)
 ·replace H:=bU H c1
  refine Al<|Ao<|rs (vI 80) (aG X) ?_
  try simp only [sc0,sc1]
  refine aB<|ay<|AT<|fA<|bP ?_
  obtain rfl:=Ab H
  exact Ay (bD X (bK X)) X<|⟨X,HS2.toE⟩
 ·replace H:=cO H (nt c1)
  refine Al<|Ao<|rs (vI a1) (aO X)<|rs (vB (decide (a1<0))) (bW X X X)<|rs (vB (decide (a1<0))) (aO X)<|rgs (decide (a1<0)) true (vI a1) X X X X (fun hg=>(aO X))<|aK (by simp only [sc0,sc1];rfl) ?_
  refine rgs (decide (a1<0)) true (vP b1 0) X X X X (fun hg=>(aH (n:=1) (o':=0) X AE X AM (by decide) X))<|rgs (decide (a1<0)) true (vL bQ a0.au.length bT) X X X X (fun hg=>(aN (gvt (vP b1 0) hg X) AR (HS2.look 0 X) X))<|rgs (decide (a1<0)) true (vI (a0.au.length:Int)) X X X X (fun hg=>(jD (gvt (vL bQ a0.au.length bT) hg X) AF))<|rgs (decide (a1<0)) true (vB (decide (a1≥(a0.au.length:Int)))) X X X X (fun hg=>(bW (gvt (vI a1) hg X) (gvt (vI (a0.au.length:Int)) hg X) X))<|aK (by simp only [sc0,sc1];rfl) ?_
  refine rs (vB ((decide (a1<0))||(decide (a1≥(a0.au.length:Int))))) (dQ X X (fun hp=>(gvt (vB (decide (a1≥(a0.au.length:Int)))) (gQ X hp) X)))<|rs (vB ((decide (a1<0))||(decide (a1≥(a0.au.length:Int))))) (aG X) ?_
  try simp only [sc0,sc1]
  refine aB<|ay<|Av (t:=((decide (a1<0))||(decide (a1≥(a0.au.length:Int))))) X (fun c2=>?_) (fun c2=>?_)
  ·replace H:=bU H c2
   refine Al<|Ao<|rs (vI 3) (aG X) ?_
   try simp only [sc0,sc1]
   refine aB<|ay<|AT<|fA<|bP ?_
   obtain rfl:=Ab H
   exact Ay (bD X (bK X)) X<|⟨X,HS2.toE⟩
  ·replace H:=cO H (nt c2)
   refine AN<|dD<|ay<|Al<|Ao<|rs (vI 0) (aG X) ?_
   try simp only [sc0,sc1]
   refine aB<|ay<|AT ?_
   obtain rfl:=Ab H
   exact Ay (bD X (bK X)) X<|⟨X,HS2.toE⟩
def zW.f (k:Nat) (a0:aQ) (a1:Int):Option (Int×Int):=(jY.f k a0 a1).bind fun v1=>(if (v1 !=0)=true then (some (0,v1)) else ((iT.f k a0).bind fun v2=>(if 0≤a1∧a1<v2.1.length then (some ((rd 0 v2.1 a1),0)) else none)))
theorem zW.calls (k:Nat) (a0:aQ) (a1:Int) (bQ:Option Addr) (bT:Nat) {h0:View} {w0:World} (hv:lS h0 w0) (fK:Rd bI h0 bQ a0.au) (iF:a0.au.length≤bT) {r:Int×Int} (H:zW.f k a0 a1=some r):Calls Tryz.prog 14 #[Value.agg #[vL bQ a0.au.length bT],vI a1] w0 (fun e w1=>e= .returned (Value.tuple #[vI r.1,vI r.2])∧Ext w0 w1):=by
 unfold zW.f at H
 have HS:St [] h0 w0 h0 [] w0:=St.init hv
 go_enter Tryz.func14,Tryz.ntmps14
 refine Al<|Ao<|dF X X (eF (cs:=#[vL bQ a0.au.length bT]) X X) ?_
 rintro w1 _ hE1 ⟨b1,rfl,ge1,hb1⟩
 have HS1:=HS.new hE1 ge1 hb1
 refine rs (vI 0) (aG X)<|rs (vI 0) (aG X) ?_
 try simp only [sc0,sc1]
 refine aB<|ay<|Al<|Al<|Ao<|rs (Value.agg #[vL bQ a0.au.length bT]) (aT (n:=1) (vs:=[vL bQ a0.au.length bT]) X AI (HS1.look 0 X) AD X X)<|rs (vI a1) (aO X) ?_
 obtain ⟨v1,H1,H⟩:=bn H
 refine run_eq (v:=vI v1) X X (bC CN X X (jY.calls k a0 a1 bQ bT HS1.sees fK iF H1)) ?_
 intro w2 hE2
 have HS2:=HS1.step hE2
 refine rs (vI v1) (aG X) ?_
 try simp only [sc0,sc1]
 refine aB<|ay<|Al<|Ao<|rs (vI v1) (aO X)<|rs (vB (v1 !=0)) (bW X X X) ?_
 try simp only [sc0,sc1]
 refine aB<|ay<|Av (t:=(v1 !=0)) X (fun c1=>?_) (fun c1=>?_)
 ·replace H:=bU H c1
  refine Al<|Ao<|rs (vI v1) (aO X)<|rs (vI 0) (aG X)<|rs (vI v1) (aG X) ?_
  try simp only [sc0,sc1]
  refine aB<|ay<|AT<|bP ?_
  obtain rfl:=Ab H
  exact Ay (oL X (bK X) (bK X)) X<|⟨X,HS2.toE⟩
 ·replace H:=cO H (nt c1)
  refine AN<|ay<|Al<|Ao<|rs (Value.agg #[vL bQ a0.au.length bT]) (aT (n:=1) (vs:=[vL bQ a0.au.length bT]) X AI (HS2.look 0 X) AD X X) ?_
  obtain ⟨v2,H2,H⟩:=bn H
  refine dF X X (iQ Tryz.call41 X (jX (h:=h0) (R:=(fun hx u=>∃(iZ:Option Addr) (jG:Nat),u=Value.tuple #[vL iZ v2.1.length jG,vB v2.2]∧v2.1.length≤jG∧Rd (Kd.int .i64) hx iZ v2.1)) (Ext.rfl' w2) ((iT.calls k a0 bQ bT HS2.sees fK iF H2).mono ?_)) X) ?_
  ·rintro _ _ ⟨h1,iZ,jG,rfl,qK,jK,g,ss,x⟩
   exact ⟨h1,_,X,⟨iZ,jG,X,qK,jK⟩,g,ss,x⟩
  rintro w3 _ hE3 ⟨h1,⟨iZ,jG,rfl,qK,jK⟩,gr1,se1⟩
  have HS3:=HS2.view hE3 gr1 se1
  refine rs (Value.tuple #[vL iZ v2.1.length jG,vB v2.2]) (aO X)<|rs (vL iZ v2.1.length jG) (gV X X)<|aK (by simp only [sc0,sc1];rfl) ?_
  refine rs (vB v2.2) (gV X X)<|rs (vL iZ v2.1.length jG) (aG X)<|rs (vB v2.2) (aG X) ?_
  try simp only [sc0,sc1]
  refine aB<|ay<|Al<|Ao<|rs (vL iZ v2.1.length jG) (aO X)<|rs (vI a1) (aO X) ?_
  obtain ⟨hi1,H⟩:=dN H
  obtain ⟨ad1,e1,mJ⟩:=qY jK hi1.1 hi1.2
  refine rs (Value.pointer (some (Addr.add ad1 (a1.toNat*1)))) (dP (sz:=1) X e1 X hi1.1 hi1.2 AG As)<|rs (vI (rd 0 v2.1 a1)) (kE X AC (mJ.cell0 HS3.sees X))<|aK (by simp only [sc0,sc1];rfl) ?_
  refine rs (vI (rd 0 v2.1 a1)) (aG X)<|rs (vI 0) (aG X) ?_
  try simp only [sc0,sc1]
  refine aB<|ay<|AT ?_
  obtain rfl:=Ab H
  exact Ay (oL X (bK X) (bK X)) X<|⟨X,HS3.toE⟩
def zX.f (k:Nat) (a0:aQ) (a1:Int):Option (ByteArray×Int):=(jY.f k a0 a1).bind fun v1=>(if (v1 !=0)=true then (some (ByteArray.empty,v1)) else ((fB.f k a0 a1).bind fun v2=>(some (v2,0))))
theorem zX.calls (k:Nat) (a0:aQ) (a1:Int) (bQ:Option Addr) (bT:Nat) {h0:View} {w0:World} (hv:lS h0 w0) (ht:Tab w0) (fK:Rd bI h0 bQ a0.au) (iF:a0.au.length≤bT) {r:ByteArray×Int} (H:zX.f k a0 a1=some r):Calls Tryz.prog 15 #[Value.agg #[vL bQ a0.au.length bT],vI a1] w0 (fun e w1=>e= .returned (Value.tuple #[vS r.1,vI r.2])∧Ext w0 w1):=by
 unfold zX.f at H
 have HS:St [] h0 w0 h0 [] w0:=St.init hv
 go_enter Tryz.func15,Tryz.ntmps15
 refine Al<|Ao<|dF X X (eF (cs:=#[vL bQ a0.au.length bT]) X X) ?_
 rintro w1 _ hE1 ⟨b1,rfl,ge1,hb1⟩
 have HS1:=HS.new hE1 ge1 hb1
 refine rs (vS ByteArray.empty) (aG X)<|rs (vI 0) (aG X) ?_
 try simp only [sc0,sc1]
 refine aB<|ay<|Al<|Al<|Ao<|rs (Value.agg #[vL bQ a0.au.length bT]) (aT (n:=1) (vs:=[vL bQ a0.au.length bT]) X AI (HS1.look 0 X) AD X X)<|rs (vI a1) (aO X) ?_
 obtain ⟨v1,H1,H⟩:=bn H
 refine run_eq (v:=vI v1) X X (bC CN X X (jY.calls k a0 a1 bQ bT HS1.sees fK iF H1)) ?_
 intro w2 hE2
 have HS2:=HS1.step hE2
 refine rs (vI v1) (aG X) ?_
 try simp only [sc0,sc1]
 refine aB<|ay<|Al<|Ao<|rs (vI v1) (aO X)<|rs (vB (v1 !=0)) (bW X X X) ?_
 try simp only [sc0,sc1]
 refine aB<|ay<|Av (t:=(v1 !=0)) X (fun c1=>?_) (fun c1=>?_)
 ·replace H:=bU H c1
  refine Al<|Ao<|rs (vI v1) (aO X)<|rs (vS ByteArray.empty) (aG X)<|rs (vI v1) (aG X) ?_
  try simp only [sc0,sc1]
  refine aB<|ay<|AT<|bP ?_
  obtain rfl:=Ab H
  exact Ay (oL X (bK X) (bK X)) X<|⟨X,HS2.toE⟩
 ·replace H:=cO H (nt c1)
  refine AN<|ay<|Al<|Ao<|rs (Value.agg #[vL bQ a0.au.length bT]) (aT (n:=1) (vs:=[vL bQ a0.au.length bT]) X AI (HS2.look 0 X) AD X X)<|rs (vI a1) (aO X) ?_
  obtain ⟨v2,H2,H⟩:=bn H
  refine run_eq (v:=vS v2) X X (bC Cd X X (fB.calls k a0 a1 bQ bT HS2.sees (ht.s HS2) fK iF H2)) ?_
  intro w3 hE3
  have HS3:=HS2.step hE3
  refine rs (vS v2) (aG X)<|aK (by simp only [sc0,sc1];rfl) ?_
  refine rs (vI 0) (aG X) ?_
  try simp only [sc0,sc1]
  refine aB<|ay<|AT ?_
  obtain rfl:=Ab H
  exact Ay (oL X (bK X) (bK X)) X<|⟨X,HS3.toE⟩
def lT.l0 (a0:aQ):Nat→Int→Option (Int)
 |0,_=>none
 |m+1,aC=>if 0≤aC∧aC<a0.au.length then (if ((rd ah a0.au aC).aA==6)=true then (if 0≤aC∧aC<a0.au.length then (lT.l0 a0 m ((rd ah a0.au aC).bY)) else none) else (some aC)) else none
def lT.f (k:Nat) (a0:aQ) (a1:Int):Option (Int):=(lT.l0 a0 k a1).bind fun xx1=>(some xx1)
theorem lT.calls (k:Nat) (a0:aQ) (a1:Int) (bQ:Option Addr) (bT:Nat) {h0:View} {w0:World} (hv:lS h0 w0) (fK:Rd bI h0 bQ a0.au) (iF:a0.au.length≤bT) {r:Int} (H:lT.f k a0 a1=some r):Calls Tryz.prog 70 #[Value.agg #[vL bQ a0.au.length bT],vI a1] w0 (fun e w1=>e= .returned (vI r)∧Ext w0 w1):=by
 unfold lT.f at H
 have HS:St [] h0 w0 h0 [] w0:=St.init hv
 go_enter Tryz.func70,Tryz.ntmps70
 refine Al<|Ao<|dF X X (eF (cs:=#[vL bQ a0.au.length bT]) X X) ?_
 rintro w1 _ hE1 ⟨b1,rfl,ge1,hb1⟩
 have HS1:=HS.new hE1 ge1 hb1
 refine rs (vI 0) (aG X) ?_
 try simp only [sc0,sc1]
 refine aB<|ay<|Al ?_
 obtain ⟨xx1,H,G1⟩:=bn H
 refine jB [1,5,6,7,8,9,10,11,12,13,14,15,16,17] (fun m us w'=>∃(aC:Int),Fit us (fun uy1=>[vI aC,(uy1 1),(uy1 2),(uy1 3),(uy1 4),(uy1 5),(uy1 6),(uy1 7),(uy1 8),(uy1 9),(uy1 10),(uy1 11),(uy1 12),(uy1 13)])∧lT.l0 a0 m aC=some xx1∧St [] h0 w0 h0 [(some b1, .cells #[vL bQ a0.au.length bT] 24 (0,0))] w') (fun us w'=>Fit us (fun uo1=>[vI xx1,(uo1 1),(uo1 2),(uo1 3),(uo1 4),(uo1 5),(uo1 6),(uo1 7),(uo1 8),(uo1 9),(uo1 10),(uo1 11),(uo1 12),(uo1 13)])∧St [] h0 w0 h0 [(some b1, .cells #[vL bQ a0.au.length bT] 24 (0,0))] w') k ⟨a1,(fit X),H,HS1⟩ ?_ ?_
 ·rintro m us w2 ⟨aC,nO,H,HS2⟩
  obtain ⟨uy1,rfl⟩:=unj nO
  cases m with
  |zero=>exact absurd H (by simp [lT.l0])
  |succ m=>
   rw [lT.l0] at H
   try simp only [patch,sc0,sc1]
   refine Al<|Al<|Ao<|rs (vP b1 0) (aH (n:=1) (o':=0) X AE X AM (by decide) X)<|rs (vL bQ a0.au.length bT) (aN X AR (HS2.look 0 X) X)<|rs (vI aC) (aO X) ?_
   obtain ⟨hi1,H⟩:=dN H
   obtain ⟨ad1,dU,dY,e1,mJ,jS,iY⟩:=gK fK hi1.1 hi1.2
   refine rs (Value.pointer (some (Addr.add ad1 (aC.toNat*7)))) (dP (sz:=7) X e1 X hi1.1 hi1.2 AF AH)<|aK (by simp only [sc0,sc1];rfl) ?_
   refine rs (Value.pointer (some (Addr.add (Addr.add ad1 (aC.toNat*7)) 0))) (nX (n:=1) (o':=0) X An X As (by decide) X)<|rs (vI ((rd ah a0.au aC).aA)) (kE X AC (mJ.cell HS2.sees 0 X))<|rs (vB ((rd ah a0.au aC).aA==6)) (bW X X X) ?_
   try simp only [sc0,sc1]
   refine aB<|ay<|Av (t:=((rd ah a0.au aC).aA==6)) X (fun c1=>?_) (fun c1=>?_)
   ·replace H:=bU H c1
    refine AN<|ay<|wp_block<|Ao<|rs (vP b1 0) (aH (n:=1) (o':=0) X AE X AM (by decide) X)<|rs (vL bQ a0.au.length bT) (aN X AR (HS2.look 0 X) X)<|rs (vI aC) (aO X) ?_
    obtain ⟨hi2,H⟩:=dN H
    obtain ⟨ad2,mO,mX,e2,tN,xY,vJ⟩:=gK fK hi2.1 hi2.2
    refine rs (Value.pointer (some (Addr.add ad2 (aC.toNat*7)))) (dP (sz:=7) X e2 X hi2.1 hi2.2 AF AH)<|aK (by simp only [sc0,sc1];rfl) ?_
    refine rs (Value.pointer (some (Addr.add (Addr.add ad2 (aC.toNat*7)) 4))) (nX (n:=1) (o':=4) X An X As (by decide) X)<|rs (vI ((rd ah a0.au aC).bY)) (kE X AC (tN.cell HS2.sees 4 X))<|rs (vI ((rd ah a0.au aC).bY)) (aG X) ?_
    try simp only [sc0,sc1]
    refine aB<|dD<|gI m (Nat.lt_succ_self m) X ⟨(rd ah a0.au aC).bY,(fit X),H,HS2⟩
   ·replace H:=cO H (nt c1)
    refine Bx<|eU ?_
    obtain rfl:=Ab H
    refine iK X ⟨(fit X),HS2⟩
 ·rintro us w3 ⟨nP,HS3⟩
  obtain ⟨uo1,rfl⟩:=unj nP
  replace H:=G1
  clear G1
  try simp only [patch,sc0,sc1]
  refine ay<|Al<|Ao<|rs (vI xx1) (aO X)<|rs (vI xx1) (aG X) ?_
  try simp only [sc0,sc1]
  refine aB<|ay<|AT ?_
  obtain rfl:=Ab H
  exact Ay (bD X (bK X)) X<|⟨X,HS3.toE⟩
def lZ.l0 (a0:aQ) (a2:ByteArray) (v1:Int):Nat→Int→Option ((bf×Int)⊕(Unit))
 |0,_=>none
 |m+1,aC=>if (decide (aC<(((rd ah a0.au v1).ak).length:Int)))=true then (if 0≤aC∧aC<((rd ah a0.au v1).ak).length then (if (strEq ((rd aj ((rd ah a0.au v1).ak) aC).aF) a2)=true then (some (.inl ((rd aj ((rd ah a0.au v1).ak) aC),0))) else (lZ.l0 a0 a2 v1 m (IntKind.wrap .i64 (aC+1)))) else none) else (some (.inr ()))
def lZ.f (k:Nat) (a0:aQ) (a1:Int) (a2:ByteArray):Option (bf×Int):=(lT.f k a0 a1).bind fun v1=>(if 0≤v1∧v1<a0.au.length then (if ((rd ah a0.au v1).aA !=4)=true then (some ((⟨ByteArray.empty,0,0⟩:bf),5)) else ((lZ.l0 a0 a2 v1 k 0).bind fun xx1=>(match xx1 with| .inl r=>some r| .inr s1=>some ((⟨ByteArray.empty,0,0⟩:bf),3)))) else none)
theorem lZ.calls (k:Nat) (a0:aQ) (a1:Int) (a2:ByteArray) (bQ:Option Addr) (bT:Nat) {h0:View} {w0:World} (hv:lS h0 w0) (fK:Rd bI h0 bQ a0.au) (iF:a0.au.length≤bT) {r:bf×Int} (H:lZ.f k a0 a1 a2=some r):Calls Tryz.prog 43 #[Value.agg #[vL bQ a0.au.length bT],vI a1,vS a2] w0 (fun e w1=>e= .returned (Value.tuple #[Value.agg #[vS r.1.aF,vI r.1.vType,vI r.1.vAt],vI r.2])∧Ext w0 w1):=by
 unfold lZ.f at H
 have HS:St [] h0 w0 h0 [] w0:=St.init hv
 go_enter Tryz.func43,Tryz.ntmps43
 refine Al<|Ao<|dF X X (eF (cs:=#[vL bQ a0.au.length bT]) X X) ?_
 rintro w1 _ hE1 ⟨b1,rfl,ge1,hb1⟩
 have HS1:=HS.new hE1 ge1 hb1
 refine dF X X (dO (cs:=#[vS ByteArray.empty,vI 0,vI 0]) Bm X) ?_
 rintro w2 _ hE2 ⟨b2,rfl,ge2,hb2⟩
 have HS2:=HS1.new hE2 ge2 hb2
 refine rs (vI 0) (aG X) ?_
 try simp only [sc0,sc1]
 refine aB<|ay<|Al ?_
 obtain ⟨v1,H1,H⟩:=bn H
 obtain ⟨hi1,H⟩:=dN H
 obtain ⟨ad1,dU,dY,e1,mJ,jS,iY⟩:=gK fK hi1.1 hi1.2
 refine drawn [.eq (vP b1 0), .eq (vL bQ a0.au.length bT), .eq (Value.agg #[vL bQ a0.au.length bT]), .eq (vI a1), .eq (vI v1), .eq (Value.pointer (some (Addr.add ad1 (v1.toNat*7)))), .eq (Value.agg #[vI ((rd ah a0.au v1).aA),vS ((rd ah a0.au v1).aF),vI ((rd ah a0.au v1).aY.aU),vB ((rd ah a0.au v1).aY.aJ),vI ((rd ah a0.au v1).bY),vI ((rd ah a0.au v1).vN),vL dU ((rd ah a0.au v1).ak).length dY]), .ex (Ba w2 #[vI 0,vS ByteArray.empty,vI 0,vB false,vI 0,vI 0,vL none 0 0] 58)] [11,12,13,14,15,16,17,8] rM (by kernel_rfl) X (aP (aP (aP (aP (aP (aP (aP (vV Ba.stable iJ)))))))) ⟨aX X (fun a' w' hE hk=>by exact aW (aH (n:=1) (o':=0) (show _=vP b1 0 from hk 3 X) AE X AM (by decide) X)),aX X (fun a' w' hE hk=>by exact aW (aN (show _=vP b1 0 from hk 11 X) AR ((HS2.step hE).look 1 X) X)),aX X (fun a' w' hE hk=>by exact aW (aT (n:=1) (vs:=[vL bQ a0.au.length bT]) (show _=vP b1 0 from hk 3 X) AI ((HS2.step hE).look 1 X) AD X X)),aX X (fun a' w' hE hk=>by exact aW (aO (show _=vI a1 from hk 1 X))),aX X (fun a' w' hE hk=>by exact (bC Tryz.call70 X (wF (show _=Value.agg #[vL bQ a0.au.length bT] from hk 13 X) (show _=vI a1 from hk 14 X)) (lT.calls k a0 a1 bQ bT (HS2.step hE).sees fK iF H1))),aX X (fun a' w' hE hk=>by exact aW (dP (sz:=7) (show _=vL bQ a0.au.length bT from hk 12 X) e1 (show _=vI v1 from hk 15 X) hi1.1 hi1.2 AF AH)),aX X (fun a' w' hE hk=>by exact aW (gG (show _=Value.pointer (some (Addr.add ad1 (v1.toNat*7))) from hk 16 X) A7 (mJ.sees (HS2.step hE).sees) AH)),aX X (fun a' w' hE hk=>(Jl hE (cs:=#[vI 0,vS ByteArray.empty,vI 0,vB false,vI 0,vI 0,vL none 0 0]) A9 X)),trivial⟩ ?_
 intro w3 hE3
 simp only [List.zip_cons_cons,List.zip_nil_left,List.zip_nil_right,vO,sc0,sc1,List.length_cons,List.length_nil,List.drop_succ_cons,List.drop_zero,Nat.zero_add,Nat.reduceAdd]
 rintro _ ⟨b3,rfl,ge3,hb3⟩
 have HS3:=HS2.new hE3 ge3 hb3
 refine gJ (i:=0) (cs:=[vI 0,vS ByteArray.empty,vI 0,vB false,vI 0,vI 0,vL none 0 0]) (cs':=[vI ((rd ah a0.au v1).aA),vS ((rd ah a0.au v1).aF),vI ((rd ah a0.au v1).aY.aU),vB ((rd ah a0.au v1).aY.aJ),vI ((rd ah a0.au v1).bY),vI ((rd ah a0.au v1).vN),vL dU ((rd ah a0.au v1).ak).length dY]) (vs:=[vI ((rd ah a0.au v1).aA),vS ((rd ah a0.au v1).aF),vI ((rd ah a0.au v1).aY.aU),vB ((rd ah a0.au v1).aY.aJ),vI ((rd ah a0.au v1).bY),vI ((rd ah a0.au v1).vN),vL dU ((rd ah a0.au v1).ak).length dY]) (bs':=[(some b3, .cells #[vI ((rd ah a0.au v1).aA),vS ((rd ah a0.au v1).aF),vI ((rd ah a0.au v1).aY.aU),vB ((rd ah a0.au v1).aY.aJ),vI ((rd ah a0.au v1).bY),vI ((rd ah a0.au v1).vN),vL dU ((rd ah a0.au v1).ak).length dY] 58 (0,0)),(some b2, .cells #[vS ByteArray.empty,vI 0,vI 0] 48 (0,0)),(some b1, .cells #[vL bQ a0.au.length bT] 24 (0,0))]) X X AH X X (by decide) X HS3 X (Ax X) X X ?_
 intro w4 HS4
 try simp only [sc0,sc1]
 refine aB<|ay<|Al<|Al<|Ao<|rs (vP b3 0) (aH (n:=1) (o':=0) X An X As (by decide) X)<|rs (vI ((rd ah a0.au v1).aA)) (aN X AC (HS4.look 0 X) X)<|rs (vB ((rd ah a0.au v1).aA !=4)) (bW X X X) ?_
 try simp only [sc0,sc1]
 refine aB<|ay<|Av (t:=((rd ah a0.au v1).aA !=4)) X (fun c1=>?_) (fun c1=>?_)
 ·replace H:=bU H c1
  refine Al<|Ao<|rs (Value.agg #[vS ByteArray.empty,vI 0,vI 0]) (qj (cs:=[vS ByteArray.empty,vI 0,vI 0]) Bm AJ (pl:=#[(0,1),(1,1),(2,1)]) (fun w=>by simp [Tryz.sizeOf3,Tryz.sizeOf9]) X) ?_
  refine gJ (i:=1) (cs:=[vS ByteArray.empty,vI 0,vI 0]) (cs':=[vS ByteArray.empty,vI 0,vI 0]) (vs:=[vS ByteArray.empty,vI 0,vI 0]) (bs':=[(some b3, .cells #[vI ((rd ah a0.au v1).aA),vS ((rd ah a0.au v1).aF),vI ((rd ah a0.au v1).aY.aU),vB ((rd ah a0.au v1).aY.aJ),vI ((rd ah a0.au v1).bY),vI ((rd ah a0.au v1).vN),vL dU ((rd ah a0.au v1).ak).length dY] 58 (0,0)),(some b2, .cells #[vS ByteArray.empty,vI 0,vI 0] 48 (0,0)),(some b1, .cells #[vL bQ a0.au.length bT] 24 (0,0))]) X X AS X X (by decide) X HS4 X (Ax X) X X ?_
  intro w5 HS5
  refine rs (vI 5) (aG X) ?_
  try simp only [sc0,sc1]
  refine aB<|ay<|AT<|bP ?_
  obtain rfl:=Ab H
  exact Ay (oL X (kY X BC (HS5.look 1 X) AS X) (bK X)) X<|⟨X,HS5.toE⟩
 ·replace H:=cO H (nt c1)
  refine AN<|ay<|Al<|Al<|Ao<|rs (vP b3 6) (aH (n:=1) (o':=6) X An X A4 (by decide) X)<|rs (vL dU ((rd ah a0.au v1).ak).length dY) (aN X Bs (HS4.look 0 X) X)<|rs (vI (((rd ah a0.au v1).ak).length:Int)) (jD X AK)<|rs (vI 0) (aO X) ?_
  try simp only [sc0,sc1]
  refine aB<|ay ?_
  obtain ⟨xx1,H,G1⟩:=bn H
  refine jB [7,10,25,26,27,28,29,30,31,32,33,34] (fun m us w'=>∃(aC:Int),Fit us (fun uy1=>[(uy1 0),(uy1 1),vI aC,(uy1 3),(uy1 4),(uy1 5),(uy1 6),(uy1 7),(uy1 8),(uy1 9),(uy1 10),(uy1 11)])∧lZ.l0 a0 a2 v1 m aC=some xx1∧St [] h0 w0 h0 [(some b3, .cells #[vI ((rd ah a0.au v1).aA),vS ((rd ah a0.au v1).aF),vI ((rd ah a0.au v1).aY.aU),vB ((rd ah a0.au v1).aY.aJ),vI ((rd ah a0.au v1).bY),vI ((rd ah a0.au v1).vN),vL dU ((rd ah a0.au v1).ak).length dY] 58 (0,0)),(some b2, .cells #[vS ByteArray.empty,vI 0,vI 0] 48 (0,0)),(some b1, .cells #[vL bQ a0.au.length bT] 24 (0,0))] w') (fun us w'=>∃(s1:Unit),xx1= .inr s1∧Fit us (fun uo1=>[(uo1 0),(uo1 1),(uo1 2),(uo1 3),(uo1 4),(uo1 5),(uo1 6),(uo1 7),(uo1 8),(uo1 9),(uo1 10),(uo1 11)])∧St [] h0 w0 h0 [(some b3, .cells #[vI ((rd ah a0.au v1).aA),vS ((rd ah a0.au v1).aF),vI ((rd ah a0.au v1).aY.aU),vB ((rd ah a0.au v1).aY.aJ),vI ((rd ah a0.au v1).bY),vI ((rd ah a0.au v1).vN),vL dU ((rd ah a0.au v1).ak).length dY] 58 (0,0)),(some b2, .cells #[vS ByteArray.empty,vI 0,vI 0] 48 (0,0)),(some b1, .cells #[vL bQ a0.au.length bT] 24 (0,0))] w') k ⟨0,(fit X),H,HS4⟩ ?_ ?_
  ·rintro m us w6 ⟨aC,nO,H,HS6⟩
   obtain ⟨uy1,rfl⟩:=unj nO
   cases m with
   |zero=>exact absurd H (by simp [lZ.l0])
   |succ m=>
    rw [lZ.l0] at H
    try simp only [patch,sc0,sc1]
    refine Al<|Ao<|rs (vB (decide (aC<(((rd ah a0.au v1).ak).length:Int)))) (bW X X X) ?_
    try simp only [sc0,sc1]
    refine aB<|ay<|Al<|Av (t:=(decide (aC<(((rd ah a0.au v1).ak).length:Int)))) X (fun c2=>?_) (fun c2=>?_)
    ·replace H:=bU H c2
     refine AN<|ay<|Al<|wp_block<|Al<|Ao ?_
     obtain ⟨hi2,H⟩:=dN H
     obtain ⟨ad2,e2,tN⟩:=ji iY hi2.1 hi2.2
     refine rs (Value.pointer (some (Addr.add ad2 (aC.toNat*3)))) (dP (sz:=3) X e2 X hi2.1 hi2.2 AK AS)<|rs (Value.agg #[vS ((rd aj ((rd ah a0.au v1).ak) aC).aF),vI ((rd aj ((rd ah a0.au v1).ak) aC).vType),vI ((rd aj ((rd ah a0.au v1).ak) aC).vAt)]) (gG X BC (tN.sees HS6.sees) AS)<|dF X X (dO (cs:=#[vS ByteArray.empty,vI 0,vI 0]) Bm X) ?_
     rintro w7 _ hE4 ⟨b4,rfl,ge4,hb4⟩
     have HS7:=HS6.new hE4 ge4 hb4
     refine gJ (i:=0) (cs:=[vS ByteArray.empty,vI 0,vI 0]) (cs':=[vS ((rd aj ((rd ah a0.au v1).ak) aC).aF),vI ((rd aj ((rd ah a0.au v1).ak) aC).vType),vI ((rd aj ((rd ah a0.au v1).ak) aC).vAt)]) (vs:=[vS ((rd aj ((rd ah a0.au v1).ak) aC).aF),vI ((rd aj ((rd ah a0.au v1).ak) aC).vType),vI ((rd aj ((rd ah a0.au v1).ak) aC).vAt)]) (bs':=[(some b4, .cells #[vS ((rd aj ((rd ah a0.au v1).ak) aC).aF),vI ((rd aj ((rd ah a0.au v1).ak) aC).vType),vI ((rd aj ((rd ah a0.au v1).ak) aC).vAt)] 48 (0,0)),(some b3, .cells #[vI ((rd ah a0.au v1).aA),vS ((rd ah a0.au v1).aF),vI ((rd ah a0.au v1).aY.aU),vB ((rd ah a0.au v1).aY.aJ),vI ((rd ah a0.au v1).bY),vI ((rd ah a0.au v1).vN),vL dU ((rd ah a0.au v1).ak).length dY] 58 (0,0)),(some b2, .cells #[vS ByteArray.empty,vI 0,vI 0] 48 (0,0)),(some b1, .cells #[vL bQ a0.au.length bT] 24 (0,0))]) X X AS X X (by decide) X HS7 X (Ax X) X X ?_
     intro w8 HS8
     try simp only [sc0,sc1]
     refine aB<|ay<|Al<|Ao<|rs (vP b4 0) (aH (n:=1) (o':=0) X AJ X AW (by decide) X)<|rs (vS ((rd aj ((rd ah a0.au v1).ak) aC).aF)) (aN X Be (HS8.look 0 X) X)<|rs (vS a2) (aO X)<|rs (vB (strEq ((rd aj ((rd ah a0.au v1).ak) aC).aF) a2)) (sG X X) ?_
     try simp only [sc0,sc1]
     refine aB<|ay<|Av (t:=(strEq ((rd aj ((rd ah a0.au v1).ak) aC).aF) a2)) X (fun c3=>?_) (fun c3=>?_)
     ·replace H:=bU H c3
      refine Al<|Ao<|rs (Value.agg #[vS ((rd aj ((rd ah a0.au v1).ak) aC).aF),vI ((rd aj ((rd ah a0.au v1).ak) aC).vType),vI ((rd aj ((rd ah a0.au v1).ak) aC).vAt)]) (aT (n:=3) (vs:=[vS ((rd aj ((rd ah a0.au v1).ak) aC).aF),vI ((rd aj ((rd ah a0.au v1).ak) aC).vType),vI ((rd aj ((rd ah a0.au v1).ak) aC).vAt)]) X BC (HS8.look 0 X) AS X X)<|gJ (i:=2) (cs:=[vS ByteArray.empty,vI 0,vI 0]) (cs':=[vS ((rd aj ((rd ah a0.au v1).ak) aC).aF),vI ((rd aj ((rd ah a0.au v1).ak) aC).vType),vI ((rd aj ((rd ah a0.au v1).ak) aC).vAt)]) (vs:=[vS ((rd aj ((rd ah a0.au v1).ak) aC).aF),vI ((rd aj ((rd ah a0.au v1).ak) aC).vType),vI ((rd aj ((rd ah a0.au v1).ak) aC).vAt)]) (bs':=[(some b4, .cells #[vS ((rd aj ((rd ah a0.au v1).ak) aC).aF),vI ((rd aj ((rd ah a0.au v1).ak) aC).vType),vI ((rd aj ((rd ah a0.au v1).ak) aC).vAt)] 48 (0,0)),(some b3, .cells #[vI ((rd ah a0.au v1).aA),vS ((rd ah a0.au v1).aF),vI ((rd ah a0.au v1).aY.aU),vB ((rd ah a0.au v1).aY.aJ),vI ((rd ah a0.au v1).bY),vI ((rd ah a0.au v1).vN),vL dU ((rd ah a0.au v1).ak).length dY] 58 (0,0)),(some b2, .cells #[vS ((rd aj ((rd ah a0.au v1).ak) aC).aF),vI ((rd aj ((rd ah a0.au v1).ak) aC).vType),vI ((rd aj ((rd ah a0.au v1).ak) aC).vAt)] 48 (0,0)),(some b1, .cells #[vL bQ a0.au.length bT] 24 (0,0))]) X X AS X X (by decide) X HS8 X (Ax X) X X ?_
      intro w9 HS9
      refine rs (vI 0) (aG X) ?_
      try simp only [sc0,sc1]
      refine aB<|ay<|AT<|fA<|bP<|jm<|bP ?_
      obtain rfl:=Ab H
      obtain rfl:=Ab G1
      exact Ay (oL X (kY X BC (HS9.look 2 X) AS X) (bK X)) X<|⟨X,HS9.toE⟩
     ·replace H:=cO H (nt c3)
      refine AN<|dD<|ay<|Ao<|rs (vI (w64 (aC+1))) (bW X X X)<|rs (vI (w64 (aC+1))) (aO X) ?_
      try simp only [sc0,sc1]
      refine aB<|gI m (Nat.lt_succ_self m) X ⟨(w64 (aC+1)),(fit X),H,HS8.tail⟩
    ·replace H:=cO H (nt c2)
     refine Bx<|eU ?_
     obtain rfl:=Ab H
     refine iK X ⟨_,X,(fit X),HS6⟩
  ·rintro us w10 ⟨s1,rfl,nP,kF⟩
   obtain ⟨uo1,rfl⟩:=unj nP
   replace H:=G1
   clear G1
   try simp only [patch,sc0,sc1]
   refine ay<|Al<|Ao<|rs (Value.agg #[vS ByteArray.empty,vI 0,vI 0]) (qj (cs:=[vS ByteArray.empty,vI 0,vI 0]) Bm AJ (pl:=#[(0,1),(1,1),(2,1)]) (fun w=>by simp [Tryz.sizeOf3,Tryz.sizeOf9]) X) ?_
   refine gJ (i:=1) (cs:=[vS ByteArray.empty,vI 0,vI 0]) (cs':=[vS ByteArray.empty,vI 0,vI 0]) (vs:=[vS ByteArray.empty,vI 0,vI 0]) (bs':=[(some b3, .cells #[vI ((rd ah a0.au v1).aA),vS ((rd ah a0.au v1).aF),vI ((rd ah a0.au v1).aY.aU),vB ((rd ah a0.au v1).aY.aJ),vI ((rd ah a0.au v1).bY),vI ((rd ah a0.au v1).vN),vL dU ((rd ah a0.au v1).ak).length dY] 58 (0,0)),(some b2, .cells #[vS ByteArray.empty,vI 0,vI 0] 48 (0,0)),(some b1, .cells #[vL bQ a0.au.length bT] 24 (0,0))]) X X AS X X (by decide) X kF X (Ax X) X X ?_
   intro w11 oC
   refine rs (vI 3) (aG X) ?_
   try simp only [sc0,sc1]
   refine aB<|ay<|AT ?_
   obtain rfl:=Ab H
   exact Ay (oL X (kY X BC (oC.look 1 X) AS X) (bK X)) X<|⟨X,oC.toE⟩
def rQ.f (k:Nat) (a0:aQ) (a1:Int) (a2:ByteArray):Option (bf×Int):=(jY.f k a0 a1).bind fun v1=>(if (v1 !=0)=true then (some ((⟨ByteArray.empty,0,0⟩:bf),v1)) else ((lZ.f k a0 a1 a2).bind fun v2=>(some (v2.1,v2.2))))
theorem rQ.calls (k:Nat) (a0:aQ) (a1:Int) (a2:ByteArray) (bQ:Option Addr) (bT:Nat) {h0:View} {w0:World} (hv:lS h0 w0) (fK:Rd bI h0 bQ a0.au) (iF:a0.au.length≤bT) {r:bf×Int} (H:rQ.f k a0 a1 a2=some r):Calls Tryz.prog 16 #[Value.agg #[vL bQ a0.au.length bT],vI a1,vS a2] w0 (fun e w1=>e= .returned (Value.tuple #[Value.agg #[vS r.1.aF,vI r.1.vType,vI r.1.vAt],vI r.2])∧Ext w0 w1):=by
 unfold rQ.f at H
 have HS:St [] h0 w0 h0 [] w0:=St.init hv
 go_enter Tryz.func16,Tryz.ntmps16
 refine Al<|Ao<|dF X X (eF (cs:=#[vL bQ a0.au.length bT]) X X) ?_
 rintro w1 _ hE1 ⟨b1,rfl,ge1,hb1⟩
 have HS1:=HS.new hE1 ge1 hb1
 refine dF X X (dO (cs:=#[vS ByteArray.empty,vI 0,vI 0]) Bm X) ?_
 rintro w2 _ hE2 ⟨b2,rfl,ge2,hb2⟩
 have HS2:=HS1.new hE2 ge2 hb2
 refine rs (vI 0) (aG X) ?_
 try simp only [sc0,sc1]
 refine aB<|ay<|Al<|Al<|Ao<|rs (Value.agg #[vL bQ a0.au.length bT]) (aT (n:=1) (vs:=[vL bQ a0.au.length bT]) X AI (HS2.look 1 X) AD X X)<|rs (vI a1) (aO X) ?_
 obtain ⟨v1,H1,H⟩:=bn H
 refine run_eq (v:=vI v1) X X (bC CN X X (jY.calls k a0 a1 bQ bT HS2.sees fK iF H1)) ?_
 intro w3 hE3
 have HS3:=HS2.step hE3
 refine rs (vI v1) (aG X) ?_
 try simp only [sc0,sc1]
 refine aB<|ay<|Al<|Ao<|rs (vI v1) (aO X)<|rs (vB (v1 !=0)) (bW X X X) ?_
 try simp only [sc0,sc1]
 refine aB<|ay<|Av (t:=(v1 !=0)) X (fun c1=>?_) (fun c1=>?_)
 ·replace H:=bU H c1
  refine Al<|Ao<|rs (Value.agg #[vS ByteArray.empty,vI 0,vI 0]) (qj (cs:=[vS ByteArray.empty,vI 0,vI 0]) Bm AJ (pl:=#[(0,1),(1,1),(2,1)]) (fun w=>by simp [Tryz.sizeOf3,Tryz.sizeOf9]) X) ?_
  refine rs (vI v1) (aO X)<|gJ (i:=0) (cs:=[vS ByteArray.empty,vI 0,vI 0]) (cs':=[vS ByteArray.empty,vI 0,vI 0]) (vs:=[vS ByteArray.empty,vI 0,vI 0]) (bs':=[(some b2, .cells #[vS ByteArray.empty,vI 0,vI 0] 48 (0,0)),(some b1, .cells #[vL bQ a0.au.length bT] 24 (0,0))]) X X AS X X (by decide) X HS3 X (Ax X) X X ?_
  intro w4 HS4
  refine rs (vI v1) (aG X) ?_
  try simp only [sc0,sc1]
  refine aB<|ay<|AT<|bP ?_
  obtain rfl:=Ab H
  exact Ay (oL X (kY X BC (HS4.look 0 X) AS X) (bK X)) X<|⟨X,HS4.toE⟩
 ·replace H:=cO H (nt c1)
  refine AN<|ay<|Al<|Ao<|rs (Value.agg #[vL bQ a0.au.length bT]) (aT (n:=1) (vs:=[vL bQ a0.au.length bT]) X AI (HS3.look 1 X) AD X X)<|rs (vI a1) (aO X)<|rs (vS a2) (aO X) ?_
  obtain ⟨v2,H2,H⟩:=bn H
  refine run_eq (v:=Value.tuple #[Value.agg #[vS v2.1.aF,vI v2.1.vType,vI v2.1.vAt],vI v2.2]) X X (bC Tryz.call43 X X (lZ.calls k a0 a1 a2 bQ bT HS3.sees fK iF H2)) ?_
  intro w5 hE4
  have HS5:=HS3.step hE4
  refine aK (by simp only [sc0,sc1];rfl) ?_
  refine rs (Value.agg #[vS v2.1.aF,vI v2.1.vType,vI v2.1.vAt]) (gV X X)<|rs (vI v2.2) (gV X X)<|gJ (i:=0) (cs:=[vS ByteArray.empty,vI 0,vI 0]) (cs':=[vS v2.1.aF,vI v2.1.vType,vI v2.1.vAt]) (vs:=[vS v2.1.aF,vI v2.1.vType,vI v2.1.vAt]) (bs':=[(some b2, .cells #[vS v2.1.aF,vI v2.1.vType,vI v2.1.vAt] 48 (0,0)),(some b1, .cells #[vL bQ a0.au.length bT] 24 (0,0))]) X X AS X X (by decide) X HS5 X (Ax X) X X ?_
  intro w6 HS6
  refine rs (vI v2.2) (aG X) ?_
  try simp only [sc0,sc1]
  refine aB<|ay<|AT ?_
  obtain rfl:=Ab H
  exact Ay (oL X (kY X BC (HS6.look 0 X) AS X) (bK X)) X<|⟨X,HS6.toE⟩
def qL.l0 (k:Nat) (a0:aQ) (a2:List ByteArray):Nat→Int→Int→Int→Option ((Int×Int×Int)⊕(Int×Int))
 |0,_,_,_=>none
 |m+1,aC,dG,o7=>if (decide (o7<(a2.length:Int)))=true then (if 0≤o7∧o7<a2.length then ((lZ.f k a0 aC (rd ByteArray.empty a2 o7)).bind fun v2=>(if (v2.2 !=0)=true then (some (.inl (0,0,v2.2))) else (qL.l0 k a0 a2 m v2.1.vType (IntKind.wrap .i64 (dG+v2.1.vAt)) (IntKind.wrap .i64 (o7+1))))) else none) else (some (.inr (aC,dG)))
def qL.f (k:Nat) (a0:aQ) (a1:Int) (a2:List ByteArray):Option (Int×Int×Int):=(jY.f k a0 a1).bind fun v1=>(if (v1 !=0)=true then (some (0,0,v1)) else (if (decide ((a2.length:Int)>16))=true then (some (0,0,2)) else ((qL.l0 k a0 a2 k a1 0 0).bind fun xx1=>(match xx1 with| .inl r=>some r| .inr s1=>some (s1.1,s1.2,0)))))
theorem qL.calls (k:Nat) (a0:aQ) (a1:Int) (a2:List ByteArray) (bQ:Option Addr) (bT:Nat) (lV:Option Addr) (mG:Nat) {h0:View} {w0:World} (hv:lS h0 w0) (fK:Rd bI h0 bQ a0.au) (iF:a0.au.length≤bT) (pY:Rd Kd.str h0 lV a2) (vY:a2.length≤mG) {r:Int×Int×Int} (H:qL.f k a0 a1 a2=some r):Calls Tryz.prog 17 #[Value.agg #[vL bQ a0.au.length bT],vI a1,vL lV a2.length mG] w0 (fun e w1=>e= .returned (Value.tuple #[vI r.1,vI r.2.1,vI r.2.2])∧Ext w0 w1):=by
 unfold qL.f at H
 have HS:St [] h0 w0 h0 [] w0:=St.init hv
 go_enter Tryz.func17,Tryz.ntmps17
 refine Al<|Ao<|dF X X (eF (cs:=#[vL bQ a0.au.length bT]) X X) ?_
 rintro w1 _ hE1 ⟨b1,rfl,ge1,hb1⟩
 have HS1:=HS.new hE1 ge1 hb1
 refine rs (vI 0) (aG X)<|rs (vI 0) (aG X)<|rs (vI 0) (aG X) ?_
 try simp only [sc0,sc1]
 refine aB<|ay<|Al<|Al<|Ao<|rs (Value.agg #[vL bQ a0.au.length bT]) (aT (n:=1) (vs:=[vL bQ a0.au.length bT]) X AI (HS1.look 0 X) AD X X)<|rs (vI a1) (aO X) ?_
 obtain ⟨v1,H1,H⟩:=bn H
 refine run_eq (v:=vI v1) X X (bC CN X X (jY.calls k a0 a1 bQ bT HS1.sees fK iF H1)) ?_
 intro w2 hE2
 have HS2:=HS1.step hE2
 refine rs (vI v1) (aG X) ?_
 try simp only [sc0,sc1]
 refine aB<|ay<|Al<|Ao<|rs (vI v1) (aO X)<|rs (vB (v1 !=0)) (bW X X X) ?_
 try simp only [sc0,sc1]
 refine aB<|ay<|Av (t:=(v1 !=0)) X (fun c1=>?_) (fun c1=>?_)
 ·replace H:=bU H c1
  refine Al<|Ao<|rs (vI v1) (aO X)<|rs (vI 0) (aG X)<|rs (vI 0) (aG X)<|rs (vI v1) (aG X) ?_
  try simp only [sc0,sc1]
  refine aB<|ay<|AT<|bP ?_
  obtain rfl:=Ab H
  exact Ay (qg X (bK X) (bK X) (bK X)) X<|⟨X,HS2.toE⟩
 ·replace H:=cO H (nt c1)
  refine AN<|ay<|Al<|Al<|Ao<|rs (vL lV a2.length mG) (aO X)<|rs (vI (a2.length:Int)) (jD X A5)<|rs (vB (decide ((a2.length:Int)>16))) (bW X X X) ?_
  try simp only [sc0,sc1]
  refine aB<|ay<|Av (t:=(decide ((a2.length:Int)>16))) X (fun c2=>?_) (fun c2=>?_)
  ·replace H:=bU H c2
   refine Al<|Ao<|rs (vI 0) (aG X)<|rs (vI 0) (aG X)<|rs (vI 2) (aG X) ?_
   try simp only [sc0,sc1]
   refine aB<|ay<|AT<|bP ?_
   obtain rfl:=Ab H
   exact Ay (qg X (bK X) (bK X) (bK X)) X<|⟨X,HS2.toE⟩
  ·replace H:=cO H (nt c2)
   refine AN<|ay<|Al<|Ao<|rs (vI 0) (aG X) ?_
   try simp only [sc0,sc1]
   refine aB<|ay<|Al<|Al<|Ao<|rs (vL lV a2.length mG) (aO X)<|rs (vI (a2.length:Int)) (jD X A5)<|rs (vI 0) (aO X) ?_
   try simp only [sc0,sc1]
   refine aB<|ay ?_
   obtain ⟨xx1,H,G1⟩:=bn H
   refine jB [1,6,7,8,10,12,13,14,26,27,28,29,30,31,32,33,34,35,36,37,38,39,40,41,42,43,44,45,46] (fun m us w'=>∃aC dG o7:Int,Fit us (fun uy1=>[vI aC,(uy1 1),(uy1 2),(uy1 3),vI dG,(uy1 5),(uy1 6),(uy1 7),vI o7,(uy1 9),(uy1 10),(uy1 11),(uy1 12),(uy1 13),(uy1 14),(uy1 15),(uy1 16),(uy1 17),(uy1 18),(uy1 19),(uy1 20),(uy1 21),(uy1 22),(uy1 23),(uy1 24),(uy1 25),(uy1 26),(uy1 27),(uy1 28)])∧qL.l0 k a0 a2 m aC dG o7=some xx1∧St [] h0 w0 h0 [(some b1, .cells #[vL bQ a0.au.length bT] 24 (0,0))] w') (fun us w'=>∃(s1:Int×Int),xx1= .inr s1∧Fit us (fun uo1=>[vI s1.1,(uo1 1),(uo1 2),(uo1 3),vI s1.2,(uo1 5),(uo1 6),(uo1 7),(uo1 8),(uo1 9),(uo1 10),(uo1 11),(uo1 12),(uo1 13),(uo1 14),(uo1 15),(uo1 16),(uo1 17),(uo1 18),(uo1 19),(uo1 20),(uo1 21),(uo1 22),(uo1 23),(uo1 24),(uo1 25),(uo1 26),(uo1 27),(uo1 28)])∧St [] h0 w0 h0 [(some b1, .cells #[vL bQ a0.au.length bT] 24 (0,0))] w') k ⟨a1,0,0,(fit X),H,HS2⟩ ?_ ?_
   ·rintro m us w3 ⟨aC,dG,o7,nO,H,HS3⟩
    obtain ⟨uy1,rfl⟩:=unj nO
    cases m with
    |zero=>exact absurd H (by simp [qL.l0])
    |succ m=>
     rw [qL.l0] at H
     try simp only [patch,sc0,sc1]
     refine Al<|Ao<|rs (vB (decide (o7<(a2.length:Int)))) (bW X X X) ?_
     try simp only [sc0,sc1]
     refine aB<|ay<|Al<|Av (t:=(decide (o7<(a2.length:Int)))) X (fun c3=>?_) (fun c3=>?_)
     ·replace H:=bU H c3
      refine AN<|ay<|Al<|wp_block<|Al<|Ao ?_
      obtain ⟨hi1,H⟩:=dN H
      obtain ⟨ad1,e1,mJ⟩:=CQ pY hi1.1 hi1.2
      refine rs (Value.pointer (some (Addr.add ad1 (o7.toNat*1)))) (dP (sz:=1) X e1 X hi1.1 hi1.2 A5 AW)<|rs (vS (rd ByteArray.empty a2 o7)) (kE X Be (mJ.cell0 HS3.sees X))<|rs (vS (rd ByteArray.empty a2 o7)) (aG X) ?_
      try simp only [sc0,sc1]
      refine aB<|ay<|Al<|Ao<|rs (Value.agg #[vL bQ a0.au.length bT]) (aT (n:=1) (vs:=[vL bQ a0.au.length bT]) X AI (HS3.look 0 X) AD X X)<|rs (vI aC) (aO X)<|rs (vS (rd ByteArray.empty a2 o7)) (aO X) ?_
      obtain ⟨v2,H2,H⟩:=bn H
      refine run_eq (v:=Value.tuple #[Value.agg #[vS v2.1.aF,vI v2.1.vType,vI v2.1.vAt],vI v2.2]) X X (bC Tryz.call43 X X (lZ.calls k a0 aC (rd ByteArray.empty a2 o7) bQ bT HS3.sees fK iF H2)) ?_
      intro w4 hE3
      have HS4:=HS3.step hE3
      refine aK (by simp only [sc0,sc1];rfl) ?_
      refine rs (Value.tuple #[Value.agg #[vS v2.1.aF,vI v2.1.vType,vI v2.1.vAt],vI v2.2]) (aO X)<|rs (Value.agg #[vS v2.1.aF,vI v2.1.vType,vI v2.1.vAt]) (gV X X)<|rs (vI v2.2) (gV X X)<|dF X X (dO (cs:=#[vS ByteArray.empty,vI 0,vI 0]) Bm X) ?_
      rintro w5 _ hE4 ⟨b2,rfl,ge2,hb2⟩
      have HS5:=HS4.new hE4 ge2 hb2
      refine aK (by simp only [sc0,sc1];rfl) ?_
      refine gJ (i:=0) (cs:=[vS ByteArray.empty,vI 0,vI 0]) (cs':=[vS v2.1.aF,vI v2.1.vType,vI v2.1.vAt]) (vs:=[vS v2.1.aF,vI v2.1.vType,vI v2.1.vAt]) (bs':=[(some b2, .cells #[vS v2.1.aF,vI v2.1.vType,vI v2.1.vAt] 48 (0,0)),(some b1, .cells #[vL bQ a0.au.length bT] 24 (0,0))]) X X AS X X (by decide) X HS5 X (Ax X) X X ?_
      intro w6 HS6
      refine rs (vI v2.2) (aG X) ?_
      try simp only [sc0,sc1]
      refine aB<|ay<|Al<|Al<|Ao<|rs (vI v2.2) (aO X)<|rs (vB (v2.2 !=0)) (bW X X X) ?_
      try simp only [sc0,sc1]
      refine aB<|ay<|Av (t:=(v2.2 !=0)) X (fun c4=>?_) (fun c4=>?_)
      ·replace H:=bU H c4
       refine Al<|Ao<|rs (vI v2.2) (aO X)<|rs (vI 0) (aG X)<|rs (vI 0) (aG X)<|rs (vI v2.2) (aG X) ?_
       try simp only [sc0,sc1]
       refine aB<|ay<|AT<|bP<|fA<|bP<|jm<|bP ?_
       obtain rfl:=Ab H
       obtain rfl:=Ab G1
       exact Ay (qg X (bK X) (bK X) (bK X)) X<|⟨X,HS6.toE⟩
      ·replace H:=cO H (nt c4)
       refine AN<|ay<|drawn [.eq (vP b2 1), .eq (vI v2.1.vType), .eq (vI dG), .eq (vP b2 2), .eq (vI v2.1.vAt), .eq (vI (w64 (dG+v2.1.vAt))), .eq (vI v2.1.vType)] [40,41,42,43,44,45,1] rM (by kernel_rfl) X (aP (aP (aP (aP (aP (aP (aP iJ))))))) ⟨aX X (fun a' w' hE hk=>by exact aW (aH (n:=1) (o':=1) (show _=vP b2 0 from hk 13 X) AJ X As (by decide) X)),aX X (fun a' w' hE hk=>by exact aW (aN (show _=vP b2 1 from hk 40 X) AC ((HS6.step hE).look 0 X) X)),aX X (fun a' w' hE hk=>by exact aW (aO (show _=vI dG from hk 10 X))),aX X (fun a' w' hE hk=>by exact aW (aH (n:=1) (o':=2) (show _=vP b2 0 from hk 13 X) AJ X As (by decide) X)),aX X (fun a' w' hE hk=>by exact aW (aN (show _=vP b2 2 from hk 43 X) AC ((HS6.step hE).look 0 X) X)),aX X (fun a' w' hE hk=>by exact aW (bW (show _=vI dG from hk 42 X) (show _=vI v2.1.vAt from hk 44 X) X)),aX X (fun a' w' hE hk=>by exact aW (aG (show _=vI v2.1.vType from hk 41 X))),trivial⟩ ?_
       intro w7 hE5
       simp only [List.zip_cons_cons,List.zip_nil_left,List.zip_nil_right,vO,sc0,sc1,List.length_cons,List.length_nil,List.drop_succ_cons,List.drop_zero,Nat.zero_add,Nat.reduceAdd]
       have HS7:=HS6.step hE5
       refine rs (vI (w64 (dG+v2.1.vAt))) (aG X) ?_
       try simp only [sc0,sc1]
       refine aB<|dD<|ay<|Ao<|rs (vI (w64 (o7+1))) (bW X X X)<|rs (vI (w64 (o7+1))) (aO X) ?_
       try simp only [sc0,sc1]
       refine aB<|gI m (Nat.lt_succ_self m) X ⟨v2.1.vType,(w64 (dG+v2.1.vAt)),(w64 (o7+1)),(fit X),H,HS7.tail⟩
     ·replace H:=cO H (nt c3)
      refine Bx<|eU ?_
      obtain rfl:=Ab H
      refine iK X ⟨_,X,(fit X),HS3⟩
   ·rintro us w8 ⟨s1,rfl,nP,HS8⟩
    obtain ⟨uo1,rfl⟩:=unj nP
    replace H:=G1
    clear G1
    try simp only [patch,sc0,sc1]
    refine ay<|Al<|Ao<|rs (vI s1.1) (aO X)<|rs (vI s1.2) (aO X)<|rs (vI s1.1) (aG X)<|rs (vI s1.2) (aG X)<|aK (by simp only [sc0,sc1];rfl) ?_
    refine rs (vI 0) (aG X) ?_
    try simp only [sc0,sc1]
    refine aB<|ay<|AT ?_
    obtain rfl:=Ab H
    exact Ay (qg X (bK X) (bK X) (bK X)) X<|⟨X,HS8.toE⟩
def xZ.f (k:Nat) (a0:aQ):Option (Int):=(dH.f k a0).bind fun v1=>(if (!v1)=true then (some 80) else (some 0))
theorem xZ.calls (k:Nat) (a0:aQ) (bQ:Option Addr) (bT:Nat) {h0:View} {w0:World} (hv:lS h0 w0) (fK:Rd bI h0 bQ a0.au) (iF:a0.au.length≤bT) {r:Int} (H:xZ.f k a0=some r):Calls Tryz.prog 18 #[Value.agg #[vL bQ a0.au.length bT]] w0 (fun e w1=>e= .returned (vI r)∧Ext w0 w1):=by
 unfold xZ.f at H
 have HS:St [] h0 w0 h0 [] w0:=St.init hv
 go_enter Tryz.func18,Tryz.ntmps18
 refine Al<|Ao<|dF X X (eF (cs:=#[vL bQ a0.au.length bT]) X X) ?_
 rintro w1 _ hE1 ⟨b1,rfl,ge1,hb1⟩
 have HS1:=HS.new hE1 ge1 hb1
 refine rs (vI 0) (aG X) ?_
 try simp only [sc0,sc1]
 refine aB<|ay<|Al<|Al<|Ao<|rs (Value.agg #[vL bQ a0.au.length bT]) (aT (n:=1) (vs:=[vL bQ a0.au.length bT]) X AI (HS1.look 0 X) AD X X) ?_
 obtain ⟨v1,H1,H⟩:=bn H
 refine run_eq (v:=vB v1) X X (bC Cu X X (dH.calls k a0 bQ bT HS1.sees fK iF H1)) ?_
 intro w2 hE2
 have HS2:=HS1.step hE2
 refine rs (vB (!v1)) (mZ X) ?_
 try simp only [sc0,sc1]
 refine aB<|ay<|Av (t:=(!v1)) X (fun c1=>?_) (fun c1=>?_)
 ·replace H:=bU H c1
  refine Al<|Ao<|rs (vI 80) (aG X) ?_
  try simp only [sc0,sc1]
  refine aB<|ay<|AT<|bP ?_
  obtain rfl:=Ab H
  exact Ay (bD X (bK X)) X<|⟨X,HS2.toE⟩
 ·replace H:=cO H (nt c1)
  refine AN<|ay<|Al<|Ao<|rs (vI 0) (aG X) ?_
  try simp only [sc0,sc1]
  refine aB<|ay<|AT ?_
  obtain rfl:=Ab H
  exact Ay (bD X (bK X)) X<|⟨X,HS2.toE⟩
def lK.l0:Nat→Int→(List Int)→Option (Int×(List Int))
 |0,_,_=>none
 |m+1,aC,dG=>if (decide (aC>127))=true then (if dG.length+1≤4294967296 then (lK.l0 m (Uk .u64 aC 7) (dG++([(iOr .u8 (IntKind.wrap .u8 aC) 128)]:List Int))) else none) else (some (aC,dG))
def lK.f (k:Nat) (a0:List Int) (a1:Int):Option ((List Int)):=((if (decide (a1<0))=true then (some (Uo .u64 (PE .u64 (IntKind.wrap .u64 a1) 1))) else (some (PE .u64 (IntKind.wrap .u64 a1) 1))):Option (Int)).bind fun xx1=>((lK.l0 k xx1 a0).bind fun xx2=>(if xx2.2.length+1≤4294967296 then (some (xx2.2++([(IntKind.wrap .u8 xx2.1)]:List Int))) else none))
theorem lK.calls (k:Nat) (a0:List Int) (a1:Int) (qW:Option Nat) (ca0:Nat) (x9:List Value) (Aq:Nat×Nat) {h0:View} {w0:World} {h:View} {w:World} {rest:List Res} (HS:St [] h0 w0 h ((qW, .cells (x9).toArray 5 Aq)::rest) w) (KI:gU (Kd.int .u8) h a0 qW a0.length ca0 x9) (KJ:xO Aq x9.length) {r:(List Int)} (H:lK.f k a0 a1=some r):Calls Tryz.prog 71 #[vL (rowA qW) a0.length ca0,vI a1] w (fun e w1=>∃(oI:Option Nat) (vZ:Nat) (oJ:List Value),∃(qE:Nat×Nat),e= .returned (vL (rowA oI) r.length vZ)∧xO qE oJ.length∧gU (Kd.int .u8) h r oI r.length vZ oJ∧St [] h0 w0 h ((oI, .cells (oJ).toArray 5 qE)::rest) w1):=by
 unfold lK.f at H
 have hsub:Sub h h:=Sub.rfl' h
 go_enter Tryz.func71,Tryz.ntmps71
 refine Al<|Ao<|rs (vL none 0 0) (aG X) ?_
 try simp only [sc0,sc1]
 refine aB<|ay<|Al<|Ao<|rs (vI a1) (aO X)<|rs (Value.int .u64 (IntKind.wrap .u64 a1)) (L8 X Bn Cx)<|rs (Value.int .u64 (PE .u64 (IntKind.wrap .u64 a1) 1)) (VU X X (by decide))<|rs (Value.int .u64 (PE .u64 (IntKind.wrap .u64 a1) 1)) (aG X) ?_
 try simp only [sc0,sc1]
 refine aB<|ay<|Al<|Al<|Ao<|rs (vI a1) (aO X)<|rs (vB (decide (a1<0))) (bW X X X) ?_
 try simp only [sc0,sc1]
 refine aB<|ay ?_
 obtain ⟨xx1,H,G1⟩:=bn H
 refine kT [5,11,12] (fun us w'=>Fit us (fun uj1=>[Value.int .u64 xx1,(uj1 1),(uj1 2)])∧St [] h0 w0 h ((qW, .cells (x9).toArray 5 Aq)::rest) w') ?_ ?_
 ·refine Av (t:=(decide (a1<0))) X (fun c1=>?_) (fun c1=>?_)
  ·replace H:=bU H c1
   refine Ao<|rs (Value.int .u64 (PE .u64 (IntKind.wrap .u64 a1) 1)) (aO X)<|rs (Value.int .u64 (Uo .u64 (PE .u64 (IntKind.wrap .u64 a1) 1))) (Ut X)<|rs (Value.int .u64 (Uo .u64 (PE .u64 (IntKind.wrap .u64 a1) 1))) (aG X) ?_
   try simp only [sc0,sc1]
   refine aB ?_
   obtain rfl:=Ab H
   refine oH X ⟨(fit X),HS⟩
  ·replace H:=cO H (nt c1)
   refine AN ?_
   obtain rfl:=Ab H
   refine oH X ⟨(fit X),HS⟩
 ·rintro us w1 ⟨AB,HS1⟩
  obtain ⟨uj1,rfl⟩:=unj AB
  replace H:=G1
  clear G1
  try simp only [patch,sc0,sc1]
  refine Al ?_
  obtain ⟨xx2,H,G2⟩:=bn H
  refine jB [0,5,13,14,15,16,17,18,19,20,21,22] (fun m us w'=>∃aC:Int,∃dG:List Int,∃(fC:Option Nat) (jv:Nat),∃eH:List Value,∃oN:Nat×Nat,Fit us (fun uy1=>[vL (rowA fC) dG.length jv,Value.int .u64 aC,(uy1 2),(uy1 3),(uy1 4),(uy1 5),(uy1 6),(uy1 7),(uy1 8),(uy1 9),(uy1 10),(uy1 11)])∧lK.l0 m aC dG=some xx2∧xO oN eH.length∧gU (Kd.int .u8) h dG fC dG.length jv eH∧St [] h0 w0 h ((fC, .cells (eH).toArray 5 oN)::rest) w') (fun us w'=>∃(tV:Option Nat) (AO:Nat),∃qJ:List Value,∃Nz:Nat×Nat,Fit us (fun uo1=>[vL (rowA tV) xx2.2.length AO,Value.int .u64 xx2.1,(uo1 2),(uo1 3),(uo1 4),(uo1 5),(uo1 6),(uo1 7),(uo1 8),(uo1 9),(uo1 10),(uo1 11)])∧xO Nz qJ.length∧gU (Kd.int .u8) h xx2.2 tV xx2.2.length AO qJ∧St [] h0 w0 h ((tV, .cells (qJ).toArray 5 Nz)::rest) w') k ⟨xx1,a0,qW,ca0,x9,Aq,(fit X),H,KJ,KI.norm,HS1⟩ ?_ ?_
  ·rintro m us w2 ⟨aC,dG,fC,jv,eH,oN,nO,H,wo,iE,HS2⟩
   obtain ⟨uy1,rfl⟩:=unj nO
   cases m with
   |zero=>exact absurd H (by simp [lK.l0])
   |succ m=>
    rw [lK.l0] at H
    try simp only [patch,sc0,sc1]
    refine Al<|Al<|Ao<|rs (Value.int .u64 aC) (aO X)<|rs (vB (decide (aC>127))) (bW X X X) ?_
    try simp only [sc0,sc1]
    refine aB<|ay<|Av (t:=(decide (aC>127))) X (fun c2=>?_) (fun c2=>?_)
    ·replace H:=bU H c2
     refine AN<|ay<|wp_block<|Al<|Ao<|rs (vL (rowA fC) dG.length jv) (aO X)<|rs (Value.int .u64 aC) (aO X)<|rs (Value.int .u8 (IntKind.wrap .u8 aC)) (L8 X Cx Cl)<|rs (Value.int .u8 (iOr .u8 (IntKind.wrap .u8 aC) 128)) (Xy X X)<|aK (by simp only [sc0,sc1];rfl) ?_
     refine ng (Kd.int .u8) (xs:=([(iOr .u8 (IntKind.wrap .u8 aC) 128)]:List Int)) (n:=1) (cs:=[Value.int .u8 (iOr .u8 (IntKind.wrap .u8 aC) 128)]) Bu B8 B6 X X (by decide) (by decide) (by decide) [Value.int .u8 (iOr .u8 (IntKind.wrap .u8 aC) 128)] (jd.trans X) X X X X (fH (qs:=[Value.int .u8 (iOr .u8 (IntKind.wrap .u8 aC) 128)]) X (jc (cs:=[]))) HS2 ?_
     intro w3 b1 HS3 ho1
     obtain ⟨hl1,H⟩:=dN H
     refine yJ (Kd.int .u8) (q:=1) (cs:=eH) X X Bu B8 B6 X (by decide) X (ni Bu HS3 (i:=0) X ho1 X) ho1.len (iC ho1) hl1 HS3 X wo iE ?_
     rintro w4 ob1 c3 cs1 fr1 ⟨hf1,_⟩ HS4 ho2
     refine rs (vL (rowA ob1) (dG.length+1) c3) (aG X) ?_
     try simp only [sc0,sc1]
     refine aB<|ay<|Ao<|rs (Value.int .u64 aC) (aO X)<|rs (Value.int .u64 (Uk .u64 aC 7)) (VW X X (by decide))<|rs (Value.int .u64 (Uk .u64 aC 7)) (aG X) ?_
     try simp only [sc0,sc1]
     refine aB<|dD<|gI m (Nat.lt_succ_self m) X ⟨(Uk .u64 aC 7),(dG++([(iOr .u8 (IntKind.wrap .u8 aC) 128)]:List Int)),ob1,c3,cs1,fr1,(fit (by first|rfl|(rw [ho2.len];done)|(rw [ho2.len];rfl))),H,hf1,ho2.norm,HS4.tail⟩
    ·replace H:=cO H (nt c2)
     refine Bx<|eU ?_
     obtain rfl:=Ab H
     refine iK X ⟨fC,jv,eH,oN,(fit X),wo,iE.norm,HS2⟩
  ·rintro us w5 ⟨tV,AO,qJ,Nz,nP,UZ,Bj,HS5⟩
   obtain ⟨uo1,rfl⟩:=unj nP
   replace H:=G2
   clear G2
   try simp only [patch,sc0,sc1]
   refine ay<|Al<|Ao<|rs (vL (rowA tV) xx2.2.length AO) (aO X)<|rs (Value.int .u64 xx2.1) (aO X)<|rs (Value.int .u8 (IntKind.wrap .u8 xx2.1)) (L8 X Cx Cl)<|ng (Kd.int .u8) (xs:=([(IntKind.wrap .u8 xx2.1)]:List Int)) (n:=1) (cs:=[Value.int .u8 (IntKind.wrap .u8 xx2.1)]) Bu B8 B6 X X (by decide) (by decide) (by decide) [Value.int .u8 (IntKind.wrap .u8 xx2.1)] (jd.trans X) X X X X (fH (qs:=[Value.int .u8 (IntKind.wrap .u8 xx2.1)]) X (jc (cs:=[]))) HS5 ?_
   intro w6 b2 HS6 ho3
   refine aK (by simp only [sc0,sc1];rfl) ?_
   obtain ⟨hl2,H⟩:=dN H
   refine yJ (Kd.int .u8) (q:=1) (cs:=qJ) X X Bu B8 B6 X (by decide) X (ni Bu HS6 (i:=0) X ho3 X) ho3.len (iC ho3) hl2 HS6 X UZ Bj ?_
   rintro w7 ob2 c4 cs2 fr2 ⟨hf2,_⟩ HS7 ho4
   refine rs (vL (rowA ob2) (xx2.2.length+1) c4) (aG X) ?_
   try simp only [sc0,sc1]
   refine aB<|ay<|AT ?_
   obtain rfl:=Ab H
   refine Ay (bD X (bK X)) X ?_
   have ho5:=ho3.norm
   have ho6:=ho4.norm
   have HS8:=HS7.d0
   exact ⟨ob2,c4,cs2,fr2,(by first|rfl|(rw [ho4.len];done)|(rw [ho4.len];rfl)),hf2,ho6,HS8⟩
def oK.f (k:Nat) (a0:List Int) (a1:ByteArray):Option ((List Int)):=(lK.f k a0 (a1.size:Int)).bind fun v1=>(if v1.length+a1.size≤4294967296 then (some (v1++(bytesOf a1))) else none)
theorem oK.calls (k:Nat) (a0:List Int) (a1:ByteArray) (qW:Option Nat) (ca0:Nat) (x9:List Value) (Aq:Nat×Nat) {h0:View} {w0:World} {h:View} {w:World} {rest:List Res} (HS:St [] h0 w0 h ((qW, .cells (x9).toArray 5 Aq)::rest) w) (KI:gU (Kd.int .u8) h a0 qW a0.length ca0 x9) (KJ:xO Aq x9.length) {r:(List Int)} (H:oK.f k a0 a1=some r):Calls Tryz.prog 72 #[vL (rowA qW) a0.length ca0,vS a1] w (fun e w1=>∃(oI:Option Nat) (vZ:Nat) (oJ:List Value),∃(qE:Nat×Nat),e= .returned (vL (rowA oI) r.length vZ)∧xO qE oJ.length∧gU (Kd.int .u8) h r oI r.length vZ oJ∧St [] h0 w0 h ((oI, .cells (oJ).toArray 5 qE)::rest) w1):=by
 unfold oK.f at H
 have hsub:Sub h h:=Sub.rfl' h
 go_enter Tryz.func72,Tryz.ntmps72
 refine Al<|Ao<|rs (vL none 0 0) (aG X) ?_
 try simp only [sc0,sc1]
 refine aB<|ay<|Al<|Ao<|rs (vL (rowA qW) a0.length ca0) (aO X)<|rs (vS a1) (aO X)<|rs (vI (a1.size:Int)) (zD X BB) ?_
 obtain ⟨v1,H1,H⟩:=bn H
 refine jJ (vs:=[vL (rowA qW) a0.length ca0,vI (a1.size:Int)]) (caps:=[]) Cn X X (lK.calls k a0 (a1.size:Int) qW ca0 x9 Aq HS KI KJ H1) ?_
 rintro _ w1 ⟨sZ,xG,wQ,yc,rfl,wR,wS,HS1⟩
 refine ⟨_,X,?_⟩
 refine aK (by simp only [sc0,sc1];rfl) ?_
 refine rs (vS a1) (aO X) ?_
 obtain ⟨hl1,H⟩:=dN H
 refine yJ (Kd.int .u8) (q:=0) (cs:=wQ) X X Bu B8 B6 X (by decide) X (Src.ofString _ (lF BB) a1) (bytesOf_length _) (EX _) hl1 HS1 X wR wS ?_
 rintro w2 ob1 c1 cs1 fr1 ⟨hf1,_⟩ HS2 ho1
 refine rs (vL (rowA ob1) (v1.length+a1.size) c1) (aG X) ?_
 try simp only [sc0,sc1]
 refine aB<|ay<|AT ?_
 obtain rfl:=Ab H
 refine Ay (bD X (bK X)) X ?_
 have ho2:=ho1.norm
 exact ⟨ob1,c1,cs1,fr1,(by first|rfl|(rw [ho1.len];done)|(rw [ho1.len];rfl)),hf1,ho2,HS2⟩
def sO.f (k:Nat) (a0:List Int) (a1:bf):Option ((List Int)):=(oK.f k a0 a1.aF).bind fun v1=>((lK.f k v1 a1.vType).bind fun v2=>((lK.f k v2 a1.vAt).bind fun v3=>(some v3)))
theorem sO.calls (k:Nat) (a0:List Int) (a1:bf) (qW:Option Nat) (ca0:Nat) (x9:List Value) (Aq:Nat×Nat) {h0:View} {w0:World} {h:View} {w:World} {rest:List Res} (HS:St [] h0 w0 h ((qW, .cells (x9).toArray 5 Aq)::rest) w) (KI:gU (Kd.int .u8) h a0 qW a0.length ca0 x9) (KJ:xO Aq x9.length) {r:(List Int)} (H:sO.f k a0 a1=some r):Calls Tryz.prog 74 #[vL (rowA qW) a0.length ca0,Value.agg #[vS a1.aF,vI a1.vType,vI a1.vAt]] w (fun e w1=>∃(oI:Option Nat) (vZ:Nat) (oJ:List Value),∃(qE:Nat×Nat),e= .returned (vL (rowA oI) r.length vZ)∧xO qE oJ.length∧gU (Kd.int .u8) h r oI r.length vZ oJ∧St [] h0 w0 h ((oI, .cells (oJ).toArray 5 qE)::rest) w1):=by
 unfold sO.f at H
 have hsub:Sub h h:=Sub.rfl' h
 go_enter Tryz.func74,Tryz.ntmps74
 refine Al<|Ao<|dF X X (eF (cs:=#[vS a1.aF,vI a1.vType,vI a1.vAt]) X X) ?_
 rintro w1 _ hE1 ⟨b1,rfl,ge1,hb1⟩
 have HS1:=HS.new hE1 ge1 hb1
 refine rs (vL none 0 0) (aG X) ?_
 try simp only [sc0,sc1]
 refine aB<|ay<|Al<|mg [([5,6,7,9,10,12,13],[0,1,2,4,5,7,8]),([],[4,5,7,8]),([],[7,8]),([4],[10])] [3,6,9] [[],[],[1],[0,1,2],[],[4],[0,1,2,3,4,5],[],[7],[0,1,2,3,4,5,6,7,8],[0,1,2,3,4,5,6,7,8,9]] rM (by kernel_rfl) ?_
 intro w2 hE2
 have HS2:=HS1.step hE2
 refine iR [vL (rowA qW) a0.length ca0,vP b1 0,vS a1.aF,vP b1 1,vI a1.vType,vP b1 2,vI a1.vAt] ?_ X X ?_
 ·try simp only [patch,sc0,sc1]
  exact bF (bG (v:=vL (rowA qW) a0.length ca0) X X X X (aO X)) (bF (bG (v:=vP b1 0) X X X X (aH (n:=1) (o':=0) X AJ X AW (by decide) X)) (bF (bG (v:=vS a1.aF) X X X X (aN X Be (HS2.look 0 X) X)) (bF (bG (v:=vP b1 1) X X X X (aH (n:=1) (o':=1) X AJ X As (by decide) X)) (bF (bG (v:=vI a1.vType) X X X X (aN X AC (HS2.look 0 X) X)) (bF (bG (v:=vP b1 2) X X X X (aH (n:=1) (o':=2) X AJ X As (by decide) X)) (bF (bG (v:=vI a1.vAt) X X X X (aN X AC (HS2.look 0 X) X)) (iH)))))))
 try simp only [patch,sc0,sc1]
 obtain ⟨v1,H1,H⟩:=bn H
 have HS3:=HS2.f1
 refine jJ (vs:=[vL (rowA qW) a0.length ca0,vS a1.aF]) (caps:=[]) Tryz.call72 X X (oK.calls k a0 a1.aF qW ca0 x9 Aq HS3 KI KJ H1) ?_
 rintro _ w3 ⟨sZ,xG,wQ,yc,rfl,wR,wS,HS4⟩
 refine ⟨_,X,?_⟩
 have HS5:=HS4.f1
 refine lY ?_
 try simp only [sc0,sc1]
 refine iR [] ?_ X X ?_
 ·try simp only [patch,sc0,sc1]
  exact bF (bG (v:=vP b1 1) X X X X (aH (n:=1) (o':=1) X AJ X As (by decide) X)) (bF (bG (v:=vI a1.vType) X X X X (aN X AC (HS5.look 0 X) X)) (bF (bG (v:=vP b1 2) X X X X (aH (n:=1) (o':=2) X AJ X As (by decide) X)) (bF (bG (v:=vI a1.vAt) X X X X (aN X AC (HS5.look 0 X) X)) (iH))))
 try simp only [patch,sc0,sc1]
 obtain ⟨v2,H2,H⟩:=bn H
 have HS6:=HS5.f1
 refine jJ (vs:=[vL (rowA sZ) v1.length xG,vI a1.vType]) (caps:=[]) Cn X X (lK.calls k v1 a1.vType sZ xG wQ yc HS6 wS wR H2) ?_
 rintro _ w4 ⟨qM,uX,yg,yh,rfl,yj,vK,HS7⟩
 refine ⟨_,X,?_⟩
 have HS8:=HS7.f1
 refine lY ?_
 try simp only [sc0,sc1]
 refine iR [] ?_ X X ?_
 ·try simp only [patch,sc0,sc1]
  exact bF (bG (v:=vP b1 2) X X X X (aH (n:=1) (o':=2) X AJ X As (by decide) X)) (bF (bG (v:=vI a1.vAt) X X X X (aN X AC (HS8.look 0 X) X)) (iH))
 try simp only [patch,sc0,sc1]
 obtain ⟨v3,H3,H⟩:=bn H
 have HS9:=HS8.f1
 refine jJ (vs:=[vL (rowA qM) v2.length uX,vI a1.vAt]) (caps:=[]) Cn X X (lK.calls k v2 a1.vAt qM uX yg yh HS9 vK yj H3) ?_
 rintro _ w5 ⟨yt,Bl,Fe,NC,rfl,Fg,Fh,kF⟩
 refine ⟨_,X,?_⟩
 have oC:=kF.f1
 refine lY ?_
 try simp only [sc0,sc1]
 refine nU [vL (rowA yt) v3.length Bl] ?_ ?_
 ·try simp only [patch,sc0,sc1]
  exact bF (bG (v:=vL (rowA yt) v3.length Bl) X X X X (aG X)) (iH)
 try simp only [patch,sc0,sc1]
 refine ay<|AT ?_
 obtain rfl:=Ab H
 refine Ay (bD X (bK X)) X ?_
 have mW:=oC.d0
 exact ⟨yt,Bl,Fe,NC,X,Fg,Fh,mW⟩
def iP.l0 (k:Nat) (a1:List bf):Nat→Int→(List Int)→Option ((List Int))
 |0,_,_=>none
 |m+1,aC,dG=>if (decide (aC<(a1.length:Int)))=true then (if 0≤aC∧aC<a1.length then ((sO.f k dG (rd aj a1 aC)).bind fun v2=>(iP.l0 k a1 m (IntKind.wrap .i64 (aC+1)) v2)) else none) else (some dG)
def iP.f (k:Nat) (a0:List Int) (a1:List bf):Option ((List Int)):=(lK.f k a0 (a1.length:Int)).bind fun v1=>((iP.l0 k a1 k 0 v1).bind fun xx1=>(some xx1))
theorem iP.calls (k:Nat) (a0:List Int) (a1:List bf) (qW:Option Nat) (ca0:Nat) (x9:List Value) (Aq:Nat×Nat) (iM:Option Addr) (iO:Nat) {h0:View} {w0:World} {h:View} {w:World} {rest:List Res} (HS:St [] h0 w0 h ((qW, .cells (x9).toArray 5 Aq)::rest) w) (KI:gU (Kd.int .u8) h a0 qW a0.length ca0 x9) (KJ:xO Aq x9.length) (kX:Rd dw h iM a1) (pK:a1.length≤iO) {r:(List Int)} (H:iP.f k a0 a1=some r):Calls Tryz.prog 73 #[vL (rowA qW) a0.length ca0,vL iM a1.length iO,Value.func (.func 74) #[] #[]] w (fun e w1=>∃(oI:Option Nat) (vZ:Nat) (oJ:List Value),∃(qE:Nat×Nat),e= .returned (vL (rowA oI) r.length vZ)∧xO qE oJ.length∧gU (Kd.int .u8) h r oI r.length vZ oJ∧St [] h0 w0 h ((oI, .cells (oJ).toArray 5 qE)::rest) w1):=by
 unfold iP.f at H
 have hsub:Sub h h:=Sub.rfl' h
 go_enter Tryz.func73,Tryz.ntmps73
 refine Al<|Ao<|rs (vL none 0 0) (aG X) ?_
 try simp only [sc0,sc1]
 refine aB<|ay<|Al<|Ao<|rs (vL (rowA qW) a0.length ca0) (aO X)<|rs (vL iM a1.length iO) (aO X)<|rs (vI (a1.length:Int)) (jD X AK) ?_
 obtain ⟨v1,H1,H⟩:=bn H
 refine jJ (vs:=[vL (rowA qW) a0.length ca0,vI (a1.length:Int)]) (caps:=[]) Cn X X (lK.calls k a0 (a1.length:Int) qW ca0 x9 Aq HS KI KJ H1) ?_
 rintro _ w1 ⟨sZ,xG,wQ,yc,rfl,wR,wS,HS1⟩
 refine ⟨_,X,?_⟩
 refine aK (by simp only [sc0,sc1];rfl) ?_
 refine rs (vL (rowA sZ) v1.length xG) (aG X) ?_
 try simp only [sc0,sc1]
 refine aB<|ay<|Al<|Al<|Ao<|rs (vL iM a1.length iO) (aO X)<|rs (vI (a1.length:Int)) (jD X AK)<|rs (vI 0) (aO X) ?_
 try simp only [sc0,sc1]
 refine aB<|ay ?_
 obtain ⟨xx1,H,G1⟩:=bn H
 refine jB [0,8,15,16,17,18,19,20,21,22,23] (fun m us w'=>∃aC:Int,∃dG:List Int,∃(fC:Option Nat) (jv:Nat),∃eH:List Value,∃oN:Nat×Nat,Fit us (fun uy1=>[vL (rowA fC) dG.length jv,(uy1 1),vI aC,(uy1 3),(uy1 4),(uy1 5),(uy1 6),(uy1 7),(uy1 8),(uy1 9),(uy1 10)])∧iP.l0 k a1 m aC dG=some xx1∧xO oN eH.length∧gU (Kd.int .u8) h dG fC dG.length jv eH∧St [] h0 w0 h ((fC, .cells (eH).toArray 5 oN)::rest) w') (fun us w'=>∃(eP:Option Nat) (jo:Nat),∃iw:List Value,∃uY:Nat×Nat,Fit us (fun uo1=>[vL (rowA eP) xx1.length jo,(uo1 1),(uo1 2),(uo1 3),(uo1 4),(uo1 5),(uo1 6),(uo1 7),(uo1 8),(uo1 9),(uo1 10)])∧xO uY iw.length∧gU (Kd.int .u8) h xx1 eP xx1.length jo iw∧St [] h0 w0 h ((eP, .cells (iw).toArray 5 uY)::rest) w') k ⟨0,v1,sZ,xG,wQ,yc,(fit X),H,wR,wS.norm,HS1⟩ ?_ ?_
 ·rintro m us w2 ⟨aC,dG,fC,jv,eH,oN,nO,H,wo,iE,HS2⟩
  obtain ⟨uy1,rfl⟩:=unj nO
  cases m with
  |zero=>exact absurd H (by simp [iP.l0])
  |succ m=>
   rw [iP.l0] at H
   try simp only [patch,sc0,sc1]
   refine Al<|Ao<|rs (vB (decide (aC<(a1.length:Int)))) (bW X X X) ?_
   try simp only [sc0,sc1]
   refine aB<|ay<|Al<|Av (t:=(decide (aC<(a1.length:Int)))) X (fun c1=>?_) (fun c1=>?_)
   ·replace H:=bU H c1
    refine AN<|ay<|Al<|wp_block<|Al<|Ao ?_
    obtain ⟨hi1,H⟩:=dN H
    obtain ⟨ad1,e1,mJ⟩:=ji kX hi1.1 hi1.2
    refine rs (Value.pointer (some (Addr.add ad1 (aC.toNat*3)))) (dP (sz:=3) X e1 X hi1.1 hi1.2 AK AS)<|rs (Value.agg #[vS ((rd aj a1 aC).aF),vI ((rd aj a1 aC).vType),vI ((rd aj a1 aC).vAt)]) (gG X BC (mJ.sees HS2.sees) AS)<|dF X X (dO (cs:=#[vS ByteArray.empty,vI 0,vI 0]) Bm X) ?_
    rintro w3 _ hE1 ⟨b1,rfl,ge1,hb1⟩
    have HS3:=HS2.new hE1 ge1 hb1
    refine gJ (i:=0) (cs:=[vS ByteArray.empty,vI 0,vI 0]) (cs':=[vS ((rd aj a1 aC).aF),vI ((rd aj a1 aC).vType),vI ((rd aj a1 aC).vAt)]) (vs:=[vS ((rd aj a1 aC).aF),vI ((rd aj a1 aC).vType),vI ((rd aj a1 aC).vAt)]) (bs':=((some b1, .cells #[vS ((rd aj a1 aC).aF),vI ((rd aj a1 aC).vType),vI ((rd aj a1 aC).vAt)] 48 (0,0))::(fC, .cells (eH).toArray 5 oN)::rest)) X X AS X X (by decide) X HS3 X (Ax X) X X ?_
    intro w4 HS4
    try simp only [sc0,sc1]
    refine aB<|ay<|Ao<|rs (Value.func (.func 74) #[] #[]) (aO X)<|rs (vL (rowA fC) dG.length jv) (aO X)<|rs (Value.agg #[vS ((rd aj a1 aC).aF),vI ((rd aj a1 aC).vType),vI ((rd aj a1 aC).vAt)]) (aT (n:=3) (vs:=[vS ((rd aj a1 aC).aF),vI ((rd aj a1 aC).vType),vI ((rd aj a1 aC).vAt)]) X BC (HS4.look 0 X) AS X X) ?_
    obtain ⟨v2,H2,H⟩:=bn H
    have HS5:=HS4.f1
    refine jJ (vs:=[vL (rowA fC) dG.length jv,Value.agg #[vS ((rd aj a1 aC).aF),vI ((rd aj a1 aC).vType),vI ((rd aj a1 aC).vAt)]]) (caps:=[]) Tryz.call74 X X (sO.calls k dG (rd aj a1 aC) fC jv eH oN HS5 iE wo H2) ?_
    rintro _ w5 ⟨qM,uX,yg,yh,rfl,yj,vK,HS6⟩
    refine ⟨_,X,?_⟩
    have HS7:=HS6.f1
    refine aK (by simp only [sc0,sc1];rfl) ?_
    refine rs (vL (rowA qM) v2.length uX) (aG X) ?_
    try simp only [sc0,sc1]
    refine aB<|dD<|ay<|Ao<|rs (vI (w64 (aC+1))) (bW X X X)<|rs (vI (w64 (aC+1))) (aO X) ?_
    try simp only [sc0,sc1]
    refine aB<|gI m (Nat.lt_succ_self m) X ⟨(w64 (aC+1)),v2,qM,uX,yg,yh,(fit X),H,yj,vK.norm,HS7.tail⟩
   ·replace H:=cO H (nt c1)
    refine Bx<|eU ?_
    obtain rfl:=Ab H
    refine iK X ⟨fC,jv,eH,oN,(fit X),wo,iE.norm,HS2⟩
 ·rintro us w6 ⟨eP,jo,iw,uY,nP,Gz,jr,HS8⟩
  obtain ⟨uo1,rfl⟩:=unj nP
  replace H:=G1
  clear G1
  try simp only [patch,sc0,sc1]
  refine ay<|Al<|Ao<|rs (vL (rowA eP) xx1.length jo) (aO X)<|rs (vL (rowA eP) xx1.length jo) (aG X) ?_
  try simp only [sc0,sc1]
  refine aB<|ay<|AT ?_
  obtain rfl:=Ab H
  exact Ay (bD X (bK X)) X<|⟨eP,jo,iw,uY,X,Gz,jr,HS8⟩
def wu.f (k:Nat) (a0:List Int) (a1:aZ):Option ((List Int)):=(lK.f k a0 a1.aA).bind fun v1=>((oK.f k v1 a1.aF).bind fun v2=>((lK.f k v2 a1.aY.aU).bind fun v3=>(((if a1.aY.aJ=true then (if v3.length+1≤4294967296 then (some (v3++([1]:List Int))) else none) else (if v3.length+1≤4294967296 then (some (v3++([0]:List Int))) else none)):Option ((List Int))).bind fun xx1=>((lK.f k xx1 a1.bY).bind fun v4=>((lK.f k v4 a1.vN).bind fun v5=>((iP.f k v5 a1.ak).bind fun v6=>(some v6)))))))
theorem wu.calls (k:Nat) (a0:List Int) (a1:aZ) (qW:Option Nat) (ca0:Nat) (x9:List Value) (Aq:Nat×Nat) (rG:Option Addr) (rH:Nat) {h0:View} {w0:World} {h:View} {w:World} {rest:List Res} (HS:St [] h0 w0 h ((qW, .cells (x9).toArray 5 Aq)::rest) w) (KI:gU (Kd.int .u8) h a0 qW a0.length ca0 x9) (KJ:xO Aq x9.length) (AU:Rd dw h rG a1.ak) (Du:a1.ak.length≤rH) {r:(List Int)} (H:wu.f k a0 a1=some r):Calls Tryz.prog 45 #[vL (rowA qW) a0.length ca0,Value.agg #[vI a1.aA,vS a1.aF,vI a1.aY.aU,vB a1.aY.aJ,vI a1.bY,vI a1.vN,vL rG a1.ak.length rH]] w (fun e w1=>∃(oI:Option Nat) (vZ:Nat) (oJ:List Value),∃(qE:Nat×Nat),e= .returned (vL (rowA oI) r.length vZ)∧xO qE oJ.length∧gU (Kd.int .u8) h r oI r.length vZ oJ∧St [] h0 w0 h ((oI, .cells (oJ).toArray 5 qE)::rest) w1):=by
 unfold wu.f at H
 have hsub:Sub h h:=Sub.rfl' h
 go_enter Tryz.func45,Tryz.ntmps45
 refine Al<|Ao<|dF X X (eF (cs:=#[vI a1.aA,vS a1.aF,vI a1.aY.aU,vB a1.aY.aJ,vI a1.bY,vI a1.vN,vL rG a1.ak.length rH]) X X) ?_
 rintro w1 _ hE1 ⟨b1,rfl,ge1,hb1⟩
 have HS1:=HS.new hE1 ge1 hb1
 refine rs (vL none 0 0) (aG X) ?_
 try simp only [sc0,sc1]
 refine aB<|ay<|Al<|mg [([5,6,7,9,10,12,13,14],[0,1,2,4,5,7,8,9]),([],[4,5,7,8,9]),([],[7,8,9]),([0],[11])] [3,6,10] [[],[],[1],[0,1,2],[],[4],[0,1,2,3,4,5],[],[7],[7,8],[0,1,2,3,4,5,6,7,8,9],[0,1,2,3,4,5,6,7,8,9,10]] rM (by kernel_rfl) ?_
 intro w2 hE2
 have HS2:=HS1.step hE2
 refine iR [vL (rowA qW) a0.length ca0,vP b1 0,vI a1.aA,vP b1 1,vS a1.aF,vP b1 2,vP b1 2,vI a1.aY.aU] ?_ X X ?_
 ·try simp only [patch,sc0,sc1]
  exact bF (bG (v:=vL (rowA qW) a0.length ca0) X X X X (aO X)) (bF (bG (v:=vP b1 0) X X X X (aH (n:=1) (o':=0) X An X As (by decide) X)) (bF (bG (v:=vI a1.aA) X X X X (aN X AC (HS2.look 0 X) X)) (bF (bG (v:=vP b1 1) X X X X (aH (n:=1) (o':=1) X An X AW (by decide) X)) (bF (bG (v:=vS a1.aF) X X X X (aN X Be (HS2.look 0 X) X)) (bF (bG (v:=vP b1 2) X X X X (aH (n:=2) (o':=2) X An X Bk (by decide) X)) (bF (bG (v:=vP b1 2) X X X X (aH (n:=1) (o':=2) X A_ X As (by decide) X)) (bF (bG (v:=vI a1.aY.aU) X X X X (aN X AC (HS2.look 0 X) X)) (iH))))))))
 try simp only [patch,sc0,sc1]
 obtain ⟨v1,H1,H⟩:=bn H
 have HS3:=HS2.f1
 refine jJ (vs:=[vL (rowA qW) a0.length ca0,vI a1.aA]) (caps:=[]) Cn X X (lK.calls k a0 a1.aA qW ca0 x9 Aq HS3 KI KJ H1) ?_
 rintro _ w3 ⟨sZ,xG,wQ,yc,rfl,wR,wS,HS4⟩
 refine ⟨_,X,?_⟩
 have HS5:=HS4.f1
 refine lY ?_
 try simp only [sc0,sc1]
 refine iR [] ?_ X X ?_
 ·try simp only [patch,sc0,sc1]
  exact bF (bG (v:=vP b1 1) X X X X (aH (n:=1) (o':=1) X An X AW (by decide) X)) (bF (bG (v:=vS a1.aF) X X X X (aN X Be (HS5.look 0 X) X)) (bF (bG (v:=vP b1 2) X X X X (aH (n:=2) (o':=2) X An X Bk (by decide) X)) (bF (bG (v:=vP b1 2) X X X X (aH (n:=1) (o':=2) X A_ X As (by decide) X)) (bF (bG (v:=vI a1.aY.aU) X X X X (aN X AC (HS5.look 0 X) X)) (iH)))))
 try simp only [patch,sc0,sc1]
 obtain ⟨v2,H2,H⟩:=bn H
 have HS6:=HS5.f1
 refine jJ (vs:=[vL (rowA sZ) v1.length xG,vS a1.aF]) (caps:=[]) Tryz.call72 X X (oK.calls k v1 a1.aF sZ xG wQ yc HS6 wS wR H2) ?_
 rintro _ w4 ⟨qM,uX,yg,yh,rfl,yj,vK,HS7⟩
 refine ⟨_,X,?_⟩
 have HS8:=HS7.f1
 refine lY ?_
 try simp only [sc0,sc1]
 refine iR [] ?_ X X ?_
 ·try simp only [patch,sc0,sc1]
  exact bF (bG (v:=vP b1 2) X X X X (aH (n:=2) (o':=2) X An X Bk (by decide) X)) (bF (bG (v:=vP b1 2) X X X X (aH (n:=1) (o':=2) X A_ X As (by decide) X)) (bF (bG (v:=vI a1.aY.aU) X X X X (aN X AC (HS8.look 0 X) X)) (iH)))
 try simp only [patch,sc0,sc1]
 obtain ⟨v3,H3,H⟩:=bn H
 have HS9:=HS8.f1
 refine jJ (vs:=[vL (rowA qM) v2.length uX,vI a1.aY.aU]) (caps:=[]) Cn X X (lK.calls k v2 a1.aY.aU qM uX yg yh HS9 vK yj H3) ?_
 rintro _ w5 ⟨yt,Bl,Fe,NC,rfl,Fg,Fh,kF⟩
 refine ⟨_,X,?_⟩
 have oC:=kF.f1
 refine lY ?_
 try simp only [sc0,sc1]
 refine nU [vL (rowA yt) v3.length Bl] ?_ ?_
 ·try simp only [patch,sc0,sc1]
  exact bF (bG (v:=vL (rowA yt) v3.length Bl) X X X X (aG X)) (iH)
 try simp only [patch,sc0,sc1]
 refine ay<|Al<|Al<|Ao<|rs (vP b1 2) (aH (n:=2) (o':=2) X An X Bk (by decide) X)<|rs (vP b1 3) (aH (n:=1) (o':=3) X A_ X Bi (by decide) X)<|rs (vB a1.aY.aJ) (aN X By (oC.look 0 X) X) ?_
 try simp only [sc0,sc1]
 refine aB<|ay ?_
 obtain ⟨xx1,H,G1⟩:=bn H
 refine kT [0,19,20,21,22,23,24] (fun us w'=>∃(wB:Option Nat) (BK:Nat),∃yZ:List Value,∃JE:Nat×Nat,Fit us (fun uj1=>[vL (rowA wB) xx1.length BK,(uj1 1),(uj1 2),(uj1 3),(uj1 4),(uj1 5),(uj1 6)])∧xO JE yZ.length∧gU (Kd.int .u8) h xx1 wB xx1.length BK yZ∧St [] h0 w0 h ((some b1, .cells #[vI a1.aA,vS a1.aF,vI a1.aY.aU,vB a1.aY.aJ,vI a1.bY,vI a1.vN,vL rG a1.ak.length rH] 58 (0,0))::(wB, .cells (yZ).toArray 5 JE)::rest) w') ?_ ?_
 ·refine Av (t:=a1.aY.aJ) X (fun c1=>?_) (fun c1=>?_)
  ·replace H:=bU H c1
   refine Ao<|rs (vL (rowA yt) v3.length Bl) (aO X)<|ng (Kd.int .u8) (xs:=([1]:List Int)) (n:=1) (cs:=[Value.int .u8 1]) Bu B8 B6 X X (by decide) (by decide) (by decide) [Value.int .u8 1] (jd.trans X) X X X X (fH (qs:=[Value.int .u8 1]) X (jc (cs:=[]))) oC ?_
   intro w6 b2 mW ho1
   obtain ⟨hl1,H⟩:=dN H
   refine yJ (Kd.int .u8) (q:=2) (cs:=Fe) X X Bu B8 B6 X (by decide) X (ni Bu mW (i:=0) X ho1 X) ho1.len (iC ho1) hl1 mW X Fg Fh ?_
   rintro w7 ob1 c2 cs1 fr1 ⟨hf1,_⟩ qx ho2
   refine rs (vL (rowA ob1) (v3.length+1) c2) (aG X) ?_
   try simp only [sc0,sc1]
   refine aB ?_
   obtain rfl:=Ab H
   refine oH X ⟨ob1,c2,cs1,fr1,(fit (by first|rfl|(rw [ho2.len];done)|(rw [ho2.len];rfl))),hf1,ho2.norm,qx.tail⟩
  ·replace H:=cO H (nt c1)
   refine Ao<|rs (vL (rowA yt) v3.length Bl) (aO X)<|ng (Kd.int .u8) (xs:=([0]:List Int)) (n:=1) (cs:=[Value.int .u8 0]) Bu B8 B6 X X (by decide) (by decide) (by decide) [Value.int .u8 0] (jd.trans X) X X X X (fH (qs:=[Value.int .u8 0]) X (jc (cs:=[]))) oC ?_
   intro w8 b3 ru ho3
   obtain ⟨hl2,H⟩:=dN H
   refine yJ (Kd.int .u8) (q:=2) (cs:=Fe) X X Bu B8 B6 X (by decide) X (ni Bu ru (i:=0) X ho3 X) ho3.len (iC ho3) hl2 ru X Fg Fh ?_
   rintro w9 ob2 c3 cs2 fr2 ⟨hf2,_⟩ sW ho4
   refine rs (vL (rowA ob2) (v3.length+1) c3) (aG X) ?_
   try simp only [sc0,sc1]
   refine aB ?_
   obtain rfl:=Ab H
   refine oH X ⟨ob2,c3,cs2,fr2,(fit (by first|rfl|(rw [ho4.len];done)|(rw [ho4.len];rfl))),hf2,ho4.norm,sW.tail⟩
 ·rintro us w10 ⟨wB,BK,yZ,JE,AB,U0,Eu,sH⟩
  obtain ⟨uj1,rfl⟩:=unj AB
  replace H:=G1
  clear G1
  try simp only [patch,sc0,sc1]
  refine Al<|mg [([25,26,27,29,30,32,33],[0,1,2,4,5,7,8]),([],[4,5,7,8]),([],[7,8]),([4],[10])] [3,6,9] [[],[],[1],[0,1,2],[],[4],[0,1,2,3,4,5],[],[7],[0,1,2,3,4,5,6,7,8],[0,1,2,3,4,5,6,7,8,9]] rM (by kernel_rfl) ?_
  intro w11 hE3
  have uQ:=sH.step hE3
  refine iR [vL (rowA wB) xx1.length BK,vP b1 4,vI a1.bY,vP b1 5,vI a1.vN,vP b1 6,vL rG a1.ak.length rH] ?_ X X ?_
  ·try simp only [patch,sc0,sc1]
   exact bF (bG (v:=vL (rowA wB) xx1.length BK) X X X X (aO X)) (bF (bG (v:=vP b1 4) X X X X (aH (n:=1) (o':=4) X An X As (by decide) X)) (bF (bG (v:=vI a1.bY) X X X X (aN X AC (uQ.look 0 X) X)) (bF (bG (v:=vP b1 5) X X X X (aH (n:=1) (o':=5) X An X As (by decide) X)) (bF (bG (v:=vI a1.vN) X X X X (aN X AC (uQ.look 0 X) X)) (bF (bG (v:=vP b1 6) X X X X (aH (n:=1) (o':=6) X An X A4 (by decide) X)) (bF (bG (v:=vL rG a1.ak.length rH) X X X X (aN X Bs (uQ.look 0 X) X)) (iH)))))))
  try simp only [patch,sc0,sc1]
  obtain ⟨v4,H4,H⟩:=bn H
  have xU:=uQ.f1
  refine jJ (vs:=[vL (rowA wB) xx1.length BK,vI a1.bY]) (caps:=[]) Cn X X (lK.calls k xx1 a1.bY wB BK yZ JE xU Eu U0 H4) ?_
  rintro _ w12 ⟨ND,Rx,Tf,Ti,rfl,Tj,Tm,zM⟩
  refine ⟨_,X,?_⟩
  have zl:=zM.f1
  refine lY ?_
  try simp only [sc0,sc1]
  refine iR [] ?_ X X ?_
  ·try simp only [patch,sc0,sc1]
   exact bF (bG (v:=vP b1 5) X X X X (aH (n:=1) (o':=5) X An X As (by decide) X)) (bF (bG (v:=vI a1.vN) X X X X (aN X AC (zl.look 0 X) X)) (bF (bG (v:=vP b1 6) X X X X (aH (n:=1) (o':=6) X An X A4 (by decide) X)) (bF (bG (v:=vL rG a1.ak.length rH) X X X X (aN X Bs (zl.look 0 X) X)) (iH))))
  try simp only [patch,sc0,sc1]
  obtain ⟨v5,H5,H⟩:=bn H
  have zN:=zl.f1
  refine jJ (vs:=[vL (rowA ND) v4.length Rx,vI a1.vN]) (caps:=[]) Cn X X (lK.calls k v4 a1.vN ND Rx Tf Ti zN Tm Tj H5) ?_
  rintro _ w13 ⟨oZ,sQ,IK,IL,rfl,NG,Fj,Bf⟩
  refine ⟨_,X,?_⟩
  have zO:=Bf.f1
  refine lY ?_
  try simp only [sc0,sc1]
  refine iR [] ?_ X X ?_
  ·try simp only [patch,sc0,sc1]
   exact bF (bG (v:=vP b1 6) X X X X (aH (n:=1) (o':=6) X An X A4 (by decide) X)) (bF (bG (v:=vL rG a1.ak.length rH) X X X X (aN X Bs (zO.look 0 X) X)) (iH))
  try simp only [patch,sc0,sc1]
  obtain ⟨v6,H6,H⟩:=bn H
  have BX:=zO.f1
  refine jJ (vs:=[vL (rowA oZ) v5.length sQ,vL rG a1.ak.length rH,Value.func (.func 74) #[] #[]]) (caps:=[]) Tryz.call73 X X (iP.calls k v5 a1.ak oZ sQ IK IL rG rH BX Fj NG AU Du H6) ?_
  rintro _ w14 ⟨IQ,NH,Tn,Tq,rfl,Tt,Tv,BI⟩
  refine ⟨_,X,?_⟩
  have AL:=BI.f1
  refine lY ?_
  try simp only [sc0,sc1]
  refine nU [vL (rowA IQ) v6.length NH] ?_ ?_
  ·try simp only [patch,sc0,sc1]
   exact bF (bG (v:=vL (rowA IQ) v6.length NH) X X X X (aG X)) (iH)
  try simp only [patch,sc0,sc1]
  refine ay<|AT ?_
  obtain rfl:=Ab H
  refine Ay (bD X (bK X)) X ?_
  have yX:=AL.d0
  exact ⟨IQ,NH,Tn,Tq,X,Tt,Tv,yX⟩
def je.l0 (k:Nat) (a1:List aZ):Nat→Int→(List Int)→Option ((List Int))
 |0,_,_=>none
 |m+1,aC,dG=>if (decide (aC<(a1.length:Int)))=true then (if 0≤aC∧aC<a1.length then ((wu.f k dG (rd ah a1 aC)).bind fun v2=>(je.l0 k a1 m (IntKind.wrap .i64 (aC+1)) v2)) else none) else (some dG)
def je.f (k:Nat) (a0:List Int) (a1:List aZ):Option ((List Int)):=(lK.f k a0 (a1.length:Int)).bind fun v1=>((je.l0 k a1 k 0 v1).bind fun xx1=>(some xx1))
theorem je.calls (k:Nat) (a0:List Int) (a1:List aZ) (qW:Option Nat) (ca0:Nat) (x9:List Value) (Aq:Nat×Nat) (iM:Option Addr) (iO:Nat) {h0:View} {w0:World} {h:View} {w:World} {rest:List Res} (HS:St [] h0 w0 h ((qW, .cells (x9).toArray 5 Aq)::rest) w) (KI:gU (Kd.int .u8) h a0 qW a0.length ca0 x9) (KJ:xO Aq x9.length) (kX:Rd bI h iM a1) (pK:a1.length≤iO) {r:(List Int)} (H:je.f k a0 a1=some r):Calls Tryz.prog 44 #[vL (rowA qW) a0.length ca0,vL iM a1.length iO,Value.func (.func 45) #[] #[]] w (fun e w1=>∃(oI:Option Nat) (vZ:Nat) (oJ:List Value),∃(qE:Nat×Nat),e= .returned (vL (rowA oI) r.length vZ)∧xO qE oJ.length∧gU (Kd.int .u8) h r oI r.length vZ oJ∧St [] h0 w0 h ((oI, .cells (oJ).toArray 5 qE)::rest) w1):=by
 unfold je.f at H
 have hsub:Sub h h:=Sub.rfl' h
 go_enter Tryz.func44,Tryz.ntmps44
 refine Al<|Ao<|rs (vL none 0 0) (aG X) ?_
 try simp only [sc0,sc1]
 refine aB<|ay<|Al<|Ao<|rs (vL (rowA qW) a0.length ca0) (aO X)<|rs (vL iM a1.length iO) (aO X)<|rs (vI (a1.length:Int)) (jD X AF) ?_
 obtain ⟨v1,H1,H⟩:=bn H
 refine jJ (vs:=[vL (rowA qW) a0.length ca0,vI (a1.length:Int)]) (caps:=[]) Cn X X (lK.calls k a0 (a1.length:Int) qW ca0 x9 Aq HS KI KJ H1) ?_
 rintro _ w1 ⟨sZ,xG,wQ,yc,rfl,wR,wS,HS1⟩
 refine ⟨_,X,?_⟩
 refine aK (by simp only [sc0,sc1];rfl) ?_
 refine rs (vL (rowA sZ) v1.length xG) (aG X) ?_
 try simp only [sc0,sc1]
 refine aB<|ay<|Al<|Al<|Ao<|rs (vL iM a1.length iO) (aO X)<|rs (vI (a1.length:Int)) (jD X AF)<|rs (vI 0) (aO X) ?_
 try simp only [sc0,sc1]
 refine aB<|ay ?_
 obtain ⟨xx1,H,G1⟩:=bn H
 refine jB [0,8,15,16,17,18,19,20,21,22,23] (fun m us w'=>∃aC:Int,∃dG:List Int,∃(fC:Option Nat) (jv:Nat),∃eH:List Value,∃oN:Nat×Nat,Fit us (fun uy1=>[vL (rowA fC) dG.length jv,(uy1 1),vI aC,(uy1 3),(uy1 4),(uy1 5),(uy1 6),(uy1 7),(uy1 8),(uy1 9),(uy1 10)])∧je.l0 k a1 m aC dG=some xx1∧xO oN eH.length∧gU (Kd.int .u8) h dG fC dG.length jv eH∧St [] h0 w0 h ((fC, .cells (eH).toArray 5 oN)::rest) w') (fun us w'=>∃(eP:Option Nat) (jo:Nat),∃iw:List Value,∃uY:Nat×Nat,Fit us (fun uo1=>[vL (rowA eP) xx1.length jo,(uo1 1),(uo1 2),(uo1 3),(uo1 4),(uo1 5),(uo1 6),(uo1 7),(uo1 8),(uo1 9),(uo1 10)])∧xO uY iw.length∧gU (Kd.int .u8) h xx1 eP xx1.length jo iw∧St [] h0 w0 h ((eP, .cells (iw).toArray 5 uY)::rest) w') k ⟨0,v1,sZ,xG,wQ,yc,(fit X),H,wR,wS.norm,HS1⟩ ?_ ?_
 ·rintro m us w2 ⟨aC,dG,fC,jv,eH,oN,nO,H,wo,iE,HS2⟩
  obtain ⟨uy1,rfl⟩:=unj nO
  cases m with
  |zero=>exact absurd H (by simp [je.l0])
  |succ m=>
   rw [je.l0] at H
   try simp only [patch,sc0,sc1]
   refine Al<|Ao<|rs (vB (decide (aC<(a1.length:Int)))) (bW X X X) ?_
   try simp only [sc0,sc1]
   refine aB<|ay<|Al<|Av (t:=(decide (aC<(a1.length:Int)))) X (fun c1=>?_) (fun c1=>?_)
   ·replace H:=bU H c1
    refine AN<|ay<|Al<|wp_block<|Al<|Ao ?_
    obtain ⟨hi1,H⟩:=dN H
    obtain ⟨ad1,dU,dY,e1,mJ,jS,iY⟩:=gK kX hi1.1 hi1.2
    refine rs (Value.pointer (some (Addr.add ad1 (aC.toNat*7)))) (dP (sz:=7) X e1 X hi1.1 hi1.2 AF AH)<|rs (Value.agg #[vI ((rd ah a1 aC).aA),vS ((rd ah a1 aC).aF),vI ((rd ah a1 aC).aY.aU),vB ((rd ah a1 aC).aY.aJ),vI ((rd ah a1 aC).bY),vI ((rd ah a1 aC).vN),vL dU ((rd ah a1 aC).ak).length dY]) (gG X A7 (mJ.sees HS2.sees) AH)<|dF X X (dO (cs:=#[vI 0,vS ByteArray.empty,vI 0,vB false,vI 0,vI 0,vL none 0 0]) A9 X) ?_
    rintro w3 _ hE1 ⟨b1,rfl,ge1,hb1⟩
    have HS3:=HS2.new hE1 ge1 hb1
    refine gJ (i:=0) (cs:=[vI 0,vS ByteArray.empty,vI 0,vB false,vI 0,vI 0,vL none 0 0]) (cs':=[vI ((rd ah a1 aC).aA),vS ((rd ah a1 aC).aF),vI ((rd ah a1 aC).aY.aU),vB ((rd ah a1 aC).aY.aJ),vI ((rd ah a1 aC).bY),vI ((rd ah a1 aC).vN),vL dU ((rd ah a1 aC).ak).length dY]) (vs:=[vI ((rd ah a1 aC).aA),vS ((rd ah a1 aC).aF),vI ((rd ah a1 aC).aY.aU),vB ((rd ah a1 aC).aY.aJ),vI ((rd ah a1 aC).bY),vI ((rd ah a1 aC).vN),vL dU ((rd ah a1 aC).ak).length dY]) (bs':=((some b1, .cells #[vI ((rd ah a1 aC).aA),vS ((rd ah a1 aC).aF),vI ((rd ah a1 aC).aY.aU),vB ((rd ah a1 aC).aY.aJ),vI ((rd ah a1 aC).bY),vI ((rd ah a1 aC).vN),vL dU ((rd ah a1 aC).ak).length dY] 58 (0,0))::(fC, .cells (eH).toArray 5 oN)::rest)) X X AH X X (by decide) X HS3 X (Ax X) X X ?_
    intro w4 HS4
    try simp only [sc0,sc1]
    refine aB<|ay<|Ao<|rs (Value.func (.func 45) #[] #[]) (aO X)<|rs (vL (rowA fC) dG.length jv) (aO X)<|rs (Value.agg #[vI ((rd ah a1 aC).aA),vS ((rd ah a1 aC).aF),vI ((rd ah a1 aC).aY.aU),vB ((rd ah a1 aC).aY.aJ),vI ((rd ah a1 aC).bY),vI ((rd ah a1 aC).vN),vL dU ((rd ah a1 aC).ak).length dY]) (aT (n:=7) (vs:=[vI ((rd ah a1 aC).aA),vS ((rd ah a1 aC).aF),vI ((rd ah a1 aC).aY.aU),vB ((rd ah a1 aC).aY.aJ),vI ((rd ah a1 aC).bY),vI ((rd ah a1 aC).vN),vL dU ((rd ah a1 aC).ak).length dY]) X A7 (HS4.look 0 X) AH X X) ?_
    obtain ⟨v2,H2,H⟩:=bn H
    have HS5:=HS4.f1
    refine jJ (vs:=[vL (rowA fC) dG.length jv,Value.agg #[vI ((rd ah a1 aC).aA),vS ((rd ah a1 aC).aF),vI ((rd ah a1 aC).aY.aU),vB ((rd ah a1 aC).aY.aJ),vI ((rd ah a1 aC).bY),vI ((rd ah a1 aC).vN),vL dU ((rd ah a1 aC).ak).length dY]]) (caps:=[]) Tryz.call45 X X (wu.calls k dG (rd ah a1 aC) fC jv eH oN dU dY HS5 iE wo iY jS H2) ?_
    rintro _ w5 ⟨qM,uX,yg,yh,rfl,yj,vK,HS6⟩
    refine ⟨_,X,?_⟩
    have HS7:=HS6.f1
    refine aK (by simp only [sc0,sc1];rfl) ?_
    refine rs (vL (rowA qM) v2.length uX) (aG X) ?_
    try simp only [sc0,sc1]
    refine aB<|dD<|ay<|Ao<|rs (vI (w64 (aC+1))) (bW X X X)<|rs (vI (w64 (aC+1))) (aO X) ?_
    try simp only [sc0,sc1]
    refine aB<|gI m (Nat.lt_succ_self m) X ⟨(w64 (aC+1)),v2,qM,uX,yg,yh,(fit X),H,yj,vK.norm,HS7.tail⟩
   ·replace H:=cO H (nt c1)
    refine Bx<|eU ?_
    obtain rfl:=Ab H
    refine iK X ⟨fC,jv,eH,oN,(fit X),wo,iE.norm,HS2⟩
 ·rintro us w6 ⟨eP,jo,iw,uY,nP,Gz,jr,HS8⟩
  obtain ⟨uo1,rfl⟩:=unj nP
  replace H:=G1
  clear G1
  try simp only [patch,sc0,sc1]
  refine ay<|Al<|Ao<|rs (vL (rowA eP) xx1.length jo) (aO X)<|rs (vL (rowA eP) xx1.length jo) (aG X) ?_
  try simp only [sc0,sc1]
  refine aB<|ay<|AT ?_
  obtain rfl:=Ab H
  exact Ay (bD X (bK X)) X<|⟨eP,jo,iw,uY,X,Gz,jr,HS8⟩
def wC.f (k:Nat) (a0:aQ):Option ((List Int)×Int):=(dH.f k a0).bind fun v1=>(if (!v1)=true then (some (([]:List Int),80)) else ((je.f k ([67,84,70,1]:List Int) a0.au).bind fun v2=>(some (v2,0))))
theorem wC.calls (k:Nat) (a0:aQ) (bQ:Option Addr) (bT:Nat) {h0:View} {w0:World} (hv:lS h0 w0) (fK:Rd bI h0 bQ a0.au) (iF:a0.au.length≤bT) {r:(List Int)×Int} (H:wC.f k a0=some r):Calls Tryz.prog 19 #[Value.agg #[vL bQ a0.au.length bT]] w0 (fun e w1=>∃(h1:View) (bQ:Option Addr) (bT:Nat),e= .returned (Value.tuple #[vL bQ r.1.length bT,vI r.2])∧r.1.length≤bT∧Rd (Kd.int .u8) h1 bQ r.1∧Gr w0.heap.size h0 h1∧lS h1 w1∧Ext w0 w1):=by
 unfold wC.f at H
 have HS:St [] h0 w0 h0 [] w0:=St.init hv
 go_enter Tryz.func19,Tryz.ntmps19
 refine Al<|Ao<|dF X X (eF (cs:=#[vL bQ a0.au.length bT]) X X) ?_
 rintro w1 _ hE1 ⟨b1,rfl,ge1,hb1⟩
 have HS1:=HS.new hE1 ge1 hb1
 refine rs (vL none 0 0) (aG X)<|rs (vI 0) (aG X) ?_
 try simp only [sc0,sc1]
 refine aB<|ay<|Al<|Al<|Ao<|rs (Value.agg #[vL bQ a0.au.length bT]) (aT (n:=1) (vs:=[vL bQ a0.au.length bT]) X AI (HS1.look 0 X) AD X X) ?_
 obtain ⟨v1,H1,H⟩:=bn H
 refine run_eq (v:=vB v1) X X (bC Cu X X (dH.calls k a0 bQ bT HS1.sees fK iF H1)) ?_
 intro w2 hE2
 have HS2:=HS1.step hE2
 refine rs (vB (!v1)) (mZ X) ?_
 try simp only [sc0,sc1]
 refine aB<|ay<|Av (t:=(!v1)) X (fun c1=>?_) (fun c1=>?_)
 ·replace H:=bU H c1
  refine Al<|Ao<|rs (vL none 0 0) (aG X)<|rs (vI 80) (aG X) ?_
  try simp only [sc0,sc1]
  refine aB<|ay<|AT<|bP ?_
  obtain rfl:=Ab H
  exact Ay (oL X (bK X) (bK X)) X<|⟨h0,none,0,X,(Nat.le_refl 0),(Rd.nil _ _ _),HS2.gr,HS2.sees,HS2.toE⟩
 ·replace H:=cO H (nt c1)
  refine AN<|ay<|Al<|Ao<|ng (Kd.int .u8) (xs:=([67,84,70,1]:List Int)) (n:=4) (cs:=[Value.int .u8 67,Value.int .u8 84,Value.int .u8 70,Value.int .u8 1]) Bu B8 B6 X X (by decide) (by decide) (by decide) [Value.int .u8 67,Value.int .u8 84,Value.int .u8 70,Value.int .u8 1] (jd.trans X) X X X X (fH (qs:=[Value.int .u8 67]) X (fH (qs:=[Value.int .u8 84]) X (fH (qs:=[Value.int .u8 70]) X (fH (qs:=[Value.int .u8 1]) X (jc (cs:=[])))))) HS2 ?_
  intro w3 b2 HS3 ho1
  refine Go.M.run_mark (b:=b2) (q:=0) (cs:=[Value.int .u8 67,Value.int .u8 84,Value.int .u8 70,Value.int .u8 1]) X X Bu Cl HS3 X ?_
  intro w4 HS4
  refine rs (vP b1 0) (aH (n:=1) (o':=0) X AE X AM (by decide) X)<|rs (vL bQ a0.au.length bT) (aN X AR (HS4.look 1 X) X)<|aK (by simp only [sc0,sc1];rfl) ?_
  obtain ⟨v2,H2,H⟩:=bn H
  have ho2:=ho1.norm
  refine jJ (vs:=[vL (rowA (some b2)) (([67,84,70,1]:List Int).length) 4,vL bQ a0.au.length bT,Value.func (.func 45) #[] #[]]) (caps:=[]) Tryz.call44 X (VK (show _=vL (rowA (some b2)) (([67,84,70,1]:List Int).length) 4 from by first|rfl|(rw [ho1.len];done)|(rw [ho1.len];rfl)) X X) (je.calls k ([67,84,70,1]:List Int) a0.au (some b2) 4 [Value.int .u8 67,Value.int .u8 84,Value.int .u8 70,Value.int .u8 1] (List.length ([Value.int .u8 67,Value.int .u8 84,Value.int .u8 70,Value.int .u8 1]),List.length ([Value.int .u8 67,Value.int .u8 84,Value.int .u8 70,Value.int .u8 1])+1) bQ bT HS4 ho2 PY fK iF H2) ?_
  rintro _ w5 ⟨qM,uX,yg,yh,rfl,yj,vK,HS5⟩
  refine ⟨_,X,?_⟩
  refine rs (vL (rowA qM) v2.length uX) (aG X)<|rs (vI 0) (aG X) ?_
  try simp only [sc0,sc1]
  refine aB<|ay<|AT ?_
  obtain rfl:=Ab H
  refine Ay (oL X (bK X) (bK X)) X ?_
  obtain ⟨h1,HS6,hs2,oV⟩:=lC HS5 (i:=0) rfl vK
  exact ⟨h1,(rowA qM),uX,X,vK.cap,oV,HS6.gr,HS6.sees,HS6.toE⟩
def kU.f (k:Nat):Option (Bool):=(nD.f).bind fun v1=>((zW.f k v1 1).bind fun v2=>((zX.f k v1 3).bind fun v3=>((rQ.f k v1 1 (⟨#[116,95,110,101,120,116]⟩:ByteArray)).bind fun v4=>((qL.f k v1 1 ([(⟨#[116,95,110,97,109,101]⟩:ByteArray)]:List ByteArray)).bind fun v5=>((xZ.f k v1).bind fun v6=>(if (((((((((((v6 !=0)||(v2.2 !=0))||(v2.1 !=24))||(v3.2 !=0))||(!(strEq v3.1 (⟨#[99,104,97,114,32,91,56,93]⟩:ByteArray))))||(v4.2 !=0))||(v4.1.vType !=2))||(v4.1.vAt !=8))||(v5.2.2 !=0))||(v5.1 !=3))||(v5.2.1 !=16))=true then (some false) else ((rQ.f k v1 2 (⟨#[116,95,116,105,100]⟩:ByteArray)).bind fun v7=>(if 0+v1.au.length≤4294967296 then (if (0+v1.au.length)+1≤4294967296 then ((lg.f k (⟨((([]:List aZ)++v1.au)++([(⟨2,ByteArray.empty,(⟨0,false⟩:jE),1,0,[]⟩:aZ)]:List aZ))⟩:aQ)).bind fun v8=>((wC.f k (⟨[]⟩:aQ)).bind fun v9=>((if (true&&(((v7.2==5)&&(v8.2.2==0))==true))=true then eu.f k v8.1 v1 else some false).bind fun v10=>((if (true&&((((v7.2==5)&&(v8.2.2==0))&&v10)==true))=true then cZ.f k v8.2.1 ([0,1,2,3,4,2]:List Int) else some false).bind fun v11=>(some ((((((v7.2==5)&&(v8.2.2==0))&&v10)&&v11)&&(v9.2==0))&&(strEq (strOf v9.1) (⟨#[67,84,70,1,0]⟩:ByteArray)))))))) else none) else none))))))))
theorem kU.calls (k:Nat) {h0:View} {w0:World} (hv:lS h0 w0) (ht:Tab w0) {r:Bool} (H:kU.f k=some r):Calls Tryz.prog 4 #[] w0 (fun e w1=>e= .returned (vB r)∧Ext w0 w1):=by
 unfold kU.f at H
 have HS:St [] h0 w0 h0 [] w0:=St.init hv
 go_enter Tryz.func4,Tryz.ntmps4
 refine Al<|Ao<|rs (vB false) (aG X) ?_
 try simp only [sc0,sc1]
 refine aB<|ay<|Al<|Ao ?_
 obtain ⟨v1,H1,H⟩:=bn H
 refine dF X X (iQ Tryz.call13 X (jX (h:=h0) (R:=(fun hx u=>∃(iV:Option Addr) (jq:Nat),u=Value.agg #[vL iV v1.au.length jq]∧v1.au.length≤jq∧Rd bI hx iV v1.au)) (Ext.rfl' w0) ((nD.calls HS.sees H1).mono ?_)) X) ?_
 ·rintro _ _ ⟨h1,iV,jq,rfl,qm,jM,g,ss,x⟩
  exact ⟨h1,_,X,⟨iV,jq,X,qm,jM⟩,g,ss,x⟩
 rintro w1 _ hE1 ⟨h1,⟨iV,jq,rfl,qm,jM⟩,gr1,se1⟩
 have HS1:=HS.view hE1 gr1 se1
 refine dF X X (dO (cs:=#[vL none 0 0]) Bp X) ?_
 rintro w2 _ hE2 ⟨b1,rfl,ge1,hb1⟩
 have HS2:=HS1.new hE2 ge1 hb1
 refine gJ (i:=0) (cs:=[vL none 0 0]) (cs':=[vL iV v1.au.length jq]) (vs:=[vL iV v1.au.length jq]) (bs':=[(some b1, .cells #[vL iV v1.au.length jq] 24 (0,0))]) X X AD X X (by decide) X HS2 X (Ax X) X X ?_
 intro w3 HS3
 try simp only [sc0,sc1]
 refine aB<|ay<|Al<|Ao<|rs (Value.agg #[vL iV v1.au.length jq]) (aT (n:=1) (vs:=[vL iV v1.au.length jq]) X AI (HS3.look 0 X) AD X X) ?_
 obtain ⟨v2,H2,H⟩:=bn H
 refine run_eq (v:=Value.tuple #[vI v2.1,vI v2.2]) X X (bC Tryz.call14 X X (zW.calls k v1 1 iV jq HS3.sees jM qm H2)) ?_
 intro w4 hE3
 have HS4:=HS3.step hE3
 refine rs (Value.tuple #[vI v2.1,vI v2.2]) (aO X)<|rs (vI v2.1) (gV X X)<|aK (by simp only [sc0,sc1];rfl) ?_
 refine rs (vI v2.2) (gV X X)<|rs (vI v2.1) (aG X)<|rs (vI v2.2) (aG X) ?_
 try simp only [sc0,sc1]
 refine aB<|ay<|Al<|Ao<|rs (Value.agg #[vL iV v1.au.length jq]) (aT (n:=1) (vs:=[vL iV v1.au.length jq]) X AI (HS4.look 0 X) AD X X) ?_
 obtain ⟨v3,H3,H⟩:=bn H
 refine run_eq (v:=Value.tuple #[vS v3.1,vI v3.2]) X X (bC Tryz.call15 X X (zX.calls k v1 3 iV jq HS4.sees (ht.s HS4) jM qm H3)) ?_
 intro w5 hE4
 have HS5:=HS4.step hE4
 refine rs (Value.tuple #[vS v3.1,vI v3.2]) (aO X)<|rs (vS v3.1) (gV X X)<|aK (by simp only [sc0,sc1];rfl) ?_
 refine rs (vI v3.2) (gV X X)<|rs (vS v3.1) (aG X)<|rs (vI v3.2) (aG X) ?_
 try simp only [sc0,sc1]
 refine aB<|ay<|Al<|Ao<|rs (Value.agg #[vL iV v1.au.length jq]) (aT (n:=1) (vs:=[vL iV v1.au.length jq]) X AI (HS5.look 0 X) AD X X) ?_
 obtain ⟨v4,H4,H⟩:=bn H
 refine run_eq (v:=Value.tuple #[Value.agg #[vS v4.1.aF,vI v4.1.vType,vI v4.1.vAt],vI v4.2]) X X (bC Tryz.call16 X X (rQ.calls k v1 1 (⟨#[116,95,110,101,120,116]⟩:ByteArray) iV jq HS5.sees jM qm H4)) ?_
 intro w6 hE5
 have HS6:=HS5.step hE5
 refine rs (Value.tuple #[Value.agg #[vS v4.1.aF,vI v4.1.vType,vI v4.1.vAt],vI v4.2]) (aO X)<|rs (Value.agg #[vS v4.1.aF,vI v4.1.vType,vI v4.1.vAt]) (gV X X)<|aK (by simp only [sc0,sc1];rfl) ?_
 refine rs (vI v4.2) (gV X X)<|dF X X (dO (cs:=#[vS ByteArray.empty,vI 0,vI 0]) Bm X) ?_
 rintro w7 _ hE6 ⟨b2,rfl,ge2,hb2⟩
 have HS7:=HS6.new hE6 ge2 hb2
 refine gJ (i:=0) (cs:=[vS ByteArray.empty,vI 0,vI 0]) (cs':=[vS v4.1.aF,vI v4.1.vType,vI v4.1.vAt]) (vs:=[vS v4.1.aF,vI v4.1.vType,vI v4.1.vAt]) (bs':=[(some b2, .cells #[vS v4.1.aF,vI v4.1.vType,vI v4.1.vAt] 48 (0,0)),(some b1, .cells #[vL iV v1.au.length jq] 24 (0,0))]) X X AS X X (by decide) X HS7 X (Ax X) X X ?_
 intro w8 HS8
 refine rs (vI v4.2) (aG X) ?_
 try simp only [sc0,sc1]
 refine aB<|ay<|Al<|Ao<|rs (Value.agg #[vL iV v1.au.length jq]) (aT (n:=1) (vs:=[vL iV v1.au.length jq]) X AI (HS8.look 1 X) AD X X)<|ng Kd.str (xs:=([(⟨#[116,95,110,97,109,101]⟩:ByteArray)]:List ByteArray)) (n:=1) (cs:=[vS (⟨#[116,95,110,97,109,101]⟩:ByteArray)]) A5 Cw Ct X X (by decide) (by decide) (by decide) [vS (⟨#[116,95,110,97,109,101]⟩:ByteArray)] (jd.trans X) X X X X (fH (qs:=[vS (⟨#[116,95,110,97,109,101]⟩:ByteArray)]) X (jc (cs:=[]))) HS8 ?_
 intro w9 b3 HS9 ho1
 obtain ⟨v5,H5,H⟩:=bn H
 obtain ⟨hl1,hs1,se2,Qe⟩:=zI HS9 (i:=0) rfl ho1
 refine run_eq (v:=Value.tuple #[vI v5.1,vI v5.2.1,vI v5.2.2]) X X (bC Tryz.call17 X (VK X X (show _=vL (rowA (some b3)) ([(⟨#[116,95,110,97,109,101]⟩:ByteArray)]:List ByteArray).length 1 from by rw [ho1.len];exact X)) (qL.calls k v1 1 ([(⟨#[116,95,110,97,109,101]⟩:ByteArray)]:List ByteArray) iV jq (rowA (some b3)) 1 se2 (jM.ext hs1) qm Qe ho1.cap H5)) ?_
 intro w10 hE7
 have kF:=HS9.step hE7
 refine rs (Value.tuple #[vI v5.1,vI v5.2.1,vI v5.2.2]) (aO X)<|aK (by simp only [sc0,sc1];rfl) ?_
 refine rs (vI v5.1) (gV X X)<|rs (vI v5.2.1) (gV X X)<|rs (vI v5.2.2) (gV X X)<|rs (vI v5.1) (aG X)<|aK (by simp only [sc0,sc1];rfl) ?_
 refine rs (vI v5.2.1) (aG X)<|rs (vI v5.2.2) (aG X) ?_
 try simp only [sc0,sc1]
 refine aB<|ay<|Al<|Al<|Ao<|rs (Value.agg #[vL iV v1.au.length jq]) (aT (n:=1) (vs:=[vL iV v1.au.length jq]) X AI (kF.look 2 X) AD X X) ?_
 obtain ⟨v6,H6,H⟩:=bn H
 refine run_eq (v:=vI v6) X X (bC Tryz.call18 X X (xZ.calls k v1 iV jq kF.sees jM qm H6)) ?_
 intro w11 hE8
 have oC:=kF.step hE8
 refine rs (vB (v6 !=0)) (bW X X X)<|rs (vB (v6 !=0)) (aO X)<|aK (by simp only [sc0,sc1];rfl) ?_
 refine rgs (v6 !=0) true (vI v2.2) X X X X (fun hg=>(aO X))<|rgs (v6 !=0) true (vB (v2.2 !=0)) X X X X (fun hg=>(bW (gvt (vI v2.2) hg X) X X))<|rs (vB ((v6 !=0)||(v2.2 !=0))) (dQ X X (fun hp=>(gvt (vB (v2.2 !=0)) (gQ X hp) X)))<|rs (vB ((v6 !=0)||(v2.2 !=0))) (aO X)<|aK (by simp only [sc0,sc1];rfl) ?_
 refine rgs ((v6 !=0)||(v2.2 !=0)) true (vI v2.1) X X X X (fun hg=>(aO X))<|rgs ((v6 !=0)||(v2.2 !=0)) true (vB (v2.1 !=24)) X X X X (fun hg=>(bW (gvt (vI v2.1) hg X) X X))<|rs (vB (((v6 !=0)||(v2.2 !=0))||(v2.1 !=24))) (dQ X X (fun hp=>(gvt (vB (v2.1 !=24)) (gQ X hp) X)))<|rs (vB (((v6 !=0)||(v2.2 !=0))||(v2.1 !=24))) (aO X)<|aK (by simp only [sc0,sc1];rfl) ?_
 refine rgs (((v6 !=0)||(v2.2 !=0))||(v2.1 !=24)) true (vI v3.2) X X X X (fun hg=>(aO X))<|rgs (((v6 !=0)||(v2.2 !=0))||(v2.1 !=24)) true (vB (v3.2 !=0)) X X X X (fun hg=>(bW (gvt (vI v3.2) hg X) X X))<|rs (vB ((((v6 !=0)||(v2.2 !=0))||(v2.1 !=24))||(v3.2 !=0))) (dQ X X (fun hp=>(gvt (vB (v3.2 !=0)) (gQ X hp) X)))<|rs (vB ((((v6 !=0)||(v2.2 !=0))||(v2.1 !=24))||(v3.2 !=0))) (aO X)<|aK (by simp only [sc0,sc1];rfl) ?_
 refine rgs ((((v6 !=0)||(v2.2 !=0))||(v2.1 !=24))||(v3.2 !=0)) true (vS v3.1) X X X X (fun hg=>(aO X))<|rgs ((((v6 !=0)||(v2.2 !=0))||(v2.1 !=24))||(v3.2 !=0)) true (vB (!(strEq v3.1 (⟨#[99,104,97,114,32,91,56,93]⟩:ByteArray)))) X X X X (fun hg=>(ql (gvt (vS v3.1) hg X) X))<|rs (vB (((((v6 !=0)||(v2.2 !=0))||(v2.1 !=24))||(v3.2 !=0))||(!(strEq v3.1 (⟨#[99,104,97,114,32,91,56,93]⟩:ByteArray))))) (dQ X X (fun hp=>(gvt (vB (!(strEq v3.1 (⟨#[99,104,97,114,32,91,56,93]⟩:ByteArray)))) (gQ X hp) X)))<|rs (vB (((((v6 !=0)||(v2.2 !=0))||(v2.1 !=24))||(v3.2 !=0))||(!(strEq v3.1 (⟨#[99,104,97,114,32,91,56,93]⟩:ByteArray))))) (aO X)<|aK (by simp only [sc0,sc1];rfl) ?_
 refine rgs (((((v6 !=0)||(v2.2 !=0))||(v2.1 !=24))||(v3.2 !=0))||(!(strEq v3.1 (⟨#[99,104,97,114,32,91,56,93]⟩:ByteArray)))) true (vI v4.2) X X X X (fun hg=>(aO X))<|rgs (((((v6 !=0)||(v2.2 !=0))||(v2.1 !=24))||(v3.2 !=0))||(!(strEq v3.1 (⟨#[99,104,97,114,32,91,56,93]⟩:ByteArray)))) true (vB (v4.2 !=0)) X X X X (fun hg=>(bW (gvt (vI v4.2) hg X) X X))<|rs (vB ((((((v6 !=0)||(v2.2 !=0))||(v2.1 !=24))||(v3.2 !=0))||(!(strEq v3.1 (⟨#[99,104,97,114,32,91,56,93]⟩:ByteArray))))||(v4.2 !=0))) (dQ X X (fun hp=>(gvt (vB (v4.2 !=0)) (gQ X hp) X)))<|rs (vB ((((((v6 !=0)||(v2.2 !=0))||(v2.1 !=24))||(v3.2 !=0))||(!(strEq v3.1 (⟨#[99,104,97,114,32,91,56,93]⟩:ByteArray))))||(v4.2 !=0))) (aO X)<|aK (by simp only [sc0,sc1];rfl) ?_
 refine rgs ((((((v6 !=0)||(v2.2 !=0))||(v2.1 !=24))||(v3.2 !=0))||(!(strEq v3.1 (⟨#[99,104,97,114,32,91,56,93]⟩:ByteArray))))||(v4.2 !=0)) true (vP b2 1) X X X X (fun hg=>(aH (n:=1) (o':=1) X AJ X As (by decide) X))<|rgs ((((((v6 !=0)||(v2.2 !=0))||(v2.1 !=24))||(v3.2 !=0))||(!(strEq v3.1 (⟨#[99,104,97,114,32,91,56,93]⟩:ByteArray))))||(v4.2 !=0)) true (vI v4.1.vType) X X X X (fun hg=>(aN (gvt (vP b2 1) hg X) AC (oC.look 1 X) X))<|rgs ((((((v6 !=0)||(v2.2 !=0))||(v2.1 !=24))||(v3.2 !=0))||(!(strEq v3.1 (⟨#[99,104,97,114,32,91,56,93]⟩:ByteArray))))||(v4.2 !=0)) true (vB (v4.1.vType !=2)) X X X X (fun hg=>(bW (gvt (vI v4.1.vType) hg X) X X))<|rs (vB (((((((v6 !=0)||(v2.2 !=0))||(v2.1 !=24))||(v3.2 !=0))||(!(strEq v3.1 (⟨#[99,104,97,114,32,91,56,93]⟩:ByteArray))))||(v4.2 !=0))||(v4.1.vType !=2))) (dQ X X (fun hp=>(gvt (vB (v4.1.vType !=2)) (gQ X hp) X)))<|aK (by simp only [sc0,sc1];rfl) ?_
 refine rs (vB (((((((v6 !=0)||(v2.2 !=0))||(v2.1 !=24))||(v3.2 !=0))||(!(strEq v3.1 (⟨#[99,104,97,114,32,91,56,93]⟩:ByteArray))))||(v4.2 !=0))||(v4.1.vType !=2))) (aO X)<|rgs (((((((v6 !=0)||(v2.2 !=0))||(v2.1 !=24))||(v3.2 !=0))||(!(strEq v3.1 (⟨#[99,104,97,114,32,91,56,93]⟩:ByteArray))))||(v4.2 !=0))||(v4.1.vType !=2)) true (vP b2 2) X X X X (fun hg=>(aH (n:=1) (o':=2) X AJ X As (by decide) X))<|rgs (((((((v6 !=0)||(v2.2 !=0))||(v2.1 !=24))||(v3.2 !=0))||(!(strEq v3.1 (⟨#[99,104,97,114,32,91,56,93]⟩:ByteArray))))||(v4.2 !=0))||(v4.1.vType !=2)) true (vI v4.1.vAt) X X X X (fun hg=>(aN (gvt (vP b2 2) hg X) AC (oC.look 1 X) X))<|rgs (((((((v6 !=0)||(v2.2 !=0))||(v2.1 !=24))||(v3.2 !=0))||(!(strEq v3.1 (⟨#[99,104,97,114,32,91,56,93]⟩:ByteArray))))||(v4.2 !=0))||(v4.1.vType !=2)) true (vB (v4.1.vAt !=8)) X X X X (fun hg=>(bW (gvt (vI v4.1.vAt) hg X) X X))<|aK (by simp only [sc0,sc1];rfl) ?_
 refine rs (vB ((((((((v6 !=0)||(v2.2 !=0))||(v2.1 !=24))||(v3.2 !=0))||(!(strEq v3.1 (⟨#[99,104,97,114,32,91,56,93]⟩:ByteArray))))||(v4.2 !=0))||(v4.1.vType !=2))||(v4.1.vAt !=8))) (dQ X X (fun hp=>(gvt (vB (v4.1.vAt !=8)) (gQ X hp) X)))<|rs (vB ((((((((v6 !=0)||(v2.2 !=0))||(v2.1 !=24))||(v3.2 !=0))||(!(strEq v3.1 (⟨#[99,104,97,114,32,91,56,93]⟩:ByteArray))))||(v4.2 !=0))||(v4.1.vType !=2))||(v4.1.vAt !=8))) (aO X)<|rgs ((((((((v6 !=0)||(v2.2 !=0))||(v2.1 !=24))||(v3.2 !=0))||(!(strEq v3.1 (⟨#[99,104,97,114,32,91,56,93]⟩:ByteArray))))||(v4.2 !=0))||(v4.1.vType !=2))||(v4.1.vAt !=8)) true (vI v5.2.2) X X X X (fun hg=>(aO X))<|rgs ((((((((v6 !=0)||(v2.2 !=0))||(v2.1 !=24))||(v3.2 !=0))||(!(strEq v3.1 (⟨#[99,104,97,114,32,91,56,93]⟩:ByteArray))))||(v4.2 !=0))||(v4.1.vType !=2))||(v4.1.vAt !=8)) true (vB (v5.2.2 !=0)) X X X X (fun hg=>(bW (gvt (vI v5.2.2) hg X) X X))<|aK (by simp only [sc0,sc1];rfl) ?_
 refine rs (vB (((((((((v6 !=0)||(v2.2 !=0))||(v2.1 !=24))||(v3.2 !=0))||(!(strEq v3.1 (⟨#[99,104,97,114,32,91,56,93]⟩:ByteArray))))||(v4.2 !=0))||(v4.1.vType !=2))||(v4.1.vAt !=8))||(v5.2.2 !=0))) (dQ X X (fun hp=>(gvt (vB (v5.2.2 !=0)) (gQ X hp) X)))<|rs (vB (((((((((v6 !=0)||(v2.2 !=0))||(v2.1 !=24))||(v3.2 !=0))||(!(strEq v3.1 (⟨#[99,104,97,114,32,91,56,93]⟩:ByteArray))))||(v4.2 !=0))||(v4.1.vType !=2))||(v4.1.vAt !=8))||(v5.2.2 !=0))) (aO X)<|rgs (((((((((v6 !=0)||(v2.2 !=0))||(v2.1 !=24))||(v3.2 !=0))||(!(strEq v3.1 (⟨#[99,104,97,114,32,91,56,93]⟩:ByteArray))))||(v4.2 !=0))||(v4.1.vType !=2))||(v4.1.vAt !=8))||(v5.2.2 !=0)) true (vI v5.1) X X X X (fun hg=>(aO X))<|rgs (((((((((v6 !=0)||(v2.2 !=0))||(v2.1 !=24))||(v3.2 !=0))||(!(strEq v3.1 (⟨#[99,104,97,114,32,91,56,93]⟩:ByteArray))))||(v4.2 !=0))||(v4.1.vType !=2))||(v4.1.vAt !=8))||(v5.2.2 !=0)) true (vB (v5.1 !=3)) X X X X (fun hg=>(bW (gvt (vI v5.1) hg X) X X))<|aK (by simp only [sc0,sc1];rfl) ?_
 refine rs (vB ((((((((((v6 !=0)||(v2.2 !=0))||(v2.1 !=24))||(v3.2 !=0))||(!(strEq v3.1 (⟨#[99,104,97,114,32,91,56,93]⟩:ByteArray))))||(v4.2 !=0))||(v4.1.vType !=2))||(v4.1.vAt !=8))||(v5.2.2 !=0))||(v5.1 !=3))) (dQ X X (fun hp=>(gvt (vB (v5.1 !=3)) (gQ X hp) X)))<|rs (vB ((((((((((v6 !=0)||(v2.2 !=0))||(v2.1 !=24))||(v3.2 !=0))||(!(strEq v3.1 (⟨#[99,104,97,114,32,91,56,93]⟩:ByteArray))))||(v4.2 !=0))||(v4.1.vType !=2))||(v4.1.vAt !=8))||(v5.2.2 !=0))||(v5.1 !=3))) (aO X)<|rgs ((((((((((v6 !=0)||(v2.2 !=0))||(v2.1 !=24))||(v3.2 !=0))||(!(strEq v3.1 (⟨#[99,104,97,114,32,91,56,93]⟩:ByteArray))))||(v4.2 !=0))||(v4.1.vType !=2))||(v4.1.vAt !=8))||(v5.2.2 !=0))||(v5.1 !=3)) true (vI v5.2.1) X X X X (fun hg=>(aO X))<|rgs ((((((((((v6 !=0)||(v2.2 !=0))||(v2.1 !=24))||(v3.2 !=0))||(!(strEq v3.1 (⟨#[99,104,97,114,32,91,56,93]⟩:ByteArray))))||(v4.2 !=0))||(v4.1.vType !=2))||(v4.1.vAt !=8))||(v5.2.2 !=0))||(v5.1 !=3)) true (vB (v5.2.1 !=16)) X X X X (fun hg=>(bW (gvt (vI v5.2.1) hg X) X X))<|aK (by simp only [sc0,sc1];rfl) ?_
 refine rs (vB (((((((((((v6 !=0)||(v2.2 !=0))||(v2.1 !=24))||(v3.2 !=0))||(!(strEq v3.1 (⟨#[99,104,97,114,32,91,56,93]⟩:ByteArray))))||(v4.2 !=0))||(v4.1.vType !=2))||(v4.1.vAt !=8))||(v5.2.2 !=0))||(v5.1 !=3))||(v5.2.1 !=16))) (dQ X X (fun hp=>(gvt (vB (v5.2.1 !=16)) (gQ X hp) X))) ?_
 try simp only [sc0,sc1]
 refine aB<|ay<|Av (t:=(((((((((((v6 !=0)||(v2.2 !=0))||(v2.1 !=24))||(v3.2 !=0))||(!(strEq v3.1 (⟨#[99,104,97,114,32,91,56,93]⟩:ByteArray))))||(v4.2 !=0))||(v4.1.vType !=2))||(v4.1.vAt !=8))||(v5.2.2 !=0))||(v5.1 !=3))||(v5.2.1 !=16))) X (fun c1=>?_) (fun c1=>?_)
 ·replace H:=bU H c1
  refine Al<|Ao<|rs (vB false) (aG X) ?_
  try simp only [sc0,sc1]
  refine aB<|ay<|AT<|bP ?_
  obtain rfl:=Ab H
  exact Ay (bD X (bK X)) X<|⟨X,oC.toE⟩
 ·replace H:=cO H (nt c1)
  refine AN<|ay<|Al<|Ao<|rs (Value.agg #[vL iV v1.au.length jq]) (aT (n:=1) (vs:=[vL iV v1.au.length jq]) X AI (oC.look 2 X) AD X X) ?_
  obtain ⟨v7,H7,H⟩:=bn H
  refine run_eq (v:=Value.tuple #[Value.agg #[vS v7.1.aF,vI v7.1.vType,vI v7.1.vAt],vI v7.2]) X X (bC Tryz.call16 X X (rQ.calls k v1 2 (⟨#[116,95,116,105,100]⟩:ByteArray) iV jq oC.sees jM qm H7)) ?_
  intro w12 hE9
  have mW:=oC.step hE9
  refine rs (Value.tuple #[Value.agg #[vS v7.1.aF,vI v7.1.vType,vI v7.1.vAt],vI v7.2]) (aO X)<|rs (Value.agg #[vS v7.1.aF,vI v7.1.vType,vI v7.1.vAt]) (gV X X)<|aK (by simp only [sc0,sc1];rfl) ?_
  refine rs (vI v7.2) (gV X X)<|dF X X (dO (cs:=#[vS ByteArray.empty,vI 0,vI 0]) Bm X) ?_
  rintro w13 _ NI ⟨b4,rfl,ge3,hb3⟩
  have qx:=mW.new NI ge3 hb3
  refine gJ (i:=0) (cs:=[vS ByteArray.empty,vI 0,vI 0]) (cs':=[vS v7.1.aF,vI v7.1.vType,vI v7.1.vAt]) (vs:=[vS v7.1.aF,vI v7.1.vType,vI v7.1.vAt]) (bs':=[(some b4, .cells #[vS v7.1.aF,vI v7.1.vType,vI v7.1.vAt] 48 (0,0)),((some b3), .cells ([vS (⟨#[116,95,110,97,109,101]⟩:ByteArray)]).toArray 9 (0,0)),(some b2, .cells #[vS v4.1.aF,vI v4.1.vType,vI v4.1.vAt] 48 (0,0)),(some b1, .cells #[vL iV v1.au.length jq] 24 (0,0))]) X X AS X X (by decide) X qx X (Ax X) X X ?_
  intro w14 ru
  refine rs (vI v7.2) (aG X) ?_
  try simp only [sc0,sc1]
  refine aB<|ay<|Al<|Ao<|Ik bI AF B0 ru ?_
  intro w15 b5 sW ho2
  refine rs (vP b1 0) (aH (n:=1) (o':=0) X AE X AM (by decide) X)<|rs (vL iV v1.au.length jq) (aN X AR (sW.look 4 X) X) ?_
  obtain ⟨nw1,sr1,hn1⟩:=MJ (c:=jq) Ir AF sW.sees jM
  obtain ⟨hl2,H⟩:=dN H
  refine oD bI (q:=0) (cs:=([]:List Value)) X X AF B0 A9 X (by decide) X sr1 X hn1 hl2 sW X ho2 ?_
  intro w16 ob1 c2 cs1 sH ho3
  refine aK (by simp only [sc0,sc1];rfl) ?_
  refine rs (Value.agg #[vI 2,vS ByteArray.empty,vI 0,vB false,vI 1,vI 0,vL none 0 0]) (jy (cs:=[vI 2,vS ByteArray.empty,vI 0,vB false,vI 1,vI 0,vL none 0 0]) (ps:=[(0,vI 2),(3,vI 1)]) A9 An (pl:=#[(0,1),(1,1),(2,2),(4,1),(5,1),(6,1)]) (fun w=>by simp [Tryz.sizeOf3,Tryz.sizeOf55,Tryz.sizeOf56,Tryz.sizeOf9]) (qp (show _=vI 2 from X) (show _=vI 1 from X)) X) ?_
  refine ng bI (xs:=([(⟨2,ByteArray.empty,(⟨0,false⟩:jE),1,0,[]⟩:aZ)]:List aZ)) (n:=1) (cs:=[vI 2,vS ByteArray.empty,vI 0,vB false,vI 1,vI 0,vL none 0 0]) AF B0 A9 X X (by decide) (by decide) (by decide) [Value.agg #[vI 2,vS ByteArray.empty,vI 0,vB false,vI 1,vI 0,vL none 0 0]] (jd.trans X) X X X X (fH (qs:=[vI 2,vS ByteArray.empty,vI 0,vB false,vI 1,vI 0,vL none 0 0]) ⟨[vI 2],[vS ByteArray.empty,vI 0,vB false,vI 1,vI 0,vL none 0 0],X,X,⟨[vS ByteArray.empty],[vI 0,vB false,vI 1,vI 0,vL none 0 0],X,X,⟨[vI 0,vB false],[vI 1,vI 0,vL none 0 0],X,⟨[vI 0],[vB false],X,X,X⟩,⟨[vI 1],[vI 0,vL none 0 0],X,X,⟨[vI 0],[vL none 0 0],X,X,⟨none,0,X,(Nat.le_refl 0),(Rd.nil _ _ _)⟩⟩⟩⟩⟩⟩ (jc (cs:=[]))) sH ?_
  intro w17 b6 uQ ho4
  obtain ⟨hl3,H⟩:=dN H
  refine oD bI (q:=1) (cs:=cs1) X X AF B0 A9 X (by decide) X (ni AF uQ (i:=0) X ho4 X) ho4.len (iC ho4) hl3 uQ X ho3 ?_
  intro w18 ob2 c3 cs2 xU ho5
  refine rs (Value.agg #[vL (rowA ob2) ((0+v1.au.length)+1) c3]) (jy (cs:=[vL (rowA ob2) ((0+v1.au.length)+1) c3]) (ps:=[(0,vL (rowA ob2) ((0+v1.au.length)+1) c3)]) Bp AE (pl:=#[(0,1)]) (fun w=>by simp [Tryz.sizeOf22]) (pq (show _=vL (rowA ob2) ((0+v1.au.length)+1) c3 from X)) X) ?_
  refine aK (by simp only [sc0,sc1];rfl) ?_
  refine dF X X (dO (cs:=#[vL none 0 0]) Bp X) ?_
  rintro w19 _ Qg ⟨b7,rfl,ge4,hb4⟩
  have zM:=xU.new Qg ge4 hb4
  refine gJ (i:=0) (cs:=[vL none 0 0]) (cs':=[vL (rowA ob2) ((0+v1.au.length)+1) c3]) (vs:=[vL (rowA ob2) ((0+v1.au.length)+1) c3]) (bs':=[(some b7, .cells #[vL (rowA ob2) ((0+v1.au.length)+1) c3] 24 (0,0)),((some b6), .cells ([vI 2,vS ByteArray.empty,vI 0,vB false,vI 1,vI 0,vL none 0 0]).toArray 58 (0,0)),(ob2, .cells (cs2).toArray 58 (0,0)),(some b4, .cells #[vS v7.1.aF,vI v7.1.vType,vI v7.1.vAt] 48 (0,0)),((some b3), .cells ([vS (⟨#[116,95,110,97,109,101]⟩:ByteArray)]).toArray 9 (0,0)),(some b2, .cells #[vS v4.1.aF,vI v4.1.vType,vI v4.1.vAt] 48 (0,0)),(some b1, .cells #[vL iV v1.au.length jq] 24 (0,0))]) X X AD X X (by decide) X zM X (Ax X) X X ?_
  intro w20 zl
  try simp only [sc0,sc1]
  refine aB<|ay<|Al<|Ao<|rs (Value.agg #[vL (rowA ob2) ((0+v1.au.length)+1) c3]) (aT (n:=1) (vs:=[vL (rowA ob2) ((0+v1.au.length)+1) c3]) X AI (zl.look 0 X) AD X X) ?_
  have zN:St [] h0 w0 h1 [(some b7, .cells #[vL (rowA ob2) (((([]:List aZ)++v1.au)++([(⟨2,ByteArray.empty,(⟨0,false⟩:jE),1,0,[]⟩:aZ)]:List aZ)).length) c3] 24 (0,0)),((some b6), .cells ([vI 2,vS ByteArray.empty,vI 0,vB false,vI 1,vI 0,vL none 0 0]).toArray 58 (0,0)),(ob2, .cells (cs2).toArray 58 (0,0)),(some b4, .cells #[vS v7.1.aF,vI v7.1.vType,vI v7.1.vAt] 48 (0,0)),((some b3), .cells ([vS (⟨#[116,95,110,97,109,101]⟩:ByteArray)]).toArray 9 (0,0)),(some b2, .cells #[vS v4.1.aF,vI v4.1.vType,vI v4.1.vAt] 48 (0,0)),(some b1, .cells #[vL iV v1.au.length jq] 24 (0,0))] w20:=zl.cast (by first|rfl|(rw [ho5.len];done)|(rw [ho5.len];rfl))
  have ho6:=ho5.norm
  try rw [←ho5.len]
  obtain ⟨h2,Bf,hs2,oV⟩:=lC zN (i:=2) rfl ho6
  have zO:St [] h0 w0 h2 [(some b7, .cells #[vL (rowA ob2) ((([]:List aZ)++v1.au)++([(⟨2,ByteArray.empty,(⟨0,false⟩:jE),1,0,[]⟩:aZ)]:List aZ)).length c3] 24 (0,0)),((some b6), .cells ([vI 2,vS ByteArray.empty,vI 0,vB false,vI 1,vI 0,vL none 0 0]).toArray 58 (0,0)),(some b4, .cells #[vS v7.1.aF,vI v7.1.vType,vI v7.1.vAt] 48 (0,0)),((some b3), .cells ([vS (⟨#[116,95,110,97,109,101]⟩:ByteArray)]).toArray 9 (0,0)),(some b2, .cells #[vS v4.1.aF,vI v4.1.vType,vI v4.1.vAt] 48 (0,0)),(some b1, .cells #[vL iV v1.au.length jq] 24 (0,0))] w20:=Bf
  replace jM:Rd bI h2 iV v1.au:=jM.ext hs2
  replace ho4:=ho4.view hs2
  replace ho1:=ho1.view hs2
  obtain ⟨v8,H8,H⟩:=bn H
  refine dF X X (iQ Tryz.call5 X (jX (h:=h2) (R:=(fun hx u=>∃(jT:Option Addr) (lD:Nat),∃(rU:Option Addr) (uw:Nat),u=Value.tuple #[Value.agg #[vL jT v8.1.au.length lD],vL rU v8.2.1.length uw,vI v8.2.2]∧v8.1.au.length≤lD∧Rd bI hx jT v8.1.au∧v8.2.1.length≤uw∧Rd (Kd.int .i64) hx rU v8.2.1)) (Ext.rfl' w20) ((lg.calls k (⟨((([]:List aZ)++v1.au)++([(⟨2,ByteArray.empty,(⟨0,false⟩:jE),1,0,[]⟩:aZ)]:List aZ))⟩:aQ) (rowA ob2) c3 zO.sees (ht.s zO) oV ho6.cap H8).mono ?_)) X) ?_
  ·rintro _ _ ⟨h1,jT,lD,rU,uw,rfl,uZ,lG,Fp,wU,g,ss,x⟩
   exact ⟨h1,_,X,⟨jT,lD,rU,uw,X,uZ,lG,Fp,wU⟩,g,ss,x⟩
  rintro w21 _ U1 ⟨h3,⟨jT,lD,rU,uw,rfl,uZ,lG,Fp,wU⟩,gr2,se3⟩
  have BX:=zO.view U1 gr2 se3
  replace jM:Rd bI h3 iV v1.au:=jM.ext gr2.1
  replace oV:Rd bI h3 (rowA ob2) ((([]:List aZ)++v1.au)++([(⟨2,ByteArray.empty,(⟨0,false⟩:jE),1,0,[]⟩:aZ)]:List aZ)):=oV.ext gr2.1
  replace ho4:=ho4.view gr2.1
  replace ho1:=ho1.view gr2.1
  refine rs (Value.tuple #[Value.agg #[vL jT v8.1.au.length lD],vL rU v8.2.1.length uw,vI v8.2.2]) (aO X)<|rs (Value.agg #[vL jT v8.1.au.length lD]) (gV X X)<|aK (by simp only [sc0,sc1];rfl) ?_
  refine rs (vL rU v8.2.1.length uw) (gV X X)<|rs (vI v8.2.2) (gV X X)<|dF X X (dO (cs:=#[vL none 0 0]) Bp X) ?_
  rintro w22 _ U2 ⟨b8,rfl,ge5,hb5⟩
  have BI:=BX.new U2 ge5 hb5
  refine gJ (i:=0) (cs:=[vL none 0 0]) (cs':=[vL jT v8.1.au.length lD]) (vs:=[vL jT v8.1.au.length lD]) (bs':=[(some b8, .cells #[vL jT v8.1.au.length lD] 24 (0,0)),(some b7, .cells #[vL (rowA ob2) ((([]:List aZ)++v1.au)++([(⟨2,ByteArray.empty,(⟨0,false⟩:jE),1,0,[]⟩:aZ)]:List aZ)).length c3] 24 (0,0)),((some b6), .cells ([vI 2,vS ByteArray.empty,vI 0,vB false,vI 1,vI 0,vL none 0 0]).toArray 58 (0,0)),(some b4, .cells #[vS v7.1.aF,vI v7.1.vType,vI v7.1.vAt] 48 (0,0)),((some b3), .cells ([vS (⟨#[116,95,110,97,109,101]⟩:ByteArray)]).toArray 9 (0,0)),(some b2, .cells #[vS v4.1.aF,vI v4.1.vType,vI v4.1.vAt] 48 (0,0)),(some b1, .cells #[vL iV v1.au.length jq] 24 (0,0))]) X X AD X X (by decide) X BI X (Ax X) X X ?_
  intro w23 AL
  refine aK (by simp only [sc0,sc1];rfl) ?_
  refine rs (vL rU v8.2.1.length uw) (aG X)<|rs (vI v8.2.2) (aG X) ?_
  try simp only [sc0,sc1]
  refine aB<|ay<|Al<|Ao<|rs (Value.agg #[vL none 0 0]) (qj (cs:=[vL none 0 0]) Bp AE (pl:=#[(0,1)]) (fun w=>by simp [Tryz.sizeOf22]) X) ?_
  obtain ⟨v9,H9,H⟩:=bn H
  refine dF X X (iQ Tryz.call19 X (jX (h:=h3) (R:=(fun hx u=>∃(jP:Option Addr) (kS:Nat),u=Value.tuple #[vL jP v9.1.length kS,vI v9.2]∧v9.1.length≤kS∧Rd (Kd.int .u8) hx jP v9.1)) (Ext.rfl' w23) ((wC.calls k (⟨[]⟩:aQ) none 0 AL.sees (Rd.nil _ _ _) (Nat.le_refl 0) H9).mono ?_)) X) ?_
  ·rintro _ _ ⟨h1,jP,kS,rfl,wV,nK,g,ss,x⟩
   exact ⟨h1,_,X,⟨jP,kS,X,wV,nK⟩,g,ss,x⟩
  rintro w24 _ U3 ⟨h4,⟨jP,kS,rfl,wV,nK⟩,gr3,se4⟩
  have yX:=AL.view U3 gr3 se4
  replace jM:Rd bI h4 iV v1.au:=jM.ext gr3.1
  replace oV:Rd bI h4 (rowA ob2) ((([]:List aZ)++v1.au)++([(⟨2,ByteArray.empty,(⟨0,false⟩:jE),1,0,[]⟩:aZ)]:List aZ)):=oV.ext gr3.1
  replace lG:Rd bI h4 jT v8.1.au:=lG.ext gr3.1
  replace wU:Rd (Kd.int .i64) h4 rU v8.2.1:=wU.ext gr3.1
  replace ho4:=ho4.view gr3.1
  replace ho1:=ho1.view gr3.1
  refine rs (Value.tuple #[vL jP v9.1.length kS,vI v9.2]) (aO X)<|rs (vL jP v9.1.length kS) (gV X X)<|aK (by simp only [sc0,sc1];rfl) ?_
  refine rs (vI v9.2) (gV X X)<|rs (vL jP v9.1.length kS) (aG X)<|rs (vI v9.2) (aG X) ?_
  try simp only [sc0,sc1]
  refine aB<|ay<|Al<|Ao<|rs (vI v7.2) (aO X)<|rs (vB (v7.2==5)) (bW X X X)<|rs (vB (v7.2==5)) (aO X)<|rgs (v7.2==5) true (vI v8.2.2) X X X X (fun hg=>(aO X))<|aK (by simp only [sc0,sc1];rfl) ?_
  refine rgs (v7.2==5) true (vB (v8.2.2==0)) X X X X (fun hg=>(bW (gvt (vI v8.2.2) hg X) X X))<|rs (vB ((v7.2==5)&&(v8.2.2==0))) (dL X (fun hp=>(gvt (vB (v8.2.2==0)) (gQ X hp) X)) X)<|rs (vB ((v7.2==5)&&(v8.2.2==0))) (aO X)<|rgs ((v7.2==5)&&(v8.2.2==0)) true (Value.agg #[vL jT v8.1.au.length lD]) X X X X (fun hg=>(aT (n:=1) (vs:=[vL jT v8.1.au.length lD]) X AI (yX.look 0 X) AD X X))<|aK (by simp only [sc0,sc1];rfl) ?_
  refine rgs ((v7.2==5)&&(v8.2.2==0)) true (Value.agg #[vL iV v1.au.length jq]) X X X X (fun hg=>(aT (n:=1) (vs:=[vL iV v1.au.length jq]) X AI (yX.look 6 X) AD X X)) ?_
  obtain ⟨v10,H10,H⟩:=bn H
  refine sJ (b:=((v7.2==5)&&(v8.2.2==0))) (c:=true) (v:=vB v10) X X X X (fun hg=>(bC CR X (wF (gvt (Value.agg #[vL jT v8.1.au.length lD]) hg X) (gvt (Value.agg #[vL iV v1.au.length jq]) hg X)) (eu.calls k v8.1 v1 jT lD iV jq yX.sees lG uZ jM qm (bU H10 hg)))) ?_
  intro w25 Wv
  have Bh:=yX.step Wv
  refine rs (vB (((v7.2==5)&&(v8.2.2==0))&&v10)) (dL X (fun hp=>(gvt (vB v10) (gQ X hp) X)) X)<|rs (vB (((v7.2==5)&&(v8.2.2==0))&&v10)) (aO X)<|aK (by simp only [sc0,sc1];rfl) ?_
  refine rgs (((v7.2==5)&&(v8.2.2==0))&&v10) true (vL rU v8.2.1.length uw) X X X X (fun hg=>(aO X))<|Sm (b:=(((v7.2==5)&&(v8.2.2==0))&&v10)) (c:=true) (Kd.int .i64) (xs:=([0,1,2,3,4,2]:List Int)) (n:=6) (cs:=[vI 0,vI 1,vI 2,vI 3,vI 4,vI 2]) X X AG Br Bb X X (by decide) (by decide) (by decide) [vI 0,vI 1,vI 2,vI 3,vI 4,vI 2] (fun _=>jd.trans X) X X X X (fH (qs:=[vI 0]) X (fH (qs:=[vI 1]) X (fH (qs:=[vI 2]) X (fH (qs:=[vI 3]) X (fH (qs:=[vI 4]) X (fH (qs:=[vI 2]) X (jc (cs:=[])))))))) Bh ?_
  intro w26 h5 Ag1 IB hs3 hq1
  replace jM:Rd bI h5 iV v1.au:=jM.ext (And.intro hs3 trivial).1
  replace oV:Rd bI h5 (rowA ob2) ((([]:List aZ)++v1.au)++([(⟨2,ByteArray.empty,(⟨0,false⟩:jE),1,0,[]⟩:aZ)]:List aZ)):=oV.ext (And.intro hs3 trivial).1
  replace lG:Rd bI h5 jT v8.1.au:=lG.ext (And.intro hs3 trivial).1
  replace wU:Rd (Kd.int .i64) h5 rU v8.2.1:=wU.ext (And.intro hs3 trivial).1
  replace nK:Rd (Kd.int .u8) h5 jP v9.1:=nK.ext (And.intro hs3 trivial).1
  replace ho4:=ho4.view (And.intro hs3 trivial).1
  replace ho1:=ho1.view (And.intro hs3 trivial).1
  obtain ⟨v11,H11,H⟩:=bn H
  refine sJ (b:=(((v7.2==5)&&(v8.2.2==0))&&v10)) (c:=true) (v:=vB v11) X X X X (fun hg=>(bC CF X (wF (gvt (vL rU v8.2.1.length uw) hg X) (gvt (vL Ag1 ([0,1,2,3,4,2]:List Int).length 6) hg X)) (cZ.calls k v8.2.1 ([0,1,2,3,4,2]:List Int) rU uw Ag1 6 IB.sees wU Fp ((hq1 hg)) ((Nat.le_refl _)) (bU H11 hg)))) ?_
  intro w27 Wx
  have Ea:=IB.step Wx
  refine rs (vB ((((v7.2==5)&&(v8.2.2==0))&&v10)&&v11)) (dL X (fun hp=>(gvt (vB v11) (gQ X hp) X)) X)<|aK (by simp only [sc0,sc1];rfl) ?_
  refine rs (vB ((((v7.2==5)&&(v8.2.2==0))&&v10)&&v11)) (aO X)<|rgs ((((v7.2==5)&&(v8.2.2==0))&&v10)&&v11) true (vI v9.2) X X X X (fun hg=>(aO X))<|rgs ((((v7.2==5)&&(v8.2.2==0))&&v10)&&v11) true (vB (v9.2==0)) X X X X (fun hg=>(bW (gvt (vI v9.2) hg X) X X))<|rs (vB (((((v7.2==5)&&(v8.2.2==0))&&v10)&&v11)&&(v9.2==0))) (dL X (fun hp=>(gvt (vB (v9.2==0)) (gQ X hp) X)) X)<|aK (by simp only [sc0,sc1];rfl) ?_
  refine rs (vB (((((v7.2==5)&&(v8.2.2==0))&&v10)&&v11)&&(v9.2==0))) (aO X)<|rgs (((((v7.2==5)&&(v8.2.2==0))&&v10)&&v11)&&(v9.2==0)) true (vL jP v9.1.length kS) X X X X (fun hg=>(aO X))<|rgs (((((v7.2==5)&&(v8.2.2==0))&&v10)&&v11)&&(v9.2==0)) true (vS (strOf v9.1)) X X X X (fun hg=>(V7 (gvt (vL jP v9.1.length kS) hg X) Bu BB Cl Ea.sees nK))<|rgs (((((v7.2==5)&&(v8.2.2==0))&&v10)&&v11)&&(v9.2==0)) true (vB (strEq (strOf v9.1) (⟨#[67,84,70,1,0]⟩:ByteArray))) X X X X (fun hg=>(sG (gvt (vS (strOf v9.1)) hg X) X))<|aK (by simp only [sc0,sc1];rfl) ?_
  refine rs (vB ((((((v7.2==5)&&(v8.2.2==0))&&v10)&&v11)&&(v9.2==0))&&(strEq (strOf v9.1) (⟨#[67,84,70,1,0]⟩:ByteArray)))) (dL X (fun hp=>(gvt (vB (strEq (strOf v9.1) (⟨#[67,84,70,1,0]⟩:ByteArray))) (gQ X hp) X)) X)<|rs (vB ((((((v7.2==5)&&(v8.2.2==0))&&v10)&&v11)&&(v9.2==0))&&(strEq (strOf v9.1) (⟨#[67,84,70,1,0]⟩:ByteArray)))) (aG X) ?_
  try simp only [sc0,sc1]
  refine aB<|ay<|AT ?_
  obtain rfl:=Ab H
  exact Ay (bD X (bK X)) X<|⟨X,Ea.toE⟩
def rV.f (a0:aZ) (x0:ByteArray):Option (Bool):=(jH.f a0).bind fun v1=>(some (v1&&(strEq a0.aF x0)))
theorem rV.calls (a0:aZ) (x0:ByteArray) (kG:Option Addr) (kH:Nat) (bx0:Nat) {h0:View} {w0:World} (hv:lS h0 w0) (sV:Rd dw h0 kG a0.ak) (wL:a0.ak.length≤kH) (hx0:w0.heap[bx0]?=some (.cells #[vS x0] 9 (0,0))) {r:Bool} (H:rV.f a0 x0=some r):Calls Tryz.prog 53 #[Value.agg #[vI a0.aA,vS a0.aF,vI a0.aY.aU,vB a0.aY.aJ,vI a0.bY,vI a0.vN,vL kG a0.ak.length kH],vP bx0 0] w0 (fun e w1=>e= .returned (vB r)∧Ext w0 w1):=by
 unfold rV.f at H
 have HS:St [] h0 w0 h0 [] w0:=St.init hv
 go_enter Tryz.func53,Tryz.ntmps53
 refine Al<|Ao<|dF X X (eF (cs:=#[vI a0.aA,vS a0.aF,vI a0.aY.aU,vB a0.aY.aJ,vI a0.bY,vI a0.vN,vL kG a0.ak.length kH]) X X) ?_
 rintro w1 _ hE1 ⟨b1,rfl,ge1,hb1⟩
 have HS1:=HS.new hE1 ge1 hb1
 refine rs (vB false) (aG X) ?_
 try simp only [sc0,sc1]
 refine aB<|ay<|Al<|Ao<|rs (Value.agg #[vI a0.aA,vS a0.aF,vI a0.aY.aU,vB a0.aY.aJ,vI a0.bY,vI a0.vN,vL kG a0.ak.length kH]) (aT (n:=7) (vs:=[vI a0.aA,vS a0.aF,vI a0.aY.aU,vB a0.aY.aJ,vI a0.bY,vI a0.vN,vL kG a0.ak.length kH]) X A7 (HS1.look 0 X) AH X X) ?_
 obtain ⟨v1,H1,H⟩:=bn H
 refine run_eq (v:=vB v1) X X (bC CA X X (jH.calls a0 kG kH HS1.sees sV wL H1)) ?_
 intro w2 hE2
 have HS2:=HS1.step hE2
 refine rs (vB v1) (aO X)<|rgs v1 true (vP b1 1) X X X X (fun hg=>(aH (n:=1) (o':=1) X An X AW (by decide) X))<|aK (by simp only [sc0,sc1];rfl) ?_
 refine rgs v1 true (vS a0.aF) X X X X (fun hg=>(aN (gvt (vP b1 1) hg X) Be (HS2.look 0 X) X))<|rgs v1 true (vS x0) X X X X (fun hg=>(aN X Be (kD hx0 HS2.toE) X))<|rgs v1 true (vB (strEq a0.aF x0)) X X X X (fun hg=>(sG (gvt (vS a0.aF) hg X) (gvt (vS x0) hg X)))<|rs (vB (v1&&(strEq a0.aF x0))) (dL X (fun hp=>(gvt (vB (strEq a0.aF x0)) (gQ X hp) X)) X)<|aK (by simp only [sc0,sc1];rfl) ?_
 refine rs (vB (v1&&(strEq a0.aF x0))) (aG X) ?_
 try simp only [sc0,sc1]
 refine aB<|ay<|AT ?_
 obtain rfl:=Ab H
 exact Ay (bD X (bK X)) X<|⟨X,HS2.toE⟩
def mP.f (k:Nat) (a0:aQ) (a1:ByteArray):Option (Int):=(cu.f k a0.au (fun z0=>rV.f z0 a1)).bind fun v1=>(some v1)
theorem mP.calls (k:Nat) (a0:aQ) (a1:ByteArray) (bQ:Option Addr) (bT:Nat) {h0:View} {w0:World} (hv:lS h0 w0) (fK:Rd bI h0 bQ a0.au) (iF:a0.au.length≤bT) {r:Int} (H:mP.f k a0 a1=some r):Calls Tryz.prog 24 #[Value.agg #[vL bQ a0.au.length bT],vS a1] w0 (fun e w1=>e= .returned (vI r)∧Ext w0 w1):=by
 unfold mP.f at H
 have HS:St [] h0 w0 h0 [] w0:=St.init hv
 go_enter Tryz.func24,Tryz.ntmps24
 refine Al<|Ao<|dF X X (eF (cs:=#[vL bQ a0.au.length bT]) X X) ?_
 rintro w1 _ hE1 ⟨b1,rfl,ge1,hb1⟩
 have HS1:=HS.new hE1 ge1 hb1
 refine dF X X (eF (cs:=#[vS a1]) X X) ?_
 rintro w2 _ hE2 ⟨b2,rfl,ge2,hb2⟩
 have HS2:=HS1.new hE2 ge2 hb2
 refine rs (vI 0) (aG X) ?_
 try simp only [sc0,sc1]
 refine aB<|ay<|Al<|Ao<|rs (vP b1 0) (aH (n:=1) (o':=0) X AE X AM (by decide) X)<|rs (vL bQ a0.au.length bT) (aN X AR (HS2.look 1 X) X)<|rs (Value.func (.func 53) #[] #[vP b2 0]) (qC (vs:=[vP b2 0]) X) ?_
 obtain ⟨v1,H1,H⟩:=bn H
 refine run_eq (v:=vI v1) X X (bC Tryz.call52 X X (cu.calls k a0.au (fun z0=>rV.f z0 a1) bQ bT 53 [vP b2 0] HS2.sees fK iF Tryz.call53 (fun z0 AP AQ h w hE hs hv IG Dk r H=>rV.calls z0 a1 AP AQ b2 hv IG Dk (kD (HS2.look 0 X) hE) H) H1)) ?_
 intro w3 hE3
 have HS3:=HS2.step hE3
 refine aK (by simp only [sc0,sc1];rfl) ?_
 refine rs (vI v1) (aG X) ?_
 try simp only [sc0,sc1]
 refine aB<|ay<|AT ?_
 obtain rfl:=Ab H
 exact Ay (bD X (bK X)) X<|⟨X,HS3.toE⟩
def fU.l0 (rec:Int→(List (Int×Bool))→(List aZ)→Option ((List (Int×Bool)))) (a0:Int) (x1:List aZ):Nat→Int→(List (Int×Bool))→Option ((List (Int×Bool)))
 |0,_,_=>none
 |m+1,aC,dG=>if (decide (aC<(((rd ah x1 a0).ak).length:Int)))=true then (if 0≤aC∧aC<((rd ah x1 a0).ak).length then ((rec ((rd aj ((rd ah x1 a0).ak) aC).vType) dG x1).bind fun v3=>(fU.l0 rec a0 x1 m (IntKind.wrap .i64 (aC+1)) v3)) else none) else (some dG)
def fU.f:Nat→Int→(List (Int×Bool))→(List aZ)→Option ((List (Int×Bool)))
 |0,_,_,_=>none
 |k+1,a0,x0,x1=>if ((bM ieq x0 a0).getD false)=true then (some x0) else (if 0≤a0∧a0<x1.length then ((nV.f).bind fun v1=>(((if ((bM ieq v1 ((rd ah x1 a0).aA)).getD aI).mD=true then ((fU.f k ((rd ah x1 a0).bY) (iG ieq x0 a0 true) x1).bind fun v2=>(some v2)) else (some (iG ieq x0 a0 true))):Option ((List (Int×Bool)))).bind fun xx1=>(if ((rd ah x1 a0).aA==4)=true then ((fU.l0 (fU.f k) a0 x1 k 0 xx1).bind fun xx2=>(some xx2)) else (some xx1)))) else none)
theorem fU.calls:∀(k:Nat) (a0:Int) (x0:List (Int×Bool)) (x1:List aZ) (bx0:Nat) (mx0:Nat) (VN:Array MapEntry) (VO:Nat) (bx1:Nat) (Ax1:Option Addr) (cx1:Nat) (bx2:Nat) {h0:View} {w0:World} {h:View} {w:World} {rest:List Res} (HS:St [] h0 w0 h ((some bx0, .cells #[Value.map (some mx0)] 72 (0,0))::(some mx0, .map VN VO)::(some bx1, .cells #[vL Ax1 x1.length cx1] 24 (0,0))::(some bx2, .cells #[Value.func (.func 55) #[] #[vP bx0 0,vP bx1 0,vP bx2 0]] 99 (0,0))::rest) w) (KC:oG (vI) vB x0 VN VO) (VP:Rd bI h Ax1 x1) (Wy:x1.length≤cx1) {r:(List (Int×Bool))} (H:fU.f k a0 x0 x1=some r),Calls Tryz.prog 55 #[vI a0,vP bx0 0,vP bx1 0,vP bx2 0] w (fun e w1=>∃(Ry:Array MapEntry) (Rz:Nat),e= .returned (Value.tuple #[])∧oG (vI) vB r Ry Rz∧St [] h0 w0 h ((some bx0, .cells #[Value.map (some mx0)] 72 (0,0))::(some mx0, .map Ry Rz)::(some bx1, .cells #[vL Ax1 x1.length cx1] 24 (0,0))::(some bx2, .cells #[Value.func (.func 55) #[] #[vP bx0 0,vP bx1 0,vP bx2 0]] 99 (0,0))::rest) w1):=by
 intro k
 induction k with
 |zero=>
  intros
  rename_i H
  exact absurd H (by simp [fU.f])
 |succ k ih=>
  intro a0 x0 x1 bx0 mx0 VN VO bx1 Ax1 cx1 bx2 h0 w0 h w rest HS KC VP Wy r H
  rw [fU.f] at H
  have hsub:Sub h h:=Sub.rfl' h
  go_enter Tryz.func55,Tryz.ntmps55
  refine Al<|Al<|Ao<|rs (Value.map (some mx0)) (aN X C4 (HS.look 0 X) X)<|rs (vI a0) (aO X)<|rs (vB ((bM ieq x0 a0).getD false)) (yU (og Bn) (k:=a0) (m:=x0) (ev:=vB) false X X Cr B_ (HS.look 1 X) KC) ?_
  try simp only [sc0,sc1]
  refine aB<|ay<|Av (t:=((bM ieq x0 a0).getD false)) X (fun c1=>?_) (fun c1=>?_)
  ·replace H:=bU H c1
   refine AT<|bP ?_
   obtain rfl:=Ab H
   exact Ay (results_none X _ _ _) X<|⟨VN,VO,X,KC,HS⟩
  ·replace H:=cO H (nt c1)
   refine AN<|ay<|Al<|Ao<|rs (Value.map (some mx0)) (aN X C4 (HS.look 0 X) X)<|rs (vI a0) (aO X)<|Hy (og Bn) (i:=1) (k:=a0) (v:=true) (ev:=vB) (m:=x0) (by first|exact .inl X|exact .inr X) X X X X X Cr HS X KC ?_
   intro w1 es1 cl1 HS1 ho1
   try simp only [sc0,sc1]
   refine aB<|ay<|Al<|Ao<|rs (vP bx1 0) (aH (n:=1) (o':=0) X AE X AM (by decide) X)<|rs (vL Ax1 x1.length cx1) (aN X AR (HS1.look 2 X) X)<|rs (vI a0) (aO X) ?_
   obtain ⟨hi1,H⟩:=dN H
   obtain ⟨ad1,dU,dY,e1,mJ,jS,iY⟩:=gK VP hi1.1 hi1.2
   refine rs (Value.pointer (some (Addr.add ad1 (a0.toNat*7)))) (dP (sz:=7) X e1 X hi1.1 hi1.2 AF AH)<|aK (by simp only [sc0,sc1];rfl) ?_
   refine rs (Value.agg #[vI ((rd ah x1 a0).aA),vS ((rd ah x1 a0).aF),vI ((rd ah x1 a0).aY.aU),vB ((rd ah x1 a0).aY.aJ),vI ((rd ah x1 a0).bY),vI ((rd ah x1 a0).vN),vL dU ((rd ah x1 a0).ak).length dY]) (gG X A7 (mJ.sees HS1.sees) AH)<|dF X X (dO (cs:=#[vI 0,vS ByteArray.empty,vI 0,vB false,vI 0,vI 0,vL none 0 0]) A9 X) ?_
   rintro w2 _ hE1 ⟨b1,rfl,ge1,hb1⟩
   have HS2:=HS1.new hE1 ge1 hb1
   refine gJ (i:=0) (cs:=[vI 0,vS ByteArray.empty,vI 0,vB false,vI 0,vI 0,vL none 0 0]) (cs':=[vI ((rd ah x1 a0).aA),vS ((rd ah x1 a0).aF),vI ((rd ah x1 a0).aY.aU),vB ((rd ah x1 a0).aY.aJ),vI ((rd ah x1 a0).bY),vI ((rd ah x1 a0).vN),vL dU ((rd ah x1 a0).ak).length dY]) (vs:=[vI ((rd ah x1 a0).aA),vS ((rd ah x1 a0).aF),vI ((rd ah x1 a0).aY.aU),vB ((rd ah x1 a0).aY.aJ),vI ((rd ah x1 a0).bY),vI ((rd ah x1 a0).vN),vL dU ((rd ah x1 a0).ak).length dY]) (bs':=((some b1, .cells #[vI ((rd ah x1 a0).aA),vS ((rd ah x1 a0).aF),vI ((rd ah x1 a0).aY.aU),vB ((rd ah x1 a0).aY.aJ),vI ((rd ah x1 a0).bY),vI ((rd ah x1 a0).vN),vL dU ((rd ah x1 a0).ak).length dY] 58 (0,0))::(some bx0, .cells #[Value.map (some mx0)] 72 (0,0))::(some mx0, .map es1 cl1)::(some bx1, .cells #[vL Ax1 x1.length cx1] 24 (0,0))::(some bx2, .cells #[Value.func (.func 55) #[] #[vP bx0 0,vP bx1 0,vP bx2 0]] 99 (0,0))::rest)) X X AH X X (by decide) X HS2 X (Ax X) X X ?_
   intro w3 HS3
   try simp only [sc0,sc1]
   refine aB<|ay<|Al<|Al ?_
   obtain ⟨v1,H1,H⟩:=bn H
   refine drawn [.ex (xB w3 (vI) kP v1), .eq (vP b1 0), .eq (vI ((rd ah x1 a0).aA)), .eq (Value.agg #[vB (((bM ieq v1 ((rd ah x1 a0).aA)).getD aI).ny),vB (((bM ieq v1 ((rd ah x1 a0).aA)).getD aI).um),vB (((bM ieq v1 ((rd ah x1 a0).aA)).getD aI).mD),vB (((bM ieq v1 ((rd ah x1 a0).aA)).getD aI).vn),vB (((bM ieq v1 ((rd ah x1 a0).aA)).getD aI).kN)]), .eq (vB (((bM ieq v1 ((rd ah x1 a0).aA)).getD aI).mD))] [18,19,20,21,22] rM (by kernel_rfl) X (vV xB.stable (aP (aP (aP (aP iJ))))) ⟨aX X (fun a' w' hE hk=>by exact iQ CM X (Ej hE (nV.calls (HS3.step hE).sees H1)) X),aX X (fun a' w' hE hk=>by exact aW (aH (n:=1) (o':=0) (show _=vP b1 0 from hk 5 X) An X As (by decide) X)),aX X (fun a' w' hE hk=>by exact aW (aN (show _=vP b1 0 from hk 19 X) AC ((HS3.step hE).look 0 X) X)),aX X (fun a' w' hE hk=>by obtain ⟨_,_,_,e18,_,XL,XM⟩:=hk 18 X;have HSd:=HS3.step hE;exact aW (yU (og Bn) (k:=((rd ah x1 a0).aA)) (m:=v1) (ev:=kP) aI e18 (show _=vI ((rd ah x1 a0).aA) from hk 20 X) BW B1 XL XM)),aX X (fun a' w' hE hk=>by exact aW (Ih (show _=Value.agg #[vB (((bM ieq v1 ((rd ah x1 a0).aA)).getD aI).ny),vB (((bM ieq v1 ((rd ah x1 a0).aA)).getD aI).um),vB (((bM ieq v1 ((rd ah x1 a0).aA)).getD aI).mD),vB (((bM ieq v1 ((rd ah x1 a0).aA)).getD aI).vn),vB (((bM ieq v1 ((rd ah x1 a0).aA)).getD aI).kN)] from hk 21 X) Bt X By X)),trivial⟩ ?_
   intro w4 hE2
   simp only [List.zip_cons_cons,List.zip_nil_left,List.zip_nil_right,vO,sc0,sc1,List.length_cons,List.length_nil,List.drop_succ_cons,List.drop_zero,Nat.zero_add,Nat.reduceAdd]
   rintro _ ⟨b2,es2,cl2,rfl,ge2,hb2,ho2⟩
   have HS4:=HS3.new hE2 ge2 hb2
   refine aB<|ay ?_
   obtain ⟨xx1,H,G1⟩:=bn H
   refine kT [23,24,25,26] (fun us w'=>∃(GH:Array MapEntry) (GI:Nat),Fit us (fun uj1=>[(uj1 0),(uj1 1),(uj1 2),(uj1 3)])∧oG (vI) vB xx1 GH GI∧St [] h0 w0 h ((some b2, .map es2 cl2)::(some b1, .cells #[vI ((rd ah x1 a0).aA),vS ((rd ah x1 a0).aF),vI ((rd ah x1 a0).aY.aU),vB ((rd ah x1 a0).aY.aJ),vI ((rd ah x1 a0).bY),vI ((rd ah x1 a0).vN),vL dU ((rd ah x1 a0).ak).length dY] 58 (0,0))::(some bx0, .cells #[Value.map (some mx0)] 72 (0,0))::(some mx0, .map GH GI)::(some bx1, .cells #[vL Ax1 x1.length cx1] 24 (0,0))::(some bx2, .cells #[Value.func (.func 55) #[] #[vP bx0 0,vP bx1 0,vP bx2 0]] 99 (0,0))::rest) w') ?_ ?_
   ·refine Av (t:=((bM ieq v1 ((rd ah x1 a0).aA)).getD aI).mD) X (fun c2=>?_) (fun c2=>?_)
    ·replace H:=bU H c2
     refine Ao<|rs (Value.func (.func 55) #[] #[vP bx0 0,vP bx1 0,vP bx2 0]) (aN X C5 (HS4.look 5 X) X)<|rs (vP b1 4) (aH (n:=1) (o':=4) X An X As (by decide) X)<|rs (vI ((rd ah x1 a0).bY)) (aN X AC (HS4.look 1 X) X) ?_
     obtain ⟨v2,H2,H⟩:=bn H
     have HS5:=HS4.f5
     have HS6:=HS5.f5
     have HS7:=HS6.f5
     have HS8:=HS7.f5
     refine jJ (vs:=[vI ((rd ah x1 a0).bY)]) (caps:=[vP bx0 0,vP bx1 0,vP bx2 0]) Dd X X (ih ((rd ah x1 a0).bY) (iG ieq x0 a0 true) x1 bx0 mx0 es1 cl1 bx1 Ax1 cx1 bx2 HS8 ho1 VP Wy H2) ?_
     rintro _ w5 ⟨Tz,TA,rfl,Iz,HS9⟩
     refine ⟨_,X,?_⟩
     have kF:=HS9.f3
     have oC:=kF.f3
     have mW:=oC.f3
     have qx:=mW.f3
     have ru:=qx.f5
     have sW:=ru.f5
     try simp only [sc0,sc1]
     refine aB ?_
     obtain rfl:=Ab H
     refine oH X ⟨Tz,TA,(fit X),Iz,sW⟩
    ·replace H:=cO H (nt c2)
     refine AN ?_
     obtain rfl:=Ab H
     refine oH X ⟨es1,cl1,(fit X),ho1,HS4⟩
   ·rintro us w6 ⟨GH,GI,AB,Eu,sH⟩
    obtain ⟨uj1,rfl⟩:=unj AB
    replace H:=G1
    clear G1
    try simp only [patch,sc0,sc1]
    refine Al<|Ao<|rs (vP b1 0) (aH (n:=1) (o':=0) X An X As (by decide) X)<|rs (vI ((rd ah x1 a0).aA)) (aN X AC (sH.look 1 X) X)<|rs (vB ((rd ah x1 a0).aA==4)) (bW X X X) ?_
    try simp only [sc0,sc1]
    refine aB<|ay<|Av (t:=((rd ah x1 a0).aA==4)) X (fun c3=>?_) (fun c3=>?_)
    ·replace H:=bU H c3
     refine Al<|Ao<|rs (vP b1 6) (aH (n:=1) (o':=6) X An X A4 (by decide) X)<|rs (vL dU ((rd ah x1 a0).ak).length dY) (aN X Bs (sH.look 1 X) X)<|rs (vI (((rd ah x1 a0).ak).length:Int)) (jD X AK)<|rs (vI 0) (aO X) ?_
     try simp only [sc0,sc1]
     refine aB<|ay ?_
     obtain ⟨xx2,H,G2⟩:=bn H
     refine jB [7,33,34,35,36,37,38,39,40,41] (fun m us w'=>∃(aC:Int),∃(dG:List (Int×Bool)),∃(o8:Array MapEntry) (o9:Nat),Fit us (fun uy1=>[(uy1 0),vI aC,(uy1 2),(uy1 3),(uy1 4),(uy1 5),(uy1 6),(uy1 7),(uy1 8),(uy1 9)])∧fU.l0 (fU.f k) a0 x1 m aC dG=some xx2∧oG (vI) vB dG o8 o9∧St [] h0 w0 h ((some b2, .map es2 cl2)::(some b1, .cells #[vI ((rd ah x1 a0).aA),vS ((rd ah x1 a0).aF),vI ((rd ah x1 a0).aY.aU),vB ((rd ah x1 a0).aY.aJ),vI ((rd ah x1 a0).bY),vI ((rd ah x1 a0).vN),vL dU ((rd ah x1 a0).ak).length dY] 58 (0,0))::(some bx0, .cells #[Value.map (some mx0)] 72 (0,0))::(some mx0, .map o8 o9)::(some bx1, .cells #[vL Ax1 x1.length cx1] 24 (0,0))::(some bx2, .cells #[Value.func (.func 55) #[] #[vP bx0 0,vP bx1 0,vP bx2 0]] 99 (0,0))::rest) w') (fun us w'=>∃(rD:Array MapEntry) (rE:Nat),Fit us (fun uo1=>[(uo1 0),(uo1 1),(uo1 2),(uo1 3),(uo1 4),(uo1 5),(uo1 6),(uo1 7),(uo1 8),(uo1 9)])∧oG (vI) vB xx2 rD rE∧St [] h0 w0 h ((some b2, .map es2 cl2)::(some b1, .cells #[vI ((rd ah x1 a0).aA),vS ((rd ah x1 a0).aF),vI ((rd ah x1 a0).aY.aU),vB ((rd ah x1 a0).aY.aJ),vI ((rd ah x1 a0).bY),vI ((rd ah x1 a0).vN),vL dU ((rd ah x1 a0).ak).length dY] 58 (0,0))::(some bx0, .cells #[Value.map (some mx0)] 72 (0,0))::(some mx0, .map rD rE)::(some bx1, .cells #[vL Ax1 x1.length cx1] 24 (0,0))::(some bx2, .cells #[Value.func (.func 55) #[] #[vP bx0 0,vP bx1 0,vP bx2 0]] 99 (0,0))::rest) w') k ⟨0,xx1,GH,GI,(fit X),H,Eu,sH⟩ ?_ ?_
     ·rintro m us w7 ⟨aC,dG,o8,o9,nO,H,iE,uQ⟩
      obtain ⟨uy1,rfl⟩:=unj nO
      cases m with
      |zero=>exact absurd H (by simp [fU.l0])
      |succ m=>
       rw [fU.l0] at H
       try simp only [patch,sc0,sc1]
       refine Al<|Ao<|rs (vB (decide (aC<(((rd ah x1 a0).ak).length:Int)))) (bW X X X) ?_
       try simp only [sc0,sc1]
       refine aB<|ay<|Al<|Av (t:=(decide (aC<(((rd ah x1 a0).ak).length:Int)))) X (fun c4=>?_) (fun c4=>?_)
       ·replace H:=bU H c4
        refine AN<|ay<|Al<|wp_block<|Al<|Ao ?_
        obtain ⟨hi2,H⟩:=dN H
        obtain ⟨ad2,e2,tN⟩:=ji iY hi2.1 hi2.2
        refine rs (Value.pointer (some (Addr.add ad2 (aC.toNat*3)))) (dP (sz:=3) X e2 X hi2.1 hi2.2 AK AS)<|rs (Value.agg #[vS ((rd aj ((rd ah x1 a0).ak) aC).aF),vI ((rd aj ((rd ah x1 a0).ak) aC).vType),vI ((rd aj ((rd ah x1 a0).ak) aC).vAt)]) (gG X BC (tN.sees uQ.sees) AS)<|dF X X (dO (cs:=#[vS ByteArray.empty,vI 0,vI 0]) Bm X) ?_
        rintro w8 _ hE3 ⟨b3,rfl,ge3,hb3⟩
        have xU:=uQ.new hE3 ge3 hb3
        refine gJ (i:=0) (cs:=[vS ByteArray.empty,vI 0,vI 0]) (cs':=[vS ((rd aj ((rd ah x1 a0).ak) aC).aF),vI ((rd aj ((rd ah x1 a0).ak) aC).vType),vI ((rd aj ((rd ah x1 a0).ak) aC).vAt)]) (vs:=[vS ((rd aj ((rd ah x1 a0).ak) aC).aF),vI ((rd aj ((rd ah x1 a0).ak) aC).vType),vI ((rd aj ((rd ah x1 a0).ak) aC).vAt)]) (bs':=((some b3, .cells #[vS ((rd aj ((rd ah x1 a0).ak) aC).aF),vI ((rd aj ((rd ah x1 a0).ak) aC).vType),vI ((rd aj ((rd ah x1 a0).ak) aC).vAt)] 48 (0,0))::(some b2, .map es2 cl2)::(some b1, .cells #[vI ((rd ah x1 a0).aA),vS ((rd ah x1 a0).aF),vI ((rd ah x1 a0).aY.aU),vB ((rd ah x1 a0).aY.aJ),vI ((rd ah x1 a0).bY),vI ((rd ah x1 a0).vN),vL dU ((rd ah x1 a0).ak).length dY] 58 (0,0))::(some bx0, .cells #[Value.map (some mx0)] 72 (0,0))::(some mx0, .map o8 o9)::(some bx1, .cells #[vL Ax1 x1.length cx1] 24 (0,0))::(some bx2, .cells #[Value.func (.func 55) #[] #[vP bx0 0,vP bx1 0,vP bx2 0]] 99 (0,0))::rest)) X X AS X X (by decide) X xU X (Ax X) X X ?_
        intro w9 zM
        try simp only [sc0,sc1]
        refine aB<|ay<|Ao<|rs (Value.func (.func 55) #[] #[vP bx0 0,vP bx1 0,vP bx2 0]) (aN X C5 (zM.look 6 X) X)<|rs (vP b3 1) (aH (n:=1) (o':=1) X AJ X As (by decide) X)<|rs (vI ((rd aj ((rd ah x1 a0).ak) aC).vType)) (aN X AC (zM.look 0 X) X) ?_
        obtain ⟨v3,H3,H⟩:=bn H
        have zl:=zM.f6
        have zN:=zl.f6
        have Bf:=zN.f6
        have zO:=Bf.f6
        refine jJ (vs:=[vI ((rd aj ((rd ah x1 a0).ak) aC).vType)]) (caps:=[vP bx0 0,vP bx1 0,vP bx2 0]) Dd X X (ih ((rd aj ((rd ah x1 a0).ak) aC).vType) dG x1 bx0 mx0 o8 o9 bx1 Ax1 cx1 bx2 zO iE VP Wy H3) ?_
        rintro _ w10 ⟨TB,TD,rfl,TF,BX⟩
        refine ⟨_,X,?_⟩
        have BI:=BX.f3
        have AL:=BI.f3
        have yX:=AL.f3
        have Bh:=yX.f3
        have IB:=Bh.f6
        have Ea:=IB.f6
        have LU:=Ea.f6
        try simp only [sc0,sc1]
        refine aB<|dD<|ay<|Ao<|rs (vI (w64 (aC+1))) (bW X X X)<|rs (vI (w64 (aC+1))) (aO X) ?_
        try simp only [sc0,sc1]
        refine aB<|gI m (Nat.lt_succ_self m) X ⟨(w64 (aC+1)),v3,TB,TD,(fit X),H,TF,LU.tail⟩
       ·replace H:=cO H (nt c4)
        refine Bx<|eU ?_
        obtain rfl:=Ab H
        refine iK X ⟨o8,o9,(fit X),iE,uQ⟩
     ·rintro us w11 ⟨rD,rE,nP,jr,LV⟩
      obtain ⟨uo1,rfl⟩:=unj nP
      replace H:=G2
      clear G2
      try simp only [patch,sc0,sc1]
      obtain rfl:=Ab H
      refine bodyPost_end (results_none X _ _ _) X ?_
      have KE:=LV.d1
      have MX:=KE.d0
      exact ⟨rD,rE,X,jr,MX⟩
    ·replace H:=cO H (nt c3)
     refine AN ?_
     obtain rfl:=Ab H
     refine bodyPost_end (results_none X _ _ _) X ?_
     have LW:=sH.d1
     have MZ:=LW.d0
     exact ⟨GH,GI,X,Eu,MZ⟩
def jf.l0 (k:Nat) (a0:aQ) (a1:List Int):Nat→Int→(List (Int×Bool))→Option ((List (Int×Bool)))
 |0,_,_=>none
 |m+1,aC,dG=>if (decide (aC<(a1.length:Int)))=true then (if 0≤aC∧aC<a1.length then ((fU.f k (rd 0 a1 aC) dG a0.au).bind fun v1=>(jf.l0 k a0 a1 m (IntKind.wrap .i64 (aC+1)) v1)) else none) else (some dG)
def jf.f (k:Nat) (a0:aQ) (a1:List Int):Option ((List (Int×Bool))):=(jf.l0 k a0 a1 k 0 ([]:List (Int×Bool))).bind fun xx1=>(some xx1)
theorem jf.calls (k:Nat) (a0:aQ) (a1:List Int) (bQ:Option Addr) (bT:Nat) (iM:Option Addr) (iO:Nat) {h0:View} {w0:World} (hv:lS h0 w0) (fK:Rd bI h0 bQ a0.au) (iF:a0.au.length≤bT) (kX:Rd (Kd.int .i64) h0 iM a1) (pK:a1.length≤iO) {r:(List (Int×Bool))} (H:jf.f k a0 a1=some r):Calls Tryz.prog 26 #[Value.agg #[vL bQ a0.au.length bT],vL iM a1.length iO] w0 (fun e w1=>∃(b:Nat) (es:Array MapEntry) (cl:Nat),e= .returned (.map (some b))∧(w0.heap.size≤b∧w1.heap[b]?=some (.map es cl))∧oG (vI) vB r es cl∧Ext w0 w1):=by
 unfold jf.f at H
 have HS:St [] h0 w0 h0 [] w0:=St.init hv
 go_enter Tryz.func26,Tryz.ntmps26
 refine Al<|Ao<|dF X X (eF (cs:=#[vL bQ a0.au.length bT]) X X) ?_
 rintro w1 _ hE1 ⟨b1,rfl,ge1,hb1⟩
 have HS1:=HS.new hE1 ge1 hb1
 refine rs (Value.map none) (aG X) ?_
 try simp only [sc0,sc1]
 refine aB<|ay<|Al<|Ao<|uj HS1 ?_
 intro w2 b2 HS2
 refine dF X X (dO (cs:=#[Value.map none]) Tryz.zeroValue72 X) ?_
 rintro w3 _ hE2 ⟨b3,rfl,ge2,hb2⟩
 have HS3:=HS2.new hE2 ge2 hb2
 refine gJ (i:=0) (cs:=[Value.map none]) (cs':=[Value.map (some b2)]) (vs:=[Value.map (some b2)]) (bs':=[(some b3, .cells #[Value.map (some b2)] 72 (0,0)),(some b2, .map #[] 0),(some b1, .cells #[vL bQ a0.au.length bT] 24 (0,0))]) X X Tryz.sizeOf72 X X (by decide) X HS3 X (Ax X) X X ?_
 intro w4 HS4
 try simp only [sc0,sc1]
 refine aB<|ay<|Al<|Ao<|dF X X (dO (cs:=#[Value.nilFunc]) Tryz.zeroValue99 X) ?_
 rintro w5 _ hE3 ⟨b4,rfl,ge3,hb3⟩
 have HS5:=HS4.new hE3 ge3 hb3
 try simp only [sc0,sc1]
 refine aB<|ay<|Al<|Ao<|rs (Value.func (.func 55) #[] #[vP b3 0,vP b1 0,vP b4 0]) (qC (vs:=[vP b3 0,vP b1 0,vP b4 0]) X)<|gJ (i:=0) (cs:=[Value.nilFunc]) (cs':=[Value.func (.func 55) #[] #[vP b3 0,vP b1 0,vP b4 0]]) (vs:=[Value.func (.func 55) #[] #[vP b3 0,vP b1 0,vP b4 0]]) (bs':=[(some b4, .cells #[Value.func (.func 55) #[] #[vP b3 0,vP b1 0,vP b4 0]] 99 (0,0)),(some b3, .cells #[Value.map (some b2)] 72 (0,0)),(some b2, .map #[] 0),(some b1, .cells #[vL bQ a0.au.length bT] 24 (0,0))]) X X Tryz.sizeOf99 X X (by decide) X HS5 X (Ax X) X X ?_
 intro w6 HS6
 try simp only [sc0,sc1]
 refine aB<|ay<|Al<|Al<|Ao<|rs (vL iM a1.length iO) (aO X)<|rs (vI (a1.length:Int)) (jD X AG)<|rs (vI 0) (aO X) ?_
 try simp only [sc0,sc1]
 refine aB<|ay ?_
 obtain ⟨xx1,H,G1⟩:=bn H
 refine jB [8,13,14,15,16,17,18,19,20] (fun m us w'=>∃(aC:Int),∃(dG:List (Int×Bool)),∃(o8:Array MapEntry) (o9:Nat),Fit us (fun uy1=>[(uy1 0),vI aC,(uy1 2),(uy1 3),(uy1 4),(uy1 5),(uy1 6),(uy1 7),(uy1 8)])∧jf.l0 k a0 a1 m aC dG=some xx1∧oG (vI) vB dG o8 o9∧St [] h0 w0 h0 [(some b4, .cells #[Value.func (.func 55) #[] #[vP b3 0,vP b1 0,vP b4 0]] 99 (0,0)),(some b3, .cells #[Value.map (some b2)] 72 (0,0)),(some b2, .map o8 o9),(some b1, .cells #[vL bQ a0.au.length bT] 24 (0,0))] w') (fun us w'=>∃(rD:Array MapEntry) (rE:Nat),Fit us (fun uo1=>[(uo1 0),(uo1 1),(uo1 2),(uo1 3),(uo1 4),(uo1 5),(uo1 6),(uo1 7),(uo1 8)])∧oG (vI) vB xx1 rD rE∧St [] h0 w0 h0 [(some b4, .cells #[Value.func (.func 55) #[] #[vP b3 0,vP b1 0,vP b4 0]] 99 (0,0)),(some b3, .cells #[Value.map (some b2)] 72 (0,0)),(some b2, .map rD rE),(some b1, .cells #[vL bQ a0.au.length bT] 24 (0,0))] w') k ⟨0,([]:List (Int×Bool)),#[],0,(fit X),H,(oG.nil),HS6⟩ ?_ ?_
 ·rintro m us w7 ⟨aC,dG,o8,o9,nO,H,iE,HS7⟩
  obtain ⟨uy1,rfl⟩:=unj nO
  cases m with
  |zero=>exact absurd H (by simp [jf.l0])
  |succ m=>
   rw [jf.l0] at H
   try simp only [patch,sc0,sc1]
   refine Al<|Ao<|rs (vB (decide (aC<(a1.length:Int)))) (bW X X X) ?_
   try simp only [sc0,sc1]
   refine aB<|ay<|Al<|Av (t:=(decide (aC<(a1.length:Int)))) X (fun c1=>?_) (fun c1=>?_)
   ·replace H:=bU H c1
    refine AN<|ay<|Al<|wp_block<|Al<|Ao ?_
    obtain ⟨hi1,H⟩:=dN H
    obtain ⟨ad1,e1,mJ⟩:=qY kX hi1.1 hi1.2
    refine rs (Value.pointer (some (Addr.add ad1 (aC.toNat*1)))) (dP (sz:=1) X e1 X hi1.1 hi1.2 AG As)<|rs (vI (rd 0 a1 aC)) (kE X AC (mJ.cell0 HS7.sees X))<|rs (vI (rd 0 a1 aC)) (aG X) ?_
    try simp only [sc0,sc1]
    refine aB<|ay<|Ao<|rs (Value.func (.func 55) #[] #[vP b3 0,vP b1 0,vP b4 0]) (aN X C5 (HS7.look 0 X) X)<|rs (vI (rd 0 a1 aC)) (aO X) ?_
    obtain ⟨v1,H1,H⟩:=bn H
    have HS8:=HS7.f3
    have HS9:=HS8.f3
    have kF:=HS9.f3
    refine jJ (vs:=[vI (rd 0 a1 aC)]) (caps:=[vP b3 0,vP b1 0,vP b4 0]) Dd X X (fU.calls k (rd 0 a1 aC) dG a0.au b3 b2 o8 o9 b1 bQ bT b4 kF iE fK iF H1) ?_
    rintro _ w8 ⟨TG,TI,rfl,IC,oC⟩
    refine ⟨_,X,?_⟩
    have mW:=oC.f2
    have qx:=mW.f2
    have ru:=qx.f2
    have sW:=ru.f3
    try simp only [sc0,sc1]
    refine aB<|dD<|ay<|Ao<|rs (vI (w64 (aC+1))) (bW X X X)<|rs (vI (w64 (aC+1))) (aO X) ?_
    try simp only [sc0,sc1]
    refine aB<|gI m (Nat.lt_succ_self m) X ⟨(w64 (aC+1)),v1,TG,TI,(fit X),H,IC,sW⟩
   ·replace H:=cO H (nt c1)
    refine Bx<|eU ?_
    obtain rfl:=Ab H
    refine iK X ⟨o8,o9,(fit X),iE,HS7⟩
 ·rintro us w9 ⟨rD,rE,nP,jr,sH⟩
  obtain ⟨uo1,rfl⟩:=unj nP
  replace H:=G1
  clear G1
  try simp only [patch,sc0,sc1]
  refine ay<|Al<|Ao<|rs (Value.map (some b2)) (aN X C4 (sH.look 1 X) X)<|rs (Value.map (some b2)) (aG X) ?_
  try simp only [sc0,sc1]
  refine aB<|ay<|AT ?_
  obtain rfl:=Ab H
  exact Ay (bD X (bK X)) X<|⟨b2,rD,rE,X,sH.fresh 2 X,jr,sH.toE⟩
def aV.l0 (a0:List bf) (a1:List bf) (a2:(bf→bf→Option Bool)):Nat→Int→Option ((Bool)⊕(Unit))
 |0,_=>none
 |m+1,aC=>if (decide (aC<(a0.length:Int)))=true then (if 0≤aC∧aC<a0.length then (if 0≤aC∧aC<a1.length then ((a2 (rd aj a0 aC) (rd aj a1 aC)).bind fun v1=>(if (!v1)=true then (some (.inl false)) else (aV.l0 a0 a1 a2 m (IntKind.wrap .i64 (aC+1))))) else none) else none) else (some (.inr ()))
def aV.f (k:Nat) (a0:List bf) (a1:List bf) (a2:bf→bf→Option Bool):Option (Bool):=if ((a0.length:Int) !=(a1.length:Int))=true then (some false) else ((aV.l0 a0 a1 a2 k 0).bind fun xx1=>(match xx1 with| .inl r=>some r| .inr s1=>some true))
theorem aV.calls (k:Nat) (a0:List bf) (a1:List bf) (a2:bf→bf→Option Bool) (bQ:Option Addr) (bT:Nat) (iM:Option Addr) (iO:Nat) (U4:Nat) (cap2:List Value) {h0:View} {w0:World} (hv:lS h0 w0) (fK:Rd dw h0 bQ a0) (iF:a0.length≤bT) (kX:Rd dw h0 iM a1) (pK:a1.length≤iO) (WA:∀args w,(callFunc U4 args).run Tryz.prog w= .ok (.enter U4 args) w) (XO:∀(z0:bf) (z1:bf) (h:View) (w:World),Ext w0 w→Sub h0 h→lS h w→∀(r:Bool),a2 z0 z1=some r→Calls Tryz.prog U4 ([Value.agg #[vS z0.aF,vI z0.vType,vI z0.vAt],Value.agg #[vS z1.aF,vI z1.vType,vI z1.vAt]]++cap2).toArray w (fun e w1=>e= .returned (vB r)∧Ext w w1)) {r:Bool} (H:aV.f k a0 a1 a2=some r):Calls Tryz.prog 78 #[vL bQ a0.length bT,vL iM a1.length iO,Value.func (.func U4) #[] cap2.toArray] w0 (fun e w1=>e= .returned (vB r)∧Ext w0 w1):=by
 unfold aV.f at H
 have HS:St [] h0 w0 h0 [] w0:=St.init hv
 go_enter Tryz.func78,Tryz.ntmps78
 refine Al<|Ao<|rs (vB false) (aG X) ?_
 try simp only [sc0,sc1]
 refine aB<|ay<|Al<|Al<|Ao<|rs (vL bQ a0.length bT) (aO X)<|rs (vI (a0.length:Int)) (jD X AK)<|rs (vL iM a1.length iO) (aO X)<|rs (vI (a1.length:Int)) (jD X AK)<|aK (by simp only [sc0,sc1];rfl) ?_
 refine rs (vB ((a0.length:Int) !=(a1.length:Int))) (bW X X X) ?_
 try simp only [sc0,sc1]
 refine aB<|ay<|Av (t:=((a0.length:Int) !=(a1.length:Int))) X (fun c1=>?_) (fun c1=>?_)
 ·replace H:=bU H c1
  refine Al<|Ao<|rs (vB false) (aG X) ?_
  try simp only [sc0,sc1]
  refine aB<|ay<|AT<|bP ?_
  obtain rfl:=Ab H
  exact Ay (bD X (bK X)) X<|⟨X,HS.toE⟩
 ·replace H:=cO H (nt c1)
  refine AN<|ay<|Al<|Al<|Ao<|rs (vL bQ a0.length bT) (aO X)<|rs (vI (a0.length:Int)) (jD X AK)<|rs (vI 0) (aO X) ?_
  try simp only [sc0,sc1]
  refine aB<|ay ?_
  obtain ⟨xx1,H,G1⟩:=bn H
  refine jB [6,7,8,9,17,18,19,20,21,22,23,24,25,26,27,28,29,30,31] (fun m us w'=>∃(aC:Int),Fit us (fun uy1=>[(uy1 0),(uy1 1),(uy1 2),(uy1 3),vI aC,(uy1 5),(uy1 6),(uy1 7),(uy1 8),(uy1 9),(uy1 10),(uy1 11),(uy1 12),(uy1 13),(uy1 14),(uy1 15),(uy1 16),(uy1 17),(uy1 18)])∧aV.l0 a0 a1 a2 m aC=some xx1∧St [] h0 w0 h0 [] w') (fun us w'=>∃(s1:Unit),xx1= .inr s1∧Fit us (fun uo1=>[(uo1 0),(uo1 1),(uo1 2),(uo1 3),(uo1 4),(uo1 5),(uo1 6),(uo1 7),(uo1 8),(uo1 9),(uo1 10),(uo1 11),(uo1 12),(uo1 13),(uo1 14),(uo1 15),(uo1 16),(uo1 17),(uo1 18)])∧St [] h0 w0 h0 [] w') k ⟨0,(fit X),H,HS⟩ ?_ ?_
  ·rintro m us w1 ⟨aC,nO,H,HS1⟩
   obtain ⟨uy1,rfl⟩:=unj nO
   cases m with
   |zero=>exact absurd H (by simp [aV.l0])
   |succ m=>
    rw [aV.l0] at H
    try simp only [patch,sc0,sc1]
    refine Al<|Ao<|rs (vB (decide (aC<(a0.length:Int)))) (bW X X X) ?_
    try simp only [sc0,sc1]
    refine aB<|ay<|Al<|Av (t:=(decide (aC<(a0.length:Int)))) X (fun c2=>?_) (fun c2=>?_)
    ·replace H:=bU H c2
     refine AN<|ay<|Al<|wp_block<|Al<|Ao<|rs (vI aC) (aO X) ?_
     obtain ⟨hi1,H⟩:=dN H
     obtain ⟨ad1,e1,mJ⟩:=ji fK hi1.1 hi1.2
     refine rs (Value.pointer (some (Addr.add ad1 (aC.toNat*3)))) (dP (sz:=3) X e1 X hi1.1 hi1.2 AK AS)<|rs (Value.agg #[vS ((rd aj a0 aC).aF),vI ((rd aj a0 aC).vType),vI ((rd aj a0 aC).vAt)]) (gG X BC (mJ.sees HS1.sees) AS)<|dF X X (dO (cs:=#[vS ByteArray.empty,vI 0,vI 0]) Bm X) ?_
     rintro w2 _ hE1 ⟨b1,rfl,ge1,hb1⟩
     have HS2:=HS1.new hE1 ge1 hb1
     refine aK (by simp only [sc0,sc1];rfl) ?_
     refine rs (vI aC) (aG X)<|gJ (i:=0) (cs:=[vS ByteArray.empty,vI 0,vI 0]) (cs':=[vS ((rd aj a0 aC).aF),vI ((rd aj a0 aC).vType),vI ((rd aj a0 aC).vAt)]) (vs:=[vS ((rd aj a0 aC).aF),vI ((rd aj a0 aC).vType),vI ((rd aj a0 aC).vAt)]) (bs':=[(some b1, .cells #[vS ((rd aj a0 aC).aF),vI ((rd aj a0 aC).vType),vI ((rd aj a0 aC).vAt)] 48 (0,0))]) X X AS X X (by decide) X HS2 X (Ax X) X X ?_
     intro w3 HS3
     try simp only [sc0,sc1]
     refine aB<|ay<|Al<|Ao<|rs (vL iM a1.length iO) (aO X)<|rs (vI aC) (aO X) ?_
     obtain ⟨hi2,H⟩:=dN H
     obtain ⟨ad2,e2,tN⟩:=ji kX hi2.1 hi2.2
     refine rs (Value.pointer (some (Addr.add ad2 (aC.toNat*3)))) (dP (sz:=3) X e2 X hi2.1 hi2.2 AK AS)<|rs (Value.agg #[vS ((rd aj a1 aC).aF),vI ((rd aj a1 aC).vType),vI ((rd aj a1 aC).vAt)]) (gG X BC (tN.sees HS3.sees) AS)<|aK (by simp only [sc0,sc1];rfl) ?_
     refine dF X X (dO (cs:=#[vS ByteArray.empty,vI 0,vI 0]) Bm X) ?_
     rintro w4 _ hE2 ⟨b2,rfl,ge2,hb2⟩
     have HS4:=HS3.new hE2 ge2 hb2
     refine gJ (i:=0) (cs:=[vS ByteArray.empty,vI 0,vI 0]) (cs':=[vS ((rd aj a1 aC).aF),vI ((rd aj a1 aC).vType),vI ((rd aj a1 aC).vAt)]) (vs:=[vS ((rd aj a1 aC).aF),vI ((rd aj a1 aC).vType),vI ((rd aj a1 aC).vAt)]) (bs':=[(some b2, .cells #[vS ((rd aj a1 aC).aF),vI ((rd aj a1 aC).vType),vI ((rd aj a1 aC).vAt)] 48 (0,0)),(some b1, .cells #[vS ((rd aj a0 aC).aF),vI ((rd aj a0 aC).vType),vI ((rd aj a0 aC).vAt)] 48 (0,0))]) X X AS X X (by decide) X HS4 X (Ax X) X X ?_
     intro w5 HS5
     try simp only [sc0,sc1]
     refine aB<|ay<|Al<|Ao<|rs (Value.func (.func U4) #[] cap2.toArray) (aO X)<|rs (Value.agg #[vS ((rd aj a0 aC).aF),vI ((rd aj a0 aC).vType),vI ((rd aj a0 aC).vAt)]) (aT (n:=3) (vs:=[vS ((rd aj a0 aC).aF),vI ((rd aj a0 aC).vType),vI ((rd aj a0 aC).vAt)]) X BC (HS5.look 1 X) AS X X)<|rs (Value.agg #[vS ((rd aj a1 aC).aF),vI ((rd aj a1 aC).vType),vI ((rd aj a1 aC).vAt)]) (aT (n:=3) (vs:=[vS ((rd aj a1 aC).aF),vI ((rd aj a1 aC).vType),vI ((rd aj a1 aC).vAt)]) X BC (HS5.look 0 X) AS X X) ?_
     obtain ⟨v1,H1,H⟩:=bn H
     refine run_eq (v:=vB v1) X X (yK (vs:=[Value.agg #[vS ((rd aj a0 aC).aF),vI ((rd aj a0 aC).vType),vI ((rd aj a0 aC).vAt)],Value.agg #[vS ((rd aj a1 aC).aF),vI ((rd aj a1 aC).vType),vI ((rd aj a1 aC).vAt)]]) (caps:=cap2) WA X X (XO (rd aj a0 aC) (rd aj a1 aC) _ _ HS5.toE HS5.sub HS5.sees _ H1)) ?_
     intro w6 hE3
     have HS6:=HS5.step hE3
     refine aK (by simp only [sc0,sc1];rfl) ?_
     refine rs (vB (!v1)) (mZ X) ?_
     try simp only [sc0,sc1]
     refine aB<|ay<|Av (t:=(!v1)) X (fun c3=>?_) (fun c3=>?_)
     ·replace H:=bU H c3
      refine Al<|Ao<|rs (vB false) (aG X) ?_
      try simp only [sc0,sc1]
      refine aB<|ay<|AT<|fA<|bP<|jm<|bP ?_
      obtain rfl:=Ab H
      obtain rfl:=Ab G1
      exact Ay (bD X (bK X)) X<|⟨X,HS6.toE⟩
     ·replace H:=cO H (nt c3)
      refine AN<|dD<|ay<|Ao<|rs (vI (w64 (aC+1))) (bW X X X)<|rs (vI (w64 (aC+1))) (aO X) ?_
      try simp only [sc0,sc1]
      refine aB<|gI m (Nat.lt_succ_self m) X ⟨(w64 (aC+1)),(fit X),H,HS6.tail.tail⟩
    ·replace H:=cO H (nt c2)
     refine Bx<|eU ?_
     obtain rfl:=Ab H
     refine iK X ⟨_,X,(fit X),HS1⟩
  ·rintro us w7 ⟨s1,rfl,nP,HS7⟩
   obtain ⟨uo1,rfl⟩:=unj nP
   replace H:=G1
   clear G1
   try simp only [patch,sc0,sc1]
   refine ay<|Al<|Ao<|rs (vB true) (aG X) ?_
   try simp only [sc0,sc1]
   refine aB<|ay<|AT ?_
   obtain rfl:=Ab H
   exact Ay (bD X (bK X)) X<|⟨X,HS7.toE⟩
def nG.f (k:Nat) (a0:bf) (a1:bf) (x0:aZ) (x1:aQ) (x2:aQ):Option (Bool):=(if ((true&&(((strEq a0.aF a1.aF)&&(a0.vAt==a1.vAt))==true))&&((x0.aA !=4)==false))=true then fB.f k x1 a0.vType else some ByteArray.empty).bind fun v1=>((if ((true&&(((strEq a0.aF a1.aF)&&(a0.vAt==a1.vAt))==true))&&((x0.aA !=4)==false))=true then fB.f k x2 a1.vType else some ByteArray.empty).bind fun v2=>(some (((strEq a0.aF a1.aF)&&(a0.vAt==a1.vAt))&&((x0.aA !=4)||(strEq v1 v2)))))
theorem nG.calls (k:Nat) (a0:bf) (a1:bf) (x0:aZ) (x1:aQ) (x2:aQ) (bx0:Nat) (U5:Option Addr) (U6:Nat) (bx1:Nat) (zT:Option Addr) (zU:Nat) (bx2:Nat) (IU:Option Addr) (IV:Nat) {h0:View} {w0:World} (hv:lS h0 w0) (ht:Tab w0) (Xh:Rd dw h0 U5 x0.ak) (Xi:x0.ak.length≤U6) (hx0:w0.heap[bx0]?=some (.cells #[vI x0.aA,vS x0.aF,vI x0.aY.aU,vB x0.aY.aJ,vI x0.bY,vI x0.vN,vL U5 x0.ak.length U6] 58 (0,0))) (Nr:Rd bI h0 zT x1.au) (Ns:x1.au.length≤zU) (hx1:w0.heap[bx1]?=some (.cells #[vL zT x1.au.length zU] 24 (0,0))) (U7:Rd bI h0 IU x2.au) (U8:x2.au.length≤IV) (hx2:w0.heap[bx2]?=some (.cells #[vL IU x2.au.length IV] 24 (0,0))) {r:Bool} (H:nG.f k a0 a1 x0 x1 x2=some r):Calls Tryz.prog 79 #[Value.agg #[vS a0.aF,vI a0.vType,vI a0.vAt],Value.agg #[vS a1.aF,vI a1.vType,vI a1.vAt],vP bx0 0,vP bx1 0,vP bx2 0] w0 (fun e w1=>e= .returned (vB r)∧Ext w0 w1):=by
 unfold nG.f at H
 have HS:St [] h0 w0 h0 [] w0:=St.init hv
 go_enter Tryz.func79,Tryz.ntmps79
 refine Al<|Ao<|dF X X (eF (cs:=#[vS a0.aF,vI a0.vType,vI a0.vAt]) X X) ?_
 rintro w1 _ hE1 ⟨b1,rfl,ge1,hb1⟩
 have HS1:=HS.new hE1 ge1 hb1
 refine dF X X (eF (cs:=#[vS a1.aF,vI a1.vType,vI a1.vAt]) X X) ?_
 rintro w2 _ hE2 ⟨b2,rfl,ge2,hb2⟩
 have HS2:=HS1.new hE2 ge2 hb2
 refine rs (vB false) (aG X) ?_
 try simp only [sc0,sc1]
 refine aB<|ay<|Al ?_
 obtain ⟨v1,H1,H⟩:=bn H
 obtain ⟨v2,H2,H⟩:=bn H
 refine drawn [.eq (vP b1 0), .eq (vS a0.aF), .eq (vP b2 0), .eq (vS a1.aF), .eq (vB (strEq a0.aF a1.aF)), .eq (vB (strEq a0.aF a1.aF)), .eq (gv (true&&((strEq a0.aF a1.aF)==true)) (vP b1 2)), .eq (gv (true&&((strEq a0.aF a1.aF)==true)) (vI a0.vAt)), .eq (gv (true&&((strEq a0.aF a1.aF)==true)) (vP b2 2)), .eq (gv (true&&((strEq a0.aF a1.aF)==true)) (vI a1.vAt)), .eq (gv (true&&((strEq a0.aF a1.aF)==true)) (vB (a0.vAt==a1.vAt))), .eq (vB ((strEq a0.aF a1.aF)&&(a0.vAt==a1.vAt))), .eq (vB ((strEq a0.aF a1.aF)&&(a0.vAt==a1.vAt))), .eq (gv (true&&(((strEq a0.aF a1.aF)&&(a0.vAt==a1.vAt))==true)) (vP bx0 0)), .eq (gv (true&&(((strEq a0.aF a1.aF)&&(a0.vAt==a1.vAt))==true)) (vI x0.aA)), .eq (gv (true&&(((strEq a0.aF a1.aF)&&(a0.vAt==a1.vAt))==true)) (vB (x0.aA !=4))), .eq (gv (true&&(((strEq a0.aF a1.aF)&&(a0.vAt==a1.vAt))==true)) (vB (x0.aA !=4))), .eq (gv ((true&&(((strEq a0.aF a1.aF)&&(a0.vAt==a1.vAt))==true))&&((x0.aA !=4)==false)) (Value.agg #[vL zT x1.au.length zU])), .eq (gv ((true&&(((strEq a0.aF a1.aF)&&(a0.vAt==a1.vAt))==true))&&((x0.aA !=4)==false)) (vP b1 1)), .eq (gv ((true&&(((strEq a0.aF a1.aF)&&(a0.vAt==a1.vAt))==true))&&((x0.aA !=4)==false)) (vI a0.vType)), .eq (gv ((true&&(((strEq a0.aF a1.aF)&&(a0.vAt==a1.vAt))==true))&&((x0.aA !=4)==false)) (vS v1)), .eq (gv ((true&&(((strEq a0.aF a1.aF)&&(a0.vAt==a1.vAt))==true))&&((x0.aA !=4)==false)) (Value.agg #[vL IU x2.au.length IV])), .eq (gv ((true&&(((strEq a0.aF a1.aF)&&(a0.vAt==a1.vAt))==true))&&((x0.aA !=4)==false)) (vP b2 1)), .eq (gv ((true&&(((strEq a0.aF a1.aF)&&(a0.vAt==a1.vAt))==true))&&((x0.aA !=4)==false)) (vI a1.vType)), .eq (gv ((true&&(((strEq a0.aF a1.aF)&&(a0.vAt==a1.vAt))==true))&&((x0.aA !=4)==false)) (vS v2)), .eq (gv ((true&&(((strEq a0.aF a1.aF)&&(a0.vAt==a1.vAt))==true))&&((x0.aA !=4)==false)) (vB (strEq v1 v2))), .eq (gv (true&&(((strEq a0.aF a1.aF)&&(a0.vAt==a1.vAt))==true)) (vB ((x0.aA !=4)||(strEq v1 v2)))), .eq (vB (((strEq a0.aF a1.aF)&&(a0.vAt==a1.vAt))&&((x0.aA !=4)||(strEq v1 v2))))] [8,9,10,11,12,13,14,15,16,17,18,19,20,21,22,23,24,25,26,27,28,29,30,31,32,33,34,35] rM (by kernel_rfl) X (aP (aP (aP (aP (aP (aP (aP (aP (aP (aP (aP (aP (aP (aP (aP (aP (aP (aP (aP (aP (aP (aP (aP (aP (aP (aP (aP (aP iJ)))))))))))))))))))))))))))) ⟨aX X (fun a' w' hE hk=>by exact aW (aH (n:=1) (o':=0) (show _=vP b1 0 from hk 5 X) AJ X AW (by decide) X)),aX X (fun a' w' hE hk=>by exact aW (aN (show _=vP b1 0 from hk 8 X) Be ((HS2.step hE).look 1 X) X)),aX X (fun a' w' hE hk=>by exact aW (aH (n:=1) (o':=0) (show _=vP b2 0 from hk 6 X) AJ X AW (by decide) X)),aX X (fun a' w' hE hk=>by exact aW (aN (show _=vP b2 0 from hk 10 X) Be ((HS2.step hE).look 0 X) X)),aX X (fun a' w' hE hk=>by exact aW (sG (show _=vS a0.aF from hk 9 X) (show _=vS a1.aF from hk 11 X))),aX X (fun a' w' hE hk=>by exact aW (aO (show _=vB (strEq a0.aF a1.aF) from hk 12 X))),dA (b:=(strEq a0.aF a1.aF)) (c:=true) X X (by decide) (fun w' u hu=>hu) (fun a' w' hE hk hg=>by exact aW (aH (n:=1) (o':=2) (show _=vP b1 0 from hk 5 X) AJ X As (by decide) X)),dA (b:=(strEq a0.aF a1.aF)) (c:=true) X X (by decide) (fun w' u hu=>hu) (fun a' w' hE hk hg=>by exact aW (aN ((show _=gv (true&&((strEq a0.aF a1.aF)==true)) (vP b1 2) from (show _=gv (true&&((strEq a0.aF a1.aF)==true)) (vP b1 2) from hk 14 X)).trans (lW hg)) AC ((HS2.step hE).look 1 X) X)),dA (b:=(strEq a0.aF a1.aF)) (c:=true) X X (by decide) (fun w' u hu=>hu) (fun a' w' hE hk hg=>by exact aW (aH (n:=1) (o':=2) (show _=vP b2 0 from hk 6 X) AJ X As (by decide) X)),dA (b:=(strEq a0.aF a1.aF)) (c:=true) X X (by decide) (fun w' u hu=>hu) (fun a' w' hE hk hg=>by exact aW (aN ((show _=gv (true&&((strEq a0.aF a1.aF)==true)) (vP b2 2) from (show _=gv (true&&((strEq a0.aF a1.aF)==true)) (vP b2 2) from hk 16 X)).trans (lW hg)) AC ((HS2.step hE).look 0 X) X)),dA (b:=(strEq a0.aF a1.aF)) (c:=true) X X (by decide) (fun w' u hu=>hu) (fun a' w' hE hk hg=>by exact aW (bW ((show _=gv (true&&((strEq a0.aF a1.aF)==true)) (vI a0.vAt) from (show _=gv (true&&((strEq a0.aF a1.aF)==true)) (vI a0.vAt) from hk 15 X)).trans (lW hg)) ((show _=gv (true&&((strEq a0.aF a1.aF)==true)) (vI a1.vAt) from (show _=gv (true&&((strEq a0.aF a1.aF)==true)) (vI a1.vAt) from hk 17 X)).trans (lW hg)) X)),aX X (fun a' w' hE hk=>by exact aW (dL (show _=vB (strEq a0.aF a1.aF) from hk 13 X) (fun hp=>((show _=gv (true&&((strEq a0.aF a1.aF)==true)) (vB (a0.vAt==a1.vAt)) from (show _=gv (true&&((strEq a0.aF a1.aF)==true)) (vB (a0.vAt==a1.vAt)) from hk 18 X)).trans (lW (gQ X hp)))) X)),aX X (fun a' w' hE hk=>by exact aW (aO (show _=vB ((strEq a0.aF a1.aF)&&(a0.vAt==a1.vAt)) from hk 19 X))),dA (b:=((strEq a0.aF a1.aF)&&(a0.vAt==a1.vAt))) (c:=true) X X (by decide) (fun w' u hu=>hu) (fun a' w' hE hk hg=>by exact aW (aH (n:=1) (o':=0) (show _=vP bx0 0 from hk 2 X) An X As (by decide) X)),dA (b:=((strEq a0.aF a1.aF)&&(a0.vAt==a1.vAt))) (c:=true) X X (by decide) (fun w' u hu=>hu) (fun a' w' hE hk hg=>by exact aW (aN ((show _=gv (true&&(((strEq a0.aF a1.aF)&&(a0.vAt==a1.vAt))==true)) (vP bx0 0) from (show _=gv (true&&(((strEq a0.aF a1.aF)&&(a0.vAt==a1.vAt))==true)) (vP bx0 0) from hk 21 X)).trans (lW hg)) AC (kD hx0 (HS2.step hE).toE) X)),dA (b:=((strEq a0.aF a1.aF)&&(a0.vAt==a1.vAt))) (c:=true) X X (by decide) (fun w' u hu=>hu) (fun a' w' hE hk hg=>by exact aW (bW ((show _=gv (true&&(((strEq a0.aF a1.aF)&&(a0.vAt==a1.vAt))==true)) (vI x0.aA) from (show _=gv (true&&(((strEq a0.aF a1.aF)&&(a0.vAt==a1.vAt))==true)) (vI x0.aA) from hk 22 X)).trans (lW hg)) X X)),dA (b:=((strEq a0.aF a1.aF)&&(a0.vAt==a1.vAt))) (c:=true) X X (by decide) (fun w' u hu=>hu) (fun a' w' hE hk hg=>by exact aW (aO ((show _=gv (true&&(((strEq a0.aF a1.aF)&&(a0.vAt==a1.vAt))==true)) (vB (x0.aA !=4)) from (show _=gv (true&&(((strEq a0.aF a1.aF)&&(a0.vAt==a1.vAt))==true)) (vB (x0.aA !=4)) from hk 23 X)).trans (lW hg)))),dA (b:=(x0.aA !=4)) (c:=(true&&(((strEq a0.aF a1.aF)&&(a0.vAt==a1.vAt))==true))) X X (by decide) (fun w' u hu=>hu) (fun a' w' hE hk hg=>by exact aW (aT (n:=1) (vs:=[vL zT x1.au.length zU]) (show _=vP bx1 0 from hk 3 X) AI (kD hx1 (HS2.step hE).toE) AD X X)),dA (b:=(x0.aA !=4)) (c:=(true&&(((strEq a0.aF a1.aF)&&(a0.vAt==a1.vAt))==true))) X X (by decide) (fun w' u hu=>hu) (fun a' w' hE hk hg=>by exact aW (aH (n:=1) (o':=1) (show _=vP b1 0 from hk 5 X) AJ X As (by decide) X)),dA (b:=(x0.aA !=4)) (c:=(true&&(((strEq a0.aF a1.aF)&&(a0.vAt==a1.vAt))==true))) X X (by decide) (fun w' u hu=>hu) (fun a' w' hE hk hg=>by exact aW (aN ((show _=gv ((true&&(((strEq a0.aF a1.aF)&&(a0.vAt==a1.vAt))==true))&&((x0.aA !=4)==false)) (vP b1 1) from (show _=gv ((true&&(((strEq a0.aF a1.aF)&&(a0.vAt==a1.vAt))==true))&&((x0.aA !=4)==false)) (vP b1 1) from hk 26 X)).trans (lW hg)) AC ((HS2.step hE).look 1 X) X)),dA (b:=(x0.aA !=4)) (c:=(true&&(((strEq a0.aF a1.aF)&&(a0.vAt==a1.vAt))==true))) X X (by decide) (fun w' u hu=>hu) (fun a' w' hE hk hg=>by have HSd:=HS2.step hE;exact (bC Cd X (wF ((show _=gv ((true&&(((strEq a0.aF a1.aF)&&(a0.vAt==a1.vAt))==true))&&((x0.aA !=4)==false)) (Value.agg #[vL zT x1.au.length zU]) from (show _=gv ((true&&(((strEq a0.aF a1.aF)&&(a0.vAt==a1.vAt))==true))&&((x0.aA !=4)==false)) (Value.agg #[vL zT x1.au.length zU]) from hk 25 X)).trans (lW hg)) ((show _=gv ((true&&(((strEq a0.aF a1.aF)&&(a0.vAt==a1.vAt))==true))&&((x0.aA !=4)==false)) (vI a0.vType) from (show _=gv ((true&&(((strEq a0.aF a1.aF)&&(a0.vAt==a1.vAt))==true))&&((x0.aA !=4)==false)) (vI a0.vType) from hk 27 X)).trans (lW hg))) (fB.calls k x1 a0.vType zT zU HSd.sees (ht.s HSd) Nr Ns (bU H1 hg)))),dA (b:=(x0.aA !=4)) (c:=(true&&(((strEq a0.aF a1.aF)&&(a0.vAt==a1.vAt))==true))) X X (by decide) (fun w' u hu=>hu) (fun a' w' hE hk hg=>by exact aW (aT (n:=1) (vs:=[vL IU x2.au.length IV]) (show _=vP bx2 0 from hk 4 X) AI (kD hx2 (HS2.step hE).toE) AD X X)),dA (b:=(x0.aA !=4)) (c:=(true&&(((strEq a0.aF a1.aF)&&(a0.vAt==a1.vAt))==true))) X X (by decide) (fun w' u hu=>hu) (fun a' w' hE hk hg=>by exact aW (aH (n:=1) (o':=1) (show _=vP b2 0 from hk 6 X) AJ X As (by decide) X)),dA (b:=(x0.aA !=4)) (c:=(true&&(((strEq a0.aF a1.aF)&&(a0.vAt==a1.vAt))==true))) X X (by decide) (fun w' u hu=>hu) (fun a' w' hE hk hg=>by exact aW (aN ((show _=gv ((true&&(((strEq a0.aF a1.aF)&&(a0.vAt==a1.vAt))==true))&&((x0.aA !=4)==false)) (vP b2 1) from (show _=gv ((true&&(((strEq a0.aF a1.aF)&&(a0.vAt==a1.vAt))==true))&&((x0.aA !=4)==false)) (vP b2 1) from hk 30 X)).trans (lW hg)) AC ((HS2.step hE).look 0 X) X)),dA (b:=(x0.aA !=4)) (c:=(true&&(((strEq a0.aF a1.aF)&&(a0.vAt==a1.vAt))==true))) X X (by decide) (fun w' u hu=>hu) (fun a' w' hE hk hg=>by have HSd:=HS2.step hE;exact (bC Cd X (wF ((show _=gv ((true&&(((strEq a0.aF a1.aF)&&(a0.vAt==a1.vAt))==true))&&((x0.aA !=4)==false)) (Value.agg #[vL IU x2.au.length IV]) from (show _=gv ((true&&(((strEq a0.aF a1.aF)&&(a0.vAt==a1.vAt))==true))&&((x0.aA !=4)==false)) (Value.agg #[vL IU x2.au.length IV]) from hk 29 X)).trans (lW hg)) ((show _=gv ((true&&(((strEq a0.aF a1.aF)&&(a0.vAt==a1.vAt))==true))&&((x0.aA !=4)==false)) (vI a1.vType) from (show _=gv ((true&&(((strEq a0.aF a1.aF)&&(a0.vAt==a1.vAt))==true))&&((x0.aA !=4)==false)) (vI a1.vType) from hk 31 X)).trans (lW hg))) (fB.calls k x2 a1.vType IU IV HSd.sees (ht.s HSd) U7 U8 (bU H2 hg)))),dA (b:=(x0.aA !=4)) (c:=(true&&(((strEq a0.aF a1.aF)&&(a0.vAt==a1.vAt))==true))) X X (by decide) (fun w' u hu=>hu) (fun a' w' hE hk hg=>by exact aW (sG ((show _=gv ((true&&(((strEq a0.aF a1.aF)&&(a0.vAt==a1.vAt))==true))&&((x0.aA !=4)==false)) (vS v1) from (show _=gv ((true&&(((strEq a0.aF a1.aF)&&(a0.vAt==a1.vAt))==true))&&((x0.aA !=4)==false)) (vS v1) from hk 28 X)).trans (lW hg)) ((show _=gv ((true&&(((strEq a0.aF a1.aF)&&(a0.vAt==a1.vAt))==true))&&((x0.aA !=4)==false)) (vS v2) from (show _=gv ((true&&(((strEq a0.aF a1.aF)&&(a0.vAt==a1.vAt))==true))&&((x0.aA !=4)==false)) (vS v2) from hk 32 X)).trans (lW hg)))),dA (b:=((strEq a0.aF a1.aF)&&(a0.vAt==a1.vAt))) (c:=true) X X (by decide) (fun w' u hu=>hu) (fun a' w' hE hk hg=>by exact aW (dQ ((show _=gv (true&&(((strEq a0.aF a1.aF)&&(a0.vAt==a1.vAt))==true)) (vB (x0.aA !=4)) from (show _=gv (true&&(((strEq a0.aF a1.aF)&&(a0.vAt==a1.vAt))==true)) (vB (x0.aA !=4)) from hk 24 X)).trans (lW hg)) X (fun hp=>((show _=gv ((true&&(((strEq a0.aF a1.aF)&&(a0.vAt==a1.vAt))==true))&&((x0.aA !=4)==false)) (vB (strEq v1 v2)) from (show _=gv ((true&&(((strEq a0.aF a1.aF)&&(a0.vAt==a1.vAt))==true))&&((x0.aA !=4)==false)) (vB (strEq v1 v2)) from hk 33 X)).trans (lW (gQ hg hp)))))),aX X (fun a' w' hE hk=>by exact aW (dL (show _=vB ((strEq a0.aF a1.aF)&&(a0.vAt==a1.vAt)) from hk 20 X) (fun hp=>((show _=gv (true&&(((strEq a0.aF a1.aF)&&(a0.vAt==a1.vAt))==true)) (vB ((x0.aA !=4)||(strEq v1 v2))) from (show _=gv (true&&(((strEq a0.aF a1.aF)&&(a0.vAt==a1.vAt))==true)) (vB ((x0.aA !=4)||(strEq v1 v2))) from hk 34 X)).trans (lW (gQ X hp)))) X)),trivial⟩ ?_
 intro w3 hE3
 simp only [List.zip_cons_cons,List.zip_nil_left,List.zip_nil_right,vO,sc0,sc1,List.length_cons,List.length_nil,List.drop_succ_cons,List.drop_zero,Nat.zero_add,Nat.reduceAdd]
 have HS3:=HS2.step hE3
 refine rs (vB (((strEq a0.aF a1.aF)&&(a0.vAt==a1.vAt))&&((x0.aA !=4)||(strEq v1 v2)))) (aG X) ?_
 try simp only [sc0,sc1]
 refine aB<|ay<|AT ?_
 obtain rfl:=Ab H
 exact Ay (bD X (bK X)) X<|⟨X,HS3.toE⟩
end Go.Proofs.YtfjppgobidjndaaGreatDoor
