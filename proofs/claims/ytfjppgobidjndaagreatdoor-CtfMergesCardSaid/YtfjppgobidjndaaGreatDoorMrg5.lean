/- Parts of a proof, merged by program: F30 F63 F31 F32 F38 F33 F8 F35 G1 F37 F64 F65 F36 F9 F10. The walks (each function once) and the plain laws; no condition of their own. -/
import Derived.Test.YtfjppgobidjndaaGreatDoorMrg4
set_option linter.unusedVariables false
set_option linter.unusedSimpArgs false
set_option maxRecDepth 20000
set_option maxHeartbeats 4000000
namespace Go.Proofs.YtfjppgobidjndaaGreatDoor
open Go.RowKit Go.M
def dV.l0 (k:Nat) (a0:aQ):Nat→Int→(List ByteArray)→Option ((List ByteArray))
 |0,_,_=>none
 |m+1,aC,dG=>if (decide (aC<(a0.au.length:Int)))=true then ((dn.f k a0 aC).bind fun v1=>(if dG.length+1≤4294967296 then (dV.l0 k a0 m (IntKind.wrap .i64 (aC+1)) (dG++([v1]:List ByteArray))) else none)) else (some dG)
def dV.f (k:Nat) (a0:aQ):Option ((List ByteArray)):=(dV.l0 k a0 k 0 ([]:List ByteArray)).bind fun xx1=>(some xx1)
theorem dV.calls (k:Nat) (a0:aQ) (bQ:Option Addr) (bT:Nat) {h0:View} {w0:World} (hv:lS h0 w0) (fK:Rd bI h0 bQ a0.au) (iF:a0.au.length≤bT) {r:(List ByteArray)} (H:dV.f k a0=some r):Calls Tryz.prog 30 #[Value.agg #[vL bQ a0.au.length bT]] w0 (fun e w1=>∃(h1:View) (bQ:Option Addr) (bT:Nat),e= .returned (vL bQ r.length bT)∧r.length≤bT∧Rd Kd.str h1 bQ r∧Gr w0.heap.size h0 h1∧lS h1 w1∧Ext w0 w1):=by
 unfold dV.f at H
 have HS:St [] h0 w0 h0 [] w0:=St.init hv
 go_enter Tryz.func30,Tryz.ntmps30
 refine Al<|Ao<|dF X X (eF (cs:=#[vL bQ a0.au.length bT]) X X) ?_
 rintro w1 _ hE1 ⟨b1,rfl,ge1,hb1⟩
 have HS1:=HS.new hE1 ge1 hb1
 refine rs (vL none 0 0) (aG X) ?_
 try simp only [sc0,sc1]
 refine aB<|ay<|Al<|Ao<|rs (vL none 0 0) (aG X) ?_
 try simp only [sc0,sc1]
 refine aB<|ay<|Al<|Al<|Ao<|rs (vI 0) (aG X) ?_
 try simp only [sc0,sc1]
 refine aB<|ay ?_
 have HS2:=HS1.nothing (.cells ([]:List Value).toArray 9 (0,0))
 obtain ⟨xx1,H,G1⟩:=bn H
 refine jB [3,4,5,6,7,8,9,10,11,12,13,14,15,16,17] (fun m us w'=>∃aC:Int,∃dG:List ByteArray,∃(fC:Option Nat) (jv:Nat),∃(eH:List Value),Fit us (fun uy1=>[vL (rowA fC) dG.length jv,vI aC,(uy1 2),(uy1 3),(uy1 4),(uy1 5),(uy1 6),(uy1 7),(uy1 8),(uy1 9),(uy1 10),(uy1 11),(uy1 12),(uy1 13),(uy1 14)])∧dV.l0 k a0 m aC dG=some xx1∧gU Kd.str h0 dG fC dG.length jv eH∧St [] h0 w0 h0 [(fC, .cells (eH).toArray 9 (0,0)),(some b1, .cells #[vL bQ a0.au.length bT] 24 (0,0))] w') (fun us w'=>∃(eP:Option Nat) (jo:Nat),∃(iw:List Value),Fit us (fun uo1=>[vL (rowA eP) xx1.length jo,(uo1 1),(uo1 2),(uo1 3),(uo1 4),(uo1 5),(uo1 6),(uo1 7),(uo1 8),(uo1 9),(uo1 10),(uo1 11),(uo1 12),(uo1 13),(uo1 14)])∧gU Kd.str h0 xx1 eP xx1.length jo iw∧St [] h0 w0 h0 [(eP, .cells (iw).toArray 9 (0,0)),(some b1, .cells #[vL bQ a0.au.length bT] 24 (0,0))] w') k ⟨0,([]:List ByteArray),none,0,([]:List Value),(fit X),H,(gU.none' Kd.str _).norm,HS2⟩ ?_ ?_
 ·rintro m us w2 ⟨aC,dG,fC,jv,eH,nO,H,iE,HS3⟩
  obtain ⟨uy1,rfl⟩:=unj nO
  cases m with
  |zero=>exact absurd H (by simp [dV.l0])
  |succ m=>
   rw [dV.l0] at H
   try simp only [patch,sc0,sc1]
   refine Al<|Al<|Ao<|rs (vI aC) (aO X)<|rs (vP b1 0) (aH (n:=1) (o':=0) X AE X AM (by decide) X)<|rs (vL bQ a0.au.length bT) (aN X AR (HS3.look 1 X) X)<|rs (vI (a0.au.length:Int)) (jD X AF)<|aK (by simp only [sc0,sc1];rfl) ?_
   refine rs (vB (decide (aC<(a0.au.length:Int)))) (bW X X X) ?_
   try simp only [sc0,sc1]
   refine aB<|ay<|Av (t:=(decide (aC<(a0.au.length:Int)))) X (fun c1=>?_) (fun c1=>?_)
   ·replace H:=bU H c1
    refine AN<|ay<|Al<|wp_block<|Ao<|rs (vL (rowA fC) dG.length jv) (aO X)<|rs (Value.agg #[vL bQ a0.au.length bT]) (aT (n:=1) (vs:=[vL bQ a0.au.length bT]) X AI (HS3.look 1 X) AD X X)<|rs (vI aC) (aO X) ?_
    obtain ⟨v1,H1,H⟩:=bn H
    refine run_eq (v:=vS v1) X X (bC Co X X (dn.calls k a0 aC bQ bT HS3.sees fK iF H1)) ?_
    intro w3 hE2
    have HS4:=HS3.step hE2
    refine aK (by simp only [sc0,sc1];rfl) ?_
    refine ng Kd.str (xs:=([v1]:List ByteArray)) (n:=1) (cs:=[vS v1]) A5 Cw Ct X X (by decide) (by decide) (by decide) [vS v1] (jd.trans X) X X X X (fH (qs:=[vS v1]) X (jc (cs:=[]))) HS4 ?_
    intro w4 b2 HS5 ho1
    obtain ⟨hl1,H⟩:=dN H
    refine oD Kd.str (q:=1) (cs:=eH) X X A5 Cw Ct X (by decide) X (ni A5 HS5 (i:=0) X ho1 X) ho1.len (iC ho1) hl1 HS5 X iE ?_
    intro w5 ob1 c2 cs1 HS6 ho2
    refine rs (vL (rowA ob1) (dG.length+1) c2) (aG X) ?_
    try simp only [sc0,sc1]
    refine aB<|dD<|ay<|Ao<|rs (vI aC) (aO X)<|rs (vI (w64 (aC+1))) (bW X X X)<|rs (vI (w64 (aC+1))) (aG X) ?_
    try simp only [sc0,sc1]
    refine aB<|gI m (Nat.lt_succ_self m) X ⟨(w64 (aC+1)),(dG++([v1]:List ByteArray)),ob1,c2,cs1,(fit (by first|rfl|(rw [ho2.len];done)|(rw [ho2.len];rfl))),H,ho2.norm,HS6.tail⟩
   ·replace H:=cO H (nt c1)
    refine Bx<|eU ?_
    obtain rfl:=Ab H
    refine iK X ⟨fC,jv,eH,(fit X),iE.norm,HS3⟩
 ·rintro us w6 ⟨eP,jo,iw,nP,jr,HS7⟩
  obtain ⟨uo1,rfl⟩:=unj nP
  replace H:=G1
  clear G1
  try simp only [patch,sc0,sc1]
  refine ay<|Al<|Ao<|rs (vL (rowA eP) xx1.length jo) (aO X)<|rs (vL (rowA eP) xx1.length jo) (aG X) ?_
  try simp only [sc0,sc1]
  refine aB<|ay<|AT ?_
  obtain rfl:=Ab H
  refine Ay (bD X (bK X)) X ?_
  obtain ⟨h1,HS8,hs1,oV⟩:=lC HS7 (i:=0) rfl jr
  exact ⟨h1,(rowA eP),jo,X,jr.cap,oV,HS8.gr,HS8.sees,HS8.toE⟩
def eY.l0 (a0:List ByteArray) (a1:ByteArray):Nat→Int→Option ((Int)⊕(Unit))
 |0,_=>none
 |m+1,aC=>if (decide (aC<(a0.length:Int)))=true then (if 0≤aC∧aC<a0.length then (if (strEq (rd ByteArray.empty a0 aC) a1)=true then (some (.inl aC)) else (eY.l0 a0 a1 m (IntKind.wrap .i64 (aC+1)))) else none) else (some (.inr ()))
def eY.f (k:Nat) (a0:List ByteArray) (a1:ByteArray):Option (Int):=(eY.l0 a0 a1 k 0).bind fun xx1=>(match xx1 with| .inl r=>some r| .inr s1=>some (-1))
theorem eY.calls (k:Nat) (a0:List ByteArray) (a1:ByteArray) (bQ:Option Addr) (bT:Nat) {h0:View} {w0:World} (hv:lS h0 w0) (fK:Rd Kd.str h0 bQ a0) (iF:a0.length≤bT) {r:Int} (H:eY.f k a0 a1=some r):Calls Tryz.prog 63 #[vL bQ a0.length bT,vS a1] w0 (fun e w1=>e= .returned (vI r)∧Ext w0 w1):=by
 unfold eY.f at H
 have HS:St [] h0 w0 h0 [] w0:=St.init hv
 go_enter Tryz.func63,Tryz.ntmps63
 refine Al<|Ao<|rs (vI 0) (aG X) ?_
 try simp only [sc0,sc1]
 refine aB<|ay<|Al<|Al<|Ao<|rs (vI 0) (aG X) ?_
 try simp only [sc0,sc1]
 refine aB<|ay ?_
 obtain ⟨xx1,H,G1⟩:=bn H
 refine jB [4,5,6,7,8,9,10,11,12,13,14,15,16,17,18] (fun m us w'=>∃(aC:Int),Fit us (fun uy1=>[(uy1 0),vI aC,(uy1 2),(uy1 3),(uy1 4),(uy1 5),(uy1 6),(uy1 7),(uy1 8),(uy1 9),(uy1 10),(uy1 11),(uy1 12),(uy1 13),(uy1 14)])∧eY.l0 a0 a1 m aC=some xx1∧St [] h0 w0 h0 [] w') (fun us w'=>∃(s1:Unit),xx1= .inr s1∧Fit us (fun uo1=>[(uo1 0),(uo1 1),(uo1 2),(uo1 3),(uo1 4),(uo1 5),(uo1 6),(uo1 7),(uo1 8),(uo1 9),(uo1 10),(uo1 11),(uo1 12),(uo1 13),(uo1 14)])∧St [] h0 w0 h0 [] w') k ⟨0,(fit X),H,HS⟩ ?_ ?_
 ·rintro m us w1 ⟨aC,nO,H,HS1⟩
  obtain ⟨uy1,rfl⟩:=unj nO
  cases m with
  |zero=>exact absurd H (by simp [eY.l0])
  |succ m=>
   rw [eY.l0] at H
   try simp only [patch,sc0,sc1]
   refine Al<|Al<|Ao<|rs (vI aC) (aO X)<|rs (vL bQ a0.length bT) (aO X)<|rs (vI (a0.length:Int)) (jD X A5)<|rs (vB (decide (aC<(a0.length:Int)))) (bW X X X) ?_
   try simp only [sc0,sc1]
   refine aB<|ay<|Av (t:=(decide (aC<(a0.length:Int)))) X (fun c1=>?_) (fun c1=>?_)
   ·replace H:=bU H c1
    refine AN<|ay<|Al<|wp_block<|Al<|Ao<|rs (vL bQ a0.length bT) (aO X)<|rs (vI aC) (aO X) ?_
    obtain ⟨hi1,H⟩:=dN H
    obtain ⟨ad1,e1,mJ⟩:=CQ fK hi1.1 hi1.2
    refine rs (Value.pointer (some (Addr.add ad1 (aC.toNat*1)))) (dP (sz:=1) X e1 X hi1.1 hi1.2 A5 AW)<|rs (vS (rd ByteArray.empty a0 aC)) (kE X Be (mJ.cell0 HS1.sees X))<|aK (by simp only [sc0,sc1];rfl) ?_
    refine rs (vS a1) (aO X)<|rs (vB (strEq (rd ByteArray.empty a0 aC) a1)) (sG X X) ?_
    try simp only [sc0,sc1]
    refine aB<|ay<|Av (t:=(strEq (rd ByteArray.empty a0 aC) a1)) X (fun c2=>?_) (fun c2=>?_)
    ·replace H:=bU H c2
     refine Al<|Ao<|rs (vI aC) (aO X)<|rs (vI aC) (aG X) ?_
     try simp only [sc0,sc1]
     refine aB<|ay<|AT<|fA<|bP<|jm<|bP ?_
     obtain rfl:=Ab H
     obtain rfl:=Ab G1
     exact Ay (bD X (bK X)) X<|⟨X,HS1.toE⟩
    ·replace H:=cO H (nt c2)
     refine AN<|dD<|ay<|Ao<|rs (vI aC) (aO X)<|rs (vI (w64 (aC+1))) (bW X X X)<|rs (vI (w64 (aC+1))) (aG X) ?_
     try simp only [sc0,sc1]
     refine aB<|gI m (Nat.lt_succ_self m) X ⟨(w64 (aC+1)),(fit X),H,HS1⟩
   ·replace H:=cO H (nt c1)
    refine Bx<|eU ?_
    obtain rfl:=Ab H
    refine iK X ⟨_,X,(fit X),HS1⟩
 ·rintro us w2 ⟨s1,rfl,nP,HS2⟩
  obtain ⟨uo1,rfl⟩:=unj nP
  replace H:=G1
  clear G1
  try simp only [patch,sc0,sc1]
  refine ay<|Al<|Ao<|rs (vI (-1)) (aG X) ?_
  try simp only [sc0,sc1]
  refine aB<|ay<|AT ?_
  obtain rfl:=Ab H
  exact Ay (bD X (bK X)) X<|⟨X,HS2.toE⟩
def dh.l0 (k:Nat) (a0:List ByteArray) (a1:List ByteArray):Nat→Int→(List ByteArray)→Option ((List ByteArray))
 |0,_,_=>none
 |m+1,aC,dG=>if (decide (aC<(IntKind.wrap .i64 ((a0.length:Int)+(a1.length:Int)))))=true then (((if (decide (aC<(a0.length:Int)))=true then (if 0≤aC∧aC<a0.length then (some (rd ByteArray.empty a0 aC)) else none) else (if 0≤(IntKind.wrap .i64 (aC-(a0.length:Int)))∧(IntKind.wrap .i64 (aC-(a0.length:Int)))<a1.length then (some (rd ByteArray.empty a1 (IntKind.wrap .i64 (aC-(a0.length:Int))))) else none)):Option (ByteArray)).bind fun xx2=>((eY.f k dG xx2).bind fun v1=>(if (decide (v1<0))=true then (if dG.length+1≤4294967296 then (dh.l0 k a0 a1 m (IntKind.wrap .i64 (aC+1)) (dG++([xx2]:List ByteArray))) else none) else (dh.l0 k a0 a1 m (IntKind.wrap .i64 (aC+1)) dG)))) else (some dG)
def dh.f (k:Nat) (a0:List ByteArray) (a1:List ByteArray):Option ((List ByteArray)):=(dh.l0 k a0 a1 k 0 ([]:List ByteArray)).bind fun xx1=>(some xx1)
theorem dh.calls (k:Nat) (a0:List ByteArray) (a1:List ByteArray) (bQ:Option Addr) (bT:Nat) (iM:Option Addr) (iO:Nat) {h0:View} {w0:World} (hv:lS h0 w0) (fK:Rd Kd.str h0 bQ a0) (iF:a0.length≤bT) (kX:Rd Kd.str h0 iM a1) (pK:a1.length≤iO) {r:(List ByteArray)} (H:dh.f k a0 a1=some r):Calls Tryz.prog 31 #[vL bQ a0.length bT,vL iM a1.length iO] w0 (fun e w1=>∃(h1:View) (bQ:Option Addr) (bT:Nat),e= .returned (vL bQ r.length bT)∧r.length≤bT∧Rd Kd.str h1 bQ r∧Gr w0.heap.size h0 h1∧lS h1 w1∧Ext w0 w1):=by
 unfold dh.f at H
 have HS:St [] h0 w0 h0 [] w0:=St.init hv
 go_enter Tryz.func31,Tryz.ntmps31
 refine Al<|Ao<|rs (vL none 0 0) (aG X) ?_
 try simp only [sc0,sc1]
 refine aB<|ay<|Al<|Ao<|rs (vL none 0 0) (aG X) ?_
 try simp only [sc0,sc1]
 refine aB<|ay<|Al<|Al<|Ao<|rs (vI 0) (aG X) ?_
 try simp only [sc0,sc1]
 refine aB<|ay ?_
 have HS1:=HS.nothing (.cells ([]:List Value).toArray 9 (0,0))
 obtain ⟨xx1,H,G1⟩:=bn H
 refine jB [5,6,7,8,9,10,11,12,13,14,15,16,17,18,19,20,21,22,23,24,25,26,27,28,29,30,31,32,33,34,35,36,37,38,39] (fun m us w'=>∃aC:Int,∃dG:List ByteArray,∃(fC:Option Nat) (jv:Nat),∃(eH:List Value),Fit us (fun uy1=>[vL (rowA fC) dG.length jv,vI aC,(uy1 2),(uy1 3),(uy1 4),(uy1 5),(uy1 6),(uy1 7),(uy1 8),(uy1 9),(uy1 10),(uy1 11),(uy1 12),(uy1 13),(uy1 14),(uy1 15),(uy1 16),(uy1 17),(uy1 18),(uy1 19),(uy1 20),(uy1 21),(uy1 22),(uy1 23),(uy1 24),(uy1 25),(uy1 26),(uy1 27),(uy1 28),(uy1 29),(uy1 30),(uy1 31),(uy1 32),(uy1 33),(uy1 34)])∧dh.l0 k a0 a1 m aC dG=some xx1∧gU Kd.str h0 dG fC dG.length jv eH∧St [] h0 w0 h0 [(fC, .cells (eH).toArray 9 (0,0))] w') (fun us w'=>∃(eP:Option Nat) (jo:Nat),∃(iw:List Value),Fit us (fun uo1=>[vL (rowA eP) xx1.length jo,(uo1 1),(uo1 2),(uo1 3),(uo1 4),(uo1 5),(uo1 6),(uo1 7),(uo1 8),(uo1 9),(uo1 10),(uo1 11),(uo1 12),(uo1 13),(uo1 14),(uo1 15),(uo1 16),(uo1 17),(uo1 18),(uo1 19),(uo1 20),(uo1 21),(uo1 22),(uo1 23),(uo1 24),(uo1 25),(uo1 26),(uo1 27),(uo1 28),(uo1 29),(uo1 30),(uo1 31),(uo1 32),(uo1 33),(uo1 34)])∧gU Kd.str h0 xx1 eP xx1.length jo iw∧St [] h0 w0 h0 [(eP, .cells (iw).toArray 9 (0,0))] w') k ⟨0,([]:List ByteArray),none,0,([]:List Value),(fit X),H,(gU.none' Kd.str _).norm,HS1⟩ ?_ ?_
 ·rintro m us w1 ⟨aC,dG,fC,jv,eH,nO,H,iE,HS2⟩
  obtain ⟨uy1,rfl⟩:=unj nO
  cases m with
  |zero=>exact absurd H (by simp [dh.l0])
  |succ m=>
   rw [dh.l0] at H
   try simp only [patch,sc0,sc1]
   refine Al<|Al<|Ao<|rs (vI aC) (aO X)<|rs (vL bQ a0.length bT) (aO X)<|rs (vI (a0.length:Int)) (jD X A5)<|rs (vL iM a1.length iO) (aO X)<|aK (by simp only [sc0,sc1];rfl) ?_
   refine rs (vI (a1.length:Int)) (jD X A5)<|rs (vI (w64 ((a0.length:Int)+(a1.length:Int)))) (bW X X X)<|rs (vB (decide (aC<(w64 ((a0.length:Int)+(a1.length:Int)))))) (bW X X X) ?_
   try simp only [sc0,sc1]
   refine aB<|ay<|Av (t:=(decide (aC<(w64 ((a0.length:Int)+(a1.length:Int)))))) X (fun c1=>?_) (fun c1=>?_)
   ·replace H:=bU H c1
    refine AN<|ay<|Al<|wp_block<|Al<|Ao<|rs (vS ByteArray.empty) (aG X) ?_
    try simp only [sc0,sc1]
    refine aB<|ay<|Al<|Al<|Ao<|rs (vI aC) (aO X)<|rs (vL bQ a0.length bT) (aO X)<|rs (vI (a0.length:Int)) (jD X A5)<|rs (vB (decide (aC<(a0.length:Int)))) (bW X X X) ?_
    try simp only [sc0,sc1]
    refine aB<|ay ?_
    obtain ⟨xx2,H,G2⟩:=bn H
    refine kT [7,21,22,23,24,25,26,27,28,29,30,31] (fun us w'=>Fit us (fun uj1=>[vS xx2,(uj1 1),(uj1 2),(uj1 3),(uj1 4),(uj1 5),(uj1 6),(uj1 7),(uj1 8),(uj1 9),(uj1 10),(uj1 11)])∧St [] h0 w0 h0 [(fC, .cells (eH).toArray 9 (0,0))] w') ?_ ?_
    ·refine Av (t:=(decide (aC<(a0.length:Int)))) X (fun c2=>?_) (fun c2=>?_)
     ·replace H:=bU H c2
      refine Ao<|rs (vL bQ a0.length bT) (aO X)<|rs (vI aC) (aO X) ?_
      obtain ⟨hi1,H⟩:=dN H
      obtain ⟨ad1,e1,mJ⟩:=CQ fK hi1.1 hi1.2
      refine rs (Value.pointer (some (Addr.add ad1 (aC.toNat*1)))) (dP (sz:=1) X e1 X hi1.1 hi1.2 A5 AW)<|rs (vS (rd ByteArray.empty a0 aC)) (kE X Be (mJ.cell0 HS2.sees X))<|aK (by simp only [sc0,sc1];rfl) ?_
      refine rs (vS (rd ByteArray.empty a0 aC)) (aG X) ?_
      try simp only [sc0,sc1]
      refine aB ?_
      obtain rfl:=Ab H
      refine oH X ⟨(fit X),HS2⟩
     ·replace H:=cO H (nt c2)
      refine Ao<|rs (vL iM a1.length iO) (aO X)<|rs (vI aC) (aO X)<|rs (vL bQ a0.length bT) (aO X)<|rs (vI (a0.length:Int)) (jD X A5)<|aK (by simp only [sc0,sc1];rfl) ?_
      refine rs (vI (w64 (aC-(a0.length:Int)))) (bW X X X) ?_
      obtain ⟨hi2,H⟩:=dN H
      obtain ⟨ad2,e2,tN⟩:=CQ kX hi2.1 hi2.2
      refine rs (Value.pointer (some (Addr.add ad2 ((w64 (aC-(a0.length:Int))).toNat*1)))) (dP (sz:=1) X e2 X hi2.1 hi2.2 A5 AW)<|rs (vS (rd ByteArray.empty a1 (w64 (aC-(a0.length:Int))))) (kE X Be (tN.cell0 HS2.sees X))<|rs (vS (rd ByteArray.empty a1 (w64 (aC-(a0.length:Int))))) (aG X) ?_
      try simp only [sc0,sc1]
      refine aB ?_
      obtain rfl:=Ab H
      refine oH X ⟨(fit X),HS2⟩
    ·rintro us w2 ⟨AB,HS3⟩
     obtain ⟨uj1,rfl⟩:=unj AB
     replace H:=G2
     clear G2
     try simp only [patch,sc0,sc1]
     refine Al<|Ao<|rs (vL (rowA fC) dG.length jv) (aO X)<|rs (vS xx2) (aO X) ?_
     obtain ⟨v1,H1,H⟩:=bn H
     obtain ⟨hl1,hs1,se1,Qe⟩:=zI HS3 (i:=0) rfl iE
     refine run_eq (v:=vI v1) X X (bC Tryz.call63 X X (eY.calls k dG xx2 (rowA fC) jv se1 Qe iE.cap H1)) ?_
     intro w3 hE1
     have HS4:=HS3.step hE1
     refine rs (vB (decide (v1<0))) (bW X X X) ?_
     try simp only [sc0,sc1]
     refine aB<|ay<|Av (t:=(decide (v1<0))) X (fun c3=>?_) (fun c3=>?_)
     ·replace H:=bU H c3
      refine Ao<|rs (vL (rowA fC) dG.length jv) (aO X)<|rs (vS xx2) (aO X)<|ng Kd.str (xs:=([xx2]:List ByteArray)) (n:=1) (cs:=[vS xx2]) A5 Cw Ct X X (by decide) (by decide) (by decide) [vS xx2] (jd.trans X) X X X X (fH (qs:=[vS xx2]) X (jc (cs:=[]))) HS4 ?_
      intro w4 b1 HS5 ho1
      obtain ⟨hl2,H⟩:=dN H
      refine oD Kd.str (q:=1) (cs:=eH) X X A5 Cw Ct X (by decide) X (ni A5 HS5 (i:=0) X ho1 X) ho1.len (iC ho1) hl2 HS5 X iE ?_
      intro w5 ob1 c4 cs1 HS6 ho2
      refine aK (by simp only [sc0,sc1];rfl) ?_
      refine rs (vL (rowA ob1) (dG.length+1) c4) (aG X) ?_
      try simp only [sc0,sc1]
      refine aB<|dD<|ay<|Ao<|rs (vI aC) (aO X)<|rs (vI (w64 (aC+1))) (bW X X X)<|rs (vI (w64 (aC+1))) (aG X) ?_
      try simp only [sc0,sc1]
      refine aB<|gI m (Nat.lt_succ_self m) X ⟨(w64 (aC+1)),(dG++([xx2]:List ByteArray)),ob1,c4,cs1,(fit (by first|rfl|(rw [ho2.len];done)|(rw [ho2.len];rfl))),H,ho2.norm,HS6.tail⟩
     ·replace H:=cO H (nt c3)
      refine AN<|dD<|ay<|Ao<|rs (vI aC) (aO X)<|rs (vI (w64 (aC+1))) (bW X X X)<|rs (vI (w64 (aC+1))) (aG X) ?_
      try simp only [sc0,sc1]
      refine aB<|gI m (Nat.lt_succ_self m) X ⟨(w64 (aC+1)),dG,fC,jv,eH,(fit X),H,iE.norm,HS4⟩
   ·replace H:=cO H (nt c1)
    refine Bx<|eU ?_
    obtain rfl:=Ab H
    refine iK X ⟨fC,jv,eH,(fit X),iE.norm,HS2⟩
 ·rintro us w6 ⟨eP,jo,iw,nP,jr,HS7⟩
  obtain ⟨uo1,rfl⟩:=unj nP
  replace H:=G1
  clear G1
  try simp only [patch,sc0,sc1]
  refine ay<|Al<|Ao<|rs (vL (rowA eP) xx1.length jo) (aO X)<|rs (vL (rowA eP) xx1.length jo) (aG X) ?_
  try simp only [sc0,sc1]
  refine aB<|ay<|AT ?_
  obtain rfl:=Ab H
  refine Ay (bD X (bK X)) X ?_
  obtain ⟨h1,HS8,hs2,oV⟩:=lC HS7 (i:=0) rfl jr
  exact ⟨h1,(rowA eP),jo,X,jr.cap,oV,HS8.gr,HS8.sees,HS8.toE⟩
def dM.l0 (k:Nat) (a0:List ByteArray) (a1:List ByteArray):Nat→Int→(List Int)→Option ((List Int))
 |0,_,_=>none
 |m+1,aC,dG=>if (decide (aC<(a0.length:Int)))=true then (if 0≤aC∧aC<a0.length then ((eY.f k a1 (rd ByteArray.empty a0 aC)).bind fun v1=>(if dG.length+1≤4294967296 then (dM.l0 k a0 a1 m (IntKind.wrap .i64 (aC+1)) (dG++([v1]:List Int))) else none)) else none) else (some dG)
def dM.f (k:Nat) (a0:List ByteArray) (a1:List ByteArray):Option ((List Int)):=(dM.l0 k a0 a1 k 0 ([]:List Int)).bind fun xx1=>(some xx1)
theorem dM.calls (k:Nat) (a0:List ByteArray) (a1:List ByteArray) (bQ:Option Addr) (bT:Nat) (iM:Option Addr) (iO:Nat) {h0:View} {w0:World} (hv:lS h0 w0) (fK:Rd Kd.str h0 bQ a0) (iF:a0.length≤bT) (kX:Rd Kd.str h0 iM a1) (pK:a1.length≤iO) {r:(List Int)} (H:dM.f k a0 a1=some r):Calls Tryz.prog 32 #[vL bQ a0.length bT,vL iM a1.length iO] w0 (fun e w1=>∃(h1:View) (bQ:Option Addr) (bT:Nat),e= .returned (vL bQ r.length bT)∧r.length≤bT∧Rd (Kd.int .i64) h1 bQ r∧Gr w0.heap.size h0 h1∧lS h1 w1∧Ext w0 w1):=by
 unfold dM.f at H
 have HS:St [] h0 w0 h0 [] w0:=St.init hv
 go_enter Tryz.func32,Tryz.ntmps32
 refine Al<|Ao<|rs (vL none 0 0) (aG X) ?_
 try simp only [sc0,sc1]
 refine aB<|ay<|Al<|Ao<|rs (vL none 0 0) (aG X) ?_
 try simp only [sc0,sc1]
 refine aB<|ay<|Al<|Al<|Ao<|rs (vI 0) (aG X) ?_
 try simp only [sc0,sc1]
 refine aB<|ay ?_
 have HS1:=HS.nothing (.cells ([]:List Value).toArray 3 (0,0))
 obtain ⟨xx1,H,G1⟩:=bn H
 refine jB [5,6,7,8,9,10,11,12,13,14,15,16,17,18,19,20,21] (fun m us w'=>∃aC:Int,∃dG:List Int,∃(fC:Option Nat) (jv:Nat),∃(eH:List Value),Fit us (fun uy1=>[vL (rowA fC) dG.length jv,vI aC,(uy1 2),(uy1 3),(uy1 4),(uy1 5),(uy1 6),(uy1 7),(uy1 8),(uy1 9),(uy1 10),(uy1 11),(uy1 12),(uy1 13),(uy1 14),(uy1 15),(uy1 16)])∧dM.l0 k a0 a1 m aC dG=some xx1∧gU (Kd.int .i64) h0 dG fC dG.length jv eH∧St [] h0 w0 h0 [(fC, .cells (eH).toArray 3 (0,0))] w') (fun us w'=>∃(eP:Option Nat) (jo:Nat),∃(iw:List Value),Fit us (fun uo1=>[vL (rowA eP) xx1.length jo,(uo1 1),(uo1 2),(uo1 3),(uo1 4),(uo1 5),(uo1 6),(uo1 7),(uo1 8),(uo1 9),(uo1 10),(uo1 11),(uo1 12),(uo1 13),(uo1 14),(uo1 15),(uo1 16)])∧gU (Kd.int .i64) h0 xx1 eP xx1.length jo iw∧St [] h0 w0 h0 [(eP, .cells (iw).toArray 3 (0,0))] w') k ⟨0,([]:List Int),none,0,([]:List Value),(fit X),H,(gU.none' (Kd.int .i64) _).norm,HS1⟩ ?_ ?_
 ·rintro m us w1 ⟨aC,dG,fC,jv,eH,nO,H,iE,HS2⟩
  obtain ⟨uy1,rfl⟩:=unj nO
  cases m with
  |zero=>exact absurd H (by simp [dM.l0])
  |succ m=>
   rw [dM.l0] at H
   try simp only [patch,sc0,sc1]
   refine Al<|Al<|Ao<|rs (vI aC) (aO X)<|rs (vL bQ a0.length bT) (aO X)<|rs (vI (a0.length:Int)) (jD X A5)<|rs (vB (decide (aC<(a0.length:Int)))) (bW X X X) ?_
   try simp only [sc0,sc1]
   refine aB<|ay<|Av (t:=(decide (aC<(a0.length:Int)))) X (fun c1=>?_) (fun c1=>?_)
   ·replace H:=bU H c1
    refine AN<|ay<|Al<|wp_block<|Ao<|rs (vL (rowA fC) dG.length jv) (aO X)<|rs (vL iM a1.length iO) (aO X)<|rs (vL bQ a0.length bT) (aO X)<|rs (vI aC) (aO X)<|aK (by simp only [sc0,sc1];rfl) ?_
    obtain ⟨hi1,H⟩:=dN H
    obtain ⟨ad1,e1,mJ⟩:=CQ fK hi1.1 hi1.2
    refine rs (Value.pointer (some (Addr.add ad1 (aC.toNat*1)))) (dP (sz:=1) X e1 X hi1.1 hi1.2 A5 AW)<|rs (vS (rd ByteArray.empty a0 aC)) (kE X Be (mJ.cell0 HS2.sees X)) ?_
    obtain ⟨v1,H1,H⟩:=bn H
    refine run_eq (v:=vI v1) X X (bC Tryz.call63 X X (eY.calls k a1 (rd ByteArray.empty a0 aC) iM iO HS2.sees kX pK H1)) ?_
    intro w2 hE1
    have HS3:=HS2.step hE1
    refine ng (Kd.int .i64) (xs:=([v1]:List Int)) (n:=1) (cs:=[vI v1]) AG Br Bb X X (by decide) (by decide) (by decide) [vI v1] (jd.trans X) X X X X (fH (qs:=[vI v1]) X (jc (cs:=[]))) HS3 ?_
    intro w3 b1 HS4 ho1
    refine aK (by simp only [sc0,sc1];rfl) ?_
    obtain ⟨hl1,H⟩:=dN H
    refine oD (Kd.int .i64) (q:=1) (cs:=eH) X X AG Br Bb X (by decide) X (ni AG HS4 (i:=0) X ho1 X) ho1.len (iC ho1) hl1 HS4 X iE ?_
    intro w4 ob1 c2 cs1 HS5 ho2
    refine rs (vL (rowA ob1) (dG.length+1) c2) (aG X) ?_
    try simp only [sc0,sc1]
    refine aB<|dD<|ay<|Ao<|rs (vI aC) (aO X)<|rs (vI (w64 (aC+1))) (bW X X X)<|rs (vI (w64 (aC+1))) (aG X) ?_
    try simp only [sc0,sc1]
    refine aB<|gI m (Nat.lt_succ_self m) X ⟨(w64 (aC+1)),(dG++([v1]:List Int)),ob1,c2,cs1,(fit (by first|rfl|(rw [ho2.len];done)|(rw [ho2.len];rfl))),H,ho2.norm,HS5.tail⟩
   ·replace H:=cO H (nt c1)
    refine Bx<|eU ?_
    obtain rfl:=Ab H
    refine iK X ⟨fC,jv,eH,(fit X),iE.norm,HS2⟩
 ·rintro us w5 ⟨eP,jo,iw,nP,jr,HS6⟩
  obtain ⟨uo1,rfl⟩:=unj nP
  replace H:=G1
  clear G1
  try simp only [patch,sc0,sc1]
  refine ay<|Al<|Ao<|rs (vL (rowA eP) xx1.length jo) (aO X)<|rs (vL (rowA eP) xx1.length jo) (aG X) ?_
  try simp only [sc0,sc1]
  refine aB<|ay<|AT ?_
  obtain rfl:=Ab H
  refine Ay (bD X (bK X)) X ?_
  obtain ⟨h1,HS7,hs1,oV⟩:=lC HS6 (i:=0) rfl jr
  exact ⟨h1,(rowA eP),jo,X,jr.cap,oV,HS7.gr,HS7.sees,HS7.toE⟩
def fM.l0 (a0:aZ) (a1:List Int):Nat→Int→(List bf)→Option ((List bf))
 |0,_,_=>none
 |m+1,aC,dG=>if (decide (aC<(a0.ak.length:Int)))=true then (if 0≤aC∧aC<a0.ak.length then (((if (a0.aA==4)=true then (if 0≤(rd aj a0.ak aC).vType∧(rd aj a0.ak aC).vType<a1.length then (some (rd 0 a1 ((rd aj a0.ak aC).vType))) else none) else (some ((rd aj a0.ak aC).vType))):Option (Int)).bind fun xx3=>(if dG.length+1≤4294967296 then (fM.l0 a0 a1 m (IntKind.wrap .i64 (aC+1)) (dG++([(⟨(rd aj a0.ak aC).aF,xx3,(rd aj a0.ak aC).vAt⟩:bf)]:List bf))) else none)) else none) else (some dG)
def fM.f (k:Nat) (a0:aZ) (a1:List Int):Option (aZ):=((if (((a0.aA==2)||(a0.aA==3))||(a0.aA==6))=true then (if 0≤a0.bY∧a0.bY<a1.length then (some (rd 0 a1 a0.bY)) else none) else (some a0.bY)):Option (Int)).bind fun xx1=>((fM.l0 a0 a1 k 0 ([]:List bf)).bind fun xx2=>(some (⟨a0.aA,a0.aF,(⟨a0.aY.aU,a0.aY.aJ⟩:jE),xx1,a0.vN,xx2⟩:aZ)))
theorem fM.calls (k:Nat) (a0:aZ) (a1:List Int) (kG:Option Addr) (kH:Nat) (iM:Option Addr) (iO:Nat) {h0:View} {w0:World} (hv:lS h0 w0) (sV:Rd dw h0 kG a0.ak) (wL:a0.ak.length≤kH) (kX:Rd (Kd.int .i64) h0 iM a1) (pK:a1.length≤iO) {r:aZ} (H:fM.f k a0 a1=some r):Calls Tryz.prog 38 #[Value.agg #[vI a0.aA,vS a0.aF,vI a0.aY.aU,vB a0.aY.aJ,vI a0.bY,vI a0.vN,vL kG a0.ak.length kH],vL iM a1.length iO] w0 (fun e w1=>∃(h1:View) (kG:Option Addr) (kH:Nat),e= .returned (Value.agg #[vI r.aA,vS r.aF,vI r.aY.aU,vB r.aY.aJ,vI r.bY,vI r.vN,vL kG r.ak.length kH])∧r.ak.length≤kH∧Rd dw h1 kG r.ak∧Gr w0.heap.size h0 h1∧lS h1 w1∧Ext w0 w1):=by
 unfold fM.f at H
 have HS:St [] h0 w0 h0 [] w0:=St.init hv
 go_enter Tryz.func38,Tryz.ntmps38
 refine Al<|Ao<|dF X X (eF (cs:=#[vI a0.aA,vS a0.aF,vI a0.aY.aU,vB a0.aY.aJ,vI a0.bY,vI a0.vN,vL kG a0.ak.length kH]) X X) ?_
 rintro w1 _ hE1 ⟨b1,rfl,ge1,hb1⟩
 have HS1:=HS.new hE1 ge1 hb1
 refine dF X X (dO (cs:=#[vI 0,vS ByteArray.empty,vI 0,vB false,vI 0,vI 0,vL none 0 0]) A9 X) ?_
 rintro w2 _ hE2 ⟨b2,rfl,ge2,hb2⟩
 have HS2:=HS1.new hE2 ge2 hb2
 try simp only [sc0,sc1]
 refine aB<|ay<|Al<|Ao<|rs (Value.agg #[vI a0.aA,vS a0.aF,vI a0.aY.aU,vB a0.aY.aJ,vI a0.bY,vI a0.vN,vL kG a0.ak.length kH]) (aT (n:=7) (vs:=[vI a0.aA,vS a0.aF,vI a0.aY.aU,vB a0.aY.aJ,vI a0.bY,vI a0.vN,vL kG a0.ak.length kH]) X A7 (HS2.look 1 X) AH X X)<|dF X X (dO (cs:=#[vI 0,vS ByteArray.empty,vI 0,vB false,vI 0,vI 0,vL none 0 0]) A9 X) ?_
 rintro w3 _ hE3 ⟨b3,rfl,ge3,hb3⟩
 have HS3:=HS2.new hE3 ge3 hb3
 refine gJ (i:=0) (cs:=[vI 0,vS ByteArray.empty,vI 0,vB false,vI 0,vI 0,vL none 0 0]) (cs':=[vI a0.aA,vS a0.aF,vI a0.aY.aU,vB a0.aY.aJ,vI a0.bY,vI a0.vN,vL kG a0.ak.length kH]) (vs:=[vI a0.aA,vS a0.aF,vI a0.aY.aU,vB a0.aY.aJ,vI a0.bY,vI a0.vN,vL kG a0.ak.length kH]) (bs':=[(some b3, .cells #[vI a0.aA,vS a0.aF,vI a0.aY.aU,vB a0.aY.aJ,vI a0.bY,vI a0.vN,vL kG a0.ak.length kH] 58 (0,0)),(some b2, .cells #[vI 0,vS ByteArray.empty,vI 0,vB false,vI 0,vI 0,vL none 0 0] 58 (0,0)),(some b1, .cells #[vI a0.aA,vS a0.aF,vI a0.aY.aU,vB a0.aY.aJ,vI a0.bY,vI a0.vN,vL kG a0.ak.length kH] 58 (0,0))]) X X AH X X (by decide) X HS3 X (Ax X) X X ?_
 intro w4 HS4
 try simp only [sc0,sc1]
 refine aB<|ay<|Al<|Ao<|rs (vP b3 6) (aH (n:=1) (o':=6) X An X A4 (by decide) X)<|gJ (i:=0) (cs:=[vI a0.aA,vS a0.aF,vI a0.aY.aU,vB a0.aY.aJ,vI a0.bY,vI a0.vN,vL kG a0.ak.length kH]) (cs':=[vI a0.aA,vS a0.aF,vI a0.aY.aU,vB a0.aY.aJ,vI a0.bY,vI a0.vN,vL none 0 0]) (vs:=[vL none 0 0]) (bs':=[(some b3, .cells #[vI a0.aA,vS a0.aF,vI a0.aY.aU,vB a0.aY.aJ,vI a0.bY,vI a0.vN,vL none 0 0] 58 (0,0)),(some b2, .cells #[vI 0,vS ByteArray.empty,vI 0,vB false,vI 0,vI 0,vL none 0 0] 58 (0,0)),(some b1, .cells #[vI a0.aA,vS a0.aF,vI a0.aY.aU,vB a0.aY.aJ,vI a0.bY,vI a0.vN,vL kG a0.ak.length kH] 58 (0,0))]) X X A4 X X (by decide) X HS4 X (Ax X) X X ?_
 intro w5 HS5
 try simp only [sc0,sc1]
 refine aB<|ay<|Al<|Al<|Ao<|rs (vP b1 0) (aH (n:=1) (o':=0) X An X As (by decide) X)<|rs (vI a0.aA) (aN X AC (HS5.look 2 X) X)<|rs (vB (a0.aA==2)) (bW X X X)<|rs (vB (a0.aA==2)) (aO X)<|aK (by simp only [sc0,sc1];rfl) ?_
 refine rgs (a0.aA==2) true (vP b1 0) X X X X (fun hg=>(aH (n:=1) (o':=0) X An X As (by decide) X))<|rgs (a0.aA==2) true (vI a0.aA) X X X X (fun hg=>(aN (gvt (vP b1 0) hg X) AC (HS5.look 2 X) X))<|rgs (a0.aA==2) true (vB (a0.aA==3)) X X X X (fun hg=>(bW (gvt (vI a0.aA) hg X) X X))<|rs (vB ((a0.aA==2)||(a0.aA==3))) (dQ X X (fun hp=>(gvt (vB (a0.aA==3)) (gQ X hp) X)))<|aK (by simp only [sc0,sc1];rfl) ?_
 refine rs (vB ((a0.aA==2)||(a0.aA==3))) (aO X)<|rgs ((a0.aA==2)||(a0.aA==3)) true (vP b1 0) X X X X (fun hg=>(aH (n:=1) (o':=0) X An X As (by decide) X))<|rgs ((a0.aA==2)||(a0.aA==3)) true (vI a0.aA) X X X X (fun hg=>(aN (gvt (vP b1 0) hg X) AC (HS5.look 2 X) X))<|rgs ((a0.aA==2)||(a0.aA==3)) true (vB (a0.aA==6)) X X X X (fun hg=>(bW (gvt (vI a0.aA) hg X) X X))<|aK (by simp only [sc0,sc1];rfl) ?_
 refine rs (vB (((a0.aA==2)||(a0.aA==3))||(a0.aA==6))) (dQ X X (fun hp=>(gvt (vB (a0.aA==6)) (gQ X hp) X))) ?_
 try simp only [sc0,sc1]
 refine aB<|ay ?_
 obtain ⟨xx1,H,G1⟩:=bn H
 refine kT [23,24,25,26,27,28] (fun us w'=>Fit us (fun uj1=>[(uj1 0),(uj1 1),(uj1 2),(uj1 3),(uj1 4),(uj1 5)])∧St [] h0 w0 h0 [(some b3, .cells #[vI a0.aA,vS a0.aF,vI a0.aY.aU,vB a0.aY.aJ,vI xx1,vI a0.vN,vL none 0 0] 58 (0,0)),(some b2, .cells #[vI 0,vS ByteArray.empty,vI 0,vB false,vI 0,vI 0,vL none 0 0] 58 (0,0)),(some b1, .cells #[vI a0.aA,vS a0.aF,vI a0.aY.aU,vB a0.aY.aJ,vI a0.bY,vI a0.vN,vL kG a0.ak.length kH] 58 (0,0))] w') ?_ ?_
 ·refine Av (t:=(((a0.aA==2)||(a0.aA==3))||(a0.aA==6))) X (fun c1=>?_) (fun c1=>?_)
  ·replace H:=bU H c1
   refine Ao<|rs (vL iM a1.length iO) (aO X)<|rs (vP b1 4) (aH (n:=1) (o':=4) X An X As (by decide) X)<|rs (vI a0.bY) (aN X AC (HS5.look 2 X) X) ?_
   obtain ⟨hi1,H⟩:=dN H
   obtain ⟨ad1,e1,mJ⟩:=qY kX hi1.1 hi1.2
   refine rs (Value.pointer (some (Addr.add ad1 (a0.bY.toNat*1)))) (dP (sz:=1) X e1 X hi1.1 hi1.2 AG As)<|aK (by simp only [sc0,sc1];rfl) ?_
   refine rs (vI (rd 0 a1 a0.bY)) (kE X AC (mJ.cell0 HS5.sees X))<|rs (vP b3 4) (aH (n:=1) (o':=4) X An X As (by decide) X)<|gJ (i:=0) (cs:=[vI a0.aA,vS a0.aF,vI a0.aY.aU,vB a0.aY.aJ,vI a0.bY,vI a0.vN,vL none 0 0]) (cs':=[vI a0.aA,vS a0.aF,vI a0.aY.aU,vB a0.aY.aJ,vI (rd 0 a1 a0.bY),vI a0.vN,vL none 0 0]) (vs:=[vI (rd 0 a1 a0.bY)]) (bs':=[(some b3, .cells #[vI a0.aA,vS a0.aF,vI a0.aY.aU,vB a0.aY.aJ,vI (rd 0 a1 a0.bY),vI a0.vN,vL none 0 0] 58 (0,0)),(some b2, .cells #[vI 0,vS ByteArray.empty,vI 0,vB false,vI 0,vI 0,vL none 0 0] 58 (0,0)),(some b1, .cells #[vI a0.aA,vS a0.aF,vI a0.aY.aU,vB a0.aY.aJ,vI a0.bY,vI a0.vN,vL kG a0.ak.length kH] 58 (0,0))]) X X As X X (by decide) X HS5 X (Ax X) X X ?_
   intro w6 HS6
   try simp only [sc0,sc1]
   refine aB ?_
   obtain rfl:=Ab H
   refine oH X ⟨(fit X),HS6⟩
  ·replace H:=cO H (nt c1)
   refine AN ?_
   obtain rfl:=Ab H
   refine oH X ⟨(fit X),HS5⟩
 ·rintro us w7 ⟨AB,HS7⟩
  obtain ⟨uj1,rfl⟩:=unj AB
  replace H:=G1
  clear G1
  try simp only [patch,sc0,sc1]
  refine Al<|Al<|Ao<|rs (vI 0) (aG X) ?_
  try simp only [sc0,sc1]
  refine aB<|ay ?_
  have HS8:=HS7.nothing (.cells ([]:List Value).toArray 48 (0,0))
  obtain ⟨xx2,H,G2⟩:=bn H
  refine jB [6,7,29,30,31,32,33,34,35,36,37,38,39,40,41,42,43,44,45,46,47,48,49,50,51,52,53,54,55] (fun m us w'=>∃aC:Int,∃dG:List bf,∃(fC:Option Nat) (jv:Nat),∃(eH:List Value),Fit us (fun uy1=>[vI aC,(uy1 1),(uy1 2),(uy1 3),(uy1 4),(uy1 5),(uy1 6),(uy1 7),(uy1 8),(uy1 9),(uy1 10),(uy1 11),(uy1 12),(uy1 13),(uy1 14),(uy1 15),(uy1 16),(uy1 17),(uy1 18),(uy1 19),(uy1 20),(uy1 21),(uy1 22),(uy1 23),(uy1 24),(uy1 25),(uy1 26),(uy1 27),(uy1 28)])∧fM.l0 a0 a1 m aC dG=some xx2∧gU dw h0 dG fC dG.length jv eH∧St [] h0 w0 h0 [(fC, .cells (eH).toArray 48 (0,0)),(some b3, .cells #[vI a0.aA,vS a0.aF,vI a0.aY.aU,vB a0.aY.aJ,vI xx1,vI a0.vN,vL (rowA fC) dG.length jv] 58 (0,0)),(some b2, .cells #[vI 0,vS ByteArray.empty,vI 0,vB false,vI 0,vI 0,vL none 0 0] 58 (0,0)),(some b1, .cells #[vI a0.aA,vS a0.aF,vI a0.aY.aU,vB a0.aY.aJ,vI a0.bY,vI a0.vN,vL kG a0.ak.length kH] 58 (0,0))] w') (fun us w'=>∃(eP:Option Nat) (jo:Nat),∃(iw:List Value),Fit us (fun uo1=>[(uo1 0),(uo1 1),(uo1 2),(uo1 3),(uo1 4),(uo1 5),(uo1 6),(uo1 7),(uo1 8),(uo1 9),(uo1 10),(uo1 11),(uo1 12),(uo1 13),(uo1 14),(uo1 15),(uo1 16),(uo1 17),(uo1 18),(uo1 19),(uo1 20),(uo1 21),(uo1 22),(uo1 23),(uo1 24),(uo1 25),(uo1 26),(uo1 27),(uo1 28)])∧gU dw h0 xx2 eP xx2.length jo iw∧St [] h0 w0 h0 [(eP, .cells (iw).toArray 48 (0,0)),(some b3, .cells #[vI a0.aA,vS a0.aF,vI a0.aY.aU,vB a0.aY.aJ,vI xx1,vI a0.vN,vL (rowA eP) xx2.length jo] 58 (0,0)),(some b2, .cells #[vI 0,vS ByteArray.empty,vI 0,vB false,vI 0,vI 0,vL none 0 0] 58 (0,0)),(some b1, .cells #[vI a0.aA,vS a0.aF,vI a0.aY.aU,vB a0.aY.aJ,vI a0.bY,vI a0.vN,vL kG a0.ak.length kH] 58 (0,0))] w') k ⟨0,([]:List bf),none,0,([]:List Value),(fit X),H,(gU.none' dw _).norm,HS8⟩ ?_ ?_
  ·rintro m us w8 ⟨aC,dG,fC,jv,eH,nO,H,iE,HS9⟩
   obtain ⟨uy1,rfl⟩:=unj nO
   cases m with
   |zero=>exact absurd H (by simp [fM.l0])
   |succ m=>
    rw [fM.l0] at H
    try simp only [patch,sc0,sc1]
    refine Al<|Al<|Ao<|rs (vI aC) (aO X)<|rs (vP b1 6) (aH (n:=1) (o':=6) X An X A4 (by decide) X)<|rs (vL kG a0.ak.length kH) (aN X Bs (HS9.look 3 X) X)<|rs (vI (a0.ak.length:Int)) (jD X AK)<|aK (by simp only [sc0,sc1];rfl) ?_
    refine rs (vB (decide (aC<(a0.ak.length:Int)))) (bW X X X) ?_
    try simp only [sc0,sc1]
    refine aB<|ay<|Av (t:=(decide (aC<(a0.ak.length:Int)))) X (fun c2=>?_) (fun c2=>?_)
    ·replace H:=bU H c2
     refine AN<|ay<|Al<|wp_block<|Al<|Ao<|rs (vP b1 6) (aH (n:=1) (o':=6) X An X A4 (by decide) X)<|rs (vL kG a0.ak.length kH) (aN X Bs (HS9.look 3 X) X)<|rs (vI aC) (aO X) ?_
     obtain ⟨hi2,H⟩:=dN H
     obtain ⟨ad2,e2,tN⟩:=ji sV hi2.1 hi2.2
     refine rs (Value.pointer (some (Addr.add ad2 (aC.toNat*3)))) (dP (sz:=3) X e2 X hi2.1 hi2.2 AK AS)<|aK (by simp only [sc0,sc1];rfl) ?_
     refine rs (Value.agg #[vS ((rd aj a0.ak aC).aF),vI ((rd aj a0.ak aC).vType),vI ((rd aj a0.ak aC).vAt)]) (gG X BC (tN.sees HS9.sees) AS)<|dF X X (dO (cs:=#[vS ByteArray.empty,vI 0,vI 0]) Bm X) ?_
     rintro w9 _ hE4 ⟨b4,rfl,ge4,hb4⟩
     have kF:=HS9.new hE4 ge4 hb4
     refine gJ (i:=0) (cs:=[vS ByteArray.empty,vI 0,vI 0]) (cs':=[vS ((rd aj a0.ak aC).aF),vI ((rd aj a0.ak aC).vType),vI ((rd aj a0.ak aC).vAt)]) (vs:=[vS ((rd aj a0.ak aC).aF),vI ((rd aj a0.ak aC).vType),vI ((rd aj a0.ak aC).vAt)]) (bs':=[(some b4, .cells #[vS ((rd aj a0.ak aC).aF),vI ((rd aj a0.ak aC).vType),vI ((rd aj a0.ak aC).vAt)] 48 (0,0)),(fC, .cells (eH).toArray 48 (0,0)),(some b3, .cells #[vI a0.aA,vS a0.aF,vI a0.aY.aU,vB a0.aY.aJ,vI xx1,vI a0.vN,vL (rowA fC) dG.length jv] 58 (0,0)),(some b2, .cells #[vI 0,vS ByteArray.empty,vI 0,vB false,vI 0,vI 0,vL none 0 0] 58 (0,0)),(some b1, .cells #[vI a0.aA,vS a0.aF,vI a0.aY.aU,vB a0.aY.aJ,vI a0.bY,vI a0.vN,vL kG a0.ak.length kH] 58 (0,0))]) X X AS X X (by decide) X kF X (Ax X) X X ?_
     intro w10 oC
     try simp only [sc0,sc1]
     refine aB<|ay<|Al<|Al<|Ao<|rs (vP b1 0) (aH (n:=1) (o':=0) X An X As (by decide) X)<|rs (vI a0.aA) (aN X AC (oC.look 4 X) X)<|rs (vB (a0.aA==4)) (bW X X X) ?_
     try simp only [sc0,sc1]
     refine aB<|ay ?_
     obtain ⟨xx3,H,G3⟩:=bn H
     refine kT [44,45,46,47,48,49] (fun us w'=>Fit us (fun uj2=>[(uj2 0),(uj2 1),(uj2 2),(uj2 3),(uj2 4),(uj2 5)])∧St [] h0 w0 h0 [(some b4, .cells #[vS ((rd aj a0.ak aC).aF),vI xx3,vI ((rd aj a0.ak aC).vAt)] 48 (0,0)),(fC, .cells (eH).toArray 48 (0,0)),(some b3, .cells #[vI a0.aA,vS a0.aF,vI a0.aY.aU,vB a0.aY.aJ,vI xx1,vI a0.vN,vL (rowA fC) dG.length jv] 58 (0,0)),(some b2, .cells #[vI 0,vS ByteArray.empty,vI 0,vB false,vI 0,vI 0,vL none 0 0] 58 (0,0)),(some b1, .cells #[vI a0.aA,vS a0.aF,vI a0.aY.aU,vB a0.aY.aJ,vI a0.bY,vI a0.vN,vL kG a0.ak.length kH] 58 (0,0))] w') ?_ ?_
     ·refine Av (t:=(a0.aA==4)) X (fun c3=>?_) (fun c3=>?_)
      ·replace H:=bU H c3
       refine Ao<|rs (vL iM a1.length iO) (aO X)<|rs (vP b4 1) (aH (n:=1) (o':=1) X AJ X As (by decide) X)<|rs (vI ((rd aj a0.ak aC).vType)) (aN X AC (oC.look 0 X) X) ?_
       obtain ⟨hi3,H⟩:=dN H
       obtain ⟨ad3,e3,IW⟩:=qY kX hi3.1 hi3.2
       refine rs (Value.pointer (some (Addr.add ad3 (((rd aj a0.ak aC).vType).toNat*1)))) (dP (sz:=1) X e3 X hi3.1 hi3.2 AG As)<|aK (by simp only [sc0,sc1];rfl) ?_
       refine rs (vI (rd 0 a1 ((rd aj a0.ak aC).vType))) (kE X AC (IW.cell0 oC.sees X))<|rs (vP b4 1) (aH (n:=1) (o':=1) X AJ X As (by decide) X)<|gJ (i:=0) (cs:=[vS ((rd aj a0.ak aC).aF),vI ((rd aj a0.ak aC).vType),vI ((rd aj a0.ak aC).vAt)]) (cs':=[vS ((rd aj a0.ak aC).aF),vI (rd 0 a1 ((rd aj a0.ak aC).vType)),vI ((rd aj a0.ak aC).vAt)]) (vs:=[vI (rd 0 a1 ((rd aj a0.ak aC).vType))]) (bs':=[(some b4, .cells #[vS ((rd aj a0.ak aC).aF),vI (rd 0 a1 ((rd aj a0.ak aC).vType)),vI ((rd aj a0.ak aC).vAt)] 48 (0,0)),(fC, .cells (eH).toArray 48 (0,0)),(some b3, .cells #[vI a0.aA,vS a0.aF,vI a0.aY.aU,vB a0.aY.aJ,vI xx1,vI a0.vN,vL (rowA fC) dG.length jv] 58 (0,0)),(some b2, .cells #[vI 0,vS ByteArray.empty,vI 0,vB false,vI 0,vI 0,vL none 0 0] 58 (0,0)),(some b1, .cells #[vI a0.aA,vS a0.aF,vI a0.aY.aU,vB a0.aY.aJ,vI a0.bY,vI a0.vN,vL kG a0.ak.length kH] 58 (0,0))]) X X As X X (by decide) X oC X (Ax X) X X ?_
       intro w11 mW
       try simp only [sc0,sc1]
       refine aB ?_
       obtain rfl:=Ab H
       refine oH X ⟨(fit X),mW⟩
      ·replace H:=cO H (nt c3)
       refine AN ?_
       obtain rfl:=Ab H
       refine oH X ⟨(fit X),oC⟩
     ·rintro us w12 ⟨UO,qx⟩
      obtain ⟨uj2,rfl⟩:=unj UO
      replace H:=G3
      clear G3
      try simp only [patch,sc0,sc1]
      refine Ao<|rs (vP b3 6) (aH (n:=1) (o':=6) X An X A4 (by decide) X)<|rs (vL (rowA fC) dG.length jv) (aN X Bs (qx.look 2 X) X)<|rs (Value.agg #[vS ((rd aj a0.ak aC).aF),vI xx3,vI ((rd aj a0.ak aC).vAt)]) (aT (n:=3) (vs:=[vS ((rd aj a0.ak aC).aF),vI xx3,vI ((rd aj a0.ak aC).vAt)]) X BC (qx.look 0 X) AS X X)<|ng dw (xs:=([(⟨(rd aj a0.ak aC).aF,xx3,(rd aj a0.ak aC).vAt⟩:bf)]:List bf)) (n:=1) (cs:=[vS ((rd aj a0.ak aC).aF),vI xx3,vI ((rd aj a0.ak aC).vAt)]) AK Cs Bm X X (by decide) (by decide) (by decide) [Value.agg #[vS ((rd aj a0.ak aC).aF),vI xx3,vI ((rd aj a0.ak aC).vAt)]] (jd.trans X) X X X X (fH (qs:=[vS ((rd aj a0.ak aC).aF),vI xx3,vI ((rd aj a0.ak aC).vAt)]) ⟨[vS ((rd aj a0.ak aC).aF)],[vI xx3,vI ((rd aj a0.ak aC).vAt)],X,X,⟨[vI xx3],[vI ((rd aj a0.ak aC).vAt)],X,X,X⟩⟩ (jc (cs:=[]))) qx ?_
      intro w13 b5 ru ho1
      refine aK (by simp only [sc0,sc1];rfl) ?_
      obtain ⟨hl1,H⟩:=dN H
      refine oD dw (q:=2) (cs:=eH) X X AK Cs Bm X (by decide) X (ni AK ru (i:=0) X ho1 X) ho1.len (iC ho1) hl1 ru X iE ?_
      intro w14 ob1 c4 cs1 sW ho2
      refine rs (vP b3 6) (aH (n:=1) (o':=6) X An X A4 (by decide) X)<|gJ (i:=3) (cs:=[vI a0.aA,vS a0.aF,vI a0.aY.aU,vB a0.aY.aJ,vI xx1,vI a0.vN,vL (rowA fC) dG.length jv]) (cs':=[vI a0.aA,vS a0.aF,vI a0.aY.aU,vB a0.aY.aJ,vI xx1,vI a0.vN,vL (rowA ob1) (dG.length+1) c4]) (vs:=[vL (rowA ob1) (dG.length+1) c4]) (bs':=[((some b5), .cells ([vS ((rd aj a0.ak aC).aF),vI xx3,vI ((rd aj a0.ak aC).vAt)]).toArray 48 (0,0)),(some b4, .cells #[vS ((rd aj a0.ak aC).aF),vI xx3,vI ((rd aj a0.ak aC).vAt)] 48 (0,0)),(ob1, .cells (cs1).toArray 48 (0,0)),(some b3, .cells #[vI a0.aA,vS a0.aF,vI a0.aY.aU,vB a0.aY.aJ,vI xx1,vI a0.vN,vL (rowA ob1) (dG.length+1) c4] 58 (0,0)),(some b2, .cells #[vI 0,vS ByteArray.empty,vI 0,vB false,vI 0,vI 0,vL none 0 0] 58 (0,0)),(some b1, .cells #[vI a0.aA,vS a0.aF,vI a0.aY.aU,vB a0.aY.aJ,vI a0.bY,vI a0.vN,vL kG a0.ak.length kH] 58 (0,0))]) X X A4 X X (by decide) X sW X (Ax X) X X ?_
      intro w15 sH
      try simp only [sc0,sc1]
      refine aB<|dD<|ay<|Ao<|rs (vI aC) (aO X)<|rs (vI (w64 (aC+1))) (bW X X X)<|rs (vI (w64 (aC+1))) (aG X) ?_
      try simp only [sc0,sc1]
      refine aB ?_
      have uQ:St [] h0 w0 h0 [((some b5), .cells ([vS ((rd aj a0.ak aC).aF),vI xx3,vI ((rd aj a0.ak aC).vAt)]).toArray 48 (0,0)),(some b4, .cells #[vS ((rd aj a0.ak aC).aF),vI xx3,vI ((rd aj a0.ak aC).vAt)] 48 (0,0)),(ob1, .cells (cs1).toArray 48 (0,0)),(some b3, .cells #[vI a0.aA,vS a0.aF,vI a0.aY.aU,vB a0.aY.aJ,vI xx1,vI a0.vN,vL (rowA ob1) ((dG++([(⟨(rd aj a0.ak aC).aF,xx3,(rd aj a0.ak aC).vAt⟩:bf)]:List bf)).length) c4] 58 (0,0)),(some b2, .cells #[vI 0,vS ByteArray.empty,vI 0,vB false,vI 0,vI 0,vL none 0 0] 58 (0,0)),(some b1, .cells #[vI a0.aA,vS a0.aF,vI a0.aY.aU,vB a0.aY.aJ,vI a0.bY,vI a0.vN,vL kG a0.ak.length kH] 58 (0,0))] w15:=sH.cast (by first|rfl|(rw [ho2.len];done)|(rw [ho2.len];rfl))
      have ho3:=ho2.norm
      refine gI m (Nat.lt_succ_self m) X ⟨(w64 (aC+1)),(dG++([(⟨(rd aj a0.ak aC).aF,xx3,(rd aj a0.ak aC).vAt⟩:bf)]:List bf)),ob1,c4,cs1,(fit (by first|rfl|(rw [ho2.len];done)|(rw [ho2.len];rfl))),H,ho3.norm,uQ.tail.tail⟩
    ·replace H:=cO H (nt c2)
     refine Bx<|eU ?_
     obtain rfl:=Ab H
     refine iK X ⟨fC,jv,eH,(fit X),iE.norm,HS9⟩
  ·rintro us w16 ⟨eP,jo,iw,nP,jr,xU⟩
   obtain ⟨uo1,rfl⟩:=unj nP
   replace H:=G2
   clear G2
   try simp only [patch,sc0,sc1]
   refine ay<|Al<|Ao<|rs (Value.agg #[vI a0.aA,vS a0.aF,vI a0.aY.aU,vB a0.aY.aJ,vI xx1,vI a0.vN,vL (rowA eP) xx2.length jo]) (aT (n:=7) (vs:=[vI a0.aA,vS a0.aF,vI a0.aY.aU,vB a0.aY.aJ,vI xx1,vI a0.vN,vL (rowA eP) xx2.length jo]) X A7 (xU.look 1 X) AH X X)<|gJ (i:=2) (cs:=[vI 0,vS ByteArray.empty,vI 0,vB false,vI 0,vI 0,vL none 0 0]) (cs':=[vI a0.aA,vS a0.aF,vI a0.aY.aU,vB a0.aY.aJ,vI xx1,vI a0.vN,vL (rowA eP) xx2.length jo]) (vs:=[vI a0.aA,vS a0.aF,vI a0.aY.aU,vB a0.aY.aJ,vI xx1,vI a0.vN,vL (rowA eP) xx2.length jo]) (bs':=[(eP, .cells (iw).toArray 48 (0,0)),(some b3, .cells #[vI a0.aA,vS a0.aF,vI a0.aY.aU,vB a0.aY.aJ,vI xx1,vI a0.vN,vL (rowA eP) xx2.length jo] 58 (0,0)),(some b2, .cells #[vI a0.aA,vS a0.aF,vI a0.aY.aU,vB a0.aY.aJ,vI xx1,vI a0.vN,vL (rowA eP) xx2.length jo] 58 (0,0)),(some b1, .cells #[vI a0.aA,vS a0.aF,vI a0.aY.aU,vB a0.aY.aJ,vI a0.bY,vI a0.vN,vL kG a0.ak.length kH] 58 (0,0))]) X X AH X X (by decide) X xU X (Ax X) X X ?_
   intro w17 zM
   try simp only [sc0,sc1]
   refine aB<|ay<|AT ?_
   obtain rfl:=Ab H
   refine Ay (bD X (kY X A7 (zM.look 2 X) AH X)) X ?_
   obtain ⟨h1,zl,hs1,oV⟩:=lC zM (i:=0) rfl jr
   exact ⟨h1,(rowA eP),jo,X,jr.cap,oV,zl.gr,zl.sees,zl.toE⟩
def dX.l0 (k:Nat) (a1:aQ) (a2:List Int) (a0:List aZ):Nat→Int→(List aZ)→Option ((List aZ))
 |0,_,_=>none
 |m+1,aC,dG=>if (decide (aC<(a1.au.length:Int)))=true then (if 0≤aC∧aC<a2.length then (if 0≤(rd 0 a2 aC)∧(rd 0 a2 aC)<((a0.length:Nat):Int) then (if ((rd ah dG (rd 0 a2 aC)).aA==0)=true then (if 0≤aC∧aC<a2.length then (if 0≤aC∧aC<a1.au.length then ((fM.f k (rd ah a1.au aC) a2).bind fun v1=>(if 0≤(rd 0 a2 aC)∧(rd 0 a2 aC)<((a0.length:Nat):Int) then (dX.l0 k a1 a2 a0 m (IntKind.wrap .i64 (aC+1)) (List.set dG (rd 0 a2 aC).toNat v1)) else none)) else none) else none) else (dX.l0 k a1 a2 a0 m (IntKind.wrap .i64 (aC+1)) dG)) else none) else none) else (some dG)
def dX.f (k:Nat) (a0:List aZ) (a1:aQ) (a2:List Int):Option ((List aZ)):=(dX.l0 k a1 a2 a0 k 0 a0).bind fun xx1=>(some xx1)
theorem dX.calls (k:Nat) (a0:List aZ) (a1:aQ) (a2:List Int) (qW:Option Nat) (ca0:Nat) (x9:List Value) (Aq:Nat×Nat) (iM:Option Addr) (iO:Nat) (lV:Option Addr) (mG:Nat) {h0:View} {w0:World} {h:View} {w:World} {rest:List Res} (HS:St [] h0 w0 h ((qW, .cells (x9).toArray 58 Aq)::rest) w) (KI:gU bI h a0 qW a0.length ca0 x9) (KJ:xO Aq x9.length) (kX:Rd bI h iM a1.au) (pK:a1.au.length≤iO) (pY:Rd (Kd.int .i64) h lV a2) (vY:a2.length≤mG) {r:(List aZ)} (H:dX.f k a0 a1 a2=some r):Calls Tryz.prog 33 #[vL (rowA qW) a0.length ca0,Value.agg #[vL iM a1.au.length iO],vL lV a2.length mG] w (fun e w1=>∃(h1:View),∃(oI:Option Nat) (vZ:Nat) (oJ:List Value),∃(qE:Nat×Nat),e= .returned (vL (rowA oI) r.length vZ)∧xO qE oJ.length∧gU bI h1 r oI r.length vZ oJ∧Sub h h1∧St [] h0 w0 h1 ((oI, .cells (oJ).toArray 58 qE)::rest) w1):=by
 unfold dX.f at H
 have hsub:Sub h h:=Sub.rfl' h
 go_enter Tryz.func33,Tryz.ntmps33
 refine Al<|Ao<|dF X X (eF (cs:=#[vL iM a1.au.length iO]) X X) ?_
 rintro w1 _ hE1 ⟨b1,rfl,ge1,hb1⟩
 have HS1:=HS.new hE1 ge1 hb1
 refine rs (vL none 0 0) (aG X) ?_
 try simp only [sc0,sc1]
 refine aB<|ay<|Al<|Al<|Ao<|rs (vI 0) (aG X) ?_
 try simp only [sc0,sc1]
 refine aB<|ay ?_
 obtain ⟨xx1,H,G1⟩:=bn H
 refine jB [7,8,9,10,11,12,13,14,15,16,17,18,19,20,21,22,23,24,25,26,27,28,29,30,31,32,33,34,35,36] (fun m us w'=>∃aC:Int,∃dG:List aZ,∃h1:View,∃eH:List Value,∃oN:Nat×Nat,Fit us (fun uy1=>[vI aC,(uy1 1),(uy1 2),(uy1 3),(uy1 4),(uy1 5),(uy1 6),(uy1 7),(uy1 8),(uy1 9),(uy1 10),(uy1 11),(uy1 12),(uy1 13),(uy1 14),(uy1 15),(uy1 16),(uy1 17),(uy1 18),(uy1 19),(uy1 20),(uy1 21),(uy1 22),(uy1 23),(uy1 24),(uy1 25),(uy1 26),(uy1 27),(uy1 28),(uy1 29)])∧dX.l0 k a1 a2 a0 m aC dG=some xx1∧xO oN eH.length∧gU bI h1 dG qW a0.length ca0 eH∧Rd bI h1 iM a1.au∧Rd (Kd.int .i64) h1 lV a2∧Sub h h1∧St [] h0 w0 h1 ((some b1, .cells #[vL iM a1.au.length iO] 24 (0,0))::(qW, .cells (eH).toArray 58 oN)::rest) w') (fun us w'=>∃h3:View,∃iw:List Value,∃uY:Nat×Nat,Fit us (fun uo1=>[(uo1 0),(uo1 1),(uo1 2),(uo1 3),(uo1 4),(uo1 5),(uo1 6),(uo1 7),(uo1 8),(uo1 9),(uo1 10),(uo1 11),(uo1 12),(uo1 13),(uo1 14),(uo1 15),(uo1 16),(uo1 17),(uo1 18),(uo1 19),(uo1 20),(uo1 21),(uo1 22),(uo1 23),(uo1 24),(uo1 25),(uo1 26),(uo1 27),(uo1 28),(uo1 29)])∧xO uY iw.length∧gU bI h3 xx1 qW a0.length ca0 iw∧Rd bI h3 iM a1.au∧Rd (Kd.int .i64) h3 lV a2∧Sub h h3∧St [] h0 w0 h3 ((some b1, .cells #[vL iM a1.au.length iO] 24 (0,0))::(qW, .cells (iw).toArray 58 uY)::rest) w') k ⟨0,a0,h,x9,Aq,(fit X),H,KJ,KI,kX,pY,hsub,HS1⟩ ?_ ?_
 ·rintro m us w2 ⟨aC,dG,h1,eH,oN,nO,H,wo,iE,kX,pY,hsub,HS2⟩
  obtain ⟨uy1,rfl⟩:=unj nO
  cases m with
  |zero=>exact absurd H (by simp [dX.l0])
  |succ m=>
   rw [dX.l0] at H
   try simp only [patch,sc0,sc1]
   refine Al<|Al<|Ao<|rs (vI aC) (aO X)<|rs (vP b1 0) (aH (n:=1) (o':=0) X AE X AM (by decide) X)<|rs (vL iM a1.au.length iO) (aN X AR (HS2.look 0 X) X)<|rs (vI (a1.au.length:Int)) (jD X AF)<|aK (by simp only [sc0,sc1];rfl) ?_
   refine rs (vB (decide (aC<(a1.au.length:Int)))) (bW X X X) ?_
   try simp only [sc0,sc1]
   refine aB<|ay<|Av (t:=(decide (aC<(a1.au.length:Int)))) X (fun c1=>?_) (fun c1=>?_)
   ·replace H:=bU H c1
    refine AN<|ay<|Al<|wp_block<|Al<|Ao<|rs (vL (rowA qW) a0.length ca0) (aO X)<|rs (vL lV a2.length mG) (aO X)<|rs (vI aC) (aO X) ?_
    obtain ⟨hi1,H⟩:=dN H
    obtain ⟨ad1,e1,mJ⟩:=qY pY hi1.1 hi1.2
    refine rs (Value.pointer (some (Addr.add ad1 (aC.toNat*1)))) (dP (sz:=1) X e1 X hi1.1 hi1.2 AG As)<|aK (by simp only [sc0,sc1];rfl) ?_
    refine rs (vI (rd 0 a2 aC)) (kE X AC (mJ.cell0 HS2.sees X)) ?_
    obtain ⟨hi2,H⟩:=dN H
    obtain ⟨rb1,_,Hz,⟨_,_,rfl,rfl,⟨_,_,rfl,rfl,⟨_,_,rfl,⟨_,_,rfl,rfl,rfl⟩,⟨_,_,rfl,rfl,⟨_,_,rfl,rfl,⟨Vh,Xq,rfl,WJ,N8⟩⟩⟩⟩⟩⟩,hp1⟩:=iE.at ah hi2.1 hi2.2
    refine rs (Value.pointer (some ⟨rb1,(rd 0 a2 aC).toNat*7+0,none⟩)) (lX (sz:=7) X Hz X hi2.1 hi2.2 AF AH)<|rs (Value.pointer (some ⟨rb1,(rd 0 a2 aC).toNat*7+0,none⟩)) (aH (n:=1) (o':=(rd 0 a2 aC).toNat*7+0) X An X As (by decide) X)<|rs (vI ((rd ah dG (rd 0 a2 aC)).aA)) (aN (cs:=eH) X AC (HS2.ES 1 X Hz) (hp1 0 _ X))<|aK (by simp only [sc0,sc1];rfl) ?_
    refine rs (vB ((rd ah dG (rd 0 a2 aC)).aA==0)) (bW X X X) ?_
    try simp only [sc0,sc1]
    refine aB<|ay<|Av (t:=((rd ah dG (rd 0 a2 aC)).aA==0)) X (fun c2=>?_) (fun c2=>?_)
    ·replace H:=bU H c2
     refine mg [([24,25,26,27,28,29,30,31,32,33,34],[0,1,2,3,4,5,6,7,8,9,10]),([36],[0,1,2,3,4,12]),([],[])] [11,13] [[],[],[],[1,2],[1,2,3],[],[5],[],[5,6,7],[5,6,7,8],[],[5,6,7,8,9,10],[0,1,2,3,4,5,6,7,8,9,10,11],[0,1,2,3,4,5,6,7,8,9,10,11,12]] rM (by kernel_rfl) ?_
     intro w3 hE2
     have HS3:=HS2.step hE2
     obtain ⟨hi3,H⟩:=dN H
     obtain ⟨ad2,e2,tN⟩:=qY pY hi3.1 hi3.2
     obtain ⟨hi4,H⟩:=dN H
     obtain ⟨ad3,Dy,Ew,e3,IW,N9,Fv⟩:=gK kX hi4.1 hi4.2
     refine iR [vL (rowA qW) a0.length ca0,vL lV a2.length mG,vI aC,Value.pointer (some (Addr.add ad2 (aC.toNat*1))),vI (rd 0 a2 aC),vP b1 0,vL iM a1.au.length iO,vI aC,Value.pointer (some (Addr.add ad3 (aC.toNat*7))),Value.agg #[vI ((rd ah a1.au aC).aA),vS ((rd ah a1.au aC).aF),vI ((rd ah a1.au aC).aY.aU),vB ((rd ah a1.au aC).aY.aJ),vI ((rd ah a1.au aC).bY),vI ((rd ah a1.au aC).vN),vL Dy ((rd ah a1.au aC).ak).length Ew],vL lV a2.length mG] ?_ X X ?_
     ·try simp only [patch,sc0,sc1]
      exact bF (bG (v:=vL (rowA qW) a0.length ca0) X X X X (aO X)) (bF (bG (v:=vL lV a2.length mG) X X X X (aO X)) (bF (bG (v:=vI aC) X X X X (aO X)) (bF (bG (v:=Value.pointer (some (Addr.add ad2 (aC.toNat*1)))) X X X X (dP (sz:=1) X e2 X hi3.1 hi3.2 AG As)) (bF (bG (v:=vI (rd 0 a2 aC)) X X X X (kE X AC (tN.cell0 HS3.sees X))) (bF (bG (v:=vP b1 0) X X X X (aH (n:=1) (o':=0) X AE X AM (by decide) X)) (bF (bG (v:=vL iM a1.au.length iO) X X X X (aN X AR (HS3.look 0 X) X)) (bF (bG (v:=vI aC) X X X X (aO X)) (bF (bG (v:=Value.pointer (some (Addr.add ad3 (aC.toNat*7)))) X X X X (dP (sz:=7) X e3 X hi4.1 hi4.2 AF AH)) (bF (bG (v:=Value.agg #[vI ((rd ah a1.au aC).aA),vS ((rd ah a1.au aC).aF),vI ((rd ah a1.au aC).aY.aU),vB ((rd ah a1.au aC).aY.aJ),vI ((rd ah a1.au aC).bY),vI ((rd ah a1.au aC).vN),vL Dy ((rd ah a1.au aC).ak).length Ew]) X X X X (gG X A7 (IW.sees HS3.sees) AH)) (bF (bG (v:=vL lV a2.length mG) X X X X (aO X)) (iH)))))))))))
     try simp only [patch,sc0,sc1]
     obtain ⟨v1,H1,H⟩:=bn H
     refine dF X X (iQ Tryz.call38 X (jX (h:=h1) (R:=(fun hx u=>∃(kQ:Option Addr) (kR:Nat),u=Value.agg #[vI v1.aA,vS v1.aF,vI v1.aY.aU,vB v1.aY.aJ,vI v1.bY,vI v1.vN,vL kQ v1.ak.length kR]∧v1.ak.length≤kR∧Rd dw hx kQ v1.ak)) (Ext.rfl' w3) ((fM.calls k (rd ah a1.au aC) a2 Dy Ew lV mG HS3.sees Fv N9 pY vY H1).mono ?_)) X) ?_
     ·rintro _ _ ⟨h1,kQ,kR,rfl,wO,wP,g,ss,x⟩
      exact ⟨h1,_,X,⟨kQ,kR,X,wO,wP⟩,g,ss,x⟩
     rintro w4 _ hE3 ⟨h2,⟨kQ,kR,rfl,wO,wP⟩,gr1,se1⟩
     have HS4:=HS3.view hE3 gr1 se1
     replace kX:Rd bI h2 iM a1.au:=kX.ext gr1.1
     replace pY:Rd (Kd.int .i64) h2 lV a2:=pY.ext gr1.1
     replace hsub:Sub h h2:=hsub.then gr1.1
     replace mJ:mM h2 (Addr.add ad1 (aC.toNat*1)) [vI (rd 0 a2 aC)]:=mJ.sub gr1.1
     replace N8:Rd dw h2 Vh ((rd ah dG (rd 0 a2 aC)).ak):=N8.ext gr1.1
     replace tN:mM h2 (Addr.add ad2 (aC.toNat*1)) [vI (rd 0 a2 aC)]:=tN.sub gr1.1
     replace IW:mM h2 (Addr.add ad3 (aC.toNat*7)) [vI ((rd ah a1.au aC).aA),vS ((rd ah a1.au aC).aF),vI ((rd ah a1.au aC).aY.aU),vB ((rd ah a1.au aC).aY.aJ),vI ((rd ah a1.au aC).bY),vI ((rd ah a1.au aC).vN),vL Dy ((rd ah a1.au aC).ak).length Ew]:=IW.sub gr1.1
     replace Fv:Rd dw h2 Dy ((rd ah a1.au aC).ak):=Fv.ext gr1.1
     replace iE:=iE.view gr1.1
     refine lY ?_
     try simp only [sc0,sc1]
     obtain ⟨hi5,H⟩:=dN H
     obtain ⟨rb2,_,Jr,⟨_,_,rfl,rfl,⟨_,_,rfl,rfl,⟨_,_,rfl,⟨_,_,rfl,rfl,rfl⟩,⟨_,_,rfl,rfl,⟨_,_,rfl,rfl,⟨Xr,Xt,rfl,WL,WM⟩⟩⟩⟩⟩⟩,hp2⟩:=iE.at ah hi5.1 hi5.2
     refine iR [Value.pointer (some ⟨rb2,(rd 0 a2 aC).toNat*7+0,none⟩)] ?_ X X ?_
     ·try simp only [patch,sc0,sc1]
      exact bF (bG (v:=vL (rowA qW) a0.length ca0) X X X X (aO X)) (bF (bG (v:=vL lV a2.length mG) X X X X (aO X)) (bF (bG (v:=vI aC) X X X X (aO X)) (bF (bG (v:=Value.pointer (some (Addr.add ad2 (aC.toNat*1)))) X X X X (dP (sz:=1) X e2 X hi3.1 hi3.2 AG As)) (bF (bG (v:=vI (rd 0 a2 aC)) X X X X (kE X AC (tN.cell0 HS4.sees X))) (bF (bG (v:=Value.pointer (some ⟨rb2,(rd 0 a2 aC).toNat*7+0,none⟩)) X X X X (lX (sz:=7) X Jr X hi5.1 hi5.2 AF AH)) (iH))))))
     try simp only [patch,sc0,sc1]
     refine Qc (i:=1) (cs:=eH) (vs:=[vI v1.aA,vS v1.aF,vI v1.aY.aU,vB v1.aY.aJ,vI v1.bY,vI v1.vN,vL kQ v1.ak.length kR]) Jr X X AH X X (by decide) X HS4 X wo (iE.inb hi5.1 hi5.2 (m:=7) (by decide)) ?_
     intro w5 HS5
     have ho1:=iE.all (vs:=[vI v1.aA,vS v1.aF,vI v1.aY.aU,vB v1.aY.aJ,vI v1.bY,vI v1.vN,vL kQ v1.ak.length kR]) (x':=v1) (z:=7) (o:=0) hi5.1 hi5.2 ⟨[vI v1.aA],[vS v1.aF,vI v1.aY.aU,vB v1.aY.aJ,vI v1.bY,vI v1.vN,vL kQ v1.ak.length kR],X,X,⟨[vS v1.aF],[vI v1.aY.aU,vB v1.aY.aJ,vI v1.bY,vI v1.vN,vL kQ v1.ak.length kR],X,X,⟨[vI v1.aY.aU,vB v1.aY.aJ],[vI v1.bY,vI v1.vN,vL kQ v1.ak.length kR],X,⟨[vI v1.aY.aU],[vB v1.aY.aJ],X,X,X⟩,⟨[vI v1.bY],[vI v1.vN,vL kQ v1.ak.length kR],X,X,⟨[vI v1.vN],[vL kQ v1.ak.length kR],X,X,⟨kQ,kR,X,wO,wP⟩⟩⟩⟩⟩⟩ X X
     refine lY ?_
     try simp only [sc0,sc1]
     refine nU [] ?_ ?_
     ·try simp only [patch,sc0,sc1]
      exact iH
     try simp only [patch,sc0,sc1]
     refine dD<|ay<|Ao<|rs (vI aC) (aO X)<|rs (vI (w64 (aC+1))) (bW X X X)<|rs (vI (w64 (aC+1))) (aG X) ?_
     try simp only [sc0,sc1]
     refine aB<|gI m (Nat.lt_succ_self m) X ⟨(w64 (aC+1)),(List.set dG (rd 0 a2 aC).toNat v1),h2,(BN eH ((rd 0 a2 aC).toNat*7+0) [vI v1.aA,vS v1.aF,vI v1.aY.aU,vB v1.aY.aJ,vI v1.bY,vI v1.vN,vL kQ v1.ak.length kR]),oN,(fit X),H,wo.put,ho1,kX,pY,hsub,HS5⟩
    ·replace H:=cO H (nt c2)
     refine AN<|dD<|ay<|Ao<|rs (vI aC) (aO X)<|rs (vI (w64 (aC+1))) (bW X X X)<|rs (vI (w64 (aC+1))) (aG X) ?_
     try simp only [sc0,sc1]
     refine aB<|gI m (Nat.lt_succ_self m) X ⟨(w64 (aC+1)),dG,h1,eH,oN,(fit X),H,wo,iE,kX,pY,hsub,HS2⟩
   ·replace H:=cO H (nt c1)
    refine Bx<|eU ?_
    obtain rfl:=Ab H
    refine iK X ⟨h1,eH,oN,(fit X),wo,iE,kX,pY,hsub,HS2⟩
 ·rintro us w6 ⟨h3,iw,uY,nP,Gz,jr,kX,pY,hsub,HS6⟩
  obtain ⟨uo1,rfl⟩:=unj nP
  replace H:=G1
  clear G1
  try simp only [patch,sc0,sc1]
  refine ay<|Al<|Ao<|rs (vL (rowA qW) a0.length ca0) (aO X)<|rs (vL (rowA qW) a0.length ca0) (aG X) ?_
  try simp only [sc0,sc1]
  refine aB<|ay<|AT ?_
  obtain rfl:=Ab H
  refine Ay (bD X (bK X)) X ?_
  have ho2:=jr.norm
  have HS7:=HS6.d0
  exact ⟨h3,qW,ca0,iw,uY,(by first|rfl|(rw [jr.len];done)|(rw [jr.len];rfl)),Gz,ho2,hsub,HS7⟩
def iU.f (k:Nat) (a0:aQ):Option (gu):=(aS.f k a0).bind fun v1=>(if (v1 !=0)=true then (some (⟨(⟨[]⟩:aQ),[],[],v1⟩:gu)) else ((dV.f k a0).bind fun v2=>((dh.f k v2 ([]:List ByteArray)).bind fun v3=>((dM.f k v2 v3).bind fun v4=>(if 0≤(v3.length:Int)∧(v3.length:Int)≤4294967296 then ((dX.f k (List.replicate (v3.length:Int).toNat (ah:aZ)) a0 v4).bind fun v5=>(some (⟨(⟨v5⟩:aQ),v4,[],0⟩:gu))) else none)))))
theorem iU.calls (k:Nat) (a0:aQ) (bQ:Option Addr) (bT:Nat) {h0:View} {w0:World} (hv:lS h0 w0) (fK:Rd bI h0 bQ a0.au) (iF:a0.au.length≤bT) {r:gu} (H:iU.f k a0=some r):Calls Tryz.prog 8 #[Value.agg #[vL bQ a0.au.length bT]] w0 (fun e w1=>∃(h1:View) (bQ:Option Addr) (bT:Nat) (RD:Option Addr) (RF:Nat) (RG:Option Addr) (RH:Nat),e= .returned (Value.agg #[vL bQ r.vT.au.length bT,vL RD r.vA.length RF,vL RG r.vB.length RH,vI r.vE])∧r.vT.au.length≤bT∧Rd bI h1 bQ r.vT.au∧r.vA.length≤RF∧Rd (Kd.int .i64) h1 RD r.vA∧r.vB.length≤RH∧Rd (Kd.int .i64) h1 RG r.vB∧Gr w0.heap.size h0 h1∧lS h1 w1∧Ext w0 w1):=by
 unfold iU.f at H
 have HS:St [] h0 w0 h0 [] w0:=St.init hv
 go_enter Tryz.func8,Tryz.ntmps8
 refine Al<|Ao<|dF X X (eF (cs:=#[vL bQ a0.au.length bT]) X X) ?_
 rintro w1 _ hE1 ⟨b1,rfl,ge1,hb1⟩
 have HS1:=HS.new hE1 ge1 hb1
 refine dF X X (dO (cs:=#[vL none 0 0,vL none 0 0,vL none 0 0,vI 0]) BS X) ?_
 rintro w2 _ hE2 ⟨b2,rfl,ge2,hb2⟩
 have HS2:=HS1.new hE2 ge2 hb2
 try simp only [sc0,sc1]
 refine aB<|ay<|Al<|Ao<|rs (Value.agg #[vL bQ a0.au.length bT]) (aT (n:=1) (vs:=[vL bQ a0.au.length bT]) X AI (HS2.look 1 X) AD X X) ?_
 obtain ⟨v1,H1,H⟩:=bn H
 refine run_eq (v:=vI v1) X X (bC CH X X (aS.calls k a0 bQ bT HS2.sees fK iF H1)) ?_
 intro w3 hE3
 have HS3:=HS2.step hE3
 refine rs (vI v1) (aG X) ?_
 try simp only [sc0,sc1]
 refine aB<|ay<|Al<|Al<|Ao<|rs (vI v1) (aO X)<|rs (vB (v1 !=0)) (bW X X X) ?_
 try simp only [sc0,sc1]
 refine aB<|ay<|Av (t:=(v1 !=0)) X (fun c1=>?_) (fun c1=>?_)
 ·replace H:=bU H c1
  refine Al<|Ao<|rs (vI v1) (aO X)<|rs (Value.agg #[vL none 0 0,vL none 0 0,vL none 0 0,vI v1]) (jy (cs:=[vL none 0 0,vL none 0 0,vL none 0 0,vI v1]) (ps:=[(3,vI v1)]) BS Bw (pl:=#[(0,1),(1,1),(2,1),(3,1)]) (fun w=>by simp [Tryz.sizeOf24,Tryz.sizeOf27,Tryz.sizeOf28]) (pq (show _=vI v1 from X)) X) ?_
  refine gJ (i:=0) (cs:=[vL none 0 0,vL none 0 0,vL none 0 0,vI 0]) (cs':=[vL none 0 0,vL none 0 0,vL none 0 0,vI v1]) (vs:=[vL none 0 0,vL none 0 0,vL none 0 0,vI v1]) (bs':=[(some b2, .cells #[vL none 0 0,vL none 0 0,vL none 0 0,vI v1] 35 (0,0)),(some b1, .cells #[vL bQ a0.au.length bT] 24 (0,0))]) X X BE X X (by decide) X HS3 X (Ax X) X X ?_
  intro w4 HS4
  try simp only [sc0,sc1]
  refine aB<|ay<|AT<|bP ?_
  obtain rfl:=Ab H
  exact Ay (bD X (kY X Ck (HS4.look 0 X) BE X)) X<|⟨h0,none,0,none,0,none,0,X,(Nat.le_refl 0),(Rd.nil _ _ _),(Nat.le_refl 0),(Rd.nil _ _ _),(Nat.le_refl 0),(Rd.nil _ _ _),HS4.gr,HS4.sees,HS4.toE⟩
 ·replace H:=cO H (nt c1)
  refine AN<|ay<|Al<|Ao<|rs (Value.agg #[vL bQ a0.au.length bT]) (aT (n:=1) (vs:=[vL bQ a0.au.length bT]) X AI (HS3.look 1 X) AD X X) ?_
  obtain ⟨v2,H2,H⟩:=bn H
  refine dF X X (iQ Dm X (jX (h:=h0) (R:=(fun hx u=>∃(iZ:Option Addr) (jG:Nat),u=vL iZ v2.length jG∧v2.length≤jG∧Rd Kd.str hx iZ v2)) (Ext.rfl' w3) ((dV.calls k a0 bQ bT HS3.sees fK iF H2).mono ?_)) X) ?_
  ·rintro _ _ ⟨h1,iZ,jG,rfl,qK,jK,g,ss,x⟩
   exact ⟨h1,_,X,⟨iZ,jG,X,qK,jK⟩,g,ss,x⟩
  rintro w5 _ hE4 ⟨h1,⟨iZ,jG,rfl,qK,jK⟩,gr1,se1⟩
  have HS5:=HS3.view hE4 gr1 se1
  refine rs (vL iZ v2.length jG) (aG X) ?_
  try simp only [sc0,sc1]
  refine aB<|ay<|Al<|Ao<|rs (vL iZ v2.length jG) (aO X) ?_
  obtain ⟨v3,H3,H⟩:=bn H
  refine dF X X (iQ Tryz.call31 X (jX (h:=h1) (R:=(fun hx u=>∃(fQ:Option Addr) (gY:Nat),u=vL fQ v3.length gY∧v3.length≤gY∧Rd Kd.str hx fQ v3)) (Ext.rfl' w5) ((dh.calls k v2 ([]:List ByteArray) iZ jG none 0 HS5.sees jK qK (Rd.nil _ _ _) (Nat.le_refl 0) H3).mono ?_)) X) ?_
  ·rintro _ _ ⟨h1,fQ,gY,rfl,nJ,iy,g,ss,x⟩
   exact ⟨h1,_,X,⟨fQ,gY,X,nJ,iy⟩,g,ss,x⟩
  rintro w6 _ hE5 ⟨h2,⟨fQ,gY,rfl,nJ,iy⟩,gr2,se2⟩
  have HS6:=HS5.view hE5 gr2 se2
  replace jK:Rd Kd.str h2 iZ v2:=jK.ext gr2.1
  refine rs (vL fQ v3.length gY) (aG X) ?_
  try simp only [sc0,sc1]
  refine aB<|ay<|Al<|Ao<|rs (vL iZ v2.length jG) (aO X)<|rs (vL fQ v3.length gY) (aO X) ?_
  obtain ⟨v4,H4,H⟩:=bn H
  refine dF X X (iQ Do X (jX (h:=h2) (R:=(fun hx u=>∃(jh:Option Addr) (jA:Nat),u=vL jh v4.length jA∧v4.length≤jA∧Rd (Kd.int .i64) hx jh v4)) (Ext.rfl' w6) ((dM.calls k v2 v3 iZ jG fQ gY HS6.sees jK qK iy nJ H4).mono ?_)) X) ?_
  ·rintro _ _ ⟨h1,jh,jA,rfl,vC,nM,g,ss,x⟩
   exact ⟨h1,_,X,⟨jh,jA,X,vC,nM⟩,g,ss,x⟩
  rintro w7 _ hE6 ⟨h3,⟨jh,jA,rfl,vC,nM⟩,gr3,se3⟩
  have HS7:=HS6.view hE6 gr3 se3
  replace jK:Rd Kd.str h3 iZ v2:=jK.ext gr3.1
  replace iy:Rd Kd.str h3 fQ v3:=iy.ext gr3.1
  refine rs (vL jh v4.length jA) (aG X) ?_
  try simp only [sc0,sc1]
  refine aB<|ay<|Al<|mg [([20,21,23,24,27],[0,1,3,4,7]),([],[3,4,7]),([26,28],[6,7,8]),([],[])] [2,5,9] [[],[0],[0,1],[],[],[0,1,2,3,4],[0,1,2,3,4,5],[],[0,1,2,3,4,5,6,7],[0,1,2,3,4,5,6,7,8]] rM (by kernel_rfl) ?_
  intro w8 hE7
  have HS8:=HS7.step hE7
  refine iR [vL fQ v3.length gY,vI (v3.length:Int),Value.agg #[vL bQ a0.au.length bT],vL jh v4.length jA,vL jh v4.length jA] ?_ X X ?_
  ·try simp only [patch,sc0,sc1]
   exact bF (bG (v:=vL fQ v3.length gY) X X X X (aO X)) (bF (bG (v:=vI (v3.length:Int)) X X X X (jD X A5)) (bF (bG (v:=Value.agg #[vL bQ a0.au.length bT]) X X X X (aT (n:=1) (vs:=[vL bQ a0.au.length bT]) X AI (HS8.look 1 X) AD X X)) (bF (bG (v:=vL jh v4.length jA) X X X X (aO X)) (bF (bG (v:=vL jh v4.length jA) X X X X (aO X)) (iH)))))
  try simp only [patch,sc0,sc1]
  obtain ⟨hk1,H⟩:=dN H
  refine run_mk bI ah (zs:=[vI 0,vS ByteArray.empty,vI 0,vB false,vI 0,vI 0,vL none 0 0]) X X hk1 AF B0 (by decide) X A9 X ⟨[vI 0],[vS ByteArray.empty,vI 0,vB false,vI 0,vI 0,vL none 0 0],X,X,⟨[vS ByteArray.empty],[vI 0,vB false,vI 0,vI 0,vL none 0 0],X,X,⟨[vI 0,vB false],[vI 0,vI 0,vL none 0 0],X,⟨[vI 0],[vB false],X,X,X⟩,⟨[vI 0],[vI 0,vL none 0 0],X,X,⟨[vI 0],[vL none 0 0],X,X,⟨none,0,X,(Nat.le_refl 0),(Rd.nil _ _ _)⟩⟩⟩⟩⟩⟩ HS8 ?_
  intro w9 b3 cs1 HS9 ho1
  refine lY ?_
  try simp only [sc0,sc1]
  refine iR [] ?_ X X ?_
  ·try simp only [patch,sc0,sc1]
   exact bF (bG (v:=Value.agg #[vL bQ a0.au.length bT]) X X X X (aT (n:=1) (vs:=[vL bQ a0.au.length bT]) X AI (HS9.look 2 X) AD X X)) (bF (bG (v:=vL jh v4.length jA) X X X X (aO X)) (bF (bG (v:=vL jh v4.length jA) X X X X (aO X)) (iH)))
  try simp only [patch,sc0,sc1]
  obtain ⟨v5,H5,H⟩:=bn H
  have ho2:=ho1.norm
  refine jJ (vs:=[vL (rowA (some b3)) ((List.replicate (v3.length:Int).toNat (ah:aZ)).length) ((v3.length:Int).toNat),Value.agg #[vL bQ a0.au.length bT],vL jh v4.length jA]) (caps:=[]) Dr X (VK (show _=vL (rowA (some b3)) ((List.replicate (v3.length:Int).toNat (ah:aZ)).length) ((v3.length:Int).toNat) from by first|rfl|(rw [ho1.len];done)|(rw [ho1.len];rfl)) X X) (dX.calls k (List.replicate (v3.length:Int).toNat (ah:aZ)) a0 v4 (some b3) ((v3.length:Int).toNat) cs1 (0,0) bQ bT jh jA HS9 ho2 PK (fK.ext HS9.sub) iF nM vC H5) ?_
  rintro _ w10 ⟨h4,oZ,sQ,IK,IL,rfl,NG,Fj,hs1,kF⟩
  refine ⟨_,X,?_⟩
  replace jK:Rd Kd.str h4 iZ v2:=jK.ext hs1
  replace iy:Rd Kd.str h4 fQ v3:=iy.ext hs1
  replace nM:Rd (Kd.int .i64) h4 jh v4:=nM.ext hs1
  refine lY ?_
  try simp only [sc0,sc1]
  refine iR [Value.agg #[vL (rowA oZ) v5.length sQ],Value.agg #[vL (rowA oZ) v5.length sQ,vL jh v4.length jA,vL none 0 0,vI 0]] ?_ X X ?_
  ·try simp only [patch,sc0,sc1]
   exact bF (bG (v:=Value.agg #[vL (rowA oZ) v5.length sQ]) X X X X (jy (cs:=[vL (rowA oZ) v5.length sQ]) (ps:=[(0,vL (rowA oZ) v5.length sQ)]) Bp AE (pl:=#[(0,1)]) (fun w=>by simp [Tryz.sizeOf22]) (pq (show _=vL (rowA oZ) v5.length sQ from X)) X)) (bF (bG (v:=vL jh v4.length jA) X X X X (aO X)) (bF (bG (v:=Value.agg #[vL (rowA oZ) v5.length sQ,vL jh v4.length jA,vL none 0 0,vI 0]) X X X X (jy (cs:=[vL (rowA oZ) v5.length sQ,vL jh v4.length jA,vL none 0 0,vI 0]) (ps:=[(0,Value.agg #[vL (rowA oZ) v5.length sQ]),(1,vL jh v4.length jA)]) BS Bw (pl:=#[(0,1),(1,1),(2,1),(3,1)]) (fun w=>by simp [Tryz.sizeOf24,Tryz.sizeOf27,Tryz.sizeOf28]) (qp (show _=Value.agg #[vL (rowA oZ) v5.length sQ] from X) (show _=vL jh v4.length jA from X)) X)) (iH)))
  try simp only [patch,sc0,sc1]
  refine gJ (i:=1) (cs:=[vL none 0 0,vL none 0 0,vL none 0 0,vI 0]) (cs':=[vL (rowA oZ) v5.length sQ,vL jh v4.length jA,vL none 0 0,vI 0]) (vs:=[vL (rowA oZ) v5.length sQ,vL jh v4.length jA,vL none 0 0,vI 0]) (bs':=[(oZ, .cells (IK).toArray 58 IL),(some b2, .cells #[vL (rowA oZ) v5.length sQ,vL jh v4.length jA,vL none 0 0,vI 0] 35 (0,0)),(some b1, .cells #[vL bQ a0.au.length bT] 24 (0,0))]) X X BE X X (by decide) X kF X (Ax X) X X ?_
  intro w11 oC
  refine lY ?_
  try simp only [sc0,sc1]
  refine nU [] ?_ ?_
  ·try simp only [patch,sc0,sc1]
   exact iH
  try simp only [patch,sc0,sc1]
  refine ay<|AT ?_
  obtain rfl:=Ab H
  refine Ay (bD X (kY X Ck (oC.look 1 X) BE X)) X ?_
  obtain ⟨h5,mW,hs2,oV⟩:=lC oC (i:=0) rfl Fj
  replace jK:Rd Kd.str h5 iZ v2:=jK.ext hs2
  replace iy:Rd Kd.str h5 fQ v3:=iy.ext hs2
  replace nM:Rd (Kd.int .i64) h5 jh v4:=nM.ext hs2
  exact ⟨h5,(rowA oZ),sQ,jh,jA,none,0,X,Fj.cap,oV,vC,nM,(Nat.le_refl 0),(Rd.nil _ _ _),mW.gr,mW.sees,mW.toE⟩
def dW.l0 (a0:aQ) (a1:ByteArray):Nat→Int→Option ((Int)⊕(Unit))
 |0,_=>none
 |m+1,aC=>if (decide (aC<(a0.au.length:Int)))=true then (if 0≤aC∧aC<a0.au.length then ((dZ.f (rd ah a0.au aC)).bind fun v1=>(if (true&&(v1==true))=true→(0≤aC∧aC<a0.au.length) then (if (v1&&(strEq ((rd ah a0.au aC).aF) a1))=true then (some (.inl aC)) else (dW.l0 a0 a1 m (IntKind.wrap .i64 (aC+1)))) else none)) else none) else (some (.inr ()))
def dW.f (k:Nat) (a0:aQ) (a1:ByteArray):Option (Int):=(dW.l0 a0 a1 k 0).bind fun xx1=>(match xx1 with| .inl r=>some r| .inr s1=>some (-1))
theorem dW.calls (k:Nat) (a0:aQ) (a1:ByteArray) (bQ:Option Addr) (bT:Nat) {h0:View} {w0:World} (hv:lS h0 w0) (fK:Rd bI h0 bQ a0.au) (iF:a0.au.length≤bT) {r:Int} (H:dW.f k a0 a1=some r):Calls Tryz.prog 35 #[Value.agg #[vL bQ a0.au.length bT],vS a1] w0 (fun e w1=>e= .returned (vI r)∧Ext w0 w1):=by
 unfold dW.f at H
 have HS:St [] h0 w0 h0 [] w0:=St.init hv
 go_enter Tryz.func35,Tryz.ntmps35
 refine Al<|Ao<|dF X X (eF (cs:=#[vL bQ a0.au.length bT]) X X) ?_
 rintro w1 _ hE1 ⟨b1,rfl,ge1,hb1⟩
 have HS1:=HS.new hE1 ge1 hb1
 refine rs (vI 0) (aG X) ?_
 try simp only [sc0,sc1]
 refine aB<|ay<|Al<|Al<|Ao<|rs (vI 0) (aG X) ?_
 try simp only [sc0,sc1]
 refine aB<|ay ?_
 obtain ⟨xx1,H,G1⟩:=bn H
 refine jB [4,5,6,7,8,9,10,11,12,13,14,15,16,17,18,19,20,21,22,23,24,25,26,27,28,29] (fun m us w'=>∃(aC:Int),Fit us (fun uy1=>[(uy1 0),vI aC,(uy1 2),(uy1 3),(uy1 4),(uy1 5),(uy1 6),(uy1 7),(uy1 8),(uy1 9),(uy1 10),(uy1 11),(uy1 12),(uy1 13),(uy1 14),(uy1 15),(uy1 16),(uy1 17),(uy1 18),(uy1 19),(uy1 20),(uy1 21),(uy1 22),(uy1 23),(uy1 24),(uy1 25)])∧dW.l0 a0 a1 m aC=some xx1∧St [] h0 w0 h0 [(some b1, .cells #[vL bQ a0.au.length bT] 24 (0,0))] w') (fun us w'=>∃(s1:Unit),xx1= .inr s1∧Fit us (fun uo1=>[(uo1 0),(uo1 1),(uo1 2),(uo1 3),(uo1 4),(uo1 5),(uo1 6),(uo1 7),(uo1 8),(uo1 9),(uo1 10),(uo1 11),(uo1 12),(uo1 13),(uo1 14),(uo1 15),(uo1 16),(uo1 17),(uo1 18),(uo1 19),(uo1 20),(uo1 21),(uo1 22),(uo1 23),(uo1 24),(uo1 25)])∧St [] h0 w0 h0 [(some b1, .cells #[vL bQ a0.au.length bT] 24 (0,0))] w') k ⟨0,(fit X),H,HS1⟩ ?_ ?_
 ·rintro m us w2 ⟨aC,nO,H,HS2⟩
  obtain ⟨uy1,rfl⟩:=unj nO
  cases m with
  |zero=>exact absurd H (by simp [dW.l0])
  |succ m=>
   rw [dW.l0] at H
   try simp only [patch,sc0,sc1]
   refine Al<|Al<|Ao<|rs (vI aC) (aO X)<|rs (vP b1 0) (aH (n:=1) (o':=0) X AE X AM (by decide) X)<|rs (vL bQ a0.au.length bT) (aN X AR (HS2.look 0 X) X)<|rs (vI (a0.au.length:Int)) (jD X AF)<|aK (by simp only [sc0,sc1];rfl) ?_
   refine rs (vB (decide (aC<(a0.au.length:Int)))) (bW X X X) ?_
   try simp only [sc0,sc1]
   refine aB<|ay<|Av (t:=(decide (aC<(a0.au.length:Int)))) X (fun c1=>?_) (fun c1=>?_)
   ·replace H:=bU H c1
    refine AN<|ay<|Al<|wp_block<|Al<|Ao<|rs (vP b1 0) (aH (n:=1) (o':=0) X AE X AM (by decide) X)<|rs (vL bQ a0.au.length bT) (aN X AR (HS2.look 0 X) X)<|rs (vI aC) (aO X) ?_
    obtain ⟨hi1,H⟩:=dN H
    obtain ⟨ad1,dU,dY,e1,mJ,jS,iY⟩:=gK fK hi1.1 hi1.2
    refine rs (Value.pointer (some (Addr.add ad1 (aC.toNat*7)))) (dP (sz:=7) X e1 X hi1.1 hi1.2 AF AH)<|aK (by simp only [sc0,sc1];rfl) ?_
    refine rs (Value.agg #[vI ((rd ah a0.au aC).aA),vS ((rd ah a0.au aC).aF),vI ((rd ah a0.au aC).aY.aU),vB ((rd ah a0.au aC).aY.aJ),vI ((rd ah a0.au aC).bY),vI ((rd ah a0.au aC).vN),vL dU ((rd ah a0.au aC).ak).length dY]) (gG X A7 (mJ.sees HS2.sees) AH) ?_
    obtain ⟨v1,H1,H⟩:=bn H
    refine run_eq (v:=vB v1) X X (bC Cv X X (dZ.calls (rd ah a0.au aC) dU dY HS2.sees iY jS H1)) ?_
    intro w3 hE2
    have HS3:=HS2.step hE2
    refine rs (vB v1) (aO X)<|rgs v1 true (vP b1 0) X X X X (fun hg=>(aH (n:=1) (o':=0) X AE X AM (by decide) X))<|aK (by simp only [sc0,sc1];rfl) ?_
    refine rgs v1 true (vL bQ a0.au.length bT) X X X X (fun hg=>(aN (gvt (vP b1 0) hg X) AR (HS3.look 0 X) X))<|rgs v1 true (vI aC) X X X X (fun hg=>(aO X)) ?_
    obtain ⟨hi2,H⟩:=dN H
    obtain ⟨ad2,mO,mX,hq1⟩:=gx3 (fun hC:(true&&(v1==true))=true=>gK fK (hi2 hC).1 (hi2 hC).2)
    refine rgs v1 true (Value.pointer (some (Addr.add ad2 (aC.toNat*7)))) X X X X (fun hg=>(dP (sz:=7) (gvt (vL bQ a0.au.length bT) hg X) (hq1 hg).1 (gvt (vI aC) hg X) (hi2 hg).1 (hi2 hg).2 AF AH))<|rgs v1 true (Value.pointer (some (Addr.add (Addr.add ad2 (aC.toNat*7)) 1))) X X X X (fun hg=>(nX (n:=1) (o':=1) (gvt (Value.pointer (some (Addr.add ad2 (aC.toNat*7)))) hg X) An X AW (by decide) X))<|aK (by simp only [sc0,sc1];rfl) ?_
    refine rgs v1 true (vS ((rd ah a0.au aC).aF)) X X X X (fun hg=>(kE (gvt (Value.pointer (some (Addr.add (Addr.add ad2 (aC.toNat*7)) 1))) hg X) Be (((hq1 hg).2.1).cell HS3.sees 1 X)))<|rgs v1 true (vS a1) X X X X (fun hg=>(aO X))<|rgs v1 true (vB (strEq ((rd ah a0.au aC).aF) a1)) X X X X (fun hg=>(sG (gvt (vS ((rd ah a0.au aC).aF)) hg X) (gvt (vS a1) hg X)))<|rs (vB (v1&&(strEq ((rd ah a0.au aC).aF) a1))) (dL X (fun hp=>(gvt (vB (strEq ((rd ah a0.au aC).aF) a1)) (gQ X hp) X)) X) ?_
    try simp only [sc0,sc1]
    refine aB<|ay<|Av (t:=(v1&&(strEq ((rd ah a0.au aC).aF) a1))) X (fun c2=>?_) (fun c2=>?_)
    ·replace H:=bU H c2
     refine Al<|Ao<|rs (vI aC) (aO X)<|rs (vI aC) (aG X) ?_
     try simp only [sc0,sc1]
     refine aB<|ay<|AT<|fA<|bP<|jm<|bP ?_
     obtain rfl:=Ab H
     obtain rfl:=Ab G1
     exact Ay (bD X (bK X)) X<|⟨X,HS3.toE⟩
    ·replace H:=cO H (nt c2)
     refine AN<|dD<|ay<|Ao<|rs (vI aC) (aO X)<|rs (vI (w64 (aC+1))) (bW X X X)<|rs (vI (w64 (aC+1))) (aG X) ?_
     try simp only [sc0,sc1]
     refine aB<|gI m (Nat.lt_succ_self m) X ⟨(w64 (aC+1)),(fit X),H,HS3⟩
   ·replace H:=cO H (nt c1)
    refine Bx<|eU ?_
    obtain rfl:=Ab H
    refine iK X ⟨_,X,(fit X),HS2⟩
 ·rintro us w4 ⟨s1,rfl,nP,HS4⟩
  obtain ⟨uo1,rfl⟩:=unj nP
  replace H:=G1
  clear G1
  try simp only [patch,sc0,sc1]
  refine ay<|Al<|Ao<|rs (vI (-1)) (aG X) ?_
  try simp only [sc0,sc1]
  refine aB<|ay<|AT ?_
  obtain rfl:=Ab H
  exact Ay (bD X (bK X)) X<|⟨X,HS4.toE⟩
end Go.Proofs.YtfjppgobidjndaaGreatDoor
/-taplineref08.Reach:a list that is cut at its front and appended to. -/
namespace Go.Proofs.YtfjppgobidjndaaGreatDoor
open Go.RowKit Go.M
/-- a row of numbers of one's own, that may begin within its block -/
def Ey (h:View) (xs:List Int) (A:Option Addr) (ob:Option Nat) (c:Nat) (cs:List Value):Prop:=∃pre body,cs=pre++body∧Wh A ob pre.length c∧gU (Kd.int .i64) h xs ob xs.length c body
theorem Ey.cap {h:View} {xs:List Int} {A:Option Addr} {ob:Option Nat} {c:Nat} {cs:List Value} (ho:Ey h xs A ob c cs):xs.length≤c:=by
 obtain ⟨pre,body,_,_,h⟩:=ho;exact h.le
theorem Ey.view {h h':View} {xs:List Int} {A:Option Addr} {ob:Option Nat} {c:Nat} {cs:List Value} (ho:Ey h xs A ob c cs) (hs:Sub h h'):Ey h' xs A ob c cs:=by
 obtain ⟨pre,body,h1,h2,h3⟩:=ho;exact ⟨pre,body,h1,h2,h3.view hs⟩
theorem Ey.of {h:View} {xs:List Int} {ob:Option Nat} {n c:Nat} {cs:List Value} (ho:gU (Kd.int .i64) h xs ob n c cs):Ey h xs (rowA ob) ob c cs:=by
 refine ⟨[],cs,X,?_,ho.norm⟩
 cases ob with
 |none=>exact .inl (ho.nil rfl)
 |some b=>exact .inr ⟨b,rfl,rfl⟩
theorem Ey.at0 {h:View} {xs:List Int} {A:Option Addr} {ob:Option Nat} {c:Nat} {cs:List Value} (ho:Ey h xs A ob c cs) (h1:0<xs.length):∃b o,A=some ⟨b,o,none⟩∧ob=some b∧cs[o]?=some (.int .i64 (rd 0 xs 0)):=by
 obtain ⟨pre,body,rfl,h2|⟨b,rfl,rfl⟩,h3⟩:=ho
 ·have:=h3.le;omega
 ·refine ⟨b,pre.length,X,X,?_⟩
  obtain ⟨_,_,_,rfl,hp⟩:=h3.at 0 (i:=0) (by omega) (by omega)
  have:=hp 0 _ X
  rw [List.getElem?_append_right (by omega),Nat.sub_self]
  exact this
theorem Ey.cut {h:View} {xs:List Int} {A:Option Addr} {ob:Option Nat} {c:Nat} {cs:List Value} (ho:Ey h xs A ob c cs) (h1:0<xs.length):Ey h (xs.drop 1) (BH A c 1 1) ob (c-1) cs:=by
 obtain ⟨pre,body,rfl,h2,h3⟩:=ho
 have hle:=h3.le
 have hsz:body.length=c:=h3.size.trans (Nat.mul_one c)
 obtain ⟨v,body,rfl⟩:∃v b,body=v::b:=by
  cases body with
  |nil=>simp at hsz;omega
  |cons v b=>exact ⟨v,b,rfl⟩
 refine ⟨pre++[v],body,by simp,?_,?_⟩
 ·by_cases hc:c=1
  ·exact .inl (by omega)
  ·rcases h2 with h2|⟨b,rfl,rfl⟩
   ·omega
   ·refine .inr ⟨b,X,?_⟩
    unfold BH
    rw [if_neg hc]
    simp [Addr.add]
 ·refine ⟨X,by rw [List.length_drop];omega,?_,fun hn=>?_,by have:=h3.small;rw [List.length_drop];omega,fun i x hx=>?_⟩
  ·simp only [List.length_cons] at hsz
   show body.length=(c-1)*1
   omega
  ·have:=h3.nil hn;omega
  ·rw [List.getElem?_drop] at hx
   obtain ⟨ps,hK,hp⟩:=h3.elem (1+i) x hx
   refine ⟨ps,hK,fun j u hj=>?_⟩
   have:=hp j u hj
   have e:(1+i)*(Kd.int .i64).sz+j=(i*(Kd.int .i64).sz+j)+1:=by
    show (1+i)*1+j=(i*1+j)+1
    omega
   rw [e,List.getElem?_cons_succ] at this
   exact this
section
variable {P:Program} {ops:Array Oper} {Q:Exit→Act→World→Prop} {l:List Value} {df:List Deferred} {w:World} {os:List Oper} {M:List Nat} {h0 h:View} {w0:World} {bs:List Res} {dst:Tmp} {ty:TypeId} {pos:String} {after:Array Edge}
theorem JF {t tx e:TypeId} {x y:Operand} {A:Option Addr} {ob:Option Nat} {c m q:Nat} {xs ys:List Int} {cs news:List Value} {yv zv:Value} {i:TypeInfo}
  (hx:ev l x= .slice A xs.length c) (hy:ev l y=yv) (hu:∀w,(underlying t).run P w= .ok (.slice e) w) (hi:∀w,(typeInfo e).run P w= .ok i w) (hz:∀w,(zeroValue e).run P w= .ok zv w)
  (hsz:i.size=1) (hby:i.bytes≤4096) (hzl:zv.cells.size=1) (hs:Src P 1 tx yv m news w) (hm:ys.length=m)
  (hyK:∀(i:Nat) z,ys[i]?=some z→∃qs,(Kd.int .i64).K h z qs∧∀j v,qs[j]?=some v→news[i*1+j]?=some v) (hm1:0<m) (hlim:xs.length+m≤4294967296) (HS:St M h0 w0 h bs w)
  (hq:bs[q]?=some (ob, .cells cs.toArray e (0,0))) (ho:Ey h xs A ob c cs)
  (kk:∀w' A' ob' c' cs',St M h0 w0 h (bs.set q (ob', .cells cs'.toArray e (0,0))) w'→Ey h (xs++ys) A' ob' c' cs'→run P ops Q df os (l.set dst (.slice A' (xs++ys).length c')) w'):
  run P ops Q df (⟨some dst, .call {callee:= .builtin .append,args:=#[x,y],argTypes:=#[t,tx]},ty,pos,after,none⟩::os) l w:=by
 obtain ⟨pre,body,rfl,h2,h3⟩:=ho
 refine Qb (Kd.int .i64) hx h2 hy hu hi hz hsz hby hzl hs hm hyK hm1 hlim HS hq h3 ?_
 intro w' A' ob' pre' c' cs' hA' HS' ho'
 have:=kk w' A' ob' c' (pre'++cs') HS' ⟨pre',cs',X,hA',ho'.norm⟩
 rw [List.length_append,hm] at this
 exact this
theorem Qi {ρ:Operand→Value} {dst:Option Tmp} {guard:Option (Nat×Bool)} {t e:TypeId} {x i:Operand} {A:Option Addr} {b o n c sz:Nat} {k:IntKind} (hx:ρ x= .slice A n c) (hA:A=some ⟨b,o,none⟩) (hi:ρ i= .int k 0) (h1:0<n)
  (hu:∀w,(underlying t).run P w= .ok (.slice e) w) (hs:∀w,(sizeOf e).run P w= .ok sz w):
  (execOp ρ ⟨dst, .indexAddr t x i,ty,pos,after,guard⟩).run P w= .ok (.value (.pointer (some ⟨b,o,none⟩))) w:=by
 subst hA
 have:=Ie (P:=P) (w:=w) (dst:=dst) (ty:=ty) (pos:=pos) (after:=after) (guard:=guard) (a:=⟨b,o,none⟩) hx hi (Int.le_refl 0) (by omega) hu hs
 simpa [Addr.add] using this
end
set_option maxRecDepth 20000
set_option maxHeartbeats 4000000
def bZ.l1 (a0:aQ) (aC:List Int):Nat→Int→(List Int)→Option ((List Int))
 |0,_,_=>none
 |m+1,jQ,lJ=>if ((decide (jQ<(((rd ah a0.au (rd 0 aC 0)).ak).length:Int)))&&((rd ah a0.au (rd 0 aC 0)).aA==4))=true then (if 0≤jQ∧jQ<((rd ah a0.au (rd 0 aC 0)).ak).length then (if lJ.length+1≤4294967296 then (bZ.l1 a0 aC m (IntKind.wrap .i64 (jQ+1)) (lJ++([(rd aj ((rd ah a0.au (rd 0 aC 0)).ak) jQ).vType]:List Int))) else none) else none) else (some lJ)
def bZ.l0 (k:Nat) (a0:aQ):Nat→(List Int)→(List Bool)→Option ((List Int)×(List Bool))
 |0,_,_=>none
 |m+1,aC,dG=>if (decide (((aC.length:Nat):Int)>0))=true then (if 0≤0∧0<((aC.length:Nat):Int) then (if 0≤(rd 0 aC 0)∧(rd 0 aC 0)<(((a0.au.length:Int).toNat:Nat):Int) then (if (rd false dG (rd 0 aC 0))=true then (bZ.l0 k a0 m (aC.drop 1) dG) else (if 0≤(rd 0 aC 0)∧(rd 0 aC 0)<(((a0.au.length:Int).toNat:Nat):Int) then (if 0≤(rd 0 aC 0)∧(rd 0 aC 0)<a0.au.length then (((if ((((rd ah a0.au (rd 0 aC 0)).aA==2)||((rd ah a0.au (rd 0 aC 0)).aA==3))||((rd ah a0.au (rd 0 aC 0)).aA==6))=true then (if (aC.drop 1).length+1≤4294967296 then (some ((aC.drop 1)++([(rd ah a0.au (rd 0 aC 0)).bY]:List Int))) else none) else (some (aC.drop 1))):Option ((List Int))).bind fun xx2=>((bZ.l1 a0 aC k 0 xx2).bind fun xx3=>(bZ.l0 k a0 m xx3 (List.set dG (rd 0 aC 0).toNat true)))) else none) else none)) else none) else none) else (some (aC,dG))
def bZ.f (k:Nat) (a0:aQ) (a1:List Int):Option ((List Bool)):=if 0≤(a0.au.length:Int)∧(a0.au.length:Int)≤4294967296 then (if 0+a1.length≤4294967296 then ((bZ.l0 k a0 k (([]:List Int)++a1) (List.replicate (a0.au.length:Int).toNat (false:Bool))).bind fun xx1=>(some xx1.2)) else none) else none
theorem bZ.calls (k:Nat) (a0:aQ) (a1:List Int) (bQ:Option Addr) (bT:Nat) (iM:Option Addr) (iO:Nat) {h0:View} {w0:World} (hv:lS h0 w0) (fK:Rd bI h0 bQ a0.au) (iF:a0.au.length≤bT) (kX:Rd (Kd.int .i64) h0 iM a1) (pK:a1.length≤iO) {r:(List Bool)} (H:bZ.f k a0 a1=some r):Calls Tryz.prog 37 #[Value.agg #[vL bQ a0.au.length bT],vL iM a1.length iO] w0 (fun e w1=>∃(h1:View) (bQ:Option Addr) (bT:Nat),e= .returned (vL bQ r.length bT)∧r.length≤bT∧Rd Kd.bool h1 bQ r∧Gr w0.heap.size h0 h1∧lS h1 w1∧Ext w0 w1):=by
 unfold bZ.f at H
 have HS:St [] h0 w0 h0 [] w0:=St.init hv
 go_enter Tryz.func37,Tryz.ntmps37
 refine Al<|Ao<|dF X X (eF (cs:=#[vL bQ a0.au.length bT]) X X) ?_
 rintro w1 _ hE1 ⟨b1,rfl,ge1,hb1⟩
 have HS1:=HS.new hE1 ge1 hb1
 refine rs (vL none 0 0) (aG X) ?_
 try simp only [sc0,sc1]
 refine aB<|ay<|Al<|Ao<|rs (vP b1 0) (aH (n:=1) (o':=0) X AE X AM (by decide) X)<|rs (vL bQ a0.au.length bT) (aN X AR (HS1.look 0 X) X)<|rs (vI (a0.au.length:Int)) (jD X AF) ?_
 obtain ⟨hk1,H⟩:=dN H
 refine run_mk Kd.bool false (zs:=[vB false]) X X hk1 BT Tryz.typeInfo4 (by decide) X B_ X X HS1 ?_
 intro w2 b2 cs1 HS2 ho1
 refine aK (by simp only [sc0,sc1];rfl) ?_
 refine rs (vL (rowA (some b2)) ((a0.au.length:Int).toNat) ((a0.au.length:Int).toNat)) (aG X) ?_
 try simp only [sc0,sc1]
 refine aB<|ay<|Al<|Ao<|Ik (Kd.int .i64) AG Br HS2 ?_
 intro w3 b3 HS3 ho2
 refine rs (vL iM a1.length iO) (aO X) ?_
 obtain ⟨nw1,sr1,hn1⟩:=MJ (c:=iO) zi AG HS3.sees kX
 obtain ⟨hl1,H⟩:=dN H
 refine oD (Kd.int .i64) (q:=0) (cs:=([]:List Value)) X X AG Br Bb X (by decide) X sr1 X hn1 hl1 HS3 X ho2 ?_
 intro w4 ob1 c1 cs2 HS4 ho3
 refine rs (vL (rowA ob1) (0+a1.length) c1) (aG X) ?_
 try simp only [sc0,sc1]
 refine aB<|ay<|Al ?_
 obtain ⟨xx1,H,G1⟩:=bn H
 refine jB [6,7,8,9,17,18,19,20,21,22,23,24,25,26,27,28,29,30,31,32,33,34,35,36,37,38,39,40,41,42,43,44,45,46,47,48,49,50,51,52,53,54,55,56,57,58,59,60,61,62,63,64,65,66,67,68,69,70,71,72,73,74,75] (fun m us w'=>∃aC:List Int,∃dG:List Bool,∃(BL:Option Addr) (Dz:Option Nat) (yB:Nat),∃zZ eH:List Value,Fit us (fun uy1=>[vL BL aC.length yB,(uy1 1),(uy1 2),(uy1 3),(uy1 4),(uy1 5),(uy1 6),(uy1 7),(uy1 8),(uy1 9),(uy1 10),(uy1 11),(uy1 12),(uy1 13),(uy1 14),(uy1 15),(uy1 16),(uy1 17),(uy1 18),(uy1 19),(uy1 20),(uy1 21),(uy1 22),(uy1 23),(uy1 24),(uy1 25),(uy1 26),(uy1 27),(uy1 28),(uy1 29),(uy1 30),(uy1 31),(uy1 32),(uy1 33),(uy1 34),(uy1 35),(uy1 36),(uy1 37),(uy1 38),(uy1 39),(uy1 40),(uy1 41),(uy1 42),(uy1 43),(uy1 44),(uy1 45),(uy1 46),(uy1 47),(uy1 48),(uy1 49),(uy1 50),(uy1 51),(uy1 52),(uy1 53),(uy1 54),(uy1 55),(uy1 56),(uy1 57),(uy1 58),(uy1 59),(uy1 60),(uy1 61),(uy1 62)])∧bZ.l0 k a0 m aC dG=some xx1∧Ey h0 aC BL Dz yB zZ∧gU Kd.bool h0 dG (some b2) ((a0.au.length:Int).toNat) ((a0.au.length:Int).toNat) eH∧St [] h0 w0 h0 [(Dz, .cells (zZ).toArray 3 (0,0)),((some b2), .cells (eH).toArray 4 (0,0)),(some b1, .cells #[vL bQ a0.au.length bT] 24 (0,0))] w') (fun us w'=>∃(Vj:Option Addr) (jZ:Option Nat) (pO:Nat),∃uz Oa:List Value,Fit us (fun uo2=>[(uo2 0),(uo2 1),(uo2 2),(uo2 3),(uo2 4),(uo2 5),(uo2 6),(uo2 7),(uo2 8),(uo2 9),(uo2 10),(uo2 11),(uo2 12),(uo2 13),(uo2 14),(uo2 15),(uo2 16),(uo2 17),(uo2 18),(uo2 19),(uo2 20),(uo2 21),(uo2 22),(uo2 23),(uo2 24),(uo2 25),(uo2 26),(uo2 27),(uo2 28),(uo2 29),(uo2 30),(uo2 31),(uo2 32),(uo2 33),(uo2 34),(uo2 35),(uo2 36),(uo2 37),(uo2 38),(uo2 39),(uo2 40),(uo2 41),(uo2 42),(uo2 43),(uo2 44),(uo2 45),(uo2 46),(uo2 47),(uo2 48),(uo2 49),(uo2 50),(uo2 51),(uo2 52),(uo2 53),(uo2 54),(uo2 55),(uo2 56),(uo2 57),(uo2 58),(uo2 59),(uo2 60),(uo2 61),(uo2 62)])∧Ey h0 xx1.1 Vj jZ pO uz∧gU Kd.bool h0 xx1.2 (some b2) ((a0.au.length:Int).toNat) ((a0.au.length:Int).toNat) Oa∧St [] h0 w0 h0 [(jZ, .cells (uz).toArray 3 (0,0)),((some b2), .cells (Oa).toArray 4 (0,0)),(some b1, .cells #[vL bQ a0.au.length bT] 24 (0,0))] w') k ⟨(([]:List Int)++a1),(List.replicate (a0.au.length:Int).toNat (false:Bool)),(rowA ob1),ob1,c1,cs2,cs1,(fit (by first|rfl|(rw [ho3.len];done)|(rw [ho3.len];rfl))),H,Ey.of ho3,ho1,HS4⟩ ?_ ?_
 ·rintro m us w5 ⟨aC,dG,BL,Dz,yB,zZ,eH,nO,H,JG,iE,HS5⟩
  obtain ⟨uy1,rfl⟩:=unj nO
  cases m with
  |zero=>exact absurd H (by simp [bZ.l0])
  |succ m=>
   rw [bZ.l0] at H
   try simp only [patch,sc0,sc1]
   refine Al<|Al<|Ao<|rs (vL BL aC.length yB) (aO X)<|rs (vI ((aC.length:Nat):Int)) (jD X AG)<|rs (vB (decide (((aC.length:Nat):Int)>0))) (bW X X X) ?_
   try simp only [sc0,sc1]
   refine aB<|ay<|Av (t:=(decide (((aC.length:Nat):Int)>0))) X (fun c2=>?_) (fun c2=>?_)
   ·replace H:=bU H c2
    refine AN<|ay<|wp_block<|Al<|Ao<|rs (vL BL aC.length yB) (aO X) ?_
    obtain ⟨hi1,H⟩:=dN H
    have hpos:0<aC.length:=by omega
    obtain ⟨rb1,ro1,hA1,Hz,hp1⟩:=JG.at0 hpos
    refine rs (vP rb1 ro1) (Qi X hA1 X hpos AG As)<|rs (vI (rd 0 aC 0)) (aN (cs:=zZ) X AC (HS5.ES 0 X Hz) hp1)<|rs (vI (rd 0 aC 0)) (aG X) ?_
    try simp only [sc0,sc1]
    refine aB<|ay<|Al<|Ao<|rs (vL BL aC.length yB) (aO X)<|rs (vL (BH BL yB 1 1) (aC.drop 1).length (yB-1)) (PN (sz:=1) (lo:=1) (xs:=aC) X JG.cap AG As X (by omega)) ?_
    have hcut:=JG.cut hpos
    refine rs (vL (BH BL yB 1 1) (aC.drop 1).length (yB-1)) (aG X) ?_
    try simp only [sc0,sc1]
    refine aB<|ay<|Al<|Al<|Ao<|rs (vL (rowA (some b2)) ((a0.au.length:Int).toNat) ((a0.au.length:Int).toNat)) (aO X)<|rs (vI (rd 0 aC 0)) (aO X) ?_
    obtain ⟨hi2,H⟩:=dN H
    obtain ⟨rb2,_,Jr,rfl,hp2⟩:=iE.at false hi2.1 hi2.2
    refine rs (Value.pointer (some ⟨rb2,(rd 0 aC 0).toNat*1+0,none⟩)) (lX (sz:=1) X Jr X hi2.1 hi2.2 BT Bi)<|rs (vB (rd false dG (rd 0 aC 0))) (aN (cs:=eH) X By (HS5.ES 1 X Jr) (hp2 0 _ X)) ?_
    try simp only [sc0,sc1]
    refine aB<|ay<|Av (t:=(rd false dG (rd 0 aC 0))) X (fun c3=>?_) (fun c3=>?_)
    ·replace H:=bU H c3
     refine Bx<|eU<|yH<|gI m (Nat.lt_succ_self m) X ⟨(aC.drop 1),dG,(BH BL yB 1 1),Dz,(yB-1),zZ,eH,(fit X),H,hcut,iE,HS5⟩
    ·replace H:=cO H (nt c3)
     refine AN<|ay<|Al<|Ao<|rs (vL (rowA (some b2)) ((a0.au.length:Int).toNat) ((a0.au.length:Int).toNat)) (aO X)<|rs (vI (rd 0 aC 0)) (aO X) ?_
     obtain ⟨hi3,H⟩:=dN H
     obtain ⟨rb3,_,UG,rfl,hp3⟩:=iE.at false hi3.1 hi3.2
     refine rs (Value.pointer (some ⟨rb3,(rd 0 aC 0).toNat*1+0,none⟩)) (lX (sz:=1) X UG X hi3.1 hi3.2 BT Bi)<|CV (i:=1) (cs:=eH) (v:=vB true) UG X X Bi X X HS5 X (iE.inb hi3.1 hi3.2 (m:=1) (by decide)) ?_
     intro w6 HS6
     have ho4:=iE.set (o:=0) (v:=vB true) (x':=true) hi3.1 hi3.2 hp3 X (Ax X)
     try simp only [sc0,sc1]
     refine aB<|ay<|Al<|Ao<|rs (vP b1 0) (aH (n:=1) (o':=0) X AE X AM (by decide) X)<|rs (vL bQ a0.au.length bT) (aN X AR (HS6.look 2 X) X)<|rs (vI (rd 0 aC 0)) (aO X) ?_
     obtain ⟨hi4,H⟩:=dN H
     obtain ⟨ad1,dU,dY,e1,mJ,jS,iY⟩:=gK fK hi4.1 hi4.2
     refine rs (Value.pointer (some (Addr.add ad1 ((rd 0 aC 0).toNat*7)))) (dP (sz:=7) X e1 X hi4.1 hi4.2 AF AH)<|aK (by simp only [sc0,sc1];rfl) ?_
     refine rs (Value.agg #[vI ((rd ah a0.au (rd 0 aC 0)).aA),vS ((rd ah a0.au (rd 0 aC 0)).aF),vI ((rd ah a0.au (rd 0 aC 0)).aY.aU),vB ((rd ah a0.au (rd 0 aC 0)).aY.aJ),vI ((rd ah a0.au (rd 0 aC 0)).bY),vI ((rd ah a0.au (rd 0 aC 0)).vN),vL dU ((rd ah a0.au (rd 0 aC 0)).ak).length dY]) (gG X A7 (mJ.sees HS6.sees) AH)<|dF X X (dO (cs:=#[vI 0,vS ByteArray.empty,vI 0,vB false,vI 0,vI 0,vL none 0 0]) A9 X) ?_
     rintro w7 _ hE2 ⟨b4,rfl,ge2,hb2⟩
     have HS7:=HS6.new hE2 ge2 hb2
     refine gJ (i:=0) (cs:=[vI 0,vS ByteArray.empty,vI 0,vB false,vI 0,vI 0,vL none 0 0]) (cs':=[vI ((rd ah a0.au (rd 0 aC 0)).aA),vS ((rd ah a0.au (rd 0 aC 0)).aF),vI ((rd ah a0.au (rd 0 aC 0)).aY.aU),vB ((rd ah a0.au (rd 0 aC 0)).aY.aJ),vI ((rd ah a0.au (rd 0 aC 0)).bY),vI ((rd ah a0.au (rd 0 aC 0)).vN),vL dU ((rd ah a0.au (rd 0 aC 0)).ak).length dY]) (vs:=[vI ((rd ah a0.au (rd 0 aC 0)).aA),vS ((rd ah a0.au (rd 0 aC 0)).aF),vI ((rd ah a0.au (rd 0 aC 0)).aY.aU),vB ((rd ah a0.au (rd 0 aC 0)).aY.aJ),vI ((rd ah a0.au (rd 0 aC 0)).bY),vI ((rd ah a0.au (rd 0 aC 0)).vN),vL dU ((rd ah a0.au (rd 0 aC 0)).ak).length dY]) (bs':=[(some b4, .cells #[vI ((rd ah a0.au (rd 0 aC 0)).aA),vS ((rd ah a0.au (rd 0 aC 0)).aF),vI ((rd ah a0.au (rd 0 aC 0)).aY.aU),vB ((rd ah a0.au (rd 0 aC 0)).aY.aJ),vI ((rd ah a0.au (rd 0 aC 0)).bY),vI ((rd ah a0.au (rd 0 aC 0)).vN),vL dU ((rd ah a0.au (rd 0 aC 0)).ak).length dY] 58 (0,0)),(Dz, .cells (zZ).toArray 3 (0,0)),((some b2), .cells ((List.set eH ((rd 0 aC 0).toNat*1+0) (vB true))).toArray 4 (0,0)),(some b1, .cells #[vL bQ a0.au.length bT] 24 (0,0))]) X X AH X X (by decide) X HS7 X (Ax X) X X ?_
     intro w8 HS8
     try simp only [sc0,sc1]
     refine aB<|ay<|Al<|Al<|Ao<|rs (vP b4 0) (aH (n:=1) (o':=0) X An X As (by decide) X)<|rs (vI ((rd ah a0.au (rd 0 aC 0)).aA)) (aN X AC (HS8.look 0 X) X)<|rs (vB ((rd ah a0.au (rd 0 aC 0)).aA==2)) (bW X X X)<|rs (vB ((rd ah a0.au (rd 0 aC 0)).aA==2)) (aO X)<|aK (by simp only [sc0,sc1];rfl) ?_
     refine rgs ((rd ah a0.au (rd 0 aC 0)).aA==2) true (vP b4 0) X X X X (fun hg=>(aH (n:=1) (o':=0) X An X As (by decide) X))<|rgs ((rd ah a0.au (rd 0 aC 0)).aA==2) true (vI ((rd ah a0.au (rd 0 aC 0)).aA)) X X X X (fun hg=>(aN (gvt (vP b4 0) hg X) AC (HS8.look 0 X) X))<|rgs ((rd ah a0.au (rd 0 aC 0)).aA==2) true (vB ((rd ah a0.au (rd 0 aC 0)).aA==3)) X X X X (fun hg=>(bW (gvt (vI ((rd ah a0.au (rd 0 aC 0)).aA)) hg X) X X))<|rs (vB (((rd ah a0.au (rd 0 aC 0)).aA==2)||((rd ah a0.au (rd 0 aC 0)).aA==3))) (dQ X X (fun hp=>(gvt (vB ((rd ah a0.au (rd 0 aC 0)).aA==3)) (gQ X hp) X)))<|aK (by simp only [sc0,sc1];rfl) ?_
     refine rs (vB (((rd ah a0.au (rd 0 aC 0)).aA==2)||((rd ah a0.au (rd 0 aC 0)).aA==3))) (aO X)<|rgs (((rd ah a0.au (rd 0 aC 0)).aA==2)||((rd ah a0.au (rd 0 aC 0)).aA==3)) true (vP b4 0) X X X X (fun hg=>(aH (n:=1) (o':=0) X An X As (by decide) X))<|rgs (((rd ah a0.au (rd 0 aC 0)).aA==2)||((rd ah a0.au (rd 0 aC 0)).aA==3)) true (vI ((rd ah a0.au (rd 0 aC 0)).aA)) X X X X (fun hg=>(aN (gvt (vP b4 0) hg X) AC (HS8.look 0 X) X))<|rgs (((rd ah a0.au (rd 0 aC 0)).aA==2)||((rd ah a0.au (rd 0 aC 0)).aA==3)) true (vB ((rd ah a0.au (rd 0 aC 0)).aA==6)) X X X X (fun hg=>(bW (gvt (vI ((rd ah a0.au (rd 0 aC 0)).aA)) hg X) X X))<|aK (by simp only [sc0,sc1];rfl) ?_
     refine rs (vB ((((rd ah a0.au (rd 0 aC 0)).aA==2)||((rd ah a0.au (rd 0 aC 0)).aA==3))||((rd ah a0.au (rd 0 aC 0)).aA==6))) (dQ X X (fun hp=>(gvt (vB ((rd ah a0.au (rd 0 aC 0)).aA==6)) (gQ X hp) X))) ?_
     try simp only [sc0,sc1]
     refine aB<|ay ?_
     obtain ⟨xx2,H,G2⟩:=bn H
     refine kT [6,50,51,52,53,54] (fun us w'=>∃(Qj:Option Addr) (wB:Option Nat) (BK:Nat),∃(yZ:List Value),Fit us (fun uj1=>[vL Qj xx2.length BK,(uj1 1),(uj1 2),(uj1 3),(uj1 4),(uj1 5)])∧Ey h0 xx2 Qj wB BK yZ∧St [] h0 w0 h0 [(some b4, .cells #[vI ((rd ah a0.au (rd 0 aC 0)).aA),vS ((rd ah a0.au (rd 0 aC 0)).aF),vI ((rd ah a0.au (rd 0 aC 0)).aY.aU),vB ((rd ah a0.au (rd 0 aC 0)).aY.aJ),vI ((rd ah a0.au (rd 0 aC 0)).bY),vI ((rd ah a0.au (rd 0 aC 0)).vN),vL dU ((rd ah a0.au (rd 0 aC 0)).ak).length dY] 58 (0,0)),(wB, .cells (yZ).toArray 3 (0,0)),((some b2), .cells ((List.set eH ((rd 0 aC 0).toNat*1+0) (vB true))).toArray 4 (0,0)),(some b1, .cells #[vL bQ a0.au.length bT] 24 (0,0))] w') ?_ ?_
     ·refine Av (t:=((((rd ah a0.au (rd 0 aC 0)).aA==2)||((rd ah a0.au (rd 0 aC 0)).aA==3))||((rd ah a0.au (rd 0 aC 0)).aA==6))) X (fun c4=>?_) (fun c4=>?_)
      ·replace H:=bU H c4
       refine Ao<|rs (vL (BH BL yB 1 1) (aC.drop 1).length (yB-1)) (aO X)<|rs (vP b4 4) (aH (n:=1) (o':=4) X An X As (by decide) X)<|rs (vI ((rd ah a0.au (rd 0 aC 0)).bY)) (aN X AC (HS8.look 0 X) X)<|ng (Kd.int .i64) (xs:=([(rd ah a0.au (rd 0 aC 0)).bY]:List Int)) (n:=1) (cs:=[vI ((rd ah a0.au (rd 0 aC 0)).bY)]) AG Br Bb X X (by decide) (by decide) (by decide) [vI ((rd ah a0.au (rd 0 aC 0)).bY)] (jd.trans X) X X X X (fH (qs:=[vI ((rd ah a0.au (rd 0 aC 0)).bY)]) X (jc (cs:=[]))) HS8 ?_
       intro w9 b5 HS9 ho5
       refine aK (by simp only [sc0,sc1];rfl) ?_
       obtain ⟨hl2,H⟩:=dN H
       refine JF (q:=2) (cs:=zZ) X X AG Br Bb X (by decide) X (ni AG HS9 (i:=0) X ho5 X) ho5.len (iC ho5) (by decide) hl2 HS9 X hcut ?_
       intro w10 A2 ob2 c5 cs3 kF ho6
       refine rs (vL A2 ((aC.drop 1)++([(rd ah a0.au (rd 0 aC 0)).bY]:List Int)).length c5) (aG X) ?_
       try simp only [sc0,sc1]
       refine aB ?_
       obtain rfl:=Ab H
       refine oH X ⟨A2,ob2,c5,cs3,(fit X),ho6,kF.tail⟩
      ·replace H:=cO H (nt c4)
       refine AN ?_
       obtain rfl:=Ab H
       refine oH X ⟨(BH BL yB 1 1),Dz,(yB-1),zZ,(fit X),hcut,HS8⟩
     ·rintro us w11 ⟨Qj,wB,BK,yZ,AB,Eu,oC⟩
      obtain ⟨uj1,rfl⟩:=unj AB
      replace H:=G2
      clear G2
      try simp only [patch,sc0,sc1]
      refine Al<|Ao<|rs (vI 0) (aG X) ?_
      try simp only [sc0,sc1]
      refine aB<|ay ?_
      obtain ⟨xx3,H,G3⟩:=bn H
      refine jB [6,9,55,56,57,58,59,60,61,62,63,64,65,66,67,68,69,70,71,72,73,74,75] (fun m us w'=>∃jQ:Int,∃lJ:List Int,∃(Oc:Option Addr) (JH:Option Nat) (Oe:Nat),∃(GR:List Value),Fit us (fun uy2=>[vL Oc lJ.length Oe,vI jQ,(uy2 2),(uy2 3),(uy2 4),(uy2 5),(uy2 6),(uy2 7),(uy2 8),(uy2 9),(uy2 10),(uy2 11),(uy2 12),(uy2 13),(uy2 14),(uy2 15),(uy2 16),(uy2 17),(uy2 18),(uy2 19),(uy2 20),(uy2 21),(uy2 22)])∧bZ.l1 a0 aC m jQ lJ=some xx3∧Ey h0 lJ Oc JH Oe GR∧St [] h0 w0 h0 [(some b4, .cells #[vI ((rd ah a0.au (rd 0 aC 0)).aA),vS ((rd ah a0.au (rd 0 aC 0)).aF),vI ((rd ah a0.au (rd 0 aC 0)).aY.aU),vB ((rd ah a0.au (rd 0 aC 0)).aY.aJ),vI ((rd ah a0.au (rd 0 aC 0)).bY),vI ((rd ah a0.au (rd 0 aC 0)).vN),vL dU ((rd ah a0.au (rd 0 aC 0)).ak).length dY] 58 (0,0)),(JH, .cells (GR).toArray 3 (0,0)),((some b2), .cells ((List.set eH ((rd 0 aC 0).toNat*1+0) (vB true))).toArray 4 (0,0)),(some b1, .cells #[vL bQ a0.au.length bT] 24 (0,0))] w') (fun us w'=>∃(Qk:Option Addr) (eP:Option Nat) (jo:Nat),∃(iw:List Value),Fit us (fun uo1=>[vL Qk xx3.length jo,(uo1 1),(uo1 2),(uo1 3),(uo1 4),(uo1 5),(uo1 6),(uo1 7),(uo1 8),(uo1 9),(uo1 10),(uo1 11),(uo1 12),(uo1 13),(uo1 14),(uo1 15),(uo1 16),(uo1 17),(uo1 18),(uo1 19),(uo1 20),(uo1 21),(uo1 22)])∧Ey h0 xx3 Qk eP jo iw∧St [] h0 w0 h0 [(some b4, .cells #[vI ((rd ah a0.au (rd 0 aC 0)).aA),vS ((rd ah a0.au (rd 0 aC 0)).aF),vI ((rd ah a0.au (rd 0 aC 0)).aY.aU),vB ((rd ah a0.au (rd 0 aC 0)).aY.aJ),vI ((rd ah a0.au (rd 0 aC 0)).bY),vI ((rd ah a0.au (rd 0 aC 0)).vN),vL dU ((rd ah a0.au (rd 0 aC 0)).ak).length dY] 58 (0,0)),(eP, .cells (iw).toArray 3 (0,0)),((some b2), .cells ((List.set eH ((rd 0 aC 0).toNat*1+0) (vB true))).toArray 4 (0,0)),(some b1, .cells #[vL bQ a0.au.length bT] 24 (0,0))] w') k ⟨0,xx2,Qj,wB,BK,yZ,(fit X),H,Eu,oC⟩ ?_ ?_
      ·rintro m us w12 ⟨jQ,lJ,Oc,JH,Oe,GR,NW,H,RI,mW⟩
       obtain ⟨uy2,rfl⟩:=unj NW
       cases m with
       |zero=>exact absurd H (by simp [bZ.l1])
       |succ m=>
        rw [bZ.l1] at H
        try simp only [patch,sc0,sc1]
        refine Al<|Al<|Ao<|rs (vI jQ) (aO X)<|rs (vP b4 6) (aH (n:=1) (o':=6) X An X A4 (by decide) X)<|rs (vL dU ((rd ah a0.au (rd 0 aC 0)).ak).length dY) (aN X Bs (mW.look 0 X) X)<|rs (vI (((rd ah a0.au (rd 0 aC 0)).ak).length:Int)) (jD X AK)<|aK (by simp only [sc0,sc1];rfl) ?_
        refine rs (vB (decide (jQ<(((rd ah a0.au (rd 0 aC 0)).ak).length:Int)))) (bW X X X)<|rs (vB (decide (jQ<(((rd ah a0.au (rd 0 aC 0)).ak).length:Int)))) (aO X)<|rgs (decide (jQ<(((rd ah a0.au (rd 0 aC 0)).ak).length:Int))) true (vP b4 0) X X X X (fun hg=>(aH (n:=1) (o':=0) X An X As (by decide) X))<|rgs (decide (jQ<(((rd ah a0.au (rd 0 aC 0)).ak).length:Int))) true (vI ((rd ah a0.au (rd 0 aC 0)).aA)) X X X X (fun hg=>(aN (gvt (vP b4 0) hg X) AC (mW.look 0 X) X))<|aK (by simp only [sc0,sc1];rfl) ?_
        refine rgs (decide (jQ<(((rd ah a0.au (rd 0 aC 0)).ak).length:Int))) true (vB ((rd ah a0.au (rd 0 aC 0)).aA==4)) X X X X (fun hg=>(bW (gvt (vI ((rd ah a0.au (rd 0 aC 0)).aA)) hg X) X X))<|rs (vB ((decide (jQ<(((rd ah a0.au (rd 0 aC 0)).ak).length:Int)))&&((rd ah a0.au (rd 0 aC 0)).aA==4))) (dL X (fun hp=>(gvt (vB ((rd ah a0.au (rd 0 aC 0)).aA==4)) (gQ X hp) X)) X) ?_
        try simp only [sc0,sc1]
        refine aB<|ay<|Av (t:=((decide (jQ<(((rd ah a0.au (rd 0 aC 0)).ak).length:Int)))&&((rd ah a0.au (rd 0 aC 0)).aA==4))) X (fun c6=>?_) (fun c6=>?_)
        ·replace H:=bU H c6
         refine AN<|ay<|Al<|wp_block<|Ao<|rs (vL Oc lJ.length Oe) (aO X)<|rs (vP b4 6) (aH (n:=1) (o':=6) X An X A4 (by decide) X)<|rs (vL dU ((rd ah a0.au (rd 0 aC 0)).ak).length dY) (aN X Bs (mW.look 0 X) X)<|rs (vI jQ) (aO X)<|aK (by simp only [sc0,sc1];rfl) ?_
         obtain ⟨hi5,H⟩:=dN H
         obtain ⟨ad2,e2,tN⟩:=ji iY hi5.1 hi5.2
         refine rs (Value.pointer (some (Addr.add ad2 (jQ.toNat*3)))) (dP (sz:=3) X e2 X hi5.1 hi5.2 AK AS)<|rs (Value.pointer (some (Addr.add (Addr.add ad2 (jQ.toNat*3)) 1))) (nX (n:=1) (o':=1) X AJ X As (by decide) X)<|rs (vI ((rd aj ((rd ah a0.au (rd 0 aC 0)).ak) jQ).vType)) (kE X AC (tN.cell mW.sees 1 X))<|ng (Kd.int .i64) (xs:=([(rd aj ((rd ah a0.au (rd 0 aC 0)).ak) jQ).vType]:List Int)) (n:=1) (cs:=[vI ((rd aj ((rd ah a0.au (rd 0 aC 0)).ak) jQ).vType)]) AG Br Bb X X (by decide) (by decide) (by decide) [vI ((rd aj ((rd ah a0.au (rd 0 aC 0)).ak) jQ).vType)] (jd.trans X) X X X X (fH (qs:=[vI ((rd aj ((rd ah a0.au (rd 0 aC 0)).ak) jQ).vType)]) X (jc (cs:=[]))) mW ?_
         intro w13 b6 qx ho7
         refine aK (by simp only [sc0,sc1];rfl) ?_
         obtain ⟨hl3,H⟩:=dN H
         refine JF (q:=2) (cs:=GR) X X AG Br Bb X (by decide) X (ni AG qx (i:=0) X ho7 X) ho7.len (iC ho7) (by decide) hl3 qx X RI ?_
         intro w14 A3 ob3 c7 cs4 ru ho8
         refine rs (vL A3 (lJ++([(rd aj ((rd ah a0.au (rd 0 aC 0)).ak) jQ).vType]:List Int)).length c7) (aG X) ?_
         try simp only [sc0,sc1]
         refine aB<|dD<|ay<|Ao<|rs (vI jQ) (aO X)<|rs (vI (w64 (jQ+1))) (bW X X X)<|rs (vI (w64 (jQ+1))) (aG X) ?_
         try simp only [sc0,sc1]
         refine aB<|gI m (Nat.lt_succ_self m) X ⟨(w64 (jQ+1)),(lJ++([(rd aj ((rd ah a0.au (rd 0 aC 0)).ak) jQ).vType]:List Int)),A3,ob3,c7,cs4,(fit X),H,ho8,ru.tail⟩
        ·replace H:=cO H (nt c6)
         refine Bx<|eU ?_
         obtain rfl:=Ab H
         refine iK X ⟨Oc,JH,Oe,GR,(fit X),RI,mW⟩
      ·rintro us w15 ⟨Qk,eP,jo,iw,nP,jr,sW⟩
       obtain ⟨uo1,rfl⟩:=unj nP
       replace H:=G3
       clear G3
       try simp only [patch,sc0,sc1]
       refine dD<|gI m (Nat.lt_succ_self m) X ⟨xx3,(List.set dG (rd 0 aC 0).toNat true),Qk,eP,jo,iw,(List.set eH ((rd 0 aC 0).toNat*1+0) (vB true)),(fit X),H,jr,ho4,sW.tail⟩
   ·replace H:=cO H (nt c2)
    refine Bx<|eU ?_
    obtain rfl:=Ab H
    refine iK X ⟨BL,Dz,yB,zZ,eH,(fit X),JG,iE,HS5⟩
 ·rintro us w16 ⟨Vj,jZ,pO,uz,Oa,NY,uD,JI,sH⟩
  obtain ⟨uo2,rfl⟩:=unj NY
  replace H:=G1
  clear G1
  try simp only [patch,sc0,sc1]
  refine ay<|Al<|Ao<|rs (vL (rowA (some b2)) ((a0.au.length:Int).toNat) ((a0.au.length:Int).toNat)) (aO X)<|rs (vL (rowA (some b2)) ((a0.au.length:Int).toNat) ((a0.au.length:Int).toNat)) (aG X) ?_
  try simp only [sc0,sc1]
  refine aB<|ay<|AT ?_
  obtain rfl:=Ab H
  refine Ay (bD X (bK X)) X ?_
  obtain ⟨h1,uQ,hs1,oV⟩:=lC sH (i:=1) rfl JI
  replace uD:=uD.view hs1
  exact ⟨h1,(rowA (some b2)),(a0.au.length:Int).toNat,(by first|rfl|(rw [JI.len];done)|(rw [JI.len];rfl)),JI.cap,oV,uQ.gr,uQ.sees,uQ.toE⟩
end Go.Proofs.YtfjppgobidjndaaGreatDoor
namespace Go.Proofs.YtfjppgobidjndaaGreatDoor
open Go.RowKit Go.M
def fO.f (k:Nat) (a0:aQ) (a1:Int):Option (Int):=(aS.f k a0).bind fun v1=>((if (true&&((v1==0)==true))=true then iL.f a0 a1 else some false).bind fun v2=>(((if ((v1==0)&&(!v2))=true then (some 3) else (some v1)):Option (Int)).bind fun xx1=>(some xx1)))
theorem fO.calls (k:Nat) (a0:aQ) (a1:Int) (bQ:Option Addr) (bT:Nat) {h0:View} {w0:World} (hv:lS h0 w0) (fK:Rd bI h0 bQ a0.au) (iF:a0.au.length≤bT) {r:Int} (H:fO.f k a0 a1=some r):Calls Tryz.prog 64 #[Value.agg #[vL bQ a0.au.length bT],vI a1] w0 (fun e w1=>e= .returned (vI r)∧Ext w0 w1):=by
 unfold fO.f at H
 have HS:St [] h0 w0 h0 [] w0:=St.init hv
 go_enter Tryz.func64,Tryz.ntmps64
 refine Al<|Ao<|dF X X (eF (cs:=#[vL bQ a0.au.length bT]) X X) ?_
 rintro w1 _ hE1 ⟨b1,rfl,ge1,hb1⟩
 have HS1:=HS.new hE1 ge1 hb1
 refine rs (vI 0) (aG X) ?_
 try simp only [sc0,sc1]
 refine aB<|ay<|Al<|Ao<|rs (Value.agg #[vL bQ a0.au.length bT]) (aT (n:=1) (vs:=[vL bQ a0.au.length bT]) X AI (HS1.look 0 X) AD X X) ?_
 obtain ⟨v1,H1,H⟩:=bn H
 refine run_eq (v:=vI v1) X X (bC CH X X (aS.calls k a0 bQ bT HS1.sees fK iF H1)) ?_
 intro w2 hE2
 have HS2:=HS1.step hE2
 refine rs (vI v1) (aG X) ?_
 try simp only [sc0,sc1]
 refine aB<|ay<|Al<|Al<|Ao<|rs (vI v1) (aO X)<|rs (vB (v1==0)) (bW X X X)<|rs (vB (v1==0)) (aO X)<|rgs (v1==0) true (Value.agg #[vL bQ a0.au.length bT]) X X X X (fun hg=>(aT (n:=1) (vs:=[vL bQ a0.au.length bT]) X AI (HS2.look 0 X) AD X X))<|aK (by simp only [sc0,sc1];rfl) ?_
 refine rgs (v1==0) true (vI a1) X X X X (fun hg=>(aO X)) ?_
 obtain ⟨v2,H2,H⟩:=bn H
 refine sJ (b:=(v1==0)) (c:=true) (v:=vB v2) X X X X (fun hg=>(bC CT X (wF (gvt (Value.agg #[vL bQ a0.au.length bT]) hg X) (gvt (vI a1) hg X)) (iL.calls a0 a1 bQ bT HS2.sees fK iF (bU H2 hg)))) ?_
 intro w3 hE3
 have HS3:=HS2.step hE3
 refine rgs (v1==0) true (vB (!v2)) X X X X (fun hg=>(mZ (gvt (vB v2) hg X)))<|rs (vB ((v1==0)&&(!v2))) (dL X (fun hp=>(gvt (vB (!v2)) (gQ X hp) X)) X) ?_
 try simp only [sc0,sc1]
 refine aB<|ay ?_
 obtain ⟨xx1,H,G1⟩:=bn H
 refine kT [5] (fun us w'=>Fit us (fun uj1=>[vI xx1])∧St [] h0 w0 h0 [(some b1, .cells #[vL bQ a0.au.length bT] 24 (0,0))] w') ?_ ?_
 ·refine Av (t:=((v1==0)&&(!v2))) X (fun c1=>?_) (fun c1=>?_)
  ·replace H:=bU H c1
   refine Ao<|rs (vI 3) (aG X) ?_
   try simp only [sc0,sc1]
   refine aB ?_
   obtain rfl:=Ab H
   refine oH X ⟨(fit X),HS3⟩
  ·replace H:=cO H (nt c1)
   refine AN ?_
   obtain rfl:=Ab H
   refine oH X ⟨(fit X),HS3⟩
 ·rintro us w4 ⟨AB,HS4⟩
  obtain ⟨uj1,rfl⟩:=unj AB
  replace H:=G1
  clear G1
  try simp only [patch,sc0,sc1]
  refine Al<|Ao<|rs (vI xx1) (aO X)<|rs (vI xx1) (aG X) ?_
  try simp only [sc0,sc1]
  refine aB<|ay<|AT ?_
  obtain rfl:=Ab H
  exact Ay (bD X (bK X)) X<|⟨X,HS4.toE⟩
def dI.l0 (k:Nat) (a0:aQ) (a1:aZ) (a2:aQ) (a3:aZ):Nat→Int→Option ((Bool)⊕(Unit))
 |0,_=>none
 |m+1,aC=>if (decide (aC<(a1.ak.length:Int)))=true then (if 0≤aC∧aC<a1.ak.length then (if 0≤aC∧aC<a3.ak.length then ((if ((true&&(((!(strEq ((rd aj a1.ak aC).aF) ((rd aj a3.ak aC).aF)))||((rd aj a1.ak aC).vAt !=(rd aj a3.ak aC).vAt))==false))&&((a1.aA==4)==true))=true then dn.f k a0 ((rd aj a1.ak aC).vType) else some ByteArray.empty).bind fun v3=>((if ((true&&(((!(strEq ((rd aj a1.ak aC).aF) ((rd aj a3.ak aC).aF)))||((rd aj a1.ak aC).vAt !=(rd aj a3.ak aC).vAt))==false))&&((a1.aA==4)==true))=true then dn.f k a2 ((rd aj a3.ak aC).vType) else some ByteArray.empty).bind fun v4=>(if (((!(strEq ((rd aj a1.ak aC).aF) ((rd aj a3.ak aC).aF)))||((rd aj a1.ak aC).vAt !=(rd aj a3.ak aC).vAt))||((a1.aA==4)&&(!(strEq v3 v4))))=true then (some (.inl false)) else (dI.l0 k a0 a1 a2 a3 m (IntKind.wrap .i64 (aC+1)))))) else none) else none) else (some (.inr ()))
def dI.f (k:Nat) (a0:aQ) (a1:aZ) (a2:aQ) (a3:aZ):Option (Bool):=if (((((a1.aA !=a3.aA)||(!(strEq a1.aF a3.aF)))||(!((a1.aY.aU==a3.aY.aU)&&((a1.aY.aJ==a3.aY.aJ)&&true))))||(a1.vN !=a3.vN))||((a1.ak.length:Int) !=(a3.ak.length:Int)))=true then (some false) else ((if (true&&((a1.aA==6)==true))=true then dn.f k a0 a1.bY else some ByteArray.empty).bind fun v1=>((if (true&&((a1.aA==6)==true))=true then dn.f k a2 a3.bY else some ByteArray.empty).bind fun v2=>(if ((a1.aA==6)&&(!(strEq v1 v2)))=true then (some false) else ((dI.l0 k a0 a1 a2 a3 k 0).bind fun xx1=>(match xx1 with| .inl r=>some r| .inr s1=>some true)))))
theorem dI.calls (k:Nat) (a0:aQ) (a1:aZ) (a2:aQ) (a3:aZ) (bQ:Option Addr) (bT:Nat) (rG:Option Addr) (rH:Nat) (lV:Option Addr) (mG:Nat) (Ia:Option Addr) (Ib:Nat) {h0:View} {w0:World} (hv:lS h0 w0) (fK:Rd bI h0 bQ a0.au) (iF:a0.au.length≤bT) (AU:Rd dw h0 rG a1.ak) (Du:a1.ak.length≤rH) (pY:Rd bI h0 lV a2.au) (vY:a2.au.length≤mG) (TJ:Rd dw h0 Ia a3.ak) (U9:a3.ak.length≤Ib) {r:Bool} (H:dI.f k a0 a1 a2 a3=some r):Calls Tryz.prog 65 #[Value.agg #[vL bQ a0.au.length bT],Value.agg #[vI a1.aA,vS a1.aF,vI a1.aY.aU,vB a1.aY.aJ,vI a1.bY,vI a1.vN,vL rG a1.ak.length rH],Value.agg #[vL lV a2.au.length mG],Value.agg #[vI a3.aA,vS a3.aF,vI a3.aY.aU,vB a3.aY.aJ,vI a3.bY,vI a3.vN,vL Ia a3.ak.length Ib]] w0 (fun e w1=>e= .returned (vB r)∧Ext w0 w1):=by
 unfold dI.f at H
 have HS:St [] h0 w0 h0 [] w0:=St.init hv
 go_enter Tryz.func65,Tryz.ntmps65
 refine Al<|Ao<|dF X X (eF (cs:=#[vL bQ a0.au.length bT]) X X) ?_
 rintro w1 _ hE1 ⟨b1,rfl,ge1,hb1⟩
 have HS1:=HS.new hE1 ge1 hb1
 refine dF X X (eF (cs:=#[vI a1.aA,vS a1.aF,vI a1.aY.aU,vB a1.aY.aJ,vI a1.bY,vI a1.vN,vL rG a1.ak.length rH]) X X) ?_
 rintro w2 _ hE2 ⟨b2,rfl,ge2,hb2⟩
 have HS2:=HS1.new hE2 ge2 hb2
 refine dF X X (eF (cs:=#[vL lV a2.au.length mG]) X X) ?_
 rintro w3 _ hE3 ⟨b3,rfl,ge3,hb3⟩
 have HS3:=HS2.new hE3 ge3 hb3
 refine dF X X (eF (cs:=#[vI a3.aA,vS a3.aF,vI a3.aY.aU,vB a3.aY.aJ,vI a3.bY,vI a3.vN,vL Ia a3.ak.length Ib]) X X) ?_
 rintro w4 _ hE4 ⟨b4,rfl,ge4,hb4⟩
 have HS4:=HS3.new hE4 ge4 hb4
 refine aK (by simp only [sc0,sc1];rfl) ?_
 refine rs (vB false) (aG X) ?_
 try simp only [sc0,sc1]
 refine aB<|ay<|Al<|Al<|Ao<|rs (vP b2 0) (aH (n:=1) (o':=0) X An X As (by decide) X)<|rs (vI a1.aA) (aN X AC (HS4.look 2 X) X)<|rs (vP b4 0) (aH (n:=1) (o':=0) X An X As (by decide) X)<|rs (vI a3.aA) (aN X AC (HS4.look 0 X) X)<|aK (by simp only [sc0,sc1];rfl) ?_
 refine rs (vB (a1.aA !=a3.aA)) (bW X X X)<|rs (vB (a1.aA !=a3.aA)) (aO X)<|rgs (a1.aA !=a3.aA) true (vP b2 1) X X X X (fun hg=>(aH (n:=1) (o':=1) X An X AW (by decide) X))<|rgs (a1.aA !=a3.aA) true (vS a1.aF) X X X X (fun hg=>(aN (gvt (vP b2 1) hg X) Be (HS4.look 2 X) X))<|aK (by simp only [sc0,sc1];rfl) ?_
 refine rgs (a1.aA !=a3.aA) true (vP b4 1) X X X X (fun hg=>(aH (n:=1) (o':=1) X An X AW (by decide) X))<|rgs (a1.aA !=a3.aA) true (vS a3.aF) X X X X (fun hg=>(aN (gvt (vP b4 1) hg X) Be (HS4.look 0 X) X))<|rgs (a1.aA !=a3.aA) true (vB (!(strEq a1.aF a3.aF))) X X X X (fun hg=>(ql (gvt (vS a1.aF) hg X) (gvt (vS a3.aF) hg X)))<|rs (vB ((a1.aA !=a3.aA)||(!(strEq a1.aF a3.aF)))) (dQ X X (fun hp=>(gvt (vB (!(strEq a1.aF a3.aF))) (gQ X hp) X)))<|aK (by simp only [sc0,sc1];rfl) ?_
 refine rs (vB ((a1.aA !=a3.aA)||(!(strEq a1.aF a3.aF)))) (aO X)<|rgs ((a1.aA !=a3.aA)||(!(strEq a1.aF a3.aF))) true (vP b2 2) X X X X (fun hg=>(aH (n:=2) (o':=2) X An X Bk (by decide) X))<|rgs ((a1.aA !=a3.aA)||(!(strEq a1.aF a3.aF))) true (Value.agg #[vI a1.aY.aU,vB a1.aY.aJ]) X X X X (fun hg=>(aT (n:=2) (vs:=[vI a1.aY.aU,vB a1.aY.aJ]) (gvt (vP b2 2) hg X) Ca (HS4.look 2 X) Bk X X))<|rgs ((a1.aA !=a3.aA)||(!(strEq a1.aF a3.aF))) true (vP b4 2) X X X X (fun hg=>(aH (n:=2) (o':=2) X An X Bk (by decide) X))<|aK (by simp only [sc0,sc1];rfl) ?_
 refine rgs ((a1.aA !=a3.aA)||(!(strEq a1.aF a3.aF))) true (Value.agg #[vI a3.aY.aU,vB a3.aY.aJ]) X X X X (fun hg=>(aT (n:=2) (vs:=[vI a3.aY.aU,vB a3.aY.aJ]) (gvt (vP b4 2) hg X) Ca (HS4.look 0 X) Bk X X))<|rgs ((a1.aA !=a3.aA)||(!(strEq a1.aF a3.aF))) true (vB (!((a1.aY.aU==a3.aY.aU)&&((a1.aY.aJ==a3.aY.aJ)&&true)))) X X X X (fun hg=>(BO (gvt (Value.agg #[vI a1.aY.aU,vB a1.aY.aJ]) hg X) (gvt (Value.agg #[vI a3.aY.aU,vB a3.aY.aJ]) hg X) Tryz.eqGuardType55 (Az Tryz.stoodInHeld55 Ch (pJ (by decide) (jR AC X) (jR AC X) (zf B9) (pJ (by decide) (jR By X) (jR By X) (zH Cg) Aw)))))<|rs (vB (((a1.aA !=a3.aA)||(!(strEq a1.aF a3.aF)))||(!((a1.aY.aU==a3.aY.aU)&&((a1.aY.aJ==a3.aY.aJ)&&true))))) (dQ X X (fun hp=>(gvt (vB (!((a1.aY.aU==a3.aY.aU)&&((a1.aY.aJ==a3.aY.aJ)&&true)))) (gQ X hp) X)))<|rs (vB (((a1.aA !=a3.aA)||(!(strEq a1.aF a3.aF)))||(!((a1.aY.aU==a3.aY.aU)&&((a1.aY.aJ==a3.aY.aJ)&&true))))) (aO X)<|aK (by simp only [sc0,sc1];rfl) ?_
 refine rgs (((a1.aA !=a3.aA)||(!(strEq a1.aF a3.aF)))||(!((a1.aY.aU==a3.aY.aU)&&((a1.aY.aJ==a3.aY.aJ)&&true)))) true (vP b2 5) X X X X (fun hg=>(aH (n:=1) (o':=5) X An X As (by decide) X))<|rgs (((a1.aA !=a3.aA)||(!(strEq a1.aF a3.aF)))||(!((a1.aY.aU==a3.aY.aU)&&((a1.aY.aJ==a3.aY.aJ)&&true)))) true (vI a1.vN) X X X X (fun hg=>(aN (gvt (vP b2 5) hg X) AC (HS4.look 2 X) X))<|rgs (((a1.aA !=a3.aA)||(!(strEq a1.aF a3.aF)))||(!((a1.aY.aU==a3.aY.aU)&&((a1.aY.aJ==a3.aY.aJ)&&true)))) true (vP b4 5) X X X X (fun hg=>(aH (n:=1) (o':=5) X An X As (by decide) X))<|rgs (((a1.aA !=a3.aA)||(!(strEq a1.aF a3.aF)))||(!((a1.aY.aU==a3.aY.aU)&&((a1.aY.aJ==a3.aY.aJ)&&true)))) true (vI a3.vN) X X X X (fun hg=>(aN (gvt (vP b4 5) hg X) AC (HS4.look 0 X) X))<|aK (by simp only [sc0,sc1];rfl) ?_
 refine rgs (((a1.aA !=a3.aA)||(!(strEq a1.aF a3.aF)))||(!((a1.aY.aU==a3.aY.aU)&&((a1.aY.aJ==a3.aY.aJ)&&true)))) true (vB (a1.vN !=a3.vN)) X X X X (fun hg=>(bW (gvt (vI a1.vN) hg X) (gvt (vI a3.vN) hg X) X))<|rs (vB ((((a1.aA !=a3.aA)||(!(strEq a1.aF a3.aF)))||(!((a1.aY.aU==a3.aY.aU)&&((a1.aY.aJ==a3.aY.aJ)&&true))))||(a1.vN !=a3.vN))) (dQ X X (fun hp=>(gvt (vB (a1.vN !=a3.vN)) (gQ X hp) X)))<|rs (vB ((((a1.aA !=a3.aA)||(!(strEq a1.aF a3.aF)))||(!((a1.aY.aU==a3.aY.aU)&&((a1.aY.aJ==a3.aY.aJ)&&true))))||(a1.vN !=a3.vN))) (aO X)<|rgs ((((a1.aA !=a3.aA)||(!(strEq a1.aF a3.aF)))||(!((a1.aY.aU==a3.aY.aU)&&((a1.aY.aJ==a3.aY.aJ)&&true))))||(a1.vN !=a3.vN)) true (vP b2 6) X X X X (fun hg=>(aH (n:=1) (o':=6) X An X A4 (by decide) X))<|aK (by simp only [sc0,sc1];rfl) ?_
 refine rgs ((((a1.aA !=a3.aA)||(!(strEq a1.aF a3.aF)))||(!((a1.aY.aU==a3.aY.aU)&&((a1.aY.aJ==a3.aY.aJ)&&true))))||(a1.vN !=a3.vN)) true (vL rG a1.ak.length rH) X X X X (fun hg=>(aN (gvt (vP b2 6) hg X) Bs (HS4.look 2 X) X))<|rgs ((((a1.aA !=a3.aA)||(!(strEq a1.aF a3.aF)))||(!((a1.aY.aU==a3.aY.aU)&&((a1.aY.aJ==a3.aY.aJ)&&true))))||(a1.vN !=a3.vN)) true (vI (a1.ak.length:Int)) X X X X (fun hg=>(jD (gvt (vL rG a1.ak.length rH) hg X) AK))<|rgs ((((a1.aA !=a3.aA)||(!(strEq a1.aF a3.aF)))||(!((a1.aY.aU==a3.aY.aU)&&((a1.aY.aJ==a3.aY.aJ)&&true))))||(a1.vN !=a3.vN)) true (vP b4 6) X X X X (fun hg=>(aH (n:=1) (o':=6) X An X A4 (by decide) X))<|rgs ((((a1.aA !=a3.aA)||(!(strEq a1.aF a3.aF)))||(!((a1.aY.aU==a3.aY.aU)&&((a1.aY.aJ==a3.aY.aJ)&&true))))||(a1.vN !=a3.vN)) true (vL Ia a3.ak.length Ib) X X X X (fun hg=>(aN (gvt (vP b4 6) hg X) Bs (HS4.look 0 X) X))<|aK (by simp only [sc0,sc1];rfl) ?_
 refine rgs ((((a1.aA !=a3.aA)||(!(strEq a1.aF a3.aF)))||(!((a1.aY.aU==a3.aY.aU)&&((a1.aY.aJ==a3.aY.aJ)&&true))))||(a1.vN !=a3.vN)) true (vI (a3.ak.length:Int)) X X X X (fun hg=>(jD (gvt (vL Ia a3.ak.length Ib) hg X) AK))<|rgs ((((a1.aA !=a3.aA)||(!(strEq a1.aF a3.aF)))||(!((a1.aY.aU==a3.aY.aU)&&((a1.aY.aJ==a3.aY.aJ)&&true))))||(a1.vN !=a3.vN)) true (vB ((a1.ak.length:Int) !=(a3.ak.length:Int))) X X X X (fun hg=>(bW (gvt (vI (a1.ak.length:Int)) hg X) (gvt (vI (a3.ak.length:Int)) hg X) X))<|rs (vB (((((a1.aA !=a3.aA)||(!(strEq a1.aF a3.aF)))||(!((a1.aY.aU==a3.aY.aU)&&((a1.aY.aJ==a3.aY.aJ)&&true))))||(a1.vN !=a3.vN))||((a1.ak.length:Int) !=(a3.ak.length:Int)))) (dQ X X (fun hp=>(gvt (vB ((a1.ak.length:Int) !=(a3.ak.length:Int))) (gQ X hp) X))) ?_
 try simp only [sc0,sc1]
 refine aB<|ay<|Av (t:=(((((a1.aA !=a3.aA)||(!(strEq a1.aF a3.aF)))||(!((a1.aY.aU==a3.aY.aU)&&((a1.aY.aJ==a3.aY.aJ)&&true))))||(a1.vN !=a3.vN))||((a1.ak.length:Int) !=(a3.ak.length:Int)))) X (fun c1=>?_) (fun c1=>?_)
 ·replace H:=bU H c1
  refine Al<|Ao<|rs (vB false) (aG X) ?_
  try simp only [sc0,sc1]
  refine aB<|ay<|AT<|bP ?_
  obtain rfl:=Ab H
  exact Ay (bD X (bK X)) X<|⟨X,HS4.toE⟩
 ·replace H:=cO H (nt c1)
  refine AN<|ay<|Al<|Al ?_
  obtain ⟨v1,H1,H⟩:=bn H
  obtain ⟨v2,H2,H⟩:=bn H
  refine drawn [.eq (vP b2 0), .eq (vI a1.aA), .eq (vB (a1.aA==6)), .eq (vB (a1.aA==6)), .eq (gv (true&&((a1.aA==6)==true)) (Value.agg #[vL bQ a0.au.length bT])), .eq (gv (true&&((a1.aA==6)==true)) (vP b2 4)), .eq (gv (true&&((a1.aA==6)==true)) (vI a1.bY)), .eq (gv (true&&((a1.aA==6)==true)) (vS v1)), .eq (gv (true&&((a1.aA==6)==true)) (Value.agg #[vL lV a2.au.length mG])), .eq (gv (true&&((a1.aA==6)==true)) (vP b4 4)), .eq (gv (true&&((a1.aA==6)==true)) (vI a3.bY)), .eq (gv (true&&((a1.aA==6)==true)) (vS v2)), .eq (gv (true&&((a1.aA==6)==true)) (vB (!(strEq v1 v2)))), .eq (vB ((a1.aA==6)&&(!(strEq v1 v2))))] [47,48,49,50,51,52,53,54,55,56,57,58,59,60] rM (by kernel_rfl) X (aP (aP (aP (aP (aP (aP (aP (aP (aP (aP (aP (aP (aP (aP iJ)))))))))))))) ⟨aX X (fun a' w' hE hk=>by exact aW (aH (n:=1) (o':=0) (show _=vP b2 0 from hk 5 X) An X As (by decide) X)),aX X (fun a' w' hE hk=>by exact aW (aN (show _=vP b2 0 from hk 47 X) AC ((HS4.step hE).look 2 X) X)),aX X (fun a' w' hE hk=>by exact aW (bW (show _=vI a1.aA from hk 48 X) X X)),aX X (fun a' w' hE hk=>by exact aW (aO (show _=vB (a1.aA==6) from hk 49 X))),dA (b:=(a1.aA==6)) (c:=true) X X (by decide) (fun w' u hu=>hu) (fun a' w' hE hk hg=>by exact aW (aT (n:=1) (vs:=[vL bQ a0.au.length bT]) (show _=vP b1 0 from hk 4 X) AI ((HS4.step hE).look 3 X) AD X X)),dA (b:=(a1.aA==6)) (c:=true) X X (by decide) (fun w' u hu=>hu) (fun a' w' hE hk hg=>by exact aW (aH (n:=1) (o':=4) (show _=vP b2 0 from hk 5 X) An X As (by decide) X)),dA (b:=(a1.aA==6)) (c:=true) X X (by decide) (fun w' u hu=>hu) (fun a' w' hE hk hg=>by exact aW (aN ((show _=gv (true&&((a1.aA==6)==true)) (vP b2 4) from (show _=gv (true&&((a1.aA==6)==true)) (vP b2 4) from hk 52 X)).trans (lW hg)) AC ((HS4.step hE).look 2 X) X)),dA (b:=(a1.aA==6)) (c:=true) X X (by decide) (fun w' u hu=>hu) (fun a' w' hE hk hg=>by exact (bC Co X (wF ((show _=gv (true&&((a1.aA==6)==true)) (Value.agg #[vL bQ a0.au.length bT]) from (show _=gv (true&&((a1.aA==6)==true)) (Value.agg #[vL bQ a0.au.length bT]) from hk 51 X)).trans (lW hg)) ((show _=gv (true&&((a1.aA==6)==true)) (vI a1.bY) from (show _=gv (true&&((a1.aA==6)==true)) (vI a1.bY) from hk 53 X)).trans (lW hg))) (dn.calls k a0 a1.bY bQ bT (HS4.step hE).sees fK iF (bU H1 hg)))),dA (b:=(a1.aA==6)) (c:=true) X X (by decide) (fun w' u hu=>hu) (fun a' w' hE hk hg=>by exact aW (aT (n:=1) (vs:=[vL lV a2.au.length mG]) (show _=vP b3 0 from hk 6 X) AI ((HS4.step hE).look 1 X) AD X X)),dA (b:=(a1.aA==6)) (c:=true) X X (by decide) (fun w' u hu=>hu) (fun a' w' hE hk hg=>by exact aW (aH (n:=1) (o':=4) (show _=vP b4 0 from hk 7 X) An X As (by decide) X)),dA (b:=(a1.aA==6)) (c:=true) X X (by decide) (fun w' u hu=>hu) (fun a' w' hE hk hg=>by exact aW (aN ((show _=gv (true&&((a1.aA==6)==true)) (vP b4 4) from (show _=gv (true&&((a1.aA==6)==true)) (vP b4 4) from hk 56 X)).trans (lW hg)) AC ((HS4.step hE).look 0 X) X)),dA (b:=(a1.aA==6)) (c:=true) X X (by decide) (fun w' u hu=>hu) (fun a' w' hE hk hg=>by exact (bC Co X (wF ((show _=gv (true&&((a1.aA==6)==true)) (Value.agg #[vL lV a2.au.length mG]) from (show _=gv (true&&((a1.aA==6)==true)) (Value.agg #[vL lV a2.au.length mG]) from hk 55 X)).trans (lW hg)) ((show _=gv (true&&((a1.aA==6)==true)) (vI a3.bY) from (show _=gv (true&&((a1.aA==6)==true)) (vI a3.bY) from hk 57 X)).trans (lW hg))) (dn.calls k a2 a3.bY lV mG (HS4.step hE).sees pY vY (bU H2 hg)))),dA (b:=(a1.aA==6)) (c:=true) X X (by decide) (fun w' u hu=>hu) (fun a' w' hE hk hg=>by exact aW (ql ((show _=gv (true&&((a1.aA==6)==true)) (vS v1) from (show _=gv (true&&((a1.aA==6)==true)) (vS v1) from hk 54 X)).trans (lW hg)) ((show _=gv (true&&((a1.aA==6)==true)) (vS v2) from (show _=gv (true&&((a1.aA==6)==true)) (vS v2) from hk 58 X)).trans (lW hg)))),aX X (fun a' w' hE hk=>by exact aW (dL (show _=vB (a1.aA==6) from hk 50 X) (fun hp=>((show _=gv (true&&((a1.aA==6)==true)) (vB (!(strEq v1 v2))) from (show _=gv (true&&((a1.aA==6)==true)) (vB (!(strEq v1 v2))) from hk 59 X)).trans (lW (gQ X hp)))) X)),trivial⟩ ?_
  intro w5 hE5
  simp only [List.zip_cons_cons,List.zip_nil_left,List.zip_nil_right,vO,sc0,sc1,List.length_cons,List.length_nil,List.drop_succ_cons,List.drop_zero,Nat.zero_add,Nat.reduceAdd]
  have HS5:=HS4.step hE5
  refine aB<|ay<|Av (t:=((a1.aA==6)&&(!(strEq v1 v2)))) X (fun c2=>?_) (fun c2=>?_)
  ·replace H:=bU H c2
   refine Al<|Ao<|rs (vB false) (aG X) ?_
   try simp only [sc0,sc1]
   refine aB<|ay<|AT<|bP ?_
   obtain rfl:=Ab H
   exact Ay (bD X (bK X)) X<|⟨X,HS5.toE⟩
  ·replace H:=cO H (nt c2)
   refine AN<|ay<|Al<|Al<|Ao<|rs (vI 0) (aG X) ?_
   try simp only [sc0,sc1]
   refine aB<|ay ?_
   obtain ⟨xx1,H,G1⟩:=bn H
   refine jB [8,9,10,11,61,62,63,64,65,66,67,68,69,70,71,72,73,74,75,76,77,78,79,80,81,82,83,84,85,86,87,88,89,90,91,92,93,94,95,96,97,98,99,100,101,102,103,104,105] (fun m us w'=>∃(aC:Int),Fit us (fun uy1=>[(uy1 0),vI aC,(uy1 2),(uy1 3),(uy1 4),(uy1 5),(uy1 6),(uy1 7),(uy1 8),(uy1 9),(uy1 10),(uy1 11),(uy1 12),(uy1 13),(uy1 14),(uy1 15),(uy1 16),(uy1 17),(uy1 18),(uy1 19),(uy1 20),(uy1 21),(uy1 22),(uy1 23),(uy1 24),(uy1 25),(uy1 26),(uy1 27),(uy1 28),(uy1 29),(uy1 30),(uy1 31),(uy1 32),(uy1 33),(uy1 34),(uy1 35),(uy1 36),(uy1 37),(uy1 38),(uy1 39),(uy1 40),(uy1 41),(uy1 42),(uy1 43),(uy1 44),(uy1 45),(uy1 46),(uy1 47),(uy1 48)])∧dI.l0 k a0 a1 a2 a3 m aC=some xx1∧St [] h0 w0 h0 [(some b4, .cells #[vI a3.aA,vS a3.aF,vI a3.aY.aU,vB a3.aY.aJ,vI a3.bY,vI a3.vN,vL Ia a3.ak.length Ib] 58 (0,0)),(some b3, .cells #[vL lV a2.au.length mG] 24 (0,0)),(some b2, .cells #[vI a1.aA,vS a1.aF,vI a1.aY.aU,vB a1.aY.aJ,vI a1.bY,vI a1.vN,vL rG a1.ak.length rH] 58 (0,0)),(some b1, .cells #[vL bQ a0.au.length bT] 24 (0,0))] w') (fun us w'=>∃(s1:Unit),xx1= .inr s1∧Fit us (fun uo1=>[(uo1 0),(uo1 1),(uo1 2),(uo1 3),(uo1 4),(uo1 5),(uo1 6),(uo1 7),(uo1 8),(uo1 9),(uo1 10),(uo1 11),(uo1 12),(uo1 13),(uo1 14),(uo1 15),(uo1 16),(uo1 17),(uo1 18),(uo1 19),(uo1 20),(uo1 21),(uo1 22),(uo1 23),(uo1 24),(uo1 25),(uo1 26),(uo1 27),(uo1 28),(uo1 29),(uo1 30),(uo1 31),(uo1 32),(uo1 33),(uo1 34),(uo1 35),(uo1 36),(uo1 37),(uo1 38),(uo1 39),(uo1 40),(uo1 41),(uo1 42),(uo1 43),(uo1 44),(uo1 45),(uo1 46),(uo1 47),(uo1 48)])∧St [] h0 w0 h0 [(some b4, .cells #[vI a3.aA,vS a3.aF,vI a3.aY.aU,vB a3.aY.aJ,vI a3.bY,vI a3.vN,vL Ia a3.ak.length Ib] 58 (0,0)),(some b3, .cells #[vL lV a2.au.length mG] 24 (0,0)),(some b2, .cells #[vI a1.aA,vS a1.aF,vI a1.aY.aU,vB a1.aY.aJ,vI a1.bY,vI a1.vN,vL rG a1.ak.length rH] 58 (0,0)),(some b1, .cells #[vL bQ a0.au.length bT] 24 (0,0))] w') k ⟨0,(fit X),H,HS5⟩ ?_ ?_
   ·rintro m us w6 ⟨aC,nO,H,HS6⟩
    obtain ⟨uy1,rfl⟩:=unj nO
    cases m with
    |zero=>exact absurd H (by simp [dI.l0])
    |succ m=>
     rw [dI.l0] at H
     try simp only [patch,sc0,sc1]
     refine Al<|Al<|Ao<|rs (vI aC) (aO X)<|rs (vP b2 6) (aH (n:=1) (o':=6) X An X A4 (by decide) X)<|rs (vL rG a1.ak.length rH) (aN X Bs (HS6.look 2 X) X)<|rs (vI (a1.ak.length:Int)) (jD X AK)<|aK (by simp only [sc0,sc1];rfl) ?_
     refine rs (vB (decide (aC<(a1.ak.length:Int)))) (bW X X X) ?_
     try simp only [sc0,sc1]
     refine aB<|ay<|Av (t:=(decide (aC<(a1.ak.length:Int)))) X (fun c3=>?_) (fun c3=>?_)
     ·replace H:=bU H c3
      refine AN<|ay<|Al<|wp_block<|Al<|Ao<|rs (vP b2 6) (aH (n:=1) (o':=6) X An X A4 (by decide) X)<|rs (vL rG a1.ak.length rH) (aN X Bs (HS6.look 2 X) X)<|rs (vI aC) (aO X) ?_
      obtain ⟨hi1,H⟩:=dN H
      obtain ⟨ad1,e1,mJ⟩:=ji AU hi1.1 hi1.2
      refine rs (Value.pointer (some (Addr.add ad1 (aC.toNat*3)))) (dP (sz:=3) X e1 X hi1.1 hi1.2 AK AS)<|aK (by simp only [sc0,sc1];rfl) ?_
      refine rs (Value.agg #[vS ((rd aj a1.ak aC).aF),vI ((rd aj a1.ak aC).vType),vI ((rd aj a1.ak aC).vAt)]) (gG X BC (mJ.sees HS6.sees) AS)<|dF X X (dO (cs:=#[vS ByteArray.empty,vI 0,vI 0]) Bm X) ?_
      rintro w7 _ hE6 ⟨b5,rfl,ge5,hb5⟩
      have HS7:=HS6.new hE6 ge5 hb5
      refine gJ (i:=0) (cs:=[vS ByteArray.empty,vI 0,vI 0]) (cs':=[vS ((rd aj a1.ak aC).aF),vI ((rd aj a1.ak aC).vType),vI ((rd aj a1.ak aC).vAt)]) (vs:=[vS ((rd aj a1.ak aC).aF),vI ((rd aj a1.ak aC).vType),vI ((rd aj a1.ak aC).vAt)]) (bs':=[(some b5, .cells #[vS ((rd aj a1.ak aC).aF),vI ((rd aj a1.ak aC).vType),vI ((rd aj a1.ak aC).vAt)] 48 (0,0)),(some b4, .cells #[vI a3.aA,vS a3.aF,vI a3.aY.aU,vB a3.aY.aJ,vI a3.bY,vI a3.vN,vL Ia a3.ak.length Ib] 58 (0,0)),(some b3, .cells #[vL lV a2.au.length mG] 24 (0,0)),(some b2, .cells #[vI a1.aA,vS a1.aF,vI a1.aY.aU,vB a1.aY.aJ,vI a1.bY,vI a1.vN,vL rG a1.ak.length rH] 58 (0,0)),(some b1, .cells #[vL bQ a0.au.length bT] 24 (0,0))]) X X AS X X (by decide) X HS7 X (Ax X) X X ?_
      intro w8 HS8
      try simp only [sc0,sc1]
      refine aB<|ay<|Al<|Ao<|rs (vP b4 6) (aH (n:=1) (o':=6) X An X A4 (by decide) X)<|rs (vL Ia a3.ak.length Ib) (aN X Bs (HS8.look 1 X) X)<|rs (vI aC) (aO X) ?_
      obtain ⟨hi2,H⟩:=dN H
      obtain ⟨ad2,e2,tN⟩:=ji TJ hi2.1 hi2.2
      refine rs (Value.pointer (some (Addr.add ad2 (aC.toNat*3)))) (dP (sz:=3) X e2 X hi2.1 hi2.2 AK AS)<|aK (by simp only [sc0,sc1];rfl) ?_
      refine rs (Value.agg #[vS ((rd aj a3.ak aC).aF),vI ((rd aj a3.ak aC).vType),vI ((rd aj a3.ak aC).vAt)]) (gG X BC (tN.sees HS8.sees) AS)<|dF X X (dO (cs:=#[vS ByteArray.empty,vI 0,vI 0]) Bm X) ?_
      rintro w9 _ hE7 ⟨b6,rfl,ge6,hb6⟩
      have HS9:=HS8.new hE7 ge6 hb6
      refine gJ (i:=0) (cs:=[vS ByteArray.empty,vI 0,vI 0]) (cs':=[vS ((rd aj a3.ak aC).aF),vI ((rd aj a3.ak aC).vType),vI ((rd aj a3.ak aC).vAt)]) (vs:=[vS ((rd aj a3.ak aC).aF),vI ((rd aj a3.ak aC).vType),vI ((rd aj a3.ak aC).vAt)]) (bs':=[(some b6, .cells #[vS ((rd aj a3.ak aC).aF),vI ((rd aj a3.ak aC).vType),vI ((rd aj a3.ak aC).vAt)] 48 (0,0)),(some b5, .cells #[vS ((rd aj a1.ak aC).aF),vI ((rd aj a1.ak aC).vType),vI ((rd aj a1.ak aC).vAt)] 48 (0,0)),(some b4, .cells #[vI a3.aA,vS a3.aF,vI a3.aY.aU,vB a3.aY.aJ,vI a3.bY,vI a3.vN,vL Ia a3.ak.length Ib] 58 (0,0)),(some b3, .cells #[vL lV a2.au.length mG] 24 (0,0)),(some b2, .cells #[vI a1.aA,vS a1.aF,vI a1.aY.aU,vB a1.aY.aJ,vI a1.bY,vI a1.vN,vL rG a1.ak.length rH] 58 (0,0)),(some b1, .cells #[vL bQ a0.au.length bT] 24 (0,0))]) X X AS X X (by decide) X HS9 X (Ax X) X X ?_
      intro w10 kF
      try simp only [sc0,sc1]
      refine aB<|ay<|Al ?_
      obtain ⟨v3,H3,H⟩:=bn H
      obtain ⟨v4,H4,H⟩:=bn H
      refine drawn [.eq (vP b5 0), .eq (vS ((rd aj a1.ak aC).aF)), .eq (vP b6 0), .eq (vS ((rd aj a3.ak aC).aF)), .eq (vB (!(strEq ((rd aj a1.ak aC).aF) ((rd aj a3.ak aC).aF)))), .eq (vB (!(strEq ((rd aj a1.ak aC).aF) ((rd aj a3.ak aC).aF)))), .eq (gv (true&&((!(strEq ((rd aj a1.ak aC).aF) ((rd aj a3.ak aC).aF)))==false)) (vP b5 2)), .eq (gv (true&&((!(strEq ((rd aj a1.ak aC).aF) ((rd aj a3.ak aC).aF)))==false)) (vI ((rd aj a1.ak aC).vAt))), .eq (gv (true&&((!(strEq ((rd aj a1.ak aC).aF) ((rd aj a3.ak aC).aF)))==false)) (vP b6 2)), .eq (gv (true&&((!(strEq ((rd aj a1.ak aC).aF) ((rd aj a3.ak aC).aF)))==false)) (vI ((rd aj a3.ak aC).vAt))), .eq (gv (true&&((!(strEq ((rd aj a1.ak aC).aF) ((rd aj a3.ak aC).aF)))==false)) (vB ((rd aj a1.ak aC).vAt !=(rd aj a3.ak aC).vAt))), .eq (vB ((!(strEq ((rd aj a1.ak aC).aF) ((rd aj a3.ak aC).aF)))||((rd aj a1.ak aC).vAt !=(rd aj a3.ak aC).vAt))), .eq (vB ((!(strEq ((rd aj a1.ak aC).aF) ((rd aj a3.ak aC).aF)))||((rd aj a1.ak aC).vAt !=(rd aj a3.ak aC).vAt))), .eq (gv (true&&(((!(strEq ((rd aj a1.ak aC).aF) ((rd aj a3.ak aC).aF)))||((rd aj a1.ak aC).vAt !=(rd aj a3.ak aC).vAt))==false)) (vP b2 0)), .eq (gv (true&&(((!(strEq ((rd aj a1.ak aC).aF) ((rd aj a3.ak aC).aF)))||((rd aj a1.ak aC).vAt !=(rd aj a3.ak aC).vAt))==false)) (vI a1.aA)), .eq (gv (true&&(((!(strEq ((rd aj a1.ak aC).aF) ((rd aj a3.ak aC).aF)))||((rd aj a1.ak aC).vAt !=(rd aj a3.ak aC).vAt))==false)) (vB (a1.aA==4))), .eq (gv (true&&(((!(strEq ((rd aj a1.ak aC).aF) ((rd aj a3.ak aC).aF)))||((rd aj a1.ak aC).vAt !=(rd aj a3.ak aC).vAt))==false)) (vB (a1.aA==4))), .eq (gv ((true&&(((!(strEq ((rd aj a1.ak aC).aF) ((rd aj a3.ak aC).aF)))||((rd aj a1.ak aC).vAt !=(rd aj a3.ak aC).vAt))==false))&&((a1.aA==4)==true)) (Value.agg #[vL bQ a0.au.length bT])), .eq (gv ((true&&(((!(strEq ((rd aj a1.ak aC).aF) ((rd aj a3.ak aC).aF)))||((rd aj a1.ak aC).vAt !=(rd aj a3.ak aC).vAt))==false))&&((a1.aA==4)==true)) (vP b5 1)), .eq (gv ((true&&(((!(strEq ((rd aj a1.ak aC).aF) ((rd aj a3.ak aC).aF)))||((rd aj a1.ak aC).vAt !=(rd aj a3.ak aC).vAt))==false))&&((a1.aA==4)==true)) (vI ((rd aj a1.ak aC).vType))), .eq (gv ((true&&(((!(strEq ((rd aj a1.ak aC).aF) ((rd aj a3.ak aC).aF)))||((rd aj a1.ak aC).vAt !=(rd aj a3.ak aC).vAt))==false))&&((a1.aA==4)==true)) (vS v3)), .eq (gv ((true&&(((!(strEq ((rd aj a1.ak aC).aF) ((rd aj a3.ak aC).aF)))||((rd aj a1.ak aC).vAt !=(rd aj a3.ak aC).vAt))==false))&&((a1.aA==4)==true)) (Value.agg #[vL lV a2.au.length mG])), .eq (gv ((true&&(((!(strEq ((rd aj a1.ak aC).aF) ((rd aj a3.ak aC).aF)))||((rd aj a1.ak aC).vAt !=(rd aj a3.ak aC).vAt))==false))&&((a1.aA==4)==true)) (vP b6 1)), .eq (gv ((true&&(((!(strEq ((rd aj a1.ak aC).aF) ((rd aj a3.ak aC).aF)))||((rd aj a1.ak aC).vAt !=(rd aj a3.ak aC).vAt))==false))&&((a1.aA==4)==true)) (vI ((rd aj a3.ak aC).vType))), .eq (gv ((true&&(((!(strEq ((rd aj a1.ak aC).aF) ((rd aj a3.ak aC).aF)))||((rd aj a1.ak aC).vAt !=(rd aj a3.ak aC).vAt))==false))&&((a1.aA==4)==true)) (vS v4)), .eq (gv ((true&&(((!(strEq ((rd aj a1.ak aC).aF) ((rd aj a3.ak aC).aF)))||((rd aj a1.ak aC).vAt !=(rd aj a3.ak aC).vAt))==false))&&((a1.aA==4)==true)) (vB (!(strEq v3 v4)))), .eq (gv (true&&(((!(strEq ((rd aj a1.ak aC).aF) ((rd aj a3.ak aC).aF)))||((rd aj a1.ak aC).vAt !=(rd aj a3.ak aC).vAt))==false)) (vB ((a1.aA==4)&&(!(strEq v3 v4))))), .eq (vB (((!(strEq ((rd aj a1.ak aC).aF) ((rd aj a3.ak aC).aF)))||((rd aj a1.ak aC).vAt !=(rd aj a3.ak aC).vAt))||((a1.aA==4)&&(!(strEq v3 v4)))))] [78,79,80,81,82,83,84,85,86,87,88,89,90,91,92,93,94,95,96,97,98,99,100,101,102,103,104,105] rM (by kernel_rfl) X (aP (aP (aP (aP (aP (aP (aP (aP (aP (aP (aP (aP (aP (aP (aP (aP (aP (aP (aP (aP (aP (aP (aP (aP (aP (aP (aP (aP iJ)))))))))))))))))))))))))))) ⟨aX X (fun a' w' hE hk=>by exact aW (aH (n:=1) (o':=0) (show _=vP b5 0 from hk 10 X) AJ X AW (by decide) X)),aX X (fun a' w' hE hk=>by exact aW (aN (show _=vP b5 0 from hk 78 X) Be ((kF.step hE).look 1 X) X)),aX X (fun a' w' hE hk=>by exact aW (aH (n:=1) (o':=0) (show _=vP b6 0 from hk 11 X) AJ X AW (by decide) X)),aX X (fun a' w' hE hk=>by exact aW (aN (show _=vP b6 0 from hk 80 X) Be ((kF.step hE).look 0 X) X)),aX X (fun a' w' hE hk=>by exact aW (ql (show _=vS ((rd aj a1.ak aC).aF) from hk 79 X) (show _=vS ((rd aj a3.ak aC).aF) from hk 81 X))),aX X (fun a' w' hE hk=>by exact aW (aO (show _=vB (!(strEq ((rd aj a1.ak aC).aF) ((rd aj a3.ak aC).aF))) from hk 82 X))),dA (b:=(!(strEq ((rd aj a1.ak aC).aF) ((rd aj a3.ak aC).aF)))) (c:=true) X X (by decide) (fun w' u hu=>hu) (fun a' w' hE hk hg=>by exact aW (aH (n:=1) (o':=2) (show _=vP b5 0 from hk 10 X) AJ X As (by decide) X)),dA (b:=(!(strEq ((rd aj a1.ak aC).aF) ((rd aj a3.ak aC).aF)))) (c:=true) X X (by decide) (fun w' u hu=>hu) (fun a' w' hE hk hg=>by exact aW (aN ((show _=gv (true&&((!(strEq ((rd aj a1.ak aC).aF) ((rd aj a3.ak aC).aF)))==false)) (vP b5 2) from (show _=gv (true&&((!(strEq ((rd aj a1.ak aC).aF) ((rd aj a3.ak aC).aF)))==false)) (vP b5 2) from hk 84 X)).trans (lW hg)) AC ((kF.step hE).look 1 X) X)),dA (b:=(!(strEq ((rd aj a1.ak aC).aF) ((rd aj a3.ak aC).aF)))) (c:=true) X X (by decide) (fun w' u hu=>hu) (fun a' w' hE hk hg=>by exact aW (aH (n:=1) (o':=2) (show _=vP b6 0 from hk 11 X) AJ X As (by decide) X)),dA (b:=(!(strEq ((rd aj a1.ak aC).aF) ((rd aj a3.ak aC).aF)))) (c:=true) X X (by decide) (fun w' u hu=>hu) (fun a' w' hE hk hg=>by exact aW (aN ((show _=gv (true&&((!(strEq ((rd aj a1.ak aC).aF) ((rd aj a3.ak aC).aF)))==false)) (vP b6 2) from (show _=gv (true&&((!(strEq ((rd aj a1.ak aC).aF) ((rd aj a3.ak aC).aF)))==false)) (vP b6 2) from hk 86 X)).trans (lW hg)) AC ((kF.step hE).look 0 X) X)),dA (b:=(!(strEq ((rd aj a1.ak aC).aF) ((rd aj a3.ak aC).aF)))) (c:=true) X X (by decide) (fun w' u hu=>hu) (fun a' w' hE hk hg=>by exact aW (bW ((show _=gv (true&&((!(strEq ((rd aj a1.ak aC).aF) ((rd aj a3.ak aC).aF)))==false)) (vI ((rd aj a1.ak aC).vAt)) from (show _=gv (true&&((!(strEq ((rd aj a1.ak aC).aF) ((rd aj a3.ak aC).aF)))==false)) (vI ((rd aj a1.ak aC).vAt)) from hk 85 X)).trans (lW hg)) ((show _=gv (true&&((!(strEq ((rd aj a1.ak aC).aF) ((rd aj a3.ak aC).aF)))==false)) (vI ((rd aj a3.ak aC).vAt)) from (show _=gv (true&&((!(strEq ((rd aj a1.ak aC).aF) ((rd aj a3.ak aC).aF)))==false)) (vI ((rd aj a3.ak aC).vAt)) from hk 87 X)).trans (lW hg)) X)),aX X (fun a' w' hE hk=>by exact aW (dQ (show _=vB (!(strEq ((rd aj a1.ak aC).aF) ((rd aj a3.ak aC).aF))) from hk 83 X) X (fun hp=>((show _=gv (true&&((!(strEq ((rd aj a1.ak aC).aF) ((rd aj a3.ak aC).aF)))==false)) (vB ((rd aj a1.ak aC).vAt !=(rd aj a3.ak aC).vAt)) from (show _=gv (true&&((!(strEq ((rd aj a1.ak aC).aF) ((rd aj a3.ak aC).aF)))==false)) (vB ((rd aj a1.ak aC).vAt !=(rd aj a3.ak aC).vAt)) from hk 88 X)).trans (lW (gQ X hp)))))),aX X (fun a' w' hE hk=>by exact aW (aO (show _=vB ((!(strEq ((rd aj a1.ak aC).aF) ((rd aj a3.ak aC).aF)))||((rd aj a1.ak aC).vAt !=(rd aj a3.ak aC).vAt)) from hk 89 X))),dA (b:=((!(strEq ((rd aj a1.ak aC).aF) ((rd aj a3.ak aC).aF)))||((rd aj a1.ak aC).vAt !=(rd aj a3.ak aC).vAt))) (c:=true) X X (by decide) (fun w' u hu=>hu) (fun a' w' hE hk hg=>by exact aW (aH (n:=1) (o':=0) (show _=vP b2 0 from hk 5 X) An X As (by decide) X)),dA (b:=((!(strEq ((rd aj a1.ak aC).aF) ((rd aj a3.ak aC).aF)))||((rd aj a1.ak aC).vAt !=(rd aj a3.ak aC).vAt))) (c:=true) X X (by decide) (fun w' u hu=>hu) (fun a' w' hE hk hg=>by exact aW (aN ((show _=gv (true&&(((!(strEq ((rd aj a1.ak aC).aF) ((rd aj a3.ak aC).aF)))||((rd aj a1.ak aC).vAt !=(rd aj a3.ak aC).vAt))==false)) (vP b2 0) from (show _=gv (true&&(((!(strEq ((rd aj a1.ak aC).aF) ((rd aj a3.ak aC).aF)))||((rd aj a1.ak aC).vAt !=(rd aj a3.ak aC).vAt))==false)) (vP b2 0) from hk 91 X)).trans (lW hg)) AC ((kF.step hE).look 4 X) X)),dA (b:=((!(strEq ((rd aj a1.ak aC).aF) ((rd aj a3.ak aC).aF)))||((rd aj a1.ak aC).vAt !=(rd aj a3.ak aC).vAt))) (c:=true) X X (by decide) (fun w' u hu=>hu) (fun a' w' hE hk hg=>by exact aW (bW ((show _=gv (true&&(((!(strEq ((rd aj a1.ak aC).aF) ((rd aj a3.ak aC).aF)))||((rd aj a1.ak aC).vAt !=(rd aj a3.ak aC).vAt))==false)) (vI a1.aA) from (show _=gv (true&&(((!(strEq ((rd aj a1.ak aC).aF) ((rd aj a3.ak aC).aF)))||((rd aj a1.ak aC).vAt !=(rd aj a3.ak aC).vAt))==false)) (vI a1.aA) from hk 92 X)).trans (lW hg)) X X)),dA (b:=((!(strEq ((rd aj a1.ak aC).aF) ((rd aj a3.ak aC).aF)))||((rd aj a1.ak aC).vAt !=(rd aj a3.ak aC).vAt))) (c:=true) X X (by decide) (fun w' u hu=>hu) (fun a' w' hE hk hg=>by exact aW (aO ((show _=gv (true&&(((!(strEq ((rd aj a1.ak aC).aF) ((rd aj a3.ak aC).aF)))||((rd aj a1.ak aC).vAt !=(rd aj a3.ak aC).vAt))==false)) (vB (a1.aA==4)) from (show _=gv (true&&(((!(strEq ((rd aj a1.ak aC).aF) ((rd aj a3.ak aC).aF)))||((rd aj a1.ak aC).vAt !=(rd aj a3.ak aC).vAt))==false)) (vB (a1.aA==4)) from hk 93 X)).trans (lW hg)))),dA (b:=(a1.aA==4)) (c:=(true&&(((!(strEq ((rd aj a1.ak aC).aF) ((rd aj a3.ak aC).aF)))||((rd aj a1.ak aC).vAt !=(rd aj a3.ak aC).vAt))==false))) X X (by decide) (fun w' u hu=>hu) (fun a' w' hE hk hg=>by exact aW (aT (n:=1) (vs:=[vL bQ a0.au.length bT]) (show _=vP b1 0 from hk 4 X) AI ((kF.step hE).look 5 X) AD X X)),dA (b:=(a1.aA==4)) (c:=(true&&(((!(strEq ((rd aj a1.ak aC).aF) ((rd aj a3.ak aC).aF)))||((rd aj a1.ak aC).vAt !=(rd aj a3.ak aC).vAt))==false))) X X (by decide) (fun w' u hu=>hu) (fun a' w' hE hk hg=>by exact aW (aH (n:=1) (o':=1) (show _=vP b5 0 from hk 10 X) AJ X As (by decide) X)),dA (b:=(a1.aA==4)) (c:=(true&&(((!(strEq ((rd aj a1.ak aC).aF) ((rd aj a3.ak aC).aF)))||((rd aj a1.ak aC).vAt !=(rd aj a3.ak aC).vAt))==false))) X X (by decide) (fun w' u hu=>hu) (fun a' w' hE hk hg=>by exact aW (aN ((show _=gv ((true&&(((!(strEq ((rd aj a1.ak aC).aF) ((rd aj a3.ak aC).aF)))||((rd aj a1.ak aC).vAt !=(rd aj a3.ak aC).vAt))==false))&&((a1.aA==4)==true)) (vP b5 1) from (show _=gv ((true&&(((!(strEq ((rd aj a1.ak aC).aF) ((rd aj a3.ak aC).aF)))||((rd aj a1.ak aC).vAt !=(rd aj a3.ak aC).vAt))==false))&&((a1.aA==4)==true)) (vP b5 1) from hk 96 X)).trans (lW hg)) AC ((kF.step hE).look 1 X) X)),dA (b:=(a1.aA==4)) (c:=(true&&(((!(strEq ((rd aj a1.ak aC).aF) ((rd aj a3.ak aC).aF)))||((rd aj a1.ak aC).vAt !=(rd aj a3.ak aC).vAt))==false))) X X (by decide) (fun w' u hu=>hu) (fun a' w' hE hk hg=>by exact (bC Co X (wF ((show _=gv ((true&&(((!(strEq ((rd aj a1.ak aC).aF) ((rd aj a3.ak aC).aF)))||((rd aj a1.ak aC).vAt !=(rd aj a3.ak aC).vAt))==false))&&((a1.aA==4)==true)) (Value.agg #[vL bQ a0.au.length bT]) from (show _=gv ((true&&(((!(strEq ((rd aj a1.ak aC).aF) ((rd aj a3.ak aC).aF)))||((rd aj a1.ak aC).vAt !=(rd aj a3.ak aC).vAt))==false))&&((a1.aA==4)==true)) (Value.agg #[vL bQ a0.au.length bT]) from hk 95 X)).trans (lW hg)) ((show _=gv ((true&&(((!(strEq ((rd aj a1.ak aC).aF) ((rd aj a3.ak aC).aF)))||((rd aj a1.ak aC).vAt !=(rd aj a3.ak aC).vAt))==false))&&((a1.aA==4)==true)) (vI ((rd aj a1.ak aC).vType)) from (show _=gv ((true&&(((!(strEq ((rd aj a1.ak aC).aF) ((rd aj a3.ak aC).aF)))||((rd aj a1.ak aC).vAt !=(rd aj a3.ak aC).vAt))==false))&&((a1.aA==4)==true)) (vI ((rd aj a1.ak aC).vType)) from hk 97 X)).trans (lW hg))) (dn.calls k a0 ((rd aj a1.ak aC).vType) bQ bT (kF.step hE).sees fK iF (bU H3 hg)))),dA (b:=(a1.aA==4)) (c:=(true&&(((!(strEq ((rd aj a1.ak aC).aF) ((rd aj a3.ak aC).aF)))||((rd aj a1.ak aC).vAt !=(rd aj a3.ak aC).vAt))==false))) X X (by decide) (fun w' u hu=>hu) (fun a' w' hE hk hg=>by exact aW (aT (n:=1) (vs:=[vL lV a2.au.length mG]) (show _=vP b3 0 from hk 6 X) AI ((kF.step hE).look 3 X) AD X X)),dA (b:=(a1.aA==4)) (c:=(true&&(((!(strEq ((rd aj a1.ak aC).aF) ((rd aj a3.ak aC).aF)))||((rd aj a1.ak aC).vAt !=(rd aj a3.ak aC).vAt))==false))) X X (by decide) (fun w' u hu=>hu) (fun a' w' hE hk hg=>by exact aW (aH (n:=1) (o':=1) (show _=vP b6 0 from hk 11 X) AJ X As (by decide) X)),dA (b:=(a1.aA==4)) (c:=(true&&(((!(strEq ((rd aj a1.ak aC).aF) ((rd aj a3.ak aC).aF)))||((rd aj a1.ak aC).vAt !=(rd aj a3.ak aC).vAt))==false))) X X (by decide) (fun w' u hu=>hu) (fun a' w' hE hk hg=>by exact aW (aN ((show _=gv ((true&&(((!(strEq ((rd aj a1.ak aC).aF) ((rd aj a3.ak aC).aF)))||((rd aj a1.ak aC).vAt !=(rd aj a3.ak aC).vAt))==false))&&((a1.aA==4)==true)) (vP b6 1) from (show _=gv ((true&&(((!(strEq ((rd aj a1.ak aC).aF) ((rd aj a3.ak aC).aF)))||((rd aj a1.ak aC).vAt !=(rd aj a3.ak aC).vAt))==false))&&((a1.aA==4)==true)) (vP b6 1) from hk 100 X)).trans (lW hg)) AC ((kF.step hE).look 0 X) X)),dA (b:=(a1.aA==4)) (c:=(true&&(((!(strEq ((rd aj a1.ak aC).aF) ((rd aj a3.ak aC).aF)))||((rd aj a1.ak aC).vAt !=(rd aj a3.ak aC).vAt))==false))) X X (by decide) (fun w' u hu=>hu) (fun a' w' hE hk hg=>by exact (bC Co X (wF ((show _=gv ((true&&(((!(strEq ((rd aj a1.ak aC).aF) ((rd aj a3.ak aC).aF)))||((rd aj a1.ak aC).vAt !=(rd aj a3.ak aC).vAt))==false))&&((a1.aA==4)==true)) (Value.agg #[vL lV a2.au.length mG]) from (show _=gv ((true&&(((!(strEq ((rd aj a1.ak aC).aF) ((rd aj a3.ak aC).aF)))||((rd aj a1.ak aC).vAt !=(rd aj a3.ak aC).vAt))==false))&&((a1.aA==4)==true)) (Value.agg #[vL lV a2.au.length mG]) from hk 99 X)).trans (lW hg)) ((show _=gv ((true&&(((!(strEq ((rd aj a1.ak aC).aF) ((rd aj a3.ak aC).aF)))||((rd aj a1.ak aC).vAt !=(rd aj a3.ak aC).vAt))==false))&&((a1.aA==4)==true)) (vI ((rd aj a3.ak aC).vType)) from (show _=gv ((true&&(((!(strEq ((rd aj a1.ak aC).aF) ((rd aj a3.ak aC).aF)))||((rd aj a1.ak aC).vAt !=(rd aj a3.ak aC).vAt))==false))&&((a1.aA==4)==true)) (vI ((rd aj a3.ak aC).vType)) from hk 101 X)).trans (lW hg))) (dn.calls k a2 ((rd aj a3.ak aC).vType) lV mG (kF.step hE).sees pY vY (bU H4 hg)))),dA (b:=(a1.aA==4)) (c:=(true&&(((!(strEq ((rd aj a1.ak aC).aF) ((rd aj a3.ak aC).aF)))||((rd aj a1.ak aC).vAt !=(rd aj a3.ak aC).vAt))==false))) X X (by decide) (fun w' u hu=>hu) (fun a' w' hE hk hg=>by exact aW (ql ((show _=gv ((true&&(((!(strEq ((rd aj a1.ak aC).aF) ((rd aj a3.ak aC).aF)))||((rd aj a1.ak aC).vAt !=(rd aj a3.ak aC).vAt))==false))&&((a1.aA==4)==true)) (vS v3) from (show _=gv ((true&&(((!(strEq ((rd aj a1.ak aC).aF) ((rd aj a3.ak aC).aF)))||((rd aj a1.ak aC).vAt !=(rd aj a3.ak aC).vAt))==false))&&((a1.aA==4)==true)) (vS v3) from hk 98 X)).trans (lW hg)) ((show _=gv ((true&&(((!(strEq ((rd aj a1.ak aC).aF) ((rd aj a3.ak aC).aF)))||((rd aj a1.ak aC).vAt !=(rd aj a3.ak aC).vAt))==false))&&((a1.aA==4)==true)) (vS v4) from (show _=gv ((true&&(((!(strEq ((rd aj a1.ak aC).aF) ((rd aj a3.ak aC).aF)))||((rd aj a1.ak aC).vAt !=(rd aj a3.ak aC).vAt))==false))&&((a1.aA==4)==true)) (vS v4) from hk 102 X)).trans (lW hg)))),dA (b:=((!(strEq ((rd aj a1.ak aC).aF) ((rd aj a3.ak aC).aF)))||((rd aj a1.ak aC).vAt !=(rd aj a3.ak aC).vAt))) (c:=true) X X (by decide) (fun w' u hu=>hu) (fun a' w' hE hk hg=>by exact aW (dL ((show _=gv (true&&(((!(strEq ((rd aj a1.ak aC).aF) ((rd aj a3.ak aC).aF)))||((rd aj a1.ak aC).vAt !=(rd aj a3.ak aC).vAt))==false)) (vB (a1.aA==4)) from (show _=gv (true&&(((!(strEq ((rd aj a1.ak aC).aF) ((rd aj a3.ak aC).aF)))||((rd aj a1.ak aC).vAt !=(rd aj a3.ak aC).vAt))==false)) (vB (a1.aA==4)) from hk 94 X)).trans (lW hg)) (fun hp=>((show _=gv ((true&&(((!(strEq ((rd aj a1.ak aC).aF) ((rd aj a3.ak aC).aF)))||((rd aj a1.ak aC).vAt !=(rd aj a3.ak aC).vAt))==false))&&((a1.aA==4)==true)) (vB (!(strEq v3 v4))) from (show _=gv ((true&&(((!(strEq ((rd aj a1.ak aC).aF) ((rd aj a3.ak aC).aF)))||((rd aj a1.ak aC).vAt !=(rd aj a3.ak aC).vAt))==false))&&((a1.aA==4)==true)) (vB (!(strEq v3 v4))) from hk 103 X)).trans (lW (gQ hg hp)))) X)),aX X (fun a' w' hE hk=>by exact aW (dQ (show _=vB ((!(strEq ((rd aj a1.ak aC).aF) ((rd aj a3.ak aC).aF)))||((rd aj a1.ak aC).vAt !=(rd aj a3.ak aC).vAt)) from hk 90 X) X (fun hp=>((show _=gv (true&&(((!(strEq ((rd aj a1.ak aC).aF) ((rd aj a3.ak aC).aF)))||((rd aj a1.ak aC).vAt !=(rd aj a3.ak aC).vAt))==false)) (vB ((a1.aA==4)&&(!(strEq v3 v4)))) from (show _=gv (true&&(((!(strEq ((rd aj a1.ak aC).aF) ((rd aj a3.ak aC).aF)))||((rd aj a1.ak aC).vAt !=(rd aj a3.ak aC).vAt))==false)) (vB ((a1.aA==4)&&(!(strEq v3 v4)))) from hk 104 X)).trans (lW (gQ X hp)))))),trivial⟩ ?_
      intro w11 hE8
      simp only [List.zip_cons_cons,List.zip_nil_left,List.zip_nil_right,vO,sc0,sc1,List.length_cons,List.length_nil,List.drop_succ_cons,List.drop_zero,Nat.zero_add,Nat.reduceAdd]
      have oC:=kF.step hE8
      refine aB<|ay<|Av (t:=(((!(strEq ((rd aj a1.ak aC).aF) ((rd aj a3.ak aC).aF)))||((rd aj a1.ak aC).vAt !=(rd aj a3.ak aC).vAt))||((a1.aA==4)&&(!(strEq v3 v4))))) X (fun c4=>?_) (fun c4=>?_)
      ·replace H:=bU H c4
       refine Al<|Ao<|rs (vB false) (aG X) ?_
       try simp only [sc0,sc1]
       refine aB<|ay<|AT<|fA<|bP<|jm<|bP ?_
       obtain rfl:=Ab H
       obtain rfl:=Ab G1
       exact Ay (bD X (bK X)) X<|⟨X,oC.toE⟩
      ·replace H:=cO H (nt c4)
       refine AN<|dD<|ay<|Ao<|rs (vI aC) (aO X)<|rs (vI (w64 (aC+1))) (bW X X X)<|rs (vI (w64 (aC+1))) (aG X) ?_
       try simp only [sc0,sc1]
       refine aB<|gI m (Nat.lt_succ_self m) X ⟨(w64 (aC+1)),(fit X),H,oC.tail.tail⟩
     ·replace H:=cO H (nt c3)
      refine Bx<|eU ?_
      obtain rfl:=Ab H
      refine iK X ⟨_,X,(fit X),HS6⟩
   ·rintro us w12 ⟨s1,rfl,nP,mW⟩
    obtain ⟨uo1,rfl⟩:=unj nP
    replace H:=G1
    clear G1
    try simp only [patch,sc0,sc1]
    refine ay<|Al<|Ao<|rs (vB true) (aG X) ?_
    try simp only [sc0,sc1]
    refine aB<|ay<|AT ?_
    obtain rfl:=Ab H
    exact Ay (bD X (bK X)) X<|⟨X,mW.toE⟩
def dJ.l0 (k:Nat) (a0:aQ) (a2:aQ) (v5:(List Bool)):Nat→Int→Option ((Bool)⊕(Unit))
 |0,_=>none
 |m+1,aC=>if (decide (aC<(a0.au.length:Int)))=true then (if 0≤aC∧aC<v5.length then (if (true&&((!(rd false v5 aC))==false))=true→(0≤aC∧aC<a0.au.length) then ((if (true&&((!(rd false v5 aC))==false))=true then dZ.f (rd ah a0.au aC) else some false).bind fun v6=>(if ((!(rd false v5 aC))||(!v6))=true then (dJ.l0 k a0 a2 v5 m (IntKind.wrap .i64 (aC+1))) else (if 0≤aC∧aC<a0.au.length then ((dW.f k a2 ((rd ah a0.au aC).aF)).bind fun v7=>(if (true&&((decide (v7<0))==false))=true→(0≤aC∧aC<a0.au.length) then (if (true&&((decide (v7<0))==false))=true→(0≤v7∧v7<a2.au.length) then ((if (true&&((decide (v7<0))==false))=true then dI.f k a0 (rd ah a0.au aC) a2 (rd ah a2.au v7) else some false).bind fun v8=>(if ((decide (v7<0))||(!v8))=true then (some (.inl false)) else (dJ.l0 k a0 a2 v5 m (IntKind.wrap .i64 (aC+1))))) else none) else none)) else none))) else none) else none) else (some (.inr ()))
def dJ.f (k:Nat) (a0:aQ) (a1:Int) (a2:aQ) (a3:Int):Option (Bool):=(fO.f k a0 a1).bind fun v1=>((if (true&&((v1 !=0)==false))=true then fO.f k a2 a3 else some 0).bind fun v2=>((if (true&&(((v1 !=0)||(v2 !=0))==false))=true then dn.f k a0 a1 else some ByteArray.empty).bind fun v3=>((if (true&&(((v1 !=0)||(v2 !=0))==false))=true then dn.f k a2 a3 else some ByteArray.empty).bind fun v4=>(if (((v1 !=0)||(v2 !=0))||(!(strEq v3 v4)))=true then (some false) else ((bZ.f k a0 ([a1]:List Int)).bind fun v5=>((dJ.l0 k a0 a2 v5 k 0).bind fun xx1=>(match xx1 with| .inl r=>some r| .inr s1=>some true)))))))
theorem dJ.calls (k:Nat) (a0:aQ) (a1:Int) (a2:aQ) (a3:Int) (bQ:Option Addr) (bT:Nat) (lV:Option Addr) (mG:Nat) {h0:View} {w0:World} (hv:lS h0 w0) (fK:Rd bI h0 bQ a0.au) (iF:a0.au.length≤bT) (pY:Rd bI h0 lV a2.au) (vY:a2.au.length≤mG) {r:Bool} (H:dJ.f k a0 a1 a2 a3=some r):Calls Tryz.prog 36 #[Value.agg #[vL bQ a0.au.length bT],vI a1,Value.agg #[vL lV a2.au.length mG],vI a3] w0 (fun e w1=>e= .returned (vB r)∧Ext w0 w1):=by
 unfold dJ.f at H
 have HS:St [] h0 w0 h0 [] w0:=St.init hv
 go_enter Tryz.func36,Tryz.ntmps36
 refine Al<|Ao<|dF X X (eF (cs:=#[vL bQ a0.au.length bT]) X X) ?_
 rintro w1 _ hE1 ⟨b1,rfl,ge1,hb1⟩
 have HS1:=HS.new hE1 ge1 hb1
 refine dF X X (eF (cs:=#[vL lV a2.au.length mG]) X X) ?_
 rintro w2 _ hE2 ⟨b2,rfl,ge2,hb2⟩
 have HS2:=HS1.new hE2 ge2 hb2
 refine rs (vB false) (aG X) ?_
 try simp only [sc0,sc1]
 refine aB<|ay<|Al<|Al ?_
 obtain ⟨v1,H1,H⟩:=bn H
 obtain ⟨v2,H2,H⟩:=bn H
 obtain ⟨v3,H3,H⟩:=bn H
 obtain ⟨v4,H4,H⟩:=bn H
 refine drawn [.eq (Value.agg #[vL bQ a0.au.length bT]), .eq (vI a1), .eq (vI v1), .eq (vB (v1 !=0)), .eq (vB (v1 !=0)), .eq (gv (true&&((v1 !=0)==false)) (Value.agg #[vL lV a2.au.length mG])), .eq (gv (true&&((v1 !=0)==false)) (vI a3)), .eq (gv (true&&((v1 !=0)==false)) (vI v2)), .eq (gv (true&&((v1 !=0)==false)) (vB (v2 !=0))), .eq (vB ((v1 !=0)||(v2 !=0))), .eq (vB ((v1 !=0)||(v2 !=0))), .eq (gv (true&&(((v1 !=0)||(v2 !=0))==false)) (Value.agg #[vL bQ a0.au.length bT])), .eq (gv (true&&(((v1 !=0)||(v2 !=0))==false)) (vI a1)), .eq (gv (true&&(((v1 !=0)||(v2 !=0))==false)) (vS v3)), .eq (gv (true&&(((v1 !=0)||(v2 !=0))==false)) (Value.agg #[vL lV a2.au.length mG])), .eq (gv (true&&(((v1 !=0)||(v2 !=0))==false)) (vI a3)), .eq (gv (true&&(((v1 !=0)||(v2 !=0))==false)) (vS v4)), .eq (gv (true&&(((v1 !=0)||(v2 !=0))==false)) (vB (!(strEq v3 v4)))), .eq (vB (((v1 !=0)||(v2 !=0))||(!(strEq v3 v4))))] [12,13,14,15,16,17,18,19,20,21,22,23,24,25,26,27,28,29,30] rM (by kernel_rfl) X (aP (aP (aP (aP (aP (aP (aP (aP (aP (aP (aP (aP (aP (aP (aP (aP (aP (aP (aP iJ))))))))))))))))))) ⟨aX X (fun a' w' hE hk=>by exact aW (aT (n:=1) (vs:=[vL bQ a0.au.length bT]) (show _=vP b1 0 from hk 4 X) AI ((HS2.step hE).look 1 X) AD X X)),aX X (fun a' w' hE hk=>by exact aW (aO (show _=vI a1 from hk 1 X))),aX X (fun a' w' hE hk=>by exact (bC Tryz.call64 X (wF (show _=Value.agg #[vL bQ a0.au.length bT] from hk 12 X) (show _=vI a1 from hk 13 X)) (fO.calls k a0 a1 bQ bT (HS2.step hE).sees fK iF H1))),aX X (fun a' w' hE hk=>by exact aW (bW (show _=vI v1 from hk 14 X) X X)),aX X (fun a' w' hE hk=>by exact aW (aO (show _=vB (v1 !=0) from hk 15 X))),dA (b:=(v1 !=0)) (c:=true) X X (by decide) (fun w' u hu=>hu) (fun a' w' hE hk hg=>by exact aW (aT (n:=1) (vs:=[vL lV a2.au.length mG]) (show _=vP b2 0 from hk 6 X) AI ((HS2.step hE).look 0 X) AD X X)),dA (b:=(v1 !=0)) (c:=true) X X (by decide) (fun w' u hu=>hu) (fun a' w' hE hk hg=>by exact aW (aO (show _=vI a3 from hk 3 X))),dA (b:=(v1 !=0)) (c:=true) X X (by decide) (fun w' u hu=>hu) (fun a' w' hE hk hg=>by exact (bC Tryz.call64 X (wF ((show _=gv (true&&((v1 !=0)==false)) (Value.agg #[vL lV a2.au.length mG]) from (show _=gv (true&&((v1 !=0)==false)) (Value.agg #[vL lV a2.au.length mG]) from hk 17 X)).trans (lW hg)) ((show _=gv (true&&((v1 !=0)==false)) (vI a3) from (show _=gv (true&&((v1 !=0)==false)) (vI a3) from hk 18 X)).trans (lW hg))) (fO.calls k a2 a3 lV mG (HS2.step hE).sees pY vY (bU H2 hg)))),dA (b:=(v1 !=0)) (c:=true) X X (by decide) (fun w' u hu=>hu) (fun a' w' hE hk hg=>by exact aW (bW ((show _=gv (true&&((v1 !=0)==false)) (vI v2) from (show _=gv (true&&((v1 !=0)==false)) (vI v2) from hk 19 X)).trans (lW hg)) X X)),aX X (fun a' w' hE hk=>by exact aW (dQ (show _=vB (v1 !=0) from hk 16 X) X (fun hp=>((show _=gv (true&&((v1 !=0)==false)) (vB (v2 !=0)) from (show _=gv (true&&((v1 !=0)==false)) (vB (v2 !=0)) from hk 20 X)).trans (lW (gQ X hp)))))),aX X (fun a' w' hE hk=>by exact aW (aO (show _=vB ((v1 !=0)||(v2 !=0)) from hk 21 X))),dA (b:=((v1 !=0)||(v2 !=0))) (c:=true) X X (by decide) (fun w' u hu=>hu) (fun a' w' hE hk hg=>by exact aW (aT (n:=1) (vs:=[vL bQ a0.au.length bT]) (show _=vP b1 0 from hk 4 X) AI ((HS2.step hE).look 1 X) AD X X)),dA (b:=((v1 !=0)||(v2 !=0))) (c:=true) X X (by decide) (fun w' u hu=>hu) (fun a' w' hE hk hg=>by exact aW (aO (show _=vI a1 from hk 1 X))),dA (b:=((v1 !=0)||(v2 !=0))) (c:=true) X X (by decide) (fun w' u hu=>hu) (fun a' w' hE hk hg=>by exact (bC Co X (wF ((show _=gv (true&&(((v1 !=0)||(v2 !=0))==false)) (Value.agg #[vL bQ a0.au.length bT]) from (show _=gv (true&&(((v1 !=0)||(v2 !=0))==false)) (Value.agg #[vL bQ a0.au.length bT]) from hk 23 X)).trans (lW hg)) ((show _=gv (true&&(((v1 !=0)||(v2 !=0))==false)) (vI a1) from (show _=gv (true&&(((v1 !=0)||(v2 !=0))==false)) (vI a1) from hk 24 X)).trans (lW hg))) (dn.calls k a0 a1 bQ bT (HS2.step hE).sees fK iF (bU H3 hg)))),dA (b:=((v1 !=0)||(v2 !=0))) (c:=true) X X (by decide) (fun w' u hu=>hu) (fun a' w' hE hk hg=>by exact aW (aT (n:=1) (vs:=[vL lV a2.au.length mG]) (show _=vP b2 0 from hk 6 X) AI ((HS2.step hE).look 0 X) AD X X)),dA (b:=((v1 !=0)||(v2 !=0))) (c:=true) X X (by decide) (fun w' u hu=>hu) (fun a' w' hE hk hg=>by exact aW (aO (show _=vI a3 from hk 3 X))),dA (b:=((v1 !=0)||(v2 !=0))) (c:=true) X X (by decide) (fun w' u hu=>hu) (fun a' w' hE hk hg=>by exact (bC Co X (wF ((show _=gv (true&&(((v1 !=0)||(v2 !=0))==false)) (Value.agg #[vL lV a2.au.length mG]) from (show _=gv (true&&(((v1 !=0)||(v2 !=0))==false)) (Value.agg #[vL lV a2.au.length mG]) from hk 26 X)).trans (lW hg)) ((show _=gv (true&&(((v1 !=0)||(v2 !=0))==false)) (vI a3) from (show _=gv (true&&(((v1 !=0)||(v2 !=0))==false)) (vI a3) from hk 27 X)).trans (lW hg))) (dn.calls k a2 a3 lV mG (HS2.step hE).sees pY vY (bU H4 hg)))),dA (b:=((v1 !=0)||(v2 !=0))) (c:=true) X X (by decide) (fun w' u hu=>hu) (fun a' w' hE hk hg=>by exact aW (ql ((show _=gv (true&&(((v1 !=0)||(v2 !=0))==false)) (vS v3) from (show _=gv (true&&(((v1 !=0)||(v2 !=0))==false)) (vS v3) from hk 25 X)).trans (lW hg)) ((show _=gv (true&&(((v1 !=0)||(v2 !=0))==false)) (vS v4) from (show _=gv (true&&(((v1 !=0)||(v2 !=0))==false)) (vS v4) from hk 28 X)).trans (lW hg)))),aX X (fun a' w' hE hk=>by exact aW (dQ (show _=vB ((v1 !=0)||(v2 !=0)) from hk 22 X) X (fun hp=>((show _=gv (true&&(((v1 !=0)||(v2 !=0))==false)) (vB (!(strEq v3 v4))) from (show _=gv (true&&(((v1 !=0)||(v2 !=0))==false)) (vB (!(strEq v3 v4))) from hk 29 X)).trans (lW (gQ X hp)))))),trivial⟩ ?_
 intro w3 hE3
 simp only [List.zip_cons_cons,List.zip_nil_left,List.zip_nil_right,vO,sc0,sc1,List.length_cons,List.length_nil,List.drop_succ_cons,List.drop_zero,Nat.zero_add,Nat.reduceAdd]
 have HS3:=HS2.step hE3
 refine aB<|ay<|Av (t:=(((v1 !=0)||(v2 !=0))||(!(strEq v3 v4)))) X (fun c1=>?_) (fun c1=>?_)
 ·replace H:=bU H c1
  refine Al<|Ao<|rs (vB false) (aG X) ?_
  try simp only [sc0,sc1]
  refine aB<|ay<|AT<|bP ?_
  obtain rfl:=Ab H
  exact Ay (bD X (bK X)) X<|⟨X,HS3.toE⟩
 ·replace H:=cO H (nt c1)
  refine AN<|ay<|Al<|Ao<|rs (Value.agg #[vL bQ a0.au.length bT]) (aT (n:=1) (vs:=[vL bQ a0.au.length bT]) X AI (HS3.look 1 X) AD X X)<|rs (vI a1) (aO X)<|ng (Kd.int .i64) (xs:=([a1]:List Int)) (n:=1) (cs:=[vI a1]) AG Br Bb X X (by decide) (by decide) (by decide) [vI a1] (jd.trans X) X X X X (fH (qs:=[vI a1]) X (jc (cs:=[]))) HS3 ?_
  intro w4 b3 HS4 ho1
  have ho2:=ho1.norm
  obtain ⟨h1,HS5,hs1,oV⟩:=lC HS4 (i:=0) rfl ho2
  have HS6:St [] h0 w0 h1 [(some b2, .cells #[vL lV a2.au.length mG] 24 (0,0)),(some b1, .cells #[vL bQ a0.au.length bT] 24 (0,0))] w4:=HS5
  obtain ⟨v5,H5,H⟩:=bn H
  refine dF X X (iQ Tryz.call37 X (jX (h:=h1) (R:=(fun hx u=>∃(mQ:Option Addr) (nR:Nat),u=vL mQ v5.length nR∧v5.length≤nR∧Rd Kd.bool hx mQ v5)) (Ext.rfl' w4) ((bZ.calls k a0 ([a1]:List Int) bQ bT (rowA (some b3)) 1 HS6.sees (fK.ext HS6.sub) iF oV ho2.cap H5).mono ?_)) X) ?_
  ·rintro _ _ ⟨h1,mQ,nR,rfl,yM,qN,g,ss,x⟩
   exact ⟨h1,_,X,⟨mQ,nR,X,yM,qN⟩,g,ss,x⟩
  rintro w5 _ hE4 ⟨h2,⟨mQ,nR,rfl,yM,qN⟩,gr1,se1⟩
  have HS7:=HS6.view hE4 gr1 se1
  replace oV:Rd (Kd.int .i64) h2 (rowA (some b3)) ([a1]:List Int):=oV.ext gr1.1
  refine aK (by simp only [sc0,sc1];rfl) ?_
  refine rs (vL mQ v5.length nR) (aG X) ?_
  try simp only [sc0,sc1]
  refine aB<|ay<|Al<|Al<|Ao<|rs (vI 0) (aG X) ?_
  try simp only [sc0,sc1]
  refine aB<|ay ?_
  obtain ⟨xx1,H,G1⟩:=bn H
  refine jB [8,10,11,35,36,37,38,39,40,41,42,43,44,45,46,47,48,49,50,51,52,53,54,55,56,57,58,59,60,61,62,63,64,65,66,67,68,69,70,71,72,73,74,75,76,77,78,79,80,81] (fun m us w'=>∃(aC:Int),Fit us (fun uy1=>[(uy1 0),vI aC,(uy1 2),(uy1 3),(uy1 4),(uy1 5),(uy1 6),(uy1 7),(uy1 8),(uy1 9),(uy1 10),(uy1 11),(uy1 12),(uy1 13),(uy1 14),(uy1 15),(uy1 16),(uy1 17),(uy1 18),(uy1 19),(uy1 20),(uy1 21),(uy1 22),(uy1 23),(uy1 24),(uy1 25),(uy1 26),(uy1 27),(uy1 28),(uy1 29),(uy1 30),(uy1 31),(uy1 32),(uy1 33),(uy1 34),(uy1 35),(uy1 36),(uy1 37),(uy1 38),(uy1 39),(uy1 40),(uy1 41),(uy1 42),(uy1 43),(uy1 44),(uy1 45),(uy1 46),(uy1 47),(uy1 48),(uy1 49)])∧dJ.l0 k a0 a2 v5 m aC=some xx1∧St [] h0 w0 h2 [(some b2, .cells #[vL lV a2.au.length mG] 24 (0,0)),(some b1, .cells #[vL bQ a0.au.length bT] 24 (0,0))] w') (fun us w'=>∃(s1:Unit),xx1= .inr s1∧Fit us (fun uo1=>[(uo1 0),(uo1 1),(uo1 2),(uo1 3),(uo1 4),(uo1 5),(uo1 6),(uo1 7),(uo1 8),(uo1 9),(uo1 10),(uo1 11),(uo1 12),(uo1 13),(uo1 14),(uo1 15),(uo1 16),(uo1 17),(uo1 18),(uo1 19),(uo1 20),(uo1 21),(uo1 22),(uo1 23),(uo1 24),(uo1 25),(uo1 26),(uo1 27),(uo1 28),(uo1 29),(uo1 30),(uo1 31),(uo1 32),(uo1 33),(uo1 34),(uo1 35),(uo1 36),(uo1 37),(uo1 38),(uo1 39),(uo1 40),(uo1 41),(uo1 42),(uo1 43),(uo1 44),(uo1 45),(uo1 46),(uo1 47),(uo1 48),(uo1 49)])∧St [] h0 w0 h2 [(some b2, .cells #[vL lV a2.au.length mG] 24 (0,0)),(some b1, .cells #[vL bQ a0.au.length bT] 24 (0,0))] w') k ⟨0,(fit X),H,HS7⟩ ?_ ?_
  ·rintro m us w6 ⟨aC,nO,H,HS8⟩
   obtain ⟨uy1,rfl⟩:=unj nO
   cases m with
   |zero=>exact absurd H (by simp [dJ.l0])
   |succ m=>
    rw [dJ.l0] at H
    try simp only [patch,sc0,sc1]
    refine Al<|Al<|Ao<|rs (vI aC) (aO X)<|rs (vP b1 0) (aH (n:=1) (o':=0) X AE X AM (by decide) X)<|rs (vL bQ a0.au.length bT) (aN X AR (HS8.look 1 X) X)<|rs (vI (a0.au.length:Int)) (jD X AF)<|aK (by simp only [sc0,sc1];rfl) ?_
    refine rs (vB (decide (aC<(a0.au.length:Int)))) (bW X X X) ?_
    try simp only [sc0,sc1]
    refine aB<|ay<|Av (t:=(decide (aC<(a0.au.length:Int)))) X (fun c2=>?_) (fun c2=>?_)
    ·replace H:=bU H c2
     refine AN<|ay<|Al<|wp_block<|Al<|Al<|Ao<|rs (vL mQ v5.length nR) (aO X)<|rs (vI aC) (aO X) ?_
     obtain ⟨hi1,H⟩:=dN H
     obtain ⟨ad1,e1,mJ⟩:=Ig qN hi1.1 hi1.2
     refine rs (Value.pointer (some (Addr.add ad1 (aC.toNat*1)))) (dP (sz:=1) X e1 X hi1.1 hi1.2 BT Bi)<|rs (vB (rd false v5 aC)) (kE X By (mJ.cell0 HS8.sees X))<|aK (by simp only [sc0,sc1];rfl) ?_
     refine rs (vB (!(rd false v5 aC))) (mZ X)<|rs (vB (!(rd false v5 aC))) (aO X)<|rgs (!(rd false v5 aC)) true (vP b1 0) X X X X (fun hg=>(aH (n:=1) (o':=0) X AE X AM (by decide) X))<|rgs (!(rd false v5 aC)) true (vL bQ a0.au.length bT) X X X X (fun hg=>(aN (gvt (vP b1 0) hg X) AR (HS8.look 1 X) X))<|aK (by simp only [sc0,sc1];rfl) ?_
     refine rgs (!(rd false v5 aC)) true (vI aC) X X X X (fun hg=>(aO X)) ?_
     obtain ⟨hi2,H⟩:=dN H
     obtain ⟨ad2,mO,mX,hq1⟩:=gx3 (fun hC:(true&&((!(rd false v5 aC))==false))=true=>gK (fK.ext HS8.sub) (hi2 hC).1 (hi2 hC).2)
     refine rgs (!(rd false v5 aC)) true (Value.pointer (some (Addr.add ad2 (aC.toNat*7)))) X X X X (fun hg=>(dP (sz:=7) (gvt (vL bQ a0.au.length bT) hg X) (hq1 hg).1 (gvt (vI aC) hg X) (hi2 hg).1 (hi2 hg).2 AF AH))<|rgs (!(rd false v5 aC)) true (Value.agg #[vI ((rd ah a0.au aC).aA),vS ((rd ah a0.au aC).aF),vI ((rd ah a0.au aC).aY.aU),vB ((rd ah a0.au aC).aY.aJ),vI ((rd ah a0.au aC).bY),vI ((rd ah a0.au aC).vN),vL mO ((rd ah a0.au aC).ak).length mX]) X X X X (fun hg=>(gG (gvt (Value.pointer (some (Addr.add ad2 (aC.toNat*7)))) hg X) A7 (((hq1 hg).2.1).sees HS8.sees) AH)) ?_
     obtain ⟨v6,H6,H⟩:=bn H
     refine sJ (b:=(!(rd false v5 aC))) (c:=true) (v:=vB v6) X X X X (fun hg=>(bC Cv X (Jk (gvt (Value.agg #[vI ((rd ah a0.au aC).aA),vS ((rd ah a0.au aC).aF),vI ((rd ah a0.au aC).aY.aU),vB ((rd ah a0.au aC).aY.aJ),vI ((rd ah a0.au aC).bY),vI ((rd ah a0.au aC).vN),vL mO ((rd ah a0.au aC).ak).length mX]) hg X)) (dZ.calls (rd ah a0.au aC) mO mX HS8.sees ((hq1 hg).2.2.2) ((hq1 hg).2.2.1) (bU H6 hg)))) ?_
     intro w7 hE5
     have HS9:=HS8.step hE5
     refine aK (by simp only [sc0,sc1];rfl) ?_
     refine rgs (!(rd false v5 aC)) true (vB (!v6)) X X X X (fun hg=>(mZ (gvt (vB v6) hg X)))<|rs (vB ((!(rd false v5 aC))||(!v6))) (dQ X X (fun hp=>(gvt (vB (!v6)) (gQ X hp) X))) ?_
     try simp only [sc0,sc1]
     refine aB<|ay<|Av (t:=((!(rd false v5 aC))||(!v6))) X (fun c3=>?_) (fun c3=>?_)
     ·replace H:=bU H c3
      refine Bx<|eU<|yH<|ay<|Ao<|rs (vI aC) (aO X)<|rs (vI (w64 (aC+1))) (bW X X X)<|rs (vI (w64 (aC+1))) (aG X) ?_
      try simp only [sc0,sc1]
      refine aB<|gI m (Nat.lt_succ_self m) X ⟨(w64 (aC+1)),(fit X),H,HS9⟩
     ·replace H:=cO H (nt c3)
      refine AN<|ay<|Al ?_
      obtain ⟨hi3,H⟩:=dN H
      obtain ⟨ad3,Dy,Ew,e3,IW,N9,Fv⟩:=gK (fK.ext HS9.sub) hi3.1 hi3.2
      obtain ⟨v7,H7,H⟩:=bn H
      refine drawn [.eq (Value.agg #[vL lV a2.au.length mG]), .eq (vP b1 0), .eq (vL bQ a0.au.length bT), .eq (vI aC), .eq (Value.pointer (some (Addr.add ad3 (aC.toNat*7)))), .eq (Value.pointer (some (Addr.add (Addr.add ad3 (aC.toNat*7)) 1))), .eq (vS ((rd ah a0.au aC).aF)), .eq (vI v7)] [56,57,58,59,60,61,62,63] rM (by kernel_rfl) X (aP (aP (aP (aP (aP (aP (aP (aP iJ)))))))) ⟨aX X (fun a' w' hE hk=>by exact aW (aT (n:=1) (vs:=[vL lV a2.au.length mG]) (show _=vP b2 0 from hk 6 X) AI ((HS9.step hE).look 0 X) AD X X)),aX X (fun a' w' hE hk=>by exact aW (aH (n:=1) (o':=0) (show _=vP b1 0 from hk 4 X) AE X AM (by decide) X)),aX X (fun a' w' hE hk=>by exact aW (aN (show _=vP b1 0 from hk 57 X) AR ((HS9.step hE).look 1 X) X)),aX X (fun a' w' hE hk=>by exact aW (aO (show _=vI aC from hk 10 X))),aX X (fun a' w' hE hk=>by exact aW (dP (sz:=7) (show _=vL bQ a0.au.length bT from hk 58 X) e3 (show _=vI aC from hk 59 X) hi3.1 hi3.2 AF AH)),aX X (fun a' w' hE hk=>by exact aW (nX (n:=1) (o':=1) (show _=Value.pointer (some (Addr.add ad3 (aC.toNat*7))) from hk 60 X) An X AW (by decide) X)),aX X (fun a' w' hE hk=>by exact aW (kE (show _=Value.pointer (some (Addr.add (Addr.add ad3 (aC.toNat*7)) 1)) from hk 61 X) Be (IW.cell (HS9.step hE).sees 1 X))),aX X (fun a' w' hE hk=>by exact (bC Ds X (wF (show _=Value.agg #[vL lV a2.au.length mG] from hk 56 X) (show _=vS ((rd ah a0.au aC).aF) from hk 62 X)) (dW.calls k a2 ((rd ah a0.au aC).aF) lV mG (HS9.step hE).sees (pY.ext HS9.sub) vY H7))),trivial⟩ ?_
      intro w8 hE6
      simp only [List.zip_cons_cons,List.zip_nil_left,List.zip_nil_right,vO,sc0,sc1,List.length_cons,List.length_nil,List.drop_succ_cons,List.drop_zero,Nat.zero_add,Nat.reduceAdd]
      have kF:=HS9.step hE6
      refine rs (vI v7) (aG X) ?_
      try simp only [sc0,sc1]
      refine aB<|ay<|Al ?_
      obtain ⟨hi4,H⟩:=dN H
      obtain ⟨ad4,yA,y5,hq2⟩:=gx3 (fun hC:(true&&((decide (v7<0))==false))=true=>gK (fK.ext kF.sub) (hi4 hC).1 (hi4 hC).2)
      obtain ⟨hi5,H⟩:=dN H
      obtain ⟨ad5,JJ,JK,hq3⟩:=gx3 (fun hC:(true&&((decide (v7<0))==false))=true=>gK (pY.ext kF.sub) (hi5 hC).1 (hi5 hC).2)
      obtain ⟨v8,H8,H⟩:=bn H
      refine drawn [.eq (vI v7), .eq (vB (decide (v7<0))), .eq (vB (decide (v7<0))), .eq (gv (true&&((decide (v7<0))==false)) (Value.agg #[vL bQ a0.au.length bT])), .eq (gv (true&&((decide (v7<0))==false)) (vP b1 0)), .eq (gv (true&&((decide (v7<0))==false)) (vL bQ a0.au.length bT)), .eq (gv (true&&((decide (v7<0))==false)) (vI aC)), .eq (gv (true&&((decide (v7<0))==false)) (Value.pointer (some (Addr.add ad4 (aC.toNat*7))))), .eq (gv (true&&((decide (v7<0))==false)) (Value.agg #[vI ((rd ah a0.au aC).aA),vS ((rd ah a0.au aC).aF),vI ((rd ah a0.au aC).aY.aU),vB ((rd ah a0.au aC).aY.aJ),vI ((rd ah a0.au aC).bY),vI ((rd ah a0.au aC).vN),vL yA ((rd ah a0.au aC).ak).length y5])), .eq (gv (true&&((decide (v7<0))==false)) (Value.agg #[vL lV a2.au.length mG])), .eq (gv (true&&((decide (v7<0))==false)) (vP b2 0)), .eq (gv (true&&((decide (v7<0))==false)) (vL lV a2.au.length mG)), .eq (gv (true&&((decide (v7<0))==false)) (vI v7)), .eq (gv (true&&((decide (v7<0))==false)) (Value.pointer (some (Addr.add ad5 (v7.toNat*7))))), .eq (gv (true&&((decide (v7<0))==false)) (Value.agg #[vI ((rd ah a2.au v7).aA),vS ((rd ah a2.au v7).aF),vI ((rd ah a2.au v7).aY.aU),vB ((rd ah a2.au v7).aY.aJ),vI ((rd ah a2.au v7).bY),vI ((rd ah a2.au v7).vN),vL JJ ((rd ah a2.au v7).ak).length JK])), .eq (gv (true&&((decide (v7<0))==false)) (vB v8)), .eq (gv (true&&((decide (v7<0))==false)) (vB (!v8))), .eq (vB ((decide (v7<0))||(!v8)))] [64,65,66,67,68,69,70,71,72,73,74,75,76,77,78,79,80,81] rM (by kernel_rfl) X (aP (aP (aP (aP (aP (aP (aP (aP (aP (aP (aP (aP (aP (aP (aP (aP (aP (aP iJ)))))))))))))))))) ⟨aX X (fun a' w' hE hk=>by exact aW (aO (show _=vI v7 from hk 11 X))),aX X (fun a' w' hE hk=>by exact aW (bW (show _=vI v7 from hk 64 X) X X)),aX X (fun a' w' hE hk=>by exact aW (aO (show _=vB (decide (v7<0)) from hk 65 X))),dA (b:=(decide (v7<0))) (c:=true) X X (by decide) (fun w' u hu=>hu) (fun a' w' hE hk hg=>by exact aW (aT (n:=1) (vs:=[vL bQ a0.au.length bT]) (show _=vP b1 0 from hk 4 X) AI ((kF.step hE).look 1 X) AD X X)),dA (b:=(decide (v7<0))) (c:=true) X X (by decide) (fun w' u hu=>hu) (fun a' w' hE hk hg=>by exact aW (aH (n:=1) (o':=0) (show _=vP b1 0 from hk 4 X) AE X AM (by decide) X)),dA (b:=(decide (v7<0))) (c:=true) X X (by decide) (fun w' u hu=>hu) (fun a' w' hE hk hg=>by exact aW (aN ((show _=gv (true&&((decide (v7<0))==false)) (vP b1 0) from (show _=gv (true&&((decide (v7<0))==false)) (vP b1 0) from hk 68 X)).trans (lW hg)) AR ((kF.step hE).look 1 X) X)),dA (b:=(decide (v7<0))) (c:=true) X X (by decide) (fun w' u hu=>hu) (fun a' w' hE hk hg=>by exact aW (aO (show _=vI aC from hk 10 X))),dA (b:=(decide (v7<0))) (c:=true) X X (by decide) (fun w' u hu=>hu) (fun a' w' hE hk hg=>by exact aW (dP (sz:=7) ((show _=gv (true&&((decide (v7<0))==false)) (vL bQ a0.au.length bT) from (show _=gv (true&&((decide (v7<0))==false)) (vL bQ a0.au.length bT) from hk 69 X)).trans (lW hg)) (hq2 hg).1 ((show _=gv (true&&((decide (v7<0))==false)) (vI aC) from (show _=gv (true&&((decide (v7<0))==false)) (vI aC) from hk 70 X)).trans (lW hg)) (hi4 hg).1 (hi4 hg).2 AF AH)),dA (b:=(decide (v7<0))) (c:=true) X X (by decide) (fun w' u hu=>hu) (fun a' w' hE hk hg=>by exact aW (gG ((show _=gv (true&&((decide (v7<0))==false)) (Value.pointer (some (Addr.add ad4 (aC.toNat*7)))) from (show _=gv (true&&((decide (v7<0))==false)) (Value.pointer (some (Addr.add ad4 (aC.toNat*7)))) from hk 71 X)).trans (lW hg)) A7 (((hq2 hg).2.1).sees (kF.step hE).sees) AH)),dA (b:=(decide (v7<0))) (c:=true) X X (by decide) (fun w' u hu=>hu) (fun a' w' hE hk hg=>by exact aW (aT (n:=1) (vs:=[vL lV a2.au.length mG]) (show _=vP b2 0 from hk 6 X) AI ((kF.step hE).look 0 X) AD X X)),dA (b:=(decide (v7<0))) (c:=true) X X (by decide) (fun w' u hu=>hu) (fun a' w' hE hk hg=>by exact aW (aH (n:=1) (o':=0) (show _=vP b2 0 from hk 6 X) AE X AM (by decide) X)),dA (b:=(decide (v7<0))) (c:=true) X X (by decide) (fun w' u hu=>hu) (fun a' w' hE hk hg=>by exact aW (aN ((show _=gv (true&&((decide (v7<0))==false)) (vP b2 0) from (show _=gv (true&&((decide (v7<0))==false)) (vP b2 0) from hk 74 X)).trans (lW hg)) AR ((kF.step hE).look 0 X) X)),dA (b:=(decide (v7<0))) (c:=true) X X (by decide) (fun w' u hu=>hu) (fun a' w' hE hk hg=>by exact aW (aO (show _=vI v7 from hk 11 X))),dA (b:=(decide (v7<0))) (c:=true) X X (by decide) (fun w' u hu=>hu) (fun a' w' hE hk hg=>by exact aW (dP (sz:=7) ((show _=gv (true&&((decide (v7<0))==false)) (vL lV a2.au.length mG) from (show _=gv (true&&((decide (v7<0))==false)) (vL lV a2.au.length mG) from hk 75 X)).trans (lW hg)) (hq3 hg).1 ((show _=gv (true&&((decide (v7<0))==false)) (vI v7) from (show _=gv (true&&((decide (v7<0))==false)) (vI v7) from hk 76 X)).trans (lW hg)) (hi5 hg).1 (hi5 hg).2 AF AH)),dA (b:=(decide (v7<0))) (c:=true) X X (by decide) (fun w' u hu=>hu) (fun a' w' hE hk hg=>by exact aW (gG ((show _=gv (true&&((decide (v7<0))==false)) (Value.pointer (some (Addr.add ad5 (v7.toNat*7)))) from (show _=gv (true&&((decide (v7<0))==false)) (Value.pointer (some (Addr.add ad5 (v7.toNat*7)))) from hk 77 X)).trans (lW hg)) A7 (((hq3 hg).2.1).sees (kF.step hE).sees) AH)),dA (b:=(decide (v7<0))) (c:=true) X X (by decide) (fun w' u hu=>hu) (fun a' w' hE hk hg=>by exact (bC Tryz.call65 X (VL ((show _=gv (true&&((decide (v7<0))==false)) (Value.agg #[vL bQ a0.au.length bT]) from (show _=gv (true&&((decide (v7<0))==false)) (Value.agg #[vL bQ a0.au.length bT]) from hk 67 X)).trans (lW hg)) ((show _=gv (true&&((decide (v7<0))==false)) (Value.agg #[vI ((rd ah a0.au aC).aA),vS ((rd ah a0.au aC).aF),vI ((rd ah a0.au aC).aY.aU),vB ((rd ah a0.au aC).aY.aJ),vI ((rd ah a0.au aC).bY),vI ((rd ah a0.au aC).vN),vL yA ((rd ah a0.au aC).ak).length y5]) from (show _=gv (true&&((decide (v7<0))==false)) (Value.agg #[vI ((rd ah a0.au aC).aA),vS ((rd ah a0.au aC).aF),vI ((rd ah a0.au aC).aY.aU),vB ((rd ah a0.au aC).aY.aJ),vI ((rd ah a0.au aC).bY),vI ((rd ah a0.au aC).vN),vL yA ((rd ah a0.au aC).ak).length y5]) from hk 72 X)).trans (lW hg)) ((show _=gv (true&&((decide (v7<0))==false)) (Value.agg #[vL lV a2.au.length mG]) from (show _=gv (true&&((decide (v7<0))==false)) (Value.agg #[vL lV a2.au.length mG]) from hk 73 X)).trans (lW hg)) ((show _=gv (true&&((decide (v7<0))==false)) (Value.agg #[vI ((rd ah a2.au v7).aA),vS ((rd ah a2.au v7).aF),vI ((rd ah a2.au v7).aY.aU),vB ((rd ah a2.au v7).aY.aJ),vI ((rd ah a2.au v7).bY),vI ((rd ah a2.au v7).vN),vL JJ ((rd ah a2.au v7).ak).length JK]) from (show _=gv (true&&((decide (v7<0))==false)) (Value.agg #[vI ((rd ah a2.au v7).aA),vS ((rd ah a2.au v7).aF),vI ((rd ah a2.au v7).aY.aU),vB ((rd ah a2.au v7).aY.aJ),vI ((rd ah a2.au v7).bY),vI ((rd ah a2.au v7).vN),vL JJ ((rd ah a2.au v7).ak).length JK]) from hk 78 X)).trans (lW hg))) (dI.calls k a0 (rd ah a0.au aC) a2 (rd ah a2.au v7) bQ bT yA y5 lV mG JJ JK (kF.step hE).sees (fK.ext kF.sub) iF ((hq2 hg).2.2.2) ((hq2 hg).2.2.1) (pY.ext kF.sub) vY ((hq3 hg).2.2.2) ((hq3 hg).2.2.1) (bU H8 hg)))),dA (b:=(decide (v7<0))) (c:=true) X X (by decide) (fun w' u hu=>hu) (fun a' w' hE hk hg=>by exact aW (mZ ((show _=gv (true&&((decide (v7<0))==false)) (vB v8) from (show _=gv (true&&((decide (v7<0))==false)) (vB v8) from hk 79 X)).trans (lW hg)))),aX X (fun a' w' hE hk=>by exact aW (dQ (show _=vB (decide (v7<0)) from hk 66 X) X (fun hp=>((show _=gv (true&&((decide (v7<0))==false)) (vB (!v8)) from (show _=gv (true&&((decide (v7<0))==false)) (vB (!v8)) from hk 80 X)).trans (lW (gQ X hp)))))),trivial⟩ ?_
      intro w9 hE7
      simp only [List.zip_cons_cons,List.zip_nil_left,List.zip_nil_right,vO,sc0,sc1,List.length_cons,List.length_nil,List.drop_succ_cons,List.drop_zero,Nat.zero_add,Nat.reduceAdd]
      have oC:=kF.step hE7
      refine aB<|ay<|Av (t:=((decide (v7<0))||(!v8))) X (fun c4=>?_) (fun c4=>?_)
      ·replace H:=bU H c4
       refine Al<|Ao<|rs (vB false) (aG X) ?_
       try simp only [sc0,sc1]
       refine aB<|ay<|AT<|fA<|bP<|jm<|bP ?_
       obtain rfl:=Ab H
       obtain rfl:=Ab G1
       exact Ay (bD X (bK X)) X<|⟨X,oC.toE⟩
      ·replace H:=cO H (nt c4)
       refine AN<|dD<|ay<|Ao<|rs (vI aC) (aO X)<|rs (vI (w64 (aC+1))) (bW X X X)<|rs (vI (w64 (aC+1))) (aG X) ?_
       try simp only [sc0,sc1]
       refine aB<|gI m (Nat.lt_succ_self m) X ⟨(w64 (aC+1)),(fit X),H,oC⟩
    ·replace H:=cO H (nt c2)
     refine Bx<|eU ?_
     obtain rfl:=Ab H
     refine iK X ⟨_,X,(fit X),HS8⟩
  ·rintro us w10 ⟨s1,rfl,nP,mW⟩
   obtain ⟨uo1,rfl⟩:=unj nP
   replace H:=G1
   clear G1
   try simp only [patch,sc0,sc1]
   refine ay<|Al<|Ao<|rs (vB true) (aG X) ?_
   try simp only [sc0,sc1]
   refine aB<|ay<|AT ?_
   obtain rfl:=Ab H
   exact Ay (bD X (bK X)) X<|⟨X,mW.toE⟩
def dK.l0 (k:Nat) (a0:aQ) (a1:aQ):Nat→Int→Option ((gu)⊕(Unit))
 |0,_=>none
 |m+1,aC=>if (decide (aC<(a0.au.length:Int)))=true then (if 0≤aC∧aC<a0.au.length then ((dZ.f (rd ah a0.au aC)).bind fun v3=>(((if v3=true then (if 0≤aC∧aC<a0.au.length then ((dW.f k a1 ((rd ah a0.au aC).aF)).bind fun v4=>(some v4)) else none) else (some (-1))):Option (Int)).bind fun xx3=>((if (true&&((decide (xx3≥0))==true))=true then dJ.f k a0 aC a1 xx3 else some false).bind fun v5=>(if ((decide (xx3≥0))&&(!v5))=true then (some (.inl (⟨(⟨[]⟩:aQ),[],[],82⟩:gu))) else (dK.l0 k a0 a1 m (IntKind.wrap .i64 (aC+1))))))) else none) else (some (.inr ()))
def dK.f (k:Nat) (a0:aQ) (a1:aQ):Option (gu):=(aS.f k a0).bind fun v1=>(((if (v1==0)=true then ((aS.f k a1).bind fun v2=>(some v2)) else (some v1)):Option (Int)).bind fun xx1=>(if (xx1 !=0)=true then (some (⟨(⟨[]⟩:aQ),[],[],xx1⟩:gu)) else ((dK.l0 k a0 a1 k 0).bind fun xx2=>(match xx2 with| .inl r=>some r| .inr s1=>(dV.f k a0).bind fun v6=>((dV.f k a1).bind fun v7=>((dh.f k v6 v7).bind fun v8=>(if (decide ((v8.length:Int)>200))=true then (some (⟨(⟨[]⟩:aQ),[],[],2⟩:gu)) else ((dM.f k v6 v8).bind fun v9=>((dM.f k v7 v8).bind fun v10=>(if 0≤(v8.length:Int)∧(v8.length:Int)≤4294967296 then ((dX.f k (List.replicate (v8.length:Int).toNat (ah:aZ)) a0 v9).bind fun v11=>((dX.f k v11 a1 v10).bind fun v12=>(some (⟨(⟨v12⟩:aQ),v9,v10,0⟩:gu)))) else none))))))))))
theorem dK.calls (k:Nat) (a0:aQ) (a1:aQ) (bQ:Option Addr) (bT:Nat) (iM:Option Addr) (iO:Nat) {h0:View} {w0:World} (hv:lS h0 w0) (fK:Rd bI h0 bQ a0.au) (iF:a0.au.length≤bT) (kX:Rd bI h0 iM a1.au) (pK:a1.au.length≤iO) {r:gu} (H:dK.f k a0 a1=some r):Calls Tryz.prog 9 #[Value.agg #[vL bQ a0.au.length bT],Value.agg #[vL iM a1.au.length iO]] w0 (fun e w1=>∃(h1:View) (bQ:Option Addr) (bT:Nat) (RD:Option Addr) (RF:Nat) (RG:Option Addr) (RH:Nat),e= .returned (Value.agg #[vL bQ r.vT.au.length bT,vL RD r.vA.length RF,vL RG r.vB.length RH,vI r.vE])∧r.vT.au.length≤bT∧Rd bI h1 bQ r.vT.au∧r.vA.length≤RF∧Rd (Kd.int .i64) h1 RD r.vA∧r.vB.length≤RH∧Rd (Kd.int .i64) h1 RG r.vB∧Gr w0.heap.size h0 h1∧lS h1 w1∧Ext w0 w1):=by
 unfold dK.f at H
 have HS:St [] h0 w0 h0 [] w0:=St.init hv
 go_enter Tryz.func9,Tryz.ntmps9
 refine Al<|Ao<|dF X X (eF (cs:=#[vL bQ a0.au.length bT]) X X) ?_
 rintro w1 _ hE1 ⟨b1,rfl,ge1,hb1⟩
 have HS1:=HS.new hE1 ge1 hb1
 refine dF X X (eF (cs:=#[vL iM a1.au.length iO]) X X) ?_
 rintro w2 _ hE2 ⟨b2,rfl,ge2,hb2⟩
 have HS2:=HS1.new hE2 ge2 hb2
 refine dF X X (dO (cs:=#[vL none 0 0,vL none 0 0,vL none 0 0,vI 0]) BS X) ?_
 rintro w3 _ hE3 ⟨b3,rfl,ge3,hb3⟩
 have HS3:=HS2.new hE3 ge3 hb3
 try simp only [sc0,sc1]
 refine aB<|ay<|Al<|Ao<|rs (Value.agg #[vL bQ a0.au.length bT]) (aT (n:=1) (vs:=[vL bQ a0.au.length bT]) X AI (HS3.look 2 X) AD X X) ?_
 obtain ⟨v1,H1,H⟩:=bn H
 refine run_eq (v:=vI v1) X X (bC CH X X (aS.calls k a0 bQ bT HS3.sees fK iF H1)) ?_
 intro w4 hE4
 have HS4:=HS3.step hE4
 refine rs (vI v1) (aG X) ?_
 try simp only [sc0,sc1]
 refine aB<|ay<|Al<|Al<|Ao<|rs (vI v1) (aO X)<|rs (vB (v1==0)) (bW X X X) ?_
 try simp only [sc0,sc1]
 refine aB<|ay ?_
 obtain ⟨xx1,H,G1⟩:=bn H
 refine kT [5,18,19] (fun us w'=>Fit us (fun uj1=>[vI xx1,(uj1 1),(uj1 2)])∧St [] h0 w0 h0 [(some b3, .cells #[vL none 0 0,vL none 0 0,vL none 0 0,vI 0] 35 (0,0)),(some b2, .cells #[vL iM a1.au.length iO] 24 (0,0)),(some b1, .cells #[vL bQ a0.au.length bT] 24 (0,0))] w') ?_ ?_
 ·refine Av (t:=(v1==0)) X (fun c1=>?_) (fun c1=>?_)
  ·replace H:=bU H c1
   refine Ao<|rs (Value.agg #[vL iM a1.au.length iO]) (aT (n:=1) (vs:=[vL iM a1.au.length iO]) X AI (HS4.look 1 X) AD X X) ?_
   obtain ⟨v2,H2,H⟩:=bn H
   refine run_eq (v:=vI v2) X X (bC CH X X (aS.calls k a1 iM iO HS4.sees kX pK H2)) ?_
   intro w5 hE5
   have HS5:=HS4.step hE5
   refine rs (vI v2) (aG X) ?_
   try simp only [sc0,sc1]
   refine aB ?_
   obtain rfl:=Ab H
   refine oH X ⟨(fit X),HS5⟩
  ·replace H:=cO H (nt c1)
   refine AN ?_
   obtain rfl:=Ab H
   refine oH X ⟨(fit X),HS4⟩
 ·rintro us w6 ⟨AB,HS6⟩
  obtain ⟨uj1,rfl⟩:=unj AB
  replace H:=G1
  clear G1
  try simp only [patch,sc0,sc1]
  refine Al<|Al<|Ao<|rs (vI xx1) (aO X)<|rs (vB (xx1 !=0)) (bW X X X) ?_
  try simp only [sc0,sc1]
  refine aB<|ay<|Av (t:=(xx1 !=0)) X (fun c2=>?_) (fun c2=>?_)
  ·replace H:=bU H c2
   refine Al<|Ao<|rs (vI xx1) (aO X)<|rs (Value.agg #[vL none 0 0,vL none 0 0,vL none 0 0,vI xx1]) (jy (cs:=[vL none 0 0,vL none 0 0,vL none 0 0,vI xx1]) (ps:=[(3,vI xx1)]) BS Bw (pl:=#[(0,1),(1,1),(2,1),(3,1)]) (fun w=>by simp [Tryz.sizeOf24,Tryz.sizeOf27,Tryz.sizeOf28]) (pq (show _=vI xx1 from X)) X) ?_
   refine gJ (i:=0) (cs:=[vL none 0 0,vL none 0 0,vL none 0 0,vI 0]) (cs':=[vL none 0 0,vL none 0 0,vL none 0 0,vI xx1]) (vs:=[vL none 0 0,vL none 0 0,vL none 0 0,vI xx1]) (bs':=[(some b3, .cells #[vL none 0 0,vL none 0 0,vL none 0 0,vI xx1] 35 (0,0)),(some b2, .cells #[vL iM a1.au.length iO] 24 (0,0)),(some b1, .cells #[vL bQ a0.au.length bT] 24 (0,0))]) X X BE X X (by decide) X HS6 X (Ax X) X X ?_
   intro w7 HS7
   try simp only [sc0,sc1]
   refine aB<|ay<|AT<|bP ?_
   obtain rfl:=Ab H
   exact Ay (bD X (kY X Ck (HS7.look 0 X) BE X)) X<|⟨h0,none,0,none,0,none,0,X,(Nat.le_refl 0),(Rd.nil _ _ _),(Nat.le_refl 0),(Rd.nil _ _ _),(Nat.le_refl 0),(Rd.nil _ _ _),HS7.gr,HS7.sees,HS7.toE⟩
  ·replace H:=cO H (nt c2)
   refine AN<|ay<|Al<|Al<|Ao<|rs (vI 0) (aG X) ?_
   try simp only [sc0,sc1]
   refine aB<|ay ?_
   obtain ⟨xx2,H,G2⟩:=bn H
   refine jB [6,7,24,25,26,27,28,29,30,31,32,33,34,35,36,37,38,39,40,41,42,43,44,45,46,47,48,49,50,51,52,53,54,55] (fun m us w'=>∃(aC:Int),Fit us (fun uy1=>[vI aC,(uy1 1),(uy1 2),(uy1 3),(uy1 4),(uy1 5),(uy1 6),(uy1 7),(uy1 8),(uy1 9),(uy1 10),(uy1 11),(uy1 12),(uy1 13),(uy1 14),(uy1 15),(uy1 16),(uy1 17),(uy1 18),(uy1 19),(uy1 20),(uy1 21),(uy1 22),(uy1 23),(uy1 24),(uy1 25),(uy1 26),(uy1 27),(uy1 28),(uy1 29),(uy1 30),(uy1 31),(uy1 32),(uy1 33)])∧dK.l0 k a0 a1 m aC=some xx2∧St [] h0 w0 h0 [(some b3, .cells #[vL none 0 0,vL none 0 0,vL none 0 0,vI 0] 35 (0,0)),(some b2, .cells #[vL iM a1.au.length iO] 24 (0,0)),(some b1, .cells #[vL bQ a0.au.length bT] 24 (0,0))] w') (fun us w'=>∃(s1:Unit),xx2= .inr s1∧Fit us (fun uo1=>[(uo1 0),(uo1 1),(uo1 2),(uo1 3),(uo1 4),(uo1 5),(uo1 6),(uo1 7),(uo1 8),(uo1 9),(uo1 10),(uo1 11),(uo1 12),(uo1 13),(uo1 14),(uo1 15),(uo1 16),(uo1 17),(uo1 18),(uo1 19),(uo1 20),(uo1 21),(uo1 22),(uo1 23),(uo1 24),(uo1 25),(uo1 26),(uo1 27),(uo1 28),(uo1 29),(uo1 30),(uo1 31),(uo1 32),(uo1 33)])∧St [] h0 w0 h0 [(some b3, .cells #[vL none 0 0,vL none 0 0,vL none 0 0,vI 0] 35 (0,0)),(some b2, .cells #[vL iM a1.au.length iO] 24 (0,0)),(some b1, .cells #[vL bQ a0.au.length bT] 24 (0,0))] w') k ⟨0,(fit X),H,HS6⟩ ?_ ?_
   ·rintro m us w8 ⟨aC,nO,H,HS8⟩
    obtain ⟨uy1,rfl⟩:=unj nO
    cases m with
    |zero=>exact absurd H (by simp [dK.l0])
    |succ m=>
     rw [dK.l0] at H
     try simp only [patch,sc0,sc1]
     refine Al<|Al<|Ao<|rs (vI aC) (aO X)<|rs (vP b1 0) (aH (n:=1) (o':=0) X AE X AM (by decide) X)<|rs (vL bQ a0.au.length bT) (aN X AR (HS8.look 2 X) X)<|rs (vI (a0.au.length:Int)) (jD X AF)<|aK (by simp only [sc0,sc1];rfl) ?_
     refine rs (vB (decide (aC<(a0.au.length:Int)))) (bW X X X) ?_
     try simp only [sc0,sc1]
     refine aB<|ay<|Av (t:=(decide (aC<(a0.au.length:Int)))) X (fun c3=>?_) (fun c3=>?_)
     ·replace H:=bU H c3
      refine AN<|ay<|Al<|wp_block<|Al<|Ao<|rs (vI (-1)) (aG X) ?_
      try simp only [sc0,sc1]
      refine aB<|ay<|Al<|Al<|Ao<|rs (vP b1 0) (aH (n:=1) (o':=0) X AE X AM (by decide) X)<|rs (vL bQ a0.au.length bT) (aN X AR (HS8.look 2 X) X)<|rs (vI aC) (aO X) ?_
      obtain ⟨hi1,H⟩:=dN H
      obtain ⟨ad1,dU,dY,e1,mJ,jS,iY⟩:=gK fK hi1.1 hi1.2
      refine rs (Value.pointer (some (Addr.add ad1 (aC.toNat*7)))) (dP (sz:=7) X e1 X hi1.1 hi1.2 AF AH)<|aK (by simp only [sc0,sc1];rfl) ?_
      refine rs (Value.agg #[vI ((rd ah a0.au aC).aA),vS ((rd ah a0.au aC).aF),vI ((rd ah a0.au aC).aY.aU),vB ((rd ah a0.au aC).aY.aJ),vI ((rd ah a0.au aC).bY),vI ((rd ah a0.au aC).vN),vL dU ((rd ah a0.au aC).ak).length dY]) (gG X A7 (mJ.sees HS8.sees) AH) ?_
      obtain ⟨v3,H3,H⟩:=bn H
      refine run_eq (v:=vB v3) X X (bC Cv X X (dZ.calls (rd ah a0.au aC) dU dY HS8.sees iY jS H3)) ?_
      intro w9 hE6
      have HS9:=HS8.step hE6
      try simp only [sc0,sc1]
      refine aB<|ay ?_
      obtain ⟨xx3,H,G3⟩:=bn H
      refine kT [7,37,38,39,40,41,42,43,44] (fun us w'=>Fit us (fun uj2=>[vI xx3,(uj2 1),(uj2 2),(uj2 3),(uj2 4),(uj2 5),(uj2 6),(uj2 7),(uj2 8)])∧St [] h0 w0 h0 [(some b3, .cells #[vL none 0 0,vL none 0 0,vL none 0 0,vI 0] 35 (0,0)),(some b2, .cells #[vL iM a1.au.length iO] 24 (0,0)),(some b1, .cells #[vL bQ a0.au.length bT] 24 (0,0))] w') ?_ ?_
      ·refine Av (t:=v3) X (fun c4=>?_) (fun c4=>?_)
       ·replace H:=bU H c4
        obtain ⟨hi2,H⟩:=dN H
        obtain ⟨ad2,mO,mX,e2,tN,xY,vJ⟩:=gK fK hi2.1 hi2.2
        obtain ⟨v4,H4,H⟩:=bn H
        refine drawn [.eq (Value.agg #[vL iM a1.au.length iO]), .eq (vP b1 0), .eq (vL bQ a0.au.length bT), .eq (vI aC), .eq (Value.pointer (some (Addr.add ad2 (aC.toNat*7)))), .eq (Value.pointer (some (Addr.add (Addr.add ad2 (aC.toNat*7)) 1))), .eq (vS ((rd ah a0.au aC).aF)), .eq (vI v4)] [37,38,39,40,41,42,43,44] rM (by kernel_rfl) X (aP (aP (aP (aP (aP (aP (aP (aP iJ)))))))) ⟨aX X (fun a' w' hE hk=>by exact aW (aT (n:=1) (vs:=[vL iM a1.au.length iO]) (show _=vP b2 0 from hk 3 X) AI ((HS9.step hE).look 1 X) AD X X)),aX X (fun a' w' hE hk=>by exact aW (aH (n:=1) (o':=0) (show _=vP b1 0 from hk 2 X) AE X AM (by decide) X)),aX X (fun a' w' hE hk=>by exact aW (aN (show _=vP b1 0 from hk 38 X) AR ((HS9.step hE).look 2 X) X)),aX X (fun a' w' hE hk=>by exact aW (aO (show _=vI aC from hk 6 X))),aX X (fun a' w' hE hk=>by exact aW (dP (sz:=7) (show _=vL bQ a0.au.length bT from hk 39 X) e2 (show _=vI aC from hk 40 X) hi2.1 hi2.2 AF AH)),aX X (fun a' w' hE hk=>by exact aW (nX (n:=1) (o':=1) (show _=Value.pointer (some (Addr.add ad2 (aC.toNat*7))) from hk 41 X) An X AW (by decide) X)),aX X (fun a' w' hE hk=>by exact aW (kE (show _=Value.pointer (some (Addr.add (Addr.add ad2 (aC.toNat*7)) 1)) from hk 42 X) Be (tN.cell (HS9.step hE).sees 1 X))),aX X (fun a' w' hE hk=>by exact (bC Ds X (wF (show _=Value.agg #[vL iM a1.au.length iO] from hk 37 X) (show _=vS ((rd ah a0.au aC).aF) from hk 43 X)) (dW.calls k a1 ((rd ah a0.au aC).aF) iM iO (HS9.step hE).sees kX pK H4))),trivial⟩ ?_
        intro w10 hE7
        simp only [List.zip_cons_cons,List.zip_nil_left,List.zip_nil_right,vO,sc0,sc1,List.length_cons,List.length_nil,List.drop_succ_cons,List.drop_zero,Nat.zero_add,Nat.reduceAdd]
        have kF:=HS9.step hE7
        refine rs (vI v4) (aG X) ?_
        try simp only [sc0,sc1]
        refine aB ?_
        obtain rfl:=Ab H
        refine oH X ⟨(fit X),kF⟩
       ·replace H:=cO H (nt c4)
        refine AN ?_
        obtain rfl:=Ab H
        refine oH X ⟨(fit X),HS9⟩
      ·rintro us w11 ⟨UO,oC⟩
       obtain ⟨uj2,rfl⟩:=unj UO
       replace H:=G3
       clear G3
       try simp only [patch,sc0,sc1]
       refine Al<|Ao<|rs (vI xx3) (aO X)<|rs (vB (decide (xx3≥0))) (bW X X X)<|rs (vB (decide (xx3≥0))) (aO X)<|rgs (decide (xx3≥0)) true (Value.agg #[vL bQ a0.au.length bT]) X X X X (fun hg=>(aT (n:=1) (vs:=[vL bQ a0.au.length bT]) X AI (oC.look 2 X) AD X X))<|aK (by simp only [sc0,sc1];rfl) ?_
       refine rgs (decide (xx3≥0)) true (vI aC) X X X X (fun hg=>(aO X))<|rgs (decide (xx3≥0)) true (Value.agg #[vL iM a1.au.length iO]) X X X X (fun hg=>(aT (n:=1) (vs:=[vL iM a1.au.length iO]) X AI (oC.look 1 X) AD X X))<|rgs (decide (xx3≥0)) true (vI xx3) X X X X (fun hg=>(aO X)) ?_
       obtain ⟨v5,H5,H⟩:=bn H
       refine sJ (b:=(decide (xx3≥0))) (c:=true) (v:=vB v5) X X X X (fun hg=>(bC Tryz.call36 X (VL (gvt (Value.agg #[vL bQ a0.au.length bT]) hg X) (gvt (vI aC) hg X) (gvt (Value.agg #[vL iM a1.au.length iO]) hg X) (gvt (vI xx3) hg X)) (dJ.calls k a0 aC a1 xx3 bQ bT iM iO oC.sees fK iF kX pK (bU H5 hg)))) ?_
       intro w12 hE8
       have mW:=oC.step hE8
       refine aK (by simp only [sc0,sc1];rfl) ?_
       refine rgs (decide (xx3≥0)) true (vB (!v5)) X X X X (fun hg=>(mZ (gvt (vB v5) hg X)))<|rs (vB ((decide (xx3≥0))&&(!v5))) (dL X (fun hp=>(gvt (vB (!v5)) (gQ X hp) X)) X) ?_
       try simp only [sc0,sc1]
       refine aB<|ay<|Av (t:=((decide (xx3≥0))&&(!v5))) X (fun c5=>?_) (fun c5=>?_)
       ·replace H:=bU H c5
        refine Al<|Ao<|rs (Value.agg #[vL none 0 0,vL none 0 0,vL none 0 0,vI 82]) (jy (cs:=[vL none 0 0,vL none 0 0,vL none 0 0,vI 82]) (ps:=[(3,vI 82)]) BS Bw (pl:=#[(0,1),(1,1),(2,1),(3,1)]) (fun w=>by simp [Tryz.sizeOf24,Tryz.sizeOf27,Tryz.sizeOf28]) (pq (show _=vI 82 from X)) X) ?_
        refine gJ (i:=0) (cs:=[vL none 0 0,vL none 0 0,vL none 0 0,vI 0]) (cs':=[vL none 0 0,vL none 0 0,vL none 0 0,vI 82]) (vs:=[vL none 0 0,vL none 0 0,vL none 0 0,vI 82]) (bs':=[(some b3, .cells #[vL none 0 0,vL none 0 0,vL none 0 0,vI 82] 35 (0,0)),(some b2, .cells #[vL iM a1.au.length iO] 24 (0,0)),(some b1, .cells #[vL bQ a0.au.length bT] 24 (0,0))]) X X BE X X (by decide) X mW X (Ax X) X X ?_
        intro w13 qx
        try simp only [sc0,sc1]
        refine aB<|ay<|AT<|fA<|bP<|jm<|bP ?_
        obtain rfl:=Ab H
        obtain rfl:=Ab G2
        exact Ay (bD X (kY X Ck (qx.look 0 X) BE X)) X<|⟨h0,none,0,none,0,none,0,X,(Nat.le_refl 0),(Rd.nil _ _ _),(Nat.le_refl 0),(Rd.nil _ _ _),(Nat.le_refl 0),(Rd.nil _ _ _),qx.gr,qx.sees,qx.toE⟩
       ·replace H:=cO H (nt c5)
        refine AN<|dD<|ay<|Ao<|rs (vI aC) (aO X)<|rs (vI (w64 (aC+1))) (bW X X X)<|rs (vI (w64 (aC+1))) (aG X) ?_
        try simp only [sc0,sc1]
        refine aB<|gI m (Nat.lt_succ_self m) X ⟨(w64 (aC+1)),(fit X),H,mW⟩
     ·replace H:=cO H (nt c3)
      refine Bx<|eU ?_
      obtain rfl:=Ab H
      refine iK X ⟨_,X,(fit X),HS8⟩
   ·rintro us w14 ⟨s1,rfl,nP,ru⟩
    obtain ⟨uo1,rfl⟩:=unj nP
    replace H:=G2
    clear G2
    try simp only [patch,sc0,sc1]
    refine ay<|Al<|Ao<|rs (Value.agg #[vL bQ a0.au.length bT]) (aT (n:=1) (vs:=[vL bQ a0.au.length bT]) X AI (ru.look 2 X) AD X X) ?_
    obtain ⟨v6,H6,H⟩:=bn H
    refine dF X X (iQ Dm X (jX (h:=h0) (R:=(fun hx u=>∃(kL:Option Addr) (mV:Nat),u=vL kL v6.length mV∧v6.length≤mV∧Rd Kd.str hx kL v6)) (Ext.rfl' w14) ((dV.calls k a0 bQ bT ru.sees fK iF H6).mono ?_)) X) ?_
    ·rintro _ _ ⟨h1,kL,mV,rfl,vF,kW,g,ss,x⟩
     exact ⟨h1,_,X,⟨kL,mV,X,vF,kW⟩,g,ss,x⟩
    rintro w15 _ hE9 ⟨h1,⟨kL,mV,rfl,vF,kW⟩,gr1,se1⟩
    have sW:=ru.view hE9 gr1 se1
    refine rs (vL kL v6.length mV) (aG X) ?_
    try simp only [sc0,sc1]
    refine aB<|ay<|Al<|Ao<|rs (Value.agg #[vL iM a1.au.length iO]) (aT (n:=1) (vs:=[vL iM a1.au.length iO]) X AI (sW.look 1 X) AD X X) ?_
    obtain ⟨v7,H7,H⟩:=bn H
    refine dF X X (iQ Dm X (jX (h:=h1) (R:=(fun hx u=>∃(kZ:Option Addr) (nH:Nat),u=vL kZ v7.length nH∧v7.length≤nH∧Rd Kd.str hx kZ v7)) (Ext.rfl' w15) ((dV.calls k a1 iM iO sW.sees (kX.ext sW.sub) pK H7).mono ?_)) X) ?_
    ·rintro _ _ ⟨h1,kZ,nH,rfl,vG,l7,g,ss,x⟩
     exact ⟨h1,_,X,⟨kZ,nH,X,vG,l7⟩,g,ss,x⟩
    rintro w16 _ NI ⟨h2,⟨kZ,nH,rfl,vG,l7⟩,gr2,se2⟩
    have sH:=sW.view NI gr2 se2
    replace kW:Rd Kd.str h2 kL v6:=kW.ext gr2.1
    refine rs (vL kZ v7.length nH) (aG X) ?_
    try simp only [sc0,sc1]
    refine aB<|ay<|Al<|Ao<|rs (vL kL v6.length mV) (aO X)<|rs (vL kZ v7.length nH) (aO X) ?_
    obtain ⟨v8,H8,H⟩:=bn H
    refine dF X X (iQ Tryz.call31 X (jX (h:=h2) (R:=(fun hx u=>∃(jT:Option Addr) (lD:Nat),u=vL jT v8.length lD∧v8.length≤lD∧Rd Kd.str hx jT v8)) (Ext.rfl' w16) ((dh.calls k v6 v7 kL mV kZ nH sH.sees kW vF l7 vG H8).mono ?_)) X) ?_
    ·rintro _ _ ⟨h1,jT,lD,rfl,uZ,lG,g,ss,x⟩
     exact ⟨h1,_,X,⟨jT,lD,X,uZ,lG⟩,g,ss,x⟩
    rintro w17 _ Qg ⟨h3,⟨jT,lD,rfl,uZ,lG⟩,gr3,se3⟩
    have uQ:=sH.view Qg gr3 se3
    replace kW:Rd Kd.str h3 kL v6:=kW.ext gr3.1
    replace l7:Rd Kd.str h3 kZ v7:=l7.ext gr3.1
    refine rs (vL jT v8.length lD) (aG X) ?_
    try simp only [sc0,sc1]
    refine aB<|ay<|Al<|Al<|Ao<|rs (vL jT v8.length lD) (aO X)<|rs (vI (v8.length:Int)) (jD X A5)<|rs (vB (decide ((v8.length:Int)>200))) (bW X X X) ?_
    try simp only [sc0,sc1]
    refine aB<|ay<|Av (t:=(decide ((v8.length:Int)>200))) X (fun c6=>?_) (fun c6=>?_)
    ·replace H:=bU H c6
     refine Al<|Ao<|rs (Value.agg #[vL none 0 0,vL none 0 0,vL none 0 0,vI 2]) (jy (cs:=[vL none 0 0,vL none 0 0,vL none 0 0,vI 2]) (ps:=[(3,vI 2)]) BS Bw (pl:=#[(0,1),(1,1),(2,1),(3,1)]) (fun w=>by simp [Tryz.sizeOf24,Tryz.sizeOf27,Tryz.sizeOf28]) (pq (show _=vI 2 from X)) X) ?_
     refine gJ (i:=0) (cs:=[vL none 0 0,vL none 0 0,vL none 0 0,vI 0]) (cs':=[vL none 0 0,vL none 0 0,vL none 0 0,vI 2]) (vs:=[vL none 0 0,vL none 0 0,vL none 0 0,vI 2]) (bs':=[(some b3, .cells #[vL none 0 0,vL none 0 0,vL none 0 0,vI 2] 35 (0,0)),(some b2, .cells #[vL iM a1.au.length iO] 24 (0,0)),(some b1, .cells #[vL bQ a0.au.length bT] 24 (0,0))]) X X BE X X (by decide) X uQ X (Ax X) X X ?_
     intro w18 xU
     try simp only [sc0,sc1]
     refine aB<|ay<|AT<|bP ?_
     obtain rfl:=Ab H
     exact Ay (bD X (kY X Ck (xU.look 0 X) BE X)) X<|⟨h3,none,0,none,0,none,0,X,(Nat.le_refl 0),(Rd.nil _ _ _),(Nat.le_refl 0),(Rd.nil _ _ _),(Nat.le_refl 0),(Rd.nil _ _ _),xU.gr,xU.sees,xU.toE⟩
    ·replace H:=cO H (nt c6)
     refine AN<|ay<|Al<|Ao<|rs (vL kL v6.length mV) (aO X)<|rs (vL jT v8.length lD) (aO X) ?_
     obtain ⟨v9,H9,H⟩:=bn H
     refine dF X X (iQ Do X (jX (h:=h3) (R:=(fun hx u=>∃(jP:Option Addr) (kS:Nat),u=vL jP v9.length kS∧v9.length≤kS∧Rd (Kd.int .i64) hx jP v9)) (Ext.rfl' w17) ((dM.calls k v6 v8 kL mV jT lD uQ.sees kW vF lG uZ H9).mono ?_)) X) ?_
     ·rintro _ _ ⟨h1,jP,kS,rfl,wV,nK,g,ss,x⟩
      exact ⟨h1,_,X,⟨jP,kS,X,wV,nK⟩,g,ss,x⟩
     rintro w19 _ U1 ⟨h4,⟨jP,kS,rfl,wV,nK⟩,gr4,se4⟩
     have zM:=uQ.view U1 gr4 se4
     replace kW:Rd Kd.str h4 kL v6:=kW.ext gr4.1
     replace l7:Rd Kd.str h4 kZ v7:=l7.ext gr4.1
     replace lG:Rd Kd.str h4 jT v8:=lG.ext gr4.1
     refine rs (vL jP v9.length kS) (aG X) ?_
     try simp only [sc0,sc1]
     refine aB<|ay<|Al<|Ao<|rs (vL kZ v7.length nH) (aO X)<|rs (vL jT v8.length lD) (aO X) ?_
     obtain ⟨v10,H10,H⟩:=bn H
     refine dF X X (iQ Do X (jX (h:=h4) (R:=(fun hx u=>∃(lQ:Option Addr) (nN:Nat),u=vL lQ v10.length nN∧v10.length≤nN∧Rd (Kd.int .i64) hx lQ v10)) (Ext.rfl' w19) ((dM.calls k v7 v8 kZ nH jT lD zM.sees l7 vG lG uZ H10).mono ?_)) X) ?_
     ·rintro _ _ ⟨h1,lQ,nN,rfl,Aa,qh,g,ss,x⟩
      exact ⟨h1,_,X,⟨lQ,nN,X,Aa,qh⟩,g,ss,x⟩
     rintro w20 _ U2 ⟨h5,⟨lQ,nN,rfl,Aa,qh⟩,gr5,se5⟩
     have zl:=zM.view U2 gr5 se5
     replace kW:Rd Kd.str h5 kL v6:=kW.ext gr5.1
     replace l7:Rd Kd.str h5 kZ v7:=l7.ext gr5.1
     replace lG:Rd Kd.str h5 jT v8:=lG.ext gr5.1
     replace nK:Rd (Kd.int .i64) h5 jP v9:=nK.ext gr5.1
     refine rs (vL lQ v10.length nN) (aG X) ?_
     try simp only [sc0,sc1]
     refine aB<|ay<|Al<|mg [([73,74,76,77],[0,1,3,4]),([],[3,4]),([13],[6])] [2,5] [[],[0],[0,1],[],[],[0,1,2,3,4],[0,1,2,3,4,5]] rM (by kernel_rfl) ?_
     intro w21 U3
     have zN:=zl.step U3
     refine iR [vL jT v8.length lD,vI (v8.length:Int),Value.agg #[vL bQ a0.au.length bT],vL jP v9.length kS] ?_ X X ?_
     ·try simp only [patch,sc0,sc1]
      exact bF (bG (v:=vL jT v8.length lD) X X X X (aO X)) (bF (bG (v:=vI (v8.length:Int)) X X X X (jD X A5)) (bF (bG (v:=Value.agg #[vL bQ a0.au.length bT]) X X X X (aT (n:=1) (vs:=[vL bQ a0.au.length bT]) X AI (zN.look 2 X) AD X X)) (bF (bG (v:=vL jP v9.length kS) X X X X (aO X)) (iH))))
     try simp only [patch,sc0,sc1]
     obtain ⟨hk1,H⟩:=dN H
     refine run_mk bI ah (zs:=[vI 0,vS ByteArray.empty,vI 0,vB false,vI 0,vI 0,vL none 0 0]) X X hk1 AF B0 (by decide) X A9 X ⟨[vI 0],[vS ByteArray.empty,vI 0,vB false,vI 0,vI 0,vL none 0 0],X,X,⟨[vS ByteArray.empty],[vI 0,vB false,vI 0,vI 0,vL none 0 0],X,X,⟨[vI 0,vB false],[vI 0,vI 0,vL none 0 0],X,⟨[vI 0],[vB false],X,X,X⟩,⟨[vI 0],[vI 0,vL none 0 0],X,X,⟨[vI 0],[vL none 0 0],X,X,⟨none,0,X,(Nat.le_refl 0),(Rd.nil _ _ _)⟩⟩⟩⟩⟩⟩ zN ?_
     intro w22 b4 cs1 Bf ho1
     refine lY ?_
     try simp only [sc0,sc1]
     refine iR [] ?_ X X ?_
     ·try simp only [patch,sc0,sc1]
      exact bF (bG (v:=Value.agg #[vL bQ a0.au.length bT]) X X X X (aT (n:=1) (vs:=[vL bQ a0.au.length bT]) X AI (Bf.look 3 X) AD X X)) (bF (bG (v:=vL jP v9.length kS) X X X X (aO X)) (iH))
     try simp only [patch,sc0,sc1]
     obtain ⟨v11,H11,H⟩:=bn H
     have ho2:=ho1.norm
     refine jJ (vs:=[vL (rowA (some b4)) ((List.replicate (v8.length:Int).toNat (ah:aZ)).length) ((v8.length:Int).toNat),Value.agg #[vL bQ a0.au.length bT],vL jP v9.length kS]) (caps:=[]) Dr X (VK (show _=vL (rowA (some b4)) ((List.replicate (v8.length:Int).toNat (ah:aZ)).length) ((v8.length:Int).toNat) from by first|rfl|(rw [ho1.len];done)|(rw [ho1.len];rfl)) X X) (dX.calls k (List.replicate (v8.length:Int).toNat (ah:aZ)) a0 v9 (some b4) ((v8.length:Int).toNat) cs1 (0,0) bQ bT jP kS Bf ho2 PK (fK.ext Bf.sub) iF nK wV H11) ?_
     rintro _ w23 ⟨h6,Ac,DC,Ql,Qm,rfl,Qn,Qo,hs1,zO⟩
     refine ⟨_,X,?_⟩
     replace kW:Rd Kd.str h6 kL v6:=kW.ext hs1
     replace l7:Rd Kd.str h6 kZ v7:=l7.ext hs1
     replace lG:Rd Kd.str h6 jT v8:=lG.ext hs1
     replace nK:Rd (Kd.int .i64) h6 jP v9:=nK.ext hs1
     replace qh:Rd (Kd.int .i64) h6 lQ v10:=qh.ext hs1
     refine lY ?_
     try simp only [sc0,sc1]
     refine nU [vL (rowA Ac) v11.length DC] ?_ ?_
     ·try simp only [patch,sc0,sc1]
      exact bF (bG (v:=vL (rowA Ac) v11.length DC) X X X X (aG X)) (iH)
     try simp only [patch,sc0,sc1]
     refine ay<|Al<|Ao<|rs (vL (rowA Ac) v11.length DC) (aO X)<|rs (Value.agg #[vL iM a1.au.length iO]) (aT (n:=1) (vs:=[vL iM a1.au.length iO]) X AI (zO.look 2 X) AD X X)<|rs (vL lQ v10.length nN) (aO X) ?_
     obtain ⟨v12,H12,H⟩:=bn H
     refine jJ (vs:=[vL (rowA Ac) v11.length DC,Value.agg #[vL iM a1.au.length iO],vL lQ v10.length nN]) (caps:=[]) Dr X X (dX.calls k v11 a1 v10 Ac DC Ql Qm iM iO lQ nN zO Qo Qn (kX.ext zO.sub) pK qh Aa H12) ?_
     rintro _ w24 ⟨h7,pR,tu,Qp,Qq,rfl,VR,JL,hs2,BX⟩
     refine ⟨_,X,?_⟩
     replace kW:Rd Kd.str h7 kL v6:=kW.ext hs2
     replace l7:Rd Kd.str h7 kZ v7:=l7.ext hs2
     replace lG:Rd Kd.str h7 jT v8:=lG.ext hs2
     replace nK:Rd (Kd.int .i64) h7 jP v9:=nK.ext hs2
     replace qh:Rd (Kd.int .i64) h7 lQ v10:=qh.ext hs2
     refine aK (by simp only [sc0,sc1];rfl) ?_
     refine rs (Value.agg #[vL (rowA pR) v12.length tu]) (jy (cs:=[vL (rowA pR) v12.length tu]) (ps:=[(0,vL (rowA pR) v12.length tu)]) Bp AE (pl:=#[(0,1)]) (fun w=>by simp [Tryz.sizeOf22]) (pq (show _=vL (rowA pR) v12.length tu from X)) X) ?_
     refine rs (vL jP v9.length kS) (aO X)<|rs (vL lQ v10.length nN) (aO X)<|rs (Value.agg #[vL (rowA pR) v12.length tu,vL jP v9.length kS,vL lQ v10.length nN,vI 0]) (jy (cs:=[vL (rowA pR) v12.length tu,vL jP v9.length kS,vL lQ v10.length nN,vI 0]) (ps:=[(0,Value.agg #[vL (rowA pR) v12.length tu]),(1,vL jP v9.length kS),(2,vL lQ v10.length nN)]) BS Bw (pl:=#[(0,1),(1,1),(2,1),(3,1)]) (fun w=>by simp [Tryz.sizeOf24,Tryz.sizeOf27,Tryz.sizeOf28]) (xM (show _=Value.agg #[vL (rowA pR) v12.length tu] from X) (show _=vL jP v9.length kS from X) (show _=vL lQ v10.length nN from X)) X) ?_
     refine aK (by simp only [sc0,sc1];rfl) ?_
     refine gJ (i:=1) (cs:=[vL none 0 0,vL none 0 0,vL none 0 0,vI 0]) (cs':=[vL (rowA pR) v12.length tu,vL jP v9.length kS,vL lQ v10.length nN,vI 0]) (vs:=[vL (rowA pR) v12.length tu,vL jP v9.length kS,vL lQ v10.length nN,vI 0]) (bs':=[(pR, .cells (Qp).toArray 58 Qq),(some b3, .cells #[vL (rowA pR) v12.length tu,vL jP v9.length kS,vL lQ v10.length nN,vI 0] 35 (0,0)),(some b2, .cells #[vL iM a1.au.length iO] 24 (0,0)),(some b1, .cells #[vL bQ a0.au.length bT] 24 (0,0))]) X X BE X X (by decide) X BX X (Ax X) X X ?_
     intro w25 BI
     try simp only [sc0,sc1]
     refine aB<|ay<|AT ?_
     obtain rfl:=Ab H
     refine Ay (bD X (kY X Ck (BI.look 1 X) BE X)) X ?_
     obtain ⟨h8,AL,hs3,oV⟩:=lC BI (i:=0) rfl JL
     replace kW:Rd Kd.str h8 kL v6:=kW.ext hs3
     replace l7:Rd Kd.str h8 kZ v7:=l7.ext hs3
     replace lG:Rd Kd.str h8 jT v8:=lG.ext hs3
     replace nK:Rd (Kd.int .i64) h8 jP v9:=nK.ext hs3
     replace qh:Rd (Kd.int .i64) h8 lQ v10:=qh.ext hs3
     exact ⟨h8,(rowA pR),tu,jP,kS,lQ,nN,X,JL.cap,oV,wV,nK,Aa,qh,AL.gr,AL.sees,AL.toE⟩
def bH.l0 (k:Nat) (a0:aQ) (a1:List ByteArray):Nat→Int→(List Int)→Option ((gu)⊕((List Int)))
 |0,_,_=>none
 |m+1,aC,dG=>if (decide (aC<(a1.length:Int)))=true then (if 0≤aC∧aC<a1.length then ((dW.f k a0 (rd ByteArray.empty a1 aC)).bind fun v2=>(if (decide (v2<0))=true then (some (.inl (⟨(⟨[]⟩:aQ),[],[],3⟩:gu))) else (if dG.length+1≤4294967296 then (bH.l0 k a0 a1 m (IntKind.wrap .i64 (aC+1)) (dG++([v2]:List Int))) else none))) else none) else (some (.inr dG))
def bH.l1 (v3:(List Bool)):Nat→Int→Int→(List Int)→Option ((List Int))
 |0,_,_,_=>none
 |m+1,jQ,lJ,qG=>if (decide (lJ<(v3.length:Int)))=true then (if 0≤lJ∧lJ<v3.length then (if (rd false v3 lJ)=true then (if qG.length+1≤4294967296 then (bH.l1 v3 m (IntKind.wrap .i64 (jQ+1)) (IntKind.wrap .i64 (lJ+1)) (qG++([jQ]:List Int))) else none) else (if qG.length+1≤4294967296 then (bH.l1 v3 m jQ (IntKind.wrap .i64 (lJ+1)) (qG++([(-1)]:List Int))) else none)) else none) else (some qG)
def bH.l2 (k:Nat) (a0:aQ) (v3:(List Bool)) (xx3:(List Int)):Nat→Int→(List aZ)→Option ((List aZ))
 |0,_,_=>none
 |m+1,gX,vg=>if (decide (gX<(v3.length:Int)))=true then (if 0≤gX∧gX<v3.length then (if (rd false v3 gX)=true then (if 0≤gX∧gX<a0.au.length then ((fM.f k (rd ah a0.au gX) xx3).bind fun v4=>(if vg.length+1≤4294967296 then (bH.l2 k a0 v3 xx3 m (IntKind.wrap .i64 (gX+1)) (vg++([v4]:List aZ))) else none)) else none) else (bH.l2 k a0 v3 xx3 m (IntKind.wrap .i64 (gX+1)) vg)) else none) else (some vg)
def bH.f (k:Nat) (a0:aQ) (a1:List ByteArray):Option (gu):=(aS.f k a0).bind fun v1=>(((if ((v1==0)&&(decide ((a1.length:Int)>200)))=true then (some 2) else (some v1)):Option (Int)).bind fun xx1=>(if (xx1 !=0)=true then (some (⟨(⟨[]⟩:aQ),[],[],xx1⟩:gu)) else ((bH.l0 k a0 a1 k 0 ([]:List Int)).bind fun xx2=>(match xx2 with| .inl r=>some r| .inr s1=>(bZ.f k a0 s1).bind fun v3=>((bH.l1 v3 k 0 0 ([]:List Int)).bind fun xx3=>((bH.l2 k a0 v3 xx3 k 0 ([]:List aZ)).bind fun xx4=>(some (⟨(⟨xx4⟩:aQ),xx3,[],0⟩:gu))))))))
theorem bH.calls (k:Nat) (a0:aQ) (a1:List ByteArray) (bQ:Option Addr) (bT:Nat) (iM:Option Addr) (iO:Nat) {h0:View} {w0:World} (hv:lS h0 w0) (fK:Rd bI h0 bQ a0.au) (iF:a0.au.length≤bT) (kX:Rd Kd.str h0 iM a1) (pK:a1.length≤iO) {r:gu} (H:bH.f k a0 a1=some r):Calls Tryz.prog 10 #[Value.agg #[vL bQ a0.au.length bT],vL iM a1.length iO] w0 (fun e w1=>∃(h1:View) (bQ:Option Addr) (bT:Nat) (RD:Option Addr) (RF:Nat) (RG:Option Addr) (RH:Nat),e= .returned (Value.agg #[vL bQ r.vT.au.length bT,vL RD r.vA.length RF,vL RG r.vB.length RH,vI r.vE])∧r.vT.au.length≤bT∧Rd bI h1 bQ r.vT.au∧r.vA.length≤RF∧Rd (Kd.int .i64) h1 RD r.vA∧r.vB.length≤RH∧Rd (Kd.int .i64) h1 RG r.vB∧Gr w0.heap.size h0 h1∧lS h1 w1∧Ext w0 w1):=by
 unfold bH.f at H
 have HS:St [] h0 w0 h0 [] w0:=St.init hv
 go_enter Tryz.func10,Tryz.ntmps10
 refine Al<|Ao<|dF X X (eF (cs:=#[vL bQ a0.au.length bT]) X X) ?_
 rintro w1 _ hE1 ⟨b1,rfl,ge1,hb1⟩
 have HS1:=HS.new hE1 ge1 hb1
 refine dF X X (dO (cs:=#[vL none 0 0,vL none 0 0,vL none 0 0,vI 0]) BS X) ?_
 rintro w2 _ hE2 ⟨b2,rfl,ge2,hb2⟩
 have HS2:=HS1.new hE2 ge2 hb2
 try simp only [sc0,sc1]
 refine aB<|ay<|Al<|Ao<|rs (Value.agg #[vL bQ a0.au.length bT]) (aT (n:=1) (vs:=[vL bQ a0.au.length bT]) X AI (HS2.look 1 X) AD X X) ?_
 obtain ⟨v1,H1,H⟩:=bn H
 refine run_eq (v:=vI v1) X X (bC CH X X (aS.calls k a0 bQ bT HS2.sees fK iF H1)) ?_
 intro w3 hE3
 have HS3:=HS2.step hE3
 refine rs (vI v1) (aG X) ?_
 try simp only [sc0,sc1]
 refine aB<|ay<|Al<|Al<|Ao<|rs (vI v1) (aO X)<|rs (vB (v1==0)) (bW X X X)<|rs (vB (v1==0)) (aO X)<|rgs (v1==0) true (vL iM a1.length iO) X X X X (fun hg=>(aO X))<|aK (by simp only [sc0,sc1];rfl) ?_
 refine rgs (v1==0) true (vI (a1.length:Int)) X X X X (fun hg=>(jD (gvt (vL iM a1.length iO) hg X) A5))<|rgs (v1==0) true (vB (decide ((a1.length:Int)>200))) X X X X (fun hg=>(bW (gvt (vI (a1.length:Int)) hg X) X X))<|rs (vB ((v1==0)&&(decide ((a1.length:Int)>200)))) (dL X (fun hp=>(gvt (vB (decide ((a1.length:Int)>200))) (gQ X hp) X)) X) ?_
 try simp only [sc0,sc1]
 refine aB<|ay ?_
 obtain ⟨xx1,H,G1⟩:=bn H
 refine kT [5] (fun us w'=>Fit us (fun uj1=>[vI xx1])∧St [] h0 w0 h0 [(some b2, .cells #[vL none 0 0,vL none 0 0,vL none 0 0,vI 0] 35 (0,0)),(some b1, .cells #[vL bQ a0.au.length bT] 24 (0,0))] w') ?_ ?_
 ·refine Av (t:=((v1==0)&&(decide ((a1.length:Int)>200)))) X (fun c1=>?_) (fun c1=>?_)
  ·replace H:=bU H c1
   refine Ao<|rs (vI 2) (aG X) ?_
   try simp only [sc0,sc1]
   refine aB ?_
   obtain rfl:=Ab H
   refine oH X ⟨(fit X),HS3⟩
  ·replace H:=cO H (nt c1)
   refine AN ?_
   obtain rfl:=Ab H
   refine oH X ⟨(fit X),HS3⟩
 ·rintro us w4 ⟨AB,HS4⟩
  obtain ⟨uj1,rfl⟩:=unj AB
  replace H:=G1
  clear G1
  try simp only [patch,sc0,sc1]
  refine Al<|Al<|Ao<|rs (vI xx1) (aO X)<|rs (vB (xx1 !=0)) (bW X X X) ?_
  try simp only [sc0,sc1]
  refine aB<|ay<|Av (t:=(xx1 !=0)) X (fun c2=>?_) (fun c2=>?_)
  ·replace H:=bU H c2
   refine Al<|Ao<|rs (vI xx1) (aO X)<|rs (Value.agg #[vL none 0 0,vL none 0 0,vL none 0 0,vI xx1]) (jy (cs:=[vL none 0 0,vL none 0 0,vL none 0 0,vI xx1]) (ps:=[(3,vI xx1)]) BS Bw (pl:=#[(0,1),(1,1),(2,1),(3,1)]) (fun w=>by simp [Tryz.sizeOf24,Tryz.sizeOf27,Tryz.sizeOf28]) (pq (show _=vI xx1 from X)) X) ?_
   refine gJ (i:=0) (cs:=[vL none 0 0,vL none 0 0,vL none 0 0,vI 0]) (cs':=[vL none 0 0,vL none 0 0,vL none 0 0,vI xx1]) (vs:=[vL none 0 0,vL none 0 0,vL none 0 0,vI xx1]) (bs':=[(some b2, .cells #[vL none 0 0,vL none 0 0,vL none 0 0,vI xx1] 35 (0,0)),(some b1, .cells #[vL bQ a0.au.length bT] 24 (0,0))]) X X BE X X (by decide) X HS4 X (Ax X) X X ?_
   intro w5 HS5
   try simp only [sc0,sc1]
   refine aB<|ay<|AT<|bP ?_
   obtain rfl:=Ab H
   exact Ay (bD X (kY X Ck (HS5.look 0 X) BE X)) X<|⟨h0,none,0,none,0,none,0,X,(Nat.le_refl 0),(Rd.nil _ _ _),(Nat.le_refl 0),(Rd.nil _ _ _),(Nat.le_refl 0),(Rd.nil _ _ _),HS5.gr,HS5.sees,HS5.toE⟩
  ·replace H:=cO H (nt c2)
   refine AN<|ay<|Al<|Ao<|rs (vL none 0 0) (aG X) ?_
   try simp only [sc0,sc1]
   refine aB<|ay<|Al<|Al<|Ao<|rs (vI 0) (aG X) ?_
   try simp only [sc0,sc1]
   refine aB<|ay ?_
   have HS6:=HS4.nothing (.cells ([]:List Value).toArray 3 (0,0))
   obtain ⟨xx2,H,G2⟩:=bn H
   refine jB [6,7,8,28,29,30,31,32,33,34,35,36,37,38,39,40,41,42,43,44,45,46] (fun m us w'=>∃aC:Int,∃dG:List Int,∃(fC:Option Nat) (jv:Nat),∃(eH:List Value),Fit us (fun uy1=>[vL (rowA fC) dG.length jv,vI aC,(uy1 2),(uy1 3),(uy1 4),(uy1 5),(uy1 6),(uy1 7),(uy1 8),(uy1 9),(uy1 10),(uy1 11),(uy1 12),(uy1 13),(uy1 14),(uy1 15),(uy1 16),(uy1 17),(uy1 18),(uy1 19),(uy1 20),(uy1 21)])∧bH.l0 k a0 a1 m aC dG=some xx2∧gU (Kd.int .i64) h0 dG fC dG.length jv eH∧St [] h0 w0 h0 [(fC, .cells (eH).toArray 3 (0,0)),(some b2, .cells #[vL none 0 0,vL none 0 0,vL none 0 0,vI 0] 35 (0,0)),(some b1, .cells #[vL bQ a0.au.length bT] 24 (0,0))] w') (fun us w'=>∃(s1:(List Int)),xx2= .inr s1∧∃(eP:Option Nat) (jo:Nat),∃(iw:List Value),Fit us (fun uo1=>[vL (rowA eP) s1.length jo,(uo1 1),(uo1 2),(uo1 3),(uo1 4),(uo1 5),(uo1 6),(uo1 7),(uo1 8),(uo1 9),(uo1 10),(uo1 11),(uo1 12),(uo1 13),(uo1 14),(uo1 15),(uo1 16),(uo1 17),(uo1 18),(uo1 19),(uo1 20),(uo1 21)])∧gU (Kd.int .i64) h0 s1 eP s1.length jo iw∧St [] h0 w0 h0 [(eP, .cells (iw).toArray 3 (0,0)),(some b2, .cells #[vL none 0 0,vL none 0 0,vL none 0 0,vI 0] 35 (0,0)),(some b1, .cells #[vL bQ a0.au.length bT] 24 (0,0))] w') k ⟨0,([]:List Int),none,0,([]:List Value),(fit X),H,(gU.none' (Kd.int .i64) _).norm,HS6⟩ ?_ ?_
   ·rintro m us w6 ⟨aC,dG,fC,jv,eH,nO,H,iE,HS7⟩
    obtain ⟨uy1,rfl⟩:=unj nO
    cases m with
    |zero=>exact absurd H (by simp [bH.l0])
    |succ m=>
     rw [bH.l0] at H
     try simp only [patch,sc0,sc1]
     refine Al<|Al<|Ao<|rs (vI aC) (aO X)<|rs (vL iM a1.length iO) (aO X)<|rs (vI (a1.length:Int)) (jD X A5)<|rs (vB (decide (aC<(a1.length:Int)))) (bW X X X) ?_
     try simp only [sc0,sc1]
     refine aB<|ay<|Av (t:=(decide (aC<(a1.length:Int)))) X (fun c3=>?_) (fun c3=>?_)
     ·replace H:=bU H c3
      refine AN<|ay<|Al<|wp_block<|Al ?_
      obtain ⟨hi1,H⟩:=dN H
      obtain ⟨ad1,e1,mJ⟩:=CQ kX hi1.1 hi1.2
      obtain ⟨v2,H2,H⟩:=bn H
      refine drawn [.eq (Value.agg #[vL bQ a0.au.length bT]), .eq (vL iM a1.length iO), .eq (vI aC), .eq (Value.pointer (some (Addr.add ad1 (aC.toNat*1)))), .eq (vS (rd ByteArray.empty a1 aC)), .eq (vI v2)] [34,35,36,37,38,39] rM (by kernel_rfl) X (aP (aP (aP (aP (aP (aP iJ)))))) ⟨aX X (fun a' w' hE hk=>by exact aW (aT (n:=1) (vs:=[vL bQ a0.au.length bT]) (show _=vP b1 0 from hk 2 X) AI ((HS7.step hE).look 2 X) AD X X)),aX X (fun a' w' hE hk=>by exact aW (aO (show _=vL iM a1.length iO from hk 1 X))),aX X (fun a' w' hE hk=>by exact aW (aO (show _=vI aC from hk 7 X))),aX X (fun a' w' hE hk=>by exact aW (dP (sz:=1) (show _=vL iM a1.length iO from hk 35 X) e1 (show _=vI aC from hk 36 X) hi1.1 hi1.2 A5 AW)),aX X (fun a' w' hE hk=>by exact aW (kE (show _=Value.pointer (some (Addr.add ad1 (aC.toNat*1))) from hk 37 X) Be (mJ.cell0 (HS7.step hE).sees X))),aX X (fun a' w' hE hk=>by exact (bC Ds X (wF (show _=Value.agg #[vL bQ a0.au.length bT] from hk 34 X) (show _=vS (rd ByteArray.empty a1 aC) from hk 38 X)) (dW.calls k a0 (rd ByteArray.empty a1 aC) bQ bT (HS7.step hE).sees fK iF H2))),trivial⟩ ?_
      intro w7 hE4
      simp only [List.zip_cons_cons,List.zip_nil_left,List.zip_nil_right,vO,sc0,sc1,List.length_cons,List.length_nil,List.drop_succ_cons,List.drop_zero,Nat.zero_add,Nat.reduceAdd]
      have HS8:=HS7.step hE4
      refine rs (vI v2) (aG X) ?_
      try simp only [sc0,sc1]
      refine aB<|ay<|Al<|Al<|Ao<|rs (vI v2) (aO X)<|rs (vB (decide (v2<0))) (bW X X X) ?_
      try simp only [sc0,sc1]
      refine aB<|ay<|Av (t:=(decide (v2<0))) X (fun c4=>?_) (fun c4=>?_)
      ·replace H:=bU H c4
       refine Al<|Ao<|rs (Value.agg #[vL none 0 0,vL none 0 0,vL none 0 0,vI 3]) (jy (cs:=[vL none 0 0,vL none 0 0,vL none 0 0,vI 3]) (ps:=[(3,vI 3)]) BS Bw (pl:=#[(0,1),(1,1),(2,1),(3,1)]) (fun w=>by simp [Tryz.sizeOf24,Tryz.sizeOf27,Tryz.sizeOf28]) (pq (show _=vI 3 from X)) X) ?_
       refine gJ (i:=1) (cs:=[vL none 0 0,vL none 0 0,vL none 0 0,vI 0]) (cs':=[vL none 0 0,vL none 0 0,vL none 0 0,vI 3]) (vs:=[vL none 0 0,vL none 0 0,vL none 0 0,vI 3]) (bs':=[(fC, .cells (eH).toArray 3 (0,0)),(some b2, .cells #[vL none 0 0,vL none 0 0,vL none 0 0,vI 3] 35 (0,0)),(some b1, .cells #[vL bQ a0.au.length bT] 24 (0,0))]) X X BE X X (by decide) X HS8 X (Ax X) X X ?_
       intro w8 HS9
       try simp only [sc0,sc1]
       refine aB<|ay<|AT<|bP<|fA<|bP<|jm<|bP ?_
       obtain rfl:=Ab H
       obtain rfl:=Ab G2
       exact Ay (bD X (kY X Ck (HS9.look 1 X) BE X)) X<|⟨h0,none,0,none,0,none,0,X,(Nat.le_refl 0),(Rd.nil _ _ _),(Nat.le_refl 0),(Rd.nil _ _ _),(Nat.le_refl 0),(Rd.nil _ _ _),HS9.gr,HS9.sees,HS9.toE⟩
      ·replace H:=cO H (nt c4)
       refine AN<|ay<|Ao<|rs (vL (rowA fC) dG.length jv) (aO X)<|rs (vI v2) (aO X)<|ng (Kd.int .i64) (xs:=([v2]:List Int)) (n:=1) (cs:=[vI v2]) AG Br Bb X X (by decide) (by decide) (by decide) [vI v2] (jd.trans X) X X X X (fH (qs:=[vI v2]) X (jc (cs:=[]))) HS8 ?_
       intro w9 b3 kF ho1
       obtain ⟨hl1,H⟩:=dN H
       refine oD (Kd.int .i64) (q:=1) (cs:=eH) X X AG Br Bb X (by decide) X (ni AG kF (i:=0) X ho1 X) ho1.len (iC ho1) hl1 kF X iE ?_
       intro w10 ob1 c5 cs1 oC ho2
       refine aK (by simp only [sc0,sc1];rfl) ?_
       refine rs (vL (rowA ob1) (dG.length+1) c5) (aG X) ?_
       try simp only [sc0,sc1]
       refine aB<|dD<|ay<|Ao<|rs (vI aC) (aO X)<|rs (vI (w64 (aC+1))) (bW X X X)<|rs (vI (w64 (aC+1))) (aG X) ?_
       try simp only [sc0,sc1]
       refine aB<|gI m (Nat.lt_succ_self m) X ⟨(w64 (aC+1)),(dG++([v2]:List Int)),ob1,c5,cs1,(fit (by first|rfl|(rw [ho2.len];done)|(rw [ho2.len];rfl))),H,ho2.norm,oC.tail⟩
     ·replace H:=cO H (nt c3)
      refine Bx<|eU ?_
      obtain rfl:=Ab H
      refine iK X ⟨_,X,fC,jv,eH,(fit X),iE.norm,HS7⟩
   ·rintro us w11 ⟨s1,rfl,eP,jo,iw,nP,jr,mW⟩
    obtain ⟨uo1,rfl⟩:=unj nP
    replace H:=G2
    clear G2
    try simp only [patch,sc0,sc1]
    refine ay<|Al<|Ao<|rs (Value.agg #[vL bQ a0.au.length bT]) (aT (n:=1) (vs:=[vL bQ a0.au.length bT]) X AI (mW.look 2 X) AD X X)<|rs (vL (rowA eP) s1.length jo) (aO X) ?_
    obtain ⟨h1,qx,hs1,oV⟩:=lC mW (i:=0) rfl jr
    have ru:St [] h0 w0 h1 [(some b2, .cells #[vL none 0 0,vL none 0 0,vL none 0 0,vI 0] 35 (0,0)),(some b1, .cells #[vL bQ a0.au.length bT] 24 (0,0))] w11:=qx
    obtain ⟨v3,H3,H⟩:=bn H
    refine dF X X (iQ Tryz.call37 X (jX (h:=h1) (R:=(fun hx u=>∃(fQ:Option Addr) (gY:Nat),u=vL fQ v3.length gY∧v3.length≤gY∧Rd Kd.bool hx fQ v3)) (Ext.rfl' w11) ((bZ.calls k a0 s1 bQ bT (rowA eP) jo ru.sees (fK.ext ru.sub) iF oV jr.cap H3).mono ?_)) X) ?_
    ·rintro _ _ ⟨h1,fQ,gY,rfl,nJ,iy,g,ss,x⟩
     exact ⟨h1,_,X,⟨fQ,gY,X,nJ,iy⟩,g,ss,x⟩
    rintro w12 _ hE5 ⟨h2,⟨fQ,gY,rfl,nJ,iy⟩,gr1,se1⟩
    have sW:=ru.view hE5 gr1 se1
    replace oV:Rd (Kd.int .i64) h2 (rowA eP) s1:=oV.ext gr1.1
    refine rs (vL fQ v3.length gY) (aG X) ?_
    try simp only [sc0,sc1]
    refine aB<|ay<|Al<|Ao<|rs (vI 0) (aG X) ?_
    try simp only [sc0,sc1]
    refine aB<|ay<|Al<|Ao<|rs (vL none 0 0) (aG X) ?_
    try simp only [sc0,sc1]
    refine aB<|ay<|Al<|Al<|Ao<|rs (vI 0) (aG X) ?_
    try simp only [sc0,sc1]
    refine aB<|ay ?_
    have sH:=sW.nothing (.cells ([]:List Value).toArray 3 (0,0))
    obtain ⟨xx3,H,G3⟩:=bn H
    refine jB [10,11,12,50,51,52,53,54,55,56,57,58,59,60,61,62,63,64,65,66,67,68] (fun m us w'=>∃jQ lJ:Int,∃qG:List Int,∃(sS:Option Nat) (zo:Nat),∃(pF:List Value),Fit us (fun uy2=>[vI jQ,vL (rowA sS) qG.length zo,vI lJ,(uy2 3),(uy2 4),(uy2 5),(uy2 6),(uy2 7),(uy2 8),(uy2 9),(uy2 10),(uy2 11),(uy2 12),(uy2 13),(uy2 14),(uy2 15),(uy2 16),(uy2 17),(uy2 18),(uy2 19),(uy2 20),(uy2 21)])∧bH.l1 v3 m jQ lJ qG=some xx3∧gU (Kd.int .i64) h2 qG sS qG.length zo pF∧St [] h0 w0 h2 [(sS, .cells (pF).toArray 3 (0,0)),(some b2, .cells #[vL none 0 0,vL none 0 0,vL none 0 0,vI 0] 35 (0,0)),(some b1, .cells #[vL bQ a0.au.length bT] 24 (0,0))] w') (fun us w'=>∃(jZ:Option Nat) (pO:Nat),∃(uz:List Value),Fit us (fun uo2=>[(uo2 0),vL (rowA jZ) xx3.length pO,(uo2 2),(uo2 3),(uo2 4),(uo2 5),(uo2 6),(uo2 7),(uo2 8),(uo2 9),(uo2 10),(uo2 11),(uo2 12),(uo2 13),(uo2 14),(uo2 15),(uo2 16),(uo2 17),(uo2 18),(uo2 19),(uo2 20),(uo2 21)])∧gU (Kd.int .i64) h2 xx3 jZ xx3.length pO uz∧St [] h0 w0 h2 [(jZ, .cells (uz).toArray 3 (0,0)),(some b2, .cells #[vL none 0 0,vL none 0 0,vL none 0 0,vI 0] 35 (0,0)),(some b1, .cells #[vL bQ a0.au.length bT] 24 (0,0))] w') k ⟨0,0,([]:List Int),none,0,([]:List Value),(fit X),H,(gU.none' (Kd.int .i64) _).norm,sH⟩ ?_ ?_
    ·rintro m us w13 ⟨jQ,lJ,qG,sS,zo,pF,NW,H,rJ,uQ⟩
     obtain ⟨uy2,rfl⟩:=unj NW
     cases m with
     |zero=>exact absurd H (by simp [bH.l1])
     |succ m=>
      rw [bH.l1] at H
      try simp only [patch,sc0,sc1]
      refine Al<|Al<|Ao<|rs (vI lJ) (aO X)<|rs (vL fQ v3.length gY) (aO X)<|rs (vI (v3.length:Int)) (jD X BT)<|rs (vB (decide (lJ<(v3.length:Int)))) (bW X X X) ?_
      try simp only [sc0,sc1]
      refine aB<|ay<|Av (t:=(decide (lJ<(v3.length:Int)))) X (fun c6=>?_) (fun c6=>?_)
      ·replace H:=bU H c6
       refine AN<|ay<|Al<|wp_block<|Al<|Ao<|rs (vL fQ v3.length gY) (aO X)<|rs (vI lJ) (aO X) ?_
       obtain ⟨hi2,H⟩:=dN H
       obtain ⟨ad2,e2,tN⟩:=Ig iy hi2.1 hi2.2
       refine rs (Value.pointer (some (Addr.add ad2 (lJ.toNat*1)))) (dP (sz:=1) X e2 X hi2.1 hi2.2 BT Bi)<|rs (vB (rd false v3 lJ)) (kE X By (tN.cell0 uQ.sees X)) ?_
       try simp only [sc0,sc1]
       refine aB<|ay<|Av (t:=(rd false v3 lJ)) X (fun c7=>?_) (fun c7=>?_)
       ·replace H:=bU H c7
        refine Al<|Ao<|rs (vL (rowA sS) qG.length zo) (aO X)<|rs (vI jQ) (aO X)<|ng (Kd.int .i64) (xs:=([jQ]:List Int)) (n:=1) (cs:=[vI jQ]) AG Br Bb X X (by decide) (by decide) (by decide) [vI jQ] (jd.trans X) X X X X (fH (qs:=[vI jQ]) X (jc (cs:=[]))) uQ ?_
        intro w14 b4 xU ho3
        obtain ⟨hl2,H⟩:=dN H
        refine oD (Kd.int .i64) (q:=1) (cs:=pF) X X AG Br Bb X (by decide) X (ni AG xU (i:=0) X ho3 X) ho3.len (iC ho3) hl2 xU X rJ ?_
        intro w15 ob2 c8 cs2 zM ho4
        refine aK (by simp only [sc0,sc1];rfl) ?_
        refine rs (vL (rowA ob2) (qG.length+1) c8) (aG X) ?_
        try simp only [sc0,sc1]
        refine aB<|ay<|Ao<|rs (vI jQ) (aO X)<|rs (vI (w64 (jQ+1))) (bW X X X)<|rs (vI (w64 (jQ+1))) (aG X) ?_
        try simp only [sc0,sc1]
        refine aB<|dD<|ay<|Ao<|rs (vI lJ) (aO X)<|rs (vI (w64 (lJ+1))) (bW X X X)<|rs (vI (w64 (lJ+1))) (aG X) ?_
        try simp only [sc0,sc1]
        refine aB<|gI m (Nat.lt_succ_self m) X ⟨(w64 (jQ+1)),(w64 (lJ+1)),(qG++([jQ]:List Int)),ob2,c8,cs2,(fit (by first|rfl|(rw [ho4.len];done)|(rw [ho4.len];rfl))),H,ho4.norm,zM.tail⟩
       ·replace H:=cO H (nt c7)
        refine Ao<|rs (vL (rowA sS) qG.length zo) (aO X)<|ng (Kd.int .i64) (xs:=([(-1)]:List Int)) (n:=1) (cs:=[vI (-1)]) AG Br Bb X X (by decide) (by decide) (by decide) [vI (-1)] (jd.trans X) X X X X (fH (qs:=[vI (-1)]) X (jc (cs:=[]))) uQ ?_
        intro w16 b5 zl ho5
        obtain ⟨hl3,H⟩:=dN H
        refine oD (Kd.int .i64) (q:=1) (cs:=pF) X X AG Br Bb X (by decide) X (ni AG zl (i:=0) X ho5 X) ho5.len (iC ho5) hl3 zl X rJ ?_
        intro w17 ob3 c9 cs3 zN ho6
        refine rs (vL (rowA ob3) (qG.length+1) c9) (aG X) ?_
        try simp only [sc0,sc1]
        refine aB<|dD<|ay<|Ao<|rs (vI lJ) (aO X)<|rs (vI (w64 (lJ+1))) (bW X X X)<|rs (vI (w64 (lJ+1))) (aG X) ?_
        try simp only [sc0,sc1]
        refine aB<|gI m (Nat.lt_succ_self m) X ⟨jQ,(w64 (lJ+1)),(qG++([(-1)]:List Int)),ob3,c9,cs3,(fit (by first|rfl|(rw [ho6.len];done)|(rw [ho6.len];rfl))),H,ho6.norm,zN.tail⟩
      ·replace H:=cO H (nt c6)
       refine Bx<|eU ?_
       obtain rfl:=Ab H
       refine iK X ⟨sS,zo,pF,(fit X),rJ.norm,uQ⟩
    ·rintro us w18 ⟨jZ,pO,uz,NY,uD,Bf⟩
     obtain ⟨uo2,rfl⟩:=unj NY
     replace H:=G3
     clear G3
     try simp only [patch,sc0,sc1]
     refine ay<|Al<|Ao<|dF X X (dO (cs:=#[vL none 0 0]) Bp X) ?_
     rintro w19 _ hE6 ⟨b6,rfl,ge3,hb3⟩
     have zO:=Bf.new hE6 ge3 hb3
     try simp only [sc0,sc1]
     refine aB<|ay<|Al<|Al<|Ao<|rs (vI 0) (aG X) ?_
     try simp only [sc0,sc1]
     refine aB<|ay ?_
     obtain ⟨h3,BX,hs2,D8⟩:=lC zO (i:=1) rfl uD
     have BI:St [] h0 w0 h3 [(some b6, .cells #[vL none 0 0] 24 (0,0)),(some b2, .cells #[vL none 0 0,vL none 0 0,vL none 0 0,vI 0] 35 (0,0)),(some b1, .cells #[vL bQ a0.au.length bT] 24 (0,0))] w19:=BX
     replace oV:Rd (Kd.int .i64) h3 (rowA eP) s1:=oV.ext hs2
     replace iy:Rd Kd.bool h3 fQ v3:=iy.ext hs2
     have AL:=BI.nothing (.cells ([]:List Value).toArray 58 (0,0))
     obtain ⟨xx4,H,G4⟩:=bn H
     refine jB [14,69,70,71,72,73,74,75,76,77,78,79,80,81,82,83,84,85,86,87,88,89,90] (fun m us w'=>∃gX:Int,∃vg:List aZ,∃h4:View,∃(oP:Option Nat) (uS:Nat),∃(vk:List Value),Fit us (fun uy3=>[vI gX,(uy3 1),(uy3 2),(uy3 3),(uy3 4),(uy3 5),(uy3 6),(uy3 7),(uy3 8),(uy3 9),(uy3 10),(uy3 11),(uy3 12),(uy3 13),(uy3 14),(uy3 15),(uy3 16),(uy3 17),(uy3 18),(uy3 19),(uy3 20),(uy3 21),(uy3 22)])∧bH.l2 k a0 v3 xx3 m gX vg=some xx4∧gU bI h4 vg oP vg.length uS vk∧Rd (Kd.int .i64) h4 (rowA eP) s1∧Rd Kd.bool h4 fQ v3∧Rd (Kd.int .i64) h4 (rowA jZ) xx3∧St [] h0 w0 h4 [(oP, .cells (vk).toArray 58 (0,0)),(some b6, .cells #[vL (rowA oP) vg.length uS] 24 (0,0)),(some b2, .cells #[vL none 0 0,vL none 0 0,vL none 0 0,vI 0] 35 (0,0)),(some b1, .cells #[vL bQ a0.au.length bT] 24 (0,0))] w') (fun us w'=>∃(h6:View),∃(nZ:Option Nat) (tq:Nat),∃(zY:List Value),Fit us (fun uo3=>[(uo3 0),(uo3 1),(uo3 2),(uo3 3),(uo3 4),(uo3 5),(uo3 6),(uo3 7),(uo3 8),(uo3 9),(uo3 10),(uo3 11),(uo3 12),(uo3 13),(uo3 14),(uo3 15),(uo3 16),(uo3 17),(uo3 18),(uo3 19),(uo3 20),(uo3 21),(uo3 22)])∧gU bI h6 xx4 nZ xx4.length tq zY∧Rd (Kd.int .i64) h6 (rowA eP) s1∧Rd Kd.bool h6 fQ v3∧Rd (Kd.int .i64) h6 (rowA jZ) xx3∧St [] h0 w0 h6 [(nZ, .cells (zY).toArray 58 (0,0)),(some b6, .cells #[vL (rowA nZ) xx4.length tq] 24 (0,0)),(some b2, .cells #[vL none 0 0,vL none 0 0,vL none 0 0,vI 0] 35 (0,0)),(some b1, .cells #[vL bQ a0.au.length bT] 24 (0,0))] w') k ⟨0,([]:List aZ),h3,none,0,([]:List Value),(fit X),H,(gU.none' bI _).norm,oV,iy,D8,AL⟩ ?_ ?_
     ·rintro m us w20 ⟨gX,vg,h4,oP,uS,vk,Ve,H,yx,oV,iy,D8,yX⟩
      obtain ⟨uy3,rfl⟩:=unj Ve
      cases m with
      |zero=>exact absurd H (by simp [bH.l2])
      |succ m=>
       rw [bH.l2] at H
       try simp only [patch,sc0,sc1]
       refine Al<|Al<|Ao<|rs (vI gX) (aO X)<|rs (vL fQ v3.length gY) (aO X)<|rs (vI (v3.length:Int)) (jD X BT)<|rs (vB (decide (gX<(v3.length:Int)))) (bW X X X) ?_
       try simp only [sc0,sc1]
       refine aB<|ay<|Av (t:=(decide (gX<(v3.length:Int)))) X (fun c10=>?_) (fun c10=>?_)
       ·replace H:=bU H c10
        refine AN<|ay<|Al<|wp_block<|Al<|Ao<|rs (vL fQ v3.length gY) (aO X)<|rs (vI gX) (aO X) ?_
        obtain ⟨hi3,H⟩:=dN H
        obtain ⟨ad3,e3,IW⟩:=Ig iy hi3.1 hi3.2
        refine rs (Value.pointer (some (Addr.add ad3 (gX.toNat*1)))) (dP (sz:=1) X e3 X hi3.1 hi3.2 BT Bi)<|rs (vB (rd false v3 gX)) (kE X By (IW.cell0 yX.sees X)) ?_
        try simp only [sc0,sc1]
        refine aB<|ay<|Av (t:=(rd false v3 gX)) X (fun c11=>?_) (fun c11=>?_)
        ·replace H:=bU H c11
         refine mg [([79,80,81,82,83,84,85,86],[0,1,2,3,4,5,6,7]),([],[0,1]),([],[0,1]),([90],[11]),([],[])] [8,9,10,12] [[],[0],[],[2],[],[2,3,4],[2,3,4,5],[],[2,3,4,5,6,7],[2,3,4,5,6,7,8],[0,1,2,3,4,5,6,7,8,9],[0,1,2,3,4,5,6,7,8,9,10],[0,1,2,3,4,5,6,7,8,9,10,11]] rM (by kernel_rfl) ?_
         intro w21 hE7
         have Bh:=yX.step hE7
         obtain ⟨hi4,H⟩:=dN H
         obtain ⟨ad4,yA,y5,e4,Vg,TL,IX⟩:=gK (fK.ext Bh.sub) hi4.1 hi4.2
         refine iR [vP b6 0,vL (rowA oP) vg.length uS,vP b1 0,vL bQ a0.au.length bT,vI gX,Value.pointer (some (Addr.add ad4 (gX.toNat*7))),Value.agg #[vI ((rd ah a0.au gX).aA),vS ((rd ah a0.au gX).aF),vI ((rd ah a0.au gX).aY.aU),vB ((rd ah a0.au gX).aY.aJ),vI ((rd ah a0.au gX).bY),vI ((rd ah a0.au gX).vN),vL yA ((rd ah a0.au gX).ak).length y5],vL (rowA jZ) xx3.length pO] ?_ X X ?_
         ·try simp only [patch,sc0,sc1]
          exact bF (bG (v:=vP b6 0) X X X X (aH (n:=1) (o':=0) X AE X AM (by decide) X)) (bF (bG (v:=vL (rowA oP) vg.length uS) X X X X (aN X AR (Bh.look 1 X) X)) (bF (bG (v:=vP b1 0) X X X X (aH (n:=1) (o':=0) X AE X AM (by decide) X)) (bF (bG (v:=vL bQ a0.au.length bT) X X X X (aN X AR (Bh.look 3 X) X)) (bF (bG (v:=vI gX) X X X X (aO X)) (bF (bG (v:=Value.pointer (some (Addr.add ad4 (gX.toNat*7)))) X X X X (dP (sz:=7) X e4 X hi4.1 hi4.2 AF AH)) (bF (bG (v:=Value.agg #[vI ((rd ah a0.au gX).aA),vS ((rd ah a0.au gX).aF),vI ((rd ah a0.au gX).aY.aU),vB ((rd ah a0.au gX).aY.aJ),vI ((rd ah a0.au gX).bY),vI ((rd ah a0.au gX).vN),vL yA ((rd ah a0.au gX).ak).length y5]) X X X X (gG X A7 (Vg.sees Bh.sees) AH)) (bF (bG (v:=vL (rowA jZ) xx3.length pO) X X X X (aO X)) (iH))))))))
         try simp only [patch,sc0,sc1]
         obtain ⟨v4,H4,H⟩:=bn H
         refine dF X X (iQ Tryz.call38 X (jX (h:=h4) (R:=(fun hx u=>∃(ku:Option Addr) (kC:Nat),u=Value.agg #[vI v4.aA,vS v4.aF,vI v4.aY.aU,vB v4.aY.aJ,vI v4.bY,vI v4.vN,vL ku v4.ak.length kC]∧v4.ak.length≤kC∧Rd dw hx ku v4.ak)) (Ext.rfl' w21) ((fM.calls k (rd ah a0.au gX) xx3 yA y5 (rowA jZ) pO Bh.sees IX TL D8 uD.cap H4).mono ?_)) X) ?_
         ·rintro _ _ ⟨h1,ku,kC,rfl,wW,wX,g,ss,x⟩
          exact ⟨h1,_,X,⟨ku,kC,X,wW,wX⟩,g,ss,x⟩
         rintro w22 _ hE8 ⟨h5,⟨ku,kC,rfl,wW,wX⟩,gr2,se2⟩
         have IB:=Bh.view hE8 gr2 se2
         replace oV:Rd (Kd.int .i64) h5 (rowA eP) s1:=oV.ext gr2.1
         replace iy:Rd Kd.bool h5 fQ v3:=iy.ext gr2.1
         replace D8:Rd (Kd.int .i64) h5 (rowA jZ) xx3:=D8.ext gr2.1
         replace IW:mM h5 (Addr.add ad3 (gX.toNat*1)) [vB (rd false v3 gX)]:=IW.sub gr2.1
         replace Vg:mM h5 (Addr.add ad4 (gX.toNat*7)) [vI ((rd ah a0.au gX).aA),vS ((rd ah a0.au gX).aF),vI ((rd ah a0.au gX).aY.aU),vB ((rd ah a0.au gX).aY.aJ),vI ((rd ah a0.au gX).bY),vI ((rd ah a0.au gX).vN),vL yA ((rd ah a0.au gX).ak).length y5]:=Vg.sub gr2.1
         replace IX:Rd dw h5 yA ((rd ah a0.au gX).ak):=IX.ext gr2.1
         replace yx:=yx.view gr2.1
         refine lY ?_
         try simp only [sc0,sc1]
         refine iR [] ?_ X X ?_
         ·try simp only [patch,sc0,sc1]
          exact bF (bG (v:=vP b6 0) X X X X (aH (n:=1) (o':=0) X AE X AM (by decide) X)) (bF (bG (v:=vL (rowA oP) vg.length uS) X X X X (aN X AR (IB.look 1 X) X)) (iH))
         try simp only [patch,sc0,sc1]
         refine ng bI (xs:=([v4]:List aZ)) (n:=1) (cs:=[vI v4.aA,vS v4.aF,vI v4.aY.aU,vB v4.aY.aJ,vI v4.bY,vI v4.vN,vL ku v4.ak.length kC]) AF B0 A9 X X (by decide) (by decide) (by decide) [Value.agg #[vI v4.aA,vS v4.aF,vI v4.aY.aU,vB v4.aY.aJ,vI v4.bY,vI v4.vN,vL ku v4.ak.length kC]] (jd.trans X) X X X X (fH (qs:=[vI v4.aA,vS v4.aF,vI v4.aY.aU,vB v4.aY.aJ,vI v4.bY,vI v4.vN,vL ku v4.ak.length kC]) ⟨[vI v4.aA],[vS v4.aF,vI v4.aY.aU,vB v4.aY.aJ,vI v4.bY,vI v4.vN,vL ku v4.ak.length kC],X,X,⟨[vS v4.aF],[vI v4.aY.aU,vB v4.aY.aJ,vI v4.bY,vI v4.vN,vL ku v4.ak.length kC],X,X,⟨[vI v4.aY.aU,vB v4.aY.aJ],[vI v4.bY,vI v4.vN,vL ku v4.ak.length kC],X,⟨[vI v4.aY.aU],[vB v4.aY.aJ],X,X,X⟩,⟨[vI v4.bY],[vI v4.vN,vL ku v4.ak.length kC],X,X,⟨[vI v4.vN],[vL ku v4.ak.length kC],X,X,⟨ku,kC,X,wW,wX⟩⟩⟩⟩⟩⟩ (jc (cs:=[]))) IB ?_
         intro w23 b7 Ea ho7
         refine lY ?_
         try simp only [sc0,sc1]
         refine iR [] ?_ X X ?_
         ·try simp only [patch,sc0,sc1]
          exact bF (bG (v:=vP b6 0) X X X X (aH (n:=1) (o':=0) X AE X AM (by decide) X)) (bF (bG (v:=vL (rowA oP) vg.length uS) X X X X (aN X AR (Ea.look 2 X) X)) (iH))
         try simp only [patch,sc0,sc1]
         obtain ⟨hl4,H⟩:=dN H
         refine oD bI (q:=1) (cs:=vk) X X AF B0 A9 X (by decide) X (ni AF Ea (i:=0) X ho7 X) ho7.len (iC ho7) hl4 Ea X yx ?_
         intro w24 ob4 c12 cs4 LU ho8
         refine lY ?_
         try simp only [sc0,sc1]
         refine iR [vP b6 0] ?_ X X ?_
         ·try simp only [patch,sc0,sc1]
          exact bF (bG (v:=vP b6 0) X X X X (aH (n:=1) (o':=0) X AE X AM (by decide) X)) (iH)
         try simp only [patch,sc0,sc1]
         refine gJ (i:=2) (cs:=[vL (rowA oP) vg.length uS]) (cs':=[vL (rowA ob4) (vg.length+1) c12]) (vs:=[vL (rowA ob4) (vg.length+1) c12]) (bs':=[((some b7), .cells ([vI v4.aA,vS v4.aF,vI v4.aY.aU,vB v4.aY.aJ,vI v4.bY,vI v4.vN,vL ku v4.ak.length kC]).toArray 58 (0,0)),(ob4, .cells (cs4).toArray 58 (0,0)),(some b6, .cells #[vL (rowA ob4) (vg.length+1) c12] 24 (0,0)),(some b2, .cells #[vL none 0 0,vL none 0 0,vL none 0 0,vI 0] 35 (0,0)),(some b1, .cells #[vL bQ a0.au.length bT] 24 (0,0))]) X X AM X X (by decide) X LU X (Ax X) X X ?_
         intro w25 LV
         refine lY ?_
         try simp only [sc0,sc1]
         refine nU [] ?_ ?_
         ·try simp only [patch,sc0,sc1]
          exact iH
         try simp only [patch,sc0,sc1]
         refine dD<|ay<|Ao<|rs (vI gX) (aO X)<|rs (vI (w64 (gX+1))) (bW X X X)<|rs (vI (w64 (gX+1))) (aG X) ?_
         try simp only [sc0,sc1]
         refine aB ?_
         have KE:St [] h0 w0 h5 [((some b7), .cells ([vI v4.aA,vS v4.aF,vI v4.aY.aU,vB v4.aY.aJ,vI v4.bY,vI v4.vN,vL ku v4.ak.length kC]).toArray 58 (0,0)),(ob4, .cells (cs4).toArray 58 (0,0)),(some b6, .cells #[vL (rowA ob4) ((vg++([v4]:List aZ)).length) c12] 24 (0,0)),(some b2, .cells #[vL none 0 0,vL none 0 0,vL none 0 0,vI 0] 35 (0,0)),(some b1, .cells #[vL bQ a0.au.length bT] 24 (0,0))] w25:=LV.cast (by first|rfl|(rw [ho8.len];done)|(rw [ho8.len];rfl))
         have ho9:=ho8.norm
         refine gI m (Nat.lt_succ_self m) X ⟨(w64 (gX+1)),(vg++([v4]:List aZ)),h5,ob4,c12,cs4,(fit (by first|rfl|(rw [ho8.len];done)|(rw [ho8.len];rfl))),H,ho9.norm,oV,iy,D8,KE.tail⟩
        ·replace H:=cO H (nt c11)
         refine AN<|dD<|ay<|Ao<|rs (vI gX) (aO X)<|rs (vI (w64 (gX+1))) (bW X X X)<|rs (vI (w64 (gX+1))) (aG X) ?_
         try simp only [sc0,sc1]
         refine aB<|gI m (Nat.lt_succ_self m) X ⟨(w64 (gX+1)),vg,h4,oP,uS,vk,(fit X),H,yx.norm,oV,iy,D8,yX⟩
       ·replace H:=cO H (nt c10)
        refine Bx<|eU ?_
        obtain rfl:=Ab H
        refine iK X ⟨h4,oP,uS,vk,(fit X),yx.norm,oV,iy,D8,yX⟩
     ·rintro us w26 ⟨h6,nZ,tq,zY,Vf,GN,oV,iy,D8,MX⟩
      obtain ⟨uo3,rfl⟩:=unj Vf
      replace H:=G4
      clear G4
      try simp only [patch,sc0,sc1]
      refine ay<|Al<|Ao<|rs (Value.agg #[vL (rowA nZ) xx4.length tq]) (aT (n:=1) (vs:=[vL (rowA nZ) xx4.length tq]) X AI (MX.look 1 X) AD X X)<|rs (vL (rowA jZ) xx3.length pO) (aO X)<|rs (Value.agg #[vL (rowA nZ) xx4.length tq,vL (rowA jZ) xx3.length pO,vL none 0 0,vI 0]) (jy (cs:=[vL (rowA nZ) xx4.length tq,vL (rowA jZ) xx3.length pO,vL none 0 0,vI 0]) (ps:=[(0,Value.agg #[vL (rowA nZ) xx4.length tq]),(1,vL (rowA jZ) xx3.length pO)]) BS Bw (pl:=#[(0,1),(1,1),(2,1),(3,1)]) (fun w=>by simp [Tryz.sizeOf24,Tryz.sizeOf27,Tryz.sizeOf28]) (qp (show _=Value.agg #[vL (rowA nZ) xx4.length tq] from X) (show _=vL (rowA jZ) xx3.length pO from X)) X) ?_
      refine gJ (i:=2) (cs:=[vL none 0 0,vL none 0 0,vL none 0 0,vI 0]) (cs':=[vL (rowA nZ) xx4.length tq,vL (rowA jZ) xx3.length pO,vL none 0 0,vI 0]) (vs:=[vL (rowA nZ) xx4.length tq,vL (rowA jZ) xx3.length pO,vL none 0 0,vI 0]) (bs':=[(nZ, .cells (zY).toArray 58 (0,0)),(some b6, .cells #[vL (rowA nZ) xx4.length tq] 24 (0,0)),(some b2, .cells #[vL (rowA nZ) xx4.length tq,vL (rowA jZ) xx3.length pO,vL none 0 0,vI 0] 35 (0,0)),(some b1, .cells #[vL bQ a0.au.length bT] 24 (0,0))]) X X BE X X (by decide) X MX X (Ax X) X X ?_
      intro w27 LW
      try simp only [sc0,sc1]
      refine aB<|ay<|AT ?_
      obtain rfl:=Ab H
      refine Ay (bD X (kY X Ck (LW.look 2 X) BE X)) X ?_
      obtain ⟨h7,MZ,hs3,Yb⟩:=lC LW (i:=0) rfl GN
      replace oV:Rd (Kd.int .i64) h7 (rowA eP) s1:=oV.ext hs3
      replace iy:Rd Kd.bool h7 fQ v3:=iy.ext hs3
      replace D8:Rd (Kd.int .i64) h7 (rowA jZ) xx3:=D8.ext hs3
      exact ⟨h7,(rowA nZ),tq,(rowA jZ),pO,none,0,X,GN.cap,Yb,uD.cap,D8,(Nat.le_refl 0),(Rd.nil _ _ _),MZ.gr,MZ.sees,MZ.toE⟩
end Go.Proofs.YtfjppgobidjndaaGreatDoor
